/-
  watchtop.TopNames returns true for every process, rule and bounds, and each argument reads afterwards as it read before. The condition: the variables unicode/utf8.acceptRanges and unicode/utf8.first hold what the program's text lays (the walk reads neither).
-/
import Derived.Test.YteedlhkjaolahaaGreatDoorZ1
import Derived.Test.YteedlhkjaolahaaGreatDoorZ2
import Derived.Test.YteedlhkjaolahaaGreatDoorZ3
import Derived.Test.YteedlhkjaolahaaGreatDoorZ4
import Derived.Lib.Bytealg
import Derived.WalkKit
import Derived.RowKitTokens
import Derived.Test.YteedlhkjaolahaaGreatDoorProg
import Derived.OpenShut
import Derived.FnData
import Derived.LaidLaws
import Derived.LaidHandle
import Derived.Lay
import Derived.Stop.Joined
import Derived.Test.YteedlhkjaolahaaGreatDoorRows
import Derived.Test.YteedlhkjaolahaaGreatDoorTie
import Derived.Test.YteedlhkjaolahaaGreatDoorCards
namespace Go.Proofs.YteedlhkjaolahaaGreatDoor
set_option linter.unusedSimpArgs false
set_option linter.unusedVariables false
set_option maxRecDepth 100000
section
def Q1 (g:List (List Int)):List Int→Prop
 | []=>True
 | [_]=>True
 | x::y::r=>y∈g.getD x.toNat []∧Q1 g (y::r)
theorem Jl {g:List (List Int)} {y:Int}:∀{l:List Int} {x:Int},Q1 g (l++[x])→y∈g.getD x.toNat []→Q1 g (l++[x]++[y])
 | [],x,_,h=>⟨h,trivial⟩
 | [a],x,k,h=>⟨k.1,h,trivial⟩
 | a::b::r,x,k,h=>⟨k.1,Jl (l:=b::r) k.2 h⟩
theorem zbX {g:List (List Int)}:∀{l m:List Int} {x:Int},Q1 g (l++[x])→Q1 g (x::m)→Q1 g (l++x::m)
 | [],m,x,_,h=>h
 | [a],m,x,k,h=>⟨k.1,h⟩
 | a::b::r,m,x,k,h=>⟨k.1,zbX (l:=b::r) k.2 h⟩
def zaW (g:List (List Int)) (from_:List Int) (p:Pr):Prop:=(p.2=-1∧p.1∈from_)∨(0≤p.2∧p.1∈g.getD p.2.toNat [])
theorem zkI {g:List (List Int)} {from_:List Int}:∀(r:List Int) {M:List Pr},(∀p∈M,zaW g from_ p)→(∀x∈r,x∈from_)→∀p∈wSt r M,zaW g from_ p
 | [],M,h,_=>h
 | k::r,M,h,hr=>by
  rw[wSt]
  refine zkI r (λp hp=>?_) λx hx=>hr x (by simp[hx])
  split at hp
  ·rcases List.mem_append.1 hp with q|q
   ·exact h p q
   ·rw[List.mem_singleton] at q;subst q;exact .inl ⟨rfl,hr k zs⟩
  ·exact h p hp
theorem zgn {g:List (List Int)} {from_:List Int} {ok:Nat→Bool} {n:Int} (hn:0≤n):∀(r:List Int) {M:List Pr},(∀p∈M,zaW g from_ p)→(∀x∈r,x∈g.getD n.toNat [])→∀p∈Vc ok n r M,zaW g from_ p
 | [],M,h,_=>h
 | k::r,M,h,hr=>by
  rw[Vc]
  refine zgn hn r (λp hp=>?_) λx hx=>hr x (by simp[hx])
  split at hp
  ·rcases List.mem_append.1 hp with q|q
   ·exact h p q
   ·rw[List.mem_singleton] at q;subst q;exact .inr ⟨hn,hr k zs⟩
  ·exact h p hp
theorem zgF {g:List (List Int)} (xR:∀l∈g,xJ l g.length=true) {to ok:Nat→Bool} {from_:List Int}:∀(f h:Nat) (M:List Pr),ZO g ok from_ M→(∀p∈M,zaW g from_ p)→∀{M' h'},QY g to ok f h M=some (M',h')→∀p∈M',zaW g from_ p
 | 0,h,M,_,_,M',h',e=>by cases e
 | f+1,h,M,hI,hJ,M',h',e=>by
  rw[QY] at e
  split at e
  ·rename_i q
   split at e
   ·cases e;exact hJ
   ·have hr:=hI.rng _ (xH q)
    refine zgF xR f (h+1) _ (zdl (i0:=h) _ hI q rfl λx hx=>z1 (xa xR _) hx).1 (zgn ?_ _ hJ λx hx=>hx) e
    exact hr.1
  ·cases e
theorem zdM {g:List (List Int)} {ok:Nat→Bool} {from_:List Int} {M:List Pr} (h:ZO g ok from_ M) (hJ:∀p∈M,zaW g from_ p):∀(f t:Nat),t≤M.length→t≤f→0<t →
  ∃R,(uW M f (Xg M t)).reverse=R++[Xg M t]∧Q1 g (R++[Xg M t])∧∃x,(R++[Xg M t]).head? = some x∧x∈from_
 | 0,t,_,hf,h0=>zo
 | f+1,t,ht,hf,h0=>by
  obtain⟨t',k1,k2,k5,k3,k4⟩:=h.up h0 ht
  rw[uW,if_neg zo,k2,List.reverse_cons]
  have hp:=hJ _ (xH (show t-1<M.length by omega))
  have e1:(M.getD (t-1) (0,0)).1=Xg M t:=by unfold Xg;rw[if_neg zo];rfl
  unfold zaW at hp
  rw[k5,e1] at hp
  rcases Nat.eq_zero_or_pos t' with q|q
  ·subst q
   have ez:Xg M 0=-1:=rfl
   have e0:uW M f (Xg M 0)=[]:=by
    cases f with
    | zero=>rfl
    | succ f=>rw[uW,if_pos (by rw[ez];decide)]
   rw[e0]
   refine⟨[],rfl,trivial,_,rfl,?_⟩
   rcases hp with⟨_,hp⟩|⟨hp,_⟩
   ·exact hp
   ·rw[ez] at hp;omega
  ·obtain⟨R,r1,r2,x,r3,r4⟩:=zdM h hJ f t' zo zo q
   rw[r1]
   have hpos:0≤Xg M t':=by
    obtain⟨_,_,_,_,z,_⟩:=h.up q zo
    exact z
   refine⟨R++[Xg M t'],rfl,Jl r2 ?_,x,?_,r4⟩
   ·rcases hp with⟨hp,_⟩|⟨_,hp⟩
    ·omega
    ·exact hp
   ·cases R with
    | nil=>simpa using r3
    | cons a R=>simpa using r3
theorem ze7 {g:List (List Int)} (xR:∀l∈g,xJ l g.length=true) (to ok:Nat→Bool) {from_:List Int} (hf:xJ from_ g.length=true) (hne:XK g to ok from_≠[]) :
  ∃R y,XK g to ok from_=R++[y]∧to y.toNat=true∧Q1 g (R++[y])∧∃x,(R++[y]).head? = some x∧x∈from_:=by
 obtain⟨a,b,_⟩:=zhU (ok:=ok) (from_:=from_) from_ (ZO.none g ok from_) λx hx=>⟨hx,z1 hf hx⟩
 have hR:=zhD xR (to:=to) (ok:=ok) (g.length+1) 0 (wSt from_ []) a (Nat.zero_le _) zo b λi hi=>zo
 have hJ0:∀p∈wSt from_ [],zaW g from_ p:=zkI from_ zs λx hx=>hx
 unfold XK at hne ⊢
 cases e:QY g to ok (g.length+1) 0 (wSt from_ []) with
 | none=>rw[e] at hne;exact absurd rfl hne
 | some q =>
  obtain⟨M,h⟩:=q
  rw[e] at hR
  obtain⟨hI,hh,ht⟩:=hR
  have hJ:=zgF xR _ _ _ a hJ0 e
  have en:yL M h=Xg M (h+1):=by unfold Xg;rw[if_neg zo];rfl
  obtain⟨R,r1,r2,r3⟩:=zdM hI hJ (M.length+1) (h+1) zo zo zo
  dsimp only
  rw[en]
  exact⟨R,_,r1,by rw[←en];exact ht,r2,r3⟩
theorem zmy (R:List Int) (y:Int):yV (R++[y])=y:=zbZ R y
theorem zna {l:List Int} (h:l≠[]):∃R,l=R++[yV l]:=by
 refine⟨l.dropLast,?_⟩
 conv=>lhs;rw[←List.dropLast_concat_getLast h]
 congr 2
 unfold yV
 rw[List.getLast_eq_getElem,List.getD_eq_getElem?_getD,List.getElem?_eq_getElem (by have:=List.length_pos_iff.2 h;omega)]
 rfl
theorem zec {g:List (List Int)} {F:List (Nat→Bool)} {e:Nat} (H:RH g F e):∀k,k≤F.length→Q1 g (vY g F e k)∧(vY g F e k).head? = some (e:Int)∧∀j,j<k→∃x∈vY g F e k,(F.getD j noT) x.toNat=true
 | 0,_=>⟨trivial,rfl,λj hj=>zo⟩
 | k+1,hk=>by
  obtain⟨h1,h2,h3⟩:=zec H k zo
  obtain⟨o1,_⟩:=zdQ H k zo
  rw[vY]
  split
  ·rename_i q
   refine⟨h1,h2,λj hj=>?_⟩
   by_cases ej:j=k
   ·subst ej
    obtain⟨x,hx,hx2⟩:=List.any_eq_true.1 q
    exact⟨x,hx,hx2⟩
   ·exact h3 j zo
  ·have hS:F.getD k noT∈F:=by rw[List.getD_eq_getElem?_getD,List.getElem?_eq_getElem (show k<F.length by omega)];simp
   obtain⟨_,w2,_⟩:=o1.way H hS
   have hl:=o1.lt
   obtain⟨R,y,r1,r2,r3,x,r4,r5⟩:=ze7 H.xR (F.getD k noT) (Wg g (zE g e)) (from_:=[yV (vY g F e k)]) (wA λx hx=>by rw[List.mem_singleton] at hx;subst hx;exact hl) w2
   rw[List.mem_singleton] at r5
   subst r5
   obtain⟨B,hB⟩:=zna o1.ne
   rw[r1]
   cases R with
   | nil =>
    have ey:y=yV (vY g F e k):=by simpa using r4
    refine⟨by simpa using h1,by simpa using h2,λj hj=>?_⟩
    by_cases ej:j=k
    ·subst ej
     exact⟨y,by simp[ey,zbo o1.ne],r2⟩
    ·obtain⟨x,hx,hx2⟩:=h3 j zo
     exact⟨x,by simp[hx],hx2⟩
   | cons a R =>
    have ea:a=yV (vY g F e k):=by simpa using r4
    subst ea
    rw[List.cons_append,List.drop_succ_cons,List.drop_zero]
    refine⟨?_,?_,λj hj=>?_⟩
    ·rw[hB,List.append_assoc,List.singleton_append]
     rw[hB] at h1
     have:=zbX h1 (by rw[←zmy B (yV (vY g F e k)),←hB];exact r3)
     exact this
    ·rw[List.head?_append,h2];rfl
    ·by_cases ej:j=k
     ·subst ej
      exact⟨y,zs,r2⟩
     ·obtain⟨x,hx,hx2⟩:=h3 j zo
      exact⟨x,by simp[hx],hx2⟩
theorem zmV {g:List (List Int)} {F:List (Nat→Bool)} {e:Nat} (H:RH g F e):Q1 g (Uk g F e++[(e:Int)])∧(Uk g F e).head? = some (e:Int)∧∀j,j<F.length→∃x∈Uk g F e,(F.getD j noT) x.toNat=true:=by
 obtain⟨h1,h2,h3⟩:=zec H F.length (Nat.le_refl _)
 obtain⟨o1,_⟩:=zdQ H F.length (Nat.le_refl _)
 obtain⟨t1,t2,_⟩:=o1.home H
 obtain⟨R,y,r1,r2,r3,x,r4,r5⟩:=ze7 H.xR (toE e) (Wg g (zE g e)) t1 t2
 have r1':UK g (vY g F e F.length) e=R++[y]:=r1
 have hx:=List.mem_of_mem_take (List.mem_filter.1 r5).1
 have hy:y=(e:Int):=by
  have hr:=z1 (o1.home H).2.2.1 (x:=y) (by rw[r1'];simp)
  unfold toE at r2
  rw[beq_iff_eq] at r2
  omega
 subst hy
 obtain⟨B,hB⟩:=zna o1.ne
 have eR:Uk g F e=vY g F e F.length++R:=by unfold Uk;rw[r1'];simp
 refine⟨?_,?_,λj hj=>?_⟩
 ·rw[eR,List.append_assoc]
  cases hRy:R++[(e:Int)] with
  | nil=>simp at hRy
  | cons a m =>
   rw[hRy] at r3 r4
   have ea:a=x:=by simpa using r4
   subst ea
   have hx':a∈g.getD (yV (vY g F e F.length)).toNat []:=hx
   clear hx r5 eR r1' t1 t2 h2 h3 o1 r1
   generalize yV (vY g F e F.length)=z at *
   generalize vY g F e F.length=o at *
   rw[hB] at h1 ⊢
   have:=zbX (Jl h1 hx') (m:=m) r3
   simpa using this
 ·rw[eR,List.head?_append,h2];rfl
 ·obtain⟨x,hx,hx2⟩:=h3 j hj
  exact⟨x,by rw[eR];simp[hx],hx2⟩
end
section
open Go.RowKit
structure zxV (W:zA) (s:Nat→Int):Prop where
 start:s 0∈W.start
 next:∀i,s (i+1)∈W.next.getD (s i).toNat []
 fair:∀l∈W.fair,∀i,∃j,i≤j∧s j∈l
def ze4 (W:zA) (s:Nat→Int) (i:Nat):Int:=W.label.getD (s i).toNat 0
theorem znU {W:zA} (hW:zyN W) {t:Tree} (hw:t.wf zU) (h3:ZA t=0):qt W (qY t)=true↔∃s,zxV W s∧¬wx (ze4 W s) t 0:=by
 have hwn:(x6 4 t).wf zU:=zsW (.inl rfl) hw
 have hp:=zoj _ hwn
 have hI:=znb hp (zkW h3)
 have hT:=JH (zjW hp)
 have hS:=λw=>zxk hI hp hT w
 rw[zoG (zai hW.fits hW.yF hW.start hW.rows h3),zm3 h3]
 have hn:∀w,wx w (yj (x6 4 t)) 0↔¬wx w t 0:=λw=>by rw[zpe w _ hwn,zBE rfl rfl];rfl
 constructor
 ·rintro⟨s,r,⟨a1,a2⟩,⟨b1,b2⟩,c,d,e⟩
  exact⟨s,⟨a1,a2,d⟩,(hn _).1 ((hS (ze4 W s)).1 ⟨r,b1,b2,c,e⟩)⟩
 ·rintro⟨s,⟨a1,a2,d⟩,h⟩
  obtain⟨r,b1,b2,c,e⟩:=(hS (ze4 W s)).2 ((hn _).2 h)
  exact⟨s,r,⟨a1,a2⟩,⟨b1,b2⟩,c,d,e⟩
theorem zl1 {W:zA} {A:yl} (hb:UD W A) (ha:qt W A=true) {s l:List Int} (e:U6 W A (xj W A).1 (xj W A).2 (xn W A).2=.yP [.agg [zB s,zB l],.sc (.bool (qt W A)),.sc (.int .i64 0)]):l≠[]:=by
 obtain⟨hp,rfl,rfl⟩:=zk1 hb ha e
 obtain⟨_,_,_,h4⟩:=zfg hb hp
 obtain⟨_,h5,_⟩:=zmV h4
 intro h
 unfold qS at h
 rw[List.map_eq_nil_iff] at h
 rw[h] at h5
 cases h5
end
section
def chr (s:ByteArray) (p:Nat):Nat:=match s[p]? with
 | some b=>b.toNat
 | none=>0
def one (b:UInt8):ByteArray:=⟨#[b]⟩
section
variable (T:Nat→ByteArray) (names:List ByteArray) (all:Bool)
variable {T names all}
end
end
section
def y3 (c:Nat) (s:ByteArray) (p:Nat):Nat:=if p<s.size∧chr s p≠c then y3 c s (p+1) else p
termination_by s.size-p
theorem zbg {c:Nat} {s:ByteArray} {p:Nat} (h:p<s.size) (k:chr s p≠c):y3 c s p=y3 c s (p+1):=by rw[y3,if_pos ⟨h,k⟩]
theorem Vf {c:Nat} {s:ByteArray} {p:Nat} (h:p<s.size→chr s p=c):y3 c s p=p:=by rw[y3,if_neg λq=>q.2 (h q.1)]
theorem zij {c:Nat} {s:ByteArray}:∀(n p:Nat),s.size-p=n→p≤s.size→p≤y3 c s p∧y3 c s p≤s.size∧(y3 c s p<s.size→chr s (y3 c s p)=c)
 | 0,p,h,hp=>by rw[Vf λq=>zo];exact⟨zo,zo,λq=>zo⟩
 | n+1,p,h,hp=>by
  by_cases hc:chr s p=c
  ·rw[Vf λ_=>hc];exact⟨zo,zo,λ_=>hc⟩
  ·rw[zbg zo hc]
   have:=zij (c:=c) (s:=s) n (p+1) zo zo
   exact⟨zo,this.2.1,this.2.2⟩
theorem ze8 {c:Nat} {s:ByteArray} {p:Nat} (h:s.size≤p):y3 c s p=p:=Vf λq=>zo
theorem VL {c:Nat} {s:ByteArray} (p:Nat):p≤y3 c s p:=by
 rcases Nat.lt_or_ge s.size p with h|h
 ·rw[ze8 zo];omega
 ·exact(zij _ p rfl h).1
def Vy (s:ByteArray) (p:Nat):List ByteArray :=
 if h:y3 32 s p<s.size then s.extract p (y3 32 s p)::Vy s (y3 32 s p+1) else [s.extract p (y3 32 s p)]
termination_by s.size-p
decreasing_by have:=VL (c:=32) (s:=s) p;omega
theorem YG {s:ByteArray} {p:Nat} (h:y3 32 s p<s.size):Vy s p=s.extract p (y3 32 s p)::Vy s (y3 32 s p+1):=by rw[Vy,dif_pos h]
theorem YS {s:ByteArray} {p:Nat} (h:¬y3 32 s p<s.size):Vy s p=[s.extract p (y3 32 s p)]:=by rw[Vy,dif_neg h]
theorem zix (s:ByteArray) (p:Nat):0<(Vy s p).length:=by
 by_cases h:y3 32 s p<s.size
 ·rw[YG h];simp
 ·rw[YS h];simp
theorem znV (s:ByteArray):∀(n p:Nat),s.size-p=n→p≤s.size→(Vy s p).length≤s.size-p+1
 | n,p,h,hp=>by
  by_cases hc:y3 32 s p<s.size
  ·rw[YG hc]
   have h1:=VL (c:=32) (s:=s) p
   have:=znV s (s.size-(y3 32 s p+1)) (y3 32 s p+1) rfl zo
   simp only[List.length_cons];omega
  ·rw[YS hc];simp
termination_by n=>n
theorem zeP (s:ByteArray):∀(n p:Nat),s.size-p=n→p≤s.size→∀x∈Vy s p,x.size≤s.size
 | n,p,h,hp,x,hx=>by
  by_cases hc:y3 32 s p<s.size
  ·rw[YG hc] at hx
   rcases List.mem_cons.1 hx with rfl|hx
   ·rw[ByteArray.size_extract];omega
   ·have h1:=VL (c:=32) (s:=s) p
    exact zeP s (s.size-(y3 32 s p+1)) (y3 32 s p+1) rfl zo x hx
  ·rw[YS hc,List.mem_singleton] at hx
   subst hx
   rw[ByteArray.size_extract];omega
termination_by n=>n
def zmE:List ByteArray:=[⟨#[]⟩,⟨#[115,116,97,114,116]⟩,⟨#[101,110,100]⟩,⟨#[115,116,111,112]⟩,⟨#[116,97,115,107]⟩,⟨#[120,111,114]⟩,⟨#[97,110,100]⟩,⟨#[111,114]⟩]
def zah (k:Nat):ByteArray:=zmE.getD k ⟨#[]⟩
def zrn:ByteArray:=⟨#[102,108,111,119]⟩
def Z8 (w:ByteArray):Nat→Nat
 | 0=>0
 | n+1=>if Z8 w n≠0 then Z8 w n else if ZQ w (zah (n+1))=true then n+1 else 0
structure RdS where
 nodes:List (ByteArray × Int)
 zu:List (ByteArray × ByteArray × Int)
def w0 (w:List ByteArray) (i:Nat):ByteArray:=w.getD i ⟨#[]⟩
def zcz (st:RdS) (ln:ByteArray) (a:Int):Option RdS :=
 if ZQ (w0 (Vy ln 0) 0) zrn=true then
  if (Vy ln 0).length=3∧xd (w0 (Vy ln 0) 1)=true∧xd (w0 (Vy ln 0) 2)=true then some { st with zu:=st.zu++[(w0 (Vy ln 0) 1,w0 (Vy ln 0) 2,a)] } else none
 else if Z8 (w0 (Vy ln 0) 0) 7≠0 then
  if (Vy ln 0).length=2∧xd (w0 (Vy ln 0) 1)=true∧st.zu=[] then some { st with nodes:=st.nodes++[(w0 (Vy ln 0) 1,((Z8 (w0 (Vy ln 0) 0) 7:Nat):Int))] } else none
 else none
inductive RdA (α:Type) where
 | done (x:α)
 | bad (a:Int)
def zbr (s:ByteArray):Nat→Nat→Int→RdS→RdA RdS
 | 0,_,a,_=>.bad a
 | f+1,p,a,st =>
  if p<s.size then
   if y3 10 s p<s.size then
    match zcz st (s.extract p (y3 10 s p)) a with
    | some st'=>zbr s f (y3 10 s p+1) (a+1) st'
    | none=>.bad a
   else .bad a
  else .done st
def zcr (nodes:List (ByteArray × Int)) (x:ByteArray):Option Nat:=nodes.findIdx? λn=>ZQ n.1 x
def JQ (nodes:List (ByteArray × Int)):List (ByteArray × ByteArray × Int)→List (Int × Int)→RdA (List (Int × Int))
 | [],out=>.done out
 | (x,y,a)::r,out=>match zcr nodes x,zcr nodes y with
  | some i,some j=>JQ nodes r (out++[((i:Int),(j:Int))])
  | _,_=>.bad a
noncomputable def zkr (s:ByteArray):ze × Int × Int :=
 match zbr s (s.size+1) 0 1 ⟨[],[]⟩ with
 | .bad a=>(⟨[],[]⟩,a,3)
 | .done st=>match JQ st.nodes st.zu [] with
  | .bad a=>(⟨[],[]⟩,a,4)
  | .done fl=>if (ze.mk st.nodes fl).yF=0 then (⟨st.nodes,fl⟩,0,0) else (⟨[],[]⟩,0,(ze.mk st.nodes fl).yF)
end
section
open Go.RowKit
def uD:ze:=⟨[(⟨#[97]⟩,1),(⟨#[98]⟩,4),(⟨#[120]⟩,5),(⟨#[99]⟩,4),(⟨#[101]⟩,2)],[(0,1),(1,2),(2,1),(2,3),(3,4)]⟩
def twT:ByteArray:=⟨#[115,116,97,114,116,32,97,10,116,97,115,107,32,98,10,120,111,114,32,120,10,116,97,115,107,32,99,10,101,110,100,32,101,10,102,108,111,119,32,97,32,98,10,102,108,111,119,32,98,32,120,10,102,108,111,119,32,120,32,98,10,102,108,111,119,32,120,32,99,10,102,108,111,119,32,99,32,101,10]⟩
theorem zq7:uD.qF=0:=by decide +kernel
theorem zsv:∀i,i<uD.zu.length→uD.u4 i=true:=by decide +kernel
theorem zCo:∀i,i<uD.nodes.length→uD.ZV i=true:=by decide +kernel
theorem zsx:uD.vG uD.nodes.length=1:=by decide +kernel
theorem zwU:∀v,v<uD.nodes.length→uD.zhB v:=by
 have g:uD.graph uD.zu.length=[[1],[2],[1,3],[4],[]]:=by decide +kernel
 have e:uD.Zk uD.nodes.length=0:=by decide +kernel
 intro v hv
 unfold ze.zhB
 rw[g,e]
 have h0:WJ [[1],[2],[1,3],[4],[]] [0] 0:=.base (x:=0) zs
 have h1:WJ [[1],[2],[1,3],[4],[]] [0] 1:=.step (x:=1) h0 zc
 have h2:WJ [[1],[2],[1,3],[4],[]] [0] 2:=.step (x:=2) h1 zc
 have h3:WJ [[1],[2],[1,3],[4],[]] [0] 3:=.step (x:=3) h2 zc
 have h4:WJ [[1],[2],[1,3],[4],[]] [0] 4:=.step (x:=4) h3 zc
 have hv:v<5:=hv
 rcases (by omega:v=0∨v=1∨v=2∨v=3∨v=4) with rfl|rfl|rfl|rfl|rfl<;>assumption
theorem zq0:uD.yF=0:=by
 unfold ze.yF
 rw[if_neg zc,if_neg (by rw[zq7];decide),if_neg (λh=>h zsv),if_neg (by rw[zsx];decide),if_neg (λh=>h zCo),if_neg (λh=>h zwU)]
theorem X0:uD.yH=0∧uD.zJ=[(1,0,1),(1,2,1),(2,1,1),(2,1,2),(3,3,1),(4,4,0)]:=by
 have e:uD.vf uD.nodes.length=[(1,0,1),(1,2,1),(2,1,1),(2,1,2),(3,3,1),(4,4,0)]:=by decide +kernel
 have e0:uD.yH=0:=by unfold ze.yH;rw[if_neg (by rw[zq0];decide),e];rfl
 exact⟨e0,by unfold ze.zJ;rw[if_pos e0,e]⟩
theorem znc {M:List Int} (h:uD.vJ M=true):uD.uc M=0:=by
 unfold ze.uc
 rw[if_neg (by rw[X0.1];decide),if_pos h]
theorem zgc {M L:List Int} (h:uD.vJ M=true) (k:uD.Ya M [(1,0,1),(1,2,1),(2,1,1),(2,1,2),(3,3,1),(4,4,0)] 6=L):uD.Yh M=L:=by
 unfold ze.Yh
 rw[if_pos (znc h),X0.2]
 exact k
theorem Qu {M m:List Int} {k:Nat} {s:yk} (h:uD.vJ M=true) (hk:k<6) (hs:([(1,0,1),(1,2,1),(2,1,1),(2,1,2),(3,3,1),(4,4,0)]:List yk).getD k (0,0,0)=s) (hm:uD.UB M s=true) (h3:¬uD.kind s.1.toNat=3) (hf:∀f,f<uD.zu.length→¬9<uD.JU M s f) (hg:gl uD.zu.length (uD.JU M s)=m) :
  uD.Zf M (k:Int)=0∧uD.wy M (k:Int)=m:=by
 have e1:uD.qA M s=0:=by
  unfold ze.qA
  rw[if_neg h3,if_neg (λ⟨f,h1,h2⟩=>hf f h1 h2)]
 have e2:uD.X3 M s=m:=by
  unfold ze.X3
  rw[if_neg h3,if_pos e1,hg]
 have e3:uD.Zf M (k:Int)=0:=by
  unfold ze.Zf
  rw[if_neg (by rw[znc h];decide),X0.2,if_neg (by simp;omega),Int.toNat_natCast,hs,if_pos hm,e1]
 refine⟨e3,?_⟩
 unfold ze.wy
 rw[if_pos e3,X0.2,Int.toNat_natCast,hs,e2]
theorem Ye {P:ze} {tok:Int} {st n:Nat} {M m:List Int} {k:Int} {r:List Int} {marks:List (List Int)} {yR:List qC} {cur:List zO} {last:qC} (he:P.Zf M k=0∧P.wy M k=m) (hp:Y9 marks m tok st=0) :
  P.yT tok st n M (k::r) marks yR cur last=P.yT tok st n M r (ZB marks m tok st) (WE marks yR m tok st ((n:Int),k)) (cur++[(k,Vd marks m tok st)]) ((n:Int),k):=by
 rw[ze.yT,if_neg (by rw[he.1];decide),he.2,if_neg (by rw[hp];decide)]
theorem Vj {P:ze} {tok:Int} {st f n:Nat} {marks marks':List (List Int)} {yR org':List qC} {next:List (List zO)} {cur:List zO} {last last':qC} {M L:List Int} (hM:marks.getD n []=M) (hL:P.Yh M=L) (hn:n<marks.length) (hE:P.yT tok st n M L marks yR [] last=⟨0,marks',org',cur,last'⟩) :
  P.Z5 tok st (f+1) n marks yR next last=P.Z5 tok st f (n+1) marks' org' (next++[cur]) last':=by
 rw[ze.Z5,if_pos hn,hM,hL,hE,if_neg zs]
theorem zsU {P:ze} {tok:Int} {st f n:Nat} {marks:List (List Int)} {yR:List qC} {next:List (List zO)} {last:qC} (hn:¬n<marks.length):P.Z5 tok st (f+1) n marks yR next last=⟨0,marks,yR,next,last⟩:=by
 rw[ze.Z5,if_neg hn]
theorem zAH:uD.Yh [1,0,0,0,0]=[0]:=zgc (by decide +kernel) (by decide +kernel)
theorem zAq:uD.Zf [1,0,0,0,0] 0=0∧uD.wy [1,0,0,0,0] 0=[0,1,0,0,0]:=Qu (k:=0) (s:=(1,0,1)) (by decide +kernel) zc rfl (by decide +kernel) (by decide +kernel) (by decide +kernel) (by decide +kernel)
theorem zAT:uD.Yh [0,1,0,0,0]=[2,3]:=zgc (by decide +kernel) (by decide +kernel)
theorem zAl:uD.Zf [0,1,0,0,0] 2=0∧uD.wy [0,1,0,0,0] 2=[0,0,1,0,0]:=Qu (k:=2) (s:=(2,1,1)) (by decide +kernel) zc rfl (by decide +kernel) (by decide +kernel) (by decide +kernel) (by decide +kernel)
theorem zzA:uD.Zf [0,1,0,0,0] 3=0∧uD.wy [0,1,0,0,0] 3=[0,0,0,1,0]:=Qu (k:=3) (s:=(2,1,2)) (by decide +kernel) zc rfl (by decide +kernel) (by decide +kernel) (by decide +kernel) (by decide +kernel)
theorem zBl:uD.Yh [0,0,1,0,0]=[1]:=zgc (by decide +kernel) (by decide +kernel)
theorem zzc:uD.Zf [0,0,1,0,0] 1=0∧uD.wy [0,0,1,0,0] 1=[0,1,0,0,0]:=Qu (k:=1) (s:=(1,2,1)) (by decide +kernel) zc rfl (by decide +kernel) (by decide +kernel) (by decide +kernel) (by decide +kernel)
theorem zBD:uD.Yh [0,0,0,1,0]=[4]:=zgc (by decide +kernel) (by decide +kernel)
theorem zAD:uD.Zf [0,0,0,1,0] 4=0∧uD.wy [0,0,0,1,0] 4=[0,0,0,0,1]:=Qu (k:=4) (s:=(3,3,1)) (by decide +kernel) zc rfl (by decide +kernel) (by decide +kernel) (by decide +kernel) (by decide +kernel)
theorem zzP:uD.Yh [0,0,0,0,1]=[5]:=zgc (by decide +kernel) (by decide +kernel)
theorem zzV:uD.Zf [0,0,0,0,1] 5=0∧uD.wy [0,0,0,0,1] 5=[0,0,0,0,0]:=Qu (k:=5) (s:=(4,4,0)) (by decide +kernel) zc rfl (by decide +kernel) (by decide +kernel) (by decide +kernel) (by decide +kernel)
theorem zAM:uD.Yh [0,0,0,0,0]=[]:=zgc (by decide +kernel) (by decide +kernel)
theorem zsT:uD.x0=[1,0,0,0,0]:=by
 unfold ze.x0
 rw[if_pos X0.1]
 decide +kernel
theorem zsM:(uD.QX 1 20).e=0∧(uD.QX 1 20).next=[[(0,1)],[(2,2),(3,3)],[(1,1)],[(4,4)],[(5,5)],[]]:=by
 unfold ze.QX
 rw[zsT]
 rw[Vj (f:=200) (M:=[1,0,0,0,0]) (marks':=[[1,0,0,0,0],[0,1,0,0,0]]) (org':=[(-1,-1),(0,0)]) (cur:=[(0,1)]) (last':=(0,0)) rfl zAH zc (by
  rw[Ye zAq (by decide +kernel)]
  kernel_rfl)]
 rw[Vj (f:=199) (M:=[0,1,0,0,0]) (marks':=[[1,0,0,0,0],[0,1,0,0,0],[0,0,1,0,0],[0,0,0,1,0]]) (org':=[(-1,-1),(0,0),(1,2),(1,3)]) (cur:=[(2,2),(3,3)]) (last':=(1,3)) rfl zAT zc (by
  rw[Ye zAl (by decide +kernel),Ye zzA (by decide +kernel)]
  kernel_rfl)]
 rw[Vj (f:=198) (M:=[0,0,1,0,0]) (marks':=[[1,0,0,0,0],[0,1,0,0,0],[0,0,1,0,0],[0,0,0,1,0]]) (org':=[(-1,-1),(0,0),(1,2),(1,3)]) (cur:=[(1,1)]) (last':=(2,1)) rfl zBl zc (by
  rw[Ye zzc (by decide +kernel)]
  kernel_rfl)]
 rw[Vj (f:=197) (M:=[0,0,0,1,0]) (marks':=[[1,0,0,0,0],[0,1,0,0,0],[0,0,1,0,0],[0,0,0,1,0],[0,0,0,0,1]]) (org':=[(-1,-1),(0,0),(1,2),(1,3),(3,4)]) (cur:=[(4,4)]) (last':=(3,4)) rfl zBD zc (by
  rw[Ye zAD (by decide +kernel)]
  kernel_rfl)]
 rw[Vj (f:=196) (M:=[0,0,0,0,1]) (marks':=[[1,0,0,0,0],[0,1,0,0,0],[0,0,1,0,0],[0,0,0,1,0],[0,0,0,0,1],[0,0,0,0,0]]) (org':=[(-1,-1),(0,0),(1,2),(1,3),(3,4),(4,5)]) (cur:=[(5,5)]) (last':=(4,5)) rfl zzP zc (by
  rw[Ye zzV (by decide +kernel)]
  kernel_rfl)]
 rw[Vj (f:=195) (M:=[0,0,0,0,0]) (marks':=[[1,0,0,0,0],[0,1,0,0,0],[0,0,1,0,0],[0,0,0,1,0],[0,0,0,0,1],[0,0,0,0,0]]) (org':=[(-1,-1),(0,0),(1,2),(1,3),(3,4),(4,5)]) (cur:=[]) (last':=(4,5)) rfl zAM zc (by
  kernel_rfl)]
 rw[zsU (f:=194) zc]
 exact⟨rfl,rfl⟩
theorem zmY:uD.VX 1 20=0∧uD.Z2 1 20=[[(0,1)],[(2,2),(3,3)],[(1,1)],[(4,4)],[(5,5)],[]]:=by
 have e:uD.VX 1 20=0:=by
  unfold ze.VX
  rw[if_neg (by rw[X0.1];decide),if_neg (by unfold ze.zeJ;decide)]
  exact zsM.1
 refine⟨e,?_⟩
 unfold ze.Z2
 rw[if_pos e]
 exact zsM.2
theorem zvj:Vx uD 1 20=⟨[0],[[1,2],[3],[4],[1,2],[5],[6],[6]],[2,4,4,2,8,16,9223372036854775808],[[0,1,2,3,4,5,6],[0,1,2,3,4,5,6],[0,1,3,4,5,6],[0,2,3,4,5,6],[0,1,2,3,4,5,6],[0,1,2,3,4,5,6]]⟩:=by
 unfold Vx
 rw[zmY.2,X0.2]
 kernel_rfl
theorem zsC:xY (uD.Z2 1 20) (uD.Z2 1 20).length≤600:=by
 rw[zmY.2]
 decide +kernel
theorem Qg:zyN (Vx uD 1 20):=zmH zmY.1 zsC
def twX:qV:=⟨5,1,3,1,0,0,0⟩
def twY:qV:=⟨3,1,3,0,0,0,0⟩
theorem tw_X:vg twX=u9 6 (u9 8 (x6 4 (vE 3 3)) (vE 3 1)) (x6 11 (x6 4 (vE 3 3))):=by kernel_rfl
theorem tw_Y:vg twY=x6 10 (vE 3 3):=by kernel_rfl
theorem zDB:vK [⟨#[97]⟩,⟨#[98]⟩,⟨#[120]⟩,⟨#[99]⟩,⟨#[101]⟩] ⟨#[114]⟩ 1 twX 0 0 0 0 (vE 0 0) (vE 0 0)=0:=by decide +kernel
theorem zC6:vK [⟨#[97]⟩,⟨#[98]⟩,⟨#[120]⟩,⟨#[99]⟩,⟨#[101]⟩] ⟨#[114]⟩ 1 twY 0 0 0 0 (vE 0 0) (vE 0 0)=0:=by decide +kernel
theorem zyr:zfQ twX=0:=by decide +kernel
theorem zxT:zfQ twY=0:=by decide +kernel
theorem zyp:ZA (vg twX)=0:=by
 have h:=u7 (partsOf (yj (x6 4 (vg twX)))) []
 have h1:(partsOf (yj (x6 4 (vg twX)))).length=2:=by decide +kernel
 have h2:(Xi (yg (yj (x6 4 (vg twX))))).length=2:=by decide +kernel
 unfold ZA
 rw[if_pos (by decide +kernel),if_neg (by simp only[List.length_nil] at h;omega)]
theorem zyn:ZA (vg twY)=0:=by decide +kernel
theorem zys {x:qV} (h:zfQ x=0):(vg x).wf zU:=by
 unfold zfQ at h
 split at h
 ·exact((ZU _ _).1 h).2.2
 ·rename_i q;exact absurd h q
theorem zxw:qt (Vx uD 1 20) (qY (vg twX))=false:=by
 rw[Bool.eq_false_iff,ne_eq,znU Qg (zys zyr) zyp]
 rintro⟨s,⟨h0,_,_⟩,h⟩
 apply h
 rw[zvj] at h0
 have h0:s 0=0:=by simpa using h0
 rw[tw_X,zyA rfl rfl]
 refine .inl ((zqY rfl rfl).2 ⟨0,Nat.le_refl _,(zvK rfl).2 ?_,λm a b=>zo⟩)
 unfold ze4
 rw[zvj,h0]
 decide
def twS (i:Nat):Int:=if i=0 then 0 else if i%2=1 then 1 else 3
theorem znw {i:Nat} (h:i%2=1):twS i=1:=by
 have h0:¬i=0:=zo
 unfold twS
 rw[if_neg h0,if_pos h]
theorem zdz {i:Nat} (h0:¬i=0) (h:¬i%2=1):twS i=3:=by
 unfold twS
 rw[if_neg h0,if_neg h]
theorem zwi:zxV (Vx uD 1 20) twS:=by
 rw[zvj]
 refine⟨zc,λi=>?_,λl hl i=>?_⟩
 ·by_cases h0:i=0
  ·subst h0;decide
  ·by_cases h1:i%2=1
   ·rw[znw h1,zdz (i:=i+1) zo zo];decide
   ·rw[zdz h0 h1,znw (i:=i+1) zo];decide
 ·refine⟨2*i+2,zo,?_⟩
  have:twS (2*i+2)=3:=zdz zo zo
  rw[this]
  revert l
  decide
theorem znA:qt (Vx uD 1 20) (qY (vg twY))=true:=by
 rw[znU Qg (zys zxT) zyn]
 refine⟨twS,zwi,λh=>?_⟩
 rw[tw_Y,zxX rfl rfl] at h
 obtain⟨j,_,h⟩:=h
 have h:=(zvK rfl).1 h
 unfold ze4 at h
 rw[zvj] at h
 have hs:twS j=0∨twS j=1∨twS j=3:=by
  unfold twS
  split
  ·exact .inl rfl
  ·split
   ·exact .inr (.inl rfl)
   ·exact .inr (.inr rfl)
 rcases hs with e|e|e<;>rw[e] at h<;>revert h<;>decide
theorem zvq:zkr twT=(uD,0,0):=by
 have e1:zbr twT (twT.size+1) 0 1 ⟨[],[]⟩=.done ⟨[(⟨#[97]⟩,1),(⟨#[98]⟩,4),(⟨#[120]⟩,5),(⟨#[99]⟩,4),(⟨#[101]⟩,2)],[(⟨#[97]⟩,⟨#[98]⟩,6),(⟨#[98]⟩,⟨#[120]⟩,7),(⟨#[120]⟩,⟨#[98]⟩,8),(⟨#[120]⟩,⟨#[99]⟩,9),(⟨#[99]⟩,⟨#[101]⟩,10)]⟩:=by kernel_rfl
 have e2:JQ [(⟨#[97]⟩,1),(⟨#[98]⟩,4),(⟨#[120]⟩,5),(⟨#[99]⟩,4),(⟨#[101]⟩,2)] [(⟨#[97]⟩,⟨#[98]⟩,6),(⟨#[98]⟩,⟨#[120]⟩,7),(⟨#[120]⟩,⟨#[98]⟩,8),(⟨#[120]⟩,⟨#[99]⟩,9),(⟨#[99]⟩,⟨#[101]⟩,10)] []=.done [(0,1),(1,2),(2,1),(2,3),(3,4)]:=by kernel_rfl
 unfold zkr
 rw[e1]
 dsimp only
 rw[e2]
 dsimp only
 exact if_pos zq0
end
section
open Go.RowKit
def J4 (s:ByteArray) (p:Nat):ByteArray:=s.extract p s.size
theorem zff {s:ByteArray} {p:Nat} (h:p≤s.size):(J4 s p).size=s.size-p:=by unfold J4;rw[ByteArray.size_extract];omega
theorem ziY (s:ByteArray):J4 s 0=s:=by unfold J4;exact ByteArray.extract_zero_size
theorem zry (s:ByteArray) (p:Nat):(J4 s p).data.toList=s.data.toList.drop p:=by
 unfold J4
 rw[ByteArray.data_extract,Array.toList_extract]
 simp[List.extract,List.take_of_length_le]
theorem zhh {s:ByteArray} {p m:Nat} (h:p+m≤s.size):(J4 s p).extract 0 m=s.extract p (p+m):=by
 unfold J4
 rw[ByteArray.extract_extract]
 congr 1<;>omega
theorem zkQ {s:ByteArray} {p m:Nat} (h:p+m≤s.size):(J4 s p).extract m (s.size-p)=J4 s (p+m):=by
 unfold J4
 rw[ByteArray.extract_extract]
 congr 1
 omega
theorem znx {s:ByteArray} {p:Nat} (h:p<s.size):∃b,s[p]? = some b∧s.data.toList.drop p=b::s.data.toList.drop (p+1):=by
 have hl:p<s.data.toList.length:=by simpa using h
 exact⟨s[p],by simp[getElem?_pos,h],by rw[List.drop_eq_getElem_cons hl];rfl⟩
theorem zn4 (b c:UInt8):(b==c)=decide (b.toNat=c.toNat):=by
 by_cases h:b=c
 ·subst h;simp
 ·have:b.toNat≠c.toNat:=λe=>h (UInt8.toNat.inj e)
  simp[h,this]
theorem zaD (c:UInt8) (s:ByteArray):∀(n p:Nat),s.size-p=n→p≤s.size→Lib.indexByte (s.data.toList.drop p) c=if y3 c.toNat s p<s.size then ((y3 c.toNat s p-p:Nat):Int) else -1
 | 0,p,h,hp=>by
  have:s.data.toList.drop p=[]:=List.drop_of_length_le (by simp;omega)
  rw[this,ze8 zo,if_neg zo]
  rfl
 | n+1,p,h,hp=>by
  obtain⟨b,hb,e⟩:=znx (s:=s) (p:=p) zo
  have hc:chr s p=b.toNat:=by simp only[chr,hb]
  rw[e]
  simp only[Lib.indexByte]
  rw[zaD c s n (p+1) zo zo,zn4]
  by_cases hq:b.toNat=c.toNat
  ·have e1:y3 c.toNat s p=p:=Vf λ_=>by rw[hc,hq]
   rw[e1,if_pos (show p<s.size by omega),if_pos (by simpa using hq)]
   simp
  ·have e1:y3 c.toNat s p=y3 c.toNat s (p+1):=zbg zo (by rw[hc];exact hq)
   have hg:=VL (c:=c.toNat) (s:=s) (p+1)
   rw[e1,if_neg (show ¬decide (b.toNat=c.toNat)=true by simpa using hq)]
   by_cases h3:y3 c.toNat s (p+1)<s.size
   ·rw[if_pos h3,if_pos h3,if_neg zs];omega
   ·rw[if_neg h3,if_neg h3];simp
theorem zj5 (s:ByteArray):∀(n p:Nat),s.size-p=n→p≤s.size→Lib.countByte (s.data.toList.drop p) 32+1=(Vy s p).length
 | 0,p,h,hp=>by
  have:s.data.toList.drop p=[]:=List.drop_of_length_le (by simp;omega)
  rw[this,YS (by rw[ze8 zo];omega)]
  rfl
 | n+1,p,h,hp=>by
  obtain⟨b,hb,e⟩:=znx (s:=s) (p:=p) zo
  have hc:chr s p=b.toNat:=by simp only[chr,hb]
  have ih:=zj5 s n (p+1) zo zo
  rw[e]
  unfold Lib.countByte at ih ⊢
  rw[List.count_cons,zn4]
  by_cases hq:b.toNat=(32:UInt8).toNat
  ·have hq':chr s p=32:=by rw[hc,hq];rfl
   have e1:y3 32 s p=p:=Vf λ_=>hq'
   rw[YG (by rw[e1];omega),e1,List.length_cons,←ih]
   simp[hq]
  ·have hq':chr s p≠32:=by rw[hc];exact hq
   have e1:=zbg (s:=s) (p:=p) zo hq'
   rw[if_neg (by simpa using hq),Nat.add_zero,ih]
   by_cases h3:y3 32 s p<s.size
   ·rw[YG h3,YG (p:=p+1) (by rw[←e1];exact h3),e1];rfl
   ·rw[YS h3,YS (p:=p+1) (by rw[←e1];exact h3)];rfl
theorem zel (s:ByteArray) (c:UInt8):zn Tryz.prog 216 [.sc (.string s),.sc (.string ⟨#[c]⟩)] (.sc (.int .i64 (Lib.countByte s.data.toList c:Nat))) where
 ok:=⟨_,Tryz.func216,by kernel_rfl,by kernel_rfl⟩
 run J F w vs hF hR:=by
  simp only[yi,rep] at hR
  obtain⟨v,us,rfl,rfl,v2,us2,rfl,rfl,rfl⟩:=hR
  have h58:=@run_callFunc_extern Tryz.prog 234 _ Extern.BytealgCount.count Tryz.func234 (by kernel_rfl) (by kernel_rfl) (by kernel_rfl) (by kernel_rfl)
  have h59:=@Lib.run_countString Tryz.prog s
  have e1:(⟨#[c]⟩:ByteArray).size=1:=rfl
  have e2:(⟨#[c]⟩:ByteArray)[0]? = some c:=rfl
  go_enter Tryz.func216,Tryz.ntmps216
  go_wp2
  go_ret
  refine⟨_,F,rfl,hF.lt,?_,Ext.refl _ _ _⟩
  simp only[rep]
  rfl
def zid (c:UInt8):ByteArray:=⟨#[c]⟩
def ztl (c:UInt8) (s:ByteArray) (p:Nat):Int:=if y3 c.toNat s p<s.size then ((y3 c.toNat s p-p:Nat):Int) else -1
theorem Jn (s:ByteArray) (c:UInt8):zn Tryz.prog 168 [.sc (.string s),.sc (.string ⟨#[c]⟩)] (.sc (.int .i64 (Lib.indexByte s.data.toList c))) where
 ok:=⟨_,Tryz.func168,by kernel_rfl,by kernel_rfl⟩
 run J F w vs hF hR:=by
  simp only[yi,rep] at hR
  obtain⟨v,us,rfl,rfl,v2,us2,rfl,rfl,rfl⟩:=hR
  have h58:=@run_callFunc_extern Tryz.prog 230 _ Extern.BytealgIndexByte.indexByte Tryz.func230 (by kernel_rfl) (by kernel_rfl) (by kernel_rfl) (by kernel_rfl)
  have h59:=@Lib.run_indexByteString Tryz.prog s
  have e1:(⟨#[c]⟩:ByteArray).size=1:=rfl
  have e2:(⟨#[c]⟩:ByteArray)[0]? = some c:=rfl
  go_enter Tryz.func168,Tryz.ntmps168
  go_wp2
  ·rename_i h
   have h:s.data.toList=[c]:=by
    rw[ByteArray.toList_eq] at h
    exact(by simpa using h:[c]=s.data.toList).symm
   go_ret
   refine⟨_,F,rfl,hF.lt,?_,Ext.refl _ _ _⟩
   simp only[rep]
   show Value.int IntKind.i64 0=_
   rw[h]
   simp[Lib.indexByte]
  ·go_ret
   refine⟨_,F,rfl,hF.lt,?_,Ext.refl _ _ _⟩
   simp only[rep]
   rfl
theorem Wo (c:UInt8) (s:ByteArray) (p:Nat) (hp:p≤s.size):zn Tryz.prog 168 [.sc (.string (J4 s p)),.sc (.string (zid c))] (.sc (.int .i64 (ztl c s p))):=by
 have hI:=Jn (J4 s p) c
 rwa [zry,zaD _ s _ p rfl hp] at hI
def c101:PC:=.seq (OP [Mv 4 (cS #[]),Mv 5 (cS #[]),Mv 6 cF]) (.seq (.seq (OP [qm 8 0,qm 9 1,Ca 10 168 [8,9],qm 7 10]) (.seq (OP [qm 11 7,Bi 12 .geq 11 (cI 0)]) (.cond 12 (.seq (.ops [qm 13 0,qm 14 7,qd 15 (.zmv 13 none (some 14)) 3,qm 16 0,qm 17 7,qm 18 1,qd 19 (.zir 18) 32,qd 20 (.bin .add 17 19) 112,qd 21 (.zmv 16 (some 20) none) 248,qw 4 15 7,qw 5 21 1023,qd 6 (.move cT) 2047] true) .ret) .skip))) (.seq (OP [qm 22 0,qm 4 22,Mv 5 (cS #[]),Mv 6 cF]) .ret))
theorem zv9:zv Tryz.prog 101 23 [.tmp 4,.tmp 5,.tmp 6] c101:=fK Tryz.func101
theorem zcN (c:UInt8) (s:ByteArray) (hs:s.size≤1000000000) (p:Nat) (hp:p≤s.size):zn Tryz.prog 101 [.sc (.string (J4 s p)),.sc (.string (zid c))]
  (if y3 c.toNat s p<s.size then .yP [.sc (.string (s.extract p (y3 c.toNat s p))),.sc (.string (J4 s (y3 c.toNat s p+1))),.sc (.bool true)] else .yP [.sc (.string (J4 s p)),.sc (.string ⟨#[]⟩),.sc (.bool false)]):=by
 refine za zv9 zs (by simp[zb,Pure]) ?_ (by split<;>simp[zb,Pure])
 have hI:=Wo c s p hp
 have hg:=VL (c:=c.toNat) (s:=s) p
 have hz:=zff hp
 refine sR ?_
 refine sC hI ?_
 by_cases h:y3 c.toNat s p<s.size
 ·rw[if_pos h]
  rw[show ztl c s p=((y3 c.toNat s p-p:Nat):Int) from if_pos h]
  refine sW ?_
  refine⟨zo,zo,zo,?_⟩
  refine sW ?_
  have hcs:(zid c).size=1:=rfl
  refine .inl ⟨by(unfold JL;rw[IntKind.wrap_i64];omega),?_⟩
  refine sW ?_
  refine⟨zo,zo,zo,?_⟩
  refine sW ?_
  refine zR ?_
  have e1:=zhh (s:=s) (p:=p) (m:=y3 c.toNat s p-p) zo
  have e2:=zkQ (s:=s) (p:=p) (m:=y3 c.toNat s p-p+1) zo
  rw[show p+(y3 c.toNat s p-p)=y3 c.toNat s p by omega] at e1
  rw[show p+(y3 c.toNat s p-p+1)=y3 c.toNat s p+1 by omega] at e2
  rw[hz,hcs,Int.toNat_natCast,show(((y3 c.toNat s p-p:Nat):Int)+(1:Nat)).toNat=y3 c.toNat s p-p+1 by omega,e1,e2]
 ·rw[if_neg h]
  rw[show ztl c s p=-1 from if_neg h]
  refine sW ?_
  exact sP
def c48:PC:=.seq (OP [Mv 4 (cS #[]),Mv 5 (cS #[]),Mv 6 cF]) (.seq (OP [qm 7 0,qm 8 1,Ca 9 101 [7,8],Xt 10 0 9,Xt 11 1 9,Xt 12 2 9,qm 4 10,qm 5 11,qm 6 12]) .ret)
theorem ztm:zv Tryz.prog 48 13 [.tmp 4,.tmp 5,.tmp 6] c48:=fK Tryz.func48
theorem zky (c:UInt8) (s:ByteArray) (hs:s.size≤1000000000) (p:Nat) (hp:p≤s.size):zn Tryz.prog 48 [.sc (.string (J4 s p)),.sc (.string (zid c))]
  (if y3 c.toNat s p<s.size then .yP [.sc (.string (s.extract p (y3 c.toNat s p))),.sc (.string (J4 s (y3 c.toNat s p+1))),.sc (.bool true)] else .yP [.sc (.string (J4 s p)),.sc (.string ⟨#[]⟩),.sc (.bool false)]):=by
 have hC:=zcN c s hs p hp
 by_cases h:y3 c.toNat s p<s.size
 ·rw[if_pos h] at hC ⊢
  refine za ztm zs (by simp[zb,Pure]) ?_ (by simp[zb,Pure])
  refine sR ?_
  refine sC hC ?_
  exact .refl _
 ·rw[if_neg h] at hC ⊢
  refine za ztm zs (by simp[zb,Pure]) ?_ (by simp[zb,Pure])
  refine sR ?_
  refine sC hC ?_
  exact .refl _
def c217:PC:=.seq (OP [Mv 4 (cI 0)]) (.seq (OP [qm 5 0,qm 6 1,Ca 7 168 [5,6],qm 4 7]) .ret)
theorem zuI:zv Tryz.prog 217 8 [.tmp 4] c217:=fK Tryz.func217
theorem zfz (c:UInt8) (s:ByteArray) (p:Nat) (hp:p≤s.size):zn Tryz.prog 217 [.sc (.string (J4 s p)),.sc (.string (zid c))] (.sc (.int .i64 (ztl c s p))):=by
 refine za zuI zs (by simp[zb,Pure]) ?_ (by simp[Pure])
 refine sR ?_
 refine sC (Wo c s p hp) ?_
 exact .refl _
def qz (x:ByteArray):List D:=[.sc (.string x)]
theorem zmJ (l:List ByteArray):xf l=.xl 1 (l.map qz):=rfl
theorem zjN {L:List ByteArray} {i N:Nat} {x:ByteArray} {r:List ByteArray} (hN:L.length=N) (hd:L.drop i=x::r) :
  (((L.take i).map qz++List.replicate (N-i) (qz ⟨#[]⟩)).set i (qz x))=(L.take (i+1)).map qz++List.replicate (N-(i+1)) (qz ⟨#[]⟩)∧L.drop (i+1)=r∧i<N:=by
 have hi:i<L.length:=by
  rcases Nat.lt_or_ge i L.length with h|h
  ·exact h
  ·rw[List.drop_of_length_le h] at hd;cases hd
 rw[List.drop_eq_getElem_cons hi] at hd
 obtain⟨h1,h2⟩:=List.cons.inj hd
 refine⟨?_,h2,zo⟩
 rw[List.set_append_right _ _ (by simp;omega),show N-i=(N-(i+1))+1 by omega,List.replicate_succ]
 rw[List.take_succ_eq_append_getElem hi,List.map_append,h1]
 simp[show i-min i L.length=0 by omega]
def zBz:PC:=.seq (.seq (OP [qm 34 10,qm 35 3,Bi 36 .lss 34 35]) (.cond 36 .skip (.exit 0))) (.block 1 (.seq (OP [qm 37 0,qm 38 1,Ca 39 217 [37,38],qm 11 39]) (.seq (.seq (OP [qm 40 11,Bi 41 .lss 40 (cI 0)]) (.cond 41 (.exit 0) .skip)) (.seq (OP [qm 42 9,qm 43 10,qm 44 0,qm 45 11,qm 46 2,Bi 47 .add 45 46,q 48 (.zmv 44 none (some 47)),Ia 49 1 42 43,So 1 49 48]) (.seq (OP [qm 50 0,qm 51 11,qm 52 1,q 53 (.zir 52),Bi 54 .add 51 53,q 55 (.zmv 50 (some 54) none),qm 0 55]) (OP [qm 56 10,Bi 57 .add 56 (cI 1),qm 10 57]))))))
def c169:PC:=.seq (OP [Mv 8 cN]) (.seq (.seq (OP [qm 12 3,Bi 13 .eql 12 (cI 0)]) (.cond 13 (.seq (OP [Mv 8 cN]) .ret) .skip)) (.seq (.seq (OP [qm 14 1,Bi 15 .eql 14 (cS #[])]) (.cond 15 (.seq (OP [qm 16 0,qm 17 3,Ca 18 215 [16,17],qm 8 18]) .ret) .skip)) (.seq (.seq (OP [qm 19 3,Bi 20 .lss 19 (cI 0)]) (.cond 20 (OP [qm 21 0,qm 22 1,Ca 23 216 [21,22],Bi 24 .add 23 (cI 1),qm 3 24]) .skip)) (.seq (OP [qm 25 3,qm 26 0,q 27 (.zir 26),Bi 28 .add 27 (cI 1),q 29 (.mx false 25 28),qm 3 29]) (.seq (OP [qm 30 3,q 31 (.wP 1 16 [(.string ⟨#[]⟩)] 30 30),qm 9 31]) (.seq (OP [qm 32 3,Bi 33 .sub 32 (cI 1),qm 3 33]) (.seq (OP [Mv 10 (cI 0)]) (.seq (.block 0 (.loop zBz)) (.seq (OP [qm 58 9,qm 59 10,qm 60 0,Ia 61 1 58 59,So 1 61 60]) (.seq (OP [qm 62 9,qm 63 10,Bi 64 .add 63 (cI 1),q 65 (.slc 1 62 none (some 64) none),qm 8 65]) .ret))))))))))
theorem zv8:zv Tryz.prog 169 66 [.tmp 8] c169:=fK Tryz.func169
theorem zbD (s:ByteArray) (hs:s.size≤1000000000):zn Tryz.prog 169 [.sc (.string s),.sc (.string (zid 32)),.sc (.int .i64 0),.sc (.int .i64 (-1))] (xf (Vy s 0)):=by
 refine za zv8 zs (by simp[zb,Pure]) ?_ (z6 _)
 have hC:=zel s 32
 have hn:=zj5 s _ 0 rfl (Nat.zero_le _)
 rw[List.drop_zero] at hn
 have hl:=znV s _ 0 rfl (Nat.zero_le _)
 have hpos:=zix s 0
 generalize hN:(Vy s 0).length=N at hn hl hpos
 have hk:Lib.countByte s.data.toList 32=N-1:=zo
 rw[hk] at hC
 have hne:((zid 32).toList==(⟨#[]⟩:ByteArray).toList)=false:=by rw[ByteArray.toList_eq,ByteArray.toList_eq];rfl
 refine sR ?_
 rw[hne]
 refine sW ?_
 refine sC hC ?_
 refine sI ?_
 refine sI ?_
 rw[show(((N-1:Nat):Int)+1)=(N:Int) by omega,show min (N:Int) ((s.size:Int)+1)=(N:Int) by omega]
 refine⟨zo,zo,zo,?_⟩
 refine sW ?_
 refine sI ?_
 rw[show((N:Int)-1)=((N-1:Nat):Int) by omega,Int.toNat_natCast]
 refine zP [1,2,3,9] (λ((i,p):Nat × Nat)=>[(0,.sc (.string (J4 s p))),(10,.sc (.int .i64 i))]) (λ(i,p)=>[(0,.vec true 0 1 (((Vy s 0).take i).map qz++List.replicate (N-i) (qz ⟨#[]⟩)))])
  (λ(i,p)=>i<N∧p≤s.size∧Vy s p=(Vy s 0).drop i) (λ(i,p)=>N-i) (0,0) ?_
 refine sW ?_
 refine⟨⟨hpos,Nat.zero_le _,rfl⟩,by dsimp only;rw[ziY];exact sK,rfl,?_⟩
 rintro⟨i,p⟩ ⟨hi,hp,hd⟩
 have hI:=zfz 32 s p hp
 have hz:=zff hp
 have hlen:(Vy s p).length=N-i:=by rw[hd,List.length_drop,hN]
 refine sW ?_
 refine sR ?_
 refine sS (λh1=>?_) λh1=>?_
 ·have h1:i<N-1:=sO
  have hm:y3 32 s p<s.size:=by
   rcases Nat.lt_or_ge (y3 32 s p) s.size with h|h
   ·exact h
   ·rw[YS zo] at hlen;simp at hlen;omega
  have hg:=VL (c:=32) (s:=s) p
  have e0:ztl 32 s p=((y3 32 s p-p:Nat):Int):=if_pos hm
  rw[e0] at hI
  have e1:=zhh (s:=s) (p:=p) (m:=y3 32 s p-p) zo
  have e2:=zkQ (s:=s) (p:=p) (m:=y3 32 s p-p+1) zo
  rw[show p+(y3 32 s p-p)=y3 32 s p by omega] at e1
  rw[show p+(y3 32 s p-p+1)=y3 32 s p+1 by omega] at e2
  have hcs:(zid 32).size=1:=rfl
  have hll:(((Vy s 0).take i).map qz++List.replicate (N-i) (qz ⟨#[]⟩)).length=N:=by simp[hN];omega
  have hri:(((Vy s 0).take i).map qz++List.replicate (N-i) (qz ⟨#[]⟩))[i]? = some (qz ⟨#[]⟩):=by
   rw[List.getElem?_append_right (by simp;omega),List.length_map,List.length_take,hN,show min i N=i by omega,Nat.sub_self,show N-i=(N-i-1)+1 by omega,List.replicate_succ]
   rfl
  refine sC hI ?_
  refine sI ?_
  rw[Int.add_zero]
  refine⟨zo,zo,zo,?_⟩
  refine sW ?_
  rw[Int.toNat_natCast,e1]
  refine⟨zo,zo,?_⟩
  refine sW ?_
  refine⟨_,by rw[show 0+(i:Int).toNat=i by omega];exact hri,?_⟩
  refine sW ?_
  refine .inl ⟨by(unfold JL;rw[IntKind.wrap_i64];omega),?_⟩
  refine sW ?_
  refine⟨zo,zo,Nat.le_refl _,?_⟩
  rw[hz,hcs,show(((y3 32 s p-p:Nat):Int)+(1:Nat)).toNat=y3 32 s p-p+1 by omega,e2]
  refine sW ?_
  refine sI ?_
  rw[YG hm] at hd
  obtain⟨q1,q2,q3⟩:=zjN hN hd.symm
  refine⟨(i+1,y3 32 s p+1),⟨zo,zo,q2.symm⟩,zd,zD (by exact sK) ?_⟩
  show[zf.vec true 0 1 (List.set (((Vy s 0).take i).map qz++List.replicate (N-i) (qz ⟨#[]⟩)) (0+(i:Int).toNat) (qz (s.extract p (y3 32 s p))))]=[_]
  rw[show 0+(i:Int).toNat=i by omega,q1]
 ·have h1:i=N-1:=sO
  have hm:¬y3 32 s p<s.size:=λh=>by
   rw[YG h,List.length_cons] at hlen
   have:=zix s (y3 32 s p+1)
   omega
  have hg:=zij (c:=32) (s:=s) _ p rfl hp
  have e1:s.extract p (y3 32 s p)=J4 s p:=by unfold J4;congr 1;omega
  rw[YS hm,e1] at hd
  have hri:(((Vy s 0).take i).map qz++List.replicate (N-i) (qz ⟨#[]⟩))[i]? = some (qz ⟨#[]⟩):=by
   rw[List.getElem?_append_right (by simp;omega),List.length_map,List.length_take,hN,show min i N=i by omega,Nat.sub_self,show N-i=(N-i-1)+1 by omega,List.replicate_succ]
   rfl
  obtain⟨q1,q2,q3⟩:=zjN hN hd.symm
  refine⟨zo,zo,?_⟩
  refine sW ?_
  refine⟨_,by rw[show 0+(i:Int).toNat=i by omega];exact hri,?_⟩
  refine sW ?_
  refine sI ?_
  refine⟨zo,zo,zo,?_⟩
  refine sW ?_
  rw[zmJ]
  refine .own 0 0 _ _ 1 true _ _ rfl ?_
  show vH _ (((List.set (((Vy s 0).take i).map qz++List.replicate (N-i) (qz ⟨#[]⟩)) (0+(i:Int).toNat) (qz (J4 s p))).take (0+((i:Int)+1).toNat)).drop (0+0)) _
  rw[show 0+(i:Int).toNat=i by omega,q1,show 0+((i:Int)+1).toNat=N by omega,show i+1=N by omega,Nat.sub_self,List.replicate_zero,List.append_nil,List.take_of_length_le (i:=N) (l:=Vy s 0) zo,List.drop_zero,List.take_of_length_le (i:=N) (by simp[hN])]
  exact z8 _
def c102:PC:=.seq (OP [Mv 4 cN]) (.seq (OP [qm 5 0,qm 6 1,Ca 7 169 [5,6,(cI 0),(cI (-1))],qm 4 7]) .ret)
theorem zuW:zv Tryz.prog 102 8 [.tmp 4] c102:=fK Tryz.func102
theorem zfI (s:ByteArray) (hs:s.size≤1000000000):zn Tryz.prog 102 [.sc (.string s),.sc (.string (zid 32))] (xf (Vy s 0)):=by
 refine za zuW zs (by simp[zb,Pure]) ?_ (z6 _)
 refine sR ?_
 refine sC (zbD s hs) ?_
 exact .refl _
end
section
open Go.RowKit
theorem zth {k:Nat} (h:k<8):(zmE.map λs=>D.sc (.string s))[k]? = some (.sc (.string (zah k))):=by
 unfold zah
 rw[List.getElem?_map,List.getD_eq_getElem?_getD]
 have:k<zmE.length:=h
 rw[List.getElem?_eq_getElem this]
 rfl
def c103:PC:=.seq (OP [Mv 2 (cS #[])]) (.seq (OP [q 3 (.build [(.string ⟨#[]⟩),(.string ⟨#[]⟩),(.string ⟨#[]⟩),(.string ⟨#[]⟩),(.string ⟨#[]⟩),(.string ⟨#[]⟩),(.string ⟨#[]⟩),(.string ⟨#[]⟩)] [(0,1,(cS #[])),(1,1,(cS #[115,116,97,114,116])),(2,1,(cS #[101,110,100])),(3,1,(cS #[115,116,111,112])),(4,1,(cS #[116,97,115,107])),(5,1,(cS #[120,111,114])),(6,1,(cS #[97,110,100])),(7,1,(cS #[111,114]))]),qm 4 0,q 5 (.zpx 8 1 false 3 4),qm 2 5]) .ret)
theorem zvU:zv Tryz.prog 103 6 [.tmp 2] c103:=fK Tryz.func103
theorem zqs (k:Nat) (hk:k<8):zn Tryz.prog 103 [.sc (.int .i64 k)] (.sc (.string (zah k))):=by
 refine za zvU zs (by simp[zb,Pure]) ?_ (by simp[Pure])
 refine sR ?_
 refine⟨zo,zo,_,by rw[Int.toNat_natCast,Nat.mul_one];exact zth hk,?_⟩
 refine sW ?_
 exact .refl _
theorem zee {x:ByteArray} {k:Nat} (h:Z8 x k≠0):∀n,Z8 x (k+n)=Z8 x k
 | 0=>rfl
 | n+1=>by
  show Z8 x (k+n+1)=_
  have:=zee h n
  simp only[Z8]
  rw[this,if_pos h]
theorem zp4 {x:ByteArray} {k:Nat} (h:Z8 x k=0) (e:ZQ x (zah (k+1))=true) (hk:k+1≤7):Z8 x 7=k+1:=by
 have h1:Z8 x (k+1)=k+1:=by simp only[Z8];rw[if_neg (by simp[h]),if_pos e]
 have:=zee (x:=x) (k:=k+1) (by rw[h1];omega) (7-(k+1))
 rw[show k+1+(7-(k+1))=7 by omega] at this
 rw[this,h1]
theorem zmh {x:ByteArray} {k:Nat} (h:Z8 x k=0) (e:ZQ x (zah (k+1))=false):Z8 x (k+1)=0:=by
 simp only[Z8];rw[if_neg (by simp[h]),if_neg (by simp[e])]
def ZL (x:ByteArray × ByteArray × Int):List D:=[.sc (.string x.1),.sc (.string x.2.1),.sc (.int .i64 x.2.2)]
def rdO (st:RdS):List zf:=[.row true [.own 1 st.nodes.length 0 st.nodes.length,.sc (.slice none 0 0),.own 2 st.zu.length 0 st.zu.length],.vec true st.nodes.length 2 (st.nodes.map vU),.vec true st.zu.length 3 (st.zu.map ZL)]
theorem X6 {w:List ByteArray} {i:Nat} (h:i<w.length):(w.map λs=>[D.sc (.string s)])[(i:Int).toNat]? = some [.sc (.string (w0 w i))]:=by
 rw[Int.toNat_natCast,List.getElem?_map,List.getElem?_eq_getElem h]
 unfold w0
 rw[List.getD_eq_getElem?_getD,List.getElem?_eq_getElem h]
 rfl
theorem zpQ (st:RdS):wJ 3 (rdO st):=by
 refine⟨by simp[zf.under,zl,zt],zi _ (zC _ w7 _),zi _ (zC _ (λx=>by simp[ZL,zb,Pure]) _),trivial⟩
theorem Qb (st:RdS):∀o∈rdO st,o.under (rdO st).length:=by
 intro o ho
 simp only[rdO,List.mem_cons,List.not_mem_nil,or_false] at ho
 rcases ho with rfl|rfl|rfl
 ·simp[zf.under,zl,zt,rdO]
 ·exact zi _ (zC _ w7 _)
 ·exact zi _ (zC _ (λx=>by simp[ZL,zb,Pure]) _)
def zCf:PC:=.seq (.seq (OP [qm 49 8,Bi 50 .leq 49 (cI 7)]) (.cond 50 .skip (.exit 0))) (.seq (.block 1 (.seq (.ops [qm 53 7,qd 54 (.zM 1 53 (cI 0)) 1,qd 55 (.zg 54) 3,qm 56 8,qd 57 (.call 103 [56]) 8,qd 58 (.bin .eql 55 57) 31] true) (.cond 58 (.seq (.seq (OP [qm 59 7,Ln 60 59,Bi 61 .neq 60 (cI 2),qm 62 61,GF 63 62 (.move 7),GF 64 62 (.zM 1 63 (cI 1)),GF 65 62 (.zg 64),GF 66 62 (.call 23 [65]),GF 67 62 (.un .not 66),Pk 68 62 cT 67,qm 69 68,GF 70 69 (.move 0),GF 71 69 (.zq 70),GF 72 69 (.zy 2 71),GF 73 69 (.zg 72),GF 74 69 (.len 73),GF 75 69 (.bin .gtr 74 (cI 0)),Pk 76 69 cT 75]) (.cond 76 (.seq (OP [Mv 6 cF]) .ret) .skip)) (.seq (.ops [qm 77 0,qm 78 0,qd 79 (.zq 78) 2,qd 80 (.zy 0 79) 6,qd 81 (.zy 0 80) 14,qd 82 (.zg 81) 30,qm 83 7,qd 84 (.zM 1 83 (cI 1)) 64,qd 85 (.zg 84) 192,qm 86 8,qd 87 (.build [(.string ⟨#[]⟩),(.int .i64 0)] [(0,1,85),(1,1,86)]) 960,qd 88 (.wz 2 1 [87]) 1984,qd 89 (.append 2 24 82 88) 4094,qd 90 (.zq 77) 8191,qd 91 (.zy 0 90) 16383,qd 92 (.zy 0 91) 32767,qk (.store 1 92 89) 65535] true) (.seq (OP [Mv 6 cT]) .ret))) .skip))) (OP [qm 51 8,Bi 52 .add 51 (cI 1),qm 8 52]))
def c49:PC:=.seq (OP [Mv 6 cF]) (.seq (OP [qm 9 1,q 10 (.call 102 [9,(cS #[32])]),qm 7 10]) (.seq (.seq (OP [qm 11 7,Ia 12 1 11 (cI 0),Lo 13 12,Bi 14 .eql 13 (cS #[102,108,111,119])]) (.cond 14 (.seq (.seq (OP [qm 15 7,Ln 16 15,Bi 17 .neq 16 (cI 3),qm 18 17,GF 19 18 (.move 7),GF 20 18 (.zM 1 19 (cI 1)),GF 21 18 (.zg 20),GF 22 18 (.call 23 [21]),GF 23 18 (.un .not 22),Pk 24 18 cT 23,qm 25 24,GF 26 25 (.move 7),GF 27 25 (.zM 1 26 (cI 2)),GF 28 25 (.zg 27),GF 29 25 (.call 23 [28]),GF 30 25 (.un .not 29),Pk 31 25 cT 30]) (.cond 31 (.seq (OP [Mv 6 cF]) .ret) .skip)) (.seq (.ops [qm 32 0,qm 33 0,qd 34 (.zq 33) 2,qd 35 (.zy 2 34) 6,qd 36 (.zg 35) 14,qm 37 7,qd 38 (.zM 1 37 (cI 1)) 32,qd 39 (.zg 38) 96,qm 40 7,qd 41 (.zM 1 40 (cI 2)) 256,qd 42 (.zg 41) 768,qm 43 2,qd 44 (.build [(.string ⟨#[]⟩),(.string ⟨#[]⟩),(.int .i64 0)] [(0,1,39),(1,1,42),(2,1,43)]) 4064,qd 45 (.wz 3 1 [44]) 8160,qd 46 (.append 3 40 36 45) 16382,qd 47 (.zq 32) 32767,qd 48 (.zy 2 47) 65535,qk (.store 1 48 46) 131071] true) (.seq (OP [Mv 6 cT]) .ret))) .skip)) (.seq (.seq (OP [Mv 8 (cI 1)]) (.block 0 (.loop zCf))) (.seq (OP [Mv 6 cF]) .ret))))
theorem zfu:zv Tryz.prog 49 93 [.tmp 6] c49:=fK Tryz.func49
theorem zpl (st:RdS) (hst:st.nodes.length≤100000000∧st.zu.length≤100000000) (ln:ByteArray) (hln:ln.size≤100000000) (a:Int) :
  yr Tryz.prog 49 [.loc 0 0,.sc (.string ln),.sc (.int .i64 a)] (rdO st) (.sc (.bool (zcz st ln a).isSome)) (rdO ((zcz st ln a).getD st)):=by
 have hS:=zfI ln zo
 have hpos:=zix ln 0
 have hsz:∀i,(w0 (Vy ln 0) i).size≤9223372036854775807:=λi=>by
  unfold w0
  rw[List.getD_eq_getElem?_getD]
  cases h:(Vy ln 0)[i]? with
  | none=>show(0:Nat)≤_;omega
  | some x=>have:=zeP ln _ 0 rfl (Nat.zero_le _) x (List.mem_of_getElem? h);simp;omega
 have hnm:=λi=>Yg (w0 (Vy ln 0) i) (hsz i)
 obtain⟨R,hL⟩:∃R,R=zcz st ln a:=⟨_,rfl⟩
 rw[←hL]
 unfold zcz at hL
 generalize hw:Vy ln 0=w at hS hpos hsz hnm hL
 have n1:=hnm 1
 have n2:=hnm 2
 by_cases hf:ZQ (w0 w 0) zrn=true
 ·rw[if_pos hf] at hL
  by_cases hl:w.length=3
  ·cases h1:xd (w0 w 1) with
   | true =>
    rw[h1] at n1
    cases h2:xd (w0 w 2) with
    | true =>
     rw[h2] at n2
     rw[if_pos ⟨hl,h1,h2⟩] at hL
     subst hL
     refine zS zfu zs (by simp[rdO]) ?_ (by simp[zt]) (Qb _)
     unfold rdO
     refine sR ?_
     refine sC hS ?_
     refine sL (X6 (i:=0) zo) ?_
     rw[show((w0 w 0).toList==(⟨#[102,108,111,119]⟩:ByteArray).toList)=true from hf]
     refine sW ?_
     rw[List.length_map]
     rw[show((w.length:Int) != 3)=false by rw[hl];rfl]
     refine sW ?_
     refine sL (X6 (i:=1) zo) ?_
     refine sC n1 ?_
     refine sL (X6 (i:=2) zo) ?_
     refine sC n2 ?_
     refine sL (X6 (i:=1) zo) ?_
     refine sL (X6 (i:=2) zo) ?_
     refine sJ ?_
     exact⟨by simp[ZL,List.take_of_length_le (l:=List.map ZL st.zu) (i:=st.zu.length) zs],zs⟩
    | false =>
     rw[h2] at n2
     rw[if_neg (by simp[h2])] at hL
     subst hL
     refine zS zfu zs (by simp[rdO]) ?_ (by simp[zt]) (Qb _)
     unfold rdO
     refine sR ?_
     refine sC hS ?_
     refine sL (X6 (i:=0) zo) ?_
     rw[show((w0 w 0).toList==(⟨#[102,108,111,119]⟩:ByteArray).toList)=true from hf]
     refine sW ?_
     rw[List.length_map]
     rw[show((w.length:Int) != 3)=false by rw[hl];rfl]
     refine sW ?_
     refine sL (X6 (i:=1) zo) ?_
     refine sC n1 ?_
     refine sL (X6 (i:=2) zo) ?_
     refine sC n2 ?_
     exact Nat.le_refl _
   | false =>
    rw[h1] at n1
    rw[if_neg (by simp[h1])] at hL
    subst hL
    refine zS zfu zs (by simp[rdO]) ?_ (by simp[zt]) (Qb _)
    unfold rdO
    refine sR ?_
    refine sC hS ?_
    refine sL (X6 (i:=0) zo) ?_
    rw[show((w0 w 0).toList==(⟨#[102,108,111,119]⟩:ByteArray).toList)=true from hf]
    refine sW ?_
    rw[List.length_map]
    rw[show((w.length:Int) != 3)=false by rw[hl];rfl]
    refine sW ?_
    refine sL (X6 (i:=1) zo) ?_
    refine sC n1 ?_
    exact Nat.le_refl _
  ·rw[if_neg (λq=>hl q.1)] at hL
   subst hL
   refine zS zfu zs (by simp[rdO]) ?_ (by simp[zt]) (Qb _)
   unfold rdO
   refine sR ?_
   refine sC hS ?_
   refine sL (X6 (i:=0) zo) ?_
   rw[show((w0 w 0).toList==(⟨#[102,108,111,119]⟩:ByteArray).toList)=true from hf]
   refine sW ?_
   rw[List.length_map]
   rw[show((w.length:Int) != 3)=true by simpa using (by omega:(w.length:Int)≠3)]
   refine sW ?_
   exact Nat.le_refl _
 ·rw[if_neg hf] at hL
  have hf:ZQ (w0 w 0) zrn=false:=by simpa using hf
  refine zS zfu zs (by simp[rdO]) ?_ (by simp[zt]) (Qb _)
  unfold rdO
  refine sR ?_
  refine sC hS ?_
  refine sL (X6 (i:=0) zo) ?_
  rw[show((w0 w 0).toList==(⟨#[102,108,111,119]⟩:ByteArray).toList)=false from hf]
  refine sW ?_
  refine zP [0,7] (λk:Nat=>[(8,.sc (.int .i64 k))]) (λ_=>[]) (λk=>1≤k∧k≤8∧Z8 (w0 w 0) (k-1)=0) (λk=>8-k) 1 ?_
  refine sW ?_
  refine⟨⟨Nat.le_refl _,zo,rfl⟩,by exact sK,rfl,?_⟩
  rintro k ⟨hk1,hk8,hk0⟩
  obtain⟨j,rfl⟩:∃j,k=j+1:=⟨k-1,zo⟩
  have hk0:Z8 (w0 w 0) j=0:=hk0
  have hW:=λh=>zqs (j+1) h
  refine sW ?_
  refine sR ?_
  refine sS (λh5=>?_) λh5=>?_
  ·have h5:j+1≤7:=sO
   refine sL (X6 (i:=0) zo) ?_
   refine sC (hW zo) ?_
   cases he:ZQ (w0 w 0) (zah (j+1)) with
   | false =>
    rw[show((w0 w 0).toList==(zah (j+1)).toList)=false from he]
    refine sW ?_
    refine sI ?_
    exact⟨j+2,⟨zo,zo,zmh hk0 he⟩,zd,zD (by exact sK) rfl⟩
   | true =>
    rw[show((w0 w 0).toList==(zah (j+1)).toList)=true from he]
    have hkd:=zp4 hk0 he zo
    rw[hkd,if_pos zo] at hL
    refine sW ?_
    rw[List.length_map]
    by_cases hl:w.length=2
    ·rw[show((w.length:Int) != 2)=false by rw[hl];rfl]
     refine sW ?_
     refine sL (X6 (i:=1) zo) ?_
     cases h1:xd (w0 w 1) with
     | true =>
      rw[h1] at n1
      refine sC n1 ?_
      by_cases hfl:st.zu=[]
      ·rw[if_pos ⟨hl,h1,hfl⟩] at hL
       subst hL
       refine zle (by rw[hfl];rfl) ?_
       refine sW ?_
       refine sL (X6 (i:=1) zo) ?_
       refine sJ ?_
       exact⟨by simp[vU,List.take_of_length_le (l:=List.map vU st.nodes) (i:=st.nodes.length) zs],zs⟩
      ·rw[if_neg (λq=>hfl q.2.2)] at hL
       subst hL
       have:0<st.zu.length:=List.length_pos_iff.2 hfl
       refine znl (by simp;omega) ?_
       refine sW ?_
       exact Nat.le_refl _
     | false =>
      rw[h1] at n1
      rw[if_neg (by simp[h1])] at hL
      subst hL
      refine sC n1 ?_
      exact Nat.le_refl _
    ·rw[if_neg (λq=>hl q.1)] at hL
     subst hL
     rw[show((w.length:Int) != 2)=true by simpa using (by omega:(w.length:Int)≠2)]
     refine sW ?_
     exact Nat.le_refl _
  ·have h5:j=7:=sO
   subst h5
   rw[hk0,if_neg zs] at hL
   subst hL
   exact⟨rfl,rfl,Nat.le_refl _⟩
end
section
open Go.RowKit
theorem zlP {st st':RdS} {ln:ByteArray} {a:Int} (h:zcz st ln a=some st') (hn:∀x∈st.nodes,x.1.size≤1000000) (hl:ln.size≤1000000) :
  st'.nodes.length≤st.nodes.length+1∧st'.zu.length≤st.zu.length+1∧∀x∈st'.nodes,x.1.size≤1000000:=by
 unfold zcz at h
 split at h
 ·split at h
  ·cases h;exact⟨zs,zs,hn⟩
  ·cases h
 ·split at h
  ·split at h
   ·cases h
    refine⟨zs,zs,λx hx=>?_⟩
    rcases List.mem_append.1 hx with hx|hx
    ·exact hn x hx
    ·rw[List.mem_singleton] at hx
     subst hx
     show(w0 (Vy ln 0) 1).size≤_
     unfold w0
     rw[List.getD_eq_getElem?_getD]
     cases e:(Vy ln 0)[1]? with
     | none=>show(0:Nat)≤_;omega
     | some y=>have:=zeP ln _ 0 rfl (Nat.zero_le _) y (List.mem_of_getElem? e);show y.size≤_;omega
   ·cases h
  ·cases h
theorem zcj {H:List zf} {n:Nat} {l:List (List D)} (h:l.length≤n):vH H (List.drop 0 (List.take n l)) l:=by rw[List.drop_zero,List.take_of_length_le h];exact z8 _
theorem zcq (ρ:Nat→Nat) (l:List (ByteArray × Int)):ue ρ (l.map vU)=l.map vU:=yA _ (zC _ w7 _)
theorem za3 (ρ:Nat→Nat) (l:List (ByteArray × ByteArray × Int)):ue ρ (l.map ZL)=l.map ZL:=yA _ (zC _ (λx=>by simp[ZL,zb,Pure]) _)
theorem zlb (ρ:Nat→Nat) (l:List (Int × Int)):ue ρ (l.map Y4)=l.map Y4:=yA _ (zC _ XE _)
theorem znj (ρ:Nat→Nat) (st:RdS):(rdO st).map (zf.yG ρ)=[.row true [.own (ρ 1) st.nodes.length 0 st.nodes.length,.sc (.slice none 0 0),.own (ρ 2) st.zu.length 0 st.zu.length],.vec true st.nodes.length 2 (st.nodes.map vU),.vec true st.zu.length 3 (st.zu.map ZL)]:=by
 simp only[rdO,List.map_cons,List.map_nil,zf.yG,yE,D.yG,zcq,za3]
def rdQ (st:RdS) (fl:List (Int × Int)):List zf:=[.row true [.own 1 st.nodes.length 0 st.nodes.length,.own 3 fl.length 0 fl.length,.own 2 st.zu.length 0 st.zu.length],.vec true st.nodes.length 2 (st.nodes.map vU),.vec true st.zu.length 3 (st.zu.map ZL),.vec true fl.length 2 (fl.map Y4)]
theorem zoz (st:RdS) (fl:List (Int × Int)):wJ 4 (rdQ st fl) :=
 ⟨by simp[zf.under,zl,zt],zi _ (zC _ w7 _),zi _ (zC _ (λx=>by simp[ZL,zb,Pure]) _),zi _ (zC _ XE _),trivial⟩
def c104:PC:=.seq (OP [Bx 2 0,Mv 3 cF]) (.seq (OP [Fa 4 0 2,Lo 5 4,Lo 6 1,Bi 7 .eql 5 6,qm 3 7]) .ret)
theorem zwO:zv Tryz.prog 104 8 [.tmp 3] c104:=fK Tryz.func104
theorem zl6 (m:ByteArray × Int) (x:ByteArray):zn Tryz.prog 104 [.agg (vU m),.yO [.sc (.string x)]] (.sc (.bool (ZQ m.1 x))):=by
 refine za zwO zs (by simp[zb,Pure,w7]) ?_ (by simp[Pure])
 refine sR ?_
 exact .refl _
def Q8 (nodes:List (ByteArray × Int)) (x:ByteArray):Int:=wQ (λn=>ZQ n.1 x) nodes
def c50:PC:=.seq (OP [Bx 3 1,Mv 4 (cI 0)]) (.seq (OP [qm 5 0,q 6 (.zq 5),Fa 7 0 6,Fa 8 0 7,Lo 9 8,q 10 (.uG (.func 104) [] [3]),Ca 11 51 [9,10],qm 4 11]) .ret)
theorem zBi:zv Tryz.prog 50 12 [.tmp 4] c50:=fK Tryz.func50
theorem zpP (st:RdS) (hst:st.nodes.length≤1000000000) (fl:List (Int × Int)) (x:ByteArray):yr Tryz.prog 50 [.loc 0 0,.sc (.string x)] (rdQ st fl) (.sc (.int .i64 (Q8 st.nodes x))) (rdQ st fl):=by
 have hI:=zcE st.nodes zo (λn=>ZQ n.1 x) 104 [.yO [.sc (.string x)]] (by simp[zb,Pure]) λa _=>zl6 a x
 refine zS zBi zs (by simp[rdQ]) ?_ (by simp[zt]) (by
  intro o ho
  simp only[rdQ,List.mem_cons,List.not_mem_nil,or_false] at ho
  rcases ho with rfl|rfl|rfl|rfl
  ·simp[zf.under,zl,zt,rdQ]
  ·exact zi _ (zC _ w7 _)
  ·exact zi _ (zC _ (λx=>by simp[ZL,zb,Pure]) _)
  ·exact zi _ (zC _ XE _))
 unfold rdQ
 refine sR ?_
 refine .inr (.inl ⟨_,_,wX.cons _ _ _ _ (.own 1 _ _ _ 2 true _ _ rfl (by rw[List.drop_zero,List.take_of_length_le zs];exact z8 _)) (.cons _ _ _ _ (.fn _ _ _ _ _ (.nil) (.cons _ _ _ _ (.loc 4 0 true _ _ rfl (xy _)) .nil)) .nil),hI,rfl,?_⟩)
 refine sW ?_
 simp
theorem zgp (st:RdS) (hst:st.nodes.length≤1000000000) (fl:List (Int × Int)) (x:ByteArray) {r0:zf} {T:List zf} :
  zf5 Tryz.prog 50 [.loc 1 0,.sc (.string x)] (r0::.row true [.own 2 st.nodes.length 0 st.nodes.length,.own 4 fl.length 0 fl.length,.own 3 st.zu.length 0 st.zu.length]::.vec true st.nodes.length 2 (st.nodes.map vU)::.vec true st.zu.length 3 (st.zu.map ZL)::.vec true fl.length 2 (fl.map Y4)::T) (.sc (.int .i64 (Q8 st.nodes x))) [1,2,3,4]:=by
 refine zj7 (zpP st hst fl x) [1,2,3,4] rfl zc (by simp[zl,zt,rdQ]) (zoz st fl) (by simp[yE,D.yG]) (by simp[D.yG]) (λi o ho=>?_) 1 (q:=true) (cs:=[.own 2 st.nodes.length 0 st.nodes.length,.own 4 fl.length 0 fl.length,.own 3 st.zu.length 0 st.zu.length]) zs rfl zs (λid hid=>?_)
 ·match i,ho with
  | 0,ho=>cases ho;simp[zf.yG,yE,D.yG]
  | 1,ho=>cases ho;exact congrArg some (show zf.vec true _ 2 (st.nodes.map vU)=zf.yG _ (.vec true _ 2 (st.nodes.map vU)) by simp only[zf.yG,zcq])
  | 2,ho=>cases ho;exact congrArg some (show zf.vec true _ 3 (st.zu.map ZL)=zf.yG _ (.vec true _ 3 (st.zu.map ZL)) by simp only[zf.yG,za3])
  | 3,ho=>cases ho;exact congrArg some (show zf.vec true _ 2 (fl.map Y4)=zf.yG _ (.vec true _ 2 (fl.map Y4)) by simp only[zf.yG,zlb])
 ·simp only[List.mem_cons,List.not_mem_nil,or_false] at hid
  rcases hid with rfl|rfl|rfl|rfl
  ·exact .inl rfl
  ·exact .inr ⟨st.nodes.length,0,st.nodes.length,zs⟩
  ·exact .inr ⟨st.zu.length,0,st.zu.length,zs⟩
  ·exact .inr ⟨fl.length,0,fl.length,zs⟩
def zng (x:ze × Int × Int):D:=.yP [yS x.1,.sc (.int .i64 x.2.1),.sc (.int .i64 x.2.2)]
theorem zls (x:ze × Int × Int):Pure (zng x):=by simp[zng,Pure,zb,yb]
def zDF:PC:=.seq (.seq (OP [qm 21 0,Bi 22 .neq 21 (cS #[])]) (.cond 22 .skip (.exit 0))) (.seq (.block 1 (.seq (OP [qm 26 0,q 27 (.call 48 [26,(cS #[10])]),qm 25 27,Xt 28 0 25,Xt 29 1 25,Xt 30 2 25,qm 7 28,qm 8 29,qm 9 30]) (.seq (.seq (OP [qm 31 9,Nt 32 31,qm 33 32,GF 34 33 (.move 5),GF 35 33 (.move 7),GF 36 33 (.move 6),GF 37 33 (.call 49 [34,35,36]),GF 38 33 (.un .not 37),Pk 39 33 cT 38]) (.cond 39 (.seq (OP [q 40 (.build [(.slice none 0 0),(.slice none 0 0)] []),qm 41 6,So 2 2 40,qm 3 41,Mv 4 (cI 3)]) .ret) .skip)) (OP [qm 42 8,qm 0 42])))) (OP [qm 23 6,Bi 24 .add 23 (cI 1),qm 6 24]))
def zDf:PC:=.seq (OP [Bi 49 .lss 48 47]) (.seq (.cond 49 .skip (.exit 2)) (.seq (.block 3 (.seq (OP [Ia 50 3 46 48,LA 51 3 50,q 11 (.alloc [(.string ⟨#[]⟩),(.string ⟨#[]⟩),(.int .i64 0)]),So 3 11 51]) (.seq (.ops [qm 52 5,Fa 53 0 11,qd 54 (.zg 53) 2,qd 55 (.call 50 [52,54]) 7,qm 56 5,Fa 57 1 11,qd 58 (.zg 57) 32,qd 59 (.call 50 [56,58]) 127,qw 12 55 255,qw 13 59 511] true) (.seq (.seq (OP [qm 60 12,Bi 61 .lss 60 (cI 0),qm 62 61,GF 63 62 (.move 13),GF 64 62 (.bin .lss 63 (cI 0)),Pk 65 62 cT 64]) (.cond 65 (.seq (.ops [q 66 (.build [(.slice none 0 0),(.slice none 0 0)] []),Fa 67 2 11,qd 68 (.zg 67) 2,qk (.store 2 2 66) 1,qw 3 68 15,qd 4 (.move (cI 4)) 31] true) .ret) .skip)) (OP [qm 69 5,qm 70 5,q 71 (.zq 70),Fa 72 0 71,Fa 73 1 72,Lo 74 73,qm 75 12,qm 76 13,q 77 (.build [(.int .i64 0),(.int .i64 0)] [(0,1,75),(1,1,76)]),Bs 78 2 1 [77],Ap 79 2 16 74 78,q 80 (.zq 69),Fa 81 0 80,Fa 82 1 81,So 1 82 79]))))) (OP [Bi 83 .add 48 (cI 1),qm 48 83])))
def c22:PC:=.seq (OP [q 2 (.alloc [(.slice none 0 0),(.slice none 0 0)]),Mv 3 (cI 0),Mv 4 (cI 0)]) (.seq (.seq (OP [qm 15 0,q 16 (.zir 15),Bi 17 .gtr 16 (cI 4096)]) (.cond 17 (.seq (OP [q 18 (.build [(.slice none 0 0),(.slice none 0 0)] []),So 2 2 18,Mv 3 (cI 0),Mv 4 (cI 2)]) .ret) .skip)) (.seq (OP [q 19 (.build [(.slice none 0 0),(.slice none 0 0),(.slice none 0 0)] []),Bx 20 19,qm 5 20]) (.seq (.seq (OP [Mv 6 (cI 1)]) (.block 0 (.loop zDF))) (.seq (.seq (OP [qm 43 5,q 44 (.zq 43),Fa 45 2 44,Lo 46 45,Ln 47 46,Mv 48 (cI 0)]) (.block 2 (.loop zDf))) (.seq (.seq (OP [qm 84 5,q 85 (.zq 84),Fa 86 0 85,LA 87 2 86,Ca 88 5 [87],qm 14 88]) (.seq (OP [qm 89 14,Bi 90 .neq 89 (cI 0)]) (.cond 90 (.seq (OP [q 91 (.build [(.slice none 0 0),(.slice none 0 0)] []),qm 92 14,So 2 2 91,Mv 3 (cI 0),qm 4 92]) .ret) .skip))) (.seq (OP [qm 93 5,q 94 (.zq 93),Fa 95 0 94,LA 96 2 95,So 2 2 96,Mv 3 (cI 0),Mv 4 (cI 0)]) .ret))))))
theorem zAy:zv Tryz.prog 22 97 [.agg 2 2,.tmp 3,.tmp 4] c22:=fK Tryz.func22
theorem zmn (s:ByteArray) (hs:s.size≤4096):zn Tryz.prog 22 [.sc (.string s)] (zng (zkr s)):=by
 refine za zAy zs (by simp[zb,Pure]) ?_ (zls _)
 obtain⟨R,hR⟩:∃R,R=zbr s (s.size+1) 0 1 ⟨[],[]⟩:=⟨_,rfl⟩
 obtain⟨T,hT⟩:∃T,T=zkr s:=⟨_,rfl⟩
 rw[←hT]
 unfold zkr at hT
 rw[←hR] at hT
 refine sR ?_
 refine zle (by simp;omega) ?_
 refine sW ?_
 refine zH (wZ (yZ 1 0 2 zs rfl rfl) (yZ 1 2 3 zs rfl rfl)) ?_
 refine zP [2,5] (λ((f,p,a,st):Nat × Nat × Int × RdS)=>[(0,.sc (.string (J4 s p))),(6,.sc (.int .i64 a))])
  (λ(f,p,a,st)=>[(1,.row true [.own 2 st.nodes.length 0 st.nodes.length,.sc (.slice none 0 0),.own 3 st.zu.length 0 st.zu.length]),(2,.vec true st.nodes.length 2 (st.nodes.map vU)),(3,.vec true st.zu.length 3 (st.zu.map ZL))])
  (λ(f,p,a,st)=>R=zbr s f p a st∧p≤s.size∧s.size-p<f∧st.nodes.length≤p∧st.zu.length≤p∧1≤a∧a≤p+1∧∀x∈st.nodes,x.1.size≤1000000) (λ(f,p,a,st)=>f) (s.size+1,0,1,⟨[],[]⟩) ?_
 refine sW ?_
 refine⟨⟨hR,Nat.zero_le _,zo,Nat.zero_le _,Nat.zero_le _,zo,zo,λx hx=>by cases hx⟩,by dsimp only;rw[ziY];exact sK,rfl,?_⟩
 rintro⟨f,p,a,st⟩ ⟨hR,hp,hf,hn,hfl,ha1,ha2,hnm⟩
 obtain⟨f,rfl⟩:∃g,f=g+1:=⟨f-1,zo⟩
 have hC:=zky 10 s zo p hp
 have hz:=zff hp
 refine sW ?_
 refine sR ?_
 simp only[zbr] at hR
 by_cases hps:p<s.size
 ·rw[if_pos hps] at hR
  have he:ZQ (J4 s p) ⟨#[]⟩=false:=by
   cases h:ZQ (J4 s p) ⟨#[]⟩ with
   | false=>rfl
   | true=>have:=(zbx _).1 h;omega
  rw[show((J4 s p).toList==(⟨#[]⟩:ByteArray).toList)=false from he]
  refine sW ?_
  by_cases hnl:y3 10 s p<s.size
  ·rw[if_pos hnl] at hR
   rw[show(10:UInt8).toNat=10 from rfl,if_pos hnl] at hC
   refine sC hC ?_
   have hg:=VL (c:=10) (s:=s) p
   have hln:(s.extract p (y3 10 s p)).size≤1000000:=by rw[ByteArray.size_extract];omega
   have hE:=zpl st ⟨zo,zo⟩ (s.extract p (y3 10 s p)) zo a
   refine sA (vI hE [_] [] rfl (by simp[zl,zt,rdO]) (zpQ st) rfl rfl (by rw[znj];try rfl) (by rw[znj];try rfl)) ?_
   cases hlr:zcz st (s.extract p (y3 10 s p)) a with
   | none =>
    rw[hlr] at hR
    subst hR
    simp only at hT
    subst hT
    refine sW ?_
    exact sP
   | some st' =>
    rw[hlr] at hR
    obtain⟨f1,f2,f3⟩:=zlP hlr hnm hln
    refine sW ?_
    refine sI ?_
    exact⟨(f,y3 10 s p+1,a+1,st'),⟨hR,zo,zo,zo,zo,zo,zo,f3⟩,zd,zD (by exact sK) rfl⟩
  ·rw[if_neg hnl] at hR
   rw[show(10:UInt8).toNat=10 from rfl,if_neg hnl] at hC
   subst hR
   simp only at hT
   subst hT
   refine sC hC ?_
   exact sP
 ·rw[if_neg hps] at hR
  have he:ZQ (J4 s p) ⟨#[]⟩=true:=(zbx _).2 zo
  rw[show((J4 s p).toList==(⟨#[]⟩:ByteArray).toList)=true from he]
  subst hR
  refine sW ?_
  obtain⟨FR,hFR⟩:∃FR,FR=JQ st.nodes st.zu []:=⟨_,rfl⟩
  simp only at hT
  rw[←hFR] at hT
  refine zH (yZ 1 1 2 zs rfl rfl) ?_
  refine zP [2,5,46,47] (λ((k,c,out):Nat × Nat × List (Int × Int))=>[(48,.sc (.int .i64 k))])
   (λ(k,c,out)=>[(1,.row true [.own 2 st.nodes.length 0 st.nodes.length,.own 4 c 0 c,.own 3 st.zu.length 0 st.zu.length]),(4,.vec true c 2 (out.map Y4))])
   (λ(k,c,out)=>FR=JQ st.nodes (st.zu.drop k) out∧k≤st.zu.length∧out.length=k∧c=out.length) (λ(k,c,out)=>st.zu.length-k) (0,0,[]) ?_
  refine sW ?_
  refine⟨⟨by rw[List.drop_zero];exact hFR,Nat.zero_le _,rfl,rfl⟩,by exact sK,rfl,?_⟩
  rintro⟨k,c,out⟩ ⟨hR,hk,ho,rfl⟩
  refine sW ?_
  refine sR ?_
  refine sS (λh6=>?_) λh6=>?_
  ·have hk':k<st.zu.length:=sO
   obtain⟨x,y,al,hx⟩:∃x y al,st.zu[k]=(x,y,al):=⟨_,_,_,rfl⟩
   have hat:(st.zu.map ZL)[k]? = some (ZL (x,y,al)):=by rw[List.getElem?_map,List.getElem?_eq_getElem hk',hx];rfl
   rw[List.drop_eq_getElem_cons hk',hx] at hR
   simp only[JQ] at hR
   refine⟨zo,zo,?_⟩
   refine sW ?_
   refine⟨_,by rw[show 0+(k:Int).toNat=k by omega];exact hat,?_⟩
   refine sW ?_
   refine sX (zgp st zo out x) ?_
   refine sX (zgp st zo out y) ?_
   cases hx1:zcr st.nodes x with
   | none =>
    rw[hx1] at hR
    rw[show Q8 st.nodes x=-1 by unfold Q8 wQ;unfold zcr at hx1;rw[hx1]]
    subst hR
    simp only at hT
    subst hT
    refine sW ?_
    exact sP
   | some i =>
    rw[hx1] at hR
    rw[show Q8 st.nodes x=(i:Int) by unfold Q8 wQ;unfold zcr at hx1;rw[hx1]]
    rw[show decide ((i:Int)<0)=false by simp]
    refine sW ?_
    cases hy1:zcr st.nodes y with
    | none =>
     rw[hy1] at hR
     rw[show Q8 st.nodes y=-1 by unfold Q8 wQ;unfold zcr at hy1;rw[hy1]]
     subst hR
     simp only at hT
     subst hT
     refine sW ?_
     exact sP
    | some j =>
     rw[hy1] at hR
     rw[show Q8 st.nodes y=(j:Int) by unfold Q8 wQ;unfold zcr at hy1;rw[hy1]]
     rw[show decide ((j:Int)<0)=false by simp]
     refine sW ?_
     refine sJ ?_
     refine sI ?_
     refine⟨(k+1,out.length+1,out++[((i:Int),(j:Int))]),⟨hR,zo,by simp[ho],zs⟩,zd,?_⟩
     (refine zm 5 zs rfl ?_ ?_<;>(repeat' (first|exact trivial|exact rfl|exact ym.refl _|exact zX.refl _|exact zN.refl _|refine And.intro ?_ ?_|(simp[zt,zl,zF,-List.map_take,-List.map_drop];done))))
     all_goals first
      | exact zp (by rw[List.drop_zero,List.take_of_length_le zs,List.map_append];rfl)
      | exact zi _ (zC _ XE _)
      | exact zi _ (zC _ w7 _)
      | exact zi _ (zC _ (λx=>by simp[ZL,zb,Pure]) _)
  ·have hk':k=st.zu.length:=by have:¬k<st.zu.length:=sO
                               omega
   subst hk'
   rw[List.drop_length] at hR
   simp only[JQ] at hR
   subst hR
   simp only at hT
   have hC:=VQ ⟨st.nodes,out⟩ ⟨by show st.nodes.length≤_;omega,by show out.length≤_;omega,λx hx=>by have:=hnm x hx;omega⟩
   refine sN hC ?_
   by_cases h0:(ze.mk st.nodes out).yF=0
   ·rw[if_pos h0] at hT
    subst hT
    refine zle (by simp[h0]) ?_
    refine sW ?_
    exact .yP _ _ (.cons _ _ _ _ (.agg _ _ (.cons _ _ _ _ (.own 2 _ _ _ 2 true _ _ rfl (zcj zs)) (.cons _ _ _ _ (.own 4 _ _ _ 2 true _ _ rfl (zcj zs)) .nil))) (.cons _ _ _ _ (.refl _) (.cons _ _ _ _ (.refl _) .nil)))
   ·rw[if_neg h0] at hT
    subst hT
    refine znl (by simpa using h0) ?_
    refine sW ?_
    exact sP
end
section
open Go.RowKit
theorem cat3 (a b:ByteArray) (c:UInt8):a++⟨#[32]⟩++⟨#[c]⟩++⟨#[32]⟩++b=a++⟨#[32,c,32]⟩++b:=by
 rw[ByteArray.append_assoc (a:=a),ByteArray.append_assoc (a:=a)]
 rfl
theorem zgq:∀{ts:List Tree} {t:Tree},t∈ts→t.size≤Tree.ZK ts
 | a::r,t,h=>by
  simp only[Tree.ZK]
  rcases List.mem_cons.1 h with rfl|h
  ·omega
  ·have:=zgq h;omega
theorem zjP {t:Tree} {j:Nat} (hj:j<t.width):(t.yK j).size<t.size:=by
 have h:t.yK j∈t.kids:=by rw[Tree.vF hj];exact List.getElem_mem _
 have:=zgq h
 cases t
 simp only[Tree.size,Tree.kids] at this ⊢
 omega
def wM (names:List ByteArray) (bad:Bool):List D:=[xf names,.sc (.bool bad)]
theorem zT (names:List ByteArray) (bad:Bool):zb (wM names bad):=by simp[wM,zb,Pure,z6]
def c221:PC:=.seq (OP [Mv 6 cF]) (.seq (.seq (OP [qm 7 2]) (.block 0 (.seq (OP [Bi 9 .eql 7 (cI 5),qm 8 9]) (.cond 8 (.seq (OP [qm 10 0,Bi 11 .eql 10 (cI 6),qm 12 11,GF 13 12 (.move 0),GF 14 12 (.bin .eql 13 (cI 5)),GF 15 12 (.move 14),GT 16 15 (.move 1),GT 17 15 (.bin .eql 16 (cI 0)),GF 18 12 (.pick 15 17 cF),Pk 19 12 cT 18,qm 6 19]) .ret) (.seq (OP [Bi 21 .eql 7 (cI 6),qm 20 21]) (.cond 20 (.seq (OP [qm 22 0,Bi 23 .eql 22 (cI 6),qm 24 23,GT 25 24 (.move 1),GT 26 24 (.bin .eql 25 (cI 0)),Pk 27 24 26 cF,qm 6 27]) .ret) (.seq (.seq (OP [Bi 29 .eql 7 (cI 8),qm 28 29]) (.cond 28 .skip (OP [Bi 30 .eql 7 (cI 9),qm 28 30]))) (.cond 28 (.seq (OP [qm 31 0,qm 32 2,Bi 33 .eql 31 32,qm 34 33,GT 35 34 (.move 1),GT 36 34 (.bin .eql 35 (cI 1)),Pk 37 34 36 cF,qm 6 37]) .ret) .skip)))))))) (.seq (OP [Mv 6 cT]) .ret))
theorem zu6:zv Tryz.prog 221 38 [.tmp 6] c221:=fK Tryz.func221
def c176:PC:=.seq (OP [Bx 4 1,Mv 6 (cS #[])]) (.seq (OP [qm 8 0,Fa 9 2 4,Lo 10 9,qm 11 2,Ia 12 3 10 11,LA 13 3 12,Ca 14 113 [8,13],qm 7 14]) (.seq (.seq (.ops [Fa 15 0 4,qd 16 (.zg 15) 1,qm 17 2,Fa 18 2 4,qd 19 (.zg 18) 8,qm 20 2,qd 21 (.zM 3 19 20) 56,qd 22 (.zy 0 21) 120,qd 23 (.zg 22) 248,qd 24 (.call 221 [16,17,23]) 511] true) (.cond 24 (.seq (OP [qm 25 7,qm 6 25]) .ret) .skip)) (.seq (OP [qm 26 7,Bi 27 .add (cS #[40]) 26,Bi 28 .add 27 (cS #[41]),qm 6 28]) .ret)))
theorem zv2:zv Tryz.prog 176 29 [.tmp 6] c176:=fK Tryz.func176
def c113:PC:=.seq (OP [Bx 3 1,Mv 4 (cS #[])]) (.seq (.seq (OP [Fa 7 0 3,Lo 8 7]) (.block 0 (.seq (OP [Bi 10 .eql 8 (cI 1),qm 9 10]) (.cond 9 (.seq (OP [Mv 4 (cS #[116,114,117,101])]) .ret) (.seq (OP [Bi 12 .eql 8 (cI 2),qm 11 12]) (.cond 11 (.seq (OP [Mv 4 (cS #[102,97,108,115,101])]) .ret) (.seq (OP [Bi 14 .eql 8 (cI 3),qm 13 14]) (.cond 13 (.seq (.ops [Fa 15 1 3,qd 16 (.zg 15) 1,qm 17 0,qd 18 (.zq 17) 4,qd 19 (.zy 0 18) 12,qd 20 (.zg 19) 28,qd 21 (.call 175 [16,20]) 63,qw 5 21 127] true) (.seq (OP [qm 22 0,qm 23 0,q 24 (.zq 23),Fa 25 1 24,Lo 26 25,qm 27 26,GF 28 27 (.move 5),GF 29 27 (.bin .eql 28 (cS #[])),Pk 30 27 cT 29,q 31 (.zq 22),Fa 32 1 31,So 1 32 30]) (.seq (OP [qm 33 5,qm 4 33]) .ret))) (.seq (OP [Bi 35 .eql 8 (cI 4),qm 34 35]) (.cond 34 (.seq (OP [qm 36 0,LA 37 3 3,Ca 38 176 [36,37,(cI 0)],Bi 39 .add (cS #[33]) 38,qm 4 39]) .ret) (.seq (OP [Bi 41 .eql 8 (cI 7),qm 40 41]) (.cond 40 (.seq (OP [qm 42 0,LA 43 3 3,Ca 44 176 [42,43,(cI 0)],Bi 45 .add (cS #[88,32]) 44,qm 4 45]) .ret) (.seq (OP [Bi 47 .eql 8 (cI 10),qm 46 47]) (.cond 46 (.seq (OP [qm 48 0,LA 49 3 3,Ca 50 176 [48,49,(cI 0)],Bi 51 .add (cS #[70,32]) 50,qm 4 51]) .ret) (.seq (OP [Bi 53 .eql 8 (cI 11),qm 52 53]) (.cond 52 (.seq (OP [qm 54 0,LA 55 3 3,Ca 56 176 [54,55,(cI 0)],Bi 57 .add (cS #[71,32]) 56,qm 4 57]) .ret) .skip)))))))))))))))) (.seq (OP [q 58 (.build [(.string ⟨#[]⟩),(.string ⟨#[]⟩),(.string ⟨#[]⟩),(.string ⟨#[]⟩),(.string ⟨#[]⟩),(.string ⟨#[]⟩),(.string ⟨#[]⟩),(.string ⟨#[]⟩),(.string ⟨#[]⟩),(.string ⟨#[]⟩)] [(5,1,(cS #[38])),(6,1,(cS #[47])),(8,1,(cS #[85])),(9,1,(cS #[82]))]),Fa 59 0 3,Lo 60 59,q 61 (.zpx 10 1 false 58 60),qm 6 61]) (.seq (.ops [qm 62 0,LA 63 3 3,qd 64 (.call 176 [62,63,(cI 0)]) 3,qd 65 (.bin .add 64 (cS #[32])) 7,qm 66 6,qd 67 (.bin .add 65 66) 31,qd 68 (.bin .add 67 (cS #[32])) 63,qm 69 0,LA 70 3 3,qd 71 (.call 176 [69,70,(cI 1)]) 391,qd 72 (.bin .add 68 71) 1023,qw 4 72 2047] true) .ret)))
theorem zuX:zv Tryz.prog 113 73 [.tmp 4] c113:=fK Tryz.func113
theorem zra (k i c:Int):zn Tryz.prog 221 [.sc (.int .i64 k),.sc (.int .i64 i),.sc (.int .i64 c)] (.sc (.bool (zaq k i c))):=by
 refine za zu6 zs (by simp[zb,Pure]) ?_ (by simp[Pure])
 refine sR ?_
 repeat' (first
  | (first|(refine znl ‹_› ?_;((conv=>whnf);repeat(refine⟨rfl,?_⟩;conv=>whnf)))|(refine zle ‹_› ?_;((conv=>whnf);repeat(refine⟨rfl,?_⟩;conv=>whnf)))|(refine QO (λh=>?_) (λh=>?_)<;>(rw[h];((conv=>whnf);repeat(refine⟨rfl,?_⟩;conv=>whnf)))))
  | exact zR (congrArg (λb=>D.sc (.bool b)) (by unfold zaq;simp_all)))
theorem zwK (names:List ByteArray) (t:Tree) (j:Nat) (hj:j<t.width) (hsz:(XW names (t.yK j)).size≤1000000) (bad bad':Bool)
  (hT:yr Tryz.prog 113 ([]++.loc 0 0::[zQ (t.yK j)]) [.row true (wM names bad)] (.sc (.string (XW names (t.yK j)))) [.row true (wM names bad')]) :
  yr Tryz.prog 176 ([]++.loc 0 0::[zQ t,.sc (.int .i64 j)]) [.row true (wM names bad)] (.sc (.string (Z6 names t j))) [.row true (wM names bad')]:=by
 refine zS zv2 zs zs ?_ (by simp[zt]) (by simp[zf.under,zr _ (zT _ _)])
 refine sR ?_
 refine sL (xb hj) ?_
 refine sA (w8 hT (by simp[zb]) (by simp[zb,zh]) (zT _ _) (zT _ _) (by simp[Pure]) (H:=[.row true (wM names bad),.row true (yy t)]) (id:=0) rfl) ?_
 refine sL (xb hj) ?_
 refine sC (zra t.kind j (t.yK j).kind) ?_
 refine sS (λh=>?_) λh=>?_
 ·exact⟨congrArg (λs=>D.sc (.string s)) (by simp[Z6,YZ,h]),rfl,zs⟩
 ·refine⟨by simp only[ByteArray.size_append,yW,List.size_toArray,List.length_cons,List.length_nil];omega,?_⟩
  refine sW ?_
  refine⟨by simp only[ByteArray.size_append,yW,List.size_toArray,List.length_cons,List.length_nil];omega,?_⟩
  refine sW ?_
  exact⟨congrArg (λs=>D.sc (.string s)) (by simp[Z6,YZ,h]),rfl,zs⟩
theorem zrw (names:List ByteArray) (hn:qG names):∀t:Tree,t.wf zU→t.size≤60→∀bad:Bool,
  yr Tryz.prog 113 ([]++.loc 0 0::[zQ t]) [.row true (wM names bad)] (.sc (.string (XW names t))) [.row true (wM names (bad||!Z3 names t))]:=by
 intro t
 induction t using Tree.ind with
 | h t ih =>
  intro hwf hsz bad
  have hs:=W5 t hwf
  have har:=uk ((xO _ _).1 hwf).1
  have hnum:0≤t.num:=by have:=((xO _ _).1 hwf).1;unfold yI at this;omega
  have tsz:∀j,j<t.width→(XW names (t.yK j)).size≤720∧(t.yK j).size≤60:=λj hj=>by
   have h1:=zqj names (t.yK j)
   have h2:=zjP hj
   omega
  have hkid:∀j,j<t.width→∀bad:Bool,yr Tryz.prog 176 ([]++.loc 0 0::[zQ t,.sc (.int .i64 j)]) [.row true (wM names bad)] (.sc (.string (Z6 names t j))) [.row true (wM names (bad||!Z3 names (t.yK j)))] :=
   λj hj bad=>zwK names t j hj (by have:=tsz j hj;omega) bad _ (ih j hj (xG hwf hj) (tsz j hj).2 bad)
  have ksz:∀j,j<t.width→(Z6 names t j).size≤722:=λj hj=>by
   have:=Zq (zaq t.kind j (t.yK j).kind) (XW names (t.yK j))
   have:=tsz j hj
   unfold Z6
   omega
  clear ih
  refine zS zuX zs zs ?_ (by simp[zt]) (by simp[zf.under,zr _ (zT _ _)])
  refine sR ?_
  have fin:∀{s:ByteArray} {b:Bool} {r:List D},s=XW names t→b=(bad||!Z3 names t)→(D.sc (.string s)=.sc (.string (XW names t))∧List.take 1 [zf.row true [xf names,.sc (.bool b)],.row true r]=[zf.row true (wM names (bad||!Z3 names t))]∧[zf.row true (wM names (bad||!Z3 names t))].length≤2):=λh1 h2=>by
   subst h1 h2;exact⟨rfl,rfl,zs⟩
  have zero:t.width=0→XW names t=Q3 names t.kind t.num ⟨#[]⟩ ⟨#[]⟩∧Z3 names t=qD names t.kind t.num:=λh=>⟨zyM names h,zx1 names h⟩
  refine sS (λh1=>?_) λh1=>?_
  ·have hk:t.kind=1:=sO
   have:=zero zo
   exact fin (by rw[this.1,hk];rfl) (by rw[this.2,hk];simp[qD])
  refine sS (λh2=>?_) λh2=>?_
  ·have hk:t.kind=2:=sO
   have:=zero zo
   exact fin (by rw[this.1,hk];rfl) (by rw[this.2,hk];simp[qD])
  refine sS (λh3=>?_) λh3=>?_
  ·have hk:t.kind=3:=sO
   have:=zero zo
   refine sC (zsc names hn t.num hnum) ?_
   cases bad
   ·refine sW ?_
    exact fin (by rw[this.1,hk];rfl) (by rw[this.2,hk];show ZQ (nm names t.num) ⟨#[]⟩=_;simp only[qD];cases ZQ (nm names t.num) ⟨#[]⟩<;>rfl)
   ·refine sW ?_
    exact fin (by rw[this.1,hk];rfl) zs
  clear zero
  have one:t.width=1→XW names t=Q3 names t.kind t.num (Z6 names t 0) ⟨#[]⟩∧Z3 names t=Z3 names (t.yK 0):=λh=>⟨zy2 names h,zx2 names h (sO)⟩
  refine sS (λh4=>?_) λh4=>?_
  ·have hk:t.kind=4:=sO
   have hw:t.width=1:=zo
   have:=one hw
   have:=ksz 0 zo
   refine sA (w8 (hkid 0 zo bad) (by simp[zb]) (by simp[zb,zh,Pure]) (zT _ _) (zT _ _) (by simp[Pure]) (H:=[.row true (wM names bad),.row true (yy t)]) (id:=0) rfl) ?_
   refine⟨by simp only[ByteArray.size_append,yW,List.size_toArray,List.length_cons,List.length_nil];omega,?_⟩
   refine sW ?_
   exact fin (by rw[(one hw).1,hk];rfl) (by rw[(one hw).2])
  refine sS (λh5=>?_) λh5=>?_
  ·have hk:t.kind=7:=sO
   have hw:t.width=1:=zo
   have:=one hw
   have:=ksz 0 zo
   refine sA (w8 (hkid 0 zo bad) (by simp[zb]) (by simp[zb,zh,Pure]) (zT _ _) (zT _ _) (by simp[Pure]) (H:=[.row true (wM names bad),.row true (yy t)]) (id:=0) rfl) ?_
   refine⟨by simp only[ByteArray.size_append,yW,List.size_toArray,List.length_cons,List.length_nil];omega,?_⟩
   refine sW ?_
   exact fin (by rw[(one hw).1,hk];rfl) (by rw[(one hw).2])
  refine sS (λh6=>?_) λh6=>?_
  ·have hk:t.kind=10:=sO
   have hw:t.width=1:=zo
   have:=one hw
   have:=ksz 0 zo
   refine sA (w8 (hkid 0 zo bad) (by simp[zb]) (by simp[zb,zh,Pure]) (zT _ _) (zT _ _) (by simp[Pure]) (H:=[.row true (wM names bad),.row true (yy t)]) (id:=0) rfl) ?_
   refine⟨by simp only[ByteArray.size_append,yW,List.size_toArray,List.length_cons,List.length_nil];omega,?_⟩
   refine sW ?_
   exact fin (by rw[(one hw).1,hk];rfl) (by rw[(one hw).2])
  refine sS (λh7=>?_) λh7=>?_
  ·have hk:t.kind=11:=sO
   have hw:t.width=1:=zo
   have:=one hw
   have:=ksz 0 zo
   refine sA (w8 (hkid 0 zo bad) (by simp[zb]) (by simp[zb,zh,Pure]) (zT _ _) (zT _ _) (by simp[Pure]) (H:=[.row true (wM names bad),.row true (yy t)]) (id:=0) rfl) ?_
   refine⟨by simp only[ByteArray.size_append,yW,List.size_toArray,List.length_cons,List.length_nil];omega,?_⟩
   refine sW ?_
   exact fin (by rw[(one hw).1,hk];rfl) (by rw[(one hw).2])
  clear one
  have hw:t.width=2:=sO
  have k0:=ksz 0 zo
  have k1:=ksz 1 zo
  have e1:=zAm names hw
  have e2:=zx0 names hw (sO)
  have hk:t.kind=5∨t.kind=6∨t.kind=8∨t.kind=9:=sO
  refine⟨zo,zo,?_⟩
  have two:∀{c:UInt8} {r:List D},Q3 names t.kind t.num (Z6 names t 0) (Z6 names t 1)=Z6 names t 0++⟨#[32,c,32]⟩++Z6 names t 1 →
    (D.sc (.string (Z6 names t 0++⟨#[32]⟩++⟨#[c]⟩++⟨#[32]⟩++Z6 names t 1))=.sc (.string (XW names t))∧List.take 1 [zf.row true [xf names,.sc (.bool ((bad||!Z3 names (t.yK 0))||!Z3 names (t.yK 1)))],.row true r]=[zf.row true (wM names (bad||!Z3 names t))]∧[zf.row true (wM names (bad||!Z3 names t))].length≤2):=λh =>
   fin (by rw[cat3,e1,h]) (by rw[e2];cases bad<;>cases Z3 names (t.yK 0)<;>rfl)
  clear fin
  have A0:=x9 (hkid 0 zo bad) (by simp[zb]) (by simp[zb,zh,Pure]) (zT _ _) (zT _ _) (by simp[Pure]) (H:=[.row true (wM names bad),.row true (yy t)]) (id:=0) rfl
  have A1:=x9 (hkid 1 zo (bad||!Z3 names (t.yK 0))) (by simp[zb]) (by simp[zb,zh,Pure]) (zT _ _) (zT _ _) (by simp[Pure]) (H:=[.row true (wM names (bad||!Z3 names (t.yK 0))),.row true (yy t)]) (id:=0) rfl
  rcases hk with hk|hk|hk|hk
  all_goals
   refine⟨_,by rw[hk];rfl,?_⟩
   refine sW ?_
   refine sE A0 ?_
   refine⟨by simp only[ByteArray.size_append,yW,List.size_toArray,List.length_cons,List.length_nil];omega,?_⟩
   refine sW ?_
   refine⟨by simp only[ByteArray.size_append,yW,List.size_toArray,List.length_cons,List.length_nil];omega,?_⟩
   refine sW ?_
   refine⟨by simp only[ByteArray.size_append,yW,List.size_toArray,List.length_cons,List.length_nil];omega,?_⟩
   refine sW ?_
   refine sE A1 ?_
   refine⟨by simp only[ByteArray.size_append,yW,List.size_toArray,List.length_cons,List.length_nil];omega,?_⟩
   refine sW ?_
   exact two (by rw[hk];rfl)
def c61:PC:=.seq (OP [Bx 2 0,Mv 4 (cS #[]),Mv 5 (cI 0)]) (.seq (.seq (OP [LA 9 3 2,Ca 10 43 [9],qm 6 10]) (.seq (OP [qm 11 6,Bi 12 .neq 11 (cI 0)]) (.cond 12 (.seq (OP [qm 13 6,Mv 4 (cS #[]),qm 5 13]) .ret) .skip))) (.seq (OP [qm 14 1,q 15 (.build [(.slice none 0 0),(.bool false)] [(0,1,14)]),Bx 16 15,qm 7 16]) (.seq (OP [qm 17 7,LA 18 3 2,Ca 19 113 [17,18],qm 8 19]) (.seq (.seq (OP [qm 20 7,q 21 (.zq 20),Fa 22 1 21,Lo 23 22]) (.cond 23 (.seq (OP [Mv 4 (cS #[]),Mv 5 (cI 4)]) .ret) .skip)) (.seq (OP [qm 24 8,qm 4 24,Mv 5 (cI 0)]) .ret)))))
theorem zBJ:zv Tryz.prog 61 25 [.tmp 4,.tmp 5] c61:=fK Tryz.func61
noncomputable def W3 (names:List ByteArray) (t:Tree):D :=
 if yF zU t=0 then (if Z3 names t then .yP [.sc (.string (XW names t)),.sc (.int .i64 0)] else .yP [.sc (.string ⟨#[]⟩),.sc (.int .i64 4)]) else .yP [.sc (.string ⟨#[]⟩),.sc (.int .i64 (yF zU t))]
theorem zoI (names:List ByteArray) (hn:qG names) (t:Tree) (hs:Small t):zn Tryz.prog 61 [zQ t,xf names] (W3 names t):=by
 refine za zBJ zs (by simp[zb,zh,z6]) ?_ (by unfold W3;(repeat' split)<;>simp[Pure,zb])
 refine sR ?_
 refine sC (Ys t hs) ?_
 refine sS (λh1=>?_) λh1=>?_
 ·have h:¬yF zU t=0:=sO
  unfold W3
  rw[if_neg h]
  exact sP
 ·have h:yF zU t=0:=sO
  have hz:=(ZU _ _).1 h
  unfold W3
  rw[if_pos h]
  refine sA (w8 (zrw names hn t hz.2.2 hz.1 false) (by simp[zb]) (by simp[zb,zh]) (zT _ _) (zT _ _) (by simp[Pure]) (H:=[.row true (yy t),.row true (wM names false)]) (id:=1) rfl) ?_
  cases hk:Z3 names t
  ·refine sW ?_
   exact sP
  ·refine sW ?_
   exact sP
end
section
open Go.RowKit
theorem zm2 {t:Tree} (h:¬yI xN t):(t.kind=1∨t.kind=2∨t.kind=3)∧t.width=0∨(t.kind=4∨t.kind=7∨t.kind=8∨t.kind=9∨t.kind=11∨t.kind=12∨t.kind=13)∧t.width=1∨(t.kind=5∨t.kind=6∨t.kind=10∨t.kind=14)∧t.width=2:=by
 unfold yI xN at h
 (repeat' split at h)<;>omega
theorem zoH:∀t:Tree,t.wf xN→Small t:=by
 intro t
 induction t using Tree.ind with
 | h t ih =>
  intro hw
  refine .mk t ?_ λj hj=>ih j hj (xG hw hj)
  have:=zm2 ((xO _ _).1 hw).1
  omega
def c222:PC:=.seq (OP [Mv 6 cF]) (.seq (.seq (OP [qm 7 2]) (.block 0 (.seq (OP [Bi 9 .eql 7 (cI 5),qm 8 9]) (.cond 8 (.seq (OP [qm 10 0,Bi 11 .eql 10 (cI 6),qm 12 11,GF 13 12 (.move 0),GF 14 12 (.bin .eql 13 (cI 5)),GF 15 12 (.move 14),GT 16 15 (.move 1),GT 17 15 (.bin .eql 16 (cI 0)),GF 18 12 (.pick 15 17 cF),Pk 19 12 cT 18,qm 6 19]) .ret) (.seq (OP [Bi 21 .eql 7 (cI 6),qm 20 21]) (.cond 20 (.seq (OP [qm 22 0,Bi 23 .eql 22 (cI 6),qm 24 23,GT 25 24 (.move 1),GT 26 24 (.bin .eql 25 (cI 0)),Pk 27 24 26 cF,qm 6 27]) .ret) .skip)))))) (.seq (OP [Mv 6 cT]) .ret))
theorem zul:zv Tryz.prog 222 28 [.tmp 6] c222:=fK Tryz.func222
def c177:PC:=.seq (OP [Mv 4 (cS #[])]) (.seq (.seq (OP [qm 5 1,Bi 6 .eql 5 (cI 63)]) (.cond 6 (.seq (OP [Mv 4 (cS #[115,105,108,101,110,116])]) .ret) .skip)) (.seq (.seq (.ops [qm 7 1,qm 8 0,qd 9 (.zq 8) 2,qd 10 (.zy 0 9) 6,qd 11 (.zg 10) 14,qd 12 (.len 11) 30,qd 13 (.bin .geq 7 12) 63,qw 14 13 127,⟨some 15,.move 0,some (14,false),255⟩,⟨some 16,.zq 15,some (14,false),511⟩,⟨some 17,.zy 0 16,some (14,false),1023⟩,⟨some 18,.zg 17,some (14,false),2047⟩,⟨some 19,.move 1,some (14,false),255⟩,⟨some 20,.zM 1 18 19,some (14,false),8191⟩,⟨some 21,.zg 20,some (14,false),16383⟩,⟨some 22,.call 23 [21],some (14,false),32767⟩,⟨some 23,.un .not 22,some (14,false),65535⟩,qd 24 (.pick 14 cT 23) 131071,qw 25 24 262143,⟨some 26,.move 0,some (25,false),524287⟩,⟨some 27,.zq 26,some (25,false),1048575⟩,⟨some 28,.zy 0 27,some (25,false),2097151⟩,⟨some 29,.zg 28,some (25,false),4194303⟩,⟨some 30,.move 0,some (25,false),524287⟩,⟨some 31,.zq 30,some (25,false),8912895⟩,⟨some 32,.zy 0 31,some (25,false),25690111⟩,⟨some 33,.zg 32,some (25,false),59244543⟩,⟨some 34,.move 1,some (25,false),524287⟩,⟨some 35,.zM 1 33 34,some (25,false),260571135⟩,⟨some 36,.zg 35,some (25,false),529006591⟩,⟨some 37,.call 115 [29,36],some (25,false),1073741823⟩,⟨some 38,.move 1,some (25,false),524287⟩,⟨some 39,.bin .neq 37 38,some (25,false),4294967295⟩,qd 40 (.pick 25 cT 39) 8589934591] true) (.cond 40 (.seq (OP [qm 41 0,q 42 (.zq 41),Fa 43 1 42,So 1 43 cT]) (.seq (OP [Mv 4 (cS #[])]) .ret)) .skip)) (.seq (OP [qm 44 0,q 45 (.zq 44),Fa 46 0 45,Lo 47 46,qm 48 1,Ia 49 1 47 48,Lo 50 49,qm 4 50]) .ret)))
theorem zu0:zv Tryz.prog 177 51 [.tmp 4] c177:=fK Tryz.func177
def c178:PC:=.seq (OP [Bx 4 1,Mv 6 (cS #[])]) (.seq (OP [qm 8 0,Fa 9 2 4,Lo 10 9,qm 11 2,Ia 12 3 10 11,LA 13 3 12,Ca 14 114 [8,13],qm 7 14]) (.seq (.seq (.ops [Fa 15 0 4,qd 16 (.zg 15) 1,qm 17 2,Fa 18 2 4,qd 19 (.zg 18) 8,qm 20 2,qd 21 (.zM 3 19 20) 56,qd 22 (.zy 0 21) 120,qd 23 (.zg 22) 248,qd 24 (.call 222 [16,17,23]) 511] true) (.cond 24 (.seq (OP [qm 25 7,qm 6 25]) .ret) .skip)) (.seq (OP [qm 26 7,Bi 27 .add (cS #[40]) 26,Bi 28 .add 27 (cS #[41]),qm 6 28]) .ret)))
theorem zwQ:zv Tryz.prog 178 29 [.tmp 6] c178:=fK Tryz.func178
def c114:PC:=.seq (OP [Bx 3 1,Mv 4 (cS #[])]) (.seq (.seq (OP [Fa 5 0 3,Lo 6 5]) (.block 0 (.seq (OP [Bi 8 .eql 6 (cI 1),qm 7 8]) (.cond 7 (.seq (OP [Mv 4 (cS #[116,114,117,101])]) .ret) (.seq (OP [Bi 10 .eql 6 (cI 2),qm 9 10]) (.cond 9 (.seq (OP [Mv 4 (cS #[102,97,108,115,101])]) .ret) (.seq (OP [Bi 12 .eql 6 (cI 3),qm 11 12]) (.cond 11 (.seq (OP [qm 13 0,Fa 14 1 3,Lo 15 14,Ca 16 177 [13,15],qm 4 16]) .ret) (.seq (OP [Bi 18 .eql 6 (cI 5),qm 17 18]) (.cond 17 (.seq (.ops [qm 19 0,LA 20 3 3,qd 21 (.call 178 [19,20,(cI 0)]) 3,qd 22 (.bin .add 21 (cS #[32,38,32])) 7,qm 23 0,LA 24 3 3,qd 25 (.call 178 [23,24,(cI 1)]) 55,qd 26 (.bin .add 22 25) 127,qw 4 26 255] true) .ret) (.seq (OP [Bi 28 .eql 6 (cI 6),qm 27 28]) (.cond 27 (.seq (.ops [qm 29 0,LA 30 3 3,qd 31 (.call 178 [29,30,(cI 0)]) 3,qd 32 (.bin .add 31 (cS #[32,47,32])) 7,qm 33 0,LA 34 3 3,qd 35 (.call 178 [33,34,(cI 1)]) 55,qd 36 (.bin .add 32 35) 127,qw 4 36 255] true) .ret) (.seq (OP [Bi 38 .eql 6 (cI 10),qm 37 38]) (.cond 37 (.seq (.ops [qm 39 0,Fa 40 2 3,qd 41 (.zg 40) 2,qd 42 (.zM 3 41 (cI 0)) 6,qd 43 (.vC 3 42) 14,qd 44 (.call 114 [39,43]) 31,qd 45 (.bin .add (cS #[69,32,91]) 44) 63,qd 46 (.bin .add 45 (cS #[32,85,32])) 127,qm 47 0,Fa 48 2 3,qd 49 (.zg 48) 512,qd 50 (.zM 3 49 (cI 1)) 1536,qd 51 (.vC 3 50) 3584,qd 52 (.call 114 [47,51]) 7999,qd 53 (.bin .add 46 52) 16383,qd 54 (.bin .add 53 (cS #[93])) 32767,qw 4 54 65535] true) .ret) (.seq (OP [Bi 56 .eql 6 (cI 14),qm 55 56]) (.cond 55 (.seq (.ops [qm 57 0,Fa 58 2 3,qd 59 (.zg 58) 2,qd 60 (.zM 3 59 (cI 0)) 6,qd 61 (.vC 3 60) 14,qd 62 (.call 114 [57,61]) 31,qd 63 (.bin .add (cS #[65,32,91]) 62) 63,qd 64 (.bin .add 63 (cS #[32,85,32])) 127,qm 65 0,Fa 66 2 3,qd 67 (.zg 66) 512,qd 68 (.zM 3 67 (cI 1)) 1536,qd 69 (.vC 3 68) 3584,qd 70 (.call 114 [65,69]) 7999,qd 71 (.bin .add 64 70) 16383,qd 72 (.bin .add 71 (cS #[93])) 32767,qw 4 72 65535] true) .ret) .skip)))))))))))))))) (.seq (.ops [Fa 73 0 3,qd 74 (.zg 73) 1,qd 75 (.call 179 [74]) 3,qm 76 0,LA 77 3 3,qd 78 (.call 178 [76,77,(cI 0)]) 31,qd 79 (.bin .add 75 78) 63,qw 4 79 127] true) .ret))
theorem zxz:zv Tryz.prog 114 80 [.tmp 4] c114:=fK Tryz.func114
def c179:PC:=.seq (OP [Mv 2 (cS #[])]) (.seq (OP [q 3 (.build [(.string ⟨#[]⟩),(.string ⟨#[]⟩),(.string ⟨#[]⟩),(.string ⟨#[]⟩),(.string ⟨#[]⟩),(.string ⟨#[]⟩),(.string ⟨#[]⟩),(.string ⟨#[]⟩),(.string ⟨#[]⟩),(.string ⟨#[]⟩),(.string ⟨#[]⟩),(.string ⟨#[]⟩),(.string ⟨#[]⟩),(.string ⟨#[]⟩)] [(4,1,(cS #[33])),(7,1,(cS #[69,88,32])),(8,1,(cS #[69,70,32])),(9,1,(cS #[69,71,32])),(11,1,(cS #[65,88,32])),(12,1,(cS #[65,70,32])),(13,1,(cS #[65,71,32]))]),qm 4 0,q 5 (.zpx 14 1 false 3 4),qm 2 5]) .ret)
theorem V7:zv Tryz.prog 179 6 [.tmp 2] c179:=fK Tryz.func179
theorem zrd (k i c:Int):zn Tryz.prog 222 [.sc (.int .i64 k),.sc (.int .i64 i),.sc (.int .i64 c)] (.sc (.bool (zhP k i c))):=by
 refine za zul zs (by simp[zb,Pure]) ?_ (by simp[Pure])
 refine sR ?_
 repeat' (first
  | (first|(refine znl ‹_› ?_;((conv=>whnf);repeat(refine⟨rfl,?_⟩;conv=>whnf)))|(refine zle ‹_› ?_;((conv=>whnf);repeat(refine⟨rfl,?_⟩;conv=>whnf)))|(refine QO (λh=>?_) (λh=>?_)<;>(rw[h];((conv=>whnf);repeat(refine⟨rfl,?_⟩;conv=>whnf)))))
  | exact zR (congrArg (λb=>D.sc (.bool b)) (by unfold zhP;simp_all)))
theorem zo2:zn Tryz.prog 179 [.sc (.int .i64 4)] (.sc (.string ⟨#[33]⟩)):=by
 refine za V7 zs (by simp[zb,Pure]) ?_ (by simp[Pure])
 refine sR ?_
 refine⟨zo,zo,_,rfl,?_⟩
 refine sW ?_
 exact sP
theorem zo5:zn Tryz.prog 179 [.sc (.int .i64 7)] (.sc (.string ⟨#[69,88,32]⟩)):=by
 refine za V7 zs (by simp[zb,Pure]) ?_ (by simp[Pure])
 refine sR ?_
 refine⟨zo,zo,_,rfl,?_⟩
 refine sW ?_
 exact sP
theorem zpT:zn Tryz.prog 179 [.sc (.int .i64 8)] (.sc (.string ⟨#[69,70,32]⟩)):=by
 refine za V7 zs (by simp[zb,Pure]) ?_ (by simp[Pure])
 refine sR ?_
 refine⟨zo,zo,_,rfl,?_⟩
 refine sW ?_
 exact sP
theorem zoY:zn Tryz.prog 179 [.sc (.int .i64 9)] (.sc (.string ⟨#[69,71,32]⟩)):=by
 refine za V7 zs (by simp[zb,Pure]) ?_ (by simp[Pure])
 refine sR ?_
 refine⟨zo,zo,_,rfl,?_⟩
 refine sW ?_
 exact sP
theorem zlk:zn Tryz.prog 179 [.sc (.int .i64 11)] (.sc (.string ⟨#[65,88,32]⟩)):=by
 refine za V7 zs (by simp[zb,Pure]) ?_ (by simp[Pure])
 refine sR ?_
 refine⟨zo,zo,_,rfl,?_⟩
 refine sW ?_
 exact sP
theorem zmF:zn Tryz.prog 179 [.sc (.int .i64 12)] (.sc (.string ⟨#[65,70,32]⟩)):=by
 refine za V7 zs (by simp[zb,Pure]) ?_ (by simp[Pure])
 refine sR ?_
 refine⟨zo,zo,_,rfl,?_⟩
 refine sW ?_
 exact sP
theorem zmo:zn Tryz.prog 179 [.sc (.int .i64 13)] (.sc (.string ⟨#[65,71,32]⟩)):=by
 refine za V7 zs (by simp[zb,Pure]) ?_ (by simp[Pure])
 refine sR ?_
 refine⟨zo,zo,_,rfl,?_⟩
 refine sW ?_
 exact sP
theorem ztb (names:List ByteArray) (hs:qG names) (n:Int) (hn:0≤n) (bad:Bool) :
  yr Tryz.prog 177 ([]++.loc 0 0::[.sc (.int .i64 n)]) [.row true (wM names bad)] (.sc (.string (nm names n))) [.row true (wM names (bad||ZQ (nm names n) ⟨#[]⟩))]:=by
 refine zS zu0 zs zs ?_ (by simp[zt]) (by simp[zf.under,zr _ (zT _ _)])
 unfold wM xf
 refine sR ?_
 have vZ:∀{s:ByteArray},s=nm names n→ZQ s ⟨#[]⟩=false→(D.sc (.string s)=.sc (.string (nm names n))∧List.take 1 [zf.row true [.xl 1 (names.map λs=>[.sc (.string s)]),.sc (.bool bad)]]=[zf.row true [.xl 1 (names.map λs=>[.sc (.string s)]),.sc (.bool (bad||ZQ (nm names n) ⟨#[]⟩))]]∧1≤1):=λh h'=>by
  subst h;rw[h'];simp
 have none_:nm names n=⟨#[]⟩→(D.sc (.string ⟨#[]⟩)=.sc (.string (nm names n))∧List.take 1 [zf.row true [.xl 1 (names.map λs=>[.sc (.string s)]),.sc (.bool true)]]=[zf.row true [.xl 1 (names.map λs=>[.sc (.string s)]),.sc (.bool (bad||ZQ (nm names n) ⟨#[]⟩))]]∧1≤1):=λh=>by
  rw[h];simp
 refine sS (λh1=>?_) λh1=>?_
 ·exact vZ (by simp only[beq_iff_eq] at h1;simp[nm,h1,Xk]) (by rw[←Bool.not_eq_true,zbx];decide)
 have h1:n≠63:=sO
 rw[List.length_map]
 refine sS (λh2=>?_) λh2=>?_
 ·exact none_ (by have:(names.length:Int)≤n:=sO
                  simp[nm,h1,this])
 have h2:¬(names.length:Int)≤n:=sO
 have hk:n.toNat<names.length:=zo
 refine⟨hn,_,WH hk,?_⟩
 refine sW ?_
 refine sC (Yg _ (hs.at hk)) ?_
 refine sS (λh3=>?_) λh3=>?_
 ·exact none_ (by have:xd (names.getD n.toNat ⟨#[]⟩)=false:=by simpa using h3
                  unfold nm;rw[if_neg h1,if_neg h2,if_pos this])
 have h3:¬xd (names.getD n.toNat ⟨#[]⟩)=false:=by simpa using h3
 refine⟨hn,_,WH hk,?_⟩
 refine sW ?_
 refine sC (zbu names _ hs.1) ?_
 have hd:=zia hk
 rw[show(n.toNat:Int)=n by omega] at hd
 refine sS (λh4=>?_) λh4=>?_
 ·exact none_ (by have:J6 names n.toNat (names.getD n.toNat ⟨#[]⟩)=true:=hd.1 (by simpa using h4)
                  unfold nm;rw[if_neg h1,if_neg h2,if_neg h3,if_pos this])
 ·refine⟨hn,_,WH hk,?_⟩
  refine sW ?_
  exact vZ (by have:¬J6 names n.toNat (names.getD n.toNat ⟨#[]⟩)=true:=λh=>hd.2 h (by simpa using h4)
               unfold nm;rw[if_neg h1,if_neg h2,if_neg h3,if_neg this]) (by
               have:xd (names.getD n.toNat ⟨#[]⟩)=true:=by simpa using h3
               unfold xd at this
               simp only[Bool.and_eq_true,Bool.not_eq_true'] at this
               exact this.1.1.1.1.1)
theorem zuj (names:List ByteArray) (t:Tree) (j:Nat) (hj:j<t.width) (hsz:(Z4 names (t.yK j)).size≤1000000) (bad bad':Bool)
  (hT:yr Tryz.prog 114 ([]++.loc 0 0::[zQ (t.yK j)]) [.row true (wM names bad)] (.sc (.string (Z4 names (t.yK j)))) [.row true (wM names bad')]) :
  yr Tryz.prog 178 ([]++.loc 0 0::[zQ t,.sc (.int .i64 j)]) [.row true (wM names bad)] (.sc (.string (YZ (zhP t.kind j (t.yK j).kind) (Z4 names (t.yK j))))) [.row true (wM names bad')]:=by
 refine zS zwQ zs zs ?_ (by simp[zt]) (by simp[zf.under,zr _ (zT _ _)])
 refine sR ?_
 refine sL (xb hj) ?_
 refine sA (w8 hT (by simp[zb]) (by simp[zb,zh]) (zT _ _) (zT _ _) (by simp[Pure]) (H:=[.row true (wM names bad),.row true (yy t)]) (id:=0) rfl) ?_
 refine sL (xb hj) ?_
 refine sC (zrd t.kind j (t.yK j).kind) ?_
 refine sS (λh=>?_) λh=>?_
 ·first|exact⟨congrArg (λs=>D.sc (.string s)) (by simp[YZ,h]),rfl,zs⟩|simp
 ·refine⟨by simp only[ByteArray.size_append,yW,List.size_toArray,List.length_cons,List.length_nil];omega,?_⟩
  refine sW ?_
  refine⟨by simp only[ByteArray.size_append,yW,List.size_toArray,List.length_cons,List.length_nil];omega,?_⟩
  refine sW ?_
  first|exact⟨congrArg (λs=>D.sc (.string s)) (by simp[YZ,h]),rfl,zs⟩|simp
theorem zsj (names:List ByteArray) (hn:qG names):∀t:Tree,t.wf xN→t.size≤60→∀bad:Bool,
  yr Tryz.prog 114 ([]++.loc 0 0::[zQ t]) [.row true (wM names bad)] (.sc (.string (Z4 names t))) [.row true (wM names (bad||!Z3 names t))]:=by
 intro t
 induction t using Tree.ind with
 | h t ih =>
  intro hwf hsz bad
  have hs:=zoH t hwf
  have har:=zm2 ((xO _ _).1 hwf).1
  have hnum:0≤t.num:=by have:=((xO _ _).1 hwf).1;unfold yI at this;omega
  have tsz:∀j,j<t.width→(Z4 names (t.yK j)).size≤720∧(t.yK j).size≤60:=λj hj=>by
   have h1:=zpd names (t.yK j)
   have h2:=zjP hj
   omega
  have htxt:∀j,j<t.width→∀bad:Bool,yr Tryz.prog 114 ([]++.loc 0 0::[zQ (t.yK j)]) [.row true (wM names bad)] (.sc (.string (Z4 names (t.yK j)))) [.row true (wM names (bad||!Z3 names (t.yK j)))] :=
   λj hj bad=>ih j hj (xG hwf hj) (tsz j hj).2 bad
  have hkid:∀j,j<t.width→¬(t.kind=10∨t.kind=14)→∀bad:Bool,yr Tryz.prog 178 ([]++.loc 0 0::[zQ t,.sc (.int .i64 j)]) [.row true (wM names bad)] (.sc (.string (ZT names t j))) [.row true (wM names (bad||!Z3 names (t.yK j)))] :=
   λj hj hno bad=>by
    have:=zuj names t j hj (by have:=tsz j hj;omega) bad _ (htxt j hj bad)
    unfold ZT Ud
    rw[if_neg hno]
    exact this
  have ksz:∀j,j<t.width→(ZT names t j).size≤722:=λj hj=>by
   have:=Zq (Ud t.kind j (t.yK j).kind) (Z4 names (t.yK j))
   have:=tsz j hj
   unfold ZT
   omega
  clear ih
  refine zS zxz zs zs ?_ (by simp[zt]) (by simp[zf.under,zr _ (zT _ _)])
  refine sR ?_
  have fin:∀{s:ByteArray} {b:Bool} {r:List D},s=Z4 names t→b=(bad||!Z3 names t)→(D.sc (.string s)=.sc (.string (Z4 names t))∧List.take 1 [zf.row true [xf names,.sc (.bool b)],.row true r]=[zf.row true (wM names (bad||!Z3 names t))]∧[zf.row true (wM names (bad||!Z3 names t))].length≤2):=λh1 h2=>by
   subst h1 h2;exact⟨rfl,rfl,zs⟩
  have zero:t.width=0→Z4 names t=zaC names t.kind t.num ⟨#[]⟩ ⟨#[]⟩∧Z3 names t=qD names t.kind t.num:=λh=>⟨zAC names h,zx1 names h⟩
  refine sS (λh1=>?_) λh1=>?_
  ·have hk:t.kind=1:=sO
   have:=zero zo
   exact fin (by rw[this.1,hk];rfl) (by rw[this.2,hk];simp[qD])
  refine sS (λh2=>?_) λh2=>?_
  ·have hk:t.kind=2:=sO
   have:=zero zo
   exact fin (by rw[this.1,hk];rfl) (by rw[this.2,hk];simp[qD])
  refine sS (λh3=>?_) λh3=>?_
  ·have hk:t.kind=3:=sO
   have:=zero zo
   refine sA (w8 (ztb names hn t.num hnum bad) (by simp[zb]) (by simp[zb,Pure]) (zT _ _) (zT _ _) (by simp[Pure]) (H:=[.row true (wM names bad),.row true (yy t)]) (id:=0) rfl) ?_
   exact fin (by rw[this.1,hk];rfl) (by rw[this.2,hk];simp only[qD];cases ZQ (nm names t.num) ⟨#[]⟩<;>cases bad<;>rfl)
  clear zero
  have two:t.width=2→Z4 names t=zaC names t.kind t.num (ZT names t 0) (ZT names t 1)∧(bad||!Z3 names t)=((bad||!Z3 names (t.yK 0))||!Z3 names (t.yK 1)):=λh=>⟨zyB names h,by
   rw[zx0 names h (sO)];cases bad<;>cases Z3 names (t.yK 0)<;>rfl⟩
  refine sS (λh4=>?_) λh4=>?_
  ·have hk:t.kind=5:=sO
   have hw:t.width=2:=zo
   have k0:=ksz 0 zo
   have k1:=ksz 1 zo
   refine sE (x9 (hkid 0 zo zo bad) (by simp[zb]) (by simp[zb,zh,Pure]) (zT _ _) (zT _ _) (by simp[Pure]) (H:=[.row true (wM names bad),.row true (yy t)]) (id:=0) rfl) ?_
   refine⟨by simp only[ByteArray.size_append,yW,List.size_toArray,List.length_cons,List.length_nil];omega,?_⟩
   refine sW ?_
   refine sE (x9 (hkid 1 zo zo (bad||!Z3 names (t.yK 0))) (by simp[zb]) (by simp[zb,zh,Pure]) (zT _ _) (zT _ _) (by simp[Pure]) (H:=[.row true (wM names (bad||!Z3 names (t.yK 0))),.row true (yy t)]) (id:=0) rfl) ?_
   refine⟨by simp only[ByteArray.size_append,yW,List.size_toArray,List.length_cons,List.length_nil];omega,?_⟩
   refine sW ?_
   exact fin (by rw[(two hw).1,hk];rfl) (two hw).2.symm
  refine sS (λh5=>?_) λh5=>?_
  ·have hk:t.kind=6:=sO
   have hw:t.width=2:=zo
   have k0:=ksz 0 zo
   have k1:=ksz 1 zo
   refine sE (x9 (hkid 0 zo zo bad) (by simp[zb]) (by simp[zb,zh,Pure]) (zT _ _) (zT _ _) (by simp[Pure]) (H:=[.row true (wM names bad),.row true (yy t)]) (id:=0) rfl) ?_
   refine⟨by simp only[ByteArray.size_append,yW,List.size_toArray,List.length_cons,List.length_nil];omega,?_⟩
   refine sW ?_
   refine sE (x9 (hkid 1 zo zo (bad||!Z3 names (t.yK 0))) (by simp[zb]) (by simp[zb,zh,Pure]) (zT _ _) (zT _ _) (by simp[Pure]) (H:=[.row true (wM names (bad||!Z3 names (t.yK 0))),.row true (yy t)]) (id:=0) rfl) ?_
   refine⟨by simp only[ByteArray.size_append,yW,List.size_toArray,List.length_cons,List.length_nil];omega,?_⟩
   refine sW ?_
   exact fin (by rw[(two hw).1,hk];rfl) (two hw).2.symm
  refine sS (λh6=>?_) λh6=>?_
  ·have hk:t.kind=10:=sO
   have hw:t.width=2:=zo
   have t0:=tsz 0 zo
   have t1:=tsz 1 zo
   have e0:ZT names t 0=Z4 names (t.yK 0):=by simp[ZT,Ud,hk,YZ]
   have e1:ZT names t 1=Z4 names (t.yK 1):=by simp[ZT,Ud,hk,YZ]
   refine sL (xb (t:=t) (j:=0) zo) ?_
   refine sE (x9 (htxt 0 zo bad) (by simp[zb]) (by simp[zb,zh,Pure]) (zT _ _) (zT _ _) (by simp[Pure]) (H:=[.row true (wM names bad),.row true (yy t)]) (id:=0) rfl) ?_
   refine⟨by simp only[ByteArray.size_append,yW,List.size_toArray,List.length_cons,List.length_nil];omega,?_⟩
   refine sW ?_
   refine⟨by simp only[ByteArray.size_append,yW,List.size_toArray,List.length_cons,List.length_nil];omega,?_⟩
   refine sW ?_
   refine sL (xb (t:=t) (j:=1) zo) ?_
   refine sE (x9 (htxt 1 zo (bad||!Z3 names (t.yK 0))) (by simp[zb]) (by simp[zb,zh,Pure]) (zT _ _) (zT _ _) (by simp[Pure]) (H:=[.row true (wM names (bad||!Z3 names (t.yK 0))),.row true (yy t)]) (id:=0) rfl) ?_
   refine⟨by simp only[ByteArray.size_append,yW,List.size_toArray,List.length_cons,List.length_nil];omega,?_⟩
   refine sW ?_
   refine⟨by simp only[ByteArray.size_append,yW,List.size_toArray,List.length_cons,List.length_nil];omega,?_⟩
   refine sW ?_
   exact fin (by rw[(two hw).1,hk,e0,e1];rfl) (two hw).2.symm
  refine sS (λh7=>?_) λh7=>?_
  ·have hk:t.kind=14:=sO
   have hw:t.width=2:=zo
   have t0:=tsz 0 zo
   have t1:=tsz 1 zo
   have e0:ZT names t 0=Z4 names (t.yK 0):=by simp[ZT,Ud,hk,YZ]
   have e1:ZT names t 1=Z4 names (t.yK 1):=by simp[ZT,Ud,hk,YZ]
   refine sL (xb (t:=t) (j:=0) zo) ?_
   refine sE (x9 (htxt 0 zo bad) (by simp[zb]) (by simp[zb,zh,Pure]) (zT _ _) (zT _ _) (by simp[Pure]) (H:=[.row true (wM names bad),.row true (yy t)]) (id:=0) rfl) ?_
   refine⟨by simp only[ByteArray.size_append,yW,List.size_toArray,List.length_cons,List.length_nil];omega,?_⟩
   refine sW ?_
   refine⟨by simp only[ByteArray.size_append,yW,List.size_toArray,List.length_cons,List.length_nil];omega,?_⟩
   refine sW ?_
   refine sL (xb (t:=t) (j:=1) zo) ?_
   refine sE (x9 (htxt 1 zo (bad||!Z3 names (t.yK 0))) (by simp[zb]) (by simp[zb,zh,Pure]) (zT _ _) (zT _ _) (by simp[Pure]) (H:=[.row true (wM names (bad||!Z3 names (t.yK 0))),.row true (yy t)]) (id:=0) rfl) ?_
   refine⟨by simp only[ByteArray.size_append,yW,List.size_toArray,List.length_cons,List.length_nil];omega,?_⟩
   refine sW ?_
   refine⟨by simp only[ByteArray.size_append,yW,List.size_toArray,List.length_cons,List.length_nil];omega,?_⟩
   refine sW ?_
   exact fin (by rw[(two hw).1,hk,e0,e1];rfl) (two hw).2.symm
  have hw:t.width=1:=sO
  have k0:=ksz 0 zo
  have e1:=zAO names hw
  have e2:=zx2 names hw (sO)
  have hk:t.kind=4∨t.kind=7∨t.kind=8∨t.kind=9∨t.kind=11∨t.kind=12∨t.kind=13:=sO
  have A0:=x9 (hkid 0 zo zo bad) (by simp[zb]) (by simp[zb,zh,Pure]) (zT _ _) (zT _ _) (by simp[Pure]) (H:=[.row true (wM names bad),.row true (yy t)]) (id:=0) rfl
  rcases hk with hk|hk|hk|hk|hk|hk|hk
  ·refine sC (by rw[hk];exact zo2) ?_
   refine sE A0 ?_
   refine⟨by simp only[ByteArray.size_append,yW,List.size_toArray,List.length_cons,List.length_nil];omega,?_⟩
   refine sW ?_
   exact fin (by rw[e1,hk];rfl) (by rw[e2])
  ·refine sC (by rw[hk];exact zo5) ?_
   refine sE A0 ?_
   refine⟨by simp only[ByteArray.size_append,yW,List.size_toArray,List.length_cons,List.length_nil];omega,?_⟩
   refine sW ?_
   exact fin (by rw[e1,hk];rfl) (by rw[e2])
  ·refine sC (by rw[hk];exact zpT) ?_
   refine sE A0 ?_
   refine⟨by simp only[ByteArray.size_append,yW,List.size_toArray,List.length_cons,List.length_nil];omega,?_⟩
   refine sW ?_
   exact fin (by rw[e1,hk];rfl) (by rw[e2])
  ·refine sC (by rw[hk];exact zoY) ?_
   refine sE A0 ?_
   refine⟨by simp only[ByteArray.size_append,yW,List.size_toArray,List.length_cons,List.length_nil];omega,?_⟩
   refine sW ?_
   exact fin (by rw[e1,hk];rfl) (by rw[e2])
  ·refine sC (by rw[hk];exact zlk) ?_
   refine sE A0 ?_
   refine⟨by simp only[ByteArray.size_append,yW,List.size_toArray,List.length_cons,List.length_nil];omega,?_⟩
   refine sW ?_
   exact fin (by rw[e1,hk];rfl) (by rw[e2])
  ·refine sC (by rw[hk];exact zmF) ?_
   refine sE A0 ?_
   refine⟨by simp only[ByteArray.size_append,yW,List.size_toArray,List.length_cons,List.length_nil];omega,?_⟩
   refine sW ?_
   exact fin (by rw[e1,hk];rfl) (by rw[e2])
  ·refine sC (by rw[hk];exact zmo) ?_
   refine sE A0 ?_
   refine⟨by simp only[ByteArray.size_append,yW,List.size_toArray,List.length_cons,List.length_nil];omega,?_⟩
   refine sW ?_
   exact fin (by rw[e1,hk];rfl) (by rw[e2])
def c62:PC:=.seq (OP [Bx 2 0,Mv 4 (cS #[]),Mv 5 (cI 0)]) (.seq (.seq (OP [LA 9 3 2,Ca 10 65 [9],qm 6 10]) (.seq (OP [qm 11 6,Bi 12 .neq 11 (cI 0)]) (.cond 12 (.seq (OP [qm 13 6,Mv 4 (cS #[]),qm 5 13]) .ret) .skip))) (.seq (OP [qm 14 1,q 15 (.build [(.slice none 0 0),(.bool false)] [(0,1,14)]),Bx 16 15,qm 7 16]) (.seq (OP [qm 17 7,LA 18 3 2,Ca 19 114 [17,18],qm 8 19]) (.seq (.seq (OP [qm 20 7,q 21 (.zq 20),Fa 22 1 21,Lo 23 22]) (.cond 23 (.seq (OP [Mv 4 (cS #[]),Mv 5 (cI 4)]) .ret) .skip)) (.seq (OP [qm 24 8,qm 4 24,Mv 5 (cI 0)]) .ret)))))
theorem zyQ:zv Tryz.prog 62 25 [.tmp 4,.tmp 5] c62:=fK Tryz.func62
noncomputable def Vo (names:List ByteArray) (t:Tree):D :=
 if yF xN t=0 then (if Z3 names t then .yP [.sc (.string (Z4 names t)),.sc (.int .i64 0)] else .yP [.sc (.string ⟨#[]⟩),.sc (.int .i64 4)]) else .yP [.sc (.string ⟨#[]⟩),.sc (.int .i64 (yF xN t))]
theorem zos (names:List ByteArray) (hn:qG names) (t:Tree) (hs:Small t):zn Tryz.prog 62 [zQ t,xf names] (Vo names t):=by
 refine za zyQ zs (by simp[zb,zh,z6]) ?_ (by unfold Vo;(repeat' split)<;>simp[Pure,zb])
 refine sR ?_
 refine sC (zgB t hs) ?_
 refine sS (λh1=>?_) λh1=>?_
 ·have h:¬yF xN t=0:=sO
  unfold Vo
  rw[if_neg h]
  exact sP
 ·have h:yF xN t=0:=sO
  have hz:=(ZU _ _).1 h
  unfold Vo
  rw[if_pos h]
  refine sA (w8 (zsj names hn t hz.2.2 hz.1 false) (by simp[zb]) (by simp[zb,zh]) (zT _ _) (zT _ _) (by simp[Pure]) (H:=[.row true (yy t),.row true (wM names false)]) (id:=1) rfl) ?_
  cases hk:Z3 names t
  ·refine sW ?_
   exact sP
  ·refine sW ?_
   exact sP
end
section
open Go.RowKit
def c64:PC:=.seq (OP [Mv 6 (cS #[])]) (.seq (.seq (OP [qm 7 0,Bi 8 .eql 7 (cI 63),qm 9 8,GT 10 9 (.move 2),Pk 11 9 10 cF]) (.cond 11 (.seq (OP [Mv 6 (cS #[115,105,108,101,110,116])]) .ret) .skip)) (.seq (.seq (OP [qm 12 0,Bi 13 .lss 12 (cI 0),qm 14 13,GF 15 14 (.move 0),GF 16 14 (.move 1),GF 17 14 (.len 16),GF 18 14 (.bin .geq 15 17),Pk 19 14 cT 18,qm 20 19,GF 21 20 (.move 0),GF 22 20 (.bin .geq 21 (cI 63)),Pk 23 20 cT 22,qm 24 23,GF 25 24 (.move 1),GF 26 24 (.move 0),GF 27 24 (.zM 1 25 26),GF 28 24 (.zg 27),GF 29 24 (.call 23 [28]),GF 30 24 (.un .not 29),Pk 31 24 cT 30,qm 32 31,GF 33 32 (.move 1),GF 34 32 (.move 1),GF 35 32 (.move 0),GF 36 32 (.zM 1 34 35),GF 37 32 (.zg 36),GF 38 32 (.call 115 [33,37]),GF 39 32 (.move 0),GF 40 32 (.bin .neq 38 39),Pk 41 32 cT 40]) (.cond 41 (.seq (OP [Mv 6 (cS #[])]) .ret) .skip)) (.seq (OP [qm 42 1,qm 43 0,Ia 44 1 42 43,Lo 45 44,qm 6 45]) .ret)))
theorem zAN:zv Tryz.prog 64 46 [.tmp 6] c64:=fK Tryz.func64
theorem zo0 (names:List ByteArray) (hs:qG names) (n:Int) (silent:Bool):zn Tryz.prog 64 [.sc (.int .i64 n),xf names,.sc (.bool silent)] (.sc (.string (rnm names silent n))):=by
 refine za zAN zs (by simp[zb,Pure,z6]) ?_ (by simp[Pure])
 unfold xf
 refine sR ?_
 have eq:∀{s:ByteArray},s=rnm names silent n→Deep [] (D.sc (.string s)) (.sc (.string (rnm names silent n))):=λh=>h▸.refl _
 cases e1:(n==63)
 ·have e1:n≠63:=by simpa using e1
  have g1:¬(n=63∧silent=true):=λh=>e1 h.1
  refine sW ?_
  cases e2:decide (n<0)
  ·refine sW ?_
   rw[List.length_map]
   cases e3:decide (n≥(names.length:Int))
   ·refine sW ?_
    cases e4:decide (n≥63)
    ·have e2:¬n<0:=of_decide_eq_false e2
     have e3:¬n≥(names.length:Int):=of_decide_eq_false e3
     have e4:¬n≥63:=of_decide_eq_false e4
     have hk:n.toNat<names.length:=zo
     have g2:¬(n<0∨(names.length:Int)≤n∨63≤n):=zo
     refine sW ?_
     refine sL (WH hk) ?_
     refine sC (Yg _ (hs.at hk)) ?_
     cases e5:xd (names.getD n.toNat ⟨#[]⟩)
     ·refine sW ?_
      exact eq (by unfold rnm;rw[if_neg g1,if_neg g2,if_pos e5])
     ·refine sW ?_
      refine sL (WH hk) ?_
      refine sC (zbu names _ hs.1) ?_
      have hd:=zia hk
      rw[show(n.toNat:Int)=n by omega] at hd
      refine sS (λh4=>?_) λh4=>?_
      ·exact eq (by have:J6 names n.toNat (names.getD n.toNat ⟨#[]⟩)=true:=hd.1 (by simpa using h4)
                    unfold rnm;rw[if_neg g1,if_neg g2,if_neg (by rw[e5];decide),if_pos this])
      ·refine sL (WH hk) ?_
       exact eq (by have:¬J6 names n.toNat (names.getD n.toNat ⟨#[]⟩)=true:=λh=>hd.2 h (by simpa using h4)
                    unfold rnm;rw[if_neg g1,if_neg g2,if_neg (by rw[e5];decide),if_neg this])
    ·refine sW ?_
     exact eq (by unfold rnm;rw[if_neg g1,if_pos (by have:=of_decide_eq_true e4;omega)])
   ·refine sW ?_
    exact eq (by unfold rnm;rw[if_neg g1,if_pos (by have:=of_decide_eq_true e3;omega)])
  ·refine sW ?_
   exact eq (by unfold rnm;rw[if_neg g1,if_pos (by have:=of_decide_eq_true e2;omega)])
 ·have e1:n=63:=by simpa using e1
  subst e1
  refine sW ?_
  cases silent
  ·refine sW ?_
   rw[List.length_map]
   cases e3:decide ((63:Int)≥(names.length:Int))
   ·refine sW ?_
    exact eq (by simp[rnm])
   ·refine sW ?_
    exact eq (by simp[rnm])
  ·refine sW ?_
   exact eq (by simp[rnm,Xk])
def c60:PC:=.seq (OP [Mv 2 cF]) (.seq (OP [qm 3 0,Bi 4 .leq 3 (cI 4),qm 2 4]) .ret)
theorem zBs:zv Tryz.prog 60 5 [.tmp 2] c60:=fK Tryz.func60
theorem zeQ (k:Int):zn Tryz.prog 60 [.sc (.int .i64 k)] (.sc (.bool (decide (k≤4)))):=by
 refine za zBs zs (by simp[zb,Pure]) ?_ (by simp[Pure])
 refine sR ?_
 exact .refl _
def c63:PC:=.seq (OP [Mv 4 cF]) (.seq (OP [qm 5 0,Lo 6 1,Lo 7 2,Ca 8 64 [5,6,7],Bi 9 .eql 8 (cS #[]),qm 4 9]) .ret)
theorem zz8:zv Tryz.prog 63 10 [.tmp 4] c63:=fK Tryz.func63
theorem wD (names:List ByteArray) (hs:qG names) (silent:Bool) (n:Int):zn Tryz.prog 63 [.sc (.int .i64 n),.yO [xf names],.yO [.sc (.bool silent)]] (.sc (.bool (um names silent n))):=by
 refine za zz8 zs (by simp[zb,Pure,z6]) ?_ (by simp[Pure])
 refine sR ?_
 refine sC (zo0 names hs n silent) ?_
 exact .refl _
def c58:PC:=.seq (OP [Bx 1 0,Mv 2 cN,Mv 3 cN]) (.seq (OP [Fa 4 2 1,Lo 5 4,Bs 6 1 1 [5],qm 2 6]) (.seq (.seq (OP [Fa 7 0 1,Lo 8 7,Bi 9 .eql 8 (cI 5),qm 10 9,GF 11 10 (.zy 0 1),GF 12 10 (.zg 11),GF 13 10 (.bin .eql 12 (cI 6)),Pk 14 10 cT 13]) (.cond 14 (OP [Fa 15 3 1,Lo 16 15,Fa 17 2 1,Lo 18 17,Bs 19 1 2 [16,18],qm 2 19]) .skip)) (.seq (.seq (OP [Fa 20 1 1,Lo 21 20]) (.block 0 (.seq (OP [Bi 23 .eql 21 (cI 2),qm 22 23]) (.cond 22 (OP [Fa 24 5 1,Lo 25 24,Bs 26 1 1 [25],qm 3 26]) (.seq (OP [Bi 28 .eql 21 (cI 3),qm 27 28]) (.cond 27 (OP [Fa 29 4 1,Lo 30 29,Bs 31 1 1 [30],qm 3 31]) (.seq (.seq (OP [Bi 33 .eql 21 (cI 4),qm 32 33]) (.cond 32 .skip (OP [Bi 34 .eql 21 (cI 5),qm 32 34]))) (.cond 32 (OP [Fa 35 4 1,Lo 36 35,Fa 37 5 1,Lo 38 37,Bs 39 1 2 [36,38],qm 3 39]) .skip)))))))) (.seq (OP [qm 40 2,qm 41 3,qm 2 40,qm 3 41]) .ret))))
theorem US:zv Tryz.prog 58 42 [.tmp 2,.tmp 3] c58:=fK Tryz.func58
theorem ya {a b:Int} (h:a≠b):(a==b)=false:=by simpa using h
theorem xr {a b:Int} (h:a=b):(a==b)=true:=by simpa using h
theorem zh6 (x:qV) (h:x.kind≠5∧x.kind≠6) (k:x.scope≠2∧x.scope≠3∧x.scope≠4∧x.scope≠5):yr Tryz.prog 58 [Y7 x] [] (.yP [.own 1 0 0 1,.sc (.slice none 0 0)]) [.row true (zG x),.vec true 0 1 (zI [x.p])]:=by
 refine zS US zs zs ?_ (by simp[zt,zl]) (by simp[zf.under,zG,zl,zF,zt,zI])
 refine sR ?_
 rw[show(x.kind==5)=false from ya zo]
 refine sW ?_
 rw[show(x.kind==6)=false from ya zo]
 refine sW ?_
 rw[show(x.scope==2)=false from ya zo]
 refine sW ?_
 rw[show(x.scope==3)=false from ya zo]
 refine sW ?_
 rw[show(x.scope==4)=false from ya zo]
 refine sW ?_
 rw[show(x.scope==5)=false from ya zo]
 refine sW ?_
 exact Nat.le_refl _
theorem zh1 (x:qV) (h:x.kind≠5∧x.kind≠6) (k:x.scope=2):yr Tryz.prog 58 [Y7 x] [] (.yP [.own 1 0 0 1,.own 2 0 0 1]) [.row true (zG x),.vec true 0 1 (zI [x.p]),.vec true 0 1 (zI [x.r])]:=by
 refine zS US zs zs ?_ (by simp[zt,zl]) (by simp[zf.under,zG,zl,zF,zt,zI])
 refine sR ?_
 rw[show(x.kind==5)=false from ya zo]
 refine sW ?_
 rw[show(x.kind==6)=false from ya zo]
 refine sW ?_
 rw[show(x.scope==2)=true from xr zo]
 refine sW ?_
 exact Nat.le_refl _
theorem ziA (x:qV) (h:x.kind≠5∧x.kind≠6) (k:x.scope=3):yr Tryz.prog 58 [Y7 x] [] (.yP [.own 1 0 0 1,.own 2 0 0 1]) [.row true (zG x),.vec true 0 1 (zI [x.p]),.vec true 0 1 (zI [x.q])]:=by
 refine zS US zs zs ?_ (by simp[zt,zl]) (by simp[zf.under,zG,zl,zF,zt,zI])
 refine sR ?_
 rw[show(x.kind==5)=false from ya zo]
 refine sW ?_
 rw[show(x.kind==6)=false from ya zo]
 refine sW ?_
 rw[show(x.scope==2)=false from ya zo]
 refine sW ?_
 rw[show(x.scope==3)=true from xr zo]
 refine sW ?_
 exact Nat.le_refl _
theorem zhJ (x:qV) (h:x.kind≠5∧x.kind≠6) (k:x.scope=4∨x.scope=5):yr Tryz.prog 58 [Y7 x] [] (.yP [.own 1 0 0 1,.own 2 0 0 2]) [.row true (zG x),.vec true 0 1 (zI [x.p]),.vec true 0 1 (zI [x.q,x.r])]:=by
 refine zS US zs zs ?_ (by simp[zt,zl]) (by simp[zf.under,zG,zl,zF,zt,zI])
 refine sR ?_
 rw[show(x.kind==5)=false from ya zo]
 refine sW ?_
 rw[show(x.kind==6)=false from ya zo]
 refine sW ?_
 rcases k with k|k
 ·rw[show(x.scope==2)=false from ya zo]
  refine sW ?_
  rw[show(x.scope==3)=false from ya zo]
  refine sW ?_
  rw[show(x.scope==4)=true from xr zo]
  refine sW ?_
  exact Nat.le_refl _
 ·rw[show(x.scope==2)=false from ya zo]
  refine sW ?_
  rw[show(x.scope==3)=false from ya zo]
  refine sW ?_
  rw[show(x.scope==4)=false from ya zo]
  refine sW ?_
  rw[show(x.scope==5)=true from xr zo]
  refine sW ?_
  exact Nat.le_refl _
theorem ziv (x:qV) (h:x.kind=5∨x.kind=6) (k:x.scope≠2∧x.scope≠3∧x.scope≠4∧x.scope≠5):yr Tryz.prog 58 [Y7 x] [] (.yP [.own 2 0 0 2,.sc (.slice none 0 0)]) [.row true (zG x),.vec true 0 1 (zI [x.p]),.vec true 0 1 (zI [x.s,x.p])]:=by
 refine zS US zs zs ?_ (by simp[zt,zl]) (by simp[zf.under,zG,zl,zF,zt,zI])
 refine sR ?_
 rcases h with h|h
 ·rw[show(x.kind==5)=true from xr zo]
  refine sW ?_
  rw[show(x.scope==2)=false from ya zo]
  refine sW ?_
  rw[show(x.scope==3)=false from ya zo]
  refine sW ?_
  rw[show(x.scope==4)=false from ya zo]
  refine sW ?_
  rw[show(x.scope==5)=false from ya zo]
  refine sW ?_
  exact Nat.le_refl _
 ·rw[show(x.kind==5)=false from ya zo]
  refine sW ?_
  rw[show(x.kind==6)=true from xr zo]
  refine sW ?_
  rw[show(x.scope==2)=false from ya zo]
  refine sW ?_
  rw[show(x.scope==3)=false from ya zo]
  refine sW ?_
  rw[show(x.scope==4)=false from ya zo]
  refine sW ?_
  rw[show(x.scope==5)=false from ya zo]
  refine sW ?_
  exact Nat.le_refl _
theorem zif (x:qV) (h:x.kind=5∨x.kind=6) (k:x.scope=2):yr Tryz.prog 58 [Y7 x] [] (.yP [.own 2 0 0 2,.own 3 0 0 1]) [.row true (zG x),.vec true 0 1 (zI [x.p]),.vec true 0 1 (zI [x.s,x.p]),.vec true 0 1 (zI [x.r])]:=by
 refine zS US zs zs ?_ (by simp[zt,zl]) (by simp[zf.under,zG,zl,zF,zt,zI])
 refine sR ?_
 rcases h with h|h
 ·rw[show(x.kind==5)=true from xr zo]
  refine sW ?_
  rw[show(x.scope==2)=true from xr zo]
  refine sW ?_
  exact Nat.le_refl _
 ·rw[show(x.kind==5)=false from ya zo]
  refine sW ?_
  rw[show(x.kind==6)=true from xr zo]
  refine sW ?_
  rw[show(x.scope==2)=true from xr zo]
  refine sW ?_
  exact Nat.le_refl _
theorem zit (x:qV) (h:x.kind=5∨x.kind=6) (k:x.scope=3):yr Tryz.prog 58 [Y7 x] [] (.yP [.own 2 0 0 2,.own 3 0 0 1]) [.row true (zG x),.vec true 0 1 (zI [x.p]),.vec true 0 1 (zI [x.s,x.p]),.vec true 0 1 (zI [x.q])]:=by
 refine zS US zs zs ?_ (by simp[zt,zl]) (by simp[zf.under,zG,zl,zF,zt,zI])
 refine sR ?_
 rcases h with h|h
 ·rw[show(x.kind==5)=true from xr zo]
  refine sW ?_
  rw[show(x.scope==2)=false from ya zo]
  refine sW ?_
  rw[show(x.scope==3)=true from xr zo]
  refine sW ?_
  exact Nat.le_refl _
 ·rw[show(x.kind==5)=false from ya zo]
  refine sW ?_
  rw[show(x.kind==6)=true from xr zo]
  refine sW ?_
  rw[show(x.scope==2)=false from ya zo]
  refine sW ?_
  rw[show(x.scope==3)=true from xr zo]
  refine sW ?_
  exact Nat.le_refl _
theorem zhK (x:qV) (h:x.kind=5∨x.kind=6) (k:x.scope=4∨x.scope=5):yr Tryz.prog 58 [Y7 x] [] (.yP [.own 2 0 0 2,.own 3 0 0 2]) [.row true (zG x),.vec true 0 1 (zI [x.p]),.vec true 0 1 (zI [x.s,x.p]),.vec true 0 1 (zI [x.q,x.r])]:=by
 refine zS US zs zs ?_ (by simp[zt,zl]) (by simp[zf.under,zG,zl,zF,zt,zI])
 refine sR ?_
 rcases h with h|h
 ·rw[show(x.kind==5)=true from xr zo]
  refine sW ?_
  rcases k with k|k
  ·rw[show(x.scope==2)=false from ya zo]
   refine sW ?_
   rw[show(x.scope==3)=false from ya zo]
   refine sW ?_
   rw[show(x.scope==4)=true from xr zo]
   refine sW ?_
   exact Nat.le_refl _
  ·rw[show(x.scope==2)=false from ya zo]
   refine sW ?_
   rw[show(x.scope==3)=false from ya zo]
   refine sW ?_
   rw[show(x.scope==4)=false from ya zo]
   refine sW ?_
   rw[show(x.scope==5)=true from xr zo]
   refine sW ?_
   exact Nat.le_refl _
 ·rw[show(x.kind==5)=false from ya zo]
  refine sW ?_
  rw[show(x.kind==6)=true from xr zo]
  refine sW ?_
  rcases k with k|k
  ·rw[show(x.scope==2)=false from ya zo]
   refine sW ?_
   rw[show(x.scope==3)=false from ya zo]
   refine sW ?_
   rw[show(x.scope==4)=true from xr zo]
   refine sW ?_
   exact Nat.le_refl _
  ·rw[show(x.scope==2)=false from ya zo]
   refine sW ?_
   rw[show(x.scope==3)=false from ya zo]
   refine sW ?_
   rw[show(x.scope==4)=false from ya zo]
   refine sW ?_
   rw[show(x.scope==5)=true from xr zo]
   refine sW ?_
   exact Nat.le_refl _
def c37:PC:=.seq (OP [Bx 2 0,Bx 3 1,Mv 4 (cI 0)]) (.seq (OP [Mv 5 (cI 0)]) (.seq (OP [Mv 6 cN]) (.seq (OP [q 7 (.alloc [(.bool false)]),So 1 7 cF]) (.seq (.seq (OP [Fa 10 1 2,Lo 11 10]) (.block 0 (.seq (OP [Bi 13 .eql 11 (cI 1),qm 12 13]) (.cond 12 (.seq (OP [Fa 14 2 2,LA 15 7 14,Ca 16 57 [15],qm 5 16]) (.seq (OP [Fa 18 2 2,LA 19 7 18,Ca 20 58 [19],qm 17 20,Xt 21 0 17,Xt 22 1 17,qm 8 21,qm 9 22]) (OP [qm 23 8,qm 24 9,Ap 25 1 8 23 24,qm 6 25,So 1 7 cT]))) (.seq (OP [Bi 27 .eql 11 (cI 2),qm 26 27]) (.cond 26 (.seq (OP [Fa 28 9 2,LA 29 4 28,Ca 30 59 [29],qm 5 30]) (.seq (OP [Fa 31 9 2,Fa 32 1 31,Lo 33 32,Bs 34 1 1 [33],qm 6 34]) (.seq (OP [Fa 35 9 2,Fa 36 0 35,Lo 37 36,Ca 38 60 [37],Nt 39 38]) (.cond 39 (OP [qm 40 6,Fa 41 9 2,Fa 42 2 41,Lo 43 42,Bs 44 1 1 [43],Ap 45 1 8 40 44,qm 6 45]) .skip)))) (.seq (OP [Bi 47 .eql 11 (cI 3),qm 46 47]) (.cond 46 (OP [Fa 49 13 2,LA 50 3 49,Lo 51 3,Ca 52 61 [50,51],qm 48 52,Xt 53 0 48,Xt 54 1 48,qm 5 54]) (.seq (OP [Bi 56 .eql 11 (cI 4),qm 55 56]) (.cond 55 (OP [Fa 58 16 2,LA 59 3 58,Lo 60 3,Ca 61 62 [59,60],qm 57 61,Xt 62 0 57,Xt 63 1 57,qm 5 63]) .skip)))))))))) (.seq (.seq (OP [qm 64 5,Bi 65 .eql 64 (cI 0),qm 66 65,GT 67 66 (.move 6),GT 68 66 (.uG (.func 63) [] [3,7]),GT 69 66 (.call 52 [67,68]),Pk 70 66 69 cF]) (.cond 70 (.seq (OP [Mv 4 (cI 4)]) .ret) .skip)) (.seq (OP [qm 71 5,qm 4 71]) .ret))))))
theorem Xb:zv Tryz.prog 37 72 [.tmp 4] c37:=fK Tryz.func37
section
variable (names:List ByteArray) (hn:qG names) (name:ByteArray) (sort:Int) (x:qV) (k a b c:Int) (f g:Tree)
include hn
theorem zkD (h1:sort=1) (hk:x.kind≠5∧x.kind≠6) (hs:x.scope≠2∧x.scope≠3∧x.scope≠4∧x.scope≠5):zn Tryz.prog 37 [y8 name sort x k a b c f g,xf names] (.sc (.int .i64 (y9 names sort x k a b c f g))):=by
 have hE:y9 names sort x k a b c f g=if yY x=0∧(wv x++wB x).any (um names true)=true then 4 else yY x:=by unfold y9;rw[if_pos h1]
 have hO:wv x=[x.p]:=by unfold wv;rw[if_neg zo]
 have hP:wB x=[]:=by unfold wB;rw[if_neg zo,if_neg zo,if_neg zo]
 rw[hO,hP] at hE
 have hCk:=qf x
 have hA:=zh6 x hk hs
 have hF:=yo (λn=>.sc (.int .i64 n)) (λ_=>by simp[Pure]) ([x.p]++[]) zs (um names true) 63 [.yO [xf names],.yO [.sc (.bool true)]] (by simp[zb,Pure,z6]) (λn _=>wD names hn true n)
 refine za Xb zs (by simp[zb,yN,z6]) ?_ (by simp[Pure])
 rw[hE]
 unfold y8 wE zG Y7 at *
 refine sR ?_
 rw[xr h1]
 refine sW ?_
 refine sC hCk ?_
 refine sE (xo hA (by simp[zb,Pure,zG]) [3,4] rfl rfl (by simp[zf.yG,yE,D.yG];rfl)) ?_
 refine sJ ?_
 cases e:(yY x==0)
 ·refine sW ?_
  exact zR (congrArg (λz=>D.sc (.int .i64 z)) (if_neg (λh=>by have:=h.1;simp[this] at e)).symm)
 ·have e:yY x=0:=by simpa using e
  refine sW ?_
  refine sN hF ?_
  cases e2:([x.p]++[]).any (um names true)
  ·refine sW ?_
   exact zR (congrArg (λz=>D.sc (.int .i64 z)) (if_neg (λh=>by cases h.2)).symm)
  ·refine sW ?_
   exact zR (congrArg (λz=>D.sc (.int .i64 z)) (if_pos ⟨e,rfl⟩).symm)
theorem zju (h1:sort=1) (hk:x.kind≠5∧x.kind≠6) (hs:x.scope=2):zn Tryz.prog 37 [y8 name sort x k a b c f g,xf names] (.sc (.int .i64 (y9 names sort x k a b c f g))):=by
 have hE:y9 names sort x k a b c f g=if yY x=0∧(wv x++wB x).any (um names true)=true then 4 else yY x:=by unfold y9;rw[if_pos h1]
 have hO:wv x=[x.p]:=by unfold wv;rw[if_neg zo]
 have hP:wB x=[x.r]:=by unfold wB;rw[if_pos zo]
 rw[hO,hP] at hE
 have hCk:=qf x
 have hA:=zh1 x hk hs
 have hF:=yo (λn=>.sc (.int .i64 n)) (λ_=>by simp[Pure]) ([x.p]++[x.r]) zs (um names true) 63 [.yO [xf names],.yO [.sc (.bool true)]] (by simp[zb,Pure,z6]) (λn _=>wD names hn true n)
 refine za Xb zs (by simp[zb,yN,z6]) ?_ (by simp[Pure])
 rw[hE]
 unfold y8 wE zG Y7 at *
 refine sR ?_
 rw[xr h1]
 refine sW ?_
 refine sC hCk ?_
 refine sE (xo hA (by simp[zb,Pure,zG]) [3,4,5] rfl rfl (by simp[zf.yG,yE,D.yG];rfl)) ?_
 refine sJ ?_
 cases e:(yY x==0)
 ·refine sW ?_
  exact zR (congrArg (λz=>D.sc (.int .i64 z)) (if_neg (λh=>by have:=h.1;simp[this] at e)).symm)
 ·have e:yY x=0:=by simpa using e
  refine sW ?_
  refine sN hF ?_
  cases e2:([x.p]++[x.r]).any (um names true)
  ·refine sW ?_
   exact zR (congrArg (λz=>D.sc (.int .i64 z)) (if_neg (λh=>by cases h.2)).symm)
  ·refine sW ?_
   exact zR (congrArg (λz=>D.sc (.int .i64 z)) (if_pos ⟨e,rfl⟩).symm)
theorem zjf (h1:sort=1) (hk:x.kind≠5∧x.kind≠6) (hs:x.scope=3):zn Tryz.prog 37 [y8 name sort x k a b c f g,xf names] (.sc (.int .i64 (y9 names sort x k a b c f g))):=by
 have hE:y9 names sort x k a b c f g=if yY x=0∧(wv x++wB x).any (um names true)=true then 4 else yY x:=by unfold y9;rw[if_pos h1]
 have hO:wv x=[x.p]:=by unfold wv;rw[if_neg zo]
 have hP:wB x=[x.q]:=by unfold wB;rw[if_neg zo,if_pos zo]
 rw[hO,hP] at hE
 have hCk:=qf x
 have hA:=ziA x hk hs
 have hF:=yo (λn=>.sc (.int .i64 n)) (λ_=>by simp[Pure]) ([x.p]++[x.q]) zs (um names true) 63 [.yO [xf names],.yO [.sc (.bool true)]] (by simp[zb,Pure,z6]) (λn _=>wD names hn true n)
 refine za Xb zs (by simp[zb,yN,z6]) ?_ (by simp[Pure])
 rw[hE]
 unfold y8 wE zG Y7 at *
 refine sR ?_
 rw[xr h1]
 refine sW ?_
 refine sC hCk ?_
 refine sE (xo hA (by simp[zb,Pure,zG]) [3,4,5] rfl rfl (by simp[zf.yG,yE,D.yG];rfl)) ?_
 refine sJ ?_
 cases e:(yY x==0)
 ·refine sW ?_
  exact zR (congrArg (λz=>D.sc (.int .i64 z)) (if_neg (λh=>by have:=h.1;simp[this] at e)).symm)
 ·have e:yY x=0:=by simpa using e
  refine sW ?_
  refine sN hF ?_
  cases e2:([x.p]++[x.q]).any (um names true)
  ·refine sW ?_
   exact zR (congrArg (λz=>D.sc (.int .i64 z)) (if_neg (λh=>by cases h.2)).symm)
  ·refine sW ?_
   exact zR (congrArg (λz=>D.sc (.int .i64 z)) (if_pos ⟨e,rfl⟩).symm)
theorem zi9 (h1:sort=1) (hk:x.kind≠5∧x.kind≠6) (hs:x.scope=4∨x.scope=5):zn Tryz.prog 37 [y8 name sort x k a b c f g,xf names] (.sc (.int .i64 (y9 names sort x k a b c f g))):=by
 have hE:y9 names sort x k a b c f g=if yY x=0∧(wv x++wB x).any (um names true)=true then 4 else yY x:=by unfold y9;rw[if_pos h1]
 have hO:wv x=[x.p]:=by unfold wv;rw[if_neg zo]
 have hP:wB x=[x.q,x.r]:=by unfold wB;rw[if_neg zo,if_neg zo,if_pos zo]
 rw[hO,hP] at hE
 have hCk:=qf x
 have hA:=zhJ x hk hs
 have hF:=yo (λn=>.sc (.int .i64 n)) (λ_=>by simp[Pure]) ([x.p]++[x.q,x.r]) zs (um names true) 63 [.yO [xf names],.yO [.sc (.bool true)]] (by simp[zb,Pure,z6]) (λn _=>wD names hn true n)
 refine za Xb zs (by simp[zb,yN,z6]) ?_ (by simp[Pure])
 rw[hE]
 unfold y8 wE zG Y7 at *
 refine sR ?_
 rw[xr h1]
 refine sW ?_
 refine sC hCk ?_
 refine sE (xo hA (by simp[zb,Pure,zG]) [3,4,5] rfl rfl (by simp[zf.yG,yE,D.yG];rfl)) ?_
 refine sJ ?_
 cases e:(yY x==0)
 ·refine sW ?_
  exact zR (congrArg (λz=>D.sc (.int .i64 z)) (if_neg (λh=>by have:=h.1;simp[this] at e)).symm)
 ·have e:yY x=0:=by simpa using e
  refine sW ?_
  refine sN hF ?_
  cases e2:([x.p]++[x.q,x.r]).any (um names true)
  ·refine sW ?_
   exact zR (congrArg (λz=>D.sc (.int .i64 z)) (if_neg (λh=>by cases h.2)).symm)
  ·refine sW ?_
   exact zR (congrArg (λz=>D.sc (.int .i64 z)) (if_pos ⟨e,rfl⟩).symm)
theorem zk0 (h1:sort=1) (hk:x.kind=5∨x.kind=6) (hs:x.scope≠2∧x.scope≠3∧x.scope≠4∧x.scope≠5):zn Tryz.prog 37 [y8 name sort x k a b c f g,xf names] (.sc (.int .i64 (y9 names sort x k a b c f g))):=by
 have hE:y9 names sort x k a b c f g=if yY x=0∧(wv x++wB x).any (um names true)=true then 4 else yY x:=by unfold y9;rw[if_pos h1]
 have hO:wv x=[x.s,x.p]:=by unfold wv;rw[if_pos zo]
 have hP:wB x=[]:=by unfold wB;rw[if_neg zo,if_neg zo,if_neg zo]
 rw[hO,hP] at hE
 have hCk:=qf x
 have hA:=ziv x hk hs
 have hF:=yo (λn=>.sc (.int .i64 n)) (λ_=>by simp[Pure]) ([x.s,x.p]++[]) zs (um names true) 63 [.yO [xf names],.yO [.sc (.bool true)]] (by simp[zb,Pure,z6]) (λn _=>wD names hn true n)
 refine za Xb zs (by simp[zb,yN,z6]) ?_ (by simp[Pure])
 rw[hE]
 unfold y8 wE zG Y7 at *
 refine sR ?_
 rw[xr h1]
 refine sW ?_
 refine sC hCk ?_
 refine sE (xo hA (by simp[zb,Pure,zG]) [3,4,5] rfl rfl (by simp[zf.yG,yE,D.yG];rfl)) ?_
 refine sJ ?_
 cases e:(yY x==0)
 ·refine sW ?_
  exact zR (congrArg (λz=>D.sc (.int .i64 z)) (if_neg (λh=>by have:=h.1;simp[this] at e)).symm)
 ·have e:yY x=0:=by simpa using e
  refine sW ?_
  refine sN hF ?_
  cases e2:([x.s,x.p]++[]).any (um names true)
  ·refine sW ?_
   exact zR (congrArg (λz=>D.sc (.int .i64 z)) (if_neg (λh=>by cases h.2)).symm)
  ·refine sW ?_
   exact zR (congrArg (λz=>D.sc (.int .i64 z)) (if_pos ⟨e,rfl⟩).symm)
theorem zjx (h1:sort=1) (hk:x.kind=5∨x.kind=6) (hs:x.scope=2):zn Tryz.prog 37 [y8 name sort x k a b c f g,xf names] (.sc (.int .i64 (y9 names sort x k a b c f g))):=by
 have hE:y9 names sort x k a b c f g=if yY x=0∧(wv x++wB x).any (um names true)=true then 4 else yY x:=by unfold y9;rw[if_pos h1]
 have hO:wv x=[x.s,x.p]:=by unfold wv;rw[if_pos zo]
 have hP:wB x=[x.r]:=by unfold wB;rw[if_pos zo]
 rw[hO,hP] at hE
 have hCk:=qf x
 have hA:=zif x hk hs
 have hF:=yo (λn=>.sc (.int .i64 n)) (λ_=>by simp[Pure]) ([x.s,x.p]++[x.r]) zs (um names true) 63 [.yO [xf names],.yO [.sc (.bool true)]] (by simp[zb,Pure,z6]) (λn _=>wD names hn true n)
 refine za Xb zs (by simp[zb,yN,z6]) ?_ (by simp[Pure])
 rw[hE]
 unfold y8 wE zG Y7 at *
 refine sR ?_
 rw[xr h1]
 refine sW ?_
 refine sC hCk ?_
 refine sE (xo hA (by simp[zb,Pure,zG]) [3,4,5,6] rfl rfl (by simp[zf.yG,yE,D.yG];rfl)) ?_
 refine sJ ?_
 cases e:(yY x==0)
 ·refine sW ?_
  exact zR (congrArg (λz=>D.sc (.int .i64 z)) (if_neg (λh=>by have:=h.1;simp[this] at e)).symm)
 ·have e:yY x=0:=by simpa using e
  refine sW ?_
  refine sN hF ?_
  cases e2:([x.s,x.p]++[x.r]).any (um names true)
  ·refine sW ?_
   exact zR (congrArg (λz=>D.sc (.int .i64 z)) (if_neg (λh=>by cases h.2)).symm)
  ·refine sW ?_
   exact zR (congrArg (λz=>D.sc (.int .i64 z)) (if_pos ⟨e,rfl⟩).symm)
theorem zjq (h1:sort=1) (hk:x.kind=5∨x.kind=6) (hs:x.scope=3):zn Tryz.prog 37 [y8 name sort x k a b c f g,xf names] (.sc (.int .i64 (y9 names sort x k a b c f g))):=by
 have hE:y9 names sort x k a b c f g=if yY x=0∧(wv x++wB x).any (um names true)=true then 4 else yY x:=by unfold y9;rw[if_pos h1]
 have hO:wv x=[x.s,x.p]:=by unfold wv;rw[if_pos zo]
 have hP:wB x=[x.q]:=by unfold wB;rw[if_neg zo,if_pos zo]
 rw[hO,hP] at hE
 have hCk:=qf x
 have hA:=zit x hk hs
 have hF:=yo (λn=>.sc (.int .i64 n)) (λ_=>by simp[Pure]) ([x.s,x.p]++[x.q]) zs (um names true) 63 [.yO [xf names],.yO [.sc (.bool true)]] (by simp[zb,Pure,z6]) (λn _=>wD names hn true n)
 refine za Xb zs (by simp[zb,yN,z6]) ?_ (by simp[Pure])
 rw[hE]
 unfold y8 wE zG Y7 at *
 refine sR ?_
 rw[xr h1]
 refine sW ?_
 refine sC hCk ?_
 refine sE (xo hA (by simp[zb,Pure,zG]) [3,4,5,6] rfl rfl (by simp[zf.yG,yE,D.yG];rfl)) ?_
 refine sJ ?_
 cases e:(yY x==0)
 ·refine sW ?_
  exact zR (congrArg (λz=>D.sc (.int .i64 z)) (if_neg (λh=>by have:=h.1;simp[this] at e)).symm)
 ·have e:yY x=0:=by simpa using e
  refine sW ?_
  refine sN hF ?_
  cases e2:([x.s,x.p]++[x.q]).any (um names true)
  ·refine sW ?_
   exact zR (congrArg (λz=>D.sc (.int .i64 z)) (if_neg (λh=>by cases h.2)).symm)
  ·refine sW ?_
   exact zR (congrArg (λz=>D.sc (.int .i64 z)) (if_pos ⟨e,rfl⟩).symm)
theorem zkB (h1:sort=1) (hk:x.kind=5∨x.kind=6) (hs:x.scope=4∨x.scope=5):zn Tryz.prog 37 [y8 name sort x k a b c f g,xf names] (.sc (.int .i64 (y9 names sort x k a b c f g))):=by
 have hE:y9 names sort x k a b c f g=if yY x=0∧(wv x++wB x).any (um names true)=true then 4 else yY x:=by unfold y9;rw[if_pos h1]
 have hO:wv x=[x.s,x.p]:=by unfold wv;rw[if_pos zo]
 have hP:wB x=[x.q,x.r]:=by unfold wB;rw[if_neg zo,if_neg zo,if_pos zo]
 rw[hO,hP] at hE
 have hCk:=qf x
 have hA:=zhK x hk hs
 have hF:=yo (λn=>.sc (.int .i64 n)) (λ_=>by simp[Pure]) ([x.s,x.p]++[x.q,x.r]) zs (um names true) 63 [.yO [xf names],.yO [.sc (.bool true)]] (by simp[zb,Pure,z6]) (λn _=>wD names hn true n)
 refine za Xb zs (by simp[zb,yN,z6]) ?_ (by simp[Pure])
 rw[hE]
 unfold y8 wE zG Y7 at *
 refine sR ?_
 rw[xr h1]
 refine sW ?_
 refine sC hCk ?_
 refine sE (xo hA (by simp[zb,Pure,zG]) [3,4,5,6] rfl rfl (by simp[zf.yG,yE,D.yG];rfl)) ?_
 refine sJ ?_
 cases e:(yY x==0)
 ·refine sW ?_
  exact zR (congrArg (λz=>D.sc (.int .i64 z)) (if_neg (λh=>by have:=h.1;simp[this] at e)).symm)
 ·have e:yY x=0:=by simpa using e
  refine sW ?_
  refine sN hF ?_
  cases e2:([x.s,x.p]++[x.q,x.r]).any (um names true)
  ·refine sW ?_
   exact zR (congrArg (λz=>D.sc (.int .i64 z)) (if_neg (λh=>by cases h.2)).symm)
  ·refine sW ?_
   exact zR (congrArg (λz=>D.sc (.int .i64 z)) (if_pos ⟨e,rfl⟩).symm)
theorem zjF (h1:sort=2) (hk:k≤4):zn Tryz.prog 37 [y8 name sort x k a b c f g,xf names] (.sc (.int .i64 (y9 names sort x k a b c f g))):=by
 have hE:y9 names sort x k a b c f g=if vj k a b c=0∧(JN k a b).any (um names false)=true then 4 else vj k a b c:=by unfold y9;rw[if_neg zo,if_pos h1]
 have hO:JN k a b=[a]:=by unfold JN;rw[if_pos hk]
 rw[hO] at hE
 have hCk:=zbh k a b c
 have hA:=zeQ k
 rw[show decide (k≤4)=true by simpa using hk] at hA
 have hF:=yo (λn=>.sc (.int .i64 n)) (λ_=>by simp[Pure]) [a] zs (um names false) 63 [.yO [xf names],.yO [.sc (.bool false)]] (by simp[zb,Pure,z6]) (λn _=>wD names hn false n)
 refine za Xb zs (by simp[zb,yN,z6]) ?_ (by simp[Pure])
 rw[hE]
 unfold y8 wE zG xh Jm at *
 refine sR ?_
 rw[ya (show sort≠1 by omega)]
 refine sW ?_
 rw[xr h1]
 refine sW ?_
 refine sC hCk ?_
 refine sC hA ?_
 skip
 refine sW ?_
 cases e:(vj k a b c==0)
 ·refine sW ?_
  exact zR (congrArg (λz=>D.sc (.int .i64 z)) (if_neg (λh=>by have:=h.1;simp[this] at e)).symm)
 ·have e:vj k a b c=0:=by simpa using e
  refine sW ?_
  refine sN hF ?_
  cases e2:[a].any (um names false)
  ·refine sW ?_
   exact zR (congrArg (λz=>D.sc (.int .i64 z)) (if_neg (λh=>by cases h.2)).symm)
  ·refine sW ?_
   exact zR (congrArg (λz=>D.sc (.int .i64 z)) (if_pos ⟨e,rfl⟩).symm)
theorem ziS (h1:sort=2) (hk:¬k≤4):zn Tryz.prog 37 [y8 name sort x k a b c f g,xf names] (.sc (.int .i64 (y9 names sort x k a b c f g))):=by
 have hE:y9 names sort x k a b c f g=if vj k a b c=0∧(JN k a b).any (um names false)=true then 4 else vj k a b c:=by unfold y9;rw[if_neg zo,if_pos h1]
 have hO:JN k a b=[a,b]:=by unfold JN;rw[if_neg hk]
 rw[hO] at hE
 have hCk:=zbh k a b c
 have hA:=zeQ k
 rw[show decide (k≤4)=false by simpa using hk] at hA
 have hF:=yo (λn=>.sc (.int .i64 n)) (λ_=>by simp[Pure]) [a,b] zs (um names false) 63 [.yO [xf names],.yO [.sc (.bool false)]] (by simp[zb,Pure,z6]) (λn _=>wD names hn false n)
 refine za Xb zs (by simp[zb,yN,z6]) ?_ (by simp[Pure])
 rw[hE]
 unfold y8 wE zG xh Jm at *
 refine sR ?_
 rw[ya (show sort≠1 by omega)]
 refine sW ?_
 rw[xr h1]
 refine sW ?_
 refine sC hCk ?_
 refine sC hA ?_
 refine sJ ?_
 cases e:(vj k a b c==0)
 ·refine sW ?_
  exact zR (congrArg (λz=>D.sc (.int .i64 z)) (if_neg (λh=>by have:=h.1;simp[this] at e)).symm)
 ·have e:vj k a b c=0:=by simpa using e
  refine sW ?_
  refine sN hF ?_
  cases e2:[a,b].any (um names false)
  ·refine sW ?_
   exact zR (congrArg (λz=>D.sc (.int .i64 z)) (if_neg (λh=>by cases h.2)).symm)
  ·refine sW ?_
   exact zR (congrArg (λz=>D.sc (.int .i64 z)) (if_pos ⟨e,rfl⟩).symm)
theorem zlq (h1:sort=3) (hv:Small f):zn Tryz.prog 37 [y8 name sort x k a b c f g,xf names] (.sc (.int .i64 (y9 names sort x k a b c f g))):=by
 have hE:y9 names sort x k a b c f g=if yF zU f=0 then (if Z3 names f then 0 else 4) else yF zU f:=by unfold y9;rw[if_neg zo,if_neg zo,if_pos h1]
 have hR:=zoI names hn f hv
 have hF:=yo (λn=>.sc (.int .i64 n)) (λ_=>by simp[Pure]) [] zs (um names false) 63 [.yO [xf names],.yO [.sc (.bool false)]] (by simp[zb,Pure,z6]) (λn _=>wD names hn false n)
 have hD:∃s,W3 names f=.yP [.sc (.string s),.sc (.int .i64 (y9 names sort x k a b c f g))]:=by
  rw[hE];unfold W3
  split
  ·split
   ·exact⟨_,rfl⟩
   ·exact⟨_,rfl⟩
  ·exact⟨_,rfl⟩
 obtain⟨s,hD⟩:=hD
 rw[hD] at hR
 refine za Xb zs (by simp[zb,yN,z6]) ?_ (by simp[Pure])
 generalize y9 names sort x k a b c f g=e at *
 unfold y8 wE zG xh yy at *
 refine sR ?_
 rw[ya (show sort≠1 by omega)]
 refine sW ?_
 rw[ya (show sort≠2 by omega)]
 refine sW ?_
 rw[xr h1]
 skip
 skip
 refine sW ?_
 refine sC hR ?_
 cases e2:(e==0)
 ·refine sW ?_
  exact .refl _
 ·refine sW ?_
  refine sN hF ?_
  exact .refl _
theorem zmt (h1:sort=4) (hv:Small g):zn Tryz.prog 37 [y8 name sort x k a b c f g,xf names] (.sc (.int .i64 (y9 names sort x k a b c f g))):=by
 have hE:y9 names sort x k a b c f g=if yF xN g=0 then (if Z3 names g then 0 else 4) else yF xN g:=by unfold y9;rw[if_neg zo,if_neg zo,if_neg zo,if_pos h1]
 have hR:=zos names hn g hv
 have hF:=yo (λn=>.sc (.int .i64 n)) (λ_=>by simp[Pure]) [] zs (um names false) 63 [.yO [xf names],.yO [.sc (.bool false)]] (by simp[zb,Pure,z6]) (λn _=>wD names hn false n)
 have hD:∃s,Vo names g=.yP [.sc (.string s),.sc (.int .i64 (y9 names sort x k a b c f g))]:=by
  rw[hE];unfold Vo
  split
  ·split
   ·exact⟨_,rfl⟩
   ·exact⟨_,rfl⟩
  ·exact⟨_,rfl⟩
 obtain⟨s,hD⟩:=hD
 rw[hD] at hR
 refine za Xb zs (by simp[zb,yN,z6]) ?_ (by simp[Pure])
 generalize y9 names sort x k a b c f g=e at *
 unfold y8 wE zG xh yy at *
 refine sR ?_
 rw[ya (show sort≠1 by omega)]
 refine sW ?_
 rw[ya (show sort≠2 by omega)]
 refine sW ?_
 rw[ya (show sort≠3 by omega)]
 refine sW ?_
 rw[xr h1]
 refine sW ?_
 refine sC hR ?_
 cases e2:(e==0)
 ·refine sW ?_
  exact .refl _
 ·refine sW ?_
  refine sN hF ?_
  exact .refl _
theorem zo4 (h1:1≤sort∧sort≤4) (hf:Small f) (hg:Small g):zn Tryz.prog 37 [y8 name sort x k a b c f g,xf names] (.sc (.int .i64 (y9 names sort x k a b c f g))):=by
 by_cases s1:sort=1
 ·by_cases hk:x.kind=5∨x.kind=6
  ·by_cases e2:x.scope=2
   ·exact zjx names hn name sort x k a b c f g s1 hk e2
   ·by_cases e3:x.scope=3
    ·exact zjq names hn name sort x k a b c f g s1 hk e3
    ·by_cases e4:x.scope=4∨x.scope=5
     ·exact zkB names hn name sort x k a b c f g s1 hk e4
     ·exact zk0 names hn name sort x k a b c f g s1 hk zo
  ·by_cases e2:x.scope=2
   ·exact zju names hn name sort x k a b c f g s1 zo e2
   ·by_cases e3:x.scope=3
    ·exact zjf names hn name sort x k a b c f g s1 zo e3
    ·by_cases e4:x.scope=4∨x.scope=5
     ·exact zi9 names hn name sort x k a b c f g s1 zo e4
     ·exact zkD names hn name sort x k a b c f g s1 zo zo
 ·by_cases s2:sort=2
  ·by_cases hk:k≤4
   ·exact zjF names hn name sort x k a b c f g s2 hk
   ·exact ziS names hn name sort x k a b c f g s2 hk
  ·by_cases s3:sort=3
   ·exact zlq names hn name sort x k a b c f g s3 hf
   ·exact zmt names hn name sort x k a b c f g zo hg
end
def c16:PC:=.seq (OP [Bx 2 0,Mv 4 (cI 0)]) (.seq (.seq (OP [Fa 7 0 2,Lo 8 7,Ca 9 23 [8],Nt 10 9,qm 11 10,GF 12 11 (.zy 1 2),GF 13 11 (.zg 12),GF 14 11 (.bin .lss 13 (cI 1)),Pk 15 11 cT 14,qm 16 15,GF 17 16 (.zy 1 2),GF 18 16 (.zg 17),GF 19 16 (.bin .gtr 18 (cI 4)),Pk 20 16 cT 19]) (.cond 20 (.seq (OP [Mv 4 (cI 1)]) .ret) .skip)) (.seq (.seq (OP [LA 21 19 2,qm 22 1,Ca 23 37 [21,22],qm 5 23]) (.seq (OP [qm 24 5,Bi 25 .neq 24 (cI 0)]) (.cond 25 (.seq (OP [qm 26 5,qm 4 26]) .ret) .skip))) (.seq (OP [Fa 27 1 2,Lo 28 27,Bi 29 .neq 28 (cI 1),qm 30 29,GT 31 30 (.zy 2 2),GT 32 30 (.vC 7 31),GT 33 30 (.build [(.int .i64 0),(.int .i64 0),(.int .i64 0),(.int .i64 0),(.int .i64 0),(.int .i64 0),(.int .i64 0)] []),GT 34 30 (.eqa true [0,0,0,0,0,0,0] 32 33),Pk 35 30 34 cF,qm 36 35,GF 37 36 (.zy 1 2),GF 38 36 (.zg 37),GF 39 36 (.bin .neq 38 (cI 2)),GF 40 36 (.move 39),GT 41 40 (.zy 9 2),GT 42 40 (.vC 4 41),GT 43 40 (.build [(.int .i64 0),(.int .i64 0),(.int .i64 0),(.int .i64 0)] []),GT 44 40 (.eqa true [0,0,0,0] 42 43),GF 45 36 (.pick 40 44 cF),Pk 46 36 cT 45,qm 6 46]) (.seq (OP [qm 47 6,qm 48 47,GF 49 48 (.zy 1 2),GF 50 48 (.zg 49),GF 51 48 (.bin .neq 50 (cI 3)),GF 52 48 (.move 51),GT 53 52 (.zy 13 2),GT 54 52 (.zy 0 53),GT 55 52 (.zg 54),GT 56 52 (.bin .neq 55 (cI 0)),GT 57 52 (.move 56),GF 58 57 (.zy 13 2),GF 59 57 (.zy 1 58),GF 60 57 (.zg 59),GF 61 57 (.bin .neq 60 (cI 0)),GT 62 52 (.pick 57 cT 61),GT 63 52 (.move 62),GF 64 63 (.zy 13 2),GF 65 63 (.zy 2 64),GF 66 63 (.zg 65),GF 67 63 (.len 66),GF 68 63 (.bin .gtr 67 (cI 0)),GT 69 52 (.pick 63 cT 68),GF 70 48 (.pick 52 69 cF),Pk 71 48 cT 70,qm 6 71]) (.seq (.seq (OP [qm 72 6,qm 73 72,GF 74 73 (.zy 1 2),GF 75 73 (.zg 74),GF 76 73 (.bin .neq 75 (cI 4)),GF 77 73 (.move 76),GT 78 77 (.zy 16 2),GT 79 77 (.zy 0 78),GT 80 77 (.zg 79),GT 81 77 (.bin .neq 80 (cI 0)),GT 82 77 (.move 81),GF 83 82 (.zy 16 2),GF 84 82 (.zy 1 83),GF 85 82 (.zg 84),GF 86 82 (.bin .neq 85 (cI 0)),GT 87 77 (.pick 82 cT 86),GT 88 77 (.move 87),GF 89 88 (.zy 16 2),GF 90 88 (.zy 2 89),GF 91 88 (.zg 90),GF 92 88 (.len 91),GF 93 88 (.bin .gtr 92 (cI 0)),GT 94 77 (.pick 88 cT 93),GF 95 73 (.pick 77 94 cF),Pk 96 73 cT 95]) (.cond 96 (.seq (OP [Mv 4 (cI 1)]) .ret) .skip)) (.seq (OP [Mv 4 (cI 0)]) .ret))))))
theorem zAr:zv Tryz.prog 16 97 [.tmp 4] c16:=fK Tryz.func16
theorem V0 (names:List ByteArray) (hn:qG names) (name:ByteArray) (hnm:name.size≤9223372036854775807) (sort:Int) (x:qV) (k a b c:Int) (f g:Tree) (hf:Small f) (hg:Small g) :
  zn Tryz.prog 16 [y8 name sort x k a b c f g,xf names] (.sc (.int .i64 (vK names name sort x k a b c f g))):=by
 have hN:=Yg name hnm
 refine za zAr zs (by simp[zb,yN,z6]) ?_ (by simp[Pure])
 have fin:∀{H:List zf} {z:Int},z=vK names name sort x k a b c f g→Deep H (.sc (.int .i64 z)) (.sc (.int .i64 (vK names name sort x k a b c f g))):=λh=>h▸.refl _
 by_cases hs:1≤sort∧sort≤4
 ·have hP:=zo4 names hn name sort x k a b c f g hs hf hg
  unfold y8 wE zG xh yy at *
  refine sR ?_
  refine sC hN ?_
  cases e1:xd name
  ·refine sW ?_
   exact fin (by unfold vK;rw[if_pos (.inl e1)])
  ·refine sW ?_
   rw[show decide (sort<1)=false from decide_eq_false zo]
   refine sW ?_
   rw[show decide (sort>4)=false from decide_eq_false zo]
   refine sW ?_
   refine sC hP ?_
   refine sS (λe2=>?_) λe2=>?_
   ·have e2:y9 names sort x k a b c f g≠0:=by simpa using e2
    exact fin (by unfold vK;rw[if_neg (by rw[e1];simp;omega),if_pos e2])
   ·have e2:y9 names sort x k a b c f g=0:=by simpa using e2
    have hE:vK names name sort x k a b c f g=if zhN sort x k a b c f g=true then 1 else 0:=by unfold vK;rw[if_neg (by rw[e1];simp;omega),if_neg (by simp[e2])]
    rw[hE]
    clear fin hE hP hN e2 e1 hn hnm
    have h4:sort=1∨sort=2∨sort=3∨sort=4:=zo
    clear hs
    rcases h4 with rfl|rfl|rfl|rfl
    all_goals
     refine sW ?_
     repeat' (first
      | exact zR (congrArg (λz=>D.sc (.int .i64 z)) (by simp_all [zhN,Q9,Tree.width]<;>(intros;omega)))
      | (split<;>(rename_i _ heq;(try rw[heq]);refine sW ?_))
      | (refine QO (λh=>?_) (λh=>?_)<;>((try rw[h]);refine sW ?_)))
 ·have hE:vK names name sort x k a b c f g=1:=by unfold vK;rw[if_pos zo]
  unfold y8 wE zG xh yy at *
  refine sR ?_
  refine sC hN ?_
  cases e1:xd name
  ·refine sW ?_
   exact fin hE.symm
  ·refine sW ?_
   cases e2:decide (sort<1)
   ·refine sW ?_
    rw[show decide (sort>4)=true from decide_eq_true (by have:=of_decide_eq_false e2;omega)]
    refine sW ?_
    exact fin hE.symm
   ·refine sW ?_
    exact fin hE.symm
end
section
open Go.RowKit
def zCh:PC:=.seq (OP [Bi 10 .lss 9 8]) (.seq (.cond 10 .skip (.exit 0)) (.seq (.block 1 (.seq (OP [Ia 11 2 7 9,LA 12 2 11,q 5 (.alloc [(.string ⟨#[]⟩),(.int .i64 0)]),So 2 5 12]) (OP [qm 13 3,Fa 14 0 5,Lo 15 14,Bs 16 1 1 [15],Ap 17 1 16 13 16,qm 3 17]))) (OP [Bi 18 .add 9 (cI 1),qm 9 18])))
def c17:PC:=.seq (OP [Bx 1 0,Mv 2 cN]) (.seq (OP [Mv 3 cN]) (.seq (.seq (OP [Fa 6 0 1,Lo 7 6,Ln 8 7,Mv 9 (cI 0)]) (.block 0 (.loop zCh))) (.seq (OP [qm 19 3,qm 2 19]) .ret)))
theorem zyO:zv Tryz.prog 17 20 [.tmp 2] c17:=fK Tryz.func17
theorem zmO {P:ze} {k:Nat} (h:k<P.nodes.length):List.drop 0 (List.take k (((P.nodes.take k).map λx=>x.1).map λs=>[D.sc (.string s)]))++[[D.sc (.string (P.name k))]]=((P.nodes.take (k+1)).map λx=>x.1).map λs=>[D.sc (.string s)]:=by
 rw[zw (by simp;omega),List.take_add_one,List.getElem?_eq_getElem h]
 unfold ze.name
 rw[List.getD_eq_getElem?_getD,List.getElem?_eq_getElem h]
 simp only[List.map_append,List.map_cons,List.map_nil,Option.toList_some,Option.getD_some]
def xQ (P:ze):List ByteArray:=P.nodes.map λx=>x.1
theorem zap (P:ze) (hP:P.nodes.length≤1000000):zn Tryz.prog 17 [yS P] (xf (xQ P)):=by
 refine za zyO zs (by simp[zb,yb]) ?_ (z6 _)
 refine sR ?_
 rw[List.length_map]
 refine zH (xw 3 1 zs rfl) ?_
 refine zP [7,8] (λk:Nat=>[(3,.own 1 k 0 k),(9,.sc (.int .i64 k))]) (λk=>[(1,.vec true k 1 (((P.nodes.take k).map λx=>x.1).map λs=>[.sc (.string s)]))]) (λk=>k≤P.nodes.length) (λk=>P.nodes.length-k) 0 ?_
 refine sW ?_
 refine⟨zo,by exact sK,rfl,?_⟩
 rintro k hk
 refine sW ?_
 refine sR ?_
 refine sS (λh=>?_) λh=>?_
 ·have hk':k<P.nodes.length:=sO
  refine sL (Xq P (k:=k) zo hk') ?_
  refine sJ ?_
  refine sI ?_
  refine⟨k+1,zo,zd,?_⟩
  refine zm 2 zs rfl sQ (sU ?_)
  exact zp (zmO hk')
 ·have hk':k=P.nodes.length:=by have:¬k<P.nodes.length:=sO
                                omega
  subst hk'
  refine .own _ _ _ _ _ _ _ _ rfl ?_
  rw[zw zs,List.take_length]
  exact z8 _
def zDt:PC:=.seq (OP [Bi 11 .lss 10 9]) (.seq (.cond 11 .skip (.exit 0)) (.seq (.block 1 (.seq (OP [Ia 12 1 8 10,Lo 13 12,qm 7 13]) (OP [qm 14 5,qm 15 0,qm 16 7,Ia 17 2 15 16,Fa 18 0 17,Lo 19 18,Bs 20 1 1 [19],Ap 21 1 8 14 20,qm 5 21]))) (OP [Bi 22 .add 10 (cI 1),qm 10 22])))
def c21:PC:=.seq (OP [Mv 4 cN]) (.seq (OP [Mv 5 cN]) (.seq (.seq (OP [qm 8 1,Ln 9 8,Mv 10 (cI 0)]) (.block 0 (.loop zDt))) (.seq (OP [qm 23 5,qm 4 23]) .ret)))
theorem zyI:zv Tryz.prog 21 24 [.tmp 4] c21:=fK Tryz.func21
theorem zi5 (of:List zO) (hof:of.length≤1000000) (l:List Int) (hl:l.length≤1000000000000) (xR:xJ l of.length=true):zn Tryz.prog 21 [vo of,zB l] (zB (l.map λn=>(of.getD n.toNat (0,0)).1)):=by
 refine za zyI zs (by simp[zb,vv,zj]) ?_ (zj _)
 unfold vo zB
 refine sR ?_
 rw[List.length_map]
 refine zH (xw 5 1 zs rfl) ?_
 refine zP [0,8,9] (λk:Nat=>[(5,.own 0 k 0 k),(10,.sc (.int .i64 k))]) (λk=>[(0,.vec true k 1 (zI ((l.take k).map λn=>(of.getD n.toNat (0,0)).1)))]) (λk=>k≤l.length) (λk=>l.length-k) 0 ?_
 refine sW ?_
 refine⟨zo,by exact sK,rfl,?_⟩
 rintro k hk
 refine sW ?_
 refine sR ?_
 refine sS (λh=>?_) λh=>?_
 ·have hk':k<l.length:=sO
  have hx:=z1 xR (yz hk')
  refine sL (yc (k:=k) zo hk') ?_
  refine sL (uz (k:=(l.getD k 0).toNat) zo zo) ?_
  refine sJ ?_
  refine sI ?_
  refine⟨k+1,zo,zd,?_⟩
  refine zm 1 zs rfl sQ (sU ?_)
  refine zp ((uA (by simp;omega)).trans ?_)
  have e:l.getD k 0=l[k]:=by rw[List.getD_eq_getElem?_getD,List.getElem?_eq_getElem hk'];rfl
  rw[List.take_add_one,List.getElem?_eq_getElem hk',e,List.map_append]
  rfl
 ·have hk':k=l.length:=by have:¬k<l.length:=sO
                          omega
  subst hk'
  rw[List.take_length]
  exact W0 zs rfl
section
variable (P:ze) (tok st:Int) (name:ByteArray) (sort:Int) (x:qV) (k a b c:Int) (f g:Tree)
noncomputable def jE:Int :=
 if P.VX tok st≠0 then P.VX tok st else if ¬xY (P.Z2 tok st) (P.Z2 tok st).length≤600 then 2
 else if vK (xQ P) name sort x k a b c f g≠0 then vK (xQ P) name sort x k a b c f g
 else if sort=4 then 0 else if Zu sort x k a b c f≠0 then Zu sort x k a b c f else ZA (xD sort x k a b c f)
noncomputable def jB:Bool :=
 decide (jE P tok st name sort x k a b c f g=0)&&if sort=4 then (Vx P tok st).start.all λn=>zbv (Vx P tok st) g n.toNat else !(qt (Vx P tok st) (qY (xD sort x k a b c f)))
noncomputable def zkz (l:List Int):List Int:=l.map λn=>((wL (P.Z2 tok st) (P.Z2 tok st).length).getD n.toNat (0,0)).1
def Wu (h:Bool) (s l:List Int):D:=.agg [.sc (.bool h),zB s,zB l]
theorem Yu (h:Bool) (s l:List Int):Pure (Wu h s l):=by simp[Wu,Pure,zb,zj]
end
theorem U3 {H:List zf} {e:Int}:Deep H (.yP [.agg [.sc (.bool false),.sc (.slice none 0 0),.sc (.slice none 0 0)],.sc (.int .i64 e)]) (.yP [Wu false [] [],.sc (.int .i64 e)]) :=
 .yP _ _ (.cons _ _ _ _ (.agg _ _ (.cons _ _ _ _ (.refl _) (.cons _ _ _ _ (.none _) (.cons _ _ _ _ (.none _) .nil)))) (.cons _ _ _ _ (.refl _) .nil))
def c6_1:PC:=.seq (OP [Bi 59 .lss 58 57]) (.seq (.cond 59 .skip (.exit 0)) (.seq (.block 1 (.seq (OP [Ia 60 1 56 58,Lo 61 60,qm 17 61]) (.seq (OP [qm 62 14,qm 63 17,Ia 64 1 62 63,Lo 65 64,Nt 66 65]) (.cond 66 (.seq (OP [q 67 (.build [(.bool false),(.slice none 0 0),(.slice none 0 0)] []),So 3 8 67,Mv 9 (cI 0)]) .ret) .skip)))) (OP [Bi 68 .add 58 (cI 1),qm 58 68])))
def c6:PC:=.seq (OP [Bx 4 0,Bx 5 1,q 8 (.alloc [(.bool false),(.slice none 0 0),(.slice none 0 0)]),Mv 9 (cI 0)]) (.seq (OP [LA 22 2 4,qm 23 2,qm 24 3,Ca 25 15 [22,23,24],qm 21 25,Xt 26 0 21,Xt 27 1 21,Xt 28 2 21,q 10 (.alloc [(.slice none 0 0),(.slice none 0 0),(.slice none 0 0),(.slice none 0 0)]),So 4 10 26,qm 11 27,qm 12 28]) (.seq (.seq (OP [qm 29 12,Bi 30 .neq 29 (cI 0)]) (.cond 30 (.seq (OP [q 31 (.build [(.bool false),(.slice none 0 0),(.slice none 0 0)] []),qm 32 12,So 3 8 31,qm 9 32]) .ret) .skip)) (.seq (.seq (.ops [LA 33 19 5,LA 34 2 4,qd 35 (.call 17 [34]) 2,qd 36 (.call 16 [33,35]) 7,qw 13 36 15] true) (.seq (OP [qm 37 13,Bi 38 .neq 37 (cI 0)]) (.cond 38 (.seq (OP [q 39 (.build [(.bool false),(.slice none 0 0),(.slice none 0 0)] []),qm 40 13,So 3 8 39,qm 9 40]) .ret) .skip))) (.seq (.seq (OP [Fa 41 1 5,Lo 42 41,Bi 43 .eql 42 (cI 4)]) (.cond 43 (.seq (OP [LA 45 4 10,Fa 46 16 5,LA 47 3 46,Ca 48 18 [45,47],qm 44 48,Xt 49 0 44,Xt 50 1 44,qm 14 49,qm 15 50]) (.seq (.seq (OP [qm 51 15,Bi 52 .neq 51 (cI 0)]) (.cond 52 (.seq (OP [q 53 (.build [(.bool false),(.slice none 0 0),(.slice none 0 0)] []),qm 54 15,So 3 8 53,qm 9 54]) .ret) .skip)) (.seq (.seq (OP [Fa 55 0 10,Lo 56 55,Ln 57 56,Mv 58 (cI 0)]) (.block 0 (.loop c6_1))) (.seq (OP [q 69 (.build [(.bool false),(.slice none 0 0),(.slice none 0 0)] [(0,1,cT)]),So 3 8 69,Mv 9 (cI 0)]) .ret)))) .skip)) (.seq (OP [LA 71 19 5,Ca 72 19 [71],qm 70 72,Xt 73 0 70,Xt 74 1 70,q 18 (.alloc [(.int .i64 0),(.int .i64 0),(.slice none 0 0)]),So 3 18 73,qm 12 74]) (.seq (.seq (OP [qm 75 12,Bi 76 .neq 75 (cI 0)]) (.cond 76 (.seq (OP [q 77 (.build [(.bool false),(.slice none 0 0),(.slice none 0 0)] []),qm 78 12,So 3 8 77,qm 9 78]) .ret) .skip)) (.seq (OP [LA 80 4 10,LA 81 3 18,Ca 82 20 [80,81],qm 79 82,Xt 83 0 79,Xt 84 1 79,Xt 85 2 79,q 19 (.alloc [(.slice none 0 0),(.slice none 0 0)]),So 2 19 83,qm 20 84,qm 12 85]) (.seq (.seq (OP [qm 86 12,Bi 87 .neq 86 (cI 0),qm 88 87,GF 89 88 (.move 20),Pk 90 88 cT 89]) (.cond 90 (.seq (OP [qm 91 20,q 92 (.build [(.bool false),(.slice none 0 0),(.slice none 0 0)] [(0,1,91)]),qm 93 12,So 3 8 92,qm 9 93]) .ret) .skip)) (.seq (.ops [qm 94 11,Fa 95 0 19,qd 96 (.zg 95) 2,qd 97 (.call 21 [94,96]) 7,qm 98 11,Fa 99 1 19,qd 100 (.zg 99) 32,qd 101 (.call 21 [98,100]) 127,qd 102 (.build [(.bool false),(.slice none 0 0),(.slice none 0 0)] [(1,1,97),(2,1,101)]) 255,qk (.store 3 8 102) 511,qd 9 (.move (cI 0)) 1023] true) .ret)))))))))
theorem zhf:zv Tryz.prog 6 103 [.agg 8 3,.tmp 9] c6:=fK Tryz.func6
section
variable {P:ze} (hP:P.Fits) {tok st:Int} {name:ByteArray} (hnm:name.size≤9223372036854775807) {sort:Int} {x:qV} {k a b c:Int} {f g:Tree} (hf:Small f) (hg:Small g)
include hP in
theorem zvD (h1:P.VX tok st≠0):zn Tryz.prog 6 [yS P,y8 name sort x k a b c f g,.sc (.int .i64 tok),.sc (.int .i64 st)] (.yP [Wu false [] [],.sc (.int .i64 (P.VX tok st))]):=by
 have hR:=zsB P hP tok st h1
 refine za zhf zs (by simp[zb,Pure,yb,yN]) ?_ (by simp[Pure,zb,Yu])
 generalize P.VX tok st=e at *
 unfold yS ze.cells zj3 at *
 refine sR ?_
 refine sC hR ?_
 refine sS (λh=>?_) λh=>?_
 ·exact U3
 ·exfalso;exact sO
include hP in
theorem zuo (h1:P.VX tok st=0) (h2:¬xY (P.Z2 tok st) (P.Z2 tok st).length≤600):zn Tryz.prog 6 [yS P,y8 name sort x k a b c f g,.sc (.int .i64 tok),.sc (.int .i64 st)] (.yP [Wu false [] [],.sc (.int .i64 2)]):=by
 have hR:=UR P hP tok st h1 (vx h1)
 rw[if_neg h2] at hR
 refine za zhf zs (by simp[zb,Pure,yb,yN]) ?_ (by simp[Pure,zb,Yu])
 unfold yS ze.cells zj3 at *
 refine sR ?_
 refine sC hR ?_
 exact U3
theorem zq4 {names:List ByteArray} (h:vK names name 4 x k a b c f g=0):yF xN g=0:=by
 unfold vK at h
 split at h
 ·cases h
 ·split at h
  ·rename_i q;exact absurd h q
  ·rename_i q
   have q:=Classical.not_not.1 q
   unfold y9 at q
   rw[if_neg zc,if_neg zc,if_neg zc,if_pos rfl] at q
   split at q
   ·assumption
   ·exact q
theorem zoW (h:Zu sort x k a b c f=0):yF zU (xD sort x k a b c f)=0:=by
 unfold Zu at h
 unfold xD
 split at h
 ·rename_i h1
  rw[if_pos h1]
  unfold zfQ at h
  split at h
  ·exact h
  ·rename_i q;exact absurd h q
 ·rename_i h1
  rw[if_neg h1]
  split at h
  ·rename_i h2
   rw[if_pos h2]
   unfold zjb at h
   split at h
   ·exact h
   ·rename_i q;exact absurd h q
  ·rename_i h2
   rw[if_neg h2]
   split at h
   ·exact h
   ·cases h
include hP hnm hf hg in
theorem zvQ (h1:P.VX tok st=0) (h2:xY (P.Z2 tok st) (P.Z2 tok st).length≤600) (h3:vK (xQ P) name sort x k a b c f g≠0):zn Tryz.prog 6 [yS P,y8 name sort x k a b c f g,.sc (.int .i64 tok),.sc (.int .i64 st)] (.yP [Wu false [] [],.sc (.int .i64 (vK (xQ P) name sort x k a b c f g))]):=by
 have hR:=UR P hP tok st h1 (vx h1)
 rw[if_pos h2,←znz] at hR
 have hc:=ze.xq (vx h1).steps
 have hn20:=(xi hc.1).1
 have hNm:=zap P zo
 have hSS:qG (xQ P):=⟨by simp[xQ];omega,λs hs=>by obtain⟨z,hz,rfl⟩:=List.mem_map.1 hs;exact hP.name z hz⟩
 have hC:=V0 (xQ P) hSS name hnm sort x k a b c f g hf hg
 generalize vK (xQ P) name sort x k a b c f g=e at *
 refine za zhf zs (by simp[zb,Pure,yb,yN]) ?_ (by simp[Pure,zb,Yu])
 unfold yS ze.cells y8 wE zG xh yy wb zA.cells at *
 refine sR ?_
 refine sC hR ?_
 refine sC hNm ?_
 refine sC hC ?_
 refine sS (λh=>?_) λh=>?_
 ·exact U3
 ·exfalso;exact sO
include hP hnm hf hg in
theorem zAJ (h1:P.VX tok st=0) (h2:xY (P.Z2 tok st) (P.Z2 tok st).length≤600) (h4:sort=4) (h3:vK (xQ P) name sort x k a b c f g=0) :
  zn Tryz.prog 6 [yS P,y8 name sort x k a b c f g,.sc (.int .i64 tok),.sc (.int .i64 st)] (.yP [Wu ((Vx P tok st).start.all λn=>zbv (Vx P tok st) g n.toNat) [] [],.sc (.int .i64 0)]):=by
 have hR:=UR P hP tok st h1 (vx h1)
 rw[if_pos h2,←znz] at hR
 have hW:=zmH h1 h2
 have hc:=ze.xq (vx h1).steps
 have hn20:=(xi hc.1).1
 have hNm:=zap P zo
 have hSS:qG (xQ P):=⟨by simp[xQ];omega,λs hs=>by obtain⟨z,hz,rfl⟩:=List.mem_map.1 hs;exact hP.name z hz⟩
 have hC:=V0 (xQ P) hSS name hnm sort x k a b c f g hf hg
 rw[h3] at hC
 subst h4
 have hL:=zrF (Vx P tok st) hW.fits hW.zs1 g hg hW.yF (zq4 h3)
 obtain⟨w1,w2,w3,w4,w5,w6⟩:=qg _ hW.yF
 have hsl:=hW.start
 clear hW hSS h3
 generalize Vx P tok st=W at *
 refine za zhf zs (by simp[zb,Pure,yb,yN]) ?_ (by simp[Pure,zb,Yu])
 generalize hb:(W.start.all λn=>zbv W g n.toNat)=B
 unfold yS ze.cells y8 wE zG xh yy wb zA.cells at *
 refine sR ?_
 refine sC hR ?_
 refine sC hNm ?_
 refine sC hC ?_
 refine sC hL ?_
 rw[List.length_map]
 refine zP [8,14,56,57] (λi:Nat=>[(58,.sc (.int .i64 i))]) (λ_=>[]) (λi=>i≤W.start.length∧∀j,j<i→zbv W g (W.start.getD j 0).toNat=true) (λi=>W.start.length-i) 0 ?_
 refine sW ?_
 refine⟨⟨zo,λj hj=>zo⟩,by exact sK,rfl,?_⟩
 rintro i ⟨hi,hall⟩
 refine sW ?_
 refine sR ?_
 refine sS (λh=>?_) λh=>?_
 ·have hi':i<W.start.length:=sO
  have hx:=z1 w4 (yz hi')
  refine sL (yc (k:=i) zo hi') ?_
  refine sL (yh (W.start.getD i 0).toNat zo zo) ?_
  cases r:zbv W g (W.start.getD i 0).toNat
  ·refine sW ?_
   have:B=false:=by rw[←hb,List.all_eq_false];exact⟨_,yz hi',by rw[r];simp⟩
   rw[this]
   exact U3
  ·refine sW ?_
   refine sI ?_
   refine⟨i+1,⟨zo,λj hj=>?_⟩,zd,zD (by exact sK) rfl⟩
   by_cases e:j=i
   ·subst e;exact r
   ·exact hall j zo
 ·have hi':i=W.start.length:=by have:¬i<W.start.length:=sO
                                omega
  subst hi'
  have:B=true:=by
   rw[←hb,List.all_eq_true]
   intro y hy
   obtain⟨j,hj,rfl⟩:=XQ hy
   exact hall j hj
  rw[this]
  exact .yP _ _ (.cons _ _ _ _ (.agg _ _ (.cons _ _ _ _ (.refl _) (.cons _ _ _ _ (.none _) (.cons _ _ _ _ (.none _) .nil)))) (.cons _ _ _ _ (.refl _) .nil))
include hP hnm hf hg in
theorem zvx (h1:P.VX tok st=0) (h2:xY (P.Z2 tok st) (P.Z2 tok st).length≤600) (h4:sort≠4) (h3:vK (xQ P) name sort x k a b c f g=0) (h5:Zu sort x k a b c f≠0) :
  zn Tryz.prog 6 [yS P,y8 name sort x k a b c f g,.sc (.int .i64 tok),.sc (.int .i64 st)] (.yP [Wu false [] [],.sc (.int .i64 (Zu sort x k a b c f))]):=by
 have hR:=UR P hP tok st h1 (vx h1)
 rw[if_pos h2,←znz] at hR
 have hc:=ze.xq (vx h1).steps
 have hn20:=(xi hc.1).1
 have hNm:=zap P zo
 have hSS:qG (xQ P):=⟨by simp[xQ];omega,λs hs=>by obtain⟨z,hz,rfl⟩:=List.mem_map.1 hs;exact hP.name z hz⟩
 have hC:=V0 (xQ P) hSS name hnm sort x k a b c f g hf hg
 rw[h3] at hC
 have hM:=zaj name sort x k a b c f g hf
 unfold UC at hM
 rw[if_neg h5] at hM
 generalize Zu sort x k a b c f=e at *
 refine za zhf zs (by simp[zb,Pure,yb,yN]) ?_ (by simp[Pure,zb,Yu])
 unfold yS ze.cells y8 wE zG xh yy wb zA.cells at *
 refine sR ?_
 refine sC hR ?_
 refine sC hNm ?_
 refine sC hC ?_
 rw[ya h4]
 refine sW ?_
 refine sC hM ?_
 refine sS (λh=>?_) λh=>?_
 ·exact U3
 ·exfalso;exact sO
include hP hnm hf hg in
theorem zr4 (h1:P.VX tok st=0) (h2:xY (P.Z2 tok st) (P.Z2 tok st).length≤600) (h4:sort≠4) (h3:vK (xQ P) name sort x k a b c f g=0) (h5:Zu sort x k a b c f=0) :
  ∃s l,zn Tryz.prog 6 [yS P,y8 name sort x k a b c f g,.sc (.int .i64 tok),.sc (.int .i64 st)]
   (.yP [Wu (decide (ZA (xD sort x k a b c f)=0)&&!(qt (Vx P tok st) (qY (xD sort x k a b c f)))) (zkz P tok st s) (zkz P tok st l),.sc (.int .i64 (ZA (xD sort x k a b c f)))]) ∧
   (ZA (xD sort x k a b c f)=0→qt (Vx P tok st) (qY (xD sort x k a b c f))=true→U6 (Vx P tok st) (qY (xD sort x k a b c f)) (xj (Vx P tok st) (qY (xD sort x k a b c f))).1 (xj (Vx P tok st) (qY (xD sort x k a b c f))).2 (xn (Vx P tok st) (qY (xD sort x k a b c f))).2=.yP [.agg [zB s,zB l],.sc (.bool (qt (Vx P tok st) (qY (xD sort x k a b c f)))),.sc (.int .i64 0)]) ∧
   (¬(ZA (xD sort x k a b c f)=0∧qt (Vx P tok st) (qY (xD sort x k a b c f))=true)→s=[]∧l=[]):=by
 have hR:=UR P hP tok st h1 (vx h1)
 rw[if_pos h2,←znz] at hR
 have hW:=zmH h1 h2
 have hc:=ze.xq (vx h1).steps
 have hn20:=(xi hc.1).1
 have hNm:=zap P zo
 have hSS:qG (xQ P):=⟨by simp[xQ];omega,λs hs=>by obtain⟨z,hz,rfl⟩:=List.mem_map.1 hs;exact hP.name z hz⟩
 have hC:=V0 (xQ P) hSS name hnm sort x k a b c f g hf hg
 rw[h3] at hC
 have hM:=zaj name sort x k a b c f g hf
 unfold UC at hM
 rw[if_pos h5,h5] at hM
 have hTc:=zoW h5
 obtain⟨s,l,hH,hs1,hs2⟩:=zq5 (Vx P tok st) hW.fits hW.start hW.rows (xD sort x k a b c f) (zks _ _ _ _ _ _ _ hf)
 rw[if_neg (by simpa using hW.yF),if_neg (by simpa using hTc)] at hH
 have hd:decide ((Vx P tok st).yF=0∧yF zU (xD sort x k a b c f)=0∧ZA (xD sort x k a b c f)=0)=decide (ZA (xD sort x k a b c f)=0):=by rw[decide_eq_decide];exact⟨λh=>h.2.2,λh=>⟨hW.yF,hTc,h⟩⟩
 rw[hd] at hH
 refine⟨s,l,?_,λq q2=>hs1 hW.yF hTc q,λq=>hs2 λq2=>q q2.2.2⟩
 have xR:ZA (xD sort x k a b c f)=0→qt (Vx P tok st) (qY (xD sort x k a b c f))=true→xJ s (Vx P tok st).next.length=true∧xJ l (Vx P tok st).next.length=true∧s.length≤1000000000∧l.length≤1000000000:=λq q2 =>
  zsI (zai hW.fits hW.yF hW.start hW.rows q) q2 (hs1 hW.yF hTc q)
 have hol:(wL (P.Z2 tok st) (P.Z2 tok st).length).length=(Vx P tok st).next.length:=by rw[XV];exact(JG _).symm
 have hne:¬(ZA (xD sort x k a b c f)=0∧qt (Vx P tok st) (qY (xD sort x k a b c f))=true)→s=[]∧l=[]:=λq=>hs2 λq2=>q q2.2.2
 have h600:(wL (P.Z2 tok st) (P.Z2 tok st).length).length≤600:=h2
 unfold zkz
 clear hs1 hs2 hd hW hTc hSS h3 h5
 generalize wL (P.Z2 tok st) (P.Z2 tok st).length=of at *
 generalize Vx P tok st=W at *
 generalize xD sort x k a b c f=T at *
 generalize hA:qt W (qY T)=A at *
 generalize ZA T=e at *
 refine za zhf zs (by simp[zb,Pure,yb,yN]) ?_ (by simp[Pure,zb,Yu])
 unfold yS ze.cells y8 wE zG xh yy wb zA.cells at *
 by_cases he:e=0
 ·subst he
  cases A
  ·obtain⟨rfl,rfl⟩:=hne zs
   refine sR ?_
   refine sC hR ?_
   refine sC hNm ?_
   refine sC hC ?_
   rw[ya h4]
   refine sW ?_
   refine sC hM ?_
   refine sC hH ?_
   exact .yP _ _ (.cons _ _ _ _ (.agg _ _ (.cons _ _ _ _ (.refl _) (.cons _ _ _ _ (.none _) (.cons _ _ _ _ (.none _) .nil)))) (.cons _ _ _ _ (.refl _) .nil))
  ·obtain⟨i1,i2,i3,i4⟩:=xR rfl rfl
   have hL1:=zi5 of zo s zo (by rw[hol];exact i1)
   have hL2:=zi5 of zo l zo (by rw[hol];exact i2)
   refine sR ?_
   refine sC hR ?_
   refine sC hNm ?_
   refine sC hC ?_
   rw[ya h4]
   refine sW ?_
   refine sC hM ?_
   refine sC hH ?_
   refine sC hL1 ?_
   refine sC hL2 ?_
   exact .refl _
 ·obtain⟨rfl,rfl⟩:=hne (λq=>he q.1)
  refine sR ?_
  refine sC hR ?_
  refine sC hNm ?_
  refine sC hC ?_
  rw[ya h4]
  refine sW ?_
  refine sC hM ?_
  refine sC hH ?_
  rw[show(e != 0)=true by simpa using he]
  refine sW ?_
  rw[decide_eq_false he]
  exact .yP _ _ (.cons _ _ _ _ (.agg _ _ (.cons _ _ _ _ (.refl _) (.cons _ _ _ _ (.none _) (.cons _ _ _ _ (.none _) .nil)))) (.cons _ _ _ _ (.refl _) .nil))
include hP hnm hf hg in
theorem zrl (tok st:Int) (sort:Int) (x:qV) (k a b c:Int):∃s l,zn Tryz.prog 6 [yS P,y8 name sort x k a b c f g,.sc (.int .i64 tok),.sc (.int .i64 st)] (.yP [Wu (jB P tok st name sort x k a b c f g) s l,.sc (.int .i64 (jE P tok st name sort x k a b c f g))]):=by
 have bad:∀{e},jE P tok st name sort x k a b c f g=e→e≠0→jB P tok st name sort x k a b c f g=false:=λh q=>by unfold jB;rw[h,decide_eq_false q,Bool.false_and]
 by_cases h1:P.VX tok st=0
 ·by_cases h2:xY (P.Z2 tok st) (P.Z2 tok st).length≤600
  ·by_cases h3:vK (xQ P) name sort x k a b c f g=0
   ·by_cases h4:sort=4
    ·have e:jE P tok st name sort x k a b c f g=0:=by unfold jE;rw[if_neg (by simpa using h1),if_neg (by simpa using h2),if_neg (by simpa using h3),if_pos h4]
     have:=zAJ hP hnm hf hg h1 h2 h4 h3 (x:=x) (k:=k) (a:=a) (b:=b) (c:=c)
     refine⟨[],[],?_⟩
     have hb:jB P tok st name sort x k a b c f g=((Vx P tok st).start.all λn=>zbv (Vx P tok st) g n.toNat):=by unfold jB;rw[e,if_pos h4];simp
     rw[e,hb]
     exact this
    ·by_cases h5:Zu sort x k a b c f=0
     ·have e:jE P tok st name sort x k a b c f g=ZA (xD sort x k a b c f):=by unfold jE;rw[if_neg (by simpa using h1),if_neg (by simpa using h2),if_neg (by simpa using h3),if_neg h4,if_neg (by simpa using h5)]
      obtain⟨s,l,this,_⟩:=zr4 hP hnm hf hg h1 h2 h4 h3 h5
      refine⟨zkz P tok st s,zkz P tok st l,?_⟩
      have hb:jB P tok st name sort x k a b c f g=(decide (ZA (xD sort x k a b c f)=0)&&!(qt (Vx P tok st) (qY (xD sort x k a b c f)))):=by unfold jB;rw[e,if_neg h4]
      rw[e,hb]
      exact this
     ·have e:jE P tok st name sort x k a b c f g=Zu sort x k a b c f:=by unfold jE;rw[if_neg (by simpa using h1),if_neg (by simpa using h2),if_neg (by simpa using h3),if_neg h4,if_pos h5]
      refine⟨[],[],?_⟩
      rw[bad e h5,e]
      exact zvx hP hnm hf hg h1 h2 h4 h3 h5
   ·have e:jE P tok st name sort x k a b c f g=vK (xQ P) name sort x k a b c f g:=by unfold jE;rw[if_neg (by simpa using h1),if_neg (by simpa using h2),if_pos h3]
    refine⟨[],[],?_⟩
    rw[bad e h3,e]
    exact zvQ hP hnm hf hg h1 h2 h3
  ·have e:jE P tok st name sort x k a b c f g=2:=by unfold jE;rw[if_neg (by simpa using h1),if_pos h2]
   refine⟨[],[],?_⟩
   rw[bad e zc,e]
   exact zuo hP h1 h2
 ·have e:jE P tok st name sort x k a b c f g=P.VX tok st:=by unfold jE;rw[if_pos h1]
  refine⟨[],[],?_⟩
  rw[bad e h1,e]
  exact zvD hP h1
end
end
section
open Go.RowKit
def c7:PC:=.seq (OP [q 0 (.alloc [(.slice none 0 0),(.slice none 0 0)])]) (.seq (OP [q 5 (.call 22 [(cS #[115,116,97,114,116,32,97,10,116,97,115,107,32,98,10,120,111,114,32,120,10,116,97,115,107,32,99,10,101,110,100,32,101,10,102,108,111,119,32,97,32,98,10,102,108,111,119,32,98,32,120,10,102,108,111,119,32,120,32,98,10,102,108,111,119,32,120,32,99,10,102,108,111,119,32,99,32,101,10])]),qm 4 5,Xt 6 0 4,Xt 7 1 4,Xt 8 2 4,q 1 (.alloc [(.slice none 0 0),(.slice none 0 0)]),So 2 1 6,qm 2 7,qm 3 8]) (.seq (OP [LA 9 2 1,So 2 0 9]) .ret))
theorem zCr:zv Tryz.prog 7 10 [.agg 0 2] c7:=fK Tryz.func7
theorem zfY:zn Tryz.prog 7 [] (yS uD):=by
 have hR:=zmn twT zc
 rw[zvq] at hR
 refine za zCr zs (by simp[zb]) ?_ (yb _)
 unfold zng yS ze.cells at *
 refine sR ?_
 refine sC hR ?_
 exact .refl _
def c8:PC:=.seq (OP [q 12 (.alloc [(.string ⟨#[]⟩),(.int .i64 0),(.int .i64 0),(.int .i64 0),(.int .i64 0),(.int .i64 0),(.int .i64 0),(.int .i64 0),(.int .i64 0),(.int .i64 0),(.int .i64 0),(.int .i64 0),(.int .i64 0),(.int .i64 0),(.int .i64 0),(.slice none 0 0),(.int .i64 0),(.int .i64 0),(.slice none 0 0)])]) (.seq (OP [qm 13 0,qm 14 1,qm 15 2,qm 16 3,qm 17 4,qm 18 5,q 19 (.build [(.int .i64 0),(.int .i64 0),(.int .i64 0),(.int .i64 0),(.int .i64 0),(.int .i64 0),(.int .i64 0)] [(0,1,13),(1,1,14),(2,1,15),(3,1,16),(4,1,17),(5,1,18)]),q 20 (.build [(.string ⟨#[]⟩),(.int .i64 0),(.int .i64 0),(.int .i64 0),(.int .i64 0),(.int .i64 0),(.int .i64 0),(.int .i64 0),(.int .i64 0),(.int .i64 0),(.int .i64 0),(.int .i64 0),(.int .i64 0),(.int .i64 0),(.int .i64 0),(.slice none 0 0),(.int .i64 0),(.int .i64 0),(.slice none 0 0)] [(0,1,(cS #[114])),(1,1,(cI 1)),(2,7,19)]),So 19 12 20]) .ret)
theorem zCm:zv Tryz.prog 8 21 [.agg 12 19] c8:=fK Tryz.func8
def zcY (x:qV):D:=y8 ⟨#[114]⟩ 1 x 0 0 0 0 (vE 0 0) (vE 0 0)
theorem zb0 (a b c d e f:Int):zn Tryz.prog 8 [.sc (.int .i64 a),.sc (.int .i64 b),.sc (.int .i64 c),.sc (.int .i64 d),.sc (.int .i64 e),.sc (.int .i64 f)] (zcY ⟨a,b,c,d,e,f,0⟩):=by
 refine za zCm zs (by simp[zb,Pure]) ?_ (yN _ _ _ _ _ _ _ _ _)
 unfold zcY y8 wE zG xh yy
 refine sR ?_
 exact sP
theorem zsa:uD.Fits:=⟨zc,zc,zc⟩
theorem zsV:Small (vE 0 0):=zlz
theorem zym (x:qV) (he:zfQ x=0) (hr:vK [⟨#[97]⟩,⟨#[98]⟩,⟨#[120]⟩,⟨#[99]⟩,⟨#[101]⟩] ⟨#[114]⟩ 1 x 0 0 0 0 (vE 0 0) (vE 0 0)=0) (hn:ZA (vg x)=0) :
  ∃s l,zn Tryz.prog 6 [yS uD,zcY x,.sc (.int .i64 1),.sc (.int .i64 20)] (.yP [Wu (!(qt (Vx uD 1 20) (qY (vg x)))) s l,.sc (.int .i64 0)])∧(qt (Vx uD 1 20) (qY (vg x))=true→0<l.length):=by
 obtain⟨s,l,h1,h2,h3⟩:=zr4 (P:=uD) zsa (tok:=1) (st:=20) (name:=⟨#[114]⟩) zc (sort:=1) (x:=x) (k:=0) (a:=0) (b:=0) (c:=0) (f:=vE 0 0) (g:=vE 0 0) zsV zsV zmY.1 zsC zc hr (by unfold Zu;rw[if_pos rfl];exact he)
 have e:xD 1 x 0 0 0 0 (vE 0 0)=vg x:=by unfold xD;rw[if_pos rfl]
 rw[e,hn] at h1
 rw[e] at h2
 refine⟨zkz uD 1 20 s,zkz uD 1 20 l,by simpa [zcY] using h1,λha=>?_⟩
 have hb:=zai Qg.fits Qg.yF Qg.start Qg.rows hn
 have:=zl1 hb ha (h2 hn ha)
 unfold zkz
 rw[List.length_map]
 exact List.length_pos_iff.2 this
def c4:PC:=.seq (OP [Mv 0 cF]) (.seq (OP [Ca 6 7 [],Ca 7 8 [(cI 5),(cI 1),(cI 3),(cI 1),(cI 0),(cI 0)],Ca 8 6 [6,7,(cI 1),(cI 20)],qm 5 8,Xt 9 0 5,Xt 10 1 5,q 1 (.alloc [(.bool false),(.slice none 0 0),(.slice none 0 0)]),So 3 1 9,qm 2 10]) (.seq (OP [Ca 12 7 [],Ca 13 8 [(cI 3),(cI 1),(cI 3),(cI 0),(cI 0),(cI 0)],Ca 14 6 [12,13,(cI 1),(cI 20)],qm 11 14,Xt 15 0 11,Xt 16 1 11,q 3 (.alloc [(.bool false),(.slice none 0 0),(.slice none 0 0)]),So 3 3 15,qm 4 16]) (.seq (OP [qm 17 2,Bi 18 .eql 17 (cI 0),qm 19 18,GT 20 19 (.move 4),GT 21 19 (.bin .eql 20 (cI 0)),Pk 22 19 21 cF,qm 23 22,GT 24 23 (.zy 0 1),GT 25 23 (.zg 24),Pk 26 23 25 cF,qm 27 26,GT 28 27 (.zy 0 3),GT 29 27 (.zg 28),GT 30 27 (.un .not 29),Pk 31 27 30 cF,qm 32 31,GT 33 32 (.zy 2 3),GT 34 32 (.zg 33),GT 35 32 (.len 34),GT 36 32 (.bin .gtr 35 (cI 0)),Pk 37 32 36 cF,qm 0 37]) .ret)))
theorem zDu:zv Tryz.prog 4 38 [.tmp 0] c4:=fK Tryz.func4
theorem zrt:zn Tryz.prog 4 [] (zfn true):=by
 obtain⟨s1,l1,h1,_⟩:=zym twX zyr zDB zyp
 obtain⟨s2,l2,h2,k2⟩:=zym twY zxT zC6 zyn
 rw[zxw] at h1
 rw[znA] at h2
 have k2:=k2 znA
 have hX:=zb0 5 1 3 1 0 0
 have hY:=zb0 3 1 3 0 0 0
 refine za zDu zs (by simp[zb]) ?_ (by simp[zfn,Pure])
 unfold Wu zB at *
 refine sR ?_
 refine sC zfY ?_
 refine sC hX ?_
 refine sC h1 ?_
 refine sC zfY ?_
 refine sC hY ?_
 refine sC h2 ?_
 rw[List.length_map]
 exact zR (congrArg (λb=>D.sc (.bool b)) (decide_eq_true zo))
end
section
open Go.RowKit
theorem zrv {t:Tree} (h:t.kids.length≤9223372036854775807) (k:∀u∈t.kids,Small u):Small t :=
 .mk t h λj hj=>by rw[Tree.vF hj];exact k _ (List.getElem_mem _)
theorem zoa {P:Program} {L:Nat} {T E I:TypeId} {f0 f1 f2:Field} (hT:P.underlying T=some (.struct #[f0,f1,f2])) (h0:f0.type=I) (h1:f1.type=I) (h2:f2.type=E) (hE:P.underlying E=some (.slice T)) (hI:P.underlying I=some (.int .i64)) (hC:P.cellsOf T=3) :
  ∀(m:Nat) (ds:List D),SizeOf.sizeOf ds≤m→YJ P L T ds→∃t:Tree,ds=yy t∧Small t:=by
 intro m
 induction m with
 | zero=>intro ds hm;exact absurd hm (by cases ds<;>simp<;>omega)
 | succ m ih =>
  intro ds hm h
  have:=of_struct hT h
  simp only[List.map_cons,List.map_nil,h0,h1,h2] at this
  obtain⟨a,b,rfl,ha,hb⟩:=vQ this
  obtain⟨c,d,rfl,hc,hd⟩:=vQ hb
  obtain⟨e,f,rfl,he,hf⟩:=vQ hd
  obtain rfl:=XU hf
  obtain⟨k,rfl,_⟩:=of_int hI ha
  obtain⟨n,rfl,_⟩:=of_int hI hc
  obtain⟨xs,rfl,hl,hx⟩:=of_slice hE he
  rw[hC] at hm ⊢
  have each:∀x∈xs,∃t:Tree,x=yy t∧Small t:=λx hx'=>ih x (by
   have:=List.sizeOf_lt_of_mem hx'
   simp at hm
   omega) (zjG hx x hx')
  have all:∃ts:List Tree,xs=ts.map y6∧∀t∈ts,Small t:=by
   clear hm hx hl he hd hb this h ih
   induction xs with
   | nil=>exact⟨[],rfl,zs⟩
   | cons x r ihx =>
    obtain⟨t,rfl,ht⟩:=each x zs
    obtain⟨ts,rfl,hts⟩:=ihx λy hy=>each y (by simp[hy])
    refine⟨t::ts,by rw[List.map_cons,qp],λu hu=>?_⟩
    rcases List.mem_cons.1 hu with rfl|hu
    ·exact ht
    ·exact hts u hu
  obtain⟨ts,rfl,hts⟩:=all
  exact⟨.node k n ts,rfl,zrv (by simpa [Tree.kids] using hl) hts⟩
end
section
open Go.RowKit Go.ChangeShapes Go.WideShapes Go.ChangeAt
theorem zm9 {P:Program} {α:Type} {e:TypeId} {f:α→List D} {ok:α→Prop} (he:∀cs,OfT P e cs→∃a,cs=f a∧ok a) {xs:List (List D)} (h:OfTL P e xs):∃l:List α,xs=l.map f∧∀a∈l,ok a:=by
 induction xs with
 | nil=>exact⟨[],rfl,zs⟩
 | cons x r ih =>
  cases h with
  | cons _ _ _ h k =>
   obtain⟨a,rfl,ha⟩:=he x h
   obtain⟨l,rfl,hl⟩:=ih k
   exact⟨a::l,rfl,λb hb=>by
    rcases List.mem_cons.1 hb with rfl|hb
    ·exact ha
    ·exact hl b hb⟩
theorem zwT {d:D} (h:OfA Tryz.prog 25 d):∃P:ze,d=yS P∧P.Fits:=by
 unfold OfA zjD at h
 rw[Tryz.underlying25] at h
 obtain⟨cs,rfl,h⟩:=h
 have h:=of_struct Tryz.underlying25 h
 simp only[List.map_cons,List.map_nil] at h
 obtain⟨xs,r,rfl,hx0,hx,h⟩:=zeG Tryz.underlying22 h
 obtain⟨ys,r,rfl,hy0,hy,h⟩:=zeG Tryz.underlying23 h
 obtain rfl:=XU h
 obtain⟨nodes,rfl,hn⟩:=zm9 (f:=vU) (ok:=λx=>x.1.size≤9223372036854775807) (λcs h=>by
  have h:=of_struct Tryz.underlying40 h
  simp only[List.map_cons,List.map_nil] at h
  obtain⟨s,_,rfl,hs,h⟩:=zkq Tryz.underlying9 h
  obtain⟨k,_,rfl,_,h⟩:=w9 Tryz.underlying3 h
  obtain rfl:=XU h
  exact⟨(s,k),rfl,hs⟩) hx
 obtain⟨zu,rfl,_⟩:=zm9 (f:=Y4) (ok:=λ_=>True) (λcs h=>by
  have h:=of_struct Tryz.underlying54 h
  simp only[List.map_cons,List.map_nil] at h
  obtain⟨s,_,rfl,hs,h⟩:=w9 Tryz.underlying3 h
  obtain⟨k,_,rfl,_,h⟩:=w9 Tryz.underlying3 h
  obtain rfl:=XU h
  exact⟨(s,k),rfl,trivial⟩) hy
 refine⟨⟨nodes,zu⟩,?_,⟨by simpa using hx0,by simpa using hy0,hn⟩⟩
 rw[show Tryz.prog.cellsOf 40=2 by kernel_rfl,show Tryz.prog.cellsOf 54=2 by kernel_rfl]
 rfl
end
section
open Go.RowKit Go.ChangeShapes Go.WideShapes Go.ChangeAt
theorem zvh {d:D} (h:OfA Tryz.prog 37 d):∃name sort x k a b c f g,d=y8 name sort x k a b c f g∧name.size≤9223372036854775807∧Small f∧Small g:=by
 unfold OfA zjD at h
 rw[Tryz.underlying37] at h
 obtain⟨cs,rfl,h⟩:=h
 have h:=of_struct Tryz.underlying37 h
 simp only[List.map_cons,List.map_nil] at h
 obtain⟨name,r1,rfl,hnm,h⟩:=zkq Tryz.underlying9 h
 obtain⟨sort,r2,rfl,_,h⟩:=w9 Tryz.underlying3 h
 obtain⟨ps,r3,rfl,hp,h⟩:=vQ h
 obtain⟨tcs,r4,rfl,ht,h⟩:=vQ h
 obtain⟨fs,r5,rfl,hf,h⟩:=vQ h
 obtain⟨gs,r6,rfl,hg,h⟩:=vQ h
 obtain rfl:=XU h
 have hp:=of_struct Tryz.underlying27 hp
 obtain⟨kk,_,rfl,_,hp⟩:=w9 Tryz.underlying3 hp
 obtain⟨sc,_,rfl,_,hp⟩:=w9 Tryz.underlying3 hp
 obtain⟨p,_,rfl,_,hp⟩:=w9 Tryz.underlying3 hp
 obtain⟨s,_,rfl,_,hp⟩:=w9 Tryz.underlying3 hp
 obtain⟨q,_,rfl,_,hp⟩:=w9 Tryz.underlying3 hp
 obtain⟨r,_,rfl,_,hp⟩:=w9 Tryz.underlying3 hp
 obtain⟨n,_,rfl,_,hp⟩:=w9 Tryz.underlying3 hp
 obtain rfl:=XU hp
 have ht:=of_struct Tryz.underlying29 ht
 obtain⟨k,_,rfl,_,ht⟩:=w9 Tryz.underlying3 ht
 obtain⟨a,_,rfl,_,ht⟩:=w9 Tryz.underlying3 ht
 obtain⟨b,_,rfl,_,ht⟩:=w9 Tryz.underlying3 ht
 obtain⟨c,_,rfl,_,ht⟩:=w9 Tryz.underlying3 ht
 obtain rfl:=XU ht
 obtain⟨f,rfl,sf⟩:=zoa (I:=3) (E:=30) Tryz.underlying32 rfl rfl rfl Tryz.underlying30 Tryz.underlying3 (by kernel_rfl) _ _ (Nat.le_refl _) hf
 obtain⟨g,rfl,sg⟩:=zoa (I:=3) (E:=33) Tryz.underlying35 rfl rfl rfl Tryz.underlying33 Tryz.underlying3 (by kernel_rfl) _ _ (Nat.le_refl _) hg
 exact⟨name,sort,⟨kk,sc,p,s,q,r,n⟩,k,a,b,c,f,g,by simp[y8,wE,zG,xh],hnm,sf,sg⟩
theorem zqP {d:D} (h:OfA Tryz.prog 25 d):∃P:ze,d=yS P∧P.Fits∧P.nodes.length*24≤140737488351232:=by
 obtain⟨P,e,hP⟩:=zwT h
 refine⟨P,e,hP,?_⟩
 subst e
 unfold OfA zjD at h
 rw[Tryz.underlying25] at h
 obtain⟨cs,e,h⟩:=h
 have h:=of_struct Tryz.underlying25 h
 simp only[List.map_cons,List.map_nil] at h
 obtain⟨xs,r,rfl,⟨_,hz⟩,_,_⟩:=zjV Tryz.underlying22 h
 rw[show Tryz.prog.bytesOf 40=24 by kernel_rfl] at hz
 unfold yS ze.cells at e
 simp only[D.agg.injEq,List.cons.injEq,D.xl.injEq] at e
 obtain⟨⟨_,e⟩,_⟩:=e
 rw[←e,List.length_map] at hz
 exact hz
end
section
open Go.RowKit
end
section
structure zlU (Q P:ze):Prop where
 kind:Q.kind=P.kind
 len:Q.nodes.length=P.nodes.length
 zu:Q.zu=P.zu
namespace ze
section
variable {P Q:ze} (h:zlU Q P)
include h
theorem zfx:Q.src=P.src:=by funext i;unfold src;rw[h.zu]
theorem zbl:Q.dst=P.dst:=by funext i;unfold dst;rw[h.zu]
theorem Jx:Q.v7=P.v7:=by funext i;unfold v7;rw[zbl h,h.zu]
theorem zab:Q.uw=P.uw:=by funext i;unfold uw;rw[zfx h,h.zu]
theorem zpj:Q.u4=P.u4:=by funext i;unfold u4;rw[zfx h,zbl h,h.len]
theorem zpU:Q.vG=P.vG:=by funext i;induction i with|zero=>rfl|succ i ih=>simp only[vG,ih,h.kind]
theorem zqz:Q.Zk=P.Zk:=by funext i;induction i with|zero=>rfl|succ i ih=>simp only[Zk,ih,h.kind]
theorem zpb:Q.ZV=P.ZV:=by funext i;unfold ZV;rw[Jx h,zab h,h.kind]
theorem zsQ:Q.graph=P.graph:=by funext i;induction i with|zero=>simp only[graph,h.len]|succ i ih=>simp only[graph,ih,zfx h,zbl h]
theorem zod:Q.zhB=P.zhB:=by funext v;unfold zhB;rw[zsQ h,zqz h,h.len,h.zu]
open Classical in
theorem zAa (h1:Q.qF=0) (h2:P.qF=0):Q.yF=P.yF:=by
 have e:(∀v,v<Q.nodes.length→Q.zhB v)↔∀v,v<P.nodes.length→P.zhB v:=by rw[zod h,h.len]
 unfold yF
 simp only[h1,h2,zpj h,zpU h,zpb h,h.len,h.zu]
 exact ite_congr rfl (λ_=>rfl) (λ_=>ite_congr rfl (λ_=>rfl) (λ_=>ite_congr rfl (λ_=>rfl) (λ_=>ite_congr rfl (λ_=>rfl) (λ_=>ite_congr rfl (λ_=>rfl) (λ_=>ite_congr (by rw[zod h]) (λ_=>rfl) (λ_=>rfl))))))
theorem znH:Q.Y3=P.Y3:=by funext i;unfold Y3;rw[zab h]
theorem zwk:Q.Jo=P.Jo:=by funext a b c;unfold Jo;rw[zab h,znH h]
theorem ztR:Q.Yb=P.Yb:=by funext a b i;induction i with|zero=>rfl|succ i ih=>simp only[Yb,ih,zwk h,Jx h]
theorem zlH:Q.qT=P.qT:=by funext i;unfold qT;rw[ztR h,Jx h,znH h,h.kind]
theorem zdK:Q.vf=P.vf:=by funext i;induction i with|zero=>rfl|succ i ih=>simp only[vf,ih,zlH h]
theorem QB (hc:Q.yF=P.yF):Q.yH=P.yH:=by unfold yH;rw[hc,zdK h,h.len]
theorem QD (hc:Q.yF=P.yF):Q.zJ=P.zJ:=by unfold zJ;rw[QB h hc,zdK h,h.len]
theorem zst:Q.nxt=P.nxt:=by funext a b c;unfold nxt;rw[zfx h,zbl h,h.zu]
theorem zAd:Q.Via=P.Via:=by
 funext but a b
 apply propext
 constructor
 ·intro k
  induction k with
  | refl=>exact .refl _
  | step _ k ih=>exact .step ih (by rw[←zst h];exact k)
 ·intro k
  induction k with
  | refl=>exact .refl _
  | step _ k ih=>exact .step ih (by rw[zst h];exact k)
theorem ziy:Q.ZE=P.ZE:=by funext a b;unfold ZE;rw[Jx h]
theorem ztD:Q.Uh=P.Uh:=by funext a b;unfold Uh;rw[zab h]
theorem ztT:Q.zay=P.zay:=by funext M n i;induction i with|zero=>rfl|succ i ih=>simp only[zay,ih,ziy h]
theorem zrr:Q.zcf=P.zcf:=by funext M n i;induction i with|zero=>rfl|succ i ih=>simp only[zcf,ih,ziy h]
theorem zuP:Q.hold=P.hold:=by funext M n f i;unfold hold;rw[zAd h,zbl h]
theorem zsk:Q.zeK=P.zeK:=by funext M n a;unfold zeK;rw[ziy h,zuP h,h.zu]
open Classical in
theorem ztk:Q.Q4=P.Q4:=by 
 funext M n
 unfold Q4
 exact congr (congrArg _ (by rw[ztT h,Jx h])) (decide_eq_decide.2 (by rw[Jx h,zsk h]))
theorem znr:Q.UB=P.UB:=by funext M s;unfold UB;rw[ztk h,zrr h,Jx h,h.kind]
theorem zsS:Q.Ya=P.Ya:=by funext M l i;induction i with|zero=>rfl|succ i ih=>simp only[Ya,ih,znr h]
theorem zuy:Q.zed=P.zed:=by funext M s f;unfold zed;rw[zbl h]
theorem zrN:Q.Wt=P.Wt:=by funext M s f;unfold Wt;rw[zuy h]
theorem zxc:Q.Wj=P.Wj:=by funext s f i;induction i with|zero=>rfl|succ i ih=>simp only[Wj,ih,ztD h]
theorem znq:Q.JU=P.JU:=by funext M s f;unfold JU;rw[zrN h,zxc h,zab h]
theorem zjo:Q.qA=P.qA:=by funext M s;unfold qA;simp only[znq h,h.kind,h.zu]
theorem zsm:Q.X3=P.X3:=by funext M s;unfold X3;rw[zjo h,znq h,h.kind,h.zu]
theorem zri:Q.vJ=P.vJ:=by funext M;unfold vJ;rw[h.zu]
theorem zjZ (hc:Q.yF=P.yF):Q.uc=P.uc:=by funext M;unfold uc;rw[QB h hc,zri h]
theorem zqo (hc:Q.yF=P.yF):Q.x0=P.x0:=by
 unfold x0
 rw[QB h hc,h.zu,show zcQ Q=zcQ P by funext i;unfold zcQ;rw[h.kind,zfx h]]
theorem zzu (hc:Q.yF=P.yF):Q.Yh=P.Yh:=by funext M;unfold Yh;rw[zjZ h hc,zsS h,QD h hc]
theorem znL (hc:Q.yF=P.yF):Q.Zf=P.Zf:=by funext M k;unfold Zf;rw[zjZ h hc,QD h hc,znr h,zjo h]
theorem zvB (hc:Q.yF=P.yF):Q.wy=P.wy:=by funext M k;unfold wy;rw[znL h hc,QD h hc,zsm h]
theorem zrD (hc:Q.yF=P.yF):Q.yT=P.yT:=by
 funext tok st n M l
 induction l with
 | nil=>rfl
 | cons k r ih =>
  funext marks yR cur last
  simp only[yT,znL h hc,zvB h hc,ih]
theorem zAx (hc:Q.yF=P.yF):Q.Z5=P.Z5:=by
 funext tok st f
 induction f with
 | zero=>rfl
 | succ f ih =>
  funext n marks yR next last
  simp only[Z5,zrD h hc,zzu h hc,ih]
theorem zqU (hc:Q.yF=P.yF):Q.QX=P.QX:=by funext a b;unfold QX;rw[zAx h hc,zqo h hc]
theorem zs0 (hc:Q.yF=P.yF):Q.VX=P.VX:=by funext a b;unfold VX;rw[zqU h hc,QB h hc]
theorem zrh (hc:Q.yF=P.yF):Q.Z2=P.Z2:=by funext a b;unfold Z2;rw[zqU h hc,zs0 h hc]
end
end ze
end
section
open Go.RowKit
def zeA (L:List ByteArray):Prop:=∀i,i<L.length→xd (L.getD i ⟨#[]⟩)=true∧J6 L i (L.getD i ⟨#[]⟩)=false
theorem zkX {s:ByteArray} (h:xd s=true):ZQ s ⟨#[]⟩=false:=by
 unfold xd at h
 simp only[Bool.and_eq_true,Bool.not_eq_true'] at h
 exact h.1.1.1.1.1
theorem zhM:ZQ (⟨#[]⟩:ByteArray) ⟨#[]⟩=true:=by decide +kernel
theorem ztN:ZQ Xk ⟨#[]⟩=false:=by decide +kernel
theorem ztP:xd ⟨#[]⟩=false:=by decide +kernel
theorem ziV {L:List ByteArray} (h:zeA L) (s:Bool) (m:Int):um L s m=!(decide (m=63∧s=true)||decide (0≤m∧m<(L.length:Int)∧m<63)):=by
 unfold um rnm
 by_cases h1:m=63∧s=true
 ·rw[if_pos h1,decide_eq_true h1,ztN];rfl
 ·rw[if_neg h1,decide_eq_false h1,Bool.false_or]
  by_cases h2:m<0∨(L.length:Int)≤m∨63≤m
  ·rw[if_pos h2,decide_eq_false zo,zhM];rfl
  ·obtain⟨k1,k2⟩:=h m.toNat zo
   rw[if_neg h2,if_neg (by rw[k1];decide),if_neg (by rw[k2];decide),decide_eq_true zo,zkX k1];rfl
theorem zne {L:List ByteArray} (h:zeA L) (m:Int):ZQ (nm L m) ⟨#[]⟩=!(decide (m=63)||decide (m.toNat<L.length∧m<(L.length:Int))):=by
 unfold nm
 by_cases h1:m=63
 ·rw[if_pos h1,decide_eq_true h1,ztN];rfl
 ·rw[if_neg h1,decide_eq_false h1,Bool.false_or]
  by_cases h2:(L.length:Int)≤m
  ·rw[if_pos h2,decide_eq_false zo,zhM];rfl
  ·rw[if_neg h2]
   by_cases h3:m.toNat<L.length
   ·obtain⟨k1,k2⟩:=h m.toNat h3
    rw[if_neg (by rw[k1];decide),if_neg (by rw[k2];decide),decide_eq_true zo,zkX k1];rfl
   ·have e:L.getD m.toNat ⟨#[]⟩=⟨#[]⟩:=by rw[List.getD_eq_getElem?_getD,List.getElem?_eq_none zo];rfl
    rw[e,if_pos ztP,decide_eq_false zo,zhM];rfl
theorem zkj {L M:List ByteArray} (h:zeA L) (k:zeA M) (e:L.length=M.length):∀t,Z3 L t=Z3 M t:=by
 intro t
 induction t using Tree.ind with
 | h t ih =>
  rw[zdI,zdI]
  have e1:qD L t.kind t.num=qD M t.kind t.num:=by
   unfold qD
   rw[zne h,zne k,e]
  rw[e1]
  congr 1
  rw[Bool.eq_iff_iff,List.all_eq_true,List.all_eq_true]
  have key:∀u∈t.kids,Z3 L u=Z3 M u:=λu hu=>by
   obtain⟨j,hj,rfl⟩:=List.mem_iff_getElem.1 hu
   rw[←Tree.vF hj]
   exact ih j hj
  exact⟨λq u hu=>(key u hu)▸q u hu,λq u hu=>(key u hu).symm▸q u hu⟩
theorem zoA {L M:List ByteArray} (h:zeA L) (k:zeA M) (e:L.length=M.length) (name:ByteArray) (sort:Int) (x:qV) (kk a b c:Int) (f g:Tree):vK L name sort x kk a b c f g=vK M name sort x kk a b c f g:=by
 have e1:∀s,um L s=um M s:=λs=>by funext m;rw[ziV h,ziV k,e]
 have e2:y9 L sort x kk a b c f g=y9 M sort x kk a b c f g:=by
  unfold y9
  rw[e1,e1,zkj h k e f,zkj h k e g]
 unfold vK
 rw[e2]
theorem Jv (P:ze):(xQ P).length=P.nodes.length:=by simp[xQ]
theorem zd7 (P:ze) (i:Nat):(xQ P).getD i ⟨#[]⟩=P.name i:=by
 unfold xQ ze.name
 rw[List.getD_eq_getElem?_getD,List.getElem?_map,List.getD_eq_getElem?_getD]
 cases P.nodes[i]?<;>rfl
theorem zn2 {P:ze} (h:P.qF=0):zeA (xQ P):=by
 intro i hi
 rw[Jv] at hi
 have:=ze.uS.1 h i hi
 unfold ze.UT at this
 split at this
 ·cases this
 ·rename_i q
  split at this
  ·cases this
  ·rename_i q2
   rw[zd7]
   refine⟨by have:=not_or.1 q;simpa using this.1,?_⟩
   unfold J6
   simp only[zd7]
   simpa using q2
theorem zhi {P:ze} (h:P.yF=0):P.qF=0:=by
 unfold ze.yF at h
 split at h
 ·cases h
 ·split at h
  ·rename_i q;exact absurd h q
  ·rename_i q;exact Classical.not_not.1 q
theorem zr0 {P Q:ze} (h:zlU Q P) (h1:Q.qF=0) (h2:P.qF=0) (tok st:Int) (name:ByteArray) (sort:Int) (x:qV) (k a b c:Int) (f g:Tree) :
  jE Q tok st name sort x k a b c f g=jE P tok st name sort x k a b c f g∧jB Q tok st name sort x k a b c f g=jB P tok st name sort x k a b c f g:=by
 have hc:=ze.zAa h h1 h2
 have hR:=zoA (zn2 h1) (zn2 h2) (by rw[Jv,Jv,h.len]) name sort x k a b c f g
 have hE:jE Q tok st name sort x k a b c f g=jE P tok st name sort x k a b c f g:=by
  unfold jE
  rw[ze.zs0 h hc,ze.zrh h hc,hR]
 refine⟨hE,?_⟩
 unfold jB
 rw[hE,show Vx Q tok st=Vx P tok st by unfold Vx;rw[ze.zrh h hc,ze.QD h hc]]
end
section
open Go.RowKit Go.ChangeShapes Go.WideShapes Go.ChangeAt
def c3_1:PC:=.seq (OP [Bi 27 .lss 26 25]) (.seq (.cond 27 .skip (.exit 0)) (.seq (.block 1 (.seq (OP [qm 28 26,Ia 29 2 24 26,LA 30 2 29,q 11 (.alloc [(.string ⟨#[]⟩),(.int .i64 0)]),qm 10 28,So 2 11 30]) (OP [Fa 31 0 9,Lo 32 31,qm 33 10,Bi 34 .rem 33 (cI 26),q 35 (.conv .u8 34),q 36 (.bin .add (.const (.int .u8 97)) 35),qm 37 10,Bi 38 .quo 37 (cI 26),Bi 39 .rem 38 (cI 26),q 40 (.conv .u8 39),q 41 (.bin .add (.const (.int .u8 97)) 40),Bs 42 1 2 [36,41],q 43 (.zwH 42),Bi 44 .add (cS #[110]) 43,Fa 45 1 11,Lo 46 45,q 47 (.build [(.string ⟨#[]⟩),(.int .i64 0)] [(0,1,44),(1,1,46)]),Bs 48 2 1 [47],Ap 49 2 24 32 48,Fa 50 0 9,So 1 50 49]))) (OP [Bi 51 .add 26 (cI 1),qm 26 51])))
def c3:PC:=.seq (OP [Bx 4 0,Bx 5 1,Mv 8 cF]) (.seq (.seq (OP [Ca 18 4 [],Nt 19 18]) (.cond 19 (.seq (OP [Mv 8 cF]) .ret) .skip)) (.seq (OP [Fa 20 1 4,Lo 21 20,q 22 (.build [(.slice none 0 0),(.slice none 0 0)] [(1,1,21)]),q 9 (.alloc [(.slice none 0 0),(.slice none 0 0)]),So 2 9 22]) (.seq (.seq (OP [Fa 23 0 4,Lo 24 23,Ln 25 24,Mv 26 (cI 0)]) (.block 0 (.loop c3_1))) (.seq (.seq (OP [LA 52 2 4,Ca 53 5 [52],Bi 54 .neq 53 (cI 0)]) (.cond 54 (.seq (OP [LA 56 2 4,LA 57 19 5,qm 58 2,qm 59 3,Ca 60 6 [56,57,58,59],qm 55 60,Xt 61 0 55,Xt 62 1 55,q 12 (.alloc [(.bool false),(.slice none 0 0),(.slice none 0 0)]),So 3 12 61,qm 13 62]) (.seq (OP [qm 63 13,LA 64 2 4,Ca 65 5 [64],Bi 66 .eql 63 65,qm 67 66,GT 68 67 (.zy 0 12),GT 69 67 (.zg 68),GT 70 67 (.un .not 69),Pk 71 67 70 cF,qm 8 71]) .ret)) .skip)) (.seq (OP [LA 73 2 4,LA 74 19 5,qm 75 2,qm 76 3,Ca 77 6 [73,74,75,76],qm 72 77,Xt 78 0 72,Xt 79 1 72,q 14 (.alloc [(.bool false),(.slice none 0 0),(.slice none 0 0)]),So 3 14 78,qm 15 79]) (.seq (OP [LA 81 2 9,LA 82 19 5,qm 83 2,qm 84 3,Ca 85 6 [81,82,83,84],qm 80 85,Xt 86 0 80,Xt 87 1 80,q 16 (.alloc [(.bool false),(.slice none 0 0),(.slice none 0 0)]),So 3 16 86,qm 17 87]) (.seq (OP [qm 88 15,qm 89 17,Bi 90 .eql 88 89,qm 91 90,GT 92 91 (.zy 0 14),GT 93 91 (.zg 92),GT 94 91 (.zy 0 16),GT 95 91 (.zg 94),GT 96 91 (.eqb false 93 95),Pk 97 91 96 cF,qm 8 97]) .ret)))))))
theorem zCL:zv Tryz.prog 3 98 [.tmp 8] c3:=fK Tryz.func3
def tnm (k:Nat):ByteArray:=(⟨#[110]⟩:ByteArray)++([97+((k%26:Nat):Int),97+((k/26%26:Nat):Int)].foldl (λr n=>r.push (UInt8.ofNat n.toNat)) ByteArray.empty)
def tnN (P:ze) (k:Nat):List (ByteArray × Int):=(List.range k).map λi=>(tnm i,P.kind i)
@[simp] theorem zDR (P:ze) (k:Nat):(tnN P k).length=k:=by simp[tnN]
theorem zrf (k:Nat):(tnm k).size=3:=by unfold tnm;simp only[List.foldl,ByteArray.size_append,ByteArray.size_push,ByteArray.size_empty];rfl
theorem zqB:∀i,i<20→xd (tnm i)=true:=by decide +kernel
theorem zxg:∀i,i<20→(List.range i).any (λk=>ZQ (tnm k) (tnm i))=false:=by decide +kernel
theorem zsi (P:ze) (k:Nat):List.drop 0 (List.take k ((tnN P k).map vU))++[vU (tnm k,P.kind k)]=(tnN P (k+1)).map vU:=by
 rw[zw (by simp[tnN])]
 simp[tnN,List.range_succ]
def tnP (P:ze):ze:=⟨tnN P P.nodes.length,P.zu⟩
theorem ztF (P:ze) {i:Nat} (h:i<P.nodes.length):(tnP P).nodes.getD i (⟨#[]⟩,0)=(tnm i,P.kind i):=by
 show(tnN P P.nodes.length).getD i _=_
 unfold tnN
 rw[List.getD_eq_getElem?_getD,List.getElem?_map,List.getElem?_range h]
 rfl
theorem zaa (P:ze):zlU (tnP P) P:=by
 have hl:(tnP P).nodes.length=P.nodes.length:=by simp[tnP,tnN]
 refine⟨?_,hl,rfl⟩
 funext i
 by_cases h:i<P.nodes.length
 ·show((tnP P).nodes.getD i _).2=_
  rw[ztF P h]
 ·unfold ze.kind
  rw[List.getD_eq_getElem?_getD,List.getElem?_eq_none zo,List.getD_eq_getElem?_getD,List.getElem?_eq_none zo]
theorem ztV {P:ze} (hP:P.Fits):(tnP P).Fits:=by
 refine⟨?_,hP.zu,λx hx=>?_⟩
 ·rw[(zaa P).len];exact hP.nodes
 ·obtain⟨i,_,rfl⟩:=List.mem_map.1 hx
  rw[zrf];omega
theorem zoK {P:ze} (h:P.yF=0):(tnP P).qF=0:=by
 have h20:=(xi h).1
 have hl:=(zaa P).len
 refine ze.uS.2 λi hi=>?_
 have hP:=ze.uS.1 (zhi h) i zo
 have hn:∀j,j≤i→(tnP P).name j=tnm j:=λj hj=>by unfold ze.name;rw[ztF P zo]
 unfold ze.UT at hP ⊢
 rw[hn i (Nat.le_refl _),(zaa P).kind]
 split at hP
 ·cases hP
 ·rename_i q
  have q:=not_or.1 q
  rw[if_neg (by rw[zqB i zo];simpa using q.2),if_neg]
  rw[Bool.not_eq_true,List.any_eq_false]
  intro k hk
  have hk':=List.mem_range.1 hk
  rw[hn k zo]
  have:=List.any_eq_false.1 (zxg i zo) k hk
  exact this
theorem zim (P:ze) (hP:P.Fits) (hz:P.nodes.length*24≤140737488351232) (tok st:Int) (name:ByteArray) (hnm:name.size≤9223372036854775807) (sort:Int) (x:qV) (k a b c:Int) (f g:Tree) (hf:Small f) (hg:Small g) :
  zn Tryz.prog 3 [yS P,y8 name sort x k a b c f g,.sc (.int .i64 tok),.sc (.int .i64 st)] (zfn true):=by
 refine za zCL zs (by simp[zb,Pure,yb,yN]) ?_ (by simp[zfn,Pure])
 have hS:=zrt
 unfold zfn at hS
 unfold yS ze.cells y8 wE zG xh yy at *
 refine sR ?_
 refine sC hS ?_
 rw[List.length_map]
 refine zH (yZ 2 0 2 zs rfl rfl) ?_
 refine zP [2,3,4,5,9,24,25] (λi:Nat=>[(26,.sc (.int .i64 i))]) (λi=>[(2,.row true [.own 3 i 0 i,.xl 2 (P.zu.map Y4)]),(3,.vec true i 2 ((tnN P i).map vU))]) (λi=>i≤P.nodes.length) (λi=>P.nodes.length-i) 0 ?_
 refine sW ?_
 refine⟨zo,by exact sK,rfl,?_⟩
 rintro i hi
 refine sW ?_
 refine sR ?_
 refine sS (λh=>?_) λh=>?_
 ·have hi':i<P.nodes.length:=sO
  refine sL (Xq P (k:=i) zo hi') ?_
  have m1:((i:Int)).tmod 26=((i%26:Nat):Int):=(Int.ofNat_tmod i 26).symm
  have m2:((i:Int)).tdiv 26=((i/26:Nat):Int):=(Int.ofNat_tdiv i 26).symm
  have m3:(((i/26:Nat):Int)).tmod 26=((i/26%26:Nat):Int):=(Int.ofNat_tmod _ 26).symm
  refine⟨zc,?_⟩
  refine sW ?_
  rw[m1]
  refine .inl ⟨by unfold JL;rw[IntKind.wrap_u8];omega,?_⟩
  refine sW ?_
  refine .inl ⟨by unfold JL;rw[IntKind.wrap_u8];omega,?_⟩
  refine sW ?_
  refine⟨zc,?_⟩
  rw[m2]
  refine sI ?_
  refine⟨zc,?_⟩
  refine sW ?_
  rw[m3]
  refine .inl ⟨by unfold JL;rw[IntKind.wrap_u8];omega,?_⟩
  refine sW ?_
  refine .inl ⟨by unfold JL;rw[IntKind.wrap_u8];omega,?_⟩
  refine sW ?_
  refine⟨[97+((i%26:Nat):Int),97+((i/26%26:Nat):Int)],rfl,?_⟩
  refine sW ?_
  refine⟨by show _≤_;simp only[List.foldl,ByteArray.size_push,ByteArray.size_empty];decide,?_⟩
  refine sW ?_
  refine sJ ?_
  refine sI ?_
  refine⟨i+1,zo,zd,?_⟩
  refine zm 4 zs rfl sQ (sU ?_)
  exact zp (zsi P i)
 ·have hi':i=P.nodes.length:=by have:¬i<P.nodes.length:=sO
                                omega
  subst hi'
  have hC:=VQ P hP
  obtain⟨s1,l1,hJ⟩:=zrl hP hnm hf hg tok st sort x k a b c
  unfold yS ze.cells y8 wE zG xh yy Wu zB at *
  refine sC hC ?_
  refine sS (λh0=>?_) λh0=>?_
  ·have h0:P.yF≠0:=by simpa using h0
   have hE:jE P tok st name sort x k a b c f g=P.yF:=by
    have e:P.VX tok st=P.yF:=by
     have:P.yH=P.yF:=by unfold ze.yH;rw[if_pos h0]
     unfold ze.VX
     rw[if_pos (by rw[this];exact h0),this]
    unfold jE
    rw[if_pos (by rw[e];exact h0),e]
   have hB:jB P tok st name sort x k a b c f g=false:=by unfold jB;rw[hE,decide_eq_false h0,Bool.false_and]
   rw[hE,hB] at hJ
   refine sC hJ ?_
   refine sC hC ?_
   rw[show(P.yF==P.yF)=true from beq_self_eq_true _]
   refine sW ?_
   exact .refl _
  ·have h0:P.yF=0:=by simpa using h0
   obtain⟨s2,l2,hJ2⟩:=zrl (ztV hP) hnm hf hg tok st sort x k a b c
   obtain⟨e1,e2⟩:=zr0 (zaa P) (zoK h0) (zhi h0) tok st name sort x k a b c f g
   rw[e1,e2] at hJ2
   generalize jE P tok st name sort x k a b c f g=e at *
   generalize jB P tok st name sort x k a b c f g=B at *
   unfold yS ze.cells y8 wE zG xh yy Wu zB at hJ2
   rw[show(tnP P).nodes=tnN P P.nodes.length from rfl,show(tnP P).zu=P.zu from rfl] at hJ2
   refine sC hJ ?_
   refine sV hJ2 ?_
   rw[show(e==e)=true from beq_self_eq_true _]
   refine sW ?_
   cases B<;>exact .refl _
namespace topNames
theorem law:∀Ds,OfAs Tryz.prog [25,37,3,3] Ds→zn Tryz.prog 3 Ds (zfn true)
 | [d1,d2,d3,d4],h=>by
  obtain⟨P,rfl,hP,hz⟩:=zqP h.1
  obtain⟨name,sort,x,k,a,b,c,f,g,rfl,hnm,hf,hg⟩:=zvh h.2.1
  obtain⟨tok,rfl,_⟩:=zsX Tryz.underlying3 h.2.2.1
  obtain⟨st,rfl,_⟩:=zsX Tryz.underlying3 h.2.2.2.1
  exact zim P hP hz tok st name hnm sort x k a b c f g hf hg
theorem types:zam Tryz.prog [25,37,3,22,23,9,27,29,32,35,40,54,30,33]=true:=by kernel_rfl
theorem laidOut:laidOutB Tryz.prog=true:=by kernel_rfl
theorem readable:(Tryz.f3.params.toList.all λt=>Tryz.prog.readableRec t&&decide (t<Tryz.prog.types.size))=true:=by kernel_rfl
theorem own:ownKnob Tryz.prog.godebug=none:=by kernel_rfl
theorem fok {W:World} (_h:laidMetH Tryz.prog Rows.topNamesRow.laid W):FOK (Wv W) W:=⟨λb h=>h,λg cs hg=>absurd hg (by simp[Wc]),λg t s hg=>absurd hg (by simp[ziN])⟩
theorem lifted (os:Os) (started:os.Started) (H:Type) (enc:TypeId × Value→H) :
  ReturnsInHanded {} Tryz.checked os 3 .any (λw args=>(Rows.topNamesSpec.pre enc Tryz.prog Tryz.f3 Rows.topNamesRow.domain false w args∧laidMetH Tryz.prog Rows.topNamesRow.laid w)∧sizedMet enc Tryz.prog Tryz.f3 (OpenSpec.ofChange Rows.topNamesSpec) false w args)
   (Rows.topNamesSpec.post enc Tryz.prog Tryz.f3 false true false false):=by
 refine returnsInHanded_of_change_and (C:=Tryz.checked) (X:=λw _=>laidMetH Tryz.prog Rows.topNamesRow.laid w) (λ_ _ _ hh h=>h.of_heap hh) own started (by kernel_rfl) Tryz.func3
  (ChangeSpec.witness_at (enc:=enc) (C:=Tryz.checked) (os:=os) (X:=λw _=>laidMetH Tryz.prog Rows.topNamesRow.laid w) false (World.laidAll Tryz.prog os Rows.topNamesRow.laid) #[.agg #[.slice none 0 0,.slice none 0 0],.agg #[.string ⟨#[]⟩,.int .i64 0,.int .i64 0,.int .i64 0,.int .i64 0,.int .i64 0,.int .i64 0,.int .i64 0,.int .i64 0,.int .i64 0,.int .i64 0,.int .i64 0,.int .i64 0,.int .i64 0,.int .i64 0,.slice none 0 0,.int .i64 0,.int .i64 0,.slice none 0 0],.int .i64 0,.int .i64 0] 8 (World.laidAll_os _ _ _) (by kernel_rfl) (by kernel_rfl) (by kernel_rfl) (by kernel_rfl) (by kernel_rfl) (show laidMet _ _ _ from laidMet_laidAll _ (by kernel_rfl) (by kernel_rfl))) ?_
 intro W base args ds gs before hval0 hW _ hsz hL _
 have hval:∀(j:Nat) t v,Tryz.f3.params[j]? = some t→args[j]? = some v→Value.okWide Tryz.prog W .any base t v:=hval0
 have hW':=hW
 obtain⟨p,q,hA0,hV,_,hfz,hnd⟩:=hW
 have hA:DataW.TrodAll enc Tryz.prog W 0 (λ_=>true) true Tryz.f3.params.toList args.toList ds p:=hA0
 have hps:Tryz.f3.params.toList=[25,37,3,3]:=by kernel_rfl
 obtain⟨Ds,hD,hR⟩:=zti types (base:=base) _ _ _ _ (λt ht=>by rw[hps] at ht;revert t;decide) (λj t v h1 h2=>hval j t v (by simpa using h1) (by simpa using h2)) hA λn hn=>by
  have:=List.all_eq_true.1 hsz n (Ub _ _ _ _ (UO _ _ _ _ hA).symm n hn)
  simpa using this
 rw[hps] at hD
 have hC:=(law Ds hD).run ua (Wv W) W args.toList (fok hL) hR
 rw[show args.toList.toArray=args from rfl] at hC
 refine hC.mono λe W' ⟨v,F',he,_,hv,hx⟩=>?_
 have hv':v=.bool true:=by simpa only[rep,zfn] using hv
 subst he hv'
 exact⟨_,rfl,zqQ hW' rfl (by kernel_rfl) Tryz.underlying4 laidOut (λt ht=>by
   have:=List.all_eq_true.1 readable t ht
   simp only[Bool.and_eq_true,decide_eq_true_eq] at this
   exact this) (λds h=>by rw[hps] at h;match ds,h with|[_,_,_,_],_=>rfl) (zhY hx) (ok_one (by kernel_rfl) rfl (okWide_bool_mk Tryz.underlying4 _))⟩
theorem over:Rows.topNamesRow.holds Tryz.pinned (OpenSpec.ofChange Rows.topNamesSpec) :=
 OpenClaim.holds_of_wide 3 Tryz.f3 rfl rfl rfl rfl rfl rfl rfl ⟨rfl,rfl,rfl,rfl,rfl⟩ rfl rfl rfl rfl rfl (by kernel_rfl) Tryz.func3 (by kernel_rfl)
  (of_decide_eq_true (by kernel_rfl)) (by unfold Func.isWrapper;first|(rw[if_pos (by decide +kernel)];kernel_rfl)|(rw[if_neg (by decide +kernel)];exact⟨rfl,rfl⟩))
  (λos started H enc _=>lifted os started H enc)
theorem proved:Rows.TopNamesCardSaid :=
 Claim7.holds_tied_plain_at .later [] [.data, .pinned] true (true, "43bc3eb12aca4783fc7e1c2c84be1bcf2829fb251187ab2972e1ec859aa299f3") false
  over (λ_ h=>by cases h) (by kernel_rfl) (λ_ h=>by cases h) topNames_row_tie rfl ⟨rfl,rfl⟩ (by kernel_rfl) rfl
  (λf fn hf hfn=>by
   obtain rfl : f = 3 := Option.some.inj ((show Tryz.prog.funcNamed "watchway/watchtop.TopNames" = some 3 by kernel_rfl).symm.trans hf) |>.symm
   obtain rfl:fn=Tryz.f3:=(Option.some.inj (Tryz.func3.symm.trans hfn)).symm
   refine⟨by kernel_rfl,λj t ht=>?_⟩
   have hm:t∈Tryz.f3.params.toList:=by
    rw[Array.mem_toList_iff]
    exact Array.mem_of_getElem? ht
   rw[show Tryz.f3.params.toList=[25,37,3,3] by kernel_rfl] at hm
   have:=List.all_eq_true.1 (show([25,37,3,3]:List TypeId).all (λt=>!Tryz.prog.wantsStandIn t)=true by kernel_rfl) t hm
   have h2:Tryz.prog.wantsStandIn t=false:=by simpa using this
   exact h2)
  (by kernel_rfl)
end topNames
end
end Go.Proofs.YteedlhkjaolahaaGreatDoor
