/-
  Parts of a proof, joined. No statement is proved here.
-/
import Derived.Test.YthoklahpcibacaaGreatDoorZ1
import Derived.Test.YthoklahpcibacaaGreatDoorZ3
import Derived.Test.YthoklahpcibacaaGreatDoorProg
import Derived.Test.YthoklahpcibacaaGreatDoorZ2
import Derived.DeepKeys4
import Derived.Lib.Bytealg
import Derived.WalkKit
import Derived.RowKitTokens
namespace Go.Proofs.YthoklahpcibacaaGreatDoor
set_option linter.unusedSimpArgs false
set_option linter.unusedVariables false
set_option maxRecDepth 100000
section
section
namespace za
def nxt (P:za) (but:Int) (a b:Nat):Prop:=a<P.zn.length∧b<P.zn.length∧P.src b=P.dst a∧P.dst a≠but
inductive Via (P:za) (but:Int):Nat→Nat→Prop
 | refl (a:Nat):Via P but a a
 | step {a b c:Nat} (h:Via P but a b) (k:P.nxt but b c):Via P but a c
theorem Via.head {P:za} {but:Int} {a b c:Nat} (k:P.nxt but a b) (h:P.Via but b c):P.Via but a c:=by
 induction h with
 | refl=>exact .step (.refl _) k
 | step _ k' ih=>exact .step ih k'
theorem zq5 {P:za} {but:Int} {b:Nat} {s:Nat→Bool} (h0:s b=true) (h1:∀x y,s y=true→P.nxt but x y→s x=true):∀a,P.Via but a b→s a=true:=by
 intro a h
 induction h with
 | refl=>exact h0
 | step _ k ih=>exact ih (h1 _ _ h0 k)
open Classical in
noncomputable def zoZ (P:za) (but:Int) (a b:Nat):Bool:=decide (P.Via but a b)
theorem zcN {P:za} {but:Int} {a b:Nat}:P.zoZ but a b=true↔P.Via but a b:=by unfold zoZ;simp
structure Vf (P:za) (but:Int) (flow:Nat) (s:Nat→Bool) (Q:List Int):Prop where
 start:s flow=true
 sound:∀i,s i=true→i<P.zn.length∧P.Via but i flow
 todo:∀x∈Q,0≤x∧x<P.zn.length∧s x.toNat=true
 done:∀i,s i=true→(i:Int)∈Q∨∀j,P.nxt but j i→s j=true
structure VP (P:za) (but:Int) (flow:Nat) (s:Nat→Bool) (Q:List Int) (x k:Nat):Prop where
 start:s flow=true
 sound:∀i,s i=true→i<P.zn.length∧P.Via but i flow
 todo:∀x∈Q,0≤x∧x<P.zn.length∧s x.toNat=true
 done:∀i,s i=true→(i:Int)∈Q∨(∀j,P.nxt but j i→s j=true)∨(i=x∧∀j,j<k→P.nxt but j i→s j=true)
 here:s x=true
 go:P.src x≠but
theorem Vf.begin {P:za} {but:Int} {flow:Nat} (h:flow<P.zn.length):P.Vf but flow (mark (λ_=>false) flow) [(flow:Int)] where
 start:=vN _ _
 sound i hi:=by
  rcases Xb.1 hi with rfl|h'
  ·exact⟨h,.refl _⟩
  ·cases h'
 todo x hx:=by
  rw[List.mem_singleton] at hx;subst hx
  exact⟨zo,zo,by rw[Int.toNat_natCast];exact vN _ _⟩
 done i hi:=by
  rcases Xb.1 hi with rfl|h'
  ·exact .inl zs
  ·cases h'
theorem Vf.stop {P:za} {but:Int} {flow:Nat} {s:Nat→Bool} {Q:List Int} {x:Int} (h:P.Vf but flow s (x::Q)) (hx:P.src x.toNat=but):P.Vf but flow s Q where
 start:=h.start
 sound:=h.sound
 todo y hy:=h.todo y (List.mem_cons_of_mem _ hy)
 done i hi:=by
  rcases h.done i hi with q|q
  ·rcases List.mem_cons.1 q with q|q
   ·refine .inr λj hj=>?_
    exfalso
    subst q
    rw[Int.toNat_natCast] at hx
    exact hj.2.2.2 (hj.2.2.1.symm.trans hx)
   ·exact .inl q
  ·exact .inr q
theorem Vf.pop {P:za} {but:Int} {flow:Nat} {s:Nat→Bool} {Q:List Int} {x:Int} (h:P.Vf but flow s (x::Q)) (hx:P.src x.toNat≠but):P.VP but flow s Q x.toNat 0 where
 start:=h.start
 sound:=h.sound
 todo y hy:=h.todo y (List.mem_cons_of_mem _ hy)
 done i hi:=by
  rcases h.done i hi with q|q
  ·rcases List.mem_cons.1 q with q|q
   ·exact .inr (.inr ⟨zo,λj hj=>zo⟩)
   ·exact .inl q
  ·exact .inr (.inl q)
 here:=(h.todo x zs).2.2
 go:=hx
theorem VP.skip {P:za} {but:Int} {flow:Nat} {s:Nat→Bool} {Q:List Int} {x k:Nat} (h:P.VP but flow s Q x k) (hk:P.dst k=P.src x→s k=true):P.VP but flow s Q x (k+1) where
 start:=h.start
 sound:=h.sound
 todo:=h.todo
 done i hi:=by
  rcases h.done i hi with q|q|⟨rfl,q⟩
  ·exact .inl q
  ·exact .inr (.inl q)
  ·refine .inr (.inr ⟨rfl,λj hj hn=>?_⟩)
   by_cases e:j=k
   ·subst e;exact hk hn.2.2.1.symm
   ·exact q j zo hn
 here:=h.here
 go:=h.go
theorem VP.push {P:za} {but:Int} {flow:Nat} {s:Nat→Bool} {Q:List Int} {x k:Nat} (h:P.VP but flow s Q x k) (hk:k<P.zn.length) (hd:P.dst k=P.src x):P.VP but flow (mark s k) (Q++[(k:Int)]) x (k+1) where
 start:=wP h.start
 sound i hi:=by
  rcases Xb.1 hi with rfl|h'
  ·have:=h.sound x h.here
   exact⟨hk,Via.head ⟨hk,this.1,hd.symm,by rw[hd];exact h.go⟩ this.2⟩
  ·exact h.sound i h'
 todo y hy:=by
  rcases List.mem_append.1 hy with q|q
  ·obtain⟨a,b,c⟩:=h.todo y q
   exact⟨a,b,wP c⟩
  ·rw[List.mem_singleton] at q;subst q
   exact⟨zo,zo,by rw[Int.toNat_natCast];exact vN _ _⟩
 done i hi:=by
  rcases Xb.1 hi with rfl|h'
  ·exact .inl zs
  ·rcases h.done i h' with q|q|⟨rfl,q⟩
   ·exact .inl (List.mem_append_left _ q)
   ·exact .inr (.inl λj hj=>wP (q j hj))
   ·refine .inr (.inr ⟨rfl,λj hj hn=>?_⟩)
    by_cases e:j=k
    ·subst e;exact vN _ _
    ·exact wP (q j zo hn)
 here:=wP h.here
 go:=h.go
theorem VP.fin {P:za} {but:Int} {flow:Nat} {s:Nat→Bool} {Q:List Int} {x:Nat} (h:P.VP but flow s Q x P.zn.length):P.Vf but flow s Q where
 start:=h.start
 sound:=h.sound
 todo:=h.todo
 done i hi:=by
  rcases h.done i hi with q|q|⟨rfl,q⟩
  ·exact .inl q
  ·exact .inr q
  ·exact .inr λj hj=>q j hj.1 hj
theorem Vf.fin {P:za} {but:Int} {flow:Nat} {s:Nat→Bool} (h:P.Vf but flow s []) (i:Nat):s i=P.zoZ but i flow:=by
 rw[Bool.eq_iff_iff,zcN]
 refine⟨λhi=>(h.sound i hi).2,λhi=>zq5 h.start (λx y hy hn=>?_) i hi⟩
 rcases h.done y hy with q|q
 ·cases q
 ·exact q x hn
end za
end
section
open Go.RowKit
theorem zlE {Z:List Int} {lo hi:Nat} (h1:lo<hi) (h2:hi≤Z.length):(Z.take hi).drop lo=Z.getD lo 0::(Z.take hi).drop (lo+1):=by
 rw[List.drop_eq_getElem_cons (by rw[List.length_take];omega),List.getElem_take,List.getD_eq_getElem?_getD,List.getElem?_eq_getElem zo]
 rfl
theorem zkM {Z:List Int} {lo hi:Nat} {k:Int}:((zI Z).take hi).drop lo++[[D.sc (.int .i64 k)]]=zI ((Z.take hi).drop lo++[k]):=by
 simp[zI]
def zx6:PC:=.seq (OP [Bi 41 .lss 40 39]) (.seq (.cond 41 .skip (.exit 2)) (.seq (.block 3 (.seq (OP [qm 42 40,Ia 43 2 38 40,LA 44 2 43,q 11 (.alloc [(.int .i64 0),(.int .i64 0)]),qm 10 42,So 2 11 44]) (.seq (OP [Fa 45 1 11,Lo 46 45,qm 47 9,Bi 48 .eql 46 47,qm 49 48,GT 50 49 (.move 7),GT 51 49 (.move 10),GT 52 49 (.zM 1 50 51),GT 53 49 (.zi 52),GT 54 49 (.un .not 53),Pk 55 49 54 cF]) (.cond 55 (.seq (OP [qm 56 7,qm 57 10,Ia 58 1 56 57,So 1 58 cT]) (OP [qm 59 8,qm 60 10,Bs 61 1 1 [60],Ap 62 1 8 59 61,qm 8 62])) .skip)))) (OP [Bi 63 .add 40 (cI 1),qm 40 63])))
def zyh:PC:=.seq (.seq (OP [qm 21 8,Ln 22 21,Bi 23 .gtr 22 (cI 0)]) (.cond 23 .skip (.exit 0))) (.block 1 (.seq (.ops [Fa 24 1 3,qd 25 (.zi 24) 1,qm 26 8,qd 27 (.zM 1 26 (cI 0)) 4,qd 28 (.zi 27) 12,qd 29 (.zM 2 25 28) 31,qd 30 (.zv 0 29) 63,qd 31 (.zi 30) 127,qw 9 31 255] true) (.seq (OP [qm 32 8,q 33 (.slc 1 32 (some (cI 1)) none none),qm 8 33]) (.seq (.seq (OP [qm 34 9,qm 35 2,Bi 36 .eql 34 35]) (.cond 36 (.exit 1) .skip)) (.seq (OP [Fa 37 1 3,Lo 38 37,Ln 39 38,Mv 40 (cI 0)]) (.block 2 (.loop zx6)))))))
def c247:PC:=.seq (OP [Bx 3 0,Mv 6 cN]) (.seq (OP [Fa 12 1 3,Lo 13 12,Ln 14 13,q 15 (.x5 1 1 [(.bool false)] 14 14),qm 7 15]) (.seq (OP [qm 16 7,qm 17 1,Ia 18 1 16 17,So 1 18 cT]) (.seq (OP [qm 19 1,Bs 20 1 1 [19],qm 8 20]) (.seq (.block 0 (.loop zyh)) (.seq (OP [qm 64 7,qm 6 64]) .ret)))))
theorem zuC:zz Tryz.prog 247 65 [.tmp 6] c247:=fK Tryz.func247
theorem zno (P:za) (hP:P.Fits) (hF:P.zn.length≤30) (flow:Nat) (hf:flow<P.zn.length) (hok:∀i,i<P.zn.length→P.Zj i=true) (but:Int) :
  zu Tryz.prog 247 [yQ P,.sc (.int .i64 flow),.sc (.int .i64 but)] (UY P.zn.length λi=>P.zoZ but i flow):=by
 refine zb zuC zs (by simp[ze,Pure,z6]) ?_ (xm _ _)
 refine sR ?_
 rw[List.length_map]
 refine⟨zo,zo,zo,?_⟩
 rw[Int.toNat_natCast,show List.map D.sc [Value.bool false]=[D.sc (.bool false)] from rfl,ZT]
 refine sW ?_
 refine sB ?_
 refine⟨_,y6 flow zo zo,?_⟩
 refine sW ?_
 refine zL [2,3,7] (λ((s,Z,lo,hi,zW):(Nat→Bool) × List Int × Nat × Nat × Nat)=>[(8,.own 2 zW lo hi)]) (λ(s,Z,lo,hi,zW)=>[(1,.vec true 0 1 (Zu P.zn.length s)),(2,.vec true zW 1 (zI Z))])
  (λ(s,Z,lo,hi,zW)=>lo≤hi∧hi≤Z.length∧hi-lo+xu s P.zn.length≤P.zn.length∧P.Vf but flow s ((Z.take hi).drop lo)) (λ(s,Z,lo,hi,zW)=>(hi-lo)+xu s P.zn.length) (mark (λ_=>false) flow,[(flow:Int)],0,1,0) ?_
 refine sW ?_
 have u1:=YQ (s:=λ_=>false) (s':=mark (λ_=>false) flow) hf (λj _ h=>by cases h) rfl (vN _ _)
 have u2:=YS (λ_=>false) P.zn.length
 refine⟨⟨zo,zs,zo,za.Vf.begin hf⟩,by exact sK,by rw[JT (v:=flow) zo];rfl,?_⟩
 rintro⟨s,Z,lo,hi,zW⟩ ⟨hlo,hhi,hu,hI⟩
 refine sW ?_
 refine sR ?_
 refine sS (λh1=>?_) λh1=>?_
 ·have h1:lo<hi:=sO
  rw[zlE h1 hhi] at hI
  have hx:=hI.todo (Z.getD lo 0) List.mem_cons_self
  generalize hX:Z.getD lo 0=x at hx hI
  have hfx:=za.qx.1 (hok x.toNat zo)
  refine sB ?_
  refine⟨_,yb (l:=Z) (k:=lo) zo zo,?_⟩
  refine sW ?_
  rw[hX]
  refine sL (WH P (k:=x.toNat) zo zo) ?_
  refine⟨zo,zo,zo,?_⟩
  refine sW ?_
  rw[show lo+(hi-lo)=hi by omega]
  refine sS (λh2=>?_) λh2=>?_
  ·have h2:P.src x.toNat=but:=sO
   refine⟨(s,Z,lo+1,hi,zW),⟨zo,hhi,zo,hI.stop h2⟩,zd,?_⟩
   exact zC (by exact sK) rfl
  ·have h2:P.src x.toNat≠but:=sO
   rw[List.length_map]
   refine zL [2,3,7,9,38,39] (λ((t,Z',lo',hi',ver',k):(Nat→Bool) × List Int × Nat × Nat × Nat × Nat)=>[(8,.own 2 ver' lo' hi'),(40,.sc (.int .i64 k))]) (λ(t,Z',lo',hi',ver',k)=>[(1,.vec true 0 1 (Zu P.zn.length t)),(2,.vec true ver' 1 (zI Z'))])
    (λ(t,Z',lo',hi',ver',k)=>k≤P.zn.length∧lo'≤hi'∧hi'≤Z'.length∧hi'-lo'+xu t P.zn.length<hi-lo+xu s P.zn.length∧P.VP but flow t ((Z'.take hi').drop lo') x.toNat k) (λ(t,Z',lo',hi',ver',k)=>P.zn.length-k) (s,Z,lo+1,hi,zW,0) ?_
   refine sW ?_
   refine⟨⟨zo,zo,hhi,zo,hI.pop h2⟩,by exact sK,rfl,?_⟩
   rintro⟨t,Z',lo',hi',ver',k⟩ ⟨hk,hlo',hhi',hu',hJ⟩
   refine sW ?_
   refine sR ?_
   refine sS (λh3=>?_) λh3=>?_
   ·have hk':k<P.zn.length:=sO
    refine sL (WH P (k:=k) zo hk') ?_
    have skip:(P.dst k=P.src x.toNat→t k=true)→P.VP but flow t ((Z'.take hi').drop lo') x.toNat (k+1):=hJ.skip
    refine sS (λh4=>?_) λh4=>?_
    ·have h4:P.dst k=P.src x.toNat:=sO
     refine sB ?_
     refine⟨_,y6 k zo zo,?_⟩
     refine sW ?_
     cases ht:t k
     ·refine sW ?_
      refine sB ?_
      refine⟨_,y6 k zo zo,?_⟩
      refine sW ?_
      refine sJ ?_
      refine sI ?_
      have u3:=YQ (s:=t) (s':=mark t k) hk' (λj _ h=>wP h) ht (vN _ _)
      have hp:=hJ.push hk' h4
      refine⟨(mark t k,(Z'.take hi').drop lo'++[(k:Int)],0,hi'-lo'+1,ver'+1,k+1),⟨zo,zo,by simp;omega,zo,by rw[List.drop_zero,List.take_of_length_le (by simp;omega)];exact hp⟩,zd,?_⟩
      (refine zj 3 zs rfl ?_ ?_<;>(repeat' (first|exact trivial|exact rfl|exact ya.refl _|exact zP.refl _|exact zJ.refl _|refine And.intro ?_ ?_|(simp[zp,zl,zD,-List.map_take,-List.map_drop];done))))
      ·exact zk (JT zo)
      ·exact zk zkM
     ·refine sW ?_
      refine sI ?_
      refine⟨(t,Z',lo',hi',ver',k+1),⟨zo,hlo',hhi',hu',skip λ_=>ht⟩,zd,?_⟩
      exact zj 3 zs rfl sQ sQ
    ·have h4:P.dst k≠P.src x.toNat:=sO
     refine sW ?_
     refine sI ?_
     refine⟨(t,Z',lo',hi',ver',k+1),⟨zo,hlo',hhi',hu',skip λe=>absurd e h4⟩,zd,?_⟩
     exact zj 3 zs rfl sQ sQ
   ·have hk':k=P.zn.length:=by have:¬k<P.zn.length:=sO
                               omega
    subst hk'
    refine⟨(t,Z',lo',hi',ver'),⟨hlo',hhi',zo,hJ.fin⟩,zd,?_⟩
    exact zC (by exact sK) rfl
 ·have h0:hi=lo:=sO
  subst h0
  rw[List.drop_eq_nil_of_le (by rw[List.length_take];omega)] at hI
  rw[w9 (g':=λi=>P.zoZ but i flow) λi _=>hI.fin i]
  exact zcU rfl
end
section
open Go.RowKit
end
section
def val (M:List Int) (i:Nat):Int:=M.getD i 0
namespace za
def Zw (P:za) (n:Int) (a:Nat):Int:=(P.vF n).getD a 0
def Q5 (P:za) (n:Int) (a:Nat):Int:=(P.ue n).getD a 0
theorem UX {l:List Int} {a:Nat} (h:a<l.length):l.getD a 0∈l:=by
 rw[List.getD_eq_getElem?_getD,List.getElem?_eq_getElem h];exact List.getElem_mem h
theorem zjJ {l:List Int} {x:Int} (h:x∈l):∃k,k<l.length∧l.getD k 0=x:=Xy h
theorem Jr {P:za} {n:Int} {a:Nat} (h:a<(P.vF n).length):0≤P.Zw n a∧P.Zw n a<P.zn.length∧P.dst (P.Zw n a).toNat=n:=by
 obtain⟨i,h1,h2,h3⟩:=Wh.1 (UX h)
 unfold Zw vF
 rw[h3]
 rw[Int.toNat_natCast]
 exact⟨zo,zo,by simpa using h2⟩
theorem zpu {P:za} {n:Int} {a:Nat} (h:a<(P.ue n).length):0≤P.Q5 n a∧P.Q5 n a<P.zn.length∧P.src (P.Q5 n a).toNat=n:=by
 obtain⟨i,h1,h2,h3⟩:=Wh.1 (UX h)
 unfold Q5 ue
 rw[h3]
 rw[Int.toNat_natCast]
 exact⟨zo,zo,by simpa using h2⟩
def zgo (P:za) (M:List Int) (n:Int):Nat→Bool
 | 0=>false
 | a+1=>P.zgo M n a||decide (0<val M (P.Zw n a).toNat)
def zjS (P:za) (M:List Int) (n:Int):Nat→Bool
 | 0=>true
 | a+1=>P.zjS M n a&&decide (0<val M (P.Zw n a).toNat)
def hold (P:za) (M:List Int) (n:Int) (f i:Nat):Prop:=P.Via n i f∧0<val M i∧P.dst i≠n
def zmf (P:za) (M:List Int) (n:Int) (a:Nat):Prop:=val M (P.Zw n a).toNat≤0∧∃i,i<P.zn.length∧P.hold M n (P.Zw n a).toNat i
open Classical in
noncomputable def zcz (P:za) (M:List Int) (n:Int):Bool:=P.zgo M n (P.vF n).length&&decide (∀a,a<(P.vF n).length→¬P.zmf M n a)
open Classical in
noncomputable def JE (P:za) (M:List Int) (s:zR):Bool :=
 if 0≤s.2.1 then decide (0<val M s.2.1.toNat) else if P.kind s.1.toNat=7 then P.zcz M s.1 else P.zjS M s.1 (P.vF s.1).length
open Classical in
theorem zh0 {P:za} {M:List Int} {n:Int} {a:Nat} (ha:a<(P.vF n).length) (h:P.zmf M n a):P.zcz M n=false:=by
 unfold zcz
 rw[Bool.and_eq_false_iff]
 exact .inr (decide_eq_false λq=>q a ha h)
open Classical in
theorem zkT {P:za} {M:List Int} {n:Int} (h:∀a,a<(P.vF n).length→¬P.zmf M n a):P.zcz M n=P.zgo M n (P.vF n).length:=by
 unfold zcz
 rw[decide_eq_true h,Bool.and_true]
structure zep (P:za) (s:zR):Prop where
 node:0≤s.1∧s.1<P.nodes.length
 in_:-1≤s.2.1∧s.2.1<P.zn.length
 kind:s.2.1<0→P.kind s.1.toNat=6∨P.kind s.1.toNat=7
 out:0≤s.2.2∧s.2.2≤1073741824
theorem zmu {P:za} (hf:P.zn.length≤30) (n:Int):0≤P.Xj n∧P.Xj n≤1073741823:=by
 have l2:=P.VG n
 have:=zhx (k:=(P.ue n).length) (n:=30) zo
 have e30:zeN 30=1073741823:=rfl
 unfold Xj
 omega
theorem zhS {n:Int} {s:zR}:∀{k:Nat},s∈orS n k→s.1=n∧s.2.1=-1∧0≤s.2.2∧s.2.2≤k
 | 0,h=>by cases h
 | k+1,h=>by
  simp only[orS,List.mem_append,List.mem_singleton] at h
  rcases h with h|h
  ·have:=zhS h
   exact⟨this.1,this.2.1,this.2.2.1,zo⟩
  ·subst h
   exact⟨rfl,rfl,zd,zd⟩
theorem zii {n i:Int} {s:zR}:∀{k:Nat},s∈zhP n i k→s.1=n∧s.2.1=i∧∃j,j<k∧s.2.2=2^j
 | 0,h=>by cases h
 | k+1,h=>by
  simp only[zhP,List.mem_append,List.mem_singleton] at h
  rcases h with h|h
  ·obtain⟨a,b,j,c,d⟩:=zii h
   exact⟨a,b,j,zo,d⟩
  ·subst h
   exact⟨rfl,rfl,k,zo,rfl⟩
theorem zfn {P:za} {k n:Int} {s:zR} (hf:P.zn.length≤30):∀{j:Nat},j≤(P.vF n).length→s∈P.Z8 k n j→s.1=n∧(0≤s.2.1∧s.2.1<P.zn.length)∧0≤s.2.2∧s.2.2≤1073741824
 | 0,_,h=>by cases h
 | j+1,hj,h=>by
  simp only[Z8,List.mem_append] at h
  rcases h with h|h
  ·exact zfn hf zo h
  ·have hi:=Jr (P:=P) (n:=n) (a:=j) zo
   unfold Zw at hi
   have l2:=P.VG n
   have ha:=zmu hf n
   unfold zad at h
   split at h
   ·obtain⟨a,b,i,c,d⟩:=zii h
    have p1:=JJ i
    have p2:=zd1 (k:=i) (n:=30) zo
    have p3:(2:Int)^30=1073741824:=zc
    exact⟨a,zo,zo⟩
   ·rw[List.mem_singleton] at h
    subst h
    exact⟨rfl,⟨hi.1,hi.2.1⟩,ha.1,zd⟩
theorem zh2 {P:za} {n:Nat} {s:zR} (hf:P.zn.length≤30) (hn:n<P.nodes.length) (h:s∈P.qR n):P.zep s:=by
 have ha:=zmu hf n
 unfold qR at h
 split at h
 ·obtain⟨a,b,c⟩:=zfn hf (Nat.le_refl _) h
  exact⟨zo,zo,λq=>zo,c⟩
 ·split at h
  ·rename_i q
   rw[List.mem_singleton] at h
   subst h
   exact⟨zd,zd,λ_=>.inl (by rw[Int.toNat_natCast];exact q),ha.1,zd⟩
  ·split at h
   ·rename_i q
    obtain⟨a,b,c,d⟩:=zhS h
    exact⟨zo,zo,λ_=>.inr (by rw[a,Int.toNat_natCast];exact q),c,zo⟩
   ·cases h
theorem zbo {P:za} {s:zR} (hf:P.zn.length≤30):∀{n:Nat},n≤P.nodes.length→s∈P.wH n→P.zep s
 | 0,_,h=>by cases h
 | n+1,hn,h=>by
  simp only[wH,List.mem_append] at h
  rcases h with h|h
  ·exact zbo hf zo h
  ·exact zh2 hf zo h
noncomputable def Xa (P:za) (M:List Int) (l:List zR):Nat→List Int
 | 0=>[]
 | k+1=>if P.JE M (l.getD k (0,0,0))=true then P.Xa M l k++[(k:Int)] else P.Xa M l k
theorem zgl (P:za) (M:List Int) (l:List zR):∀k,(P.Xa M l k).length≤k
 | 0=>by simp[Xa]
 | k+1=>by
  have:=zgl P M l k
  simp only[Xa]
  split
  ·simp;omega
  ·omega
theorem zft {P:za} {M:List Int} {n:Int} (h:∀i,0≤val M i):∀a,P.zjS M n a=!((List.range a).any λj=>val M (P.Zw n j).toNat==0)
 | 0=>rfl
 | a+1=>by
  rw[zjS,zft h a,List.range_succ,List.any_append]
  have h1:decide (0<val M (P.Zw n a).toNat)=!(val M (P.Zw n a).toNat==0):=by
   have:=h (P.Zw n a).toNat
   by_cases q:val M (P.Zw n a).toNat=0
   ·simp[q]
   ·rw[decide_eq_true zo];simp[q]
  simp[h1]
theorem znF {l:List Int} {p:Int→Bool}:l.any p=(List.range l.length).any λj=>p (l.getD j 0):=by
 rw[Bool.eq_iff_iff,List.any_eq_true,List.any_eq_true]
 constructor
 ·rintro⟨x,hx,hp⟩
  obtain⟨k,hk,rfl⟩:=List.mem_iff_getElem.1 hx
  refine⟨k,List.mem_range.2 hk,?_⟩
  rw[List.getD_eq_getElem?_getD,List.getElem?_eq_getElem hk]
  exact hp
 ·rintro⟨k,hk,hp⟩
  exact⟨_,UX (List.mem_range.1 hk),hp⟩
end za
end
section
open Go.RowKit
structure za.Mark (P:za) (M:List Int):Prop where
 len:M.length=P.zn.length
 pos:∀i,0≤val M i
 top:∀i,val M i≤9
theorem zhL {M:List Int} {z k:Nat} (hz:z=k) (h:k<M.length):(M.map λn=>[D.sc (.int .i64 n)])[z]? = some [.sc (.int .i64 (val M k))]:=yb hz h
theorem zdN {P:za} (h0:P.xc=0) {n:Int} (h1:0≤n) (h2:n<P.nodes.length):P.uV n=0∧P.zhZ n=P.vF n∧P.zbj n=P.ue n:=by
 have hE:P.uV n=0:=by unfold za.uV;rw[if_neg zo,if_neg zo]
 exact⟨hE,by unfold za.zhZ;rw[if_pos hE],by unfold za.zbj;rw[if_pos hE]⟩
theorem zgE {P:za} (h:P.xc=0):∀i,i<P.zn.length→P.Zj i=true:=by
 unfold za.xc at h
 repeat' (split at h)
 all_goals first|(exact absurd h zc)|(exact absurd h (by assumption))|skip
 all_goals exact Classical.not_not.1 (by assumption)
def zwa:PC:=.seq (OP [Bi 37 .lss 36 35]) (.seq (.cond 37 .skip (.exit 2)) (.seq (.block 3 (.seq (OP [qm 38 36,Ia 39 1 34 36,Lo 40 39,qm 12 38,qm 13 40]) (.seq (OP [qm 41 13,qm 42 41,GT 43 42 (.move 1),GT 44 42 (.move 12),GT 45 42 (.zM 1 43 44),GT 46 42 (.zi 45),GT 47 42 (.bin .gtr 46 (cI 0)),Pk 48 42 47 cF,qm 49 48,GT 50 49 (.zv 1 3),GT 51 49 (.zi 50),GT 52 49 (.move 12),GT 53 49 (.zM 2 51 52),GT 54 49 (.zv 1 53),GT 55 49 (.zi 54),GT 56 49 (.move 2),GT 57 49 (.bin .neq 55 56),Pk 58 49 57 cF]) (.cond 58 (.seq (OP [Mv 6 cF]) .ret) .skip)))) (OP [Bi 59 .add 36 (cI 1),qm 36 59])))
def zwL:PC:=.seq (OP [Bi 23 .lss 22 21]) (.seq (.cond 23 .skip (.exit 0)) (.seq (.block 1 (.seq (OP [Ia 24 1 20 22,Lo 25 24,qm 11 25]) (.seq (.seq (OP [qm 26 1,qm 27 11,Ia 28 1 26 27,Lo 29 28,Bi 30 .gtr 29 (cI 0)]) (.cond 30 (.seq (OP [Mv 9 cT]) (.exit 1)) .skip)) (.seq (OP [LA 31 2 3,qm 32 11,qm 33 2,Ca 34 247 [31,32,33],Ln 35 34,Mv 36 (cI 0)]) (.block 2 (.loop zwa)))))) (OP [Bi 60 .add 22 (cI 1),qm 22 60])))
def c231:PC:=.seq (OP [Bx 3 0,Mv 6 cF]) (.seq (OP [LA 15 2 3,qm 16 2,Ca 17 123 [15,16],qm 14 17,Xt 18 0 14,Xt 19 1 14,qm 7 18,qm 8 19]) (.seq (OP [Mv 9 cF]) (.seq (.seq (OP [qm 20 7,Ln 21 20,Mv 22 (cI 0)]) (.block 0 (.loop zwL))) (.seq (OP [qm 61 9,qm 6 61]) .ret))))
theorem zuJ:zz Tryz.prog 231 62 [.tmp 6] c231:=fK Tryz.func231
theorem zkw (P:za) (hP:P.Fits) (h0:P.xc=0) (M:List Int) (hM:P.Mark M) (n:Int) (h1:0≤n) (h2:n<P.nodes.length) :
  zu Tryz.prog 231 [yQ P,zw M,.sc (.int .i64 n)] (.sc (.bool (P.zcz M n))):=by
 obtain⟨hs1,hs2⟩:=yM h0
 obtain⟨hE,hI,_⟩:=zdN h0 h1 h2
 have hi:=Ji P hP n
 rw[hI,hE] at hi
 have l1:=P.zaa n
 have lM:=hM.len
 refine zb zuJ zs (by simp[ze,Pure,z6,zh]) ?_ (by simp[Pure])
 refine sR ?_
 refine sC hi ?_
 rw[List.length_map]
 refine zL [1,2,3,20,21] (λa:Nat=>[(9,.sc (.bool (P.zgo M n a))),(22,.sc (.int .i64 a))]) (λ_=>[]) (λa=>a≤(P.vF n).length∧∀j,j<a→¬P.zmf M n j) (λa=>(P.vF n).length-a) 0 ?_
 refine sW ?_
 refine⟨⟨zo,λj h=>zo⟩,by exact sK,rfl,?_⟩
 rintro a ⟨ha,hall⟩
 refine sW ?_
 refine sR ?_
 refine sS (λh3=>?_) λh3=>?_
 ·have ha':a<(P.vF n).length:=sO
  have yT:=za.Jr (P:=P) (n:=n) ha'
  have ep:P.zgo M n (a+1)=(P.zgo M n a||decide (0<val M (P.Zw n a).toNat)):=rfl
  refine sL (yb (k:=a) zo ha') ?_
  rw[show(P.vF n).getD a 0=P.Zw n a from rfl]
  generalize hx:P.Zw n a=x at yT ep
  refine sL (zhL (k:=x.toNat) zo zo) ?_
  refine sS (λh4=>?_) λh4=>?_
  ·have h4:0<val M x.toNat:=sO
   refine sW ?_
   refine sI ?_
   refine⟨a+1,⟨zo,λj hj=>?_⟩,zd,?_⟩
   ·by_cases e:j=a
    ·subst e;exact λq=>by have:=q.1;rw[hx] at this;omega
    ·exact hall j zo
   ·rw[decide_eq_true h4,Bool.or_true] at ep
    exact zC ⟨by simp only[ep];rfl,by exact sK⟩ rfl
  ·have h4:¬0<val M x.toNat:=sO
   rw[decide_eq_false h4,Bool.or_false] at ep
   have hc:=zno P hP hs2 x.toNat zo (zgE h0) n
   rw[show((x.toNat:Nat):Int)=x by omega] at hc
   refine sW ?_
   refine sC hc ?_
   rw[Jp]
   refine zL [1,2,3,9,20,21,22,34,35] (λk:Nat=>[(36,.sc (.int .i64 k))]) (λ_=>[]) (λk=>k≤P.zn.length∧∀i,i<k→¬P.hold M n x.toNat i) (λk=>P.zn.length-k) 0 ?_
   refine sW ?_
   refine⟨⟨zo,λj h=>zo⟩,by exact sK,rfl,?_⟩
   rintro k ⟨hk,hno⟩
   refine sW ?_
   refine sR ?_
   have next:∀{i:Nat},¬P.hold M n x.toNat k→i<k+1→¬P.hold M n x.toNat i:=λh1 h2=>by
    rename_i i
    by_cases e:i=k
    ·subst e;exact h1
    ·exact hno i zo
   refine sS (λh5=>?_) λh5=>?_
   ·have hk':k<P.zn.length:=sO
    refine sL (y6 k zo hk') ?_
    cases hv:P.zoZ n k x.toNat
    ·refine sW ?_
     refine sI ?_
     refine⟨k+1,⟨zo,λi hi=>next (λq=>by rw[za.zcN.2 q.1] at hv;cases hv) hi⟩,zd,zC (by exact sK) rfl⟩
    ·refine sW ?_
     refine sL (zhL (k:=k) zo zo) ?_
     cases hg:decide (val M k>0)
     ·refine sW ?_
      refine sI ?_
      refine⟨k+1,⟨zo,λi hi=>next (λq=>by rw[decide_eq_true q.2.1] at hg;cases hg) hi⟩,zd,zC (by exact sK) rfl⟩
     ·refine sW ?_
      refine sL (WH P (k:=k) zo hk') ?_
      refine sS (λh6=>?_) λh6=>?_
      ·have h6:P.dst k≠n:=sO
       rw[za.zh0 ha' ⟨by rw[hx];omega,k,hk',by rw[hx];exact⟨za.zcN.1 hv,of_decide_eq_true hg,h6⟩⟩]
       exact .refl _
      ·have h6:P.dst k=n:=sO
       refine sI ?_
       refine⟨k+1,⟨zo,λi hi=>next (λq=>q.2.2 h6) hi⟩,zd,zC (by exact sK) rfl⟩
   ·have hk':k=P.zn.length:=by have:¬k<P.zn.length:=sO
                               omega
    subst hk'
    refine sI ?_
    refine⟨a+1,⟨zo,λj hj=>?_⟩,zd,zC ⟨by simp only[ep];rfl,by exact sK⟩ rfl⟩
    by_cases e:j=a
    ·subst e
     rintro⟨-,i,q1,q2⟩
     rw[hx] at q2
     exact hno i q1 q2
    ·exact hall j zo
 ·have ha':a=(P.vF n).length:=by have:¬a<(P.vF n).length:=sO
                                 omega
  subst ha'
  rw[za.zkT hall]
  exact .refl _
def c232:PC:=.seq (OP [Mv 3 cF]) (.seq (OP [Lo 4 1,qm 5 0,Ia 6 1 4 5,Lo 7 6,Bi 8 .eql 7 (cI 0),qm 3 8]) .ret)
theorem zso:zz Tryz.prog 232 9 [.tmp 3] c232:=fK Tryz.func232
def c185:PC:=.seq (OP [Bx 3 0,Bx 4 1,Bx 5 2,Mv 6 cF]) (.seq (.seq (OP [Fa 9 1 5,Lo 10 9,Bi 11 .geq 10 (cI 0)]) (.cond 11 (.seq (OP [Lo 12 4,Fa 13 1 5,Lo 14 13,Ia 15 1 12 14,Lo 16 15,Bi 17 .gtr 16 (cI 0),qm 6 17]) .ret) .skip)) (.seq (.seq (OP [Fa 18 0 3,Lo 19 18,Fa 20 0 5,Lo 21 20,Ia 22 2 19 21,Fa 23 1 22,Lo 24 23,Bi 25 .eql 24 (cI 7)]) (.cond 25 (.seq (OP [LA 26 2 3,Lo 27 4,Fa 28 0 5,Lo 29 28,Ca 30 231 [26,27,29],qm 6 30]) .ret) .skip)) (.seq (OP [LA 32 2 3,Fa 33 0 5,Lo 34 33,Ca 35 123 [32,34],qm 31 35,Xt 36 0 31,Xt 37 1 31,qm 7 36,qm 8 37]) (.seq (OP [qm 38 7,q 39 (.ZP (.func 232) [] [4]),Ca 40 27 [38,39],Nt 41 40,qm 6 41]) .ret))))
theorem zt3:zz Tryz.prog 185 42 [.tmp 6] c185:=fK Tryz.func185
theorem ze8 (M:List Int) (x:Int) (h1:0≤x) (h2:x<M.length):zu Tryz.prog 232 [.sc (.int .i64 x),.xk [zw M]] (.sc (.bool (val M x.toNat==0))):=by
 refine zb zso zs (by simp[ze,Pure,zh]) ?_ (by simp[Pure])
 refine sR ?_
 refine sL (zhL (k:=x.toNat) zo zo) ?_
 exact .refl _
theorem Jv (P:za) (hP:P.Fits) (h0:P.xc=0) (M:List Int) (hM:P.Mark M) (s:zR) (hs:P.zep s) :
  zu Tryz.prog 185 [yQ P,zw M,.agg (zis s)] (.sc (.bool (P.JE M s))):=by
 obtain⟨hs1,hs2⟩:=yM h0
 have hn:=hs.node
 have yT:=hs.in_
 obtain⟨hE,hI,_⟩:=zdN h0 hn.1 hn.2
 have hi:=Ji P hP s.1
 rw[hI,hE] at hi
 have l1:=P.zaa s.1
 have lM:=hM.len
 have hcf:zu Tryz.prog 27 [zw (P.vF s.1),.fn (.func 232) [] [.xk [zw M]]] (.sc (.bool ((P.vF s.1).any λx=>val M x.toNat==0))) :=
  xa (λn=>.sc (.int .i64 n)) (λ_=>by simp[Pure]) (P.vF s.1) zo (λx=>val M x.toNat==0) 232 [.xk [zw M]] (by simp[ze,Pure,zh]) λa ha=>by
   obtain⟨k,hk,e⟩:=za.zjJ ha
   have:=za.Jr (P:=P) (n:=s.1) hk
   unfold za.Zw at this
   rw[e] at this
   exact ze8 M _ this.1 zo
 refine zb zt3 zs (by simp[ze,Pure,z6,zh,zaw]) ?_ (by simp[Pure])
 have e:P.JE M s=if 0≤s.2.1 then decide (0<val M s.2.1.toNat) else if P.kind s.1.toNat=7 then P.zcz M s.1 else P.zjS M s.1 (P.vF s.1).length:=rfl
 refine sR ?_
 refine sS (λh1=>?_) λh1=>?_
 ·have h1:0≤s.2.1:=sO
  rw[if_pos h1] at e
  refine sL (zhL (k:=s.2.1.toNat) zo zo) ?_
  rw[e]
  exact .refl _
 have h1:¬0≤s.2.1:=sO
 rw[if_neg h1] at e
 refine sL (ZZ P (k:=s.1.toNat) zo zo) ?_
 refine sS (λh2=>?_) λh2=>?_
 ·have h2:P.kind s.1.toNat=7:=sO
  rw[if_pos h2] at e
  refine sC (zkw P hP h0 M hM s.1 hn.1 hn.2) ?_
  rw[e]
  exact .refl _
 have h2:P.kind s.1.toNat≠7:=sO
 rw[if_neg h2] at e
 refine sC hi ?_
 refine sN hcf ?_
 rw[e,za.zft hM.pos,za.znF]
 exact .refl _
end
section
open Go.RowKit
theorem zxL (M:List Int):gl M.length (val M)=M:=by
 apply List.ext_getElem
 ·simp
 ·intro i h1 h2
  simp[gl,val,List.getD_eq_getElem?_getD,List.getElem?_eq_getElem h2]
theorem zox {y:Int} (h:0≤y) (h':y<9223372036854775808):vj .and .i64 y 1=y.tmod 2:=by
 obtain⟨n,rfl⟩:∃n:Nat,y=n:=⟨y.toNat,zo⟩
 have e:(BitVec.ofInt 64 (n:Int) &&& BitVec.ofInt 64 1).toNat=n%2:=by
  rw[BitVec.toNat_and]
  have e1:(BitVec.ofInt 64 (n:Int)).toNat=n:=by rw[BitVec.toNat_ofInt];omega
  have e2:(BitVec.ofInt 64 1).toNat=1:=zc
  rw[e1,e2,Nat.and_one_is_mod]
 show IntKind.i64.wrap ((BitVec.ofInt 64 (n:Int) &&& BitVec.ofInt 64 1).toNat:Int)=_
 rw[e,show((n:Int).tmod 2)=((n%2:Nat):Int) from(Int.ofNat_tmod n 2).symm,IntKind.wrap_i64]
 omega
namespace za
def zjK (P:za) (M:List Int) (s:zR) (f:Nat):Bool:=decide (P.dst f=s.1)&&(s.2.1==(f:Int)||decide (s.2.1<0)&&decide (0<val M f))
def VY (P:za) (M:List Int) (s:zR) (f:Nat):Int:=val M f-if P.zjK M s f=true then 1 else 0
def WZ (P:za) (s:zR) (f:Nat):Nat→Int
 | 0=>0
 | k+1=>P.WZ s f k+if P.Q5 s.1 k=(f:Int)∧zs3 s.2.2 k=true then 1 else 0
def zb0 (P:za) (M:List Int) (s:zR) (f:Nat):Int:=P.VY M s f+P.WZ s f (P.ue s.1).length
theorem zhO (P:za) (s:zR) (f:Nat):∀k,0≤P.WZ s f k∧P.WZ s f k≤k
 | 0=>by simp[WZ]
 | k+1=>by
  have:=zhO P s f k
  simp only[WZ]
  split<;>omega
theorem zga (P:za) (s:zR) (f:Nat) {j:Nat}:∀{k:Nat},j≤k→P.WZ s f j≤P.WZ s f k
 | 0,h=>by rw[show j=0 by omega];exact Int.le_refl _
 | k+1,h=>by
  by_cases e:j=k+1
  ·rw[e];exact Int.le_refl _
  ·have:=zga P s f (j:=j) (k:=k) zo
   have h2:P.WZ s f k≤P.WZ s f (k+1):=by
    simp only[WZ]
    split<;>omega
   omega
theorem zi2 {P:za} {M:List Int} (hM:P.Mark M) (s:zR) (f:Nat):-1≤P.VY M s f∧P.VY M s f≤9:=by
 have h1:=hM.pos f
 have h2:=hM.top f
 unfold VY
 split<;>omega
open Classical in
noncomputable def Zb (P:za) (M:List Int) (s:zR):Int:=if P.kind s.1.toNat=3 then 0 else if ∃f,f<P.zn.length∧9<P.zb0 M s f then 7 else 0
noncomputable def Vm (P:za) (M:List Int) (s:zR):List Int :=
 if P.kind s.1.toNat=3 then gl P.zn.length λ_=>0 else if P.Zb M s=0 then gl P.zn.length (P.zb0 M s) else []
theorem zds {l r:List Int} {a:Nat} (h:a<l.length):(l++r).getD a 0=l.getD a 0:=by
 rw[List.getD_eq_getElem?_getD,List.getD_eq_getElem?_getD,List.getElem?_append_left h]
theorem ze3 {l:List Int} {x:Int}:(l++[x]).getD l.length 0=x:=by
 rw[List.getD_eq_getElem?_getD,List.getElem?_append_right (Nat.le_refl _),Nat.sub_self]
 rfl
theorem Ua {p:Nat→Bool}:∀{n a b:Nat},a<b→b<(pick p n).length→(pick p n).getD a 0<(pick p n).getD b 0
 | 0,_,_,_,h=>by simp[pick] at h
 | n+1,a,b,hab,h=>by
  simp only[pick] at h ⊢
  split
  ·rename_i hp
   rw[if_pos hp,List.length_append,List.length_singleton] at h
   by_cases e:b=(pick p n).length
   ·subst e
    obtain⟨i,g1,g2,g3⟩:=Wh.1 (UX (l:=pick p n) (a:=a) hab)
    rw[zds hab,g3,ze3]
    omega
   ·rw[zds zo,zds zo]
    exact Ua hab zo
  ·rename_i hp
   rw[if_neg hp] at h
   exact Ua hab h
theorem zsm {P:za} {n:Int} {a b:Nat} (h:a<b) (hb:b<(P.vF n).length):P.Zw n a<P.Zw n b:=Ua h hb
theorem zpS {P:za} {n:Int} {f:Nat} (hf:f<P.zn.length) (h:P.dst f=n):∃a,a<(P.vF n).length∧P.Zw n a=f:=Xy (Wh.2 ⟨f,hf,by simpa using h,rfl⟩)
structure zcS (P:za) (M:List Int) (s:zR) (g:Nat→Int) (a:Nat):Prop where
 gone:∀f j:Nat,j<a→P.Zw s.1 j=(f:Int)→g f=P.VY M s f
 left:∀f:Nat,(∀j,j<a→P.Zw s.1 j≠(f:Int))→g f=val M f
theorem zcS.begin {P:za} {M:List Int} {s:zR}:P.zcS M s (val M) 0:=⟨λf j h=>zo,λf _=>rfl⟩
theorem zcS.old {P:za} {M:List Int} {s:zR} {g:Nat→Int} {a x:Nat} (h:P.zcS M s g a) (ha:a<(P.vF s.1).length) (hx:P.Zw s.1 a=(x:Int)):g x=val M x :=
 h.left x λj hj e=>by
  have:=zsm hj ha
  omega
theorem zcS.next {P:za} {M:List Int} {s:zR} {g g':Nat→Int} {a x:Nat} (h:P.zcS M s g a) (ha:a<(P.vF s.1).length) (hx:P.Zw s.1 a=(x:Int)) (h1:g' x=P.VY M s x) (h2:∀f,f≠x→g' f=g f):P.zcS M s g' (a+1) where
 gone f j hj e:=by
  by_cases q:f=x
  ·subst q;exact h1
  ·rw[h2 f q]
   refine h.gone f j ?_ e
   by_cases q2:j=a
   ·subst q2;rw[hx] at e;omega
   ·omega
 left f hf:=by
  rw[h2 f λe=>by subst e;exact hf a zo hx]
  exact h.left f λj hj=>hf j zo
theorem zcS.fin {P:za} {M:List Int} {s:zR} {g:Nat→Int} (h:P.zcS M s g (P.vF s.1).length) {f:Nat} (hf:f<P.zn.length):g f=P.VY M s f:=by
 by_cases e:P.dst f=s.1
 ·obtain⟨a,h1,h2⟩:=zpS hf e
  exact h.gone f a h1 h2
 ·rw[h.left f λj hj q=>e (by have:=(Jr (P:=P) (n:=s.1) hj).2.2;rw[q,Int.toNat_natCast] at this;exact this)]
  unfold VY zjK
  rw[decide_eq_false e]
  simp
theorem zrc {P:za} {s:zR} {k x:Nat} (h:P.Q5 s.1 k=(x:Int)) (hb:zs3 s.2.2 k=true):P.WZ s x (k+1)=P.WZ s x k+1:=by
 simp only[WZ]
 rw[if_pos ⟨h,hb⟩]
theorem zfC {P:za} {s:zR} {k f:Nat} (h:P.Q5 s.1 k≠(f:Int)∨zs3 s.2.2 k=false):P.WZ s f (k+1)=P.WZ s f k:=by
 simp only[WZ]
 rw[if_neg (by rintro⟨h1,h2⟩;rcases h with h|h;exact h h1;rw[h] at h2;cases h2),Int.add_zero]
end za
end
section
open Go.RowKit
@[simp] theorem zuF {m:Nat} (l:List zR):zp m (qW l)↔True:=⟨λ_=>trivial,λ_=>zq _ (uq l)⟩
namespace za
def v8 (P:za) (M:List Int):Bool:=decide (M.length=P.zn.length)&&xv M 10
noncomputable def uw (P:za) (M:List Int):Int:=if P.yz≠0 then P.yz else if P.v8 M=true then 0 else 1
noncomputable def U4 (P:za) (M:List Int):List zR:=if P.uw M=0 then P.zx else []
theorem wP {P:za} {M:List Int} (h:P.v8 M=true):P.Mark M:=by
 unfold v8 at h
 rw[Bool.and_eq_true,decide_eq_true_eq] at h
 have k:∀i,0≤val M i∧val M i≤9:=λi=>by
  by_cases hi:i<M.length
  ·have:=uy h.2 hi
   unfold val
   omega
  ·unfold val
   rw[List.getD_eq_getElem?_getD,List.getElem?_eq_none zo]
   simp
 exact⟨h.1,λi=>(k i).1,λi=>(k i).2⟩
theorem yH {P:za} (h:P.yz=0):P.xc=0∧P.zx=P.wH P.nodes.length∧P.zx.length≤60:=by
 have e:P.zx=P.wH P.nodes.length:=by unfold zx;rw[if_pos h]
 unfold yz at h
 split at h
 ·rename_i q;exact absurd h q
 ·rename_i q
  split at h
  ·cases h
  ·exact⟨Classical.not_not.1 q,e,by rw[e];omega⟩
theorem zeq {P:za} {M:List Int} (h:P.uw M=0):P.yz=0∧P.v8 M=true:=by
 unfold uw at h
 split at h
 ·rename_i q;exact absurd h q
 ·rename_i q
  split at h
  ·rename_i q2;exact⟨Classical.not_not.1 q,q2⟩
  ·cases h
theorem ZD {P:za} (h:P.yz=0) {k:Nat} (hk:k<P.zx.length):P.zep (P.zx.getD k (0,0,0)):=by
 obtain⟨h0,e,_⟩:=yH h
 refine zbo (yM h0).2 (Nat.le_refl _) ?_
 rw[e] at hk ⊢
 rw[List.getD_eq_getElem?_getD,List.getElem?_eq_getElem hk]
 exact List.getElem_mem hk
end za
theorem VU {l:List zR} {z k:Nat} (hz:z=k) (h:k<l.length):(vm l)[z]? = some (zis (l.getD k (0,0,0))):=by
 rw[zsM hz h,List.getD_eq_getElem?_getD,List.getElem?_eq_getElem h]
 rfl
def zhK (P:za) (i:Nat):Int:=if P.kind (P.src i).toNat=1 then 1 else 0
noncomputable def za.x6 (P:za):List Int:=if P.yz=0 then gl P.zn.length (zhK P) else []
def c230:PC:=.seq (OP [Mv 2 cF]) (.seq (OP [qm 3 0,Bi 4 .lss 3 (cI 0),qm 5 4,GF 6 5 (.move 0),GF 7 5 (.bin .gtr 6 (cI 9)),Pk 8 5 cT 7,qm 2 8]) .ret)
theorem zuB:zz Tryz.prog 230 9 [.tmp 2] c230:=fK Tryz.func230
def c184:PC:=.seq (OP [Bx 2 0,Mv 4 cN,Mv 5 (cI 0)]) (.seq (OP [LA 9 2 2,Ca 10 33 [9],qm 8 10,Xt 11 0 8,Xt 12 1 8,qm 6 11,qm 7 12]) (.seq (.seq (OP [qm 13 7,Bi 14 .neq 13 (cI 0)]) (.cond 14 (.seq (OP [qm 15 7,Mv 4 cN,qm 5 15]) .ret) .skip)) (.seq (.seq (OP [qm 16 1,Ln 17 16,Fa 18 1 2,Lo 19 18,Ln 20 19,Bi 21 .neq 17 20,qm 22 21,GF 23 22 (.move 1),GF 24 22 (.call 27 [23,(.func 230)]),Pk 25 22 cT 24]) (.cond 25 (.seq (OP [Mv 4 cN,Mv 5 (cI 1)]) .ret) .skip)) (.seq (OP [qm 26 6,qm 4 26,Mv 5 (cI 0)]) .ret))))
theorem zsg:zz Tryz.prog 184 27 [.tmp 4,.tmp 5] c184:=fK Tryz.func184
theorem zim (x:Int):zu Tryz.prog 230 [.sc (.int .i64 x)] (.sc (.bool (decide (x<0)||decide (x>9)))):=by
 refine zb zuB zs (by simp[ze,Pure]) ?_ (by simp[Pure])
 refine sR ?_
 cases h:decide (x<0)
 ·refine sW ?_
  exact .refl _
 ·refine sW ?_
  exact .refl _
theorem zuS (M:List Int):(M.any λx=>decide (x<0)||decide (x>9))=!xv M 10:=by
 unfold xv
 rw[List.all_eq_not_any_not,Bool.not_not]
 congr 1
 funext x
 by_cases h1:x<0<;>by_cases h2:x>9<;>simp[h1,h2]<;>omega
theorem zcX (P:za) (hP:P.Fits) (M:List Int) (hM:M.length≤9223372036854775807):zu Tryz.prog 184 [yQ P,zw M] (.yI [qW (P.U4 M),.sc (.int .i64 (P.uw M))]):=by
 refine zb zsg zs (by simp[ze,Pure,z6,zh]) ?_ (by simp[Pure,ze,uq])
 have bad:∀{H:List zf} {e:Int},e≠0→P.uw M=e→Deep H (.yI [.sc (.slice none 0 0),.sc (.int .i64 e)]) (.yI [qW (P.U4 M),.sc (.int .i64 (P.uw M))]):=λh k=>by
  have:P.U4 M=[]:=by unfold za.U4;rw[if_neg (by rw[k];exact h)]
  rw[k,this]
  exact .yI _ _ (.cons _ _ _ _ (.none _) (.cons _ _ _ _ (.refl _) .nil))
 have hcf:=xa (λn=>.sc (.int .i64 n)) (λ_=>by simp[Pure]) M hM (λx=>decide (x<0)||decide (x>9)) 230 [] (by simp[ze]) λa _=>zim a
 rw[zuS] at hcf
 have hfl:=hP.zn
 have eE:P.uw M=if P.yz≠0 then P.yz else if P.v8 M=true then 0 else 1:=rfl
 refine sR ?_
 refine sC (Y6 P hP) ?_
 refine sS (λh1=>?_) λh1=>?_
 ·have h1:P.yz≠0:=sO
  exact bad h1 (by rw[eE,if_pos h1])
 have h1:P.yz=0:=sO
 rw[if_neg zo] at eE
 rw[List.length_map,List.length_map]
 cases h2:((M.length:Int) != P.zn.length)
 ·have h2:M.length=P.zn.length:=sO
  refine sW ?_
  refine sC hcf ?_
  have eM:P.v8 M=xv M 10:=by unfold za.v8;rw[decide_eq_true h2,Bool.true_and]
  cases h3:xv M 10
  ·refine sW ?_
   exact bad zc (by rw[eE,if_neg (by rw[eM,h3];decide)])
  ·refine sW ?_
   have e0:P.uw M=0:=by rw[eE,if_pos (by rw[eM,h3])]
   have eL:P.U4 M=P.zx:=by unfold za.U4;rw[if_pos e0]
   rw[e0,eL]
   exact .refl _
 ·have h2:M.length≠P.zn.length:=sO
  refine sW ?_
  exact bad zc (by rw[eE,if_neg (by unfold za.v8;rw[decide_eq_false h2];simp)])
def zwY:PC:=.seq (OP [Bi 23 .lss 22 21]) (.seq (.cond 23 .skip (.exit 0)) (.seq (.block 1 (.seq (OP [qm 24 22,Ia 25 3 20 22,LA 26 3 25,q 10 (.alloc [(.int .i64 0),(.int .i64 0),(.int .i64 0)]),qm 9 24,So 3 10 26]) (.seq (OP [LA 27 2 2,qm 28 1,LA 29 3 10,Ca 30 185 [27,28,29]]) (.cond 30 (OP [qm 31 8,qm 32 9,Bs 33 1 1 [32],Ap 34 1 8 31 33,qm 8 34]) .skip)))) (OP [Bi 35 .add 22 (cI 1),qm 22 35])))
def c121:PC:=.seq (OP [Bx 2 0,Mv 4 cN,Mv 5 (cI 0)]) (.seq (OP [LA 12 2 2,qm 13 1,Ca 14 184 [12,13],qm 11 14,Xt 15 0 11,Xt 16 1 11,qm 6 15,qm 7 16]) (.seq (.seq (OP [qm 17 7,Bi 18 .neq 17 (cI 0)]) (.cond 18 (.seq (OP [qm 19 7,Mv 4 cN,qm 5 19]) .ret) .skip)) (.seq (OP [Mv 8 cN]) (.seq (.seq (OP [qm 20 6,Ln 21 20,Mv 22 (cI 0)]) (.block 0 (.loop zwY))) (.seq (OP [qm 36 8,qm 4 36,Mv 5 (cI 0)]) .ret)))))
theorem ztF:zz Tryz.prog 121 37 [.tmp 4,.tmp 5] c121:=fK Tryz.func121
noncomputable def za.Yh (P:za) (M:List Int):List Int:=if P.uw M=0 then P.Xa M P.zx P.zx.length else []
theorem zg6 (P:za) (hP:P.Fits) (M:List Int) (hM:M.length≤9223372036854775807):zu Tryz.prog 121 [yQ P,zw M] (.yI [zw (P.Yh M),.sc (.int .i64 (P.uw M))]):=by
 refine zb ztF zs (by simp[ze,Pure,z6,zh]) ?_ (by simp[Pure,ze,zh])
 refine sR ?_
 refine sC (zcX P hP M hM) ?_
 refine sS (λh1=>?_) λh1=>?_
 ·have h1:P.uw M≠0:=sO
  have:P.Yh M=[]:=by unfold za.Yh;rw[if_neg h1]
  rw[this]
  exact .yI _ _ (.cons _ _ _ _ (.none _) (.cons _ _ _ _ (.refl _) .nil))
 have h1:P.uw M=0:=sO
 obtain⟨hE,hB⟩:=za.zeq h1
 obtain⟨h0,_,h60⟩:=za.yH hE
 have hK:=za.wP hB
 have eL:P.U4 M=P.zx:=by unfold za.U4;rw[if_pos h1]
 have eN:P.Yh M=P.Xa M P.zx P.zx.length:=by unfold za.Yh;rw[if_pos h1]
 rw[eL,h1,eN,Wr]
 refine zE (y8 8 1 zs rfl) ?_
 refine zL [1,2,20,21] (λ((k,c,l):Nat × Nat × List Int)=>[(8,.own 1 c 0 c),(22,.sc (.int .i64 k))]) (λ(k,c,l)=>[(1,.vec true c 1 (zI l))]) (λ(k,c,l)=>k≤P.zx.length∧c=l.length∧c≤k∧l=P.Xa M P.zx k) (λ(k,c,l)=>P.zx.length-k) (0,0,[]) ?_
 refine sW ?_
 refine⟨⟨zo,rfl,zo,rfl⟩,by exact sK,rfl,?_⟩
 rintro⟨k,c,l⟩ ⟨hk,hc,hck,hl⟩
 refine sW ?_
 refine sR ?_
 refine sS (λh2=>?_) λh2=>?_
 ·have hk':k<P.zx.length:=sO
  have hsk:=za.ZD hE hk'
  have eT:P.Xa M P.zx (k+1)=if P.JE M (P.zx.getD k (0,0,0))=true then P.Xa M P.zx k++[(k:Int)] else P.Xa M P.zx k:=rfl
  refine sL (VU (k:=k) zo hk') ?_
  generalize P.zx.getD k (0,0,0)=s at hsk eT
  refine sC (Jv P hP h0 M hK s hsk) ?_
  cases hm:P.JE M s
  ·refine sW ?_
   refine sI ?_
   refine⟨(k+1,c,l),⟨zo,hc,zo,by rw[eT,hm,hl];rfl⟩,zd,?_⟩
   exact zj 2 zs rfl sQ sQ
  ·refine sW ?_
   refine sJ ?_
   refine sI ?_
   refine⟨(k+1,c+1,l++[(k:Int)]),⟨zo,by simp[hc],zo,by rw[eT,hm,hl];rfl⟩,zd,?_⟩
   refine zj 2 zs rfl sQ (sU ?_)
   exact zk (xV hc)
 ·have hk':k=P.zx.length:=by have:¬k<P.zx.length:=sO
                             omega
  subst hk'
  rw[←hl]
  exact .yI _ _ (.cons _ _ _ _ (Wp hc rfl) (.cons _ _ _ _ (.refl _) .nil))
def zzW:PC:=.seq (OP [Bi 25 .lss 24 23]) (.seq (.cond 25 .skip (.exit 0)) (.seq (.block 1 (.seq (OP [qm 26 24,Ia 27 2 22 24,LA 28 2 27,q 8 (.alloc [(.int .i64 0),(.int .i64 0)]),qm 7 26,So 2 8 28]) (.seq (OP [Fa 29 0 1,Lo 30 29,Fa 31 0 8,Lo 32 31,Ia 33 2 30 32,Fa 34 1 33,Lo 35 34,Bi 36 .eql 35 (cI 1)]) (.cond 36 (OP [qm 37 6,qm 38 7,Ia 39 1 37 38,So 1 39 (cI 1)]) .skip)))) (OP [Bi 40 .add 24 (cI 1),qm 24 40])))
def c58:PC:=.seq (OP [Bx 1 0,Mv 2 cN,Mv 3 (cI 0)]) (.seq (.seq (OP [LA 10 2 1,Ca 11 33 [10],qm 9 11,Xt 12 0 9,Xt 13 1 9,qm 4 12,qm 5 13]) (.seq (OP [qm 14 5,Bi 15 .neq 14 (cI 0)]) (.cond 15 (.seq (OP [qm 16 5,Mv 2 cN,qm 3 16]) .ret) .skip))) (.seq (OP [Fa 17 1 1,Lo 18 17,Ln 19 18,q 20 (.x5 1 8 [(.int .i64 0)] 19 19),qm 6 20]) (.seq (.seq (OP [Fa 21 1 1,Lo 22 21,Ln 23 22,Mv 24 (cI 0)]) (.block 0 (.loop zzW))) (.seq (OP [qm 41 6,qm 2 41,Mv 3 (cI 0)]) .ret))))
theorem zwW:zz Tryz.prog 58 42 [.tmp 2,.tmp 3] c58:=fK Tryz.func58
theorem zlC (P:za) (hP:P.Fits):zu Tryz.prog 58 [yQ P] (.yI [zw P.x6,.sc (.int .i64 P.yz)]):=by
 refine zb zwW zs (by simp[ze,Pure,z6]) ?_ (by simp[Pure,ze,zh])
 refine sR ?_
 refine sC (Y6 P hP) ?_
 refine sS (λh1=>?_) λh1=>?_
 ·have h1:P.yz≠0:=sO
  have:P.x6=[]:=by unfold za.x6;rw[if_neg h1]
  rw[this]
  exact .yI _ _ (.cons _ _ _ _ (.none _) (.cons _ _ _ _ (.refl _) .nil))
 have h1:P.yz=0:=sO
 obtain⟨h0,_,_⟩:=za.yH h1
 obtain⟨hs1,hs2⟩:=yM h0
 have eB:P.x6=gl P.zn.length (zhK P):=by unfold za.x6;rw[if_pos h1]
 rw[List.length_map,h1,eB]
 refine⟨zo,zo,zo,?_⟩
 rw[Int.toNat_natCast,show List.map D.sc [Value.int .i64 0]=[D.sc (.int .i64 0)] from rfl,zal]
 refine sW ?_
 rw[List.length_map]
 refine zL [1,6,22,23] (λ((k,g):Nat × (Nat→Int))=>[(24,.sc (.int .i64 k))]) (λ(k,g)=>[(1,.vec true 0 1 (zI (gl P.zn.length g)))]) (λ(k,g)=>k≤P.zn.length∧∀i,g i=if i<k then zhK P i else 0) (λ(k,g)=>P.zn.length-k) (0,λ_=>0) ?_
 refine sW ?_
 refine⟨⟨zo,λi=>rfl⟩,by exact sK,rfl,?_⟩
 rintro⟨k,g⟩ ⟨hk,hg⟩
 refine sW ?_
 refine sR ?_
 refine sS (λh2=>?_) λh2=>?_
 ·have hk':k<P.zn.length:=sO
  have hfk:=za.qx.1 (zgE h0 k hk')
  refine sL (WH P (k:=k) zo hk') ?_
  refine sL (ZZ P (k:=(P.src k).toNat) zo zo) ?_
  refine sS (λh3=>?_) λh3=>?_
  ·have h3:P.kind (P.src k).toNat=1:=sO
   refine sB ?_
   refine⟨_,zT k zo zo,?_⟩
   refine sW ?_
   refine sI ?_
   refine⟨(k+1,X2 g k 1),⟨zo,λi=>?_⟩,zd,?_⟩
   ·by_cases e:i=k
    ·subst e
     rw[uC,if_pos zo]
     unfold zhK
     rw[if_pos h3]
    ·rw[WR e,hg]
     by_cases q:i<k
     ·rw[if_pos q,if_pos zo]
     ·rw[if_neg q,if_neg zo]
   ·refine zj 2 zs rfl sQ (sU ?_)
    exact zk (uf zo)
  ·have h3:P.kind (P.src k).toNat≠1:=sO
   refine sI ?_
   refine⟨(k+1,g),⟨zo,λi=>?_⟩,zd,?_⟩
   ·rw[hg]
    by_cases e:i=k
    ·subst e
     rw[if_neg zo,if_pos zo]
     unfold zhK
     rw[if_neg h3]
    ·by_cases q:i<k
     ·rw[if_pos q,if_pos zo]
     ·rw[if_neg q,if_neg zo]
   ·exact zj 2 zs rfl sQ sQ
 ·have hk':k=P.zn.length:=by have:¬k<P.zn.length:=sO
                             omega
  subst hk'
  have e:gl P.zn.length (zhK P)=gl P.zn.length g:=vc λi hi=>by rw[hg,if_pos hi]
  rw[e]
  exact .yI _ _ (.cons _ _ _ _ (J8 rfl) (.cons _ _ _ _ (.refl _) .nil))
end
section
open Go.RowKit
theorem zuQ {zs:List (List D)} {n:Nat} {y:List D} (h:zs.length=n):zs.take 0++List.replicate (n-0) y++zs.drop n=List.replicate n y:=by
 rw[List.drop_eq_nil_of_le zo]
 simp
theorem zkp {x:Int} (h:0≤x) (h':x≤1073741824) (k:Nat):0≤x.fdiv (2^k)∧x.fdiv (2^k)<9223372036854775808:=by
 have hp:(0:Int)<2^k:=Int.pow_pos zc
 rw[Int.fdiv_eq_ediv_of_nonneg _ zo]
 have h1:=Int.ediv_nonneg h (by omega:(0:Int)≤2^k)
 have h2:=Int.ediv_le_self (2^k) h
 omega
def zv5:PC:=.seq (OP [Bi 39 .lss 38 37]) (.seq (.cond 39 .skip (.exit 0)) (.seq (.block 1 (.seq (OP [Ia 40 1 36 38,Lo 41 40,qm 12 41]) (.seq (OP [Fa 42 1 5,Lo 43 42,qm 44 12,Bi 45 .eql 43 44,qm 46 45,GF 47 46 (.zv 1 5),GF 48 46 (.zi 47),GF 49 46 (.bin .lss 48 (cI 0)),GF 50 46 (.move 49),GT 51 50 (.move 8),GT 52 50 (.move 12),GT 53 50 (.zM 1 51 52),GT 54 50 (.zi 53),GT 55 50 (.bin .gtr 54 (cI 0)),GF 56 46 (.pick 50 55 cF),Pk 57 46 cT 56]) (.cond 57 (OP [qm 58 8,qm 59 12,Ia 60 1 58 59,Lo 61 60,Bi 62 .sub 61 (cI 1),Ia 63 1 58 59,So 1 63 62]) .skip)))) (OP [Bi 64 .add 38 (cI 1),qm 38 64])))
def zyg:PC:=.seq (OP [Bi 75 .lss 74 73]) (.seq (.cond 75 .skip (.exit 2)) (.seq (.block 3 (.seq (OP [qm 76 74,Ia 77 1 72 74,Lo 78 77,qm 15 76,qm 16 78]) (.seq (OP [Fa 79 2 5,Lo 80 79,qm 81 15,Bi 82 .shr 80 81,Bi 83 .and 82 (cI 1),Bi 84 .eql 83 (cI 1)]) (.cond 84 (.seq (OP [qm 85 8,qm 86 16,Ia 87 1 85 86,Lo 88 87,Bi 89 .add 88 (cI 1),Ia 90 1 85 86,So 1 90 89]) (.seq (OP [qm 91 8,qm 92 16,Ia 93 1 91 92,Lo 94 93,Bi 95 .gtr 94 (cI 9)]) (.cond 95 (.seq (OP [Mv 6 cN,Mv 7 (cI 7)]) .ret) .skip))) .skip)))) (OP [Bi 96 .add 74 (cI 1),qm 74 96])))
def c186:PC:=.seq (OP [Bx 3 0,Bx 5 2,Mv 6 cN,Mv 7 (cI 0)]) (.seq (OP [qm 17 1,Ca 18 63 [17],qm 8 18]) (.seq (.seq (OP [Fa 19 0 3,Lo 20 19,Fa 21 0 5,Lo 22 21,Ia 23 2 20 22,Fa 24 1 23,Lo 25 24,Bi 26 .eql 25 (cI 3)]) (.cond 26 (.seq (OP [qm 27 8,qn (.clr ((.int .i64 0)) 27)]) (.seq (OP [qm 28 8,qm 6 28,Mv 7 (cI 0)]) .ret)) .skip)) (.seq (OP [LA 30 2 3,Fa 31 0 5,Lo 32 31,Ca 33 123 [30,32],qm 29 33,Xt 34 0 29,Xt 35 1 29,qm 9 34,qm 10 35]) (.seq (.seq (OP [qm 36 9,Ln 37 36,Mv 38 (cI 0)]) (.block 0 (.loop zv5))) (.seq (OP [LA 66 2 3,Fa 67 0 5,Lo 68 67,Ca 69 124 [66,68],qm 65 69,Xt 70 0 65,Xt 71 1 65,qm 13 70,qm 14 71]) (.seq (.seq (OP [qm 72 13,Ln 73 72,Mv 74 (cI 0)]) (.block 2 (.loop zyg))) (.seq (OP [qm 97 8,qm 6 97,Mv 7 (cI 0)]) .ret)))))))
theorem ztC:zz Tryz.prog 186 98 [.tmp 6,.tmp 7] c186:=fK Tryz.func186
theorem znP (P:za) (hP:P.Fits) (h0:P.xc=0) (M:List Int) (hM:P.Mark M) (s:zR) (hs:P.zep s) :
  zu Tryz.prog 186 [yQ P,zw M,.agg (zis s)] (.yI [zw (P.Vm M s),.sc (.int .i64 (P.Zb M s))]):=by
 obtain⟨hs1,hs2⟩:=yM h0
 have hn:=hs.node
 obtain⟨hE,hI,hO⟩:=zdN h0 hn.1 hn.2
 have hi:=Ji P hP s.1
 have ho:=zfm P hP s.1
 rw[hI,hE] at hi
 rw[hO,hE] at ho
 have l1:=P.zaa s.1
 have l2:=P.VG s.1
 have lM:=hM.len
 have hout:=hs.out
 have eE:P.Zb M s=if P.kind s.1.toNat=3 then 0 else if ∃f,f<P.zn.length∧9<P.zb0 M s f then 7 else 0:=by unfold za.Zb;rfl
 have eL:P.Vm M s=if P.kind s.1.toNat=3 then gl P.zn.length λ_=>0 else if P.Zb M s=0 then gl P.zn.length (P.zb0 M s) else []:=rfl
 refine zb ztC zs (by simp[ze,Pure,z6,zh,zaw]) ?_ (by simp[Pure,ze,zh])
 refine sR ?_
 refine sE (vq (QL M zo) (by simp[ze,Pure]) [2] rfl rfl (by simp[zf.yy,yG,D.yy];rfl)) ?_
 rw[lM]
 refine sL (ZZ P (k:=s.1.toNat) zo zo) ?_
 refine sS (λh1=>?_) λh1=>?_
 ·have h1:P.kind s.1.toNat=3:=sO
  rw[if_pos h1] at eE eL
  rw[eE,eL,zuQ (by rw[List.length_map];exact lM),zal]
  exact .yI _ _ (.cons _ _ _ _ (J8 rfl) (.cons _ _ _ _ (.refl _) .nil))
 have h1:P.kind s.1.toNat≠3:=sO
 rw[if_neg h1] at eE eL
 refine sC hi ?_
 rw[List.length_map]
 have eM:(M.map λn=>[D.sc (.int .i64 n)])=zI (gl P.zn.length (val M)):=by rw[←lM,zxL];rfl
 refine zL [3,5,8,36,37] (λ((a,g):Nat × (Nat→Int))=>[(38,.sc (.int .i64 a))]) (λ(a,g)=>[(2,.vec true 1 1 (zI (gl P.zn.length g)))]) (λ(a,g)=>a≤(P.vF s.1).length∧P.zcS M s g a) (λ(a,g)=>(P.vF s.1).length-a) (0,val M) ?_
 refine sW ?_
 refine⟨⟨zo,za.zcS.begin⟩,by exact sK,by rw[eM];rfl,?_⟩
 rintro⟨a,g⟩ ⟨ha,hA⟩
 refine sW ?_
 refine sR ?_
 refine sS (λh2=>?_) λh2=>?_
 ·have ha':a<(P.vF s.1).length:=sO
  have yT:=za.Jr (P:=P) (n:=s.1) ha'
  obtain⟨X,hX⟩:∃X:Nat,P.Zw s.1 a=X:=⟨_,(Int.toNat_of_nonneg yT.1).symm⟩
  have hold:=hA.old ha' hX
  have v1:=hM.pos X
  have v2:=hM.top X
  refine sL (yb (k:=a) zo ha') ?_
  rw[show(P.vF s.1).getD a 0=P.Zw s.1 a from rfl,hX]
  rw[hX,Int.toNat_natCast] at yT
  have eD:P.zjK M s X=(s.2.1==(X:Int)||decide (s.2.1<0)&&decide (0<val M X)):=by unfold za.zjK;rw[decide_eq_true yT.2.2,Bool.true_and]
  have eBase:P.VY M s X=val M X-if P.zjK M s X=true then 1 else 0:=rfl
  cases h3:(s.2.1==(X:Int))
  ·refine sW ?_
   rw[h3,Bool.false_or] at eD
   cases h4:decide (s.2.1<0)
   ·rw[h4,Bool.false_and] at eD
    rw[if_neg (by rw[eD];decide),Int.sub_zero] at eBase
    refine sW ?_
    refine sI ?_
    refine⟨(a+1,g),⟨zo,hA.next ha' hX (by rw[eBase,hold]) λf hf=>rfl⟩,zd,?_⟩
    exact zC (by exact sK) rfl
   ·refine sW ?_
    refine sB ?_
    refine⟨_,zT X zo zo,?_⟩
    refine sW ?_
    rw[h4,Bool.true_and] at eD
    rw[hold]
    cases h5:decide (val M X>0)
    ·have eD:P.zjK M s X=false:=by rw[eD];exact h5
     rw[if_neg (by rw[eD];decide),Int.sub_zero] at eBase
     refine sW ?_
     refine sI ?_
     refine⟨(a+1,g),⟨zo,hA.next ha' hX (by rw[eBase,hold]) λf hf=>rfl⟩,zd,?_⟩
     exact zC (by exact sK) rfl
    ·have eD:P.zjK M s X=true:=by rw[eD];exact h5
     rw[if_pos eD] at eBase
     refine sW ?_
     refine sB ?_
     refine⟨_,zT X zo zo,?_⟩
     refine sW ?_
     refine sI ?_
     refine sB ?_
     refine⟨_,zT X zo zo,?_⟩
     refine sW ?_
     refine sI ?_
     refine⟨(a+1,X2 g X (g X-1)),⟨zo,hA.next ha' hX (by rw[uC,eBase,hold]) λf hf=>WR hf⟩,zd,?_⟩
     exact zC (by exact sK) (by rw[uf (k:=X) zo];rfl)
  ·rw[h3,Bool.true_or] at eD
   rw[if_pos eD] at eBase
   refine sW ?_
   refine sB ?_
   refine⟨_,zT X zo zo,?_⟩
   refine sW ?_
   refine sI ?_
   refine sB ?_
   refine⟨_,zT X zo zo,?_⟩
   refine sW ?_
   refine sI ?_
   refine⟨(a+1,X2 g X (g X-1)),⟨zo,hA.next ha' hX (by rw[uC,eBase,hold]) λf hf=>WR hf⟩,zd,?_⟩
   exact zC (by exact sK) (by rw[uf (k:=X) zo];rfl)
 have ha':a=(P.vF s.1).length:=by have:¬a<(P.vF s.1).length:=sO
                                  omega
 subst ha'
 refine sC ho ?_
 rw[List.length_map]
 refine zL [5,8,72,73] (λ((k,g):Nat × (Nat→Int))=>[(74,.sc (.int .i64 k))]) (λ(k,g)=>[(2,.vec true 1 1 (zI (gl P.zn.length g)))]) (λ(k,g)=>k≤(P.ue s.1).length∧∀f,f<P.zn.length→g f=P.VY M s f+P.WZ s f k∧g f≤9) (λ(k,g)=>(P.ue s.1).length-k) (0,g) ?_
 refine sW ?_
 refine⟨⟨zo,λf hf=>?_⟩,by exact sK,rfl,?_⟩
 ·have b1:=za.zi2 hM s f
  rw[hA.fin hf]
  exact⟨by simp[za.WZ],b1.2⟩
 clear hA h2
 rintro⟨k,g⟩ ⟨hk,hg⟩
 refine sW ?_
 refine sR ?_
 refine sS (λh2=>?_) λh2=>?_
 ·have hk':k<(P.ue s.1).length:=sO
  have yT:=za.zpu (P:=P) (n:=s.1) hk'
  obtain⟨X,hX⟩:∃X:Nat,P.Q5 s.1 k=X:=⟨_,(Int.toNat_of_nonneg yT.1).symm⟩
  refine sL (yb (k:=k) zo hk') ?_
  rw[show(P.ue s.1).getD k 0=P.Q5 s.1 k from rfl,hX]
  rw[hX,Int.toNat_natCast] at yT
  have fd:=zkp hout.1 hout.2 (min (k:Int).toNat IntKind.i64.bits)
  refine⟨zo,?_⟩
  refine sW ?_
  have eb:(vj .and .i64 (s.2.2.fdiv (2^min (k:Int).toNat IntKind.i64.bits)) 1==1)=zs3 s.2.2 k:=by rw[zox fd.1 fd.2];rfl
  rw[eb]
  obtain⟨g1,g2⟩:=hg X zo
  have b1:=za.zi2 hM s X
  have b2:=za.zhO P s X k
  refine sS (λh3=>?_) λh3=>?_
  ·have hh:=za.zrc hX h3
   refine sB ?_
   refine⟨_,zT X zo zo,?_⟩
   refine sW ?_
   refine sI ?_
   refine sB ?_
   refine⟨_,zT X zo zo,?_⟩
   refine sW ?_
   rw[uf (k:=X) zo]
   refine sB ?_
   refine⟨_,zT X zo zo,?_⟩
   refine sW ?_
   rw[uC]
   refine sS (λh4=>?_) λh4=>?_
   ·have h4:9<g X+1:=sO
    have hm:=za.zga P s X (j:=k+1) (k:=(P.ue s.1).length) zo
    have e7:P.Zb M s=7:=by rw[eE,if_pos ⟨X,zo,by unfold za.zb0;omega⟩]
    rw[e7] at eL
    rw[e7,eL,if_neg zc]
    exact .yI _ _ (.cons _ _ _ _ (.none _) (.cons _ _ _ _ (.refl _) .nil))
   ·have h4:g X+1≤9:=sO
    refine sI ?_
    refine⟨(k+1,X2 g X (g X+1)),⟨zo,λf hf=>?_⟩,zd,zC (by exact sK) rfl⟩
    by_cases e:f=X
    ·subst e
     rw[uC,hh]
     omega
    ·rw[WR e,za.zfC (.inl (by rw[hX];omega))]
     exact hg f hf
  ·refine sI ?_
   refine⟨(k+1,g),⟨zo,λf hf=>?_⟩,zd,zC (by exact sK) rfl⟩
   rw[za.zfC (.inr h3)]
   exact hg f hf
 ·have hk':k=(P.ue s.1).length:=by have:¬k<(P.ue s.1).length:=sO
                                   omega
  subst hk'
  have e0:P.Zb M s=0:=by
   rw[eE,if_neg]
   rintro⟨f,hf,h9⟩
   have:=hg f hf
   unfold za.zb0 at h9
   omega
  rw[e0,if_pos rfl] at eL
  have e:gl P.zn.length (P.zb0 M s)=gl P.zn.length g:=vc λf hf=>(hg f hf).1.symm
  rw[e0,eL,e]
  exact .yI _ _ (.cons _ _ _ _ (J8 rfl) (.cons _ _ _ _ (.refl _) .nil))
open Classical in
noncomputable def za.Zq (P:za) (M:List Int) (k:Int):Int :=
 if P.uw M≠0 then P.uw M else if k<0∨(P.zx.length:Int)≤k then 1
 else if P.JE M (P.zx.getD k.toNat (0,0,0))=true then P.Zb M (P.zx.getD k.toNat (0,0,0)) else 9
noncomputable def za.wg (P:za) (M:List Int) (k:Int):List Int:=if P.Zq M k=0 then P.Vm M (P.zx.getD k.toNat (0,0,0)) else []
theorem zfM {P:za} {M:List Int} {s:zR} (h:P.Zb M s≠0):P.Vm M s=[]:=by
 unfold za.Vm
 split
 ·rename_i q
  exfalso
  apply h
  unfold za.Zb
  rw[if_pos q]
 ·first|rfl|rw[if_neg h]
def c122:PC:=.seq (OP [Bx 3 0,Mv 6 cN,Mv 7 (cI 0)]) (.seq (OP [LA 11 2 3,qm 12 1,Ca 13 184 [11,12],qm 10 13,Xt 14 0 10,Xt 15 1 10,qm 8 14,qm 9 15]) (.seq (.block 0 (.seq (OP [qm 17 9,Bi 18 .neq 17 (cI 0),qm 16 18]) (.cond 16 (.seq (OP [qm 19 9,Mv 6 cN,qm 7 19]) .ret) (.seq (OP [qm 21 2,Bi 22 .lss 21 (cI 0),qm 23 22,GF 24 23 (.move 2),GF 25 23 (.move 8),GF 26 23 (.len 25),GF 27 23 (.bin .geq 24 26),Pk 28 23 cT 27,qm 20 28]) (.cond 20 (.seq (OP [Mv 6 cN,Mv 7 (cI 1)]) .ret) (.seq (.ops [LA 30 2 3,qm 31 1,qm 32 8,qm 33 2,qd 34 (.zM 3 32 33) 12,qd 35 (.v7 3 34) 28,qd 36 (.call 185 [30,31,35]) 63,qd 37 (.un .not 36) 127,qw 29 37 255] true) (.cond 29 (.seq (OP [Mv 6 cN,Mv 7 (cI 9)]) .ret) .skip))))))) (.seq (.ops [LA 38 2 3,qm 39 1,qm 40 8,qm 41 2,qd 42 (.zM 3 40 41) 12,qd 43 (.v7 3 42) 28,qd 44 (.call 186 [38,39,43]) 63,qd 45 (.ext 0 44) 127,qd 46 (.ext 1 44) 127,qw 6 45 511,qw 7 46 1023] true) .ret)))
theorem zu3:zz Tryz.prog 122 47 [.tmp 6,.tmp 7] c122:=fK Tryz.func122
theorem zn5 (P:za) (hP:P.Fits) (M:List Int) (hM:M.length≤9223372036854775807) (k:Int) :
  zu Tryz.prog 122 [yQ P,zw M,.sc (.int .i64 k)] (.yI [zw (P.wg M k),.sc (.int .i64 (P.Zq M k))]):=by
 have eE:P.Zq M k=if P.uw M≠0 then P.uw M else if k<0∨(P.zx.length:Int)≤k then 1
  else if P.JE M (P.zx.getD k.toNat (0,0,0))=true then P.Zb M (P.zx.getD k.toNat (0,0,0)) else 9:=by unfold za.Zq;rfl
 have eL:P.wg M k=if P.Zq M k=0 then P.Vm M (P.zx.getD k.toNat (0,0,0)) else []:=rfl
 refine zb zu3 zs (by simp[ze,Pure,z6,zh]) ?_ (by simp[Pure,ze,zh])
 have bad:∀{H:List zf} {e:Int},e≠0→P.Zq M k=e→Deep H (.yI [.sc (.slice none 0 0),.sc (.int .i64 e)]) (.yI [zw (P.wg M k),.sc (.int .i64 (P.Zq M k))]):=λh q=>by
  rw[eL,q,if_neg h]
  exact .yI _ _ (.cons _ _ _ _ (.none _) (.cons _ _ _ _ (.refl _) .nil))
 refine sR ?_
 refine sC (zcX P hP M hM) ?_
 refine sS (λh1=>?_) λh1=>?_
 ·have h1:P.uw M≠0:=sO
  exact bad h1 (by rw[eE,if_pos h1])
 have h1:P.uw M=0:=sO
 obtain⟨hE,hB⟩:=za.zeq h1
 obtain⟨h0,_,h60⟩:=za.yH hE
 have hK:=za.wP hB
 have eN:P.U4 M=P.zx:=by unfold za.U4;rw[if_pos h1]
 rw[if_neg zo] at eE
 rw[eN]
 cases h2:decide (k<0)
 ·have h2:¬k<0:=sO
  refine sW ?_
  rw[Wr]
  refine sS (λh3=>?_) λh3=>?_
  ·exact bad zc (by rw[eE,if_pos (.inr (sO))])
  ·have h3:¬(P.zx.length:Int)≤k:=sO
   rw[if_neg zo] at eE
   have hk':k.toNat<P.zx.length:=zo
   have hsk:=za.ZD hE hk'
   refine sL (VU (k:=k.toNat) zo hk') ?_
   generalize hS:P.zx.getD k.toNat (0,0,0)=s at hsk eE eL
   refine sC (Jv P hP h0 M hK s hsk) ?_
   cases h4:P.JE M s
   ·refine sW ?_
    exact bad zc (by rw[eE,if_neg (by rw[h4];decide)])
   ·rw[if_pos h4] at eE
    refine sW ?_
    refine sL (VU (k:=k.toNat) zo hk') ?_
    rw[hS]
    refine sC (znP P hP h0 M hK s hsk) ?_
    have e:P.wg M k=P.Vm M s:=by
     rw[eL,eE]
     split
     ·rfl
     ·rename_i q;exact(zfM q).symm
    rw[eE,e]
    exact .refl _
 ·have h2:k<0:=sO
  refine sW ?_
  exact bad zc (by rw[eE,if_pos (.inl h2)])
end
section
open Go.RowKit
end
section
open Go.RowKit
end
end
section
open Go.RowKit
end
section
section
namespace za
theorem zkg {P:za} (h:P.yz=0):P.v8 P.x6=true:=by
 have e:P.x6=gl P.zn.length (zhK P):=by unfold x6;rw[if_pos h]
 unfold v8 xv
 rw[e,zhb,decide_eq_true rfl,Bool.true_and,List.all_eq_true]
 intro x hx
 unfold gl at hx
 obtain⟨i,_,rfl⟩:=List.mem_map.1 hx
 unfold zhK
 split<;>decide
theorem zuD {P:za} {M:List Int} (hM:P.Mark M) {s:zR} (hm:P.JE M s=true) (f:Nat):0≤P.zb0 M s f:=by
 have h1:=hM.pos f
 have h2:=(P.zhO s f (P.ue s.1).length).1
 unfold zb0 VY
 split
 ·rename_i hd
  unfold zjK at hd
  rw[Bool.and_eq_true,Bool.or_eq_true] at hd
  have:0<val M f:=by
   rcases hd.2 with q|q
   ·have q:s.2.1=(f:Int):=by simpa using q
    unfold JE at hm
    rw[if_pos zo,q,Int.toNat_natCast] at hm
    exact of_decide_eq_true hm
   ·rw[Bool.and_eq_true] at q
    exact of_decide_eq_true q.2
  omega
 ·omega
theorem zsI {P:za} {M:List Int} (hM:P.v8 M=true) {s:zR} (hm:P.JE M s=true) (he:P.Zb M s=0):P.v8 (P.Vm M s)=true:=by
 have hK:=wP hM
 unfold Zb at he
 unfold Vm
 by_cases h3:P.kind s.1.toNat=3
 ·rw[if_pos h3]
  unfold v8 xv
  rw[zhb,decide_eq_true rfl,Bool.true_and,List.all_eq_true]
  intro x hx
  unfold gl at hx
  obtain⟨i,_,rfl⟩:=List.mem_map.1 hx
  decide
 ·rw[if_neg h3] at he
  split at he
  ·cases he
  ·rename_i hno
   have he':P.Zb M s=0:=by unfold Zb;rw[if_neg h3,if_neg hno]
   rw[if_neg h3,if_pos he']
   unfold v8 xv
   rw[zhb,decide_eq_true rfl,Bool.true_and,List.all_eq_true]
   intro x hx
   unfold gl at hx
   obtain⟨i,hi,rfl⟩:=List.mem_map.1 hx
   have h4:=zuD hK hm i
   have h5:¬9<P.zb0 M s i:=λq=>hno ⟨i,List.mem_range.1 hi,q⟩
   rw[Bool.and_eq_true,decide_eq_true_eq,decide_eq_true_eq]
   omega
end za
end
section
open Go.RowKit
def vL (L:List (List Int)):List (List D):=L.map λl=>[zw l]
theorem Xg (L:List (List Int)):yv (vL L):=zB _ (λl=>by simp[ze,zh]) L
@[simp] theorem zrM {m:Nat} (L:List (List Int)):zD m (vL L)↔True:=⟨λ_=>trivial,λ_=>zg _ (Xg L)⟩
@[simp] theorem zyQ (L:List (List Int)):(vL L).length=L.length:=by simp[vL]
theorem Qy {L:List (List Int)} {c:Nat} {x:List Int} (h:c=L.length):List.drop 0 (List.take c (vL L))++[[zw x]]=vL (L++[x]):=by
 subst h
 rw[zr zs]
 simp[vL]
theorem ziH {L:List (List Int)} {z k:Nat} (hz:z=k) (h:k<L.length):(vL L)[z]? = some [zw (L.getD k [])]:=by
 unfold vL
 rw[zg9 hz h,List.getD_eq_getElem?_getD,List.getElem?_eq_getElem h]
 rfl
theorem zkq {H:List zf} {id v n:Nat} {q:Bool} {L:List (List Int)} (hn:n=L.length) (h:H[id]? = some (.vec q v 1 (vL L))):Deep H (.own id v 0 n) (z8 L):=by
 subst hn
 exact .own _ _ _ _ _ _ _ _ h (by rw[zr zs];exact zU _)
end
end
section
section
abbrev uu:=Int × Int
abbrev zy:=Int × Int
structure SpR where
 e:Int
 marks:List (List Int)
 yw:List uu
 cur:List zy
 last:uu
def zbS (marks:List (List Int)) (m:List Int):Nat:=marks.idxOf m
def zcO (m:List Int) (tok:Int):Bool:=m.any λx=>decide (x>tok)
def ZA (marks:List (List Int)) (m:List Int) (tok:Int) (st:Nat):Int:=if zcO m tok=true then 7 else if m∈marks then 0 else if marks.length=st then 8 else 0
def uW (marks:List (List Int)) (m:List Int) (tok:Int) (st:Nat):List (List Int):=if ZA marks m tok st=0∧¬m∈marks then marks++[m] else marks
def X4 (marks:List (List Int)) (yw:List uu) (m:List Int) (tok:Int) (st:Nat) (o:uu):List uu:=if ZA marks m tok st=0∧¬m∈marks then yw++[o] else yw
def XG (marks:List (List Int)) (m:List Int) (tok:Int) (st:Nat):Int:=if ZA marks m tok st=0 then (zbS (uW marks m tok st) m:Int) else 0
namespace za
noncomputable def yF (P:za) (tok:Int) (st:Nat) (n:Nat) (M:List Int):List Int→List (List Int)→List uu→List zy→uu→SpR
 | [],marks,yw,cur,last=>⟨0,marks,yw,cur,last⟩
 | k::r,marks,yw,cur,_ =>
  if P.Zq M k≠0 then ⟨P.Zq M k,marks,yw,cur,((n:Int),k)⟩
  else if ZA marks (P.wg M k) tok st≠0 then ⟨ZA marks (P.wg M k) tok st,marks,yw,cur,((n:Int),k)⟩
  else P.yF tok st n M r (uW marks (P.wg M k) tok st) (X4 marks yw (P.wg M k) tok st ((n:Int),k)) (cur++[(k,XG marks (P.wg M k) tok st)]) ((n:Int),k)
structure SpF where
 e:Int
 marks:List (List Int)
 yw:List uu
 next:List (List zy)
 last:uu
noncomputable def Zl (P:za) (tok:Int) (st:Nat):Nat→Nat→List (List Int)→List uu→List (List zy)→uu→SpF
 | 0,_,marks,yw,next,last=>⟨0,marks,yw,next,last⟩
 | f+1,n,marks,yw,next,last =>
  if n<marks.length then
   if (P.yF tok st n (marks.getD n []) (P.Yh (marks.getD n [])) marks yw [] last).e≠0 then
    ⟨(P.yF tok st n (marks.getD n []) (P.Yh (marks.getD n [])) marks yw [] last).e,(P.yF tok st n (marks.getD n []) (P.Yh (marks.getD n [])) marks yw [] last).marks,
     (P.yF tok st n (marks.getD n []) (P.Yh (marks.getD n [])) marks yw [] last).yw,next,(P.yF tok st n (marks.getD n []) (P.Yh (marks.getD n [])) marks yw [] last).last⟩
   else P.Zl tok st f (n+1) (P.yF tok st n (marks.getD n []) (P.Yh (marks.getD n [])) marks yw [] last).marks (P.yF tok st n (marks.getD n []) (P.Yh (marks.getD n [])) marks yw [] last).yw
    (next++[(P.yF tok st n (marks.getD n []) (P.Yh (marks.getD n [])) marks yw [] last).cur]) (P.yF tok st n (marks.getD n []) (P.Yh (marks.getD n [])) marks yw [] last).last
  else ⟨0,marks,yw,next,last⟩
structure Sp (P:za) (tok:Int) (st:Nat) (marks:List (List Int)) (yw:List uu):Prop where
 one:marks.Nodup
 zdb:∀m∈marks,P.v8 m=true
 room:marks.length≤st
 len:yw.length=marks.length
 back:∀i,0<i→i<yw.length→0≤(yw.getD i (0,0)).1∧(yw.getD i (0,0)).1<(i:Int)
 root:yw.length=0∨(yw.getD 0 (0,0))=(-1,-1)
theorem znN {marks:List (List Int)} {m:List Int} {tok:Int} {st:Nat} (h:ZA marks m tok st=0):zcO m tok=false∧(m∈marks∨marks.length≠st):=by
 unfold ZA at h
 split at h
 ·cases h
 ·rename_i h1
  refine⟨by simpa using h1,?_⟩
  split at h
  ·rename_i h2;exact .inl h2
  ·split at h
   ·cases h
   ·rename_i h3;exact .inr h3
theorem Sp.put {P:za} {tok:Int} {st:Nat} {marks:List (List Int)} {yw:List uu} (h:Sp P tok st marks yw) {m:List Int} (hm:P.v8 m=true) {a k:Int} (ha:0≤a) (hl:a<(marks.length:Int)):Sp P tok st (uW marks m tok st) (X4 marks yw m tok st (a,k)):=by
 unfold uW X4
 split
 ·rename_i q
  obtain⟨q1,q2⟩:=q
  have h3:=(znN q1).2.resolve_left q2
  have hr:=h.room
  have hlen:=h.len
  refine⟨?_,?_,by simp;omega,by simp[hlen],?_,?_⟩
  ·rw[List.nodup_append]
   refine⟨h.one,zs,λx hx y hy=>?_⟩
   rw[List.mem_singleton] at hy
   subst hy
   intro e;subst e;exact q2 hx
  ·intro x hx
   rcases List.mem_append.1 hx with hx|hx
   ·exact h.zdb x hx
   ·rw[List.mem_singleton] at hx;subst hx;exact hm
  ·intro i hi hil
   rw[List.length_append,List.length_singleton] at hil
   by_cases e:i=yw.length
   ·subst e
    rw[List.getD_eq_getElem?_getD,List.getElem?_append_right (Nat.le_refl _),Nat.sub_self]
    simp
    omega
   ·have:=h.back i hi zo
    rw[List.getD_eq_getElem?_getD,List.getElem?_append_left zo,←List.getD_eq_getElem?_getD]
    exact this
  ·right
   rcases h.root with q|q
   ·omega
   ·rw[List.getD_eq_getElem?_getD,List.getElem?_append_left zo,←List.getD_eq_getElem?_getD]
    exact q
 ·exact h
theorem zd5 {marks:List (List Int)} {m:List Int} {tok:Int} {st:Nat}:marks.length≤(uW marks m tok st).length:=by
 unfold uW;split<;>simp
theorem ziC {marks:List (List Int)} {m:List Int} {tok:Int} {st:Nat} {i:Nat} (h:i<marks.length):(uW marks m tok st).getD i []=marks.getD i []:=by
 unfold uW
 split
 ·rw[List.getD_eq_getElem?_getD,List.getElem?_append_left h,←List.getD_eq_getElem?_getD]
 ·rfl
theorem zri {marks:List (List Int)} {m:List Int} {tok:Int} {st:Nat} (h:ZA marks m tok st=0):m∈uW marks m tok st:=by
 unfold uW
 split
 ·simp
 ·rename_i q
  by_cases e:m∈marks
  ·exact e
  ·exact absurd ⟨h,e⟩ q
theorem ZB {l:List (List Int)} {k:Nat} (h:k<l.length):l.getD k []∈l:=by
 rw[List.getD_eq_getElem?_getD,List.getElem?_eq_getElem h];exact List.getElem_mem h
theorem zef {P:za} {M:List Int} {k:Int} (h:k∈P.Yh M):P.uw M=0∧0≤k∧k.toNat<P.zx.length∧P.JE M (P.zx.getD k.toNat (0,0,0))=true:=by
 unfold Yh at h
 split at h
 ·rename_i he
  refine⟨he,?_⟩
  have key:∀n,n≤P.zx.length→k∈P.Xa M P.zx n→0≤k∧k.toNat<n∧P.JE M (P.zx.getD k.toNat (0,0,0))=true:=by
   intro n
   induction n with
   | zero=>intro _ h;simp[Xa] at h
   | succ n ih =>
    intro hn h
    simp only[Xa] at h
    split at h
    ·rename_i hm
     rcases List.mem_append.1 h with h|h
     ·obtain⟨h1,h2,h3⟩:=ih zo h
      exact⟨h1,zo,h3⟩
     ·rw[List.mem_singleton] at h;subst h
      refine⟨zo,zs,?_⟩
      simpa using hm
    ·obtain⟨h1,h2,h3⟩:=ih zo h
     exact⟨h1,zo,h3⟩
  obtain⟨h1,h2,h3⟩:=key _ (Nat.le_refl _) h
  exact⟨h1,h2,h3⟩
 ·simp at h
theorem zsY {P:za} {M:List Int} {k:Int} (h:k∈P.Yh M):P.Zq M k=P.Zb M (P.zx.getD k.toNat (0,0,0))∧P.wg M k=P.Vm M (P.zx.getD k.toNat (0,0,0)):=by
 obtain⟨h1,h2,h3,h4⟩:=zef h
 have e:P.Zq M k=P.Zb M (P.zx.getD k.toNat (0,0,0)):=by
  unfold Zq
  rw[if_neg zo,if_neg zo,if_pos h4]
 refine⟨e,?_⟩
 unfold wg
 rw[e]
 split
 ·rfl
 ·rename_i q;exact(zfM q).symm
theorem zgs {P:za} {M:List Int} (hM:P.v8 M=true) {k:Int} (h:k∈P.Yh M) (he:P.Zq M k=0):P.v8 (P.wg M k)=true:=by
 obtain⟨e1,e2⟩:=zsY h
 rw[e2]
 exact zsI hM (zef h).2.2.2 (by rw[←e1];exact he)
theorem zl5 (P:za) (M:List Int):(P.Yh M).length≤P.zx.length:=by
 unfold Yh
 split
 ·exact P.zgl M _ _
 ·simp
end za
end
section
open Go.RowKit
theorem zoA {P:Program} {k e:TypeId} {q:IntKind} {n:Nat} (hsz:0<P.types.size) (hk:P.keyType k=true) (hu:P.underlying k=some (.array n e)) (he:P.underlying e=some (.int q)) (hce:P.cellsOf e=1) (hck:P.cellsOf k=n) (vs:List Int) (hl:vs.length=n) (hw:∀x∈vs,(Lit.int q x).wf=true) :
  ∃l,keyOf P k (.agg (vs.map (Value.int q)).toArray)=some l:=by
 obtain⟨d,hd⟩:∃d,P.types.size=d+1:=⟨P.types.size-1,zo⟩
 have key:∀is:List Nat,(∀i∈is,i<n)→∃r,(is.mapM λi=>P.keyLits (d+1) e (((vs.map (Value.int q)).drop (i*P.cellsOf e)).take (P.cellsOf e)))=some r:=by
  intro is
  induction is with
  | nil=>intro _;exact⟨[],rfl⟩
  | cons i is ih =>
   intro h
   obtain⟨r,hr⟩:=ih λj hj=>h j (by simp[hj])
   have hi:=h i zs
   have e1:((vs.map (Value.int q)).drop (i*P.cellsOf e)).take (P.cellsOf e)=[.int q (vs[i]'zo)]:=by
    rw[hce,Nat.mul_one,List.drop_eq_getElem_cons (by simp;omega)]
    simp
   refine⟨[.int q (vs[i]'zo)]::r,?_⟩
   rw[List.mapM_cons,hr,e1]
   simp only[Program.keyLits,he]
   rw[if_pos ⟨trivial,hw _ (List.getElem_mem _)⟩]
   rfl
 obtain⟨r,hr⟩:=key (List.range n) λi hi=>List.mem_range.1 hi
 unfold keyOf
 rw[hu]
 simp only[hk,Value.formed,hu,hck,Bool.true_and]
 rw[if_pos (by simp[hl]),hd]
 show ∃l,(P.keyLits (d+1+1) k (vs.map (Value.int q)).toArray.toList).map _=some l
 rw[Program.keyLits]
 simp only[hu]
 rw[if_pos (by simp[hl,hck]),hr]
 ·exact⟨_,rfl⟩
 ·exact hu
def ze1 (m:List Int):List Int:=(List.range 30).map λi=>m.getD i 0
def zkx (m:List Int):List D:=(ze1 m).map λx=>.sc (.int .i8 x)
def XC (m:List Int):Value:=.agg ((zkx m).map scV).toArray
theorem zaX (m:List Int):XC m=.agg ((ze1 m).map (Value.int .i8)).toArray:=by
 unfold XC zkx
 rw[List.map_map]
 rfl
theorem zda {m m':List Int} (hl:m.length=m'.length) (h30:m.length≤30) (h:XC m=XC m'):m=m':=by
 rw[zaX,zaX] at h
 have h:=(Value.agg.injEq _ _).mp h
 have h:=congrArg Array.toList h
 simp only[List.toList_toArray] at h
 have h:ze1 m=ze1 m':=by
  have:=congrArg (List.map λv=>match v with|Value.int _ x=>x|_=>0) h
  simpa [List.map_map,Function.comp_def] using this
 apply List.ext_getElem hl
 intro i h1 h2
 have:=congrArg (λl:List Int=>l[i]?) h
 simp only[ze1,List.getElem?_map,List.getElem?_range (show i<30 by omega),Option.map_some,Option.some.injEq] at this
 rw[List.getD_eq_getElem?_getD,List.getD_eq_getElem?_getD,List.getElem?_eq_getElem h1,List.getElem?_eq_getElem h2] at this
 exact this
noncomputable def zeT (marks:List (List Int)):Nat→Value→Option Value
 | 0=>λ_=>none
 | k+1=>QZ (zeT marks k) (XC (marks.getD k [])) (.int .i64 k)
noncomputable def fM (marks:List (List Int)):Value→Option Value:=zeT marks marks.length
theorem zkk {marks:List (List Int)} {m:List Int}:∀k,k≤marks.length→zeT (marks++[m]) k=zeT marks k
 | 0,_=>rfl
 | k+1,h=>by
  simp only[zeT]
  rw[zkk k zo,List.getD_eq_getElem?_getD,List.getElem?_append_left zo,←List.getD_eq_getElem?_getD]
theorem zvN (marks:List (List Int)) (m:List Int):fM (marks++[m])=QZ (fM marks) (XC m) (.int .i64 marks.length):=by
 unfold fM
 rw[List.length_append,List.length_singleton]
 simp only[zeT]
 rw[zkk _ (Nat.le_refl _),List.getD_eq_getElem?_getD,List.getElem?_append_right (Nat.le_refl _),Nat.sub_self]
 rfl
theorem zfD {marks:List (List Int)} {m:List Int} (hl:∀x∈marks,x.length=m.length) (h30:m.length≤30) (hm:¬m∈marks):∀k,k≤marks.length→zeT marks k (XC m)=none
 | 0,_=>rfl
 | k+1,h=>by
  simp only[zeT,QZ]
  rw[if_neg ?_,zfD hl h30 hm k zo]
  intro e
  have hk:=za.ZB (l:=marks) (k:=k) zo
  have:=zda (hl _ hk).symm h30 e
  exact hm (this▸hk)
theorem zfd {marks:List (List Int)} {m:List Int} (hl:∀x∈marks,x.length=m.length) (h30:m.length≤30) (hn:marks.Nodup) {i:Nat} (hi:i<marks.length) (hm:marks.getD i []=m):∀k,i<k→k≤marks.length→zeT marks k (XC m)=some (.int .i64 i)
 | 0,h,_=>zo
 | k+1,h,hk=>by
  simp only[zeT,QZ]
  by_cases e:i=k
  ·subst e
   rw[hm,if_pos rfl]
  ·rw[if_neg ?_,zfd hl h30 hn hi hm k zo zo]
   intro q
   have hkm:=za.ZB (l:=marks) (k:=k) zo
   have:=zda (hl _ hkm).symm h30 q
   rw[←hm,List.getD_eq_getElem?_getD,List.getD_eq_getElem?_getD,List.getElem?_eq_getElem hi,List.getElem?_eq_getElem zo] at this
   exact List.pairwise_iff_getElem.1 hn i k hi zo zo this
theorem znX {marks:List (List Int)} {m:List Int} (h:m∈marks):zbS marks m<marks.length∧marks.getD (zbS marks m) []=m:=by
 unfold zbS
 have h1:=List.idxOf_lt_length_of_mem h
 refine⟨h1,?_⟩
 rw[List.getD_eq_getElem?_getD,List.getElem?_eq_getElem h1,List.getElem_idxOf h1]
 rfl
theorem zml {marks:List (List Int)} {m:List Int} (hl:∀x∈marks,x.length=m.length) (h30:m.length≤30) (hn:marks.Nodup) (h:m∈marks):fM marks (XC m)=some (.int .i64 (zbS marks m)):=by
 obtain⟨h1,h2⟩:=znX h
 exact zfd hl h30 hn h1 h2 _ h1 (Nat.le_refl _)
theorem zs8 {marks:List (List Int)} {m:List Int} (hl:∀x∈marks,x.length=m.length) (h30:m.length≤30) (h:¬m∈marks):fM marks (XC m)=none:=zfD hl h30 h _ (Nat.le_refl _)
theorem zpA {cs:List D} {z k:Nat} {c:D} {K:List D→Prop} (hz:z=k) (h:k<cs.length) (hK:K (cs.set k c)):zaZ cs z [c] K:=by
 subst hz
 refine(We _ _ _ _).2 ⟨by simp;omega,?_⟩
 rw[List.set_eq_take_append_cons_drop,if_pos h] at hK
 rw[List.length_singleton,List.append_assoc,List.singleton_append]
 exact hK
def WM (a b:Int):List D:=[.sc (.int .i64 a),.sc (.int .i64 b)]
def x9 (l:List (Int × Int)):List (List D):=l.map λo=>WM o.1 o.2
def w8 (l:List (Int × Int)):D:=.xj 2 (x9 l)
def vG (L:List (List zy)):List (List D):=L.map λl=>[w8 l]
@[simp] theorem wZ (l:List (Int × Int)):(x9 l).length=l.length:=by simp[x9]
@[simp] theorem Uq (l:List (List zy)):(vG l).length=l.length:=by simp[vG]
theorem Ya (l:List (Int × Int)):yv (x9 l):=zB _ (λl=>by simp[WM,ze,Pure]) l
theorem vB (l:List (Int × Int)):Pure (w8 l):=by simp only[w8,Pure];exact Ya l
theorem qi (l:List (List zy)):yv (vG l):=zB _ (λl=>by simp[ze,vB]) l
@[simp] theorem zrx {m:Nat} (l:List (Int × Int)):zD m (x9 l)↔True:=⟨λ_=>trivial,λ_=>zg _ (Ya l)⟩
@[simp] theorem zrP {m:Nat} (l:List (List zy)):zD m (vG l)↔True:=⟨λ_=>trivial,λ_=>zg _ (qi l)⟩
@[simp] theorem zrQ {m:Nat} (l:List (Int × Int)):zp m (w8 l)↔True:=⟨λ_=>trivial,λ_=>zq _ (vB l)⟩
theorem wC {l:List (Int × Int)} {z k:Nat} (hz:z=k) (h:k<l.length):(x9 l)[z]? = some (WM (l.getD k (0,0)).1 (l.getD k (0,0)).2):=by
 subst hz
 unfold x9
 rw[List.getElem?_map,List.getElem?_eq_getElem h,List.getD_eq_getElem?_getD,List.getElem?_eq_getElem h]
 rfl
theorem XL {l:List (Int × Int)} {c:Nat} {a b:Int} (h:c=l.length):List.drop 0 (List.take c (x9 l))++[WM a b]=x9 (l++[(a,b)]):=by
 subst h
 rw[zr zs]
 simp[x9]
theorem zk4 {L:List (List zy)} {c:Nat} {l:List zy} (h:c=L.length):List.drop 0 (List.take c (vG L))++[[w8 l]]=vG (L++[l]):=by
 subst h
 rw[zr zs]
 simp[vG]
def zeb (P:za) (tok:Int) (st n no nn:Nat) (last:uu):List D:=[.xj 2 (P.nodes.map vX),.xj 2 (P.zn.map YO),.sc (.int .i64 tok),.sc (.int .i64 st),.own 2 n 0 n,.own 4 nn 0 nn,.mp 0,.own 3 no 0 no,.sc (.int .i64 last.1),.sc (.int .i64 last.2)]
noncomputable def uX (P:za) (tok:Int) (st:Nat) (marks:List (List Int)) (yw:List uu) (next:List (List zy)) (last:uu):List zf :=
 [.xL true (uA Tryz.prog 215 (fM marks)),.row true (zeb P tok st marks.length yw.length next.length last),.vec true marks.length 1 (vL marks),.vec true yw.length 2 (x9 yw),.vec true next.length 1 (vG next)]
theorem zrz:laidOutB Tryz.prog=true:=by kernel_rfl
theorem zpK:Maps.Keyed Tryz.prog 215:=Maps.Keyed.of_law (deep_law_laid zrz (m:=2) zo (of_decide_eq_true (by kernel_rfl)) (by kernel_rfl) (by rw[Tryz.underlying215]))
def zx0:PC:=.seq (OP [Bi 9 .lss 8 7]) (.seq (.cond 9 .skip (.exit 0)) (.seq (.block 1 (.seq (OP [qm 10 8,Ia 11 1 6 8,Lo 12 11,qm 4 10,qm 5 12]) (OP [qm 13 4,qm 14 5,q 15 (.conv .i8 14),q 16 (.zlX 30 1 3 13),So 1 16 15]))) (OP [Bi 17 .add 8 (cI 1),qm 8 17])))
def c120:PC:=.seq (OP [q 2 (.alloc [(.int .i8 0),(.int .i8 0),(.int .i8 0),(.int .i8 0),(.int .i8 0),(.int .i8 0),(.int .i8 0),(.int .i8 0),(.int .i8 0),(.int .i8 0),(.int .i8 0),(.int .i8 0),(.int .i8 0),(.int .i8 0),(.int .i8 0),(.int .i8 0),(.int .i8 0),(.int .i8 0),(.int .i8 0),(.int .i8 0),(.int .i8 0),(.int .i8 0),(.int .i8 0),(.int .i8 0),(.int .i8 0),(.int .i8 0),(.int .i8 0),(.int .i8 0),(.int .i8 0),(.int .i8 0)])]) (.seq (OP [q 3 (.alloc [(.int .i8 0),(.int .i8 0),(.int .i8 0),(.int .i8 0),(.int .i8 0),(.int .i8 0),(.int .i8 0),(.int .i8 0),(.int .i8 0),(.int .i8 0),(.int .i8 0),(.int .i8 0),(.int .i8 0),(.int .i8 0),(.int .i8 0),(.int .i8 0),(.int .i8 0),(.int .i8 0),(.int .i8 0),(.int .i8 0),(.int .i8 0),(.int .i8 0),(.int .i8 0),(.int .i8 0),(.int .i8 0),(.int .i8 0),(.int .i8 0),(.int .i8 0),(.int .i8 0),(.int .i8 0)])]) (.seq (.seq (OP [qm 6 0,Ln 7 6,Mv 8 (cI 0)]) (.block 0 (.loop zx0))) (.seq (OP [LA 18 30 3,So 30 2 18]) .ret)))
theorem ztg:zz Tryz.prog 120 19 [.agg 2 30] c120:=fK Tryz.func120
def c119:PC:=.seq (OP [Mv 3 cF]) (.seq (OP [qm 4 0,Lo 5 1,q 6 (.zm 5),Fa 7 2 6,Lo 8 7,Bi 9 .gtr 4 8,qm 3 9]) .ret)
theorem zue:zz Tryz.prog 119 10 [.tmp 3] c119:=fK Tryz.func119
def zbA (m:List Int) (k:Nat):List D:=(List.range 30).map λi=>.sc (.int .i8 (if i<k then m.getD i 0 else 0))
theorem zog {m:List Int} {k:Nat}:(zbA m k).set k (.sc (.int .i8 (m.getD k 0)))=zbA m (k+1):=by
 unfold zbA
 apply List.ext_getElem?
 intro i
 rw[List.getElem?_set]
 by_cases hi:i<30
 ·by_cases e:k=i
  ·subst e
   simp[hi]
  ·rw[if_neg e]
   simp only[List.getElem?_map,List.getElem?_range hi,Option.map_some]
   by_cases q:i<k
   ·rw[if_pos q,if_pos zo]
   ·rw[if_neg q,if_neg zo]
 ·rw[List.getElem?_eq_none (l:=(List.range 30).map _) (by simp;omega),List.getElem?_eq_none (l:=(List.range 30).map _) (by simp;omega)]
  split
  ·simp;omega
  ·rfl
theorem znf (m:List Int):zbA m m.length=zkx m:=by
 unfold zbA zkx ze1
 rw[List.map_map]
 refine List.map_congr_left λi _=>?_
 by_cases h:i<m.length
 ·simp[h]
 ·simp[h,List.getD_eq_getElem?_getD,List.getElem?_eq_none (Nat.le_of_not_lt h)]
theorem zbI (m:List Int) (hl:m.length≤30) (hm:∀x∈m,0≤x∧x≤127):zu Tryz.prog 120 [zw m] (.agg (zkx m)):=by
 refine zb ztg zs (by simp[ze,Pure,zh]) ?_ (by simp only[Pure,zkx];generalize ze1 m=l;induction l with|nil=>simp[ze]|cons x r ih=>simpa [ze,Pure] using ih)
 refine sR ?_
 rw[List.length_map]
 refine zL [2,3,6,7] (λk:Nat=>[(8,.sc (.int .i64 k))]) (λk=>[(1,.row true (zbA m k))]) (λk=>k≤m.length) (λk=>m.length-k) 0 ?_
 refine sW ?_
 refine⟨zo,by exact sK,rfl,?_⟩
 rintro k hk
 refine sW ?_
 refine sR ?_
 refine sS (λh1=>?_) λh1=>?_
 ·have hk':k<m.length:=sO
  refine sL (yb (l:=m) (k:=k) zo hk') ?_
  have hx:=hm _ (yr hk')
  have hwr:InR .i8 (m.getD k 0):=by
   unfold InR
   generalize m.getD k 0=x at hx
   simp[IntKind.wrap,IntKind.bits,IntKind.signed]
   omega
  refine .inl ⟨hwr,?_⟩
  refine sW ?_
  refine⟨zo,zo,?_⟩
  refine sW ?_
  refine zpA (k:=k) zo (by simp[zbA];omega) ?_
  refine sW ?_
  refine sI ?_
  refine⟨k+1,zo,zd,?_⟩
  refine zC (by exact sK) ?_
  rw[zog]
  rfl
 ·have hk':k=m.length:=by have:¬k<m.length:=sO
                          omega
  refine yu ?_
  show D.agg (zbA m k)=D.agg (zkx m)
  rw[hk',znf]
theorem zlo (m:List Int) (hm:∀x∈m,0≤x∧x≤127):∃l,keyOf Tryz.prog 215 (XC m)=some l:=by
 rw[zaX]
 refine zoA (of_decide_eq_true (by kernel_rfl)) (by kernel_rfl) Tryz.underlying215 Tryz.underlying213 (by kernel_rfl) (by kernel_rfl) (ze1 m) (by simp[ze1]) λx hx=>?_
 unfold ze1 at hx
 obtain⟨i,_,rfl⟩:=List.mem_map.1 hx
 have:0≤m.getD i 0∧m.getD i 0≤127:=by
  by_cases h:i<m.length
  ·exact hm _ (yr h)
  ·rw[List.getD_eq_getElem?_getD,List.getElem?_eq_none zo];simp
 simp only[Lit.wf,Bool.and_eq_true,decide_eq_true_eq]
 have h1:IntKind.min .i8=-128:=zc
 have h2:IntKind.max .i8=127:=zc
 omega
theorem zlp (x tok:Int):zu Tryz.prog 119 [.sc (.int .i64 x),.xk [.xk [.xt,.xt,.sc (.int .i64 tok),.xt,.xt,.xt,.xt,.xt,.xt,.xt]]] (.sc (.bool (decide (x>tok)))):=by
 refine zb zue zs (by simp[ze,Pure]) ?_ (by simp[Pure])
 refine sR ?_
 exact .refl _
def c59:PC:=.seq (OP [Bx 3 0,Bx 5 2,Mv 6 (cI 0),Mv 7 (cI 0)]) (.seq (OP [Lo 11 3,LA 12 2 5,q 13 (.zm 11),Fa 14 8 13,So 2 14 12]) (.seq (.seq (OP [qm 15 1,q 16 (.ZP (.func 119) [] [3]),Ca 17 27 [15,16]]) (.cond 17 (.seq (OP [Mv 6 (cI 0),Mv 7 (cI 7)]) .ret) .skip)) (.seq (.seq (.ops [Lo 19 3,qd 20 (.zm 19) 1,qd 21 (.zv 6 20) 3,qd 22 (.zi 21) 7,qm 23 1,qd 24 (.call 120 [23]) 16,qd 25 (.look 215 (.int .i64 0) 22 24) 63,qw 18 25 127,qd 26 (.ext 0 18) 255,qd 27 (.ext 1 18) 255,qw 8 26 511,qw 9 27 2047] true) (.seq (OP [qm 28 9]) (.cond 28 (.seq (OP [qm 29 8,qm 6 29,Mv 7 (cI 0)]) .ret) .skip))) (.seq (OP [Lo 30 3,q 31 (.zm 30),Fa 32 4 31,Fa 33 0 32,Lo 34 33,Ln 35 34,qm 10 35]) (.seq (.seq (OP [qm 36 10,Lo 37 3,q 38 (.zm 37),Fa 39 3 38,Lo 40 39,Bi 41 .eql 36 40]) (.cond 41 (.seq (OP [Mv 6 (cI 0),Mv 7 (cI 8)]) .ret) .skip)) (.seq (.ops [Lo 42 3,qd 43 (.zm 42) 1,qd 44 (.zv 6 43) 3,qd 45 (.zi 44) 7,qm 46 1,qd 47 (.call 120 [46]) 16,qm 48 10,qk (.zkm 215 45 47 48) 127] true) (.seq (.ops [Lo 49 3,Lo 50 3,qd 51 (.zm 50) 2,qd 52 (.zv 4 51) 6,qd 53 (.zv 0 52) 14,qd 54 (.zi 53) 30,qm 55 1,qd 56 (.wh 1 1 [55]) 64,qd 57 (.append 1 24 54 56) 254,qd 58 (.zm 49) 511,qd 59 (.zv 4 58) 1023,qd 60 (.zv 0 59) 2047,qk (.store 1 60 57) 4095] true) (.seq (.ops [Lo 61 3,Lo 62 3,qd 63 (.zm 62) 2,qd 64 (.zv 7 63) 6,qd 65 (.zi 64) 14,LA 66 2 5,qd 67 (.wh 2 1 [66]) 32,qd 68 (.append 2 16 65 67) 126,qd 69 (.zm 61) 255,qd 70 (.zv 7 69) 511,qk (.store 1 70 68) 1023] true) (.seq (OP [qm 71 10,qm 6 71,Mv 7 (cI 0)]) .ret)))))))))
theorem zyC:zz Tryz.prog 59 72 [.tmp 6,.tmp 7] c59:=fK Tryz.func59
theorem zqZ (m:List Int) (tok:Int):(m.any λx=>decide (x>tok))=zcO m tok:=rfl
theorem zby (P:za) (tok:Int) (st:Nat) (hst:st≤200) (marks:List (List Int)) (yw:List uu) (next:List (List zy)) (last:uu) (hS:za.Sp P tok st marks yw) (h30:P.zn.length≤30) (m:List Int) (hm:P.v8 m=true) (o:uu) :
  yB Tryz.prog 59 [.loc 1 0,zw m,.agg (WM o.1 o.2)] (uX P tok st marks yw next last) (.yI [.sc (.int .i64 (XG marks m tok st)),.sc (.int .i64 (ZA marks m tok st))]) (uX P tok st (uW marks m tok st) (X4 marks yw m tok st o) next o):=by
 have hM:=za.wP hm
 have hml:=hM.len
 have hpos:∀x∈m,0≤x∧x≤9:=λx hx=>by
  unfold za.v8 at hm
  rw[Bool.and_eq_true] at hm
  have:=ye hm.2 hx
  omega
 have hlen:∀x∈marks,x.length=m.length:=λx hx=>by rw[(za.wP (hS.zdb x hx)).len,hml]
 have hr:=hS.room
 have hol:=hS.len
 refine yp zyC zs (by simp[uX]) ?_ (by simp[zp,zl]) (by
  intro x hx
  simp only[uX,List.mem_cons,List.not_mem_nil,or_false] at hx
  rcases hx with rfl|rfl|rfl|rfl|rfl<;>simp[zf.under,zeb,zl,zp,uX])
 unfold uX zeb WM
 refine sR ?_
 refine .inr (.inl ⟨_,_,.cons _ _ _ _ (.refl _) (.cons _ _ _ _ (.fn _ _ _ _ _ .nil (.cons _ _ _ _ (.loc _ _ _ _ _ rfl (.cons _ _ _ _ (.loc _ _ _ _ _ rfl (.cons _ _ _ _ (.xt _) (.cons _ _ _ _ (.xt _) (.cons _ _ _ _ (.refl _) (.cons _ _ _ _ (.xt _) (.cons _ _ _ _ (.xt _) (.cons _ _ _ _ (.xt _) (.cons _ _ _ _ (.xt _) (.cons _ _ _ _ (.xt _) (.cons _ _ _ _ (.xt _) (.cons _ _ _ _ (.xt _) .nil))))))))))) .nil)) .nil)) .nil),
  xa (λn=>.sc (.int .i64 n)) (λa=>by simp[Pure]) m zo (λx=>decide (x>tok)) 119 [.xk [.xk [.xt,.xt,.sc (.int .i64 tok),.xt,.xt,.xt,.xt,.xt,.xt,.xt]]] (by simp[ze,Pure]) (λa _=>zlp a tok),rfl,?_⟩)
 rw[zqZ]
 have eE:ZA marks m tok st=if zcO m tok=true then 7 else if m∈marks then 0 else if marks.length=st then 8 else 0:=rfl
 refine sW ?_
 have hn0:∀v,ZA marks m tok st=v→v≠0→uW marks m tok st=marks∧X4 marks yw m tok st o=yw∧XG marks m tok st=0:=λv h1 h2=>by
  unfold uW X4 XG
  rw[h1,if_neg λq=>h2 q.1,if_neg λq=>h2 q.1,if_neg h2]
  exact⟨rfl,rfl,rfl⟩
 cases h1:zcO m tok
 ·refine sW ?_
  refine sC (zbI m zo (λx hx=>by have:=hpos x hx;omega)) ?_
  have hkey:=zlo m (λx hx=>by have:=hpos x hx;omega)
  refine⟨fM marks,rfl,zpK,hkey,λv hv=>?_,λhv=>?_⟩
  ·refine sW ?_
   by_cases h2:m∈marks
   ·have hs:=zml hlen zo hS.one h2
    have hv':some v=some (Value.int .i64 (zbS marks m)):=hv.symm.trans hs
    cases hv'
    have e0:ZA marks m tok st=0:=by rw[eE,h1,if_neg zs,if_pos h2]
    have eM:uW marks m tok st=marks:=by unfold uW;rw[if_neg λq=>q.2 h2]
    have eG:X4 marks yw m tok st o=yw:=by unfold X4;rw[if_neg λq=>q.2 h2]
    have eI:XG marks m tok st=(zbS marks m:Int):=by unfold XG;rw[if_pos e0,eM]
    rw[eM,eG,eI,e0]
    exact⟨rfl,rfl,zs⟩
   ·exfalso
    have:=zs8 hlen zo h2
    have hv':some v=none:=hv.symm.trans this
    cases hv'
  ·refine sW ?_
   have h2:¬m∈marks:=λh2=>by
    have hs:=zml hlen zo hS.one h2
    have hv':(none:Option Value)=some (Value.int .i64 (zbS marks m)):=hv.symm.trans hs
    cases hv'
   refine sS (λh3=>?_) λh3=>?_
   ·have h3:marks.length=st:=sO
    have e8:ZA marks m tok st=8:=by rw[eE,h1,if_neg zs,if_neg h2,if_pos h3]
    obtain⟨eM,eG,eI⟩:=hn0 8 e8 zc
    rw[eM,eG,eI,e8]
    exact⟨rfl,rfl,zs⟩
   ·have h3:marks.length≠st:=sO
    have e0:ZA marks m tok st=0:=by rw[eE,h1,if_neg zs,if_neg h2,if_neg h3]
    have eM:uW marks m tok st=marks++[m]:=by unfold uW;rw[if_pos ⟨e0,h2⟩]
    have eG:X4 marks yw m tok st o=yw++[o]:=by unfold X4;rw[if_pos ⟨e0,h2⟩]
    have eI:XG marks m tok st=(marks.length:Int):=by
     unfold XG
     rw[if_pos e0,eM]
     congr 1
     unfold zbS
     rw[List.idxOf_append,if_neg h2]
     simp
    refine sC (zbI m zo (λx hx=>by have:=hpos x hx;omega)) ?_
    refine⟨fM marks,rfl,zpK,hkey,hv,?_⟩
    refine sW ?_
    refine sJ ?_
    refine sJ ?_
    rw[eM,eG,eI,e0]
    refine⟨rfl,?_,zs⟩
    rw[zvN,List.length_append,List.length_append,List.length_singleton,List.length_singleton]
    have g1:=Qy (L:=marks) (c:=marks.length) (x:=m) rfl
    have g2:=XL (l:=yw) (c:=yw.length) (a:=o.1) (b:=o.2) rfl
    rw[←g1,←g2]
    rfl
 ·have e7:ZA marks m tok st=7:=by rw[eE,if_pos h1]
  obtain⟨eM,eG,eI⟩:=hn0 7 e7 zc
  refine sW ?_
  rw[eM,eG,eI,e7]
  exact⟨rfl,rfl,zs⟩
end
section
open Go.RowKit
def zh6 (R:SpR):List zy:=if R.e=0 then R.cur else []
namespace za
theorem qC {P:za} {tok:Int} {st n:Nat} {M:List Int} {k:Int} {r:List Int} {marks:List (List Int)} {yw:List uu} {cur:List zy} {last:uu} :
  P.yF tok st n M (k::r) marks yw cur last=if P.Zq M k≠0 then ⟨P.Zq M k,marks,yw,cur,((n:Int),k)⟩
  else if ZA marks (P.wg M k) tok st≠0 then ⟨ZA marks (P.wg M k) tok st,marks,yw,cur,((n:Int),k)⟩
  else P.yF tok st n M r (uW marks (P.wg M k) tok st) (X4 marks yw (P.wg M k) tok st ((n:Int),k)) (cur++[(k,XG marks (P.wg M k) tok st)]) ((n:Int),k):=rfl
theorem zkS {l:List Int} {k:Nat} (h:k<l.length):l.drop k=l.getD k 0::l.drop (k+1):=by
 rw[List.drop_eq_getElem_cons h,List.getD_eq_getElem?_getD,List.getElem?_eq_getElem h]
 rfl
end za
theorem Vw {P:za} {tok:Int} {st:Nat} {marks:List (List Int)} {yw:List uu} {next:List (List zy)} {last:uu}:wq 5 (uX P tok st marks yw next last):=by
 simp[uX,wq,zf.under,zeb,zl,zp]
theorem Uf {P:za} {tok:Int} {st:Nat} {marks:List (List Int)} {yw:List uu} {next:List (List zy)} {last:uu} {G R:List zf}:XZ 5 G (uX P tok st marks yw next last++R) (uX P tok st marks yw next last) :=
 yN _ _ λo ho=>qg Vw o ho
def zzQ:PC:=.seq (OP [Bi 33 .lss 32 31]) (.seq (.cond 33 .skip (.exit 0)) (.seq (.block 1 (.seq (OP [Ia 34 1 30 32,Lo 35 34,qm 10 35]) (.seq (OP [qm 36 0,qm 37 1,qm 38 10,q 39 (.build [(.int .i64 0),(.int .i64 0)] [(0,1,37),(1,1,38)]),q 40 (.zm 36),Fa 41 8 40,So 2 41 39]) (.seq (.ops [qm 43 0,qd 44 (.zm 43) 1,qd 45 (.zv 0 44) 3,qd 46 (.v7 2 45) 7,qm 47 0,qd 48 (.zm 47) 16,qd 49 (.zv 4 48) 48,qd 50 (.zv 0 49) 112,qd 51 (.zi 50) 240,qm 52 1,qd 53 (.zM 1 51 52) 1008,qd 54 (.zi 53) 2032,qm 55 10,qd 56 (.call 122 [46,54,55]) 8191,qw 42 56 16383,qd 57 (.ext 0 42) 32767,qd 58 (.ext 1 42) 32767,qw 11 57 65535,qw 12 58 262143] true) (.seq (.seq (OP [qm 59 12,Bi 60 .neq 59 (cI 0)]) (.cond 60 (.seq (OP [qm 61 12,Mv 4 cN,qm 5 61]) .ret) .skip)) (.seq (OP [qm 63 0,qm 64 11,qm 65 1,qm 66 10,q 67 (.build [(.int .i64 0),(.int .i64 0)] [(0,1,65),(1,1,66)]),Ca 68 59 [63,64,67],qm 62 68,Xt 69 0 62,Xt 70 1 62,qm 13 69,qm 12 70]) (.seq (.seq (OP [qm 71 12,Bi 72 .neq 71 (cI 0)]) (.cond 72 (.seq (OP [qm 73 12,Mv 4 cN,qm 5 73]) .ret) .skip)) (OP [qm 74 6,qm 75 10,qm 76 13,q 77 (.build [(.int .i64 0),(.int .i64 0)] [(0,1,75),(1,1,76)]),Bs 78 2 1 [77],Ap 79 2 16 74 78,qm 6 79])))))))) (OP [Bi 80 .add 32 (cI 1),qm 32 80])))
def c60:PC:=.seq (OP [Mv 4 cN,Mv 5 (cI 0)]) (.seq (OP [Mv 6 cN]) (.seq (.ops [qm 15 0,qd 16 (.zm 15) 1,qd 17 (.zv 0 16) 3,qd 18 (.v7 2 17) 7,qm 19 0,qd 20 (.zm 19) 16,qd 21 (.zv 4 20) 48,qd 22 (.zv 0 21) 112,qd 23 (.zi 22) 240,qm 24 1,qd 25 (.zM 1 23 24) 1008,qd 26 (.zi 25) 2032,qd 27 (.call 121 [18,26]) 4095,qw 14 27 8191,qd 28 (.ext 0 14) 16383,qd 29 (.ext 1 14) 16383,qw 7 28 32767,qw 8 29 131071] true) (.seq (.seq (OP [qm 30 7,Ln 31 30,Mv 32 (cI 0)]) (.block 0 (.loop zzQ))) (.seq (OP [qm 81 6,qm 4 81,Mv 5 (cI 0)]) .ret))))
theorem zws:zz Tryz.prog 60 82 [.tmp 4,.tmp 5] c60:=fK Tryz.func60
theorem zjq (P:za) (hP:P.Fits) (h1:P.yz=0) (tok:Int) (st:Nat) (hst:st≤200) (marks:List (List Int)) (yw:List uu) (next:List (List zy)) (last:uu) (hS:za.Sp P tok st marks yw) (n:Nat) (hn:n<marks.length) :
  yB Tryz.prog 60 [.loc 1 0,.sc (.int .i64 n)] (uX P tok st marks yw next last)
   (.yI [w8 (zh6 (P.yF tok st n (marks.getD n []) (P.Yh (marks.getD n [])) marks yw [] last)),.sc (.int .i64 (P.yF tok st n (marks.getD n []) (P.Yh (marks.getD n [])) marks yw [] last).e)])
   (uX P tok st (P.yF tok st n (marks.getD n []) (P.Yh (marks.getD n [])) marks yw [] last).marks (P.yF tok st n (marks.getD n []) (P.Yh (marks.getD n [])) marks yw [] last).yw next (P.yF tok st n (marks.getD n []) (P.Yh (marks.getD n [])) marks yw [] last).last):=by
 obtain⟨h0,_,h60⟩:=za.yH h1
 have h30:=(yM h0).2
 have hol:=hS.len
 refine wo zws zs (by simp[uX]) ?_ (by simp[zp,zl])
 have hMg:=hS.zdb _ (za.ZB hn)
 have hr:=hS.room
 generalize hM:marks.getD n []=M at hMg
 have hML:=(za.wP hMg).len
 generalize hR:P.yF tok st n M (P.Yh M) marks yw [] last=R
 have eM:P.uw M=0:=by unfold za.uw;rw[if_neg zo,if_pos hMg]
 have hLl:=P.zl5 M
 have hLs:∀k∈P.Yh M,k∈P.Yh M:=λ_ h=>h
 generalize hL:P.Yh M=L at hR hLl
 unfold uX zeb
 refine sR ?_
 refine sB ?_
 refine⟨_,ziH (k:=n) zo hn,?_⟩
 refine sW ?_
 rw[hM]
 refine sC (zg6 P hP M zo) ?_
 rw[hL,List.length_map]
 refine zE (y8 6 2 zs rfl) ?_
 refine zZ [0,1,30,31] (λ((mk,og,cur,la,k):List (List Int) × List uu × List zy × uu × Nat)=>[(6,.own 5 cur.length 0 cur.length),(32,.sc (.int .i64 k))]) (λ(mk,og,cur,la,k)=>uX P tok st mk og next la++[.vec true cur.length 2 (x9 cur)])
  (λ(mk,og,cur,la,k)=>k≤L.length∧za.Sp P tok st mk og∧n<mk.length∧mk.getD n []=M∧cur.length=k∧P.yF tok st n M (L.drop k) mk og cur la=R) (λ(mk,og,cur,la,k)=>L.length-k) (marks,yw,[],last,0) ?_
 refine sW ?_
 refine⟨⟨zo,hS,hn,hM,rfl,hR⟩,by exact sK,rfl,?_⟩
 rintro⟨mk,og,cur,la,k⟩ ⟨hk,hS',hn',hM',hc,hF⟩
 have hr':=hS'.room
 have hol':=hS'.len
 unfold uX zeb
 refine sW ?_
 refine sR ?_
 refine sS (λh2=>?_) λh2=>?_
 ·have hk':k<L.length:=sO
  rw[za.zkS hk',za.qC] at hF
  have hxm:L.getD k 0∈P.Yh M:=by rw[hL];exact yr hk'
  refine sL (yb (l:=L) (k:=k) zo hk') ?_
  generalize L.getD k 0=x at hF hxm
  refine sB ?_
  refine⟨_,ziH (k:=n) zo hn',?_⟩
  refine sW ?_
  rw[hM']
  refine sC (zn5 P hP M zo x) ?_
  refine sS (λh3=>?_) λh3=>?_
  ·have h3:P.Zq M x≠0:=sO
   rw[if_pos h3] at hF
   subst hF
   have hcur:zh6 ⟨P.Zq M x,mk,og,cur,((n:Int),x)⟩=[]:=if_neg h3
   rw[hcur]
   exact⟨.yI _ _ (.cons _ _ _ _ (.none _) (.refl _)),Uf (P:=P) (tok:=tok) (st:=st) (marks:=mk) (yw:=og) (next:=next) (last:=((n:Int),x)) (R:=[_])⟩
  ·have h3:P.Zq M x=0:=sO
   rw[if_neg λq=>q h3] at hF
   have hmg:=za.zgs hMg hxm h3
   generalize P.wg M x=m at hF hmg
   refine sA (vf (zby P tok st hst mk og next ((n:Int),x) hS' h30 m hmg ((n:Int),x)) [.vec true cur.length 2 (x9 cur)] rfl (by simp[zl,zp,WM,uX]) Vw) ?_
   refine sS (λh4=>?_) λh4=>?_
   ·have h4:ZA mk m tok st≠0:=sO
    rw[if_pos h4] at hF
    have hM1:uW mk m tok st=mk:=by unfold uW;rw[if_neg λq=>h4 q.1]
    have hG1:X4 mk og m tok st ((n:Int),x)=og:=by unfold X4;rw[if_neg λq=>h4 q.1]
    subst hF
    have hcur:zh6 ⟨ZA mk m tok st,mk,og,cur,((n:Int),x)⟩=[]:=if_neg h4
    rw[hcur]
    refine⟨.yI _ _ (.cons _ _ _ _ (.none _) (.refl _)),?_⟩
    rw[hM1,hG1]
    exact Uf (P:=P) (tok:=tok) (st:=st) (marks:=mk) (yw:=og) (next:=next) (last:=((n:Int),x)) (R:=[_])
   ·have h4:ZA mk m tok st=0:=sO
    rw[if_neg λq=>q h4] at hF
    refine sJ ?_
    refine sI ?_
    refine⟨(uW mk m tok st,X4 mk og m tok st ((n:Int),x),cur++[(x,XG mk m tok st)],((n:Int),x),k+1),⟨zo,hS'.put hmg zo zo,Nat.lt_of_lt_of_le hn' za.zd5,by rw[za.ziC hn',hM'],by simp[hc],hF⟩,zd,?_⟩
    dsimp only
    rw[show(cur++[(x,XG mk m tok st)]).length=cur.length+1 by simp]
    refine zj 6 zs rfl sQ (sU ?_)
    exact zk (XL rfl)
 ·have hk':k=L.length:=by have:¬k<L.length:=sO
                          omega
  rw[hk',List.drop_length] at hF
  have hF':R=⟨0,mk,og,cur,la⟩:=hF.symm
  subst hF'
  have hcur:zh6 ⟨0,mk,og,cur,la⟩=cur:=if_pos rfl
  rw[hcur]
  refine⟨.yI _ _ (.cons _ _ _ _ (.own _ _ _ _ _ _ _ _ rfl rfl ?_) (.refl _)),Uf (P:=P) (tok:=tok) (st:=st) (marks:=mk) (yw:=og) (next:=next) (last:=la) (R:=[_])⟩
  rw[zr zs]
  exact .refl _
end
section
open Go.RowKit
namespace za
noncomputable def exF (P:za) (tok:Int) (st:Nat):SpF:=P.Zl tok st 201 0 [P.x6] [(-1,-1)] [] (-1,-1)
theorem Sp.nil (P:za) (tok:Int) (st:Nat):Sp P tok st [] []:=⟨zs,zs,zs,rfl,λi h1 h2=>by simp at h2,.inl rfl⟩
theorem zlM {P:za} (h:P.yz=0) {tok:Int} (ht:1≤tok):zcO P.x6 tok=false:=by
 unfold zcO x6
 rw[if_pos h,List.any_eq_false]
 intro x hx
 unfold gl at hx
 obtain⟨i,_,rfl⟩:=List.mem_map.1 hx
 unfold zhK
 split<;>simp<;>omega
theorem zoy {P:za} (h:P.yz=0) {tok:Int} (ht:1≤tok) {st:Nat} (hs:1≤st):ZA [] P.x6 tok st=0∧uW [] P.x6 tok st=[P.x6]∧X4 [] [] P.x6 tok st (-1,-1)=[(-1,-1)]:=by
 have e0:ZA [] P.x6 tok st=0:=by
  unfold ZA
  rw[zlM h ht]
  simp
  omega
 refine⟨e0,?_,?_⟩
 ·unfold uW;rw[if_pos ⟨e0,zs⟩];rfl
 ·unfold X4;rw[if_pos ⟨e0,zs⟩];rfl
theorem Sp.start {P:za} (h:P.yz=0) {tok:Int} {st:Nat} (hs:1≤st):Sp P tok st [P.x6] [(-1,-1)] :=
 ⟨zs,λm hm=>by rw[List.mem_singleton] at hm;subst hm;exact zkg h,by simpa using hs,rfl,λi h1 h2=>by simp at h2;omega,.inr rfl⟩
theorem Uv {P:za} {tok:Int} {st n:Nat} {M:List Int} (hM:P.v8 M=true):∀(L:List Int) (marks:List (List Int)) (yw:List uu) (cur:List zy) (last:uu),(∀k∈L,k∈P.Yh M)→Sp P tok st marks yw→n<marks.length →
  Sp P tok st (P.yF tok st n M L marks yw cur last).marks (P.yF tok st n M L marks yw cur last).yw∧marks.length≤(P.yF tok st n M L marks yw cur last).marks.length ∧
   (∀i,i<marks.length→(P.yF tok st n M L marks yw cur last).marks.getD i []=marks.getD i [])
 | [],marks,yw,cur,last,_,hS,_=>⟨hS,Nat.le_refl _,λ_ _=>rfl⟩
 | k::r,marks,yw,cur,last,hL,hS,hn=>by
  rw[qC]
  split
  ·exact⟨hS,Nat.le_refl _,λ_ _=>rfl⟩
  ·split
   ·exact⟨hS,Nat.le_refl _,λ_ _=>rfl⟩
   ·rename_i h1 h2
    have hg:=zgs hM (hL k zs) zo
    have hl:=zd5 (marks:=marks) (m:=P.wg M k) (tok:=tok) (st:=st)
    have hn':n<(uW marks (P.wg M k) tok st).length:=Nat.lt_of_lt_of_le hn hl
    have hS':=hS.put hg (a:=(n:Int)) (k:=k) zo zo
    obtain⟨g1,g2,g3⟩:=Uv hM r (uW marks (P.wg M k) tok st) (X4 marks yw (P.wg M k) tok st ((n:Int),k)) (cur++[(k,XG marks (P.wg M k) tok st)]) ((n:Int),k) (λj hj=>hL j (by simp[hj])) hS' hn'
    exact⟨g1,Nat.le_trans hl g2,λi hi=>by rw[g3 i (Nat.lt_of_lt_of_le hi hl),ziC hi]⟩
end za
def zin (P:za) (tok:Int) (st n no nn:Nat) (last:uu):List D:=[.xj 2 (P.nodes.map vX),.xj 2 (P.zn.map YO),.sc (.int .i64 tok),.sc (.int .i64 st),.own 3 n 0 n,.own 5 nn 0 nn,.mp 1,.own 4 no 0 no,.sc (.int .i64 last.1),.sc (.int .i64 last.2)]
noncomputable def ZQ (P:za) (tok:Int) (st:Nat) (marks:List (List Int)) (yw:List uu) (next:List (List zy)) (last:uu):List zf :=
 [.row true [.xj 2 (P.nodes.map vX),.xj 2 (P.zn.map YO)],.xL true (uA Tryz.prog 215 (fM marks)),.row true (zin P tok st marks.length yw.length next.length last),.vec true marks.length 1 (vL marks),.vec true yw.length 2 (x9 yw),.vec true next.length 1 (vG next)]
theorem UF {ρ:Nat→Nat} (P:za):D.yy ρ (.xj 2 (P.nodes.map vX))=.xj 2 (P.nodes.map vX)∧D.yy ρ (.xj 2 (P.zn.map YO))=.xj 2 (P.zn.map YO):=by
 have h:=z6 P
 simp only[yQ,za.cells,Pure,ze] at h
 exact⟨yx _ (by simpa only[Pure] using h.1),yx _ (by simpa only[Pure] using h.2.1)⟩
theorem zgt (P:za) (tok:Int) (st:Nat) (marks:List (List Int)) (yw:List uu) (next:List (List zy)) (last:uu) :
  [zf.row true [.xj 2 (P.nodes.map vX),.xj 2 (P.zn.map YO)]]++((uX P tok st marks yw next last).map (zf.yy λi=>[zf.row true [.xj 2 (P.nodes.map vX),.xj 2 (P.zn.map YO)]].length+i)++[])=ZQ P tok st marks yw next last:=by
 have h1:=λρ=>(UF (ρ:=ρ) P).1
 have h2:=λρ=>(UF (ρ:=ρ) P).2
 have h3:=λρ=>yo (ρ:=ρ) _ (Xg marks)
 have h4:=λρ=>yo (ρ:=ρ) _ (Ya yw)
 have h5:=λρ=>yo (ρ:=ρ) _ (qi next)
 simp only[uX,ZQ,zeb,zin,List.map_cons,List.map_nil,zf.yy,yG,h1,h2,h3,h4,h5,List.append_nil,List.length_cons,List.length_nil,List.cons_append,List.nil_append]
 simp only[D.yy]
theorem zgO {P:za} {tok:Int} {st:Nat} {marks:List (List Int)} {yw:List uu} {next:List (List zy)} {last:uu}:∀o∈ZQ P tok st marks yw next last,o.under 6:=by
 intro o ho
 simp only[ZQ,List.mem_cons,List.not_mem_nil,or_false] at ho
 rcases ho with rfl|rfl|rfl|rfl|rfl|rfl<;>simp[zf.under,zin,zl,zp]
theorem zsN {ρ:Nat→Nat} (l:List (Int × Int)) (v:Value):D.yy ρ (.yI [w8 l,.sc v])=.yI [w8 l,.sc v]:=by
 simp only[D.yy,yG,yx _ (vB l)]
theorem zsc {ρ:Nat→Nat} (u v:Value):D.yy ρ (.yI [.sc u,.sc v])=.yI [.sc u,.sc v]:=by
 simp only[D.yy,yG]
theorem zgB {P:za} {f:FuncId} {tok:Int} {st:Nat} {marks marks':List (List Int)} {yw org':List uu} {next:List (List zy)} {last last':uu} {args args':List D} {d d':D}
  (hA:yB Tryz.prog f args (uX P tok st marks yw next last) d (uX P tok st marks' org' next last')) (hu:zl 5 args) (e1:yG (λi=>1+i) args=args') (e2:D.yy (λi=>1+i) d=d') :
  yB Tryz.prog f args' (ZQ P tok st marks yw next last) d' (ZQ P tok st marks' org' next last') :=
 vg hA [.row true [.xj 2 (P.nodes.map vX),.xj 2 (P.zn.map YO)]] [] rfl hu Vw e1 e2 (zgt ..) (zgt ..)
def zAg:PC:=.seq (.seq (OP [qm 62 15,qm 63 10,q 64 (.zm 63),Fa 65 4 64,Fa 66 0 65,Lo 67 66,Ln 68 67,Bi 69 .lss 62 68]) (.cond 69 .skip (.exit 0))) (.seq (.block 1 (.seq (OP [qm 73 10,qm 74 15,Ca 75 60 [73,74],qm 72 75,Xt 76 0 72,Xt 77 1 72,qm 16 76,qm 17 77]) (.seq (.seq (OP [qm 78 17,Bi 79 .neq 78 (cI 0)]) (.cond 79 (.seq (OP [qm 80 10,qm 81 17,qm 6 80,qm 7 81]) .ret) .skip)) (OP [qm 82 10,qm 83 10,q 84 (.zm 83),Fa 85 4 84,Fa 86 1 85,Lo 87 86,qm 88 16,Bs 89 1 1 [88],Ap 90 1 24 87 89,q 91 (.zm 82),Fa 92 4 91,Fa 93 1 92,So 1 93 90])))) (OP [qm 70 15,Bi 71 .add 70 (cI 1),qm 15 71]))
def c26:PC:=.seq (OP [Bx 3 0,q 6 (.move (.const (.pointer none))),Mv 7 (cI 0)]) (.seq (.seq (OP [LA 19 2 3,Ca 20 33 [19],qm 18 20,Xt 21 0 18,Xt 22 1 18,qm 8 21,qm 9 22]) (.seq (OP [qm 23 9,Bi 24 .neq 23 (cI 0)]) (.cond 24 (.seq (OP [qm 25 9,q 6 (.move (.const (.pointer none))),qm 7 25]) .ret) .skip))) (.seq (.seq (OP [qm 26 1,Bi 27 .lss 26 (cI 1),qm 28 27,GF 29 28 (.move 1),GF 30 28 (.bin .gtr 29 (cI 9)),Pk 31 28 cT 30,qm 32 31,GF 33 32 (.move 2),GF 34 32 (.bin .lss 33 (cI 1)),Pk 35 32 cT 34,qm 36 35,GF 37 36 (.move 2),GF 38 36 (.bin .gtr 37 (cI 200)),Pk 39 36 cT 38]) (.cond 39 (.seq (OP [q 6 (.move (.const (.pointer none))),Mv 7 (cI 1)]) .ret) .skip)) (.seq (OP [LA 40 2 3,qm 41 1,qm 42 2,q 43 (.zfR 215),q 44 (.build [(.slice none 0 0),(.slice none 0 0),(.int .i64 0),(.int .i64 0),(.slice none 0 0),(.slice none 0 0),(.map none),(.slice none 0 0),(.int .i64 0),(.int .i64 0)] [(0,2,40),(2,1,41),(3,1,42),(6,1,43)]),Bx 45 44,qm 10 45]) (.seq (OP [LA 47 2 3,Ca 48 58 [47],qm 46 48,Xt 49 0 46,Xt 50 1 46,qm 11 49,qm 12 50]) (.seq (.seq (.stop (OP [qm 52 10,qm 53 11,q 54 (.build [(.int .i64 0),(.int .i64 0)] [(0,1,(cI (-1))),(1,1,(cI (-1)))]),Ca 55 59 [52,53,54],qm 51 55,Xt 56 0 51,Xt 57 1 51,qm 13 56,qm 14 57])) (.seq (OP [qm 58 14,Bi 59 .neq 58 (cI 0)]) (.cond 59 (.seq (OP [qm 60 10,qm 61 14,qm 6 60,qm 7 61]) .ret) .skip))) (.seq (.seq (OP [Mv 15 (cI 0)]) (.block 0 (.loop zAg))) (.seq (OP [qm 94 10,qm 6 94,Mv 7 (cI 0)]) .ret)))))))
theorem zkX:zz Tryz.prog 26 95 [.tmp 6,.tmp 7] c26:=fK Tryz.func26
theorem ze0 (P:za) (hP:P.Fits) (h1:P.yz≠0) (tok st:Int):yB Tryz.prog 26 [yQ P,.sc (.int .i64 tok),.sc (.int .i64 st)] [] (.yI [.sc (.pointer none),.sc (.int .i64 P.yz)]) []:=by
 refine yp zkX zs zs ?_ (by simp[zp,zl]) zs
 unfold yQ za.cells
 refine sR ?_
 refine sC (Y6 P hP) ?_
 refine sS (λh2=>?_) λh2=>?_
 ·exact Nat.zero_le _
 ·exfalso;exact sO
theorem zeQ (P:za) (hP:P.Fits) (h1:P.yz=0) (tok st:Int) (hb:tok<1∨9<tok∨st<1∨200<st):yB Tryz.prog 26 [yQ P,.sc (.int .i64 tok),.sc (.int .i64 st)] [] (.yI [.sc (.pointer none),.sc (.int .i64 1)]) []:=by
 refine yp zkX zs zs ?_ (by simp[zp,zl]) zs
 unfold yQ za.cells
 refine sR ?_
 refine sC (Y6 P hP) ?_
 refine sS (λh2=>?_) λh2=>?_
 ·exfalso;exact sO
 refine sS (λh3=>?_) λh3=>?_
 ·refine sW ?_
  exact Nat.zero_le _
 refine sS (λh4=>?_) λh4=>?_
 ·refine sW ?_
  exact Nat.zero_le _
 refine sS (λh5=>?_) λh5=>?_
 ·refine sW ?_
  exact Nat.zero_le _
 refine sS (λh6=>?_) λh6=>?_
 ·exact Nat.zero_le _
 ·exfalso;exact sO
theorem zoK (P:za) (hP:P.Fits) (h1:P.yz=0) (tok:Int) (ht:1≤tok) (ht':tok≤9) (st:Nat) (hs:1≤st) (hs':st≤200) :
  yB Tryz.prog 26 [yQ P,.sc (.int .i64 tok),.sc (.int .i64 st)] [] (.yI [.loc 2 0,.sc (.int .i64 (P.exF tok st).e)]) (ZQ P tok st (P.exF tok st).marks (P.exF tok st).yw (P.exF tok st).next (P.exF tok st).last):=by
 obtain⟨h0,_,h60⟩:=za.yH h1
 have h30:=(yM h0).2
 refine yp zkX zs zs ?_ (by simp[zp,zl,ZQ]) zgO
 have hB:=za.zkg h1
 obtain⟨p1,p2,p3⟩:=za.zoy h1 ht hs
 unfold yQ za.cells
 refine sR ?_
 refine sC (Y6 P hP) ?_
 refine sS (λh2=>?_) λh2=>?_
 ·exfalso;exact sO
 refine sS (λh3=>?_) λh3=>?_
 ·exfalso;exact sO
 refine sS (λh4=>?_) λh4=>?_
 ·exfalso;exact sO
 refine sS (λh5=>?_) λh5=>?_
 ·exfalso;exact sO
 refine sS (λh6=>?_) λh6=>?_
 ·exfalso;exact sO
 refine sC (zlC P hP) ?_
 refine zE (yP 2 4 1 zs rfl rfl) ?_
 refine zE (yP 2 7 2 zs rfl rfl) ?_
 refine zE (yP 2 5 1 zs rfl rfl) ?_
 refine sR ?_
 refine sA (zgB (zby P tok st hs' [] [] [] (0,0) (za.Sp.nil P tok st) h30 P.x6 hB (-1,-1)) (by simp[zl,zp,WM]) (by simp only[yG,D.yy,WM,yx _ (zh _)]) (zsc _ _)) ?_
 rw[p1,p2,p3]
 refine sW ?_
 have eF:P.exF tok st=P.Zl tok st 201 0 [P.x6] [(-1,-1)] [] (-1,-1):=rfl
 generalize P.exF tok st=F at eF
 refine zZ [10] (λ((mk,og,nx,la,n):List (List Int) × List uu × List (List zy) × uu × Nat)=>[(15,.sc (.int .i64 n))]) (λ(mk,og,nx,la,n)=>ZQ P tok st mk og nx la)
  (λ(mk,og,nx,la,n)=>n≤mk.length∧za.Sp P tok st mk og∧nx.length=n∧P.Zl tok st (201-n) n mk og nx la=F) (λ(mk,og,nx,la,n)=>201-n) ([P.x6],[(-1,-1)],[],(-1,-1),0) ?_
 refine sW ?_
 refine⟨⟨zs,za.Sp.start h1 hs,rfl,eF.symm⟩,by exact sK,rfl,?_⟩
 rintro⟨mk,og,nx,la,n⟩ ⟨hn,hS,hnx,hF⟩
 have hr:=hS.room
 obtain⟨f,ef⟩:∃f,201-n=f+1:=⟨200-n,zo⟩
 rw[ef] at hF
 simp only[za.Zl] at hF
 unfold ZQ zin
 refine sW ?_
 refine sR ?_
 refine sS (λh7=>?_) λh7=>?_
 ·have hn':n<mk.length:=sO
  rw[if_pos hn'] at hF
  have hok:=za.Uv (tok:=tok) (st:=st) (n:=n) (hS.zdb _ (za.ZB hn')) (P.Yh (mk.getD n [])) mk og [] la (λ_ h=>h) hS hn'
  refine sA (zgB (zjq P hP h1 tok st hs' mk og nx la hS n hn') (by simp[zl,zp]) (by simp only[yG,D.yy]) (zsN _ _)) ?_
  generalize P.yF tok st n (mk.getD n []) (P.Yh (mk.getD n [])) mk og [] la=R at hF hok
  refine sS (λh8=>?_) λh8=>?_
  ·have h8:R.e≠0:=sO
   rw[if_pos h8] at hF
   rw[←hF]
   exact⟨rfl,rfl,Nat.le_refl _⟩
  ·have h8:R.e=0:=sO
   rw[if_neg λq=>q h8] at hF
   have hcur:zh6 R=R.cur:=if_pos h8
   rw[hcur]
   refine sJ ?_
   refine sI ?_
   refine⟨(R.marks,R.yw,nx++[R.cur],R.last,n+1),⟨zo,hok.1,by simp[hnx],by rw[show 201-(n+1)=f by omega];exact hF⟩,zd,?_⟩
   dsimp only
   rw[show(nx++[R.cur]).length=nx.length+1 by simp]
   refine zj 6 zs rfl sQ (sU ?_)
   exact zk (zk4 rfl)
 ·have hn':¬n<mk.length:=sO
  rw[if_neg hn'] at hF
  rw[←hF]
  exact⟨rfl,rfl,Nat.le_refl _⟩
end
section
open Go.RowKit
namespace za
theorem zbC {P:za} {tok:Int} {st n:Nat} {M:List Int}:∀(L:List Int) (marks:List (List Int)) (yw:List uu) (cur:List zy) (last:uu),last.1=(n:Int)∨L≠[]∨last.1=-1 →
  (P.yF tok st n M L marks yw cur last).last.1=(n:Int)∨(P.yF tok st n M L marks yw cur last).last=last
 | [],marks,yw,cur,last,_=>.inr rfl
 | k::r,marks,yw,cur,last,_=>by
  rw[qC]
  split
  ·exact .inl rfl
  ·split
   ·exact .inl rfl
   ·rcases zbC r (uW marks (P.wg M k) tok st) (X4 marks yw (P.wg M k) tok st ((n:Int),k)) (cur++[(k,XG marks (P.wg M k) tok st)]) ((n:Int),k) (.inl rfl) with h|h
    ·exact .inl h
    ·rw[h];exact .inl rfl
theorem zmw {P:za} {tok:Int} {st:Nat}:∀(f n:Nat) (marks:List (List Int)) (yw:List uu) (next:List (List zy)) (last:uu),Sp P tok st marks yw→last.1<(marks.length:Int) →
  Sp P tok st (P.Zl tok st f n marks yw next last).marks (P.Zl tok st f n marks yw next last).yw∧(P.Zl tok st f n marks yw next last).last.1<((P.Zl tok st f n marks yw next last).marks.length:Int)
 | 0,n,marks,yw,next,last,hS,hl=>⟨hS,hl⟩
 | f+1,n,marks,yw,next,last,hS,hl=>by
  simp only[Zl]
  split
  ·rename_i hn
   obtain⟨g1,g2,_⟩:=Uv (tok:=tok) (st:=st) (n:=n) (hS.zdb _ (ZB hn)) (P.Yh (marks.getD n [])) marks yw [] last (λ_ h=>h) hS hn
   have g3:(P.yF tok st n (marks.getD n []) (P.Yh (marks.getD n [])) marks yw [] last).last.1=(n:Int)∨(P.yF tok st n (marks.getD n []) (P.Yh (marks.getD n [])) marks yw [] last).last=last:=by
    generalize P.Yh (marks.getD n [])=L
    cases L with
    | nil=>exact .inr rfl
    | cons k r=>exact zbC _ _ _ _ _ (.inr (.inl zs))
   generalize P.yF tok st n (marks.getD n []) (P.Yh (marks.getD n [])) marks yw [] last=R at g1 g2 g3
   have g4:R.last.1<(R.marks.length:Int):=by
    rcases g3 with g3|g3
    ·omega
    ·rw[g3];omega
   split
   ·exact⟨g1,g4⟩
   ·exact zmw f (n+1) _ _ _ _ g1 g4
  ·exact⟨hS,hl⟩
theorem zx5 {P:za} (h:P.yz=0) {tok:Int} {st:Nat} (hs:1≤st):Sp P tok st (P.exF tok st).marks (P.exF tok st).yw∧(P.exF tok st).last.1<((P.exF tok st).marks.length:Int) :=
 zmw _ _ _ _ _ _ (Sp.start h hs) zs
def zc7 (tok st:Int):Prop:=tok<1∨9<tok∨st<1∨200<st
instance (tok st:Int):Decidable (zc7 tok st):=by unfold zc7;infer_instance
noncomputable def Vr (P:za) (tok st:Int):Int:=if P.yz≠0 then P.yz else if zc7 tok st then 1 else (P.exF tok st.toNat).e
noncomputable def exM (P:za) (tok st:Int):List (List Int):=if P.Vr tok st=0 then (P.exF tok st.toNat).marks else []
noncomputable def xI (P:za) (tok st:Int):List (List zy):=if P.Vr tok st=0 then (P.exF tok st.toNat).next else []
end za
end
section
open Go.RowKit
theorem znr (l:List Int):yv (zI l):=by simp[zI,ze,Pure]
theorem zjE {ρ:Nat→Nat} (l:List Int):vw ρ (zI l)=zI l:=yo _ (znr l)
def Qp (M:List (List Int)) (N:List (List zy)):D:=.agg [z8 M,.xj 1 (vG N)]
theorem Z5 (M:List (List Int)) (N:List (List zy)):Pure (Qp M N):=by simp[Qp,Pure,ze,yc,qi]
theorem zlc {H:List zf} {id v n:Nat} {q:Bool} {L:List (List zy)} (hn:n=L.length) (h:H[id]? = some (.vec q v 1 (vG L))):Deep H (.own id v 0 n) (.xj 1 (vG L)):=by
 subst hn
 exact .own _ _ _ _ _ _ _ _ h (by rw[zr zs];exact zU _)
def zvI (b:Nat) (P:za) (tok:Int) (st n no nn:Nat) (last:uu):List D:=[.xj 2 (P.nodes.map vX),.xj 2 (P.zn.map YO),.sc (.int .i64 tok),.sc (.int .i64 st),.own (b+2) n 0 n,.own (b+4) nn 0 nn,.mp b,.own (b+3) no 0 no,.sc (.int .i64 last.1),.sc (.int .i64 last.2)]
noncomputable def zkt (b:Nat) (P:za) (tok:Int) (st:Nat) (marks:List (List Int)) (yw:List uu) (next:List (List zy)) (last:uu):List zf :=
 [.row true [.xj 2 (P.nodes.map vX),.xj 2 (P.zn.map YO)],.xL true (uA Tryz.prog 215 (fM marks)),.row true (zvI b P tok st marks.length yw.length next.length last),.vec true marks.length 1 (vL marks),.vec true yw.length 2 (x9 yw),.vec true next.length 1 (vG next)]
theorem zlV (b:Nat) (P:za) (tok:Int) (st:Nat) (marks:List (List Int)) (yw:List uu) (next:List (List zy)) (last:uu) :
  (ZQ P tok st marks yw next last).map (zf.yy λi=>[b,b+1,b+2,b+3,b+4,b+5].getD i 0)=zkt (b+1) P tok st marks yw next last:=by
 have h1:=λρ=>(UF (ρ:=ρ) P).1
 have h2:=λρ=>(UF (ρ:=ρ) P).2
 have h3:=λρ=>yo (ρ:=ρ) _ (Xg marks)
 have h4:=λρ=>yo (ρ:=ρ) _ (Ya yw)
 have h5:=λρ=>yo (ρ:=ρ) _ (qi next)
 simp only[zkt,ZQ,zvI,zin,List.map_cons,List.map_nil,zf.yy,yG,h1,h2,h3,h4,h5]
 simp only[D.yy]
 rfl
theorem zkU {P:za} {tok:Int} {st:Nat} {marks:List (List Int)} {yw:List uu} {next:List (List zy)} {last:uu} {args:List D} {e:Int} (hA:yB Tryz.prog 26 args [] (.yI [.loc 2 0,.sc (.int .i64 e)]) (ZQ P tok st marks yw next last)) (hp:ze args)
  {H:List zf} {b:Nat} (hb:H.length=b):Zk Tryz.prog 26 args H (.yI [.loc (b+2) 0,.sc (.int .i64 e)]) (H++zkt (b+1) P tok st marks yw next last) [b,b+1,b+2,b+3,b+4,b+5] :=
 vq hA hp _ (by rw[hb];rfl) (by simp only[D.yy,yG];rfl) (by rw[zlV])
theorem zee {args:List D} {e:Int} (hA:yB Tryz.prog 26 args [] (.yI [.sc (.pointer none),.sc (.int .i64 e)]) []) (hp:ze args)
  {H:List zf}:Zk Tryz.prog 26 args H (.yI [.sc (.pointer none),.sc (.int .i64 e)]) H [] :=
 vq hA hp [] rfl (by simp only[D.yy,yG]) zs
def c10:PC:=.seq (OP [Bx 3 0,q 6 (.alloc [(.slice none 0 0),(.slice none 0 0)]),Mv 7 (cI 0)]) (.seq (OP [LA 11 2 3,qm 12 1,qm 13 2,Ca 14 26 [11,12,13],qm 10 14,Xt 15 0 10,Xt 16 1 10,qm 8 15,qm 9 16]) (.seq (.seq (OP [qm 17 9,Bi 18 .neq 17 (cI 0)]) (.cond 18 (.seq (OP [q 19 (.build [(.slice none 0 0),(.slice none 0 0)] []),qm 20 9,So 2 6 19,qm 7 20]) .ret) .skip)) (.seq (OP [qm 21 8,q 22 (.zm 21),Fa 23 4 22,LA 24 2 23,So 2 6 24,Mv 7 (cI 0)]) .ret)))
theorem zxD:zz Tryz.prog 10 25 [.agg 6 2,.tmp 7] c10:=fK Tryz.func10
theorem X0 (P:za) (hP:P.Fits) (tok st:Int):zu Tryz.prog 10 [yQ P,.sc (.int .i64 tok),.sc (.int .i64 st)] (.yI [Qp (P.exM tok st) (P.xI tok st),.sc (.int .i64 (P.Vr tok st))]):=by
 refine zb zxD zs (by simp[ze,Pure,z6]) ?_ (by simp[Pure,ze,Z5])
 have hpa:ze [yQ P,.sc (.int .i64 tok),.sc (.int .i64 st)]:=by simp[ze,Pure,z6]
 unfold yQ za.cells
 refine sR ?_
 have bad:∀e,e≠0→P.Vr tok st=e→P.exM tok st=[]∧P.xI tok st=[]:=λe h1 h2=>by
  unfold za.exM za.xI
  rw[h2,if_neg h1,if_neg h1]
  exact⟨rfl,rfl⟩
 by_cases h1:P.yz=0
 ·by_cases h2:za.zc7 tok st
  ·have e1:P.Vr tok st=1:=by unfold za.Vr;rw[if_neg zo,if_pos h2]
   obtain⟨eM,eN⟩:=bad 1 zc e1
   refine sE (zee (zeQ P hP h1 tok st h2) hpa) ?_
   rw[eM,eN,e1]
   exact .yI _ _ (.cons _ _ _ _ (.agg _ _ (.cons _ _ _ _ (.none _) (.cons _ _ _ _ (.none _) .nil))) (xn _))
  ·have h2':=h2
   unfold za.zc7 at h2'
   obtain⟨s,rfl⟩:∃s:Nat,st=s:=⟨st.toNat,zo⟩
   have e1:P.Vr tok s=(P.exF tok s).e:=by unfold za.Vr;rw[if_neg zo,if_neg h2,Int.toNat_natCast]
   have hA:=zkU (zoK P hP h1 tok zo zo s zo zo) hpa (H:=[.row true [.xj 2 (P.nodes.map vX),.xj 2 (P.zn.map YO)],.row true [.sc (.slice none 0 0),.sc (.slice none 0 0)]]) (b:=2) rfl
   refine sE (hA) ?_
   refine sS (λh3=>?_) λh3=>?_
   ·have h3:P.Vr tok s≠0:=by rw[e1];exact sO
    obtain⟨eM,eN⟩:=bad _ h3 rfl
    rw[eM,eN,e1]
    exact .yI _ _ (.cons _ _ _ _ (.agg _ _ (.cons _ _ _ _ (.none _) (.cons _ _ _ _ (.none _) .nil))) (xn _))
   ·have h3:P.Vr tok s=0:=by rw[e1];exact sO
    unfold za.exM za.xI
    rw[if_pos h3,if_pos h3,h3,Int.toNat_natCast]
    exact .yI _ _ (.cons _ _ _ _ (.agg _ _ (.cons _ _ _ _ (zkq rfl rfl) (.cons _ _ _ _ (zlc rfl rfl) .nil))) (xn _))
 ·have e1:P.Vr tok st=P.yz:=by unfold za.Vr;rw[if_pos h1]
  obtain⟨eM,eN⟩:=bad _ h1 e1
  refine sE (zee (ze0 P hP h1 tok st) hpa) ?_
  have hb:(P.yz != 0)=true:=by simp[h1]
  rw[hb]
  refine sW ?_
  rw[eM,eN,e1]
  exact .yI _ _ (.cons _ _ _ _ (.agg _ _ (.cons _ _ _ _ (.none _) (.cons _ _ _ _ (.none _) .nil))) (xn _))
end
end
section
def YG (N:List (List zy)) (m:Nat):List zy:=if (N.getD m []).length=0 then [(-1,(m:Int))] else (N.getD m []).map λx=>(x.1,(m:Int))
def YI (N:List (List zy)) (m:Nat):List Int:=if (N.getD m []).length=0 then [(m:Int)] else (N.getD m []).map λx=>x.2
def wm (N:List (List zy)):Nat→List zy
 | 0=>[]
 | m+1=>wm N m++YG N m
def zgU (N:List (List zy)):Nat→List Int
 | 0=>[]
 | m+1=>zgU N m++YI N m
def y3 (N:List (List zy)) (m:Nat):Nat:=(wm N m).length
def xf (N:List (List zy)) (m:Nat):Nat:=(YG N m).length
theorem ziy (N:List (List zy)) (m:Nat):1≤xf N m:=by
 unfold xf YG
 split
 ·simp
 ·rename_i h;simp only[List.length_map];omega
theorem vD (N:List (List zy)) (m:Nat):xf N m=if (N.getD m []).length=0 then 1 else (N.getD m []).length:=by
 unfold xf YG
 split<;>simp
theorem zlx (N:List (List zy)) (m:Nat):(YI N m).length=xf N m:=by
 rw[vD]
 unfold YI
 split<;>simp
theorem wj (N:List (List zy)) (m:Nat):y3 N (m+1)=y3 N m+xf N m:=by simp[y3,xf,wm]
theorem WB (N:List (List zy)):∀m,(zgU N m).length=y3 N m
 | 0=>rfl
 | m+1=>by rw[wj];simp only[zgU,List.length_append,zlx,WB N m]
theorem ub {N:List (List zy)} {m n:Nat} (h:m≤n):y3 N m≤y3 N n:=by
 induction n with
 | zero=>rw[show m=0 by omega];exact Nat.le_refl _
 | succ n ih =>
  by_cases e:m=n+1
  ·subst e;exact Nat.le_refl _
  ·rw[wj];have:=ih zo;omega
theorem zgr {α:Type} {l r:List α} {a:Nat} {d:α} (h:a<l.length):(l++r).getD a d=l.getD a d:=by
 rw[List.getD_eq_getElem?_getD,List.getD_eq_getElem?_getD,List.getElem?_append_left h]
theorem zgz {α:Type} {l r:List α} {a k:Nat} {d:α} (h:a=l.length+k):(l++r).getD a d=r.getD k d:=by
 subst h
 rw[List.getD_eq_getElem?_getD,List.getD_eq_getElem?_getD,List.getElem?_append_right zo,Nat.add_sub_cancel_left]
theorem XV {N:List (List zy)} {m k:Nat} (hk:k<xf N m):∀n,m<n→(wm N n).getD (y3 N m+k) (0,0)=(YG N m).getD k (0,0)
 | 0,h=>zo
 | n+1,h=>by
  simp only[wm]
  by_cases e:m=n
  ·subst e
   exact zgz rfl
  ·have h1:=ub (N:=N) (show m+1≤n by omega)
   rw[wj] at h1
   rw[zgr (show y3 N m+k<(wm N n).length by unfold y3 at h1 ⊢;omega),XV hk n zo]
theorem zhp {N:List (List zy)} {m k:Nat} (hk:k<xf N m):∀n,m<n→(zgU N n).getD (y3 N m+k) 0=(YI N m).getD k 0
 | 0,h=>zo
 | n+1,h=>by
  simp only[zgU]
  by_cases e:m=n
  ·subst e
   exact zgz (by rw[WB])
  ·have h1:=ub (N:=N) (show m+1≤n by omega)
   rw[wj] at h1
   rw[zgr (by rw[WB];omega),zhp hk n zo]
theorem zmj {N:List (List zy)} {m k:Nat} (hk:k<xf N m):((YG N m).getD k (0,0)).2=(m:Int):=by
 rw[vD] at hk
 unfold YG
 split
 ·rename_i h
  rw[if_pos h] at hk
  rw[show k=0 by omega]
  rfl
 ·rename_i h
  rw[if_neg h] at hk
  rw[List.getD_eq_getElem?_getD,List.getElem?_map,List.getElem?_eq_getElem hk]
  rfl
theorem Xw {N:List (List zy)}:∀{n i:Nat},i<y3 N n→∃m k,m<n∧k<xf N m∧i=y3 N m+k
 | 0,i,h=>by simp[y3,wm] at h
 | n+1,i,h=>by
  rw[wj] at h
  by_cases q:i<y3 N n
  ·obtain⟨m,k,h1,h2,h3⟩:=Xw q
   exact⟨m,k,zo,h2,h3⟩
  ·exact⟨n,i-y3 N n,zo,zo,zo⟩
def qN (N:List (List zy)) (t:Nat):List Int:=(List.range (xf N t)).map λ(i:Nat)=>((y3 N t+i:Nat):Int)
theorem ztU {N:List (List zy)} {m:Nat} (h:(N.getD m []).length=0):qN N m=[(y3 N m:Int)]:=by
 unfold qN
 rw[vD,if_pos h]
 rfl
theorem VE (N:List (List zy)) (t:Nat):(qN N t).length=xf N t:=by simp[qN]
def zlD (N:List (List zy)) (m:Nat) (k:Int):Bool:=(N.getD m []).any λy=>y.1==k
def vS (N:List (List zy)) (of:List zy) (s:Int):Nat→List Int
 | 0=>[]
 | i+1=>if zlD N (of.getD i (0,0)).2.toNat s=false∨(of.getD i (0,0)).1=s then vS N of s i++[(i:Int)] else vS N of s i
theorem zdR (N:List (List zy)) (of:List zy) (s:Int):∀i,(vS N of s i).length≤i
 | 0=>by simp[vS]
 | i+1=>by
  simp only[vS]
  have:=zdR N of s i
  split<;>simp<;>omega
end
section
section
open Go.RowKit
end
section
open Go.RowKit
theorem zuP {L:List (List zy)} {z k:Nat} (hz:z=k) (h:k<L.length):(vG L)[z]? = some [w8 L[k]]:=by
 subst hz
 unfold vG
 rw[List.getElem?_map,List.getElem?_eq_getElem h]
 rfl
namespace za
theorem Qg {P:za} {tok:Int} {st n:Nat} {M:List Int}:∀(L:List Int) (marks:List (List Int)) (yw:List uu) (cur:List zy) (last:uu),(P.yF tok st n M L marks yw cur last).cur.length≤cur.length+L.length
 | [],_,_,_,_=>by simp[yF]
 | k::r,marks,yw,cur,last=>by
  rw[qC]
  split
  ·simp
  ·split
   ·simp
   ·have:=Qg (P:=P) (tok:=tok) (st:=st) (n:=n) (M:=M) r (uW marks (P.wg M k) tok st) (X4 marks yw (P.wg M k) tok st ((n:Int),k)) (cur++[(k,XG marks (P.wg M k) tok st)]) ((n:Int),k)
    simp at this ⊢
    omega
theorem zf0 {P:za} {tok:Int} {st:Nat}:∀(f n:Nat) (marks:List (List Int)) (yw:List uu) (next:List (List zy)) (last:uu),(∀x∈next,x.length≤P.zx.length) →
  (∀x∈(P.Zl tok st f n marks yw next last).next,x.length≤P.zx.length)∧(P.Zl tok st f n marks yw next last).next.length≤next.length+f
 | 0,_,_,_,next,_,h=>⟨h,Nat.le_refl _⟩
 | f+1,n,marks,yw,next,last,h=>by
  simp only[Zl]
  split
  ·split
   ·exact⟨h,zs⟩
   ·have hl:=Qg (P:=P) (tok:=tok) (st:=st) (n:=n) (M:=marks.getD n []) (P.Yh (marks.getD n [])) marks yw [] last
    have he:=P.zl5 (marks.getD n [])
    generalize P.yF tok st n (marks.getD n []) (P.Yh (marks.getD n [])) marks yw [] last=R at hl
    obtain⟨g1,g2⟩:=zf0 (P:=P) (tok:=tok) (st:=st) f (n+1) R.marks R.yw (next++[R.cur]) R.last λx hx=>by
     rcases List.mem_append.1 hx with hx|hx
     ·exact h x hx
     ·rw[List.mem_singleton] at hx;subst hx;exact Nat.le_trans hl (by rw[List.length_nil,Nat.zero_add];exact he)
    refine⟨g1,?_⟩
    rw[List.length_append,List.length_singleton] at g2
    omega
  ·exact⟨h,zs⟩
end za
end
end
section
def gN (N:List (List zy)):List (List Int):=N.map λl=>l.map λx=>x.2
@[simp] theorem zaO (N:List (List zy)):(gN N).length=N.length:=by simp[gN]
theorem zzf (N:List (List zy)) (i:Nat):(gN N).getD i []=(N.getD i []).map λx=>x.2:=by
 unfold gN
 rw[List.getD_eq_getElem?_getD,List.getElem?_map,List.getD_eq_getElem?_getD]
 cases N[i]?<;>rfl
structure SpN (M:List (List Int)) (N:List (List zy)) (s:Nat):Prop where
 len:N.length=M.length
 pos:1≤M.length
 few:M.length≤200
 row:∀l∈N,l.length≤60
 zwt:∀l∈N,∀x∈l,0≤x.1∧x.1<(s:Int)∧0≤x.2∧x.2<(M.length:Int)
 mark:∀m∈M,m.length≤30∧∀x∈m,0≤x
theorem SpN.rowAt {M:List (List Int)} {N:List (List zy)} {s:Nat} (h:SpN M N s) (i:Nat):(N.getD i []).length≤60:=by
 rw[List.getD_eq_getElem?_getD]
 cases e:N[i]? with
 | none=>simp
 | some l=>exact h.row l (List.mem_of_getElem? e)
theorem zaE {l:List zy} {k:Nat} (h:k<l.length):l.getD k (0,0)∈l:=by
 rw[List.getD_eq_getElem?_getD,List.getElem?_eq_getElem h];exact List.getElem_mem h
theorem SpN.zes {M:List (List Int)} {N:List (List zy)} {s:Nat} (h:SpN M N s) {i k:Nat} (hk:k<(N.getD i []).length):0≤((N.getD i []).getD k (0,0)).1∧((N.getD i []).getD k (0,0)).1<(s:Int)∧0≤((N.getD i []).getD k (0,0)).2∧((N.getD i []).getD k (0,0)).2<(M.length:Int):=by
 have hm:=zaE hk
 have hi:N.getD i []∈N:=by
  rw[List.getD_eq_getElem?_getD] at hk ⊢
  cases e:N[i]? with
  | none=>rw[e] at hk;simp at hk
  | some l=>exact List.mem_of_getElem? e
 exact h.zwt _ hi _ hm
theorem SpN.graph {M:List (List Int)} {N:List (List zy)} {s:Nat} (h:SpN M N s):Vv (gN N)=0∧qV (gN N):=by
 have hf:=h.few
 have hl:=h.len
 refine⟨uK.2 ⟨by simp;omega,λl hl'=>?_⟩,⟨by simp;omega,λl hl'=>?_⟩⟩
 ·unfold gN at hl'
  obtain⟨r,hr,rfl⟩:=List.mem_map.1 hl'
  refine xN λx hx=>?_
  obtain⟨e,he,rfl⟩:=List.mem_map.1 hx
  have:=h.zwt r hr e he
  rw[zaO,hl]
  omega
 ·unfold gN at hl'
  obtain⟨r,hr,rfl⟩:=List.mem_map.1 hl'
  have:=h.row r hr
  simp
  omega
def XJ (p:Nat→Bool) (n:Nat):Nat→Int
 | 0=>-1
 | d+1=>if p (n-(d+1))=true then ((n-(d+1):Nat):Int) else XJ p n d
theorem zag {p:Nat→Bool} {n:Nat}:∀d,d≤n→(XJ p n d=-1∧∀j,n-d≤j→j<n→p j=false)∨(∃k:Nat,XJ p n d=(k:Int)∧n-d≤k∧k<n∧p k=true∧∀j,n-d≤j→j<k→p j=false)
 | 0,_=>.inl ⟨rfl,λj h1 h2=>zo⟩
 | d+1,h=>by
  simp only[XJ]
  by_cases q:p (n-(d+1))=true
  ·rw[if_pos q]
   exact .inr ⟨n-(d+1),rfl,Nat.le_refl _,zo,q,λj h1 h2=>zo⟩
  ·rw[if_neg q]
   have q:p (n-(d+1))=false:=by simpa using q
   rcases zag (p:=p) (n:=n) d zo with⟨h1,h2⟩|⟨k,h1,h2,h3,h4,h5⟩
   ·refine .inl ⟨h1,λj g1 g2=>?_⟩
    by_cases e:j=n-(d+1)
    ·subst e;exact q
    ·exact h2 j zo g2
   ·refine .inr ⟨k,h1,zo,h3,h4,λj g1 g2=>?_⟩
    by_cases e:j=n-(d+1)
    ·subst e;exact q
    ·exact h5 j zo g2
def zhg (l:List zy) (t:Int):Int:=((l.find? λx=>x.2==t).getD (0,0)).1
def JF (N:List (List zy)) (Vi:List Int):Nat→List Int
 | 0=>[]
 | k+1=>JF N Vi k++[zhg (N.getD (Vi.getD k 0).toNat []) (Vi.getD (k+1) 0)]
def zhH (N:List (List zy)) (Vi:List Int):List Int:=JF N Vi (Vi.length-1)
theorem zln {l:List zy} {t:Int} {k:Nat} (hk:k<l.length) (h:(l.getD k (0,0)).2=t) (no:∀j,j<k→(l.getD j (0,0)).2≠t):zhg l t=(l.getD k (0,0)).1:=by
 unfold zhg
 have e:l.find? (λx=>x.2==t)=some (l.getD k (0,0)):=by
  rw[List.find?_eq_some_iff_getElem]
  refine⟨by simpa using h,k,hk,by rw[List.getD_eq_getElem?_getD,List.getElem?_eq_getElem hk];rfl,λj hj=>?_⟩
  have:=no j hj
  rw[List.getD_eq_getElem?_getD,List.getElem?_eq_getElem zo] at this
  simpa using this
 rw[e]
 rfl
theorem zlt {p:Nat→Bool} {l:List Int} (h0:∀k,k<l.length→0≤l.getD k 0) (h:0≤x8 p l l.length):x8 p l l.length∈l:=by
 rcases zaL (p:=p) h0 l.length (Nat.le_refl _) with⟨e,_⟩|⟨_,_,⟨j,hj,e⟩,_⟩
 ·omega
 ·rw[←e];exact yr hj
theorem zdU {g:List (List Int)} (yT:∀l∈g,xv l g.length=true) {to:Nat→Bool}:∀(d:Nat) (a:Int),0≤a→XI g to a.toNat=(d:Int) →
  ∀i,i+1<(Yg g (XI g to) d a).length→(Yg g (XI g to) d a).getD (i+1) 0∈g.getD ((Yg g (XI g to) d a).getD i 0).toNat []
 | 0,a,_,_,i,hi=>by simp[Yg] at hi
 | d+1,a,ha,hd,i,hi=>by
  obtain⟨n1,n2,n3⟩:=zhT yT (to:=to) (a:=a.toNat) (d:=d) zo
  have hm:=zlt (p:=λn=>decide (XI g to n=(d:Int))) (λk hk=>(uy (y9 yT a.toNat) hk).1) n1
  have ih:=zdU yT d _ n1 n3
  rw[QB] at hi ⊢
  generalize hb:x8 (λn=>decide (XI g to n=(d:Int))) (g.getD a.toNat []) (g.getD a.toNat []).length=b at hi hm ih ⊢
  cases i with
  | zero =>
   have e:(Yg g (XI g to) d b).getD 0 0=b:=by cases d<;>rfl
   show(Yg g (XI g to) d b).getD 0 0∈g.getD a.toNat []
   rw[e];exact hm
  | succ i =>
   have:=ih i (by simpa using hi)
   simpa using this
theorem zd9 {g:List (List Int)} (yT:∀l∈g,xv l g.length=true) {to:Nat→Bool}:∀(d:Nat) (a:Int),0≤a→a<(g.length:Int)→XI g to a.toNat=(d:Int)→∀x∈Yg g (XI g to) d a,0≤x∧x<(g.length:Int)
 | 0,a,h0,h1,_,x,hx=>by simp only[Yg,List.mem_singleton] at hx;subst hx;exact⟨h0,h1⟩
 | d+1,a,h0,h1,hd,x,hx=>by
  obtain⟨n1,n2,n3⟩:=zhT yT (to:=to) (a:=a.toNat) (d:=d) zo
  rw[QB] at hx
  rcases List.mem_cons.1 hx with rfl|hx
  ·exact⟨h0,h1⟩
  ·exact zd9 yT d _ n1 n2 n3 x hx
theorem zyq {g:List (List Int)} (yT:∀l∈g,xv l g.length=true) {from_:List Int} (hf:xv from_ g.length=true) {to:Nat→Bool} :
  (∀i,i+1<(zdH g from_ to).length→(zdH g from_ to).getD (i+1) 0∈g.getD ((zdH g from_ to).getD i 0).toNat [])∧(∀x∈zdH g from_ to,0≤x∧x<(g.length:Int))∧(zdH g from_ to).length≤g.length:=by
 unfold zdH
 split
 ·rename_i h
  obtain⟨s1,s2⟩:=ziq hf h
  have hd:=zp2 yT (to:=to) (n:=(V9 g from_ to).toNat) zo
  have e:XI g to (V9 g from_ to).toNat=((XI g to (V9 g from_ to).toNat).toNat:Int):=zo
  refine⟨zdU yT _ _ h e,zd9 yT _ _ h s1 e,?_⟩
  rw[zfV]
  omega
 ·simp
end
section
open Go.RowKit
theorem Xx {L:List (List zy)} {z k:Nat} (hz:z=k) (h:k<L.length):(vG L)[z]? = some [w8 (L.getD k [])]:=by
 rw[zuP hz h,List.getD_eq_getElem?_getD,List.getElem?_eq_getElem h]
 rfl
def XY (M:List (List Int)) (N:List (List zy)):List D:=[z8 M,.xj 1 (vG N)]
structure ztv (P:za) (M:List (List Int)) (N:List (List zy)):Prop where
 sp:SpN M N P.zx.length
 steps:P.yz=0
def zbD (L:List zR) (l:List zy) (s:Nat→Bool):Nat→Nat→Bool
 | 0=>s
 | k+1=>mark (zbD L l s k) (L.getD (l.getD k (0,0)).1.toNat (0,0,0)).1.toNat
def zbY (L:List zR) (N:List (List zy)):Nat→Nat→Bool
 | 0=>λ_=>false
 | n+1=>zbD L (N.getD n []) (zbY L N n) (N.getD n []).length
def qY (P:za) (s:Nat→Bool):Nat→List Int
 | 0=>[]
 | k+1=>if s k=false∧P.kind k≠1 then qY P s k++[(k:Int)] else qY P s k
noncomputable def Qd (P:za) (N:List (List zy)):List Int:=qY P (zbY P.zx N N.length) P.nodes.length
theorem zd2 (P:za) (s:Nat→Bool):∀k,(qY P s k).length≤k
 | 0=>by simp[qY]
 | k+1=>by
  have:=zd2 P s k
  simp only[qY]
  split<;>simp<;>omega
end
section
open Go.RowKit
def Z6 (N:List (List zy)) (m:Nat):List Int:=gl m λt=>(y3 N t:Int)
def uT (N:List (List zy)) (m:Nat):List Int:=gl m λt=>(xf N t:Int)
theorem zmq (n:Nat) (g:Nat→Int):gl (n+1) g=gl n g++[g n]:=by simp[gl,List.range_succ]
def ze9 (N:List (List zy)) (m k:Nat):List zy:=((N.getD m []).take k).map λx=>(x.1,(m:Int))
theorem znb (N:List (List zy)) (m:Nat):ze9 N m 0=[]:=by simp[ze9]
theorem zoD {N:List (List zy)} {m k:Nat} (h:k<(N.getD m []).length):ze9 N m (k+1)=ze9 N m k++[(((N.getD m []).getD k (0,0)).1,(m:Int))]:=by
 unfold ze9
 rw[List.take_add_one,List.getElem?_eq_getElem h,List.getD_eq_getElem?_getD (l:=N.getD m []),List.getElem?_eq_getElem h,List.map_append]
 rfl
theorem zqu {N:List (List zy)} {m k:Nat} (h:k≤(N.getD m []).length):(ze9 N m k).length=k:=by
 simp only[ze9,List.length_map,List.length_take];omega
theorem Z9 (N:List (List zy)) (m:Nat):(wm N m).length=y3 N m:=rfl
theorem zm5 (N:List (List zy)) (m:Nat):wm N (m+1)=if (N.getD m []).length=0 then wm N m++[(-1,(m:Int))] else wm N m++ze9 N m (N.getD m []).length:=by
 simp only[wm,YG,ze9,List.take_length]
 split<;>rfl
theorem zvE {N:List (List zy)} {c:Nat} (h:∀i,(N.getD i []).length≤c) (hc:1≤c):∀m,y3 N m≤c*m
 | 0=>by simp[y3,wm]
 | m+1=>by
  rw[wj,vD,Nat.mul_succ]
  have:=zvE h hc m
  have:=h m
  split<;>omega
theorem Vy {M:List (List Int)} {N:List (List zy)} {s:Nat} (h:SpN M N s) {m:Nat} (hm:m≤N.length):y3 N m≤12000:=by
 have h1:=zvE (N:=N) (c:=60) h.rowAt zo m
 have:=h.few
 have:=h.len
 omega
theorem zel {M:List (List Int)} {N:List (List zy)} {s:Nat} (h:SpN M N s) (m:Nat):xf N m≤60:=by
 rw[vD]
 have:=h.rowAt m
 split<;>omega
theorem zpa (N:List (List zy)) (m:Nat):max (1:Int) ((N.getD m []).length:Int)=(xf N m:Int):=by
 rw[vD]
 split<;>omega
def zeZ (L:List zR) (M:List (List Int)) (N:List (List zy)) (o a y:D):List D :=
 [qW L,z8 M,.xj 1 (vG N),o,a,y,.sc (.slice none 0 0),.sc (.slice none 0 0),.sc (.slice none 0 0),.sc (.slice none 0 0)]
def zAt:PC:=.seq (OP [Bi 35 .lss 34 33]) (.seq (.cond 35 .skip (.exit 2)) (.seq (.block 3 (.seq (OP [Ia 36 2 32 34,LA 37 2 36,q 6 (.alloc [(.int .i64 0),(.int .i64 0)]),So 2 6 37]) (.ops [qm 38 0,qm 39 0,qd 40 (.zm 39) 2,qd 41 (.zv 3 40) 6,qd 42 (.zi 41) 14,Fa 43 0 6,qd 44 (.zi 43) 32,qm 45 3,qd 46 (.build [(.int .i64 0),(.int .i64 0)] [(0,1,44),(1,1,45)]) 224,qd 47 (.wh 2 1 [46]) 480,qd 48 (.append 2 16 42 47) 1022,qd 49 (.zm 38) 2047,qd 50 (.zv 3 49) 4095,qk (.store 1 50 48) 8191] true))) (OP [Bi 51 .add 34 (cI 1),qm 34 51])))
def zzg:PC:=.seq (OP [Bi 14 .lss 13 12]) (.seq (.cond 14 .skip (.exit 0)) (.seq (.block 1 (.seq (OP [qm 15 13,Ia 16 1 11 13,Lo 17 16,qm 3 15,qm 4 17]) (.seq (.ops [qm 18 0,qm 19 0,qd 20 (.zm 19) 2,qd 21 (.zv 4 20) 6,qd 22 (.zi 21) 14,qm 23 0,qd 24 (.zm 23) 32,qd 25 (.zv 3 24) 96,qd 26 (.zi 25) 224,qd 27 (.len 26) 480,qd 28 (.wh 1 1 [27]) 992,qd 29 (.append 1 8 22 28) 2046,qd 30 (.zm 18) 4095,qd 31 (.zv 4 30) 8191,qk (.store 1 31 29) 16383] true) (.seq (.seq (OP [qm 32 4,Ln 33 32,Mv 34 (cI 0)]) (.block 2 (.loop zAt))) (.seq (.seq (OP [qm 52 4,Ln 53 52,Bi 54 .eql 53 (cI 0)]) (.cond 54 (OP [qm 55 0,qm 56 0,q 57 (.zm 56),Fa 58 3 57,Lo 59 58,qm 60 3,q 61 (.build [(.int .i64 0),(.int .i64 0)] [(0,1,(cI (-1))),(1,1,60)]),Bs 62 2 1 [61],Ap 63 2 16 59 62,q 64 (.zm 55),Fa 65 3 64,So 1 65 63]) .skip)) (OP [qm 66 0,qm 67 0,q 68 (.zm 67),Fa 69 5 68,Lo 70 69,qm 71 4,Ln 72 71,q 73 (.mx true (cI 1) 72),Bs 74 1 1 [73],Ap 75 1 8 70 74,q 76 (.zm 66),Fa 77 5 76,So 1 77 75])))))) (OP [Bi 78 .add 13 (cI 1),qm 13 78])))
def c37:PC:=.seq (OP [Mv 2 cF]) (.seq (.seq (OP [qm 7 0,q 8 (.zm 7),Fa 9 1 8,Fa 10 1 9,Lo 11 10,Ln 12 11,Mv 13 (cI 0)]) (.block 0 (.loop zzg))) (.seq (OP [qm 79 0,q 80 (.zm 79),Fa 81 3 80,Lo 82 81,Ln 83 82,Bi 84 .leq 83 (cI 600),qm 2 84]) .ret))
theorem zxN:zz Tryz.prog 37 85 [.tmp 2] c37:=fK Tryz.func37
theorem zj7 (L:List zR) (M:List (List Int)) (N:List (List zy)) (s:Nat) (hS:SpN M N s) :
  yB Tryz.prog 37 [.loc 0 0] [.row true (zeZ L M N (.sc (.slice none 0 0)) (.sc (.slice none 0 0)) (.sc (.slice none 0 0)))] (.sc (.bool (decide ((y3 N N.length:Int)≤600))))
   [.row true (zeZ L M N (.own 1 (y3 N N.length) 0 (y3 N N.length)) (.own 2 N.length 0 N.length) (.own 3 N.length 0 N.length)),.vec true (y3 N N.length) 2 (x9 (wm N N.length)),.vec true N.length 1 (zI (Z6 N N.length)),.vec true N.length 1 (zI (uT N N.length))]:=by
 have hf:=hS.few
 have hl:=hS.len
 refine yp zxN zs zs ?_ (by simp[zp]) (by simp[zf.under,zeZ,zl,zp])
 unfold zeZ
 refine sR ?_
 rw[Uq]
 refine zE (wA (yP 0 3 2 zs rfl rfl) (wA (yP 0 4 1 zs rfl rfl) (yP 0 5 1 zs rfl rfl))) ?_
 refine zZ [0,11,12] (λ((m,a):Nat × Nat)=>[(13,.sc (.int .i64 m))])
  (λ(m,a)=>[.row true [qW L,z8 M,.xj 1 (vG N),.own 1 a 0 a,.own 2 m 0 m,.own 3 m 0 m,.sc (.slice none 0 0),.sc (.slice none 0 0),.sc (.slice none 0 0),.sc (.slice none 0 0)],.vec true a 2 (x9 (wm N m)),.vec true m 1 (zI (Z6 N m)),.vec true m 1 (zI (uT N m))])
  (λ(m,a)=>m≤N.length∧a=y3 N m) (λ(m,a)=>N.length-m) (0,0) ?_
 refine sW ?_
 refine⟨⟨zo,rfl⟩,by exact sK,rfl,?_⟩
 rintro⟨m,a⟩ ⟨hm,ha⟩
 have haS:=Vy hS hm
 refine sW ?_
 refine sR ?_
 refine sS (λh1=>?_) λh1=>?_
 ·have hm':m<N.length:=sO
  have lx:=hS.rowAt m
  have la1:Z6 N (m+1)=Z6 N m++[(y3 N m:Int)]:=zmq _ _
  have la2:uT N (m+1)=uT N m++[(xf N m:Int)]:=zmq _ _
  have e1:=zm5 N m
  have e2:=wj N m
  have e3:=vD N m
  have e4:=zpa N m
  have yT:=λk (hk:k<(N.getD m []).length)=>zoD hk
  have hinl:=λk (hk:k≤(N.getD m []).length)=>zqu hk
  have l1:(Z6 N m).length=m:=by simp[Z6]
  have l2:(uT N m).length=m:=by simp[uT]
  have l3:(wm N m).length=a:=by rw[ha];rfl
  have hin0:=znb N m
  have hmp:=zel hS m
  refine sL (Xx (L:=N) (k:=m) zo hm') ?_
  generalize N.getD m []=l at *
  refine sJ ?_
  rw[wZ]
  refine zZ [0,3,4,11,12,13,32,33] (λ((k,c):Nat × Nat)=>[(34,.sc (.int .i64 k))])
   (λ(k,c)=>[.row true [qW L,z8 M,.xj 1 (vG N),.own 1 c 0 c,.own 2 (m+1) 0 (m+1),.own 3 m 0 m,.sc (.slice none 0 0),.sc (.slice none 0 0),.sc (.slice none 0 0),.sc (.slice none 0 0)],.vec true c 2 (x9 (wm N m++ze9 N m k)),.vec true (m+1) 1 (zI (Z6 N m++[(y3 N m:Int)])),.vec true m 1 (zI (uT N m)),.vec true 0 1 [[.sc (.int .i64 a)]]])
   (λ(k,c)=>k≤l.length∧c=a+k) (λ(k,c)=>l.length-k) (0,a) ?_
  refine sW ?_
  refine⟨⟨zo,rfl⟩,by exact sK,?_,?_⟩
  ·have hx:List.drop 0 (List.take m (zI (Z6 N m)))++[[D.sc (.int .i64 ((a-0:Nat):Int))]]=zI (Z6 N m++[(y3 N m:Int)]):=by rw[xV l1.symm,Nat.sub_zero,ha]
   dsimp only
   rw[hin0,List.append_nil,←hx]
   rfl
  rintro⟨k,c⟩ ⟨hk,hc⟩
  have hil:=hinl k hk
  refine sW ?_
  refine sR ?_
  refine sS (λh2=>?_) λh2=>?_
  ·have hk':k<l.length:=sO
   have hi1:=yT k hk'
   refine sL (wC (k:=k) zo hk') ?_
   generalize l.getD k (0,0)=x at hi1
   refine sJ ?_
   refine sI ?_
   refine⟨(k+1,c+1),⟨zo,zo⟩,zd,?_⟩
   dsimp only
   rw[hi1]
   refine zj 5 zs rfl sQ (sU ?_)
   rw[←List.append_assoc]
   exact zk (XL (by rw[List.length_append,l3,hil,hc]))
  ·have hk':k=l.length:=by have:¬k<l.length:=sO
                           omega
   subst hk'
   rw[wZ]
   refine sS (λh3=>?_) λh3=>?_
   ·have h3:l.length=0:=sO
    rw[if_pos h3] at e1 e3
    refine sJ ?_
    rw[wZ,e4]
    refine sJ ?_
    refine sI ?_
    refine⟨(m+1,c+1),⟨zo,zo⟩,zd,?_⟩
    dsimp only
    rw[la1,la2,e1]
    (refine zj 4 zs rfl ?_ ?_<;>(repeat' (first|exact trivial|exact rfl|exact ya.refl _|exact zP.refl _|exact zJ.refl _|refine And.intro ?_ ?_|(simp[zp,zl,zD,-List.map_take,-List.map_drop];done))))
    ·refine zk ?_
     rw[h3,hin0,List.append_nil]
     exact XL zo
    ·exact zk (xV l2.symm)
   ·have h3:¬l.length=0:=sO
    rw[if_neg h3] at e1 e3
    rw[wZ,e4]
    refine sJ ?_
    refine sI ?_
    refine⟨(m+1,c),⟨zo,zo⟩,zd,?_⟩
    dsimp only
    rw[la1,la2,e1]
    refine zj 4 zs rfl sQ (sU ?_)
    exact zk (xV l2.symm)
 ·have hm':m=N.length:=by have:¬m<N.length:=sO
                          omega
  subst hm'
  subst ha
  rw[Nat.sub_zero]
  exact⟨rfl,rfl,Nat.le_refl _⟩
def JY (l:List Int):List (List D):=l.map λn=>[.sc (.int .u64 n)]
theorem zaz (l:List Int):yv (JY l):=zB _ (λl=>by simp[ze,Pure]) l
@[simp] theorem zu0 {m:Nat} (l:List Int):zD m (JY l)↔True:=⟨λ_=>trivial,λ_=>zg _ (zaz l)⟩
theorem zm7 {l:List Int} {c:Nat} {x:Int} (h:c=l.length):List.drop 0 (List.take c (JY l))++[[D.sc (.int .u64 x)]]=JY (l++[x]):=by
 rw[List.drop_zero,List.take_of_length_le (by simp[h,JY])]
 simp[JY]
def Zr (L:List zR) (M:List (List Int)) (N:List (List zy)) (dS:D) (a x b y c z:Nat):List D :=
 [qW L,z8 M,.xj 1 (vG N),w8 (wm N N.length),zw (Z6 N N.length),zw (uT N N.length),dS,.own a x 0 x,.own b y 0 y,.own c z 0 z]
def xA (L:List zR) (M:List (List Int)) (N:List (List zy)) (dS:D) (x y z:Nat) (X:List (List Int)) (Y:List Int) (Z:List (List Int)):List zf :=
 [.row true (Zr L M N dS 1 x 2 y 3 z),.vec true x 1 (vL X),.vec true y 1 (JY Y),.vec true z 1 (vL Z)]
theorem zrd {ρ:Nat→Nat} {L:List zR} {M:List (List Int)} {N:List (List zy)} {dS:D} (hd:Pure dS) {a x b y c z:Nat}:yG ρ (Zr L M N dS a x b y c z)=Zr L M N dS (ρ a) x (ρ b) y (ρ c) z:=by
 have h1:=yx (ρ:=ρ) _ (uq L)
 have h2:=yx (ρ:=ρ) _ (yc M)
 have h3:=yx (ρ:=ρ) (.xj 1 (vG N)) (by simp only[Pure];exact qi N)
 have h4:=yx (ρ:=ρ) _ (vB (wm N N.length))
 have h5:=yx (ρ:=ρ) _ (zh (Z6 N N.length))
 have h6:=yx (ρ:=ρ) _ (zh (uT N N.length))
 have h7:=yx (ρ:=ρ) _ hd
 unfold Zr
 simp only[yG,h1,h2,h3,h4,h5,h6,h7]
 rfl
theorem zk1 {k:Nat} {L:List zR} {M:List (List Int)} {N:List (List zy)} {dS:D} (hd:Pure dS) {a x b y c z:Nat} (ha:a<k) (hb:b<k) (hc:c<k):zl k (Zr L M N dS a x b y c z):=by
 have h1:=zq (m:=k) _ (uq L)
 have h2:=zq (m:=k) _ (yc M)
 have h3:=zq (m:=k) (.xj 1 (vG N)) (by simp only[Pure];exact qi N)
 have h4:=zq (m:=k) _ (vB (wm N N.length))
 have h5:=zq (m:=k) _ (zh (Z6 N N.length))
 have h6:=zq (m:=k) _ (zh (uT N N.length))
 have h7:=zq (m:=k) _ hd
 unfold Zr
 exact⟨h1,h2,h3,h4,h5,h6,h7,ha,hb,hc,trivial⟩
theorem Jb {k:Nat} (hk:4≤k) {L:List zR} {M:List (List Int)} {N:List (List zy)} {dS:D} (hd:Pure dS) {x y z:Nat} {X:List (List Int)} {Y:List Int} {Z:List (List Int)}:wq k (xA L M N dS x y z X Y Z) :=
 ⟨zk1 hd zo zo zo,by simp[zf.under],by simp[zf.under],by simp[zf.under],trivial⟩
theorem qB {L:List zR} {M:List (List Int)} {N:List (List zy)} {dS:D} (hd:Pure dS) {x y z:Nat} {X:List (List Int)} {Y:List Int} {Z:List (List Int)} {G R:List zf}:XZ 4 G (xA L M N dS x y z X Y Z++R) (xA L M N dS x y z X Y Z) :=
 yN _ _ λo ho=>qg (Jb (Nat.le_refl _) hd) o ho
theorem Jz {f:FuncId} {rest:List D} {d:D} {L:List zR} {M:List (List Int)} {N:List (List zy)} {dS:D} (hd:Pure dS) {x y z:Nat} {X:List (List Int)} {Y:List Int} {Z:List (List Int)}
  (hA:yB Tryz.prog f (.loc 0 0::rest) (xA L M N dS x y z X Y Z) d (xA L M N dS x y z X Y Z)) (hr:ze rest) (hp:Pure d) {H:List zf} (m a b c:Nat) (hn:[m,a,b,c].Nodup)
  (h0:H[m]? = some (.row true (Zr L M N dS a x b y c z))) (h1:H[a]? = some (.vec true x 1 (vL X))) (h2:H[b]? = some (.vec true y 1 (JY Y))) (h3:H[c]? = some (.vec true z 1 (vL Z))):zge Tryz.prog f (.loc m 0::rest) H d [m,a,b,c]:=by
 refine zjo hA [m,a,b,c] rfl hn ⟨by simp[zp,xA],zt _ hr⟩ (Jb (Nat.le_refl _) hd) (by simp only[yG,xU _ hr];rfl) (yx _ hp) (λi o ho=>?_) m zs h0 zs (λid hid=>?_)
 ·have key:∀{i:Nat} {q p:zf},(xA L M N dS x y z X Y Z)[i]? = some q→H[[m,a,b,c].getD i 0]? = some p→q.yy (λi=>[m,a,b,c].getD i 0)=p→(xA L M N dS x y z X Y Z)[i]? = some o→H[[m,a,b,c].getD i 0]? = some (o.yy λi=>[m,a,b,c].getD i 0):=λk1 k2 k3 k4=>by
   rw[k1] at k4
   cases k4
   rw[k3];exact k2
  match i with
  | 0=>exact key rfl h0 (by simp only[zf.yy,zrd hd];rfl) ho
  | 1=>exact key rfl h1 (by simp only[zf.yy,yo _ (Xg X)]) ho
  | 2=>exact key rfl h2 (by simp only[zf.yy,yo _ (zaz Y)]) ho
  | 3=>exact key rfl h3 (by simp only[zf.yy,yo _ (Xg Z)]) ho
  | i+4=>simp[xA] at ho
 ·simp only[List.mem_cons,List.not_mem_nil,or_false] at hid
  rcases hid with rfl|rfl|rfl|rfl
  ·exact .inl rfl
  ·exact .inr ⟨x,0,x,by simp[Zr]⟩
  ·exact .inr ⟨y,0,y,by simp[Zr]⟩
  ·exact .inr ⟨z,0,z,by simp[Zr]⟩
theorem zmy (v:Value):Pure (.sc v):=by simp[Pure]
def zz3:PC:=.seq (OP [Bi 15 .lss 14 13]) (.seq (.cond 15 .skip (.exit 0)) (.seq (.block 1 (.seq (OP [qm 16 14,qm 6 16]) (OP [qm 17 5,qm 18 0,q 19 (.zm 18),Fa 20 4 19,Lo 21 20,qm 22 1,Ia 23 1 21 22,Lo 24 23,qm 25 6,Bi 26 .add 24 25,Bs 27 1 1 [26],Ap 28 1 8 17 27,qm 5 28]))) (OP [Bi 29 .add 14 (cI 1),qm 14 29])))
def c40:PC:=.seq (OP [Mv 4 cN]) (.seq (OP [Mv 5 cN]) (.seq (.seq (OP [qm 7 0,q 8 (.zm 7),Fa 9 5 8,Lo 10 9,qm 11 1,Ia 12 1 10 11,Lo 13 12,Mv 14 (cI 0)]) (.block 0 (.loop zz3))) (.seq (OP [qm 30 5,qm 4 30]) .ret)))
theorem zxP:zz Tryz.prog 40 31 [.tmp 4] c40:=fK Tryz.func40
theorem znd {N:List (List zy)} {t k:Nat} (h:k<xf N t):(qN N t).take (k+1)=(qN N t).take k++[((y3 N t+k:Nat):Int)]:=by
 have hl:=VE N t
 rw[List.take_add_one,List.getElem?_eq_getElem zo]
 simp[qN]
theorem zjg (L:List zR) (M:List (List Int)) (N:List (List zy)) (s:Nat) (hS:SpN M N s) (dS:D) (hd:Pure dS) (x y z:Nat) (X:List (List Int)) (Y:List Int) (Z:List (List Int)) (t:Nat) (ht:t<N.length):yB Tryz.prog 40 [.loc 0 0,.sc (.int .i64 t)] (xA L M N dS x y z X Y Z) (zw (qN N t)) (xA L M N dS x y z X Y Z):=by
 have hf:=hS.few
 have hl:=hS.len
 have ha:=Vy hS (m:=t) zo
 have hm:=zel hS t
 have hal:=VE N t
 refine wo zxP zs (by simp[xA]) ?_ (by simp[zp])
 unfold xA Zr
 refine sR ?_
 refine sL (yb (l:=uT N N.length) (k:=t) zo (by simpa [uT] using ht)) ?_
 rw[show(uT N N.length).getD t 0=(xf N t:Int) from UR ht]
 refine zE (y8 5 1 zs rfl) ?_
 refine zL [0,1,13] (λk:Nat=>[(5,.own 4 k 0 k),(14,.sc (.int .i64 k))]) (λk=>[(4,.vec true k 1 (zI ((qN N t).take k)))]) (λk=>k≤xf N t) (λk=>xf N t-k) 0 ?_
 refine sW ?_
 refine⟨zo,by exact sK,rfl,?_⟩
 rintro k hk
 refine sW ?_
 refine sR ?_
 refine sS (λh1=>?_) λh1=>?_
 ·have hk':k<xf N t:=sO
  refine sL (yb (l:=Z6 N N.length) (k:=t) zo (by simpa [Z6] using ht)) ?_
  rw[show(Z6 N N.length).getD t 0=(y3 N t:Int) from UR ht]
  refine sI ?_
  refine sJ ?_
  refine sI ?_
  refine⟨k+1,zo,zd,?_⟩
  dsimp only
  rw[znd hk']
  have e:(y3 N t:Int)+(k:Int)=((y3 N t+k:Nat):Int):=zo
  rw[e]
  have hlt:((qN N t).take k).length=k:=by rw[List.length_take];omega
  (refine zj 5 zs rfl ?_ ?_<;>(repeat' (first|exact trivial|exact rfl|exact ya.refl _|exact zP.refl _|exact zJ.refl _|refine And.intro ?_ ?_|(simp[zp,zl,zD,-List.map_take,-List.map_drop];done))))
  ·exact zq _ hd
  ·exact zk (xV hlt.symm)
 ·have hk':k=xf N t:=by have:¬k<xf N t:=sO
                        omega
  subst hk'
  rw[List.take_of_length_le zo]
  exact⟨.own _ _ _ _ _ _ _ _ rfl rfl (zk (zr (by simp[zI];omega))),qB hd⟩
theorem zxT {l:List zy} {k:Nat} (h:k<l.length):l[k]? = some (l.getD k (0,0)):=by
 rw[List.getD_eq_getElem?_getD,List.getElem?_eq_getElem h];rfl
theorem zvy {N:List (List zy)} {m k:Nat} (h0:(N.getD m []).length≠0) (hk:k<xf N m):(YG N m).getD k (0,0)=(((N.getD m []).getD k (0,0)).1,(m:Int))∧(YI N m).getD k 0=((N.getD m []).getD k (0,0)).2:=by
 rw[vD,if_neg h0] at hk
 unfold YG YI
 rw[if_neg h0,if_neg h0]
 constructor
 ·rw[List.getD_eq_getElem?_getD,List.getElem?_map,zxT hk]
  rfl
 ·rw[List.getD_eq_getElem?_getD,List.getElem?_map,zxT hk]
  rfl
theorem zl2 {N:List (List zy)} {m:Nat} (h0:(N.getD m []).length=0):(YG N m).getD 0 (0,0)=(-1,(m:Int))∧(YI N m).getD 0 0=(m:Int):=by
 unfold YG YI
 rw[if_pos h0,if_pos h0]
 exact⟨rfl,rfl⟩
def c38:PC:=.seq (OP [Mv 4 cN]) (.seq (OP [qm 6 0,q 7 (.zm 6),Fa 8 3 7,Lo 9 8,qm 10 1,Ia 11 2 9 10,LA 12 2 11,q 5 (.alloc [(.int .i64 0),(.int .i64 0)]),So 2 5 12]) (.seq (.seq (OP [Fa 13 0 5,Lo 14 13,Bi 15 .lss 14 (cI 0)]) (.cond 15 (.seq (OP [qm 16 1,Bs 17 1 1 [16],qm 4 17]) .ret) .skip)) (.seq (.ops [qm 18 0,qm 19 0,qd 20 (.zm 19) 2,qd 21 (.zv 1 20) 6,qd 22 (.zv 1 21) 14,qd 23 (.zi 22) 30,Fa 24 1 5,qd 25 (.zi 24) 64,qd 26 (.zM 1 23 25) 254,qd 27 (.zi 26) 510,qm 28 1,qm 29 0,qd 30 (.zm 29) 2048,qd 31 (.zv 4 30) 6144,qd 32 (.zi 31) 14336,Fa 33 1 5,qd 34 (.zi 33) 32768,qd 35 (.zM 1 32 34) 129024,qd 36 (.zi 35) 260096,qd 37 (.bin .sub 28 36) 523264,qd 38 (.zM 2 27 37) 1048574,qd 39 (.zv 1 38) 2097150,qd 40 (.zi 39) 4194302,qd 41 (.call 40 [18,40]) 8388607,qw 4 41 16777215] true) .ret)))
theorem zxK:zz Tryz.prog 38 42 [.tmp 4] c38:=fK Tryz.func38
theorem zoC (L:List zR) (M:List (List Int)) (N:List (List zy)) (s:Nat) (hS:SpN M N s) (dS:D) (hd:Pure dS) (x y z:Nat) (X:List (List Int)) (Y:List Int) (Z:List (List Int)) (m k:Nat) (hm:m<N.length) (hk:k<xf N m):yB Tryz.prog 38 [.loc 0 0,.sc (.int .i64 ((y3 N m+k:Nat):Int))] (xA L M N dS x y z X Y Z) (zw (qN N ((YI N m).getD k 0).toNat)) (xA L M N dS x y z X Y Z):=by
 have hf:=hS.few
 have hl:=hS.len
 have ha:=Vy hS (m:=m+1) zo
 have ha':=ub (N:=N) (show m+1≤N.length by omega)
 have hsu:=wj N m
 have hol:=Z9 N N.length
 have hat:=XV hk N.length hm
 have hall:=λt (ht:t<N.length)=>zjg L M N s hS dS hd x y z X Y Z t ht
 refine wo zxK zs (by simp[xA]) ?_ (by simp[zp])
 by_cases h0:(N.getD m []).length=0
 ·have hk0:k=0:=by rw[vD,if_pos h0] at hk;omega
  subst hk0
  obtain⟨e1,e2⟩:=zl2 h0
  rw[e2,Int.toNat_natCast,ztU h0]
  rw[e1] at hat
  unfold xA Zr
  refine sR ?_
  refine⟨zo,_,wC (l:=wm N N.length) (k:=y3 N m+0) zo zo,?_⟩
  rw[hat]
  refine sW ?_
  exact⟨.own _ _ _ _ _ _ _ _ rfl rfl (.refl _),qB hd⟩
 ·obtain⟨e1,e2⟩:=zvy h0 hk
  rw[e1] at hat
  have hk':k<(N.getD m []).length:=by rw[vD,if_neg h0] at hk;exact hk
  have he:=hS.zes hk'
  have hrd:=Xx (L:=N) (z:=(m:Int).toNat) (k:=m) zo hm
  have hpr:=wC (l:=N.getD m []) (z:=k) (k:=k) rfl hk'
  rw[e2]
  generalize (N.getD m []).getD k (0,0)=e at *
  have hA:=hall e.2.toNat zo
  rw[show((e.2.toNat:Nat):Int)=e.2 by omega] at hA
  unfold xA Zr
  refine sR ?_
  refine⟨zo,_,wC (l:=wm N N.length) (k:=y3 N m+k) zo zo,?_⟩
  rw[hat]
  refine sW ?_
  refine sS (λh1=>?_) λh1=>?_
  ·exfalso;exact sO
  refine sL (hrd) ?_
  refine sL (yb (l:=Z6 N N.length) (k:=m) zo (by simpa [Z6] using hm)) ?_
  rw[show(Z6 N N.length).getD m 0=(y3 N m:Int) from UR hm]
  refine sI ?_
  refine sL ((show(x9 (N.getD m []))[(((y3 N m+k:Nat):Int)-(y3 N m:Int)).toNat]? = _ by rw[show(((y3 N m+k:Nat):Int)-(y3 N m:Int)).toNat=k by omega];exact hpr)) ?_
  refine sX (Jz hd hA (by simp[ze,Pure]) (zh _) 0 1 2 3 zc rfl rfl rfl rfl) ?_
  exact⟨.refl _,qB hd⟩
def Qk (L:List zR) (z:Int):Int:=if z<0 then 9223372036854775808 else 2^(L.getD z.toNat (0,0,0)).1.toNat
theorem zq4 {z:Int} {k:Nat} (hk:z=k) (h:k≤63):(1:Int)*2^min z.toNat IntKind.u64.bits=2^k:=by
 subst hk
 rw[Int.toNat_natCast,Int.one_mul,Nat.min_eq_left (by show k≤64;omega)]
theorem zqL {k:Nat} (h:k≤63):InR .u64 ((2:Int)^k):=by
 have h1:=JJ k
 have h2:=zd1 (k:=k) (n:=63) h
 have h3:(2:Int)^63=9223372036854775808:=zc
 unfold InR IntKind.wrap
 simp only[IntKind.bits,IntKind.signed]
 have h4:(2:Int)^64=18446744073709551616:=zc
 simp
 omega
def c39:PC:=.seq (OP [q 4 (.move (.const (.int .u64 0)))]) (.seq (.seq (OP [qm 5 0,q 6 (.zm 5),Fa 7 3 6,Lo 8 7,qm 9 1,Ia 10 2 8 9,Fa 11 0 10,Lo 12 11,Bi 13 .lss 12 (cI 0)]) (.cond 13 (.seq (OP [q 4 (.move (.const (.int .u64 9223372036854775808)))]) .ret) .skip)) (.seq (.ops [qm 14 0,qd 15 (.zm 14) 1,qd 16 (.zv 0 15) 3,qd 17 (.zi 16) 7,qm 18 0,qd 19 (.zm 18) 16,qd 20 (.zv 3 19) 48,qd 21 (.zi 20) 112,qm 22 1,qd 23 (.zM 2 21 22) 496,qd 24 (.zv 0 23) 1008,qd 25 (.zi 24) 2032,qd 26 (.zM 3 17 25) 4095,qd 27 (.zv 0 26) 8191,qd 28 (.zi 27) 16383,qd 29 (.bin .shl (.const (.int .u64 1)) 28) 32767,qw 4 29 65535] true) .ret))
theorem zyx:zz Tryz.prog 39 30 [.tmp 4] c39:=fK Tryz.func39
theorem zlT (L:List zR) (M:List (List Int)) (N:List (List zy)) (s:Nat) (hS:SpN M N s) (dS:D) (hd:Pure dS) (x y z:Nat) (X:List (List Int)) (Y:List Int) (Z:List (List Int)) (hL:∀j,j<L.length→0≤(L.getD j (0,0,0)).1∧(L.getD j (0,0,0)).1≤63) (hs:s=L.length) (m k:Nat) (hm:m<N.length) (hk:k<xf N m):yB Tryz.prog 39 [.loc 0 0,.sc (.int .i64 ((y3 N m+k:Nat):Int))] (xA L M N dS x y z X Y Z) (.sc (.int .u64 (Qk L ((YG N m).getD k (0,0)).1))) (xA L M N dS x y z X Y Z):=by
 have hf:=hS.few
 have hl:=hS.len
 have ha:=Vy hS (m:=m+1) zo
 have ha':=ub (N:=N) (show m+1≤N.length by omega)
 have hsu:=wj N m
 have hol:=Z9 N N.length
 have hat:=XV hk N.length hm
 refine wo zyx zs (by simp[xA]) ?_ (by simp[zp])
 by_cases h0:(N.getD m []).length=0
 ·have hk0:k=0:=by rw[vD,if_pos h0] at hk;omega
  subst hk0
  obtain⟨e1,e2⟩:=zl2 h0
  rw[e1]
  rw[e1] at hat
  unfold xA Zr
  refine sR ?_
  refine⟨zo,_,wC (l:=wm N N.length) (k:=y3 N m+0) zo zo,?_⟩
  rw[hat]
  refine sW ?_
  exact⟨.refl _,qB (R:=[]) hd⟩
 ·obtain⟨e1,e2⟩:=zvy h0 hk
  rw[e1] at hat ⊢
  have hk':k<(N.getD m []).length:=by rw[vD,if_neg h0] at hk;exact hk
  have he:=hS.zes hk'
  generalize (N.getD m []).getD k (0,0)=e at *
  have hnode:=hL e.1.toNat zo
  have e3:Qk L e.1=2^(L.getD e.1.toNat (0,0,0)).1.toNat:=by unfold Qk;rw[if_neg zo]
  unfold xA Zr
  refine sR ?_
  refine⟨zo,_,wC (l:=wm N N.length) (k:=y3 N m+k) zo zo,?_⟩
  rw[hat]
  refine sW ?_
  refine sS (λh1=>?_) λh1=>?_
  ·exfalso;exact sO
  refine⟨zo,_,wC (l:=wm N N.length) (k:=y3 N m+k) zo zo,?_⟩
  rw[hat]
  refine sW ?_
  refine sL (VU (k:=e.1.toNat) zo zo) ?_
  generalize L.getD e.1.toNat (0,0,0)=st at *
  refine⟨zo,?_⟩
  rw[zq4 (k:=st.1.toNat) zo zo,←e3]
  refine .inl ⟨by rw[e3];exact zqL zo,?_⟩
  refine sW ?_
  exact⟨.refl _,qB (R:=[]) hd⟩
def zy6:PC:=.seq (OP [Bi 32 .lss 31 30]) (.seq (.cond 32 .skip (.exit 2)) (.seq (.block 3 (.seq (OP [Ia 33 2 29 31,LA 34 2 33,q 10 (.alloc [(.int .i64 0),(.int .i64 0)]),So 2 10 34]) (OP [qm 35 8,qm 36 35,GF 37 36 (.zv 0 10),GF 38 36 (.zi 37),GF 39 36 (.move 1),GF 40 36 (.bin .eql 38 39),Pk 41 36 cT 40,qm 8 41]))) (OP [Bi 42 .add 31 (cI 1),qm 31 42])))
def zzR:PC:=.seq (OP [Bi 17 .lss 16 15]) (.seq (.cond 17 .skip (.exit 0)) (.seq (.block 1 (.seq (OP [qm 18 16,Ia 19 2 14 16,LA 20 2 19,q 7 (.alloc [(.int .i64 0),(.int .i64 0)]),qm 6 18,So 2 7 20]) (.seq (OP [Mv 8 cF]) (.seq (.seq (.ops [qm 21 0,qd 22 (.zm 21) 1,qd 23 (.zv 1 22) 3,qd 24 (.zv 1 23) 7,qd 25 (.zi 24) 15,Fa 26 1 7,qd 27 (.zi 26) 32,qd 28 (.zM 1 25 27) 127,qd 29 (.zi 28) 255,qd 30 (.len 29) 511,Mv 31 (cI 0)] true) (.block 2 (.loop zy6))) (.seq (OP [qm 43 8,Nt 44 43,qm 45 44,GF 46 45 (.zv 0 7),GF 47 45 (.zi 46),GF 48 45 (.move 1),GF 49 45 (.bin .eql 47 48),Pk 50 45 cT 49]) (.cond 50 (OP [qm 51 5,qm 52 6,Bs 53 1 1 [52],Ap 54 1 8 51 53,qm 5 54]) .skip)))))) (OP [Bi 55 .add 16 (cI 1),qm 16 55])))
def c41:PC:=.seq (OP [Mv 4 cN]) (.seq (OP [Mv 5 cN]) (.seq (.seq (OP [qm 11 0,q 12 (.zm 11),Fa 13 3 12,Lo 14 13,Ln 15 14,Mv 16 (cI 0)]) (.block 0 (.loop zzR))) (.seq (OP [qm 56 5,qm 4 56]) .ret)))
theorem zwT:zz Tryz.prog 41 57 [.tmp 4] c41:=fK Tryz.func41
theorem zon (L:List zR) (M:List (List Int)) (N:List (List zy)) (s:Nat) (hS:SpN M N s) (dS:D) (hd:Pure dS) (x y z:Nat) (X:List (List Int)) (Y:List Int) (Z:List (List Int)) (st:Int):yB Tryz.prog 41 [.loc 0 0,.sc (.int .i64 st)] (xA L M N dS x y z X Y Z) (zw (vS N (wm N N.length) st (y3 N N.length))) (xA L M N dS x y z X Y Z):=by
 have hf:=hS.few
 have hl:=hS.len
 have ha:=Vy hS (m:=N.length) zo
 have hol:=Z9 N N.length
 refine wo zwT zs (by simp[xA]) ?_ (by simp[zp])
 unfold xA Zr
 refine sR ?_
 rw[wZ,hol]
 refine zE (y8 5 1 zs rfl) ?_
 refine zL [0,1,14,15] (λ((k,c,l):Nat × Nat × List Int)=>[(5,.own 4 c 0 c),(16,.sc (.int .i64 k))]) (λ(k,c,l)=>[(4,.vec true c 1 (zI l))]) (λ(k,c,l)=>k≤y3 N N.length∧c=l.length∧c≤k∧l=vS N (wm N N.length) st k) (λ(k,c,l)=>y3 N N.length-k) (0,0,[]) ?_
 refine sW ?_
 refine⟨⟨zo,rfl,zo,rfl⟩,by exact sK,rfl,?_⟩
 rintro⟨k,c,l⟩ ⟨hk,hc,hck,hl'⟩
 refine sW ?_
 refine sR ?_
 refine sS (λh1=>?_) λh1=>?_
 ·have hk':k<y3 N N.length:=sO
  obtain⟨m,j,q1,q2,q3⟩:=Xw hk'
  have hat:=XV q2 N.length q1
  rw[←q3] at hat
  have hmk:=zmj q2
  have eT:vS N (wm N N.length) st (k+1)=if zlD N ((wm N N.length).getD k (0,0)).2.toNat st=false∨((wm N N.length).getD k (0,0)).1=st then vS N (wm N N.length) st k++[(k:Int)] else vS N (wm N N.length) st k:=rfl
  refine⟨zo,_,wC (l:=wm N N.length) (k:=k) zo zo,?_⟩
  rw[hat] at eT ⊢
  generalize (YG N m).getD j (0,0)=e at eT hmk
  rw[hmk,Int.toNat_natCast,←hl'] at eT
  obtain⟨e1,e2⟩:=e
  dsimp only at hmk eT
  subst hmk
  refine sW ?_
  have lx:=hS.rowAt m
  refine sL (Xx (L:=N) (k:=m) zo q1) ?_
  rw[wZ]
  refine zL [0,1,5,6,7,14,15,16,29,30] (λ((j,b):Nat × Bool)=>[(8,.sc (.bool b)),(31,.sc (.int .i64 j))]) (λ_=>[]) (λ(j,b)=>j≤(N.getD m []).length∧b=((N.getD m []).take j).any λy=>y.1==st) (λ(j,b)=>(N.getD m []).length-j) (0,false) ?_
  refine sW ?_
  refine⟨⟨zo,zs⟩,by exact sK,rfl,?_⟩
  rintro⟨j,b⟩ ⟨hj,hb⟩
  refine sW ?_
  refine sR ?_
  refine sS (λh2=>?_) λh2=>?_
  ·have hj':j<(N.getD m []).length:=sO
   refine sL (wC (k:=j) zo hj') ?_
   have hnx:((N.getD m []).take (j+1)).any (λy=>y.1==st)=(b||(((N.getD m []).getD j (0,0)).1==st)):=by
    rw[List.take_add_one,zxT hj',List.any_append,←hb]
    simp
   generalize (N.getD m []).getD j (0,0)=e at hnx
   cases b
   ·refine sW ?_
    refine sI ?_
    refine⟨(j+1,e.1==st),⟨zo,by rw[hnx];rfl⟩,zd,?_⟩
    refine zj 6 zs rfl sQ (sU ?_)
    exact zq _ hd
   ·refine sW ?_
    refine sI ?_
    refine⟨(j+1,true),⟨zo,by rw[hnx];rfl⟩,zd,?_⟩
    refine zj 6 zs rfl sQ (sU ?_)
    exact zq _ hd
  ·have hj':j=(N.getD m []).length:=by have:¬j<(N.getD m []).length:=sO
                                       omega
   subst hj'
   rw[List.take_length] at hb
   have hb:b=zlD N m st:=hb
   rw[←hb] at eT
   cases b
   ·refine sW ?_
    rw[if_pos (.inl rfl)] at eT
    refine sJ ?_
    refine sI ?_
    refine⟨(k+1,c+1,l++[(k:Int)]),⟨zo,by simp[hc],zo,eT.symm⟩,zd,?_⟩
    (refine zj 5 zs rfl ?_ ?_<;>(repeat' (first|exact trivial|exact rfl|exact ya.refl _|exact zP.refl _|exact zJ.refl _|refine And.intro ?_ ?_|(simp[zp,zl,zD,-List.map_take,-List.map_drop];done))))
    ·exact zq _ hd
    ·exact zk (xV hc)
   ·refine sW ?_
    refine sS (λh3=>?_) λh3=>?_
    ·have h3:e1=st:=sO
     rw[if_pos (.inr h3)] at eT
     refine sJ ?_
     refine sI ?_
     refine⟨(k+1,c+1,l++[(k:Int)]),⟨zo,by simp[hc],zo,eT.symm⟩,zd,?_⟩
     (refine zj 5 zs rfl ?_ ?_<;>(repeat' (first|exact trivial|exact rfl|exact ya.refl _|exact zP.refl _|exact zJ.refl _|refine And.intro ?_ ?_|(simp[zp,zl,zD,-List.map_take,-List.map_drop];done))))
     ·exact zq _ hd
     ·exact zk (xV hc)
    ·have h3:¬e1=st:=sO
     rw[if_neg (λq=>q.elim (λq=>by cases q) h3)] at eT
     refine sI ?_
     refine⟨(k+1,c,l),⟨zo,hc,zo,eT.symm⟩,zd,?_⟩
     refine zj 5 zs rfl sQ (sU ?_)
     exact zq _ hd
 ·have hk':k=y3 N N.length:=by have:¬k<y3 N N.length:=sO
                               omega
  subst hk'
  rw[←hl']
  exact⟨.own _ _ _ _ _ _ _ _ rfl rfl (zk (zr (by simp[zI];omega))),qB hd⟩
end
section
open Go.RowKit
def yX (N:List (List zy)):List (List Int):=(zgU N N.length).map λt=>qN N t.toNat
def Ye (L:List zR) (N:List (List zy)):List Int:=(wm N N.length).map λx=>Qk L x.1
def ZI (L:List zR) (N:List (List zy)):List (List Int):=(List.range L.length).map λ(k:Nat)=>vS N (wm N N.length) (k:Int) (y3 N N.length)
theorem uv (N:List (List zy)):(yX N).length=y3 N N.length:=by simp[yX,WB]
theorem zgf (L:List zR) (N:List (List zy)):(Ye L N).length=y3 N N.length:=by simp[Ye,Z9]
theorem zdZ (L:List zR) (N:List (List zy)):(ZI L N).length=L.length:=by simp[ZI]
theorem QY {α β:Type} {f:α→β} {l:List α} {d:α} {i:Nat} (h:i<l.length):(l.map f).take (i+1)=(l.map f).take i++[f (l.getD i d)]:=by
 rw[List.take_add_one,List.getElem?_map,List.getElem?_eq_getElem h,List.getD_eq_getElem?_getD,List.getElem?_eq_getElem h]
 rfl
theorem zje {N:List (List zy)} {m k:Nat} (hm:m<N.length) (hk:k<xf N m):(yX N).take (y3 N m+k+1)=(yX N).take (y3 N m+k)++[qN N ((YI N m).getD k 0).toNat]:=by
 have h1:=ub (N:=N) (show m+1≤N.length by omega)
 rw[wj] at h1
 unfold yX
 rw[QY (d:=0) (by rw[WB];omega),zhp hk N.length hm]
theorem zlr {L:List zR} {N:List (List zy)} {m k:Nat} (hm:m<N.length) (hk:k<xf N m):(Ye L N).take (y3 N m+k+1)=(Ye L N).take (y3 N m+k)++[Qk L ((YG N m).getD k (0,0)).1]:=by
 have h1:=ub (N:=N) (show m+1≤N.length by omega)
 rw[wj] at h1
 unfold Ye
 rw[QY (d:=(0,0)) (by rw[Z9];omega),XV hk N.length hm]
theorem ziE {L:List zR} {N:List (List zy)} {k:Nat} (h:k<L.length):(ZI L N).take (k+1)=(ZI L N).take k++[vS N (wm N N.length) (k:Int) (y3 N N.length)]:=by
 unfold ZI
 rw[QY (d:=0) (by simpa using h)]
 simp[List.getD_eq_getElem?_getD,List.getElem?_range,h]
def zpI (l:List Int):D:=.xj 1 (JY l)
def znT (start:List Int) (next:List (List Int)) (label:List Int) (fair:List (List Int)):D:=.agg [zw start,z8 next,zpI label,z8 fair]
theorem zlB (l:List Int):Pure (zpI l):=by simp only[zpI,Pure];exact zaz l
theorem zoU (start:List Int) (next:List (List Int)) (label:List Int) (fair:List (List Int)):Pure (znT start next label fair):=by simp[znT,Pure,ze,zh,yc,zlB]
theorem zi1 {ρ:Nat→Nat} {L:List zR} {M:List (List Int)} {N:List (List zy)} {o a y:D}:yG ρ (zeZ L M N o a y)=zeZ L M N (D.yy ρ o) (D.yy ρ a) (D.yy ρ y):=by
 have h1:=yx (ρ:=ρ) _ (uq L)
 have h2:=yx (ρ:=ρ) _ (yc M)
 have h3:=yx (ρ:=ρ) (.xj 1 (vG N)) (by simp only[Pure];exact qi N)
 unfold zeZ
 simp only[yG,h1,h2,h3]
 rfl
theorem zm4 (L:List zR) (M:List (List Int)) (N:List (List zy)) (s:Nat) (hS:SpN M N s) (o0 o1 o2:zf) :
  Zk Tryz.prog 37 [.loc 3 0] [o0,o1,o2,.row true (zeZ L M N (.sc (.slice none 0 0)) (.sc (.slice none 0 0)) (.sc (.slice none 0 0)))] (.sc (.bool (decide ((y3 N N.length:Int)≤600))))
   [o0,o1,o2,.row true (zeZ L M N (.own 4 (y3 N N.length) 0 (y3 N N.length)) (.own 5 N.length 0 N.length) (.own 6 N.length 0 N.length)),.vec true (y3 N N.length) 2 (x9 (wm N N.length)),.vec true N.length 1 (zI (Z6 N N.length)),.vec true N.length 1 (zI (uT N N.length))] [3,4,5,6]:=by
 refine zbx (zj7 L M N s hS) [3] rfl zs (by simp[zl,zp]) (by simp[wq,zf.under,zeZ,zl,zp]) [3,4,5,6] rfl rfl rfl (λi o ho=>?_) ?_
 ·match i with
  | 0 =>
   simp at ho
   subst ho
   simp only[zf.yy,zi1]
   rfl
  | i+1=>simp at ho
 ·simp only[List.length_cons,List.length_nil,List.take_succ_cons,List.take_zero,List.drop_succ_cons,List.drop_zero,List.map_cons,List.map_nil,zf.yy,zi1,yo _ (Ya _),zjE,WJ]
  rfl
def zzL:PC:=.seq (OP [Bi 46 .lss 45 44]) (.seq (.cond 46 .skip (.exit 0)) (.seq (.block 1 (.seq (OP [qm 47 45,qm 12 47]) (.seq (.ops [qm 48 11,qm 49 11,qd 50 (.zm 49) 2,qd 51 (.zv 6 50) 6,qd 52 (.zv 1 51) 14,qd 53 (.zi 52) 30,qm 54 11,qm 55 12,qd 56 (.call 38 [54,55]) 192,qd 57 (.wh 1 1 [56]) 448,qd 58 (.append 1 24 53 57) 1022,qd 59 (.zm 48) 2047,qd 60 (.zv 6 59) 4095,qd 61 (.zv 1 60) 8191,qk (.store 1 61 58) 16383] true) (.ops [qm 62 11,qm 63 11,qd 64 (.zm 63) 2,qd 65 (.zv 6 64) 6,qd 66 (.zv 2 65) 14,qd 67 (.zi 66) 30,qm 68 11,qm 69 12,qd 70 (.call 39 [68,69]) 192,qd 71 (.wh 1 1 [70]) 448,qd 72 (.append 1 8 67 71) 1022,qd 73 (.zm 62) 2047,qd 74 (.zv 6 73) 4095,qd 75 (.zv 2 74) 8191,qk (.store 1 75 72) 16383] true)))) (OP [Bi 76 .add 45 (cI 1),qm 45 76])))
def zzb:PC:=.seq (OP [Bi 89 .lss 88 87]) (.seq (.cond 89 .skip (.exit 2)) (.seq (.block 3 (.seq (OP [qm 90 88,qm 13 90]) (.ops [qm 91 11,qm 92 11,qd 93 (.zm 92) 2,qd 94 (.zv 6 93) 6,qd 95 (.zv 3 94) 14,qd 96 (.zi 95) 30,qm 97 11,qm 98 13,qd 99 (.call 41 [97,98]) 192,qd 100 (.wh 1 1 [99]) 448,qd 101 (.append 1 24 96 100) 1022,qd 102 (.zm 91) 2047,qd 103 (.zv 6 102) 4095,qd 104 (.zv 3 103) 8191,qk (.store 1 104 101) 16383] true))) (OP [Bi 105 .add 88 (cI 1),qm 88 105])))
def c17:PC:=.seq (OP [Bx 3 0,q 6 (.alloc [(.slice none 0 0),(.slice none 0 0),(.slice none 0 0),(.slice none 0 0)]),Mv 7 cN,Mv 8 (cI 0)]) (.seq (OP [LA 15 2 3,qm 16 1,qm 17 2,Ca 18 10 [15,16,17],qm 14 18,Xt 19 0 14,Xt 20 1 14,q 9 (.alloc [(.slice none 0 0),(.slice none 0 0)]),So 2 9 19,qm 10 20]) (.seq (.seq (OP [qm 21 10,Bi 22 .neq 21 (cI 0)]) (.cond 22 (.seq (OP [q 23 (.build [(.slice none 0 0),(.slice none 0 0),(.slice none 0 0),(.slice none 0 0)] []),qm 24 10,So 4 6 23,Mv 7 cN,qm 8 24]) .ret) .skip)) (.seq (OP [LA 25 2 9,q 26 (.build [(.slice none 0 0),(.slice none 0 0),(.slice none 0 0),(.slice none 0 0),(.slice none 0 0),(.slice none 0 0),(.slice none 0 0),(.slice none 0 0),(.slice none 0 0),(.slice none 0 0)] [(1,2,25)]),Bx 27 26,qm 11 27]) (.seq (OP [qm 29 11,LA 30 2 3,Ca 31 33 [30],qm 28 31,Xt 32 0 28,Xt 33 1 28,q 34 (.zm 29),Fa 35 0 34,So 1 35 32]) (.seq (.seq (OP [qm 36 11,Ca 37 37 [36],Nt 38 37]) (.cond 38 (.seq (OP [q 39 (.build [(.slice none 0 0),(.slice none 0 0),(.slice none 0 0),(.slice none 0 0)] []),So 4 6 39,Mv 7 cN,Mv 8 (cI 2)]) .ret) .skip)) (.seq (.seq (OP [qm 40 11,q 41 (.zm 40),Fa 42 3 41,Lo 43 42,Ln 44 43,Mv 45 (cI 0)]) (.block 0 (.loop zzL))) (.seq (OP [qm 77 11,qm 78 11,Ca 79 40 [78,(cI 0)],q 80 (.zm 77),Fa 81 6 80,Fa 82 0 81,So 1 82 79]) (.seq (.seq (OP [qm 83 11,q 84 (.zm 83),Fa 85 0 84,Lo 86 85,Ln 87 86,Mv 88 (cI 0)]) (.block 2 (.loop zzb))) (.seq (.ops [qm 106 11,qd 107 (.zm 106) 1,qd 108 (.zv 6 107) 3,qd 109 (.v7 4 108) 7,qm 110 11,qd 111 (.zm 110) 16,qd 112 (.zv 3 111) 48,qd 113 (.zi 112) 112,qk (.store 4 6 109) 15,qw 7 113 511,qd 8 (.move (cI 0)) 1023] true) .ret)))))))))
theorem zwm:zz Tryz.prog 17 114 [.agg 6 4,.tmp 7,.tmp 8] c17:=fK Tryz.func17
theorem zki (P:za) (hP:P.Fits) (tok st:Int) (he:P.Vr tok st=0) (hF:ztv P (P.exM tok st) (P.xI tok st)):zu Tryz.prog 17 [yQ P,.sc (.int .i64 tok),.sc (.int .i64 st)]
  (if y3 (P.xI tok st) (P.xI tok st).length≤600 then .yI [znT (qN (P.xI tok st) 0) (yX (P.xI tok st)) (Ye P.zx (P.xI tok st)) (ZI P.zx (P.xI tok st)),w8 (wm (P.xI tok st) (P.xI tok st).length),.sc (.int .i64 0)] else .yI [znT [] [] [] [],w8 [],.sc (.int .i64 2)]):=by
 have hE:=X0 P hP tok st
 rw[he] at hE
 generalize P.exM tok st=M at *
 generalize P.xI tok st=N at *
 have hS:=hF.sp
 have hf:=hS.few
 have hl:=hS.len
 have hpos:=hS.pos
 obtain⟨h0,_,h60⟩:=za.yH hF.steps
 have hnode:∀j,j<P.zx.length→0≤(P.zx.getD j (0,0,0)).1∧(P.zx.getD j (0,0,0)).1≤63:=λj hj=>by
  have h1:=(za.ZD hF.steps hj).node
  have:=(yM h0).1
  omega
 refine zb zwm zs (by simp[ze,Pure,z6]) ?_ (by split<;>simp[Pure,ze,zoU,vB])
 refine sR ?_
 refine sC hE ?_
 refine sC (Y6 P hP) ?_
 refine sE (zm4 P.zx M N P.zx.length hS _ _ _) ?_
 by_cases hA:y3 N N.length≤600
 ·have hb:decide ((y3 N N.length:Int)≤600)=true:=decide_eq_true zo
  rw[hb,if_pos hA]
  refine sW ?_
  rw[Nat.sub_zero]
  have hNl:=uv N
  have hLl:=zgf P.zx N
  have hFl:=zdZ P.zx N
  have hd0:Pure (.sc (.slice none 0 0)):=zmy _
  have hd1:Pure (zw (qN N 0)):=zh _
  have hnext:=λi X Y m k (hm:m<N.length) (hk:k<xf N m)=>zoC P.zx M N _ hS _ hd0 i i 0 X Y [] m k hm hk
  have hlab:=λi j X Y m k (hm:m<N.length) (hk:k<xf N m)=>zlT P.zx M N _ hS _ hd0 i j 0 X Y [] hnode rfl m k hm hk
  have hall:=λX Y=>zjg P.zx M N _ hS _ hd0 (y3 N N.length) (y3 N N.length) 0 X Y [] 0 zo
  have hfair:=λk X Y Z st=>zon P.zx M N _ hS _ hd1 (y3 N N.length) (y3 N N.length) k X Y Z st
  have hfz:List.drop 0 (List.take (y3 N N.length) (x9 (wm N N.length)))=x9 (wm N N.length):=zr (by simp[Z9])
  have hfa:List.drop 0 (List.take N.length (zI (Z6 N N.length)))=zI (Z6 N N.length):=zr (by simp[zI,Z6])
  have hfm:List.drop 0 (List.take N.length (zI (uT N N.length)))=zI (uT N N.length):=zr (by simp[zI,uT])
  refine zE (wA (qf (λi=>i==4||i==5||i==6) (env':=[(6,.loc 1 0),(11,.loc 3 0),(44,.sc (.int .i64 (y3 N N.length))),(45,.sc (.int .i64 0))])
   (H':=[.row true P.cells,.row true [.sc (.slice none 0 0),.sc (.slice none 0 0),.sc (.slice none 0 0),.sc (.slice none 0 0)],.row true (XY M N),.row true [qW P.zx,z8 M,.xj 1 (vG N),w8 (wm N N.length),zw (Z6 N N.length),zw (uT N N.length),.sc (.slice none 0 0),.sc (.slice none 0 0),.sc (.slice none 0 0),.sc (.slice none 0 0)],
    .vec false (y3 N N.length) 2 (x9 (wm N N.length)),.vec false N.length 1 (zI (Z6 N N.length)),.vec false N.length 1 (zI (uT N N.length))])
   ⟨.refl _,.refl _,.refl _,.refl _,trivial⟩ ?_)
   (wA (yP 3 7 1 zs rfl rfl) (wA (yP 3 8 1 zs rfl rfl) (yP 3 9 1 zs rfl rfl)))) ?_
  ·refine⟨⟨.inl rfl,(λh=>by cases h),.refl _⟩,⟨.inl rfl,(λh=>by cases h),.refl _⟩,⟨.inl rfl,(λh=>by cases h),.refl _⟩,⟨.inl rfl,(λh=>by cases h),?_⟩,⟨.inr ⟨rfl,rfl⟩,λ_=>rfl,rfl,rfl,.refl _⟩,⟨.inr ⟨rfl,rfl⟩,λ_=>rfl,rfl,rfl,.refl _⟩,⟨.inr ⟨rfl,rfl⟩,λ_=>rfl,rfl,rfl,.refl _⟩,trivial⟩
   refine .cons _ _ _ _ (.refl _) (.cons _ _ _ _ (.refl _) (.cons _ _ _ _ (.refl _) (.cons _ _ _ _ (.own _ _ _ _ _ _ _ _ rfl rfl (zk hfz)) (.cons _ _ _ _ (.own _ _ _ _ _ _ _ _ rfl rfl (zk hfa)) (.cons _ _ _ _ (.own _ _ _ _ _ _ _ _ rfl rfl (zk hfm)) (.refl _))))))
  refine zZ [6,11,44] (λi:Nat=>[(45,.sc (.int .i64 i))])
   (λi=>[.row true P.cells,.row true [.sc (.slice none 0 0),.sc (.slice none 0 0),.sc (.slice none 0 0),.sc (.slice none 0 0)],.row true (XY M N),.row true (Zr P.zx M N (.sc (.slice none 0 0)) 7 i 8 i 9 0),
    .vec false (y3 N N.length) 2 (x9 (wm N N.length)),.vec false N.length 1 (zI (Z6 N N.length)),.vec false N.length 1 (zI (uT N N.length)),.vec true i 1 (vL ((yX N).take i)),.vec true i 1 (JY ((Ye P.zx N).take i)),.vec true 0 1 (vL [])])
   (λi=>i≤y3 N N.length) (λi=>y3 N N.length-i) 0 ?_
  refine sW ?_
  refine⟨zo,by exact sK,rfl,?_⟩
  rintro i hi
  refine sW ?_
  refine sR ?_
  refine sS (λh1=>?_) λh1=>?_
  ·have hi':i<y3 N N.length:=sO
   obtain⟨m,k,q1,q2,rfl⟩:=Xw hi'
   have e1:=zje q1 q2
   have e2:=zlr (L:=P.zx) q1 q2
   have l1:((yX N).take (y3 N m+k)).length=y3 N m+k:=by rw[List.length_take];omega
   have l2:((Ye P.zx N).take (y3 N m+k)).length=y3 N m+k:=by rw[List.length_take];omega
   have hn:=λX Y=>hnext (y3 N m+k) X Y m k q1 q2
   have hlb:=λj X Y=>hlab (y3 N m+k+1) j X Y m k q1 q2
   refine sX (Jz hd0 (hn _ _) (by simp[ze,Pure]) (zh _) 3 7 8 9 zc rfl rfl rfl rfl) ?_
   rw[show List.drop 0 (List.take (y3 N m+k) (vL (List.take (y3 N m+k) (yX N))))++List.drop 0 (List.take 1 [[zw (qN N ((YI N m).getD k 0).toNat)]])=vL ((yX N).take (y3 N m+k+1)) from by rw[e1];exact Qy l1.symm]
   refine sJ ?_
   refine sX (Jz hd0 (hlb (y3 N m+k) _ _) (by simp[ze,Pure]) (zmy _) 3 7 8 9 zc rfl rfl rfl rfl) ?_
   rw[show List.drop 0 (List.take (y3 N m+k) (JY (List.take (y3 N m+k) (Ye P.zx N))))++List.drop 0 (List.take 1 [[D.sc (.int .u64 (Qk P.zx ((YG N m).getD k (0,0)).1))]])=JY ((Ye P.zx N).take (y3 N m+k+1)) from by rw[e2];exact zm7 l2.symm]
   refine sJ ?_
   refine sI ?_
   refine⟨y3 N m+k+1,zo,zd,?_⟩
   exact zj 10 zs rfl sQ sQ
  ·have hi':i=y3 N N.length:=by have:¬i<y3 N N.length:=sO
                                omega
   subst hi'
   rw[List.take_of_length_le zo,List.take_of_length_le zo]
   refine sX (Jz hd0 (hall _ _) (by simp[ze,Pure]) (zh _) 3 7 8 9 zc rfl rfl rfl rfl) ?_
   rw[Wr]
   refine zZ [6,11,87] (λi:Nat=>[(88,.sc (.int .i64 i))])
    (λi=>[.row true P.cells,.row true [.sc (.slice none 0 0),.sc (.slice none 0 0),.sc (.slice none 0 0),.sc (.slice none 0 0)],.row true (XY M N),.row true (Zr P.zx M N (zw (qN N 0)) 7 (y3 N N.length) 8 (y3 N N.length) 9 i),
     .vec false (y3 N N.length) 2 (x9 (wm N N.length)),.vec false N.length 1 (zI (Z6 N N.length)),.vec false N.length 1 (zI (uT N N.length)),.vec true (y3 N N.length) 1 (vL (yX N)),.vec true (y3 N N.length) 1 (JY (Ye P.zx N)),.vec true i 1 (vL ((ZI P.zx N).take i))])
    (λi=>i≤P.zx.length) (λi=>P.zx.length-i) 0 ?_
   refine sW ?_
   refine⟨zo,by exact sK,rfl,?_⟩
   rintro k hk
   refine sW ?_
   refine sR ?_
   refine sS (λh2=>?_) λh2=>?_
   ·have hk':k<P.zx.length:=sO
    have e1:=ziE (N:=N) hk'
    have l1:((ZI P.zx N).take k).length=k:=by rw[List.length_take];omega
    refine sX (Jz hd1 (hfair k _ _ _ k) (by simp[ze,Pure]) (zh _) 3 7 8 9 zc rfl rfl rfl rfl) ?_
    refine sJ ?_
    refine sI ?_
    refine⟨k+1,zo,zd,?_⟩
    dsimp only
    rw[e1]
    refine zj 10 zs rfl sQ (sU ?_)
    exact zk (Qy l1.symm)
   ·have hk':k=P.zx.length:=by have:¬k<P.zx.length:=sO
                               omega
    subst hk'
    rw[List.take_of_length_le zo]
    refine .yI _ _ (.cons _ _ _ _ (.agg _ _ (.cons _ _ _ _ (.refl _) (.cons _ _ _ _ (.own _ _ _ _ _ _ _ _ rfl ?_) (.cons _ _ _ _ (.own _ _ _ _ _ _ _ _ rfl ?_) (.cons _ _ _ _ (.own _ _ _ _ _ _ _ _ rfl ?_) .nil))))) (.cons _ _ _ _ (.refl _) (.cons _ _ _ _ (.refl _) .nil)))
    ·rw[zr (by simp[vL,hNl])];exact zU _
    ·rw[zr (by simp[JY,hLl])];exact zU _
    ·rw[zr (by simp[vL,hFl])];exact zU _
 ·have hb:decide ((y3 N N.length:Int)≤600)=false:=decide_eq_false zo
  rw[hb,if_neg hA]
  refine sW ?_
  exact .yI _ _ (.cons _ _ _ _ (.agg _ _ (.cons _ _ _ _ (.none _) (.cons _ _ _ _ (.none _) (.cons _ _ _ _ (.none _) (.cons _ _ _ _ (.none _) .nil))))) (.cons _ _ _ _ (.none _) (.cons _ _ _ _ (.refl _) .nil)))
end
section
open Go.RowKit
namespace za
def QV (s m:Nat) (e:zy):Prop:=0≤e.1∧e.1<(s:Int)∧0≤e.2∧e.2<(m:Int)
theorem QV.mono {s m m':Nat} {e:zy} (h:QV s m e) (hm:m≤m'):QV s m' e:=⟨h.1,h.2.1,h.2.2.1,by have:=h.2.2.2;omega⟩
theorem zgF {P:za} {tok:Int} {st n:Nat} {M:List Int}:∀(L:List Int) (marks:List (List Int)) (yw:List uu) (cur:List zy) (last:uu),(∀k∈L,k∈P.Yh M)→(∀e∈cur,QV P.zx.length marks.length e) →
  marks.length≤(P.yF tok st n M L marks yw cur last).marks.length∧∀e∈(P.yF tok st n M L marks yw cur last).cur,QV P.zx.length (P.yF tok st n M L marks yw cur last).marks.length e
 | [],marks,yw,cur,last,_,hc=>⟨Nat.le_refl _,hc⟩
 | k::r,marks,yw,cur,last,hL,hc=>by
  rw[qC]
  split
  ·exact⟨Nat.le_refl _,hc⟩
  ·split
   ·exact⟨Nat.le_refl _,hc⟩
   ·rename_i h1 h2
    have h2:ZA marks (P.wg M k) tok st=0:=zo
    have hl:=zd5 (marks:=marks) (m:=P.wg M k) (tok:=tok) (st:=st)
    obtain⟨_,k1,k2,_⟩:=zef (hL k zs)
    obtain⟨q1,q2⟩:=zgF (P:=P) (tok:=tok) (st:=st) (n:=n) (M:=M) r (uW marks (P.wg M k) tok st) (X4 marks yw (P.wg M k) tok st ((n:Int),k)) (cur++[(k,XG marks (P.wg M k) tok st)]) ((n:Int),k)
     (λx hx=>hL x (by simp[hx])) (λe he=>by
      rcases List.mem_append.1 he with he|he
      ·exact(hc e he).mono hl
      ·rw[List.mem_singleton] at he
       subst he
       have hm:=zri h2
       have hi:=List.idxOf_lt_length_of_mem hm
       have e:XG marks (P.wg M k) tok st=(zbS (uW marks (P.wg M k) tok st) (P.wg M k):Int):=by unfold XG;rw[if_pos h2]
       refine⟨k1,by show k<_;omega,?_,?_⟩
       ·show 0≤XG marks (P.wg M k) tok st
        rw[e];omega
       ·show XG marks (P.wg M k) tok st<_
        rw[e];unfold zbS;omega)
    exact⟨Nat.le_trans hl q1,q2⟩
theorem zl0 {P:za} {tok:Int} {st:Nat} (hst:st≤200):∀(f n:Nat) (marks:List (List Int)) (yw:List uu) (next:List (List zy)) (last:uu),Sp P tok st marks yw→(∀l∈next,∀e∈l,QV P.zx.length marks.length e)→next.length=n→n≤marks.length→n+f=201 →
  (P.Zl tok st f n marks yw next last).e=0→(P.Zl tok st f n marks yw next last).next.length=(P.Zl tok st f n marks yw next last).marks.length∧marks.length≤(P.Zl tok st f n marks yw next last).marks.length ∧
   ∀l∈(P.Zl tok st f n marks yw next last).next,∀e∈l,QV P.zx.length (P.Zl tok st f n marks yw next last).marks.length e
 | 0,n,marks,yw,next,last,hS,_,_,hn,hf,_=>by have:=hS.room;omega
 | f+1,n,marks,yw,next,last,hS,hN,hl,hn,hf,he=>by
  simp only[Zl] at he ⊢
  split
  ·rename_i hlt
   rw[if_pos hlt] at he
   have hM:=hS.zdb _ (ZB hlt)
   obtain⟨q1,q2,_⟩:=Uv (tok:=tok) (st:=st) (n:=n) hM (P.Yh (marks.getD n [])) marks yw [] last (λ_ h=>h) hS hlt
   obtain⟨r1,r2⟩:=zgF (P:=P) (tok:=tok) (st:=st) (n:=n) (M:=marks.getD n []) (P.Yh (marks.getD n [])) marks yw [] last (λ_ h=>h) zs
   split
   ·rename_i h0
    rw[if_pos h0] at he
    exact absurd he h0
   ·rename_i h0
    rw[if_neg h0] at he
    obtain⟨t1,t2,t3⟩:=zl0 hst f (n+1) _ _ _ _ q1 (λl hl' e he'=>by
     rcases List.mem_append.1 hl' with hl'|hl'
     ·exact(hN l hl' e he').mono q2
     ·rw[List.mem_singleton] at hl';subst hl';exact r2 e he') (by simp[hl]) zo zo he
    exact⟨t1,Nat.le_trans q2 t2,t3⟩
  ·rename_i hlt
   exact⟨by show next.length=marks.length;omega,Nat.le_refl _,hN⟩
end za
theorem xY {P:za} {tok st:Int} (he:P.Vr tok st=0):ztv P (P.exM tok st) (P.xI tok st):=by
 have eM:P.exM tok st=(P.exF tok st.toNat).marks:=by unfold za.exM;rw[if_pos he]
 have eN:P.xI tok st=(P.exF tok st.toNat).next:=by unfold za.xI;rw[if_pos he]
 unfold za.Vr at he
 split at he
 ·exfalso;omega
 rename_i h1
 have h1:P.yz=0:=zo
 split at he
 ·exfalso;omega
 rename_i h2
 unfold za.zc7 at h2
 obtain⟨h0,_,h60⟩:=za.yH h1
 have h30:=(yM h0).2
 obtain⟨hS,_⟩:=za.zx5 h1 (tok:=tok) (st:=st.toNat) zo
 have hr:=hS.room
 obtain⟨g1,g2⟩:=za.zf0 (P:=P) (tok:=tok) (st:=st.toNat) 201 0 [P.x6] [(-1,-1)] [] (-1,-1) zs
 obtain⟨t1,t2,t3⟩:=za.zl0 (P:=P) (tok:=tok) (st:=st.toNat) zo 201 0 [P.x6] [(-1,-1)] [] (-1,-1) (za.Sp.start h1 zo) zs rfl zs rfl he
 rw[eM,eN]
 refine⟨⟨t1,t2,zo,λl hl=>Nat.le_trans (g1 l hl) h60,t3,λm hm=>?_⟩,h1⟩
 have hk:=za.wP (hS.zdb m hm)
 refine⟨by have:=hk.len;omega,λx hx=>?_⟩
 obtain⟨j,hj,rfl⟩:=Xy hx
 exact by have:=hk.pos j;unfold val at this;exact this
end
section
open Go.RowKit
theorem zbG {P:Program} {f:FuncId} {d:D} {H:List zf} {id:Nat} {k:Int} {t:Tree} (h:zu P f [yk (xS k t)] d) (hp:Pure d) (hid:H[id]? = some (.vec true 0 3 [[.sc (.int .i64 t.kind),.sc (.int .i64 t.num),.xj 3 (t.kids.map xe)]])) :
  Zk P f [.agg [.sc (.int .i64 k),.sc (.int .i64 0),.own id 0 0 1]] H d (H.set id (.vec false 0 3 [[.sc (.int .i64 t.kind),.sc (.int .i64 t.num),.xj 3 (t.kids.map xe)]])) [id]:=by
 have hx:yv [[D.sc (.int .i64 t.kind),.sc (.int .i64 t.num),.xj 3 (t.kids.map xe)]]:=by
  have:=yj t
  exact⟨this,trivial⟩
 have:=V2 (args0:=[.agg [.sc (.int .i64 k),.sc (.int .i64 0),.own 0 0 0 1]]) (args':=[yk (xS k t)]) (H0:=[.vec true 0 3 [[.sc (.int .i64 t.kind),.sc (.int .i64 t.num),.xj 3 (t.kids.map xe)]]]) (H:=H) (args:=[.agg [.sc (.int .i64 k),.sc (.int .i64 0),.own id 0 0 1]])
  (.cons _ _ _ _ (.agg _ _ (.cons _ _ _ _ (.refl _) (.cons _ _ _ _ (.refl _) (.cons _ _ _ _ (.own _ _ _ _ _ _ _ _ rfl (.cons _ _ _ _ (by rw[ZL];exact xn _) .nil)) .nil)))) .nil) h hp [id] rfl zs (by simp[zl,zp]) ⟨zg _ hx,trivial⟩ (by simp[yG,D.yy]) (λi o ho=>by
   cases i with
   | zero =>
    simp at ho;subst ho
    show H[id]? = _
    rw[hid]
    simp only[zf.yy,yo _ hx]
   | succ i=>simp at ho)
 simpa [W3,zf.frozen,zf.yy,yo _ hx,WJ] using this
def c22:PC:=.seq (OP [Bx 2 0,Bx 3 1,q 4 (.alloc [(.slice none 0 0),(.slice none 0 0)]),Mv 5 cF,Mv 6 (cI 0)]) (.seq (.seq (OP [LA 13 4 2,Ca 14 51 [13],qm 7 14]) (.seq (OP [qm 15 7,Bi 16 .neq 15 (cI 0)]) (.cond 16 (.seq (OP [q 17 (.build [(.slice none 0 0),(.slice none 0 0)] []),qm 18 7,So 2 4 17,Mv 5 cF,qm 6 18]) .ret) .skip))) (.seq (.seq (OP [LA 19 3 3,Ca 20 49 [19],qm 8 20]) (.seq (OP [qm 21 8,Bi 22 .neq 21 (cI 0)]) (.cond 22 (.seq (OP [q 23 (.build [(.slice none 0 0),(.slice none 0 0)] []),qm 24 8,So 2 4 23,Mv 5 cF,qm 6 24]) .ret) .skip))) (.seq (OP [LA 26 3 3,Bs 27 3 1 [26],q 28 (.build [(.int .i64 0),(.int .i64 0),(.slice none 0 0)] [(0,1,(cI 4)),(2,1,27)]),Ca 29 52 [28],qm 25 29,Xt 30 0 25,Xt 31 1 25,q 9 (.alloc [(.slice none 0 0),(.slice none 0 0),(.slice none 0 0),(.slice none 0 0),(.slice none 0 0)]),So 5 9 30,qm 10 31]) (.seq (.seq (OP [qm 32 10,Bi 33 .neq 32 (cI 0)]) (.cond 33 (.seq (OP [q 34 (.build [(.slice none 0 0),(.slice none 0 0)] []),qm 35 10,So 2 4 34,Mv 5 cF,qm 6 35]) .ret) .skip)) (.seq (OP [LA 37 4 2,LA 38 5 9,Ca 39 53 [37,38],qm 36 39,Xt 40 0 36,Xt 41 1 36,Xt 42 2 36,q 11 (.alloc [(.slice none 0 0),(.slice none 0 0)]),So 2 11 40,qm 12 41,qm 10 42]) (.seq (OP [LA 43 2 11,qm 44 12,Nt 45 44,qm 46 45,GT 47 46 (.move 10),GT 48 46 (.bin .eql 47 (cI 0)),Pk 49 46 48 cF,qm 50 10,So 2 4 43,qm 5 49,qm 6 50]) .ret))))))
theorem zgX:zz Tryz.prog 22 51 [.agg 4 2,.tmp 5,.tmp 6] c22:=fK Tryz.func22
theorem zpD (W:zK) (hW:W.Fits) (s1:W.start.length≤1048576) (r1:∀l∈W.next,l.length≤1048576) (t:Tree) (hs:Small t) :
  ∃s l,zu Tryz.prog 22 [Yt W,yk t] (.yI [.agg [zw s,zw l],.sc (.bool (decide (W.xc=0∧xc zS t=0∧qO t=0)&&!(uc W (vU t)))),.sc (.int .i64 (if W.xc≠0 then W.xc else if xc zS t≠0 then xc zS t else qO t))]) ∧
   (W.xc=0→xc zS t=0→qO t=0→Vk W (vU t) (yW W (vU t)).1 (yW W (vU t)).2 (yY W (vU t)).2=.yI [.agg [zw s,zw l],.sc (.bool (uc W (vU t))),.sc (.int .i64 0)])∧(¬(W.xc=0∧xc zS t=0∧qO t=0∧uc W (vU t)=true)→s=[]∧l=[]):=by
 have hC:=ziW W hW
 have hL:=Uz t hs
 have hM:=zuI (xS 4 t) (vh hs)
 rw[zm3] at hM
 by_cases h1:W.xc=0
 ·by_cases h2:xc zS t=0
  ·by_cases h3:qO t=0
   ·have hb:=J6 hW h1 s1 r1 h3
    have hF:=zsr hb
    obtain⟨s,l,e1,e2⟩:=zqW hb
    rw[e1] at hF
    refine⟨s,l,?_,λ_ _ _=>e1,λh=>e2 (by cases e:uc W (vU t);rfl;exact absurd ⟨h1,h2,h3,e⟩ h)⟩
    rw[if_neg (by simpa using h1),if_neg (by simpa using h2),decide_eq_true ⟨h1,h2,h3⟩,Bool.true_and]
    rw[h1] at hC
    rw[h2] at hL
    rw[h3] at hM ⊢
    generalize uc W (vU t)=b at *
    refine zb zgX zs (by simp[ze,qy,zA]) ?_ (by simp[Pure,ze,zh])
    unfold Yt at *
    refine sR ?_
    refine sC hC ?_
    refine sC hL ?_
    refine sE (zbG hM (by simp[Pure,ze,qp]) rfl) ?_
    refine sC hF ?_
    cases b
    ·refine sW ?_
     exact sP
    ·refine sW ?_
     exact sP
   ·refine⟨[],[],?_,λ_ _ h=>absurd h h3,λ_=>⟨rfl,rfl⟩⟩
    rw[if_neg (by simpa using h1),if_neg (by simpa using h2),decide_eq_false (λh=>h3 h.2.2),Bool.false_and]
    rw[h1] at hC
    rw[h2] at hL
    generalize qO t=c at *
    refine zb zgX zs (by simp[ze,qy,zA]) ?_ (by simp[Pure,ze,zh])
    unfold Yt at *
    refine sR ?_
    refine sC hC ?_
    refine sC hL ?_
    refine sE (zbG hM (by simp[Pure,ze,qp]) rfl) ?_
    refine sS (λg=>?_) λg=>?_
    ·unfold zw
     exact sP
    ·exact absurd (sO) h3
  ·refine⟨[],[],?_,λ_ h=>absurd h h2,λ_=>⟨rfl,rfl⟩⟩
   rw[if_neg (by simpa using h1),if_pos h2,decide_eq_false (λh=>h2 h.2.1),Bool.false_and]
   rw[h1] at hC
   generalize xc zS t=c at *
   refine zb zgX zs (by simp[ze,qy,zA]) ?_ (by simp[Pure,ze,zh])
   unfold Yt at *
   refine sR ?_
   refine sC hC ?_
   refine sC hL ?_
   refine sS (λg=>?_) λg=>?_
   ·unfold zw
    exact sP
   ·exact absurd (sO) h2
 ·refine⟨[],[],?_,λh=>absurd h h1,λ_=>⟨rfl,rfl⟩⟩
  rw[if_pos h1,decide_eq_false (λh=>h1 h.1),Bool.false_and]
  generalize W.xc=c at *
  refine zb zgX zs (by simp[ze,qy,zA]) ?_ (by simp[Pure,ze,zh])
  unfold Yt at *
  refine sR ?_
  refine sC hC ?_
  refine sS (λg=>?_) λg=>?_
  ·unfold zw
   exact sP
  ·exact absurd (sO) h1
end
section
open Go.RowKit
def zb8 (k a b c:Int):Int :=
 if k<1∨14<k∨a<0∨62<a∨b<0∨62<b∨(k≤4∧b≠0) then 1
 else if (k≤3∧(c<1∨3<c))∨(3<k∧c≠0) then 1 else 0
def evT (n:Int):Tree:=uS 5 (xD 3 n) (xS 4 (xD 3 63))
def zgq (a:Int):Nat→Tree
 | 0=>xS 10 (evT a)
 | n+1=>xS 10 (uS 5 (evT a) (xS 7 (zgq a n)))
def zpp (a b:Int):Tree:=xS 11 (uS 6 (xS 4 (evT a)) (xS 10 (evT b)))
def zqA (a b:Int):Tree:=uS 6 (uS 8 (xS 4 (evT b)) (evT a)) (xS 11 (xS 4 (evT b)))
def zm0 (k a b c:Int):Tree :=
 if k=1 then zgq a (c-1).toNat else if k=2 then xS 4 (zgq a (c-1).toNat)
 else if k=3 then uS 5 (zgq a (c-1).toNat) (xS 4 (zgq a c.toNat))
 else if k=4 then uS 6 (uS 8 (xD 3 63) (evT a)) (xS 11 (xD 3 63))
 else if k=5 then uS 6 (xS 10 (evT a)) (xS 10 (evT b))
 else if k=6 then uS 6 (xS 4 (xS 10 (evT a))) (xS 10 (evT b))
 else if k=7 then uS 5 (uS 6 (xS 4 (xS 10 (evT a))) (xS 10 (evT b))) (uS 6 (xS 4 (xS 10 (evT b))) (xS 10 (evT a)))
 else if k=13 then xS 4 (uS 5 (xS 10 (evT a)) (xS 10 (evT b)))
 else if k=8 then zpp a b else if k=9 then zqA a b else if k=10 then uS 5 (zpp a b) (zqA a b)
 else if k=11 then xS 11 (uS 6 (xS 4 (evT a)) (xS 7 (uS 8 (xS 4 (evT a)) (evT b))))
 else if k=12 then xS 11 (uS 6 (xS 4 (evT a)) (xS 7 (uS 8 (xD 3 63) (evT b))))
 else xS 11 (uS 6 (xS 4 (evT a)) (xS 4 (xS 7 (xS 10 (evT b)))))
def WU (k a b c:Int):List D:=[.sc (.int .i64 k),.sc (.int .i64 a),.sc (.int .i64 b),.sc (.int .i64 c)]
theorem zaF (n:Int):Small (evT n):=qG (qF _ _) (vh (qF _ _))
theorem zbc (a:Int):∀n,Small (zgq a n)
 | 0=>vh (zaF a)
 | n+1=>vh (qG (zaF a) (vh (zbc a n)))
theorem ziw (k a b c:Int):Small (zm0 k a b c):=by
 unfold zm0 zpp zqA
 repeat' (first|exact zaF _|exact zbc _ _|exact qF _ _|apply vh|apply qG|refine Y1 _ ?_ ?_)
end
section
open Go.RowKit
set_option maxHeartbeats 4000000
structure Zt where
 kind:Int
 scope:Int
 p:Int
 s:Int
 q:Int
 r:Int
 count:Int
def zV (x:Zt):List D:=[.sc (.int .i64 x.kind),.sc (.int .i64 x.scope),.sc (.int .i64 x.p),.sc (.int .i64 x.s),.sc (.int .i64 x.q),.sc (.int .i64 x.r),.sc (.int .i64 x.count)]
def zas (x:Zt):D:=.agg (zV x)
theorem YP (x:Zt):Pure (zas x):=by simp[zas,zV,Pure,ze]
def vR (x:Zt):Int :=
 if x.kind<1∨6<x.kind∨x.scope<1∨5<x.scope∨x.p<0∨63<x.p∨x.s<0∨63<x.s∨(x.kind<5∧x.s≠0)
  ∨ x.q<0∨63<x.q∨(x.scope<3∧x.q≠0)∨x.r<0∨63<x.r∨(x.scope≠2∧x.scope<4∧x.r≠0)
  ∨ x.count<0∨3<x.count∨(x.kind≠4∧x.count≠0) then 1 else 0
def noP (x:Zt):Tree:=xS 4 (xD 3 x.p)
def noR (x:Zt):Tree:=xS 4 (xD 3 x.r)
def zgy (x:Zt) (more:Bool) (T:Tree):Tree :=
 if x.kind=2 then xS 11 (xD 3 x.p) else if x.kind=3 then xS 10 (xD 3 x.p)
 else if x.kind=5 then uS 6 (uS 8 (noP x) (xD 3 x.s)) (xS 11 (noP x))
 else if x.kind=6 then xS 11 (uS 6 (noP x) (xS 10 (xD 3 x.s)))
 else if x.kind=4∧more=true then uS 6 (uS 8 (noP x) (uS 5 (xD 3 x.p) (xS 7 T))) (xS 11 (noP x)) else xS 11 (noP x)
def Ja (x:Zt):Nat→Tree
 | 0=>zgy x false (xD 0 0)
 | n+1=>zgy x true (Ja x n)
def Qa (weak:Bool) (a b:Tree):Tree:=if weak=true then uS 6 (uS 8 a b) (xS 11 a) else uS 8 a b
def zmW (x:Zt):Tree:=uS 6 (noP x) (uS 8 (noR x) (uS 5 (xD 3 x.s) (noR x)))
def zi5 (x:Zt) (T:Tree):Tree:=uS 6 (xD 3 x.r) (uS 5 (uS 5 (xD 3 x.p) (noR x)) (xS 7 T))
def upN (x:Zt) (weak more:Bool) (T:Tree):Tree :=
 if x.kind=2 then Qa weak (xD 3 x.p) (xD 3 x.r) else if x.kind=3 then uS 8 (noR x) (uS 5 (xD 3 x.p) (noR x))
 else if x.kind=5 then Qa weak (noP x) (uS 6 (xD 3 x.s) (xD 3 x.r)) else if x.kind=6 then Qa weak (zmW x) (xD 3 x.r)
 else if x.kind=4∧more=true then Qa weak (noP x) (zi5 x T)
 else Qa weak (noP x) (xD 3 x.r)
def upT (x:Zt) (weak:Bool):Nat→Tree
 | 0=>upN x weak false (xD 0 0)
 | n+1=>upN x weak true (upT x weak n)
def yO (x:Zt):Tree :=
 let n:=x.count.toNat
 if x.scope=2 then uS 6 (xS 4 (xS 10 (xD 3 x.r))) (upT x false n)
 else if x.scope=3 then uS 6 (xS 11 (xS 4 (xD 3 x.q))) (uS 8 (xS 4 (xD 3 x.q)) (uS 5 (xD 3 x.q) (Ja x n)))
 else if x.scope=4 then xS 11 (uS 6 (xS 4 (uS 5 (uS 5 (xD 3 x.q) (noR x)) (xS 10 (xD 3 x.r)))) (upT x false n))
 else if x.scope=5 then xS 11 (uS 6 (xS 4 (uS 5 (xD 3 x.q) (noR x))) (upT x true n))
 else Ja x n
def c125:PC:=.seq (OP [Mv 4 cF]) (.seq (OP [qm 5 0,Bi 6 .geq 5 (cI 0),qm 7 6,GT 8 7 (.move 0),GT 9 7 (.bin .leq 8 (cI 63)),Pk 10 7 9 cF,qm 11 10,GT 12 11 (.move 1),GT 13 11 (.move 12),GF 14 13 (.move 0),GF 15 13 (.bin .eql 14 (cI 0)),GT 16 11 (.pick 13 cT 15),Pk 17 11 16 cF,qm 4 17]) .ret)
theorem zsV:zz Tryz.prog 125 18 [.tmp 4] c125:=fK Tryz.func125
def c66:PC:=.seq (OP [Bx 1 0,Mv 2 (cI 0)]) (.seq (OP [Fa 6 0 1,Lo 7 6,Bi 8 .eql 7 (cI 5),qm 9 8,GF 10 9 (.zv 0 1),GF 11 9 (.zi 10),GF 12 9 (.bin .eql 11 (cI 6)),Pk 13 9 cT 12,qm 3 13]) (.seq (OP [Fa 14 1 1,Lo 15 14,Bi 16 .eql 15 (cI 3),qm 17 16,GF 18 17 (.zv 1 1),GF 19 17 (.zi 18),GF 20 17 (.bin .eql 19 (cI 4)),Pk 21 17 cT 20,qm 22 21,GF 23 22 (.zv 1 1),GF 24 22 (.zi 23),GF 25 22 (.bin .eql 24 (cI 5)),Pk 26 22 cT 25,qm 4 26]) (.seq (OP [Fa 27 1 1,Lo 28 27,Bi 29 .eql 28 (cI 2),qm 30 29,GF 31 30 (.zv 1 1),GF 32 30 (.zi 31),GF 33 30 (.bin .eql 32 (cI 4)),Pk 34 30 cT 33,qm 35 34,GF 36 35 (.zv 1 1),GF 37 35 (.zi 36),GF 38 35 (.bin .eql 37 (cI 5)),Pk 39 35 cT 38,qm 5 39]) (.seq (.block 0 (.seq (OP [Fa 41 0 1,Lo 42 41,Bi 43 .lss 42 (cI 1),qm 44 43,GF 45 44 (.zv 0 1),GF 46 44 (.zi 45),GF 47 44 (.bin .gtr 46 (cI 6)),Pk 48 44 cT 47,qm 49 48,GF 50 49 (.zv 1 1),GF 51 49 (.zi 50),GF 52 49 (.bin .lss 51 (cI 1)),Pk 53 49 cT 52,qm 54 53,GF 55 54 (.zv 1 1),GF 56 54 (.zi 55),GF 57 54 (.bin .gtr 56 (cI 5)),Pk 58 54 cT 57,qm 40 58]) (.cond 40 (.seq (OP [Mv 2 (cI 1)]) .ret) (.seq (OP [Fa 60 2 1,Lo 61 60,Ca 62 125 [61,cT],Nt 63 62,qm 64 63,GF 65 64 (.zv 3 1),GF 66 64 (.zi 65),GF 67 64 (.move 3),GF 68 64 (.call 125 [66,67]),GF 69 64 (.un .not 68),Pk 70 64 cT 69,qm 71 70,GF 72 71 (.zv 4 1),GF 73 71 (.zi 72),GF 74 71 (.move 4),GF 75 71 (.call 125 [73,74]),GF 76 71 (.un .not 75),Pk 77 71 cT 76,qm 78 77,GF 79 78 (.zv 5 1),GF 80 78 (.zi 79),GF 81 78 (.move 5),GF 82 78 (.call 125 [80,81]),GF 83 78 (.un .not 82),Pk 84 78 cT 83,qm 59 84]) (.cond 59 (.seq (OP [Mv 2 (cI 1)]) .ret) (.seq (OP [Fa 86 6 1,Lo 87 86,Bi 88 .lss 87 (cI 0),qm 89 88,GF 90 89 (.zv 6 1),GF 91 89 (.zi 90),GF 92 89 (.bin .gtr 91 (cI 3)),Pk 93 89 cT 92,qm 94 93,GF 95 94 (.zv 0 1),GF 96 94 (.zi 95),GF 97 94 (.bin .neq 96 (cI 4)),GF 98 94 (.move 97),GT 99 98 (.zv 6 1),GT 100 98 (.zi 99),GT 101 98 (.bin .neq 100 (cI 0)),GF 102 94 (.pick 98 101 cF),Pk 103 94 cT 102,qm 85 103]) (.cond 85 (.seq (OP [Mv 2 (cI 1)]) .ret) .skip))))))) (.seq (OP [Mv 2 (cI 0)]) .ret)))))
theorem zw6:zz Tryz.prog 66 104 [.tmp 2] c66:=fK Tryz.func66
theorem zoS (n:Int) (has:Bool):zu Tryz.prog 125 [.sc (.int .i64 n),.sc (.bool has)] (.sc (.bool (decide (0≤n)&&decide (n≤63)&&(has||n==0)))):=by
 refine zb zsV zs (by simp[ze,Pure]) ?_ (by simp[Pure])
 refine sR ?_
 repeat' (first|refine sS (λh=>?_) λh=>?_|exact yu (by simp_all))
theorem zai (x:Zt):zu Tryz.prog 66 [zas x] (.sc (.int .i64 (vR x))):=by
 refine zb zw6 zs (by simp[ze,YP]) ?_ (by simp[Pure])
 refine sR ?_
 repeat' (first
  | refine sS (λh=>?_) λh=>?_
  | refine sC (zoS _ _) ?_
  | exact yu (by unfold vR;congr 2;(repeat' split)<;>first|rfl|exact sO))
theorem zbL (x:Zt):∀n,Small (Ja x n)
 | 0=>by
  unfold Ja zgy noP
  repeat' (first|exact qF _ _|apply vh|apply qG|refine Y1 _ ?_ ?_)
 | n+1=>by
  have:=zbL x n
  unfold Ja zgy noP
  repeat' (first|assumption|exact qF _ _|apply vh|apply qG|refine Y1 _ ?_ ?_)
theorem zgI (x:Zt) (weak:Bool):∀n,Small (upT x weak n)
 | 0=>by
  unfold upT upN Qa zmW zi5 noP noR
  repeat' (first|exact qF _ _|apply vh|apply qG|refine Y1 _ ?_ ?_)
 | n+1=>by
  have:=zgI x weak n
  unfold upT upN Qa zmW zi5 noP noR
  repeat' (first|assumption|exact qF _ _|apply vh|apply qG|refine Y1 _ ?_ ?_)
theorem zab (x:Zt):Small (yO x):=by
 unfold yO noR
 repeat' (first|exact zbL _ _|exact zgI _ _ _|exact qF _ _|apply vh|apply qG|refine Y1 _ ?_ ?_)
def c143:PC:=.seq (OP [Bx 2 0,q 4 (.alloc [(.int .i64 0),(.int .i64 0),(.slice none 0 0)])]) (.seq (.seq (OP [Fa 6 0 2,Lo 7 6]) (.block 0 (.seq (OP [Bi 9 .eql 7 (cI 2),qm 8 9]) (.cond 8 (.seq (OP [Fa 10 2 2,Lo 11 10,Ca 12 135 [11],Ca 13 140 [12],So 3 4 13]) .ret) (.seq (OP [Bi 15 .eql 7 (cI 3),qm 14 15]) (.cond 14 (.seq (OP [Fa 16 2 2,Lo 17 16,Ca 18 135 [17],Ca 19 138 [(cI 10),18],So 3 4 19]) .ret) (.seq (OP [Bi 21 .eql 7 (cI 5),qm 20 21]) (.cond 20 (.seq (.ops [Fa 22 2 2,qd 23 (.zi 22) 1,qd 24 (.call 135 [23]) 3,qd 25 (.call 136 [24]) 7,Fa 26 3 2,qd 27 (.zi 26) 16,qd 28 (.call 135 [27]) 63,qd 29 (.call 141 [25,28]) 127,Fa 30 2 2,qd 31 (.zi 30) 256,qd 32 (.call 135 [31]) 1023,qd 33 (.call 136 [32]) 2047,qd 34 (.call 140 [33]) 4095,qd 35 (.call 137 [29,34]) 8191,qk (.store 3 4 35) 16383] true) .ret) (.seq (OP [Bi 37 .eql 7 (cI 6),qm 36 37]) (.cond 36 (.seq (.ops [Fa 38 2 2,qd 39 (.zi 38) 1,qd 40 (.call 135 [39]) 3,qd 41 (.call 136 [40]) 7,Fa 42 3 2,qd 43 (.zi 42) 16,qd 44 (.call 135 [43]) 63,qd 45 (.call 138 [(cI 10),44]) 127,qd 46 (.call 137 [41,45]) 255,qd 47 (.call 140 [46]) 511,qk (.store 3 4 47) 1023] true) .ret) (.seq (OP [Bi 49 .eql 7 (cI 4),qm 48 49]) (.cond 48 (.seq (OP [qm 50 1,Bi 51 .gtr 50 (cI 0)]) (.cond 51 (.seq (.ops [Fa 52 2 2,qd 53 (.zi 52) 1,qd 54 (.call 135 [53]) 3,LA 55 7 2,qm 56 1,qd 57 (.bin .sub 56 (cI 1)) 16,qd 58 (.call 143 [55,57]) 63,qd 59 (.call 138 [(cI 7),58]) 127,qd 60 (.call 142 [54,59]) 255,q 5 (.alloc [(.int .i64 0),(.int .i64 0),(.slice none 0 0)]),qk (.store 3 5 60) 1023] true) (.seq (.ops [Fa 61 2 2,qd 62 (.zi 61) 1,qd 63 (.call 135 [62]) 3,qd 64 (.call 136 [63]) 7,LA 65 3 5,qd 66 (.call 141 [64,65]) 31,Fa 67 2 2,qd 68 (.zi 67) 64,qd 69 (.call 135 [68]) 255,qd 70 (.call 136 [69]) 511,qd 71 (.call 140 [70]) 1023,qd 72 (.call 137 [66,71]) 2047,qk (.store 3 4 72) 4095] true) .ret)) .skip)) .skip)))))))))))) (.seq (OP [Fa 73 2 2,Lo 74 73,Ca 75 135 [74],Ca 76 136 [75],Ca 77 140 [76],So 3 4 77]) .ret))
theorem zmt:zz Tryz.prog 143 78 [.agg 4 3] c143:=fK Tryz.func143
def c198:PC:=.seq (OP [q 6 (.alloc [(.int .i64 0),(.int .i64 0),(.slice none 0 0)])]) (.seq (.seq (OP [qm 7 0]) (.cond 7 (.seq (OP [qm 8 1,q 9 (.vI 8 []),qm 10 2,q 11 (.vI 10 []),Ca 12 141 [9,11],qm 13 1,q 14 (.vI 13 []),Ca 15 140 [14],Ca 16 137 [12,15],So 3 6 16]) .ret) .skip)) (.seq (OP [qm 17 1,q 18 (.vI 17 []),qm 19 2,q 20 (.vI 19 []),Ca 21 141 [18,20],So 3 6 21]) .ret))
theorem zr1:zz Tryz.prog 198 22 [.agg 6 3] c198:=fK Tryz.func198
def c196:PC:=.seq (OP [q 1 (.alloc [(.int .i64 0),(.int .i64 0),(.slice none 0 0)])]) (.seq (OP [Fa 2 2 0,Lo 3 2,Ca 4 135 [3],Ca 5 136 [4],So 3 1 5]) .ret)
theorem zsp:zz Tryz.prog 196 6 [.agg 1 3] c196:=fK Tryz.func196
def c197:PC:=.seq (OP [q 1 (.alloc [(.int .i64 0),(.int .i64 0),(.slice none 0 0)])]) (.seq (OP [Fa 2 5 0,Lo 3 2,Ca 4 135 [3],So 3 1 4]) .ret)
theorem ztQ:zz Tryz.prog 197 5 [.agg 1 3] c197:=fK Tryz.func197
def c199:PC:=.seq (OP [q 1 (.alloc [(.int .i64 0),(.int .i64 0),(.slice none 0 0)])]) (.seq (OP [Fa 2 2 0,Lo 3 2,Ca 4 135 [3],So 3 1 4]) .ret)
theorem zsJ:zz Tryz.prog 199 5 [.agg 1 3] c199:=fK Tryz.func199
def c200:PC:=.seq (OP [q 2 (.alloc [(.int .i64 0),(.int .i64 0),(.slice none 0 0)])]) (.seq (.ops [Fa 3 3 0,qd 4 (.zi 3) 1,qd 5 (.call 135 [4]) 3,Lo 6 1,qd 7 (.vI 6 []) 15,qd 8 (.call 137 [5,7]) 31,qk (.store 3 2 8) 63] true) .ret)
theorem zuV:zz Tryz.prog 200 9 [.agg 2 3] c200:=fK Tryz.func200
def c201:PC:=.seq (OP [q 3 (.alloc [(.int .i64 0),(.int .i64 0),(.slice none 0 0)])]) (.seq (.ops [Lo 4 0,qd 5 (.vI 4 []) 1,Lo 6 1,qd 7 (.vI 6 []) 7,qd 8 (.call 136 [7]) 15,Fa 9 3 2,qd 10 (.zi 9) 32,qd 11 (.call 135 [10]) 127,Lo 12 1,qd 13 (.vI 12 []) 511,qd 14 (.call 136 [13]) 1023,qd 15 (.call 142 [11,14]) 2047,qd 16 (.call 141 [8,15]) 4095,qd 17 (.call 137 [5,16]) 8191,qk (.store 3 3 17) 16383] true) .ret)
theorem zuM:zz Tryz.prog 201 18 [.agg 3 3] c201:=fK Tryz.func201
def c202:PC:=.seq (OP [q 4 (.alloc [(.int .i64 0),(.int .i64 0),(.slice none 0 0)])]) (.seq (.ops [Lo 5 0,qd 6 (.vI 5 []) 1,Fa 7 2 1,qd 8 (.zi 7) 4,qd 9 (.call 135 [8]) 15,Lo 10 0,qd 11 (.vI 10 []) 63,qd 12 (.call 136 [11]) 127,qd 13 (.call 142 [9,12]) 255,LA 14 7 1,Lo 15 2,qd 16 (.bin .sub 15 (cI 1)) 1024,Lo 17 3,qd 18 (.call 139 [14,16,17]) 8191,qd 19 (.call 138 [(cI 7),18]) 16383,qd 20 (.call 142 [13,19]) 32767,qd 21 (.call 137 [6,20]) 65535,qk (.store 3 4 21) 131071] true) .ret)
theorem ztk:zz Tryz.prog 202 22 [.agg 4 3] c202:=fK Tryz.func202
def c139:PC:=.seq (OP [Bx 3 0,Bx 4 1,Bx 5 2,q 6 (.alloc [(.int .i64 0),(.int .i64 0),(.slice none 0 0)])]) (.seq (OP [q 10 (.ZP (.func 196) [] [3]),q 7 (.alloc [(.nilFunc)]),So 1 7 10]) (.seq (OP [q 11 (.ZP (.func 197) [] [3]),q 8 (.alloc [(.nilFunc)]),So 1 8 11]) (.seq (.seq (.stop (OP [Fa 12 0 3,Lo 13 12])) (.block 0 (.seq (OP [Bi 15 .eql 13 (cI 2),qm 14 15]) (.cond 14 (.seq (OP [Lo 16 5,q 17 (.ZP (.func 199) [] [3]),Lo 18 8,Ca 19 198 [16,17,18],So 3 6 19]) .ret) (.seq (OP [Bi 21 .eql 13 (cI 3),qm 20 21]) (.cond 20 (.seq (.ops [Lo 22 8,qd 23 (.vI 22 []) 1,qd 24 (.call 136 [23]) 3,Fa 25 2 3,qd 26 (.zi 25) 8,qd 27 (.call 135 [26]) 31,Lo 28 8,qd 29 (.vI 28 []) 127,qd 30 (.call 136 [29]) 255,qd 31 (.call 142 [27,30]) 511,qd 32 (.call 141 [24,31]) 1023,qk (.store 3 6 32) 2047] true) .ret) (.seq (OP [Bi 34 .eql 13 (cI 5),qm 33 34]) (.cond 33 (.seq (OP [Lo 35 5,Lo 36 7,q 37 (.ZP (.func 200) [] [3,8]),Ca 38 198 [35,36,37],So 3 6 38]) .ret) (.seq (OP [Bi 40 .eql 13 (cI 6),qm 39 40]) (.cond 39 (.seq (OP [q 41 (.ZP (.func 201) [] [7,8,3]),qm 9 41]) (.seq (OP [Lo 42 5,qm 43 9,Lo 44 8,Ca 45 198 [42,43,44],So 3 6 45]) .ret)) (.seq (OP [Bi 47 .eql 13 (cI 4),qm 46 47]) (.cond 46 (.seq (OP [Lo 48 4,Bi 49 .gtr 48 (cI 0)]) (.cond 49 (.seq (OP [Lo 50 5,Lo 51 7,q 52 (.ZP (.func 202) [] [8,3,4,5]),Ca 53 198 [50,51,52],So 3 6 53]) .ret) .skip)) .skip)))))))))))) (.seq (OP [Lo 54 5,Lo 55 7,Lo 56 8,Ca 57 198 [54,55,56],So 3 6 57]) .ret))))
theorem zt5:zz Tryz.prog 139 58 [.agg 6 3] c139:=fK Tryz.func139
def c86:PC:=.seq (OP [Bx 1 0,q 2 (.alloc [(.int .i64 0),(.int .i64 0),(.slice none 0 0)])]) (.seq (.ops [Fa 5 4 1,qd 6 (.zi 5) 1,qd 7 (.call 135 [6]) 3,Fa 8 5 1,qd 9 (.zi 8) 8,qd 10 (.call 135 [9]) 31,qd 11 (.call 136 [10]) 63,q 3 (.alloc [(.int .i64 0),(.int .i64 0),(.slice none 0 0)]),q 4 (.alloc [(.int .i64 0),(.int .i64 0),(.slice none 0 0)]),qk (.store 3 3 7) 511,qk (.store 3 4 11) 1023] true) (.seq (.seq (OP [Fa 12 1 1,Lo 13 12]) (.block 0 (.seq (OP [Bi 15 .eql 13 (cI 2),qm 14 15]) (.cond 14 (.seq (.ops [Fa 16 5 1,qd 17 (.zi 16) 1,qd 18 (.call 135 [17]) 3,qd 19 (.call 138 [(cI 10),18]) 7,qd 20 (.call 136 [19]) 15,LA 21 7 1,Fa 22 6 1,qd 23 (.zi 22) 64,qd 24 (.call 139 [21,23,cF]) 255,qd 25 (.call 137 [20,24]) 511,qk (.store 3 2 25) 1023] true) .ret) (.seq (OP [Bi 27 .eql 13 (cI 3),qm 26 27]) (.cond 26 (.seq (.ops [LA 28 3 3,qd 29 (.call 136 [28]) 1,qd 30 (.call 140 [29]) 3,Fa 31 4 1,qd 32 (.zi 31) 8,qd 33 (.call 135 [32]) 31,qd 34 (.call 136 [33]) 63,Fa 35 4 1,qd 36 (.zi 35) 128,qd 37 (.call 135 [36]) 511,LA 38 7 1,Fa 39 6 1,qd 40 (.zi 39) 2048,qd 41 (.call 143 [38,40]) 8191,qd 42 (.call 142 [37,41]) 16383,qd 43 (.call 141 [34,42]) 32767,qd 44 (.call 137 [30,43]) 65535,qk (.store 3 2 44) 131071] true) .ret) (.seq (OP [Bi 46 .eql 13 (cI 4),qm 45 46]) (.cond 45 (.seq (.ops [LA 47 3 3,LA 48 3 4,qd 49 (.call 142 [47,48]) 3,Fa 50 5 1,qd 51 (.zi 50) 8,qd 52 (.call 135 [51]) 31,qd 53 (.call 138 [(cI 10),52]) 63,qd 54 (.call 142 [49,53]) 127,qd 55 (.call 136 [54]) 255,LA 56 7 1,Fa 57 6 1,qd 58 (.zi 57) 1024,qd 59 (.call 139 [56,58,cF]) 4095,qd 60 (.call 137 [55,59]) 8191,qd 61 (.call 140 [60]) 16383,qk (.store 3 2 61) 32767] true) .ret) (.seq (OP [Bi 63 .eql 13 (cI 5),qm 62 63]) (.cond 62 (.seq (.ops [LA 64 3 3,LA 65 3 4,qd 66 (.call 142 [64,65]) 3,qd 67 (.call 136 [66]) 7,LA 68 7 1,Fa 69 6 1,qd 70 (.zi 69) 32,qd 71 (.call 139 [68,70,cT]) 127,qd 72 (.call 137 [67,71]) 255,qd 73 (.call 140 [72]) 511,qk (.store 3 2 73) 1023] true) .ret) .skip)))))))))) (.seq (OP [LA 74 7 1,Fa 75 6 1,Lo 76 75,Ca 77 143 [74,76],So 3 2 77]) .ret)))
theorem zxI:zz Tryz.prog 86 78 [.agg 2 3] c86:=fK Tryz.func86
theorem zld (x:Zt):∀n:Nat,n≤3→zu Tryz.prog 143 [zas x,.sc (.int .i64 n)] (yk (Ja x n)):=by
 intro n
 induction n with
 | zero =>
  intro _
  refine zb zmt zs (by simp[ze,Pure,YP]) ?_ (zA _)
  refine sR ?_
  repeat' (first
   | refine sS (λh=>?_) λh=>?_
   | refine sC (uU _) ?_
   | refine sC (WQ _) ?_
   | refine sC (WW _) ?_
   | refine sC (QA _ _) ?_
   | refine sC (UN _ _) ?_
   | refine sC (Y0 _ _) ?_
   | refine sC (WV 10 _) ?_
   | exact Zi (by simp_all [Ja,zgy,noP]) (.refl _))
 | succ n ih =>
  intro hn
  have ih:=ih zo
  refine zb zmt zs (by simp[ze,Pure,YP]) ?_ (zA _)
  refine sR ?_
  repeat' (first
   | refine sS (λh=>?_) λh=>?_
   | refine sC (uU _) ?_
   | refine sC (WQ _) ?_
   | refine sC (WW _) ?_
   | refine sC (QA _ _) ?_
   | refine sC (UN _ _) ?_
   | refine sC (Y0 _ _) ?_
   | refine sC (WV 10 _) ?_
   | refine sC (WV 7 _) ?_
   | refine sC ih ?_
   | (refine .inl ⟨by unfold InR;rw[IntKind.wrap_i64];omega,?_⟩;rw[show(((n+1:Nat):Int)-1)=(n:Int) by omega];refine sW ?_)
   | exact Zi (by simp_all [Ja,zgy,noP]) (.refl _))
theorem Y3 (weak:Bool) (f g:FuncId) (c1 c2:List D) (h1:ze c1) (h2:ze c2) (a b:Tree) (hA:zu Tryz.prog f c1 (yk a)) (hB:zu Tryz.prog g c2 (yk b)) :
  zu Tryz.prog 198 [.sc (.bool weak),.fn (.func f) [] c1,.fn (.func g) [] c2] (yk (Qa weak a b)):=by
 refine zb zr1 zs (by simp[ze,Pure,h1,h2]) ?_ (zA _)
 refine sR ?_
 repeat' (first
  | refine sS (λh=>?_) λh=>?_
  | refine sC hA ?_
  | refine sC hB ?_
  | refine sC (WW _) ?_
  | refine sC (QA _ _) ?_
  | refine sC (Y0 _ _) ?_
  | exact Zi (by simp_all [Qa]) (.refl _))
def ziQ (x:Zt):D:=.fn (.func 196) [] [.xk (zV x)]
def fnR (x:Zt):D:=.fn (.func 197) [] [.xk (zV x)]
theorem zcK (x:Zt):zu Tryz.prog 196 [.xk (zV x)] (yk (noP x)):=by
 refine zb zsp zs (by simp[ze,Pure,zV]) ?_ (zA _)
 refine sR ?_
 refine sC (uU _) ?_
 refine sC (WQ _) ?_
 exact .refl _
theorem QW (x:Zt):zu Tryz.prog 197 [.xk (zV x)] (yk (xD 3 x.r)):=by
 refine zb ztQ zs (by simp[ze,Pure,zV]) ?_ (zA _)
 refine sR ?_
 refine sC (uU _) ?_
 exact .refl _
theorem zv6 (x:Zt):zu Tryz.prog 199 [.xk (zV x)] (yk (xD 3 x.p)):=by
 refine zb zsJ zs (by simp[ze,Pure,zV]) ?_ (zA _)
 refine sR ?_
 refine sC (uU _) ?_
 exact .refl _
theorem zyz (x:Zt):zu Tryz.prog 200 [.xk (zV x),.xk [fnR x]] (yk (uS 6 (xD 3 x.s) (xD 3 x.r))):=by
 refine zb zuV zs (by simp[ze,Pure,zV,fnR]) ?_ (zA _)
 refine sR ?_
 repeat' (first
  | refine sC (uU _) ?_
  | refine sC (QW x) ?_
  | refine sC (QA _ _) ?_
  | exact Zi rfl (.refl _))
theorem zwj (x:Zt):zu Tryz.prog 201 [.xk [ziQ x],.xk [fnR x],.xk (zV x)] (yk (zmW x)):=by
 refine zb zuM zs (by simp[ze,Pure,zV,fnR,ziQ]) ?_ (zA _)
 refine sR ?_
 repeat' (first
  | refine sC (uU _) ?_
  | refine sC (zcK x) ?_
  | refine sC (QW x) ?_
  | refine sC (QA _ _) ?_
  | refine sC (UN _ _) ?_
  | refine sC (Y0 _ _) ?_
  | refine sC (WQ _) ?_
  | exact Zi rfl (.refl _))
theorem zvS (x:Zt) (n:Nat) (hn:n≤3) (weak:Bool) (T:Tree) (h:zu Tryz.prog 139 [zas x,.sc (.int .i64 n),.sc (.bool weak)] (yk T)) :
  zu Tryz.prog 202 [.xk [fnR x],.xk (zV x),.xk [.sc (.int .i64 ((n+1:Nat):Int))],.xk [.sc (.bool weak)]] (yk (zi5 x T)):=by
 refine zb ztk zs (by simp[ze,Pure,zV,fnR]) ?_ (zA _)
 refine sR ?_
 repeat' (first
  | refine sC (uU _) ?_
  | refine sC (QW x) ?_
  | refine sC (QA _ _) ?_
  | refine sC (UN _ _) ?_
  | refine sC (WV 7 _) ?_
  | refine sC (WQ _) ?_
  | refine sC h ?_
  | (refine .inl ⟨by unfold InR;rw[IntKind.wrap_i64];omega,?_⟩;rw[show(((n+1:Nat):Int)-1)=(n:Int) by omega];refine sW ?_)
  | exact Zi rfl (.refl _))
theorem zrg (x:Zt) (n:Nat) (weak:Bool) (T:Tree) (h6:0<n→zu Tryz.prog 202 [.xk [fnR x],.xk (zV x),.xk [.sc (.int .i64 n)],.xk [.sc (.bool weak)]] (yk (zi5 x T))) :
  zu Tryz.prog 139 [zas x,.sc (.int .i64 n),.sc (.bool weak)] (yk (upN x weak (decide (0<n)) T)):=by
 refine zb zt5 zs (by simp[ze,Pure,YP]) ?_ (zA _)
 refine sR ?_
 refine zE (qf (λi=>!(Nat.beq i 3)) (env':=[(3,.xk (zV x)),(4,.xk [.sc (.int .i64 n)]),(5,.xk [.sc (.bool weak)]),(6,.loc 3 0),(7,.xk [ziQ x]),(8,.xk [fnR x])])
  (H':=[.row false (zV x),.row false [.sc (.int .i64 n)],.row false [.sc (.bool weak)],.row true [.sc (.int .i64 0),.sc (.int .i64 0),.sc (.slice none 0 0)],.row false [ziQ x],.row false [fnR x]]) ?_ ?_) ?_
 ·exact sD
 ·exact sD
 refine sR ?_
 repeat' (first
  | refine sS (λh=>?_) λh=>?_
  | refine sC (uU _) ?_
  | refine sC (zcK x) ?_
  | refine sC (QW x) ?_
  | refine sC (WQ _) ?_
  | refine sC (UN _ _) ?_
  | refine sC (Y0 _ _) ?_
  | refine sC (Y3 weak _ _ _ _ (by simp[ze,Pure,zV]) (by simp[ze,Pure,zV]) _ _ (zv6 x) (QW x)) ?_
  | refine sC (Y3 weak _ _ _ _ (by simp[ze,Pure,zV]) (by simp[ze,Pure,zV,fnR]) _ _ (zcK x) (zyz x)) ?_
  | refine sC (Y3 weak _ _ _ _ (by simp[ze,Pure,zV,fnR,ziQ]) (by simp[ze,Pure,zV]) _ _ (zwj x) (QW x)) ?_
  | refine sC (Y3 weak _ _ _ _ (by simp[ze,Pure,zV]) (by simp[ze,Pure,zV,fnR]) _ _ (zcK x) (h6 (sO))) ?_
  | refine sC (Y3 weak _ _ _ _ (by simp[ze,Pure,zV]) (by simp[ze,Pure,zV]) _ _ (zcK x) (QW x)) ?_
  | exact Zi (by simp_all [upN,Qa,noR]) (.refl _))
theorem zqP (x:Zt) (weak:Bool):∀n:Nat,n≤3→zu Tryz.prog 139 [zas x,.sc (.int .i64 n),.sc (.bool weak)] (yk (upT x weak n)):=by
 intro n
 induction n with
 | zero=>exact λ_=>zrg x 0 weak (xD 0 0) (λh=>zo)
 | succ n ih =>
  intro hn
  have:=zrg x (n+1) weak (upT x weak n) (λ_=>zvS x n zo weak _ (ih zo))
  rw[show decide (0<n+1)=true from rfl] at this
  exact this
theorem zpR (x:Zt) (h:vR x=0):zu Tryz.prog 86 [zas x] (yk (yO x)):=by
 have hc:0≤x.count∧x.count≤3:=by
  unfold vR at h
  split at h<;>omega
 have hn:x.count=(x.count.toNat:Int):=zo
 have hg:=zld x x.count.toNat zo
 have hu:=λweak=>zqP x weak x.count.toNat zo
 rw[←hn] at hg hu
 clear hn hc h
 refine zb zxI zs (by simp[ze,YP]) ?_ (zA _)
 refine sR ?_
 repeat' (first
  | refine sS (λh=>?_) λh=>?_
  | refine sC hg ?_
  | refine sC (hu true) ?_
  | refine sC (hu false) ?_
  | refine sC (uU _) ?_
  | refine sC (WQ _) ?_
  | refine sC (WW _) ?_
  | refine sC (QA _ _) ?_
  | refine sC (UN _ _) ?_
  | refine sC (Y0 _ _) ?_
  | refine sC (WV 10 _) ?_
  | exact Zi (by simp_all [yO,noR]) (.refl _))
end
section
open Go.RowKit
set_option maxHeartbeats 4000000
end
section
open Go.RowKit
end
section
open Go.RowKit
noncomputable def Qh (e:Int) (t:Tree):D:=.yI [yk (if e=0 then t else xD 0 0),.sc (.int .i64 e)]
theorem zeg (e:Int) (t:Tree):Pure (Qh e t):=by simp[Qh,Pure,ze,zA]
theorem zgn {H:List zf} {e:Int} (h:e≠0) (t:Tree):Deep H (.yI [.agg [.sc (.int .i64 0),.sc (.int .i64 0),.sc (.slice none 0 0)],.sc (.int .i64 e)]) (Qh e t):=by
 unfold Qh
 rw[if_neg h]
 exact .yI _ _ (.cons _ _ _ _ znY (.cons _ _ _ _ (.refl _) .nil))
theorem zlk {H:List zf} {e:Int} (h:e=0) {d:D} {t:Tree} (k:Deep H d (yk t)):Deep H (.yI [d,.sc (.int .i64 0)]) (Qh e t):=by
 subst h
 unfold Qh
 rw[if_pos rfl]
 exact .yI _ _ (.cons _ _ _ _ k (.cons _ _ _ _ (.refl _) .nil))
noncomputable def zav (x:Zt):Int:=if vR x=0 then xc zS (yO x) else vR x
noncomputable def zu4 (k a b c:Int):Int:=if zb8 k a b c=0 then xc zS (zm0 k a b c) else zb8 k a b c
def c47u:PC:=.seq (OP [Bx 1 0,q 2 (.alloc [(.int .i64 0),(.int .i64 0),(.slice none 0 0)]),Mv 3 (cI 0)]) (.seq (.seq (OP [LA 7 7 1,Ca 8 66 [7],qm 4 8]) (.seq (OP [qm 9 4,Bi 10 .neq 9 (cI 0)]) (.cond 10 (.seq (OP [q 11 (.build [(.int .i64 0),(.int .i64 0),(.slice none 0 0)] []),qm 12 4,So 3 2 11,qm 3 12]) .ret) .skip))) (.seq (OP [LA 13 7 1,Ca 14 86 [13],q 5 (.alloc [(.int .i64 0),(.int .i64 0),(.slice none 0 0)]),So 3 5 14]) (.seq (.seq (OP [LA 15 3 5,Ca 16 49 [15],qm 6 16]) (.seq (OP [qm 17 6,Bi 18 .neq 17 (cI 0)]) (.cond 18 (.seq (OP [q 19 (.build [(.int .i64 0),(.int .i64 0),(.slice none 0 0)] []),qm 20 6,So 3 2 19,qm 3 20]) .ret) .skip))) (.seq (OP [LA 21 3 5,So 3 2 21,Mv 3 (cI 0)]) .ret))))
theorem zto:zz Tryz.prog 47 22 [.agg 2 3,.tmp 3] c47u:=fK Tryz.func47
theorem zoF (x:Zt):zu Tryz.prog 47 [zas x] (Qh (zav x) (yO x)):=by
 refine zb zto zs (by simp[ze,YP]) ?_ (zeg _ _)
 unfold zav
 refine sR ?_
 refine sC (zai x) ?_
 refine sS (λh1=>?_) λh1=>?_
 ·rw[if_neg (sO)]
  exact zgn (sO) _
 ·have h0:vR x=0:=sO
  rw[if_pos h0]
  refine sC (zpR x h0) ?_
  refine sC (Uz _ (zab x)) ?_
  refine sS (λh2=>?_) λh2=>?_
  ·exact zgn (sO) _
  ·exact zlk (sO) (.refl _)
end
section
open Go.RowKit
def W7 (name:ByteArray) (sort:Int) (x:Zt) (k a b c:Int) (f g:Tree):List D:=.sc (.string name)::.sc (.int .i64 sort)::(zV x++(WU k a b c++(yS f++yS g)))
def Zd (name:ByteArray) (sort:Int) (x:Zt) (k a b c:Int) (f g:Tree):D:=.agg (W7 name sort x k a b c f g)
theorem zaR {a b:List D} (h:ze a) (k:ze b):ze (a++b):=by
 induction a with
 | nil=>exact k
 | cons d r ih=>exact⟨h.1,ih h.2⟩
theorem u7 (name:ByteArray) (sort:Int) (x:Zt) (k a b c:Int) (f g:Tree):Pure (Zd name sort x k a b c f g):=by
 simp only[Zd,Pure,W7,ze,true_and]
 exact zaR (by simp[zV,ze,Pure]) (zaR (by simp[WU,ze,Pure]) (zaR (yj f) (yj g)))
noncomputable def zc2 (sort:Int) (x:Zt) (k a b c:Int) (f:Tree):Int:=if sort=1 then zav x else if sort=2 then zu4 k a b c else if sort=3 then xc zS f else 1
noncomputable def wN (sort:Int) (x:Zt) (k a b c:Int) (f:Tree):Tree:=if sort=1 then yO x else if sort=2 then zm0 k a b c else f
def c21:PC:=.seq (OP [Bx 1 0,q 2 (.alloc [(.int .i64 0),(.int .i64 0),(.slice none 0 0)]),Mv 3 (cI 0)]) (.seq (.seq (OP [Fa 5 1 1,Lo 6 5]) (.block 0 (.seq (OP [Bi 8 .eql 6 (cI 1),qm 7 8]) (.cond 7 (.seq (OP [Fa 9 2 1,LA 10 7 9,Ca 11 47 [10],Xt 12 0 11,Xt 13 1 11,So 3 2 12,qm 3 13]) .ret) (.seq (OP [Bi 15 .eql 6 (cI 2),qm 14 15]) (.cond 14 (.seq (OP [Fa 16 9 1,LA 17 4 16,Ca 18 48 [17],Xt 19 0 18,Xt 20 1 18,So 3 2 19,qm 3 20]) .ret) (.seq (OP [Bi 22 .eql 6 (cI 3),qm 21 22]) (.cond 21 (.seq (.seq (OP [Fa 23 13 1,LA 24 3 23,Ca 25 49 [24],qm 4 25]) (.seq (OP [qm 26 4,Bi 27 .neq 26 (cI 0)]) (.cond 27 (.seq (OP [q 28 (.build [(.int .i64 0),(.int .i64 0),(.slice none 0 0)] []),qm 29 4,So 3 2 28,qm 3 29]) .ret) .skip))) (.seq (OP [Fa 30 13 1,LA 31 3 30,Ca 32 50 [31],So 3 2 32,Mv 3 (cI 0)]) .ret)) .skip)))))))) (.seq (OP [q 33 (.build [(.int .i64 0),(.int .i64 0),(.slice none 0 0)] []),So 3 2 33,Mv 3 (cI 1)]) .ret))
theorem zyA:zz Tryz.prog 21 34 [.agg 2 3,.tmp 3] c21:=fK Tryz.func21
theorem zjj (sort:Int) (x:Zt) (k a b c:Int) (f:Tree) (hf:Small f):Small (wN sort x k a b c f):=by
 unfold wN
 split
 ·exact zab x
 ·split
  ·exact ziw k a b c
  ·exact hf
end
section
theorem wI {a b:Int} (h:a≠b):(a==b)=false:=by simpa using h
theorem zgT {a b:Int} (h:a=b):(a==b)=true:=by simpa using h
def rnm (names:List ByteArray) (silent:Bool) (n:Int):ByteArray :=
 if n=63∧silent=true then W5
 else if n<0∨(names.length:Int)≤n∨63≤n then ⟨#[]⟩
 else if x7 (names.getD n.toNat ⟨#[]⟩)=false then ⟨#[]⟩
 else if zeP names n.toNat (names.getD n.toNat ⟨#[]⟩)=true then ⟨#[]⟩
 else names.getD n.toNat ⟨#[]⟩
def Ug (x:Zt):List Int:=if x.kind=5∨x.kind=6 then [x.s,x.p] else [x.p]
def VC (x:Zt):List Int:=if x.scope=2 then [x.r] else if x.scope=3 then [x.q] else if x.scope=4∨x.scope=5 then [x.q,x.r] else []
def zvZ (k a b:Int):List Int:=if k≤4 then [a] else [a,b]
def zcE (names:List ByteArray) (silent:Bool) (n:Int):Bool:=Yz (rnm names silent n) ⟨#[]⟩
def Wv (names:List ByteArray) (sort:Int) (x:Zt) (k a b c:Int) (f g:Tree):Int :=
 if sort=1 then (if vR x=0∧(Ug x++VC x).any (zcE names true)=true then 4 else vR x)
 else if sort=2 then (if zb8 k a b c=0∧(zvZ k a b).any (zcE names false)=true then 4 else zb8 k a b c)
 else if sort=3 then (if xc zS f=0 then (if okN names f then 0 else 4) else xc zS f)
 else if sort=4 then (if xc zvt g=0 then (if okN names g then 0 else 4) else xc zvt g) else 0
def zhd (sort:Int) (x:Zt) (k a b c:Int) (f g:Tree):Bool :=
 decide (sort≠1)&&!(x.kind==0&&x.scope==0&&x.p==0&&x.s==0&&x.q==0&&x.r==0&&x.count==0)||decide (sort≠2)&&!(k==0&&a==0&&b==0&&c==0) ||
  decide (sort≠3)&&(f.kind != 0||f.num != 0||decide (f.width>0))||decide (sort≠4)&&(g.kind != 0||g.num != 0||decide (g.width>0))
def XQ (names:List ByteArray) (name:ByteArray) (sort:Int) (x:Zt) (k a b c:Int) (f g:Tree):Int :=
 if x7 name=false∨sort<1∨4<sort then 1 else if Wv names sort x k a b c f g≠0 then Wv names sort x k a b c f g else if zhd sort x k a b c f g=true then 1 else 0
end
section
open Go.RowKit
end
section
open Classical in
end
section
section
open Go.RowKit
end
section
open Go.RowKit
end
section
open Go.RowKit
end
end
section
open Go.RowKit
end
section
open Go.RowKit
theorem zid {N:List (List zy)} {x:Int}:∀{n:Nat},x∈zgU N n→∃m,m<n∧x∈YI N m
 | 0,h=>by simp[zgU] at h
 | n+1,h=>by
  simp only[zgU,List.mem_append] at h
  rcases h with h|h
  ·obtain⟨m,h1,h2⟩:=zid h
   exact⟨m,zo,h2⟩
  ·exact⟨n,zo,h⟩
theorem zhM {M:List (List Int)} {N:List (List zy)} {s:Nat} (h:SpN M N s) {m:Nat} (hm:m<N.length) {x:Int} (hx:x∈YI N m):0≤x∧x.toNat<N.length:=by
 unfold YI at hx
 split at hx
 ·rw[List.mem_singleton] at hx;subst hx;omega
 ·obtain⟨e,he,rfl⟩:=List.mem_map.1 hx
  have hr:N.getD m []∈N:=by rw[List.getD_eq_getElem?_getD,List.getElem?_eq_getElem hm];simp
  have:=h.zwt _ hr e he
  have:=h.len
  omega
theorem zcg {N:List (List zy)} {t n:Nat} (ht:t<n) {x:Int} (hx:x∈qN N t):0≤x∧x<(y3 N n:Int):=by
 obtain⟨i,hi,rfl⟩:=List.mem_map.1 hx
 have hi:=List.mem_range.1 hi
 have:=ub (N:=N) (show t+1≤n by omega)
 rw[wj] at this
 omega
noncomputable def Vu (P:za) (tok st:Int):zK:=⟨qN (P.xI tok st) 0,yX (P.xI tok st),Ye P.zx (P.xI tok st),ZI P.zx (P.xI tok st)⟩
theorem zzX (P:za) (tok st:Int):Yt (Vu P tok st)=znT (qN (P.xI tok st) 0) (yX (P.xI tok st)) (Ye P.zx (P.xI tok st)) (ZI P.zx (P.xI tok st)):=rfl
theorem za0 {N:List (List zy)} {of:List zy} {s x:Int}:∀{i:Nat},x∈vS N of s i→0≤x∧x<(i:Int)
 | 0,h=>by simp[vS] at h
 | i+1,h=>by
  simp only[vS] at h
  split at h
  ·rcases List.mem_append.1 h with h|h
   ·have:=za0 h;omega
   ·rw[List.mem_singleton] at h;subst h;omega
  ·have:=za0 h;omega
structure zuv (W:zK):Prop where
 fits:W.Fits
 xc:W.xc=0
 zui:Lett W.label
 start:W.start.length≤1048576
 rows:∀l∈W.next,l.length≤1048576
theorem zlz {P:za} (h:P.yz=0) (z:Int):0≤Qk P.zx z∧Qk P.zx z<18446744073709551616:=by
 unfold Qk
 split
 ·omega
 ·have hp:∀k:Nat,k≤63→(0:Int)≤2^k∧(2:Int)^k<18446744073709551616:=λk hk=>by
   have h1:(2:Nat)^k≤2^63:=Nat.pow_le_pow_right zo hk
   have h3:(2:Nat)^63=9223372036854775808:=zc
   rw[zd6 k]
   generalize (2:Nat)^k=z at *
   omega
  refine hp _ ?_
  by_cases hz:z.toNat<P.zx.length
  ·have h1:=(za.ZD h hz).node
   have:=(yM (za.yH h).1).1
   omega
  ·rw[List.getD_eq_getElem?_getD,List.getElem?_eq_none zo]
   simp
theorem zkR {P:za} {tok st:Int} (he:P.Vr tok st=0) (hA:y3 (P.xI tok st) (P.xI tok st).length≤600):zuv (Vu P tok st):=by
 have hF:=xY he
 have hS:=hF.sp
 obtain⟨_,_,h60⟩:=za.yH hF.steps
 have hlab:=λz=>zlz (P:=P) hF.steps z
 have hpos:1≤(P.xI tok st).length:=by have:=hS.len;have:=hS.pos;omega
 unfold Vu
 generalize P.xI tok st=N at *
 generalize P.exM tok st=M at *
 have hnl:=uv N
 have hll:=zgf P.zx N
 have hfl:=zdZ P.zx N
 have hm:∀t,t<N.length→xf N t≤600:=λt ht=>by
  have:=ub (N:=N) (show t+1≤N.length by omega)
  rw[wj] at this
  omega
 have hnx:∀l∈yX N,l≠[]∧l.length≤600∧xv l (yX N).length=true:=λl hl=>by
  obtain⟨x,hx,rfl⟩:=List.mem_map.1 hl
  obtain⟨m,m1,m2⟩:=zid hx
  obtain⟨x1,x2⟩:=zhM hS m1 m2
  refine⟨λh=>?_,?_,xN λy hy=>?_⟩
  ·have h1:=VE N x.toNat
   have h2:=ziy N x.toNat
   rw[h] at h1
   simp at h1
   omega
  ·rw[VE];exact hm _ x2
  ·rw[hnl];exact zcg x2 hy
 have hst:xv (qN N 0) (yX N).length=true:=xN λy hy=>by rw[hnl];exact zcg hpos hy
 have hsl:(qN N 0).length≤600:=by rw[VE];exact hm 0 hpos
 have hfr:∀l∈ZI P.zx N,xv l (yX N).length=true∧l.length≤600:=λl hl=>by
  obtain⟨k,hk,rfl⟩:=List.mem_map.1 hl
  refine⟨xN λy hy=>?_,?_⟩
  ·rw[hnl];exact za0 hy
  ·have:=zdR N (wm N N.length) (k:Int) (y3 N N.length);omega
 refine⟨⟨?_,?_,?_,?_,?_,?_⟩,?_,?_,?_,?_⟩
 ·show(qN N 0).length≤_;omega
 ·show(yX N).length≤_;omega
 ·show(Ye P.zx N).length≤_;omega
 ·show(ZI P.zx N).length≤_;omega
 ·intro l hl;have:=hnx l hl;omega
 ·intro l hl;have:=hfr l hl;omega
 ·unfold zK.xc
  dsimp only
  rw[if_neg zo,if_neg (by rw[hst];simp;omega),if_neg,if_neg]
  ·rw[Bool.not_eq_true,List.any_eq_false]
   intro l hl
   rw[(hfr l hl).1];decide
  ·rw[Bool.not_eq_true,List.any_eq_false]
   intro l hl
   obtain⟨h1,_,h2⟩:=hnx l hl
   rw[h2]
   simpa using h1
 ·intro x hx
  obtain⟨e,_,rfl⟩:=List.mem_map.1 hx
  exact hlab e.1
 ·show(qN N 0).length≤_;omega
 ·intro l hl;have:=hnx l hl;omega
theorem zfE:∀{a b:List Int},zw a=zw b→a=b:=λ{a b} h=>by
 unfold zw at h
 injection h with _ h
 induction a generalizing b with
 | nil=>cases b with
  | nil=>rfl
  | cons y b=>simp at h
 | cons x a ih=>cases b with
  | nil=>simp at h
  | cons y b =>
   simp only[List.map_cons,List.cons.injEq,D.sc.injEq,Value.int.injEq,true_and,and_true] at h
   rw[h.1,ih h.2]
theorem zjQ {W:zK} {A:z7} (hb:Ui W A) (ha:uc W A=true) {s l:List Int} (e:Vk W A (yW W A).1 (yW W A).2 (yY W A).2=.yI [.agg [zw s,zw l],.sc (.bool (uc W A)),.sc (.int .i64 0)]) :
  ¬pE (yW W A).2 (wQ W A (yW W A).1)<0∧s=u0 (yW W A).1 ((xG (yW W A).2 (wQ W A (yW W A).1) (yY W A).2).take ((xG (yW W A).2 (wQ W A (yW W A).1) (yY W A).2).length-1)) ∧
   l=u0 (yW W A).1 (Vs (yW W A).2 (wQ W A (yW W A).1) (yD (xG (yW W A).2 (wQ W A (yW W A).1) (yY W A).2)).toNat):=by
 rw[ha] at e
 unfold Vk at e
 split at e
 ·simp at e
 ·rename_i hp
  simp only[D.yI.injEq,List.cons.injEq,D.agg.injEq,and_true,true_and] at e
  exact⟨hp,(zfE e.1).symm,(zfE e.2).symm⟩
theorem zfs {W:zK} {A:z7} (hb:Ui W A) {l:List Int} (h:xv l (yW W A).2.length=true):xv (u0 (yW W A).1 l) W.next.length=true:=xN λx hx=>by
 obtain⟨hN,hg⟩:=XN hb
 obtain⟨n,hn,rfl⟩:=List.mem_map.1 hx
 have h1:=ye h hn
 have:=hN.len
 exact(hg _ (xo (show n.toNat<(yW W A).1.length by omega))).1
theorem zql {W:zK} {A:z7} (hb:Ui W A) (ha:uc W A=true) {s l:List Int} (e:Vk W A (yW W A).1 (yW W A).2 (yY W A).2=.yI [.agg [zw s,zw l],.sc (.bool (uc W A)),.sc (.int .i64 0)]) :
  xv s W.next.length=true∧xv l W.next.length=true∧s.length≤1000000000∧l.length≤1000000000:=by
 obtain⟨hp,rfl,rfl⟩:=zjQ hb ha e
 obtain⟨h1,h2,h3,h4⟩:=zej hb hp
 obtain⟨h5,h6⟩:=zmH h4
 have hG:=(XN hb).1.fits hb (XN hb).2
 have hS:(wQ W A (yW W A).1).length≤160:=by
  obtain⟨_,_,h80,_⟩:=vO W hb.two.cw
  obtain⟨_,_,_,h80',_⟩:=Z3 A hb.two.ca
  unfold wQ
  rw[List.length_append,Yd (Nat.le_refl _),Yd (Nat.le_refl _)]
  omega
 refine⟨zfs hb (xN λx hx=>ye h1 (List.mem_of_mem_take hx)),zfs hb h5,?_,?_⟩
 ·unfold u0;rw[List.length_map,List.length_take];omega
 ·unfold u0;rw[List.length_map]
  have:=Nat.mul_le_mul hS (show(yW W A).2.length≤1228800 by omega)
  omega
end
section
def U6 (g:List (List Int)):List Int→Prop
 | []=>True
 | [_]=>True
 | x::y::r=>y∈g.getD x.toNat []∧U6 g (y::r)
theorem Ql {g:List (List Int)} {y:Int}:∀{l:List Int} {x:Int},U6 g (l++[x])→y∈g.getD x.toNat []→U6 g (l++[x]++[y])
 | [],x,_,h=>⟨h,trivial⟩
 | [a],x,k,h=>⟨k.1,h,trivial⟩
 | a::b::r,x,k,h=>⟨k.1,Ql (l:=b::r) k.2 h⟩
theorem zak {g:List (List Int)}:∀{l m:List Int} {x:Int},U6 g (l++[x])→U6 g (x::m)→U6 g (l++x::m)
 | [],m,x,_,h=>h
 | [a],m,x,k,h=>⟨k.1,h⟩
 | a::b::r,m,x,k,h=>⟨k.1,zak (l:=b::r) k.2 h⟩
def J3 (g:List (List Int)) (from_:List Int) (p:Pr):Prop:=(p.2=-1∧p.1∈from_)∨(0≤p.2∧p.1∈g.getD p.2.toNat [])
theorem zit {g:List (List Int)} {from_:List Int}:∀(r:List Int) {M:List Pr},(∀p∈M,J3 g from_ p)→(∀x∈r,x∈from_)→∀p∈wSt r M,J3 g from_ p
 | [],M,h,_=>h
 | k::r,M,h,hr=>by
  rw[wSt]
  refine zit r (λp hp=>?_) λx hx=>hr x (by simp[hx])
  split at hp
  ·rcases List.mem_append.1 hp with q|q
   ·exact h p q
   ·rw[List.mem_singleton] at q;subst q;exact .inl ⟨rfl,hr k zs⟩
  ·exact h p hp
theorem zfj {g:List (List Int)} {from_:List Int} {ok:Nat→Bool} {n:Int} (hn:0≤n):∀(r:List Int) {M:List Pr},(∀p∈M,J3 g from_ p)→(∀x∈r,x∈g.getD n.toNat [])→∀p∈Wd ok n r M,J3 g from_ p
 | [],M,h,_=>h
 | k::r,M,h,hr=>by
  rw[Wd]
  refine zfj hn r (λp hp=>?_) λx hx=>hr x (by simp[hx])
  split at hp
  ·rcases List.mem_append.1 hp with q|q
   ·exact h p q
   ·rw[List.mem_singleton] at q;subst q;exact .inr ⟨hn,hr k zs⟩
  ·exact h p hp
theorem zfK {g:List (List Int)} (yT:∀l∈g,xv l g.length=true) {to ok:Nat→Bool} {from_:List Int}:∀(f h:Nat) (M:List Pr),Zf g ok from_ M→(∀p∈M,J3 g from_ p)→∀{M' h'},U0 g to ok f h M=some (M',h')→∀p∈M',J3 g from_ p
 | 0,h,M,_,_,M',h',e=>by cases e
 | f+1,h,M,hI,hJ,M',h',e=>by
  rw[U0] at e
  split at e
  ·rename_i q
   split at e
   ·cases e;exact hJ
   ·have hr:=hI.rng _ (xo q)
    refine zfK yT f (h+1) _ (zcr (i0:=h) _ hI q rfl λx hx=>ye (y9 yT _) hx).1 (zfj ?_ _ hJ λx hx=>hx) e
    exact hr.1
  ·cases e
theorem zdP {g:List (List Int)} {ok:Nat→Bool} {from_:List Int} {M:List Pr} (h:Zf g ok from_ M) (hJ:∀p∈M,J3 g from_ p):∀(f t:Nat),t≤M.length→t≤f→0<t →
  ∃R,(ux M f (YE M t)).reverse=R++[YE M t]∧U6 g (R++[YE M t])∧∃x,(R++[YE M t]).head? = some x∧x∈from_
 | 0,t,_,hf,h0=>zo
 | f+1,t,ht,hf,h0=>by
  obtain⟨t',k1,k2,k5,k3,k4⟩:=h.up h0 ht
  rw[ux,if_neg zo,k2,List.reverse_cons]
  have hp:=hJ _ (xo (show t-1<M.length by omega))
  have e1:(M.getD (t-1) (0,0)).1=YE M t:=by unfold YE;rw[if_neg zo];rfl
  unfold J3 at hp
  rw[k5,e1] at hp
  rcases Nat.eq_zero_or_pos t' with q|q
  ·subst q
   have ez:YE M 0=-1:=rfl
   have e0:ux M f (YE M 0)=[]:=by
    cases f with
    | zero=>rfl
    | succ f=>rw[ux,if_pos (by rw[ez];decide)]
   rw[e0]
   refine⟨[],rfl,trivial,_,rfl,?_⟩
   rcases hp with⟨_,hp⟩|⟨hp,_⟩
   ·exact hp
   ·rw[ez] at hp;omega
  ·obtain⟨R,r1,r2,x,r3,r4⟩:=zdP h hJ f t' zo zo q
   rw[r1]
   have hpos:0≤YE M t':=by
    obtain⟨_,_,_,_,z,_⟩:=h.up q zo
    exact z
   refine⟨R++[YE M t'],rfl,Ql r2 ?_,x,?_,r4⟩
   ·rcases hp with⟨hp,_⟩|⟨_,hp⟩
    ·omega
    ·exact hp
   ·cases R with
    | nil=>simpa using r3
    | cons a R=>simpa using r3
theorem zd7 {g:List (List Int)} (yT:∀l∈g,xv l g.length=true) (to ok:Nat→Bool) {from_:List Int} (hf:xv from_ g.length=true) (hne:Xk g to ok from_≠[]) :
  ∃R y,Xk g to ok from_=R++[y]∧to y.toNat=true∧U6 g (R++[y])∧∃x,(R++[y]).head? = some x∧x∈from_:=by
 obtain⟨a,b,_⟩:=zha (ok:=ok) (from_:=from_) from_ (Zf.none g ok from_) λx hx=>⟨hx,ye hf hx⟩
 have hR:=zg2 yT (to:=to) (ok:=ok) (g.length+1) 0 (wSt from_ []) a (Nat.zero_le _) zo b λi hi=>zo
 have hJ0:∀p∈wSt from_ [],J3 g from_ p:=zit from_ zs λx hx=>hx
 unfold Xk at hne ⊢
 cases e:U0 g to ok (g.length+1) 0 (wSt from_ []) with
 | none=>rw[e] at hne;exact absurd rfl hne
 | some q =>
  obtain⟨M,h⟩:=q
  rw[e] at hR
  obtain⟨hI,hh,ht⟩:=hR
  have hJ:=zfK yT _ _ _ a hJ0 e
  have en:yq M h=YE M (h+1):=by unfold YE;rw[if_neg zo];rfl
  obtain⟨R,r1,r2,r3⟩:=zdP hI hJ (M.length+1) (h+1) zo zo zo
  dsimp only
  rw[en]
  exact⟨R,_,r1,by rw[←en];exact ht,r2,r3⟩
theorem zkN (R:List Int) (y:Int):yD (R++[y])=y:=zaK R y
theorem zmZ {l:List Int} (h:l≠[]):∃R,l=R++[yD l]:=by
 refine⟨l.dropLast,?_⟩
 conv=>lhs;rw[←List.dropLast_concat_getLast h]
 congr 2
 unfold yD
 rw[List.getLast_eq_getElem,List.getD_eq_getElem?_getD,List.getElem?_eq_getElem (by have:=List.length_pos_iff.2 h;omega)]
 rfl
theorem zd3 {g:List (List Int)} {F:List (Nat→Bool)} {e:Nat} (H:RH g F e):∀k,k≤F.length→U6 g (vn g F e k)∧(vn g F e k).head? = some (e:Int)∧∀j,j<k→∃x∈vn g F e k,(F.getD j noT) x.toNat=true
 | 0,_=>⟨trivial,rfl,λj hj=>zo⟩
 | k+1,hk=>by
  obtain⟨h1,h2,h3⟩:=zd3 H k zo
  obtain⟨o1,_⟩:=zdQ H k zo
  rw[vn]
  split
  ·rename_i q
   refine⟨h1,h2,λj hj=>?_⟩
   by_cases ej:j=k
   ·subst ej
    obtain⟨x,hx,hx2⟩:=List.any_eq_true.1 q
    exact⟨x,hx,hx2⟩
   ·exact h3 j zo
  ·have hS:F.getD k noT∈F:=by rw[List.getD_eq_getElem?_getD,List.getElem?_eq_getElem (show k<F.length by omega)];simp
   obtain⟨_,w2,_⟩:=o1.Vi H hS
   have hl:=o1.lt
   obtain⟨R,y,r1,r2,r3,x,r4,r5⟩:=zd7 H.yT (F.getD k noT) (XD g (zH g e)) (from_:=[yD (vn g F e k)]) (xN λx hx=>by rw[List.mem_singleton] at hx;subst hx;exact hl) w2
   rw[List.mem_singleton] at r5
   subst r5
   obtain⟨B,hB⟩:=zmZ o1.ne
   rw[r1]
   cases R with
   | nil =>
    have ey:y=yD (vn g F e k):=by simpa using r4
    refine⟨by simpa using h1,by simpa using h2,λj hj=>?_⟩
    by_cases ej:j=k
    ·subst ej
     exact⟨y,by simp[ey,za1 o1.ne],r2⟩
    ·obtain⟨x,hx,hx2⟩:=h3 j zo
     exact⟨x,by simp[hx],hx2⟩
   | cons a R =>
    have ea:a=yD (vn g F e k):=by simpa using r4
    subst ea
    rw[List.cons_append,List.drop_succ_cons,List.drop_zero]
    refine⟨?_,?_,λj hj=>?_⟩
    ·rw[hB,List.append_assoc,List.singleton_append]
     rw[hB] at h1
     have:=zak h1 (by rw[←zkN B (yD (vn g F e k)),←hB];exact r3)
     exact this
    ·rw[List.head?_append,h2];rfl
    ·by_cases ej:j=k
     ·subst ej
      exact⟨y,zs,r2⟩
     ·obtain⟨x,hx,hx2⟩:=h3 j zo
      exact⟨x,by simp[hx],hx2⟩
theorem zkL {g:List (List Int)} {F:List (Nat→Bool)} {e:Nat} (H:RH g F e):U6 g (Vs g F e++[(e:Int)])∧(Vs g F e).head? = some (e:Int)∧∀j,j<F.length→∃x∈Vs g F e,(F.getD j noT) x.toNat=true:=by
 obtain⟨h1,h2,h3⟩:=zd3 H F.length (Nat.le_refl _)
 obtain⟨o1,_⟩:=zdQ H F.length (Nat.le_refl _)
 obtain⟨t1,t2,_⟩:=o1.home H
 obtain⟨R,y,r1,r2,r3,x,r4,r5⟩:=zd7 H.yT (toE e) (XD g (zH g e)) t1 t2
 have r1':VS g (vn g F e F.length) e=R++[y]:=r1
 have hx:=List.mem_of_mem_take (List.mem_filter.1 r5).1
 have hy:y=(e:Int):=by
  have hr:=ye (o1.home H).2.2.1 (x:=y) (by rw[r1'];simp)
  unfold toE at r2
  rw[beq_iff_eq] at r2
  omega
 subst hy
 obtain⟨B,hB⟩:=zmZ o1.ne
 have eR:Vs g F e=vn g F e F.length++R:=by unfold Vs;rw[r1'];simp
 refine⟨?_,?_,λj hj=>?_⟩
 ·rw[eR,List.append_assoc]
  cases hRy:R++[(e:Int)] with
  | nil=>simp at hRy
  | cons a m =>
   rw[hRy] at r3 r4
   have ea:a=x:=by simpa using r4
   subst ea
   have hx':a∈g.getD (yD (vn g F e F.length)).toNat []:=hx
   clear hx r5 eR r1' t1 t2 h2 h3 o1 r1
   generalize yD (vn g F e F.length)=z at *
   generalize vn g F e F.length=o at *
   rw[hB] at h1 ⊢
   have:=zak (Ql h1 hx') (m:=m) r3
   simpa using this
 ·rw[eR,List.head?_append,h2];rfl
 ·obtain⟨x,hx,hx2⟩:=h3 j hj
  exact⟨x,by rw[eR];simp[hx],hx2⟩
end
section
open Go.RowKit
structure zmv (W:zK) (s:Nat→Int):Prop where
 start:s 0∈W.start
 next:∀i,s (i+1)∈W.next.getD (s i).toNat []
 fair:∀l∈W.fair,∀i,∃j,i≤j∧s j∈l
def QO (W:zK) (s:Nat→Int) (i:Nat):Int:=W.label.getD (s i).toNat 0
theorem zgY {W:zK} (hW:zuv W) {t:Tree} (hw:t.wf zS) (h3:qO t=0):uc W (vU t)=true↔∃s,zmv W s∧¬xJ (QO W s) t 0:=by
 have hwn:(xS 4 t).wf zS:=zxr (.inl rfl) hw
 have hp:=zmr _ hwn
 have hI:=zmX hp (ziO h3)
 have hT:=QJ (zjs hp)
 have hS:=λw=>ztO hI hp hT w
 rw[znm (J6 hW.fits hW.xc hW.start hW.rows h3),zmx h3]
 have hn:∀w,xJ w (z1 (xS 4 t)) 0↔¬xJ w t 0:=λw=>by rw[zoJ w _ hwn,zp9 rfl rfl];rfl
 constructor
 ·rintro⟨s,r,⟨a1,a2⟩,⟨b1,b2⟩,c,d,e⟩
  exact⟨s,⟨a1,a2,d⟩,(hn _).1 ((hS (QO W s)).1 ⟨r,b1,b2,c,e⟩)⟩
 ·rintro⟨s,⟨a1,a2,d⟩,h⟩
  obtain⟨r,b1,b2,c,e⟩:=(hS (QO W s)).2 ((hn _).2 h)
  exact⟨s,r,⟨a1,a2⟩,⟨b1,b2⟩,c,d,e⟩
theorem zls {W:zK} {A:z7} (hb:Ui W A) (ha:uc W A=true) {s l:List Int} (e:Vk W A (yW W A).1 (yW W A).2 (yY W A).2=.yI [.agg [zw s,zw l],.sc (.bool (uc W A)),.sc (.int .i64 0)]):l≠[]:=by
 obtain⟨hp,rfl,rfl⟩:=zjQ hb ha e
 obtain⟨_,_,_,h4⟩:=zej hb hp
 obtain⟨_,h5,_⟩:=zkL h4
 intro h
 unfold u0 at h
 rw[List.map_eq_nil_iff] at h
 rw[h] at h5
 cases h5
end
section
def chr (s:ByteArray) (p:Nat):Nat:=match s[p]? with
 | some b=>b.toNat
 | none=>0
section
variable (T:Nat→ByteArray) (names:List ByteArray) (all:Bool)
variable {T names all}
end
end
section
def yJ (c:Nat) (s:ByteArray) (p:Nat):Nat:=if p<s.size∧chr s p≠c then yJ c s (p+1) else p
termination_by s.size-p
theorem zao {c:Nat} {s:ByteArray} {p:Nat} (h:p<s.size) (k:chr s p≠c):yJ c s p=yJ c s (p+1):=by rw[yJ,if_pos ⟨h,k⟩]
theorem Wu {c:Nat} {s:ByteArray} {p:Nat} (h:p<s.size→chr s p=c):yJ c s p=p:=by rw[yJ,if_neg λq=>q.2 (h q.1)]
theorem zhq {c:Nat} {s:ByteArray}:∀(n p:Nat),s.size-p=n→p≤s.size→p≤yJ c s p∧yJ c s p≤s.size∧(yJ c s p<s.size→chr s (yJ c s p)=c)
 | 0,p,h,hp=>by rw[Wu λq=>zo];exact⟨zo,zo,λq=>zo⟩
 | n+1,p,h,hp=>by
  by_cases hc:chr s p=c
  ·rw[Wu λ_=>hc];exact⟨zo,zo,λ_=>hc⟩
  ·rw[zao zo hc]
   have:=zhq (c:=c) (s:=s) n (p+1) zo zo
   exact⟨zo,this.2.1,this.2.2⟩
theorem zeh {c:Nat} {s:ByteArray} {p:Nat} (h:s.size≤p):yJ c s p=p:=Wu λq=>zo
theorem W2 {c:Nat} {s:ByteArray} (p:Nat):p≤yJ c s p:=by
 rcases Nat.lt_or_ge s.size p with h|h
 ·rw[zeh zo];omega
 ·exact(zhq _ p rfl h).1
def WE (s:ByteArray) (p:Nat):List ByteArray :=
 if h:yJ 32 s p<s.size then s.extract p (yJ 32 s p)::WE s (yJ 32 s p+1) else [s.extract p (yJ 32 s p)]
termination_by s.size-p
decreasing_by have:=W2 (c:=32) (s:=s) p;omega
theorem Yn {s:ByteArray} {p:Nat} (h:yJ 32 s p<s.size):WE s p=s.extract p (yJ 32 s p)::WE s (yJ 32 s p+1):=by rw[WE,dif_pos h]
theorem Yj {s:ByteArray} {p:Nat} (h:¬yJ 32 s p<s.size):WE s p=[s.extract p (yJ 32 s p)]:=by rw[WE,dif_neg h]
theorem zhw (s:ByteArray) (p:Nat):0<(WE s p).length:=by
 by_cases h:yJ 32 s p<s.size
 ·rw[Yn h];simp
 ·rw[Yj h];simp
theorem zm1 (s:ByteArray):∀(n p:Nat),s.size-p=n→p≤s.size→(WE s p).length≤s.size-p+1
 | n,p,h,hp=>by
  by_cases hc:yJ 32 s p<s.size
  ·rw[Yn hc]
   have h1:=W2 (c:=32) (s:=s) p
   have:=zm1 s (s.size-(yJ 32 s p+1)) (yJ 32 s p+1) rfl zo
   simp only[List.length_cons];omega
  ·rw[Yj hc];simp
termination_by n=>n
theorem zd8 (s:ByteArray):∀(n p:Nat),s.size-p=n→p≤s.size→∀x∈WE s p,x.size≤s.size
 | n,p,h,hp,x,hx=>by
  by_cases hc:yJ 32 s p<s.size
  ·rw[Yn hc] at hx
   rcases List.mem_cons.1 hx with rfl|hx
   ·rw[ByteArray.size_extract];omega
   ·have h1:=W2 (c:=32) (s:=s) p
    exact zd8 s (s.size-(yJ 32 s p+1)) (yJ 32 s p+1) rfl zo x hx
  ·rw[Yj hc,List.mem_singleton] at hx
   subst hx
   rw[ByteArray.size_extract];omega
termination_by n=>n
def zlL:List ByteArray:=[⟨#[]⟩,⟨#[115,116,97,114,116]⟩,⟨#[101,110,100]⟩,⟨#[115,116,111,112]⟩,⟨#[116,97,115,107]⟩,⟨#[120,111,114]⟩,⟨#[97,110,100]⟩,⟨#[111,114]⟩]
def Jl (k:Nat):ByteArray:=zlL.getD k ⟨#[]⟩
def zpX:ByteArray:=⟨#[102,108,111,119]⟩
def Zv (w:ByteArray):Nat→Nat
 | 0=>0
 | n+1=>if Zv w n≠0 then Zv w n else if Yz w (Jl (n+1))=true then n+1 else 0
structure RdS where
 nodes:List (ByteArray × Int)
 zn:List (ByteArray × ByteArray × Int)
def w0 (w:List ByteArray) (i:Nat):ByteArray:=w.getD i ⟨#[]⟩
def zbf (st:RdS) (ln:ByteArray) (a:Int):Option RdS :=
 if Yz (w0 (WE ln 0) 0) zpX=true then
  if (WE ln 0).length=3∧x7 (w0 (WE ln 0) 1)=true∧x7 (w0 (WE ln 0) 2)=true then some { st with zn:=st.zn++[(w0 (WE ln 0) 1,w0 (WE ln 0) 2,a)] } else none
 else if Zv (w0 (WE ln 0) 0) 7≠0 then
  if (WE ln 0).length=2∧x7 (w0 (WE ln 0) 1)=true∧st.zn=[] then some { st with nodes:=st.nodes++[(w0 (WE ln 0) 1,((Zv (w0 (WE ln 0) 0) 7:Nat):Int))] } else none
 else none
inductive RdA (α:Type) where
 | done (x:α)
 | bad (a:Int)
def zan (s:ByteArray):Nat→Nat→Int→RdS→RdA RdS
 | 0,_,a,_=>.bad a
 | f+1,p,a,st =>
  if p<s.size then
   if yJ 10 s p<s.size then
    match zbf st (s.extract p (yJ 10 s p)) a with
    | some st'=>zan s f (yJ 10 s p+1) (a+1) st'
    | none=>.bad a
   else .bad a
  else .done st
def zbi (nodes:List (ByteArray × Int)) (x:ByteArray):Option Nat:=nodes.findIdx? λn=>Yz n.1 x
def QR (nodes:List (ByteArray × Int)):List (ByteArray × ByteArray × Int)→List (Int × Int)→RdA (List (Int × Int))
 | [],out=>.done out
 | (x,y,a)::r,out=>match zbi nodes x,zbi nodes y with
  | some i,some j=>QR nodes r (out++[((i:Int),(j:Int))])
  | _,_=>.bad a
noncomputable def zkb (s:ByteArray):za × Int × Int :=
 match zan s (s.size+1) 0 1 ⟨[],[]⟩ with
 | .bad a=>(⟨[],[]⟩,a,3)
 | .done st=>match QR st.nodes st.zn [] with
  | .bad a=>(⟨[],[]⟩,a,4)
  | .done fl=>if (za.mk st.nodes fl).xc=0 then (⟨st.nodes,fl⟩,0,0) else (⟨[],[]⟩,0,(za.mk st.nodes fl).xc)
end
section
open Go.RowKit
def vQ:za:=⟨[(⟨#[97]⟩,1),(⟨#[98]⟩,4),(⟨#[120]⟩,5),(⟨#[99]⟩,4),(⟨#[101]⟩,2)],[(0,1),(1,2),(2,1),(2,3),(3,4)]⟩
def twT:ByteArray:=⟨#[115,116,97,114,116,32,97,10,116,97,115,107,32,98,10,120,111,114,32,120,10,116,97,115,107,32,99,10,101,110,100,32,101,10,102,108,111,119,32,97,32,98,10,102,108,111,119,32,98,32,120,10,102,108,111,119,32,120,32,98,10,102,108,111,119,32,120,32,99,10,102,108,111,119,32,99,32,101,10]⟩
theorem zrl:vQ.XB=0:=by decide +kernel
theorem zps:∀i,i<vQ.zn.length→vQ.Zj i=true:=by decide +kernel
theorem zy8:∀i,i<vQ.nodes.length→vQ.Y9 i=true:=by decide +kernel
theorem zqV:vQ.uk vQ.nodes.length=1:=by decide +kernel
theorem ztK:∀v,v<vQ.nodes.length→vQ.zsb v:=by
 have g:vQ.graph vQ.zn.length=[[1],[2],[1,3],[4],[]]:=by decide +kernel
 have e:vQ.Yu vQ.nodes.length=0:=by decide +kernel
 intro v hv
 unfold za.zsb
 rw[g,e]
 have h0:Rch [[1],[2],[1,3],[4],[]] [0] 0:=.base (x:=0) zs
 have h1:Rch [[1],[2],[1,3],[4],[]] [0] 1:=.step (x:=1) h0 zc
 have h2:Rch [[1],[2],[1,3],[4],[]] [0] 2:=.step (x:=2) h1 zc
 have h3:Rch [[1],[2],[1,3],[4],[]] [0] 3:=.step (x:=3) h2 zc
 have h4:Rch [[1],[2],[1,3],[4],[]] [0] 4:=.step (x:=4) h3 zc
 have hv:v<5:=hv
 rcases (by omega:v=0∨v=1∨v=2∨v=3∨v=4) with rfl|rfl|rfl|rfl|rfl<;>assumption
theorem zrp:vQ.xc=0:=by
 unfold za.xc
 rw[if_neg zc,if_neg (by rw[zrl];decide),if_neg (λh=>h zps),if_neg (by rw[zqV];decide),if_neg (λh=>h zy8),if_neg (λh=>h ztK)]
theorem Y5:vQ.yz=0∧vQ.zx=[(1,0,1),(1,2,1),(2,1,1),(2,1,2),(3,3,1),(4,4,0)]:=by
 have e:vQ.wH vQ.nodes.length=[(1,0,1),(1,2,1),(2,1,1),(2,1,2),(3,3,1),(4,4,0)]:=by decide +kernel
 have e0:vQ.yz=0:=by unfold za.yz;rw[if_neg (by rw[zrp];decide),e];rfl
 exact⟨e0,by unfold za.zx;rw[if_pos e0,e]⟩
theorem zma {M:List Int} (h:vQ.v8 M=true):vQ.uw M=0:=by
 unfold za.uw
 rw[if_neg (by rw[Y5.1];decide),if_pos h]
theorem zfc {M L:List Int} (h:vQ.v8 M=true) (k:vQ.Xa M [(1,0,1),(1,2,1),(2,1,1),(2,1,2),(3,3,1),(4,4,0)] 6=L):vQ.Yh M=L:=by
 unfold za.Yh
 rw[if_pos (zma h),Y5.2]
 exact k
theorem UI {M m:List Int} {k:Nat} {s:zR} (h:vQ.v8 M=true) (hk:k<6) (hs:([(1,0,1),(1,2,1),(2,1,1),(2,1,2),(3,3,1),(4,4,0)]:List zR).getD k (0,0,0)=s) (hm:vQ.JE M s=true) (h3:¬vQ.kind s.1.toNat=3) (hf:∀f,f<vQ.zn.length→¬9<vQ.zb0 M s f) (hg:gl vQ.zn.length (vQ.zb0 M s)=m) :
  vQ.Zq M (k:Int)=0∧vQ.wg M (k:Int)=m:=by
 have e1:vQ.Zb M s=0:=by
  unfold za.Zb
  rw[if_neg h3,if_neg (λ⟨f,h1,h2⟩=>hf f h1 h2)]
 have e2:vQ.Vm M s=m:=by
  unfold za.Vm
  rw[if_neg h3,if_pos e1,hg]
 have e3:vQ.Zq M (k:Int)=0:=by
  unfold za.Zq
  rw[if_neg (by rw[zma h];decide),Y5.2,if_neg (by simp;omega),Int.toNat_natCast,hs,if_pos hm,e1]
 refine⟨e3,?_⟩
 unfold za.wg
 rw[if_pos e3,Y5.2,Int.toNat_natCast,hs,e2]
theorem Zx {P:za} {tok:Int} {st n:Nat} {M m:List Int} {k:Int} {r:List Int} {marks:List (List Int)} {yw:List uu} {cur:List zy} {last:uu} (he:P.Zq M k=0∧P.wg M k=m) (hp:ZA marks m tok st=0) :
  P.yF tok st n M (k::r) marks yw cur last=P.yF tok st n M r (uW marks m tok st) (X4 marks yw m tok st ((n:Int),k)) (cur++[(k,XG marks m tok st)]) ((n:Int),k):=by
 rw[za.yF,if_neg (by rw[he.1];decide),he.2,if_neg (by rw[hp];decide)]
theorem Wj {P:za} {tok:Int} {st f n:Nat} {marks marks':List (List Int)} {yw org':List uu} {next:List (List zy)} {cur:List zy} {last last':uu} {M L:List Int} (hM:marks.getD n []=M) (hL:P.Yh M=L) (hn:n<marks.length) (hE:P.yF tok st n M L marks yw [] last=⟨0,marks',org',cur,last'⟩) :
  P.Zl tok st (f+1) n marks yw next last=P.Zl tok st f (n+1) marks' org' (next++[cur]) last':=by
 rw[za.Zl,if_pos hn,hM,hL,hE,if_neg zs]
theorem zqF {P:za} {tok:Int} {st f n:Nat} {marks:List (List Int)} {yw:List uu} {next:List (List zy)} {last:uu} (hn:¬n<marks.length):P.Zl tok st (f+1) n marks yw next last=⟨0,marks,yw,next,last⟩:=by
 rw[za.Zl,if_neg hn]
theorem zwb:vQ.Yh [1,0,0,0,0]=[0]:=zfc (by decide +kernel) (by decide +kernel)
theorem zw2:vQ.Zq [1,0,0,0,0] 0=0∧vQ.wg [1,0,0,0,0] 0=[0,1,0,0,0]:=UI (k:=0) (s:=(1,0,1)) (by decide +kernel) zc rfl (by decide +kernel) (by decide +kernel) (by decide +kernel) (by decide +kernel)
theorem zwu:vQ.Yh [0,1,0,0,0]=[2,3]:=zfc (by decide +kernel) (by decide +kernel)
theorem zyi:vQ.Zq [0,1,0,0,0] 2=0∧vQ.wg [0,1,0,0,0] 2=[0,0,1,0,0]:=UI (k:=2) (s:=(2,1,1)) (by decide +kernel) zc rfl (by decide +kernel) (by decide +kernel) (by decide +kernel) (by decide +kernel)
theorem zxm:vQ.Zq [0,1,0,0,0] 3=0∧vQ.wg [0,1,0,0,0] 3=[0,0,0,1,0]:=UI (k:=3) (s:=(2,1,2)) (by decide +kernel) zc rfl (by decide +kernel) (by decide +kernel) (by decide +kernel) (by decide +kernel)
theorem zvW:vQ.Yh [0,0,1,0,0]=[1]:=zfc (by decide +kernel) (by decide +kernel)
theorem zxU:vQ.Zq [0,0,1,0,0] 1=0∧vQ.wg [0,0,1,0,0] 1=[0,1,0,0,0]:=UI (k:=1) (s:=(1,2,1)) (by decide +kernel) zc rfl (by decide +kernel) (by decide +kernel) (by decide +kernel) (by decide +kernel)
theorem zvR:vQ.Yh [0,0,0,1,0]=[4]:=zfc (by decide +kernel) (by decide +kernel)
theorem zw8:vQ.Zq [0,0,0,1,0] 4=0∧vQ.wg [0,0,0,1,0] 4=[0,0,0,0,1]:=UI (k:=4) (s:=(3,3,1)) (by decide +kernel) zc rfl (by decide +kernel) (by decide +kernel) (by decide +kernel) (by decide +kernel)
theorem zxa:vQ.Yh [0,0,0,0,1]=[5]:=zfc (by decide +kernel) (by decide +kernel)
theorem zyj:vQ.Zq [0,0,0,0,1] 5=0∧vQ.wg [0,0,0,0,1] 5=[0,0,0,0,0]:=UI (k:=5) (s:=(4,4,0)) (by decide +kernel) zc rfl (by decide +kernel) (by decide +kernel) (by decide +kernel) (by decide +kernel)
theorem zw9:vQ.Yh [0,0,0,0,0]=[]:=zfc (by decide +kernel) (by decide +kernel)
theorem zro:vQ.x6=[1,0,0,0,0]:=by
 unfold za.x6
 rw[if_pos Y5.1]
 decide +kernel
theorem zrE:(vQ.exF 1 20).e=0∧(vQ.exF 1 20).next=[[(0,1)],[(2,2),(3,3)],[(1,1)],[(4,4)],[(5,5)],[]]:=by
 unfold za.exF
 rw[zro]
 rw[Wj (f:=200) (M:=[1,0,0,0,0]) (marks':=[[1,0,0,0,0],[0,1,0,0,0]]) (org':=[(-1,-1),(0,0)]) (cur:=[(0,1)]) (last':=(0,0)) rfl zwb zc (by
  rw[Zx zw2 (by decide +kernel)]
  kernel_rfl)]
 rw[Wj (f:=199) (M:=[0,1,0,0,0]) (marks':=[[1,0,0,0,0],[0,1,0,0,0],[0,0,1,0,0],[0,0,0,1,0]]) (org':=[(-1,-1),(0,0),(1,2),(1,3)]) (cur:=[(2,2),(3,3)]) (last':=(1,3)) rfl zwu zc (by
  rw[Zx zyi (by decide +kernel),Zx zxm (by decide +kernel)]
  kernel_rfl)]
 rw[Wj (f:=198) (M:=[0,0,1,0,0]) (marks':=[[1,0,0,0,0],[0,1,0,0,0],[0,0,1,0,0],[0,0,0,1,0]]) (org':=[(-1,-1),(0,0),(1,2),(1,3)]) (cur:=[(1,1)]) (last':=(2,1)) rfl zvW zc (by
  rw[Zx zxU (by decide +kernel)]
  kernel_rfl)]
 rw[Wj (f:=197) (M:=[0,0,0,1,0]) (marks':=[[1,0,0,0,0],[0,1,0,0,0],[0,0,1,0,0],[0,0,0,1,0],[0,0,0,0,1]]) (org':=[(-1,-1),(0,0),(1,2),(1,3),(3,4)]) (cur:=[(4,4)]) (last':=(3,4)) rfl zvR zc (by
  rw[Zx zw8 (by decide +kernel)]
  kernel_rfl)]
 rw[Wj (f:=196) (M:=[0,0,0,0,1]) (marks':=[[1,0,0,0,0],[0,1,0,0,0],[0,0,1,0,0],[0,0,0,1,0],[0,0,0,0,1],[0,0,0,0,0]]) (org':=[(-1,-1),(0,0),(1,2),(1,3),(3,4),(4,5)]) (cur:=[(5,5)]) (last':=(4,5)) rfl zxa zc (by
  rw[Zx zyj (by decide +kernel)]
  kernel_rfl)]
 rw[Wj (f:=195) (M:=[0,0,0,0,0]) (marks':=[[1,0,0,0,0],[0,1,0,0,0],[0,0,1,0,0],[0,0,0,1,0],[0,0,0,0,1],[0,0,0,0,0]]) (org':=[(-1,-1),(0,0),(1,2),(1,3),(3,4),(4,5)]) (cur:=[]) (last':=(4,5)) rfl zw9 zc (by
  kernel_rfl)]
 rw[zqF (f:=194) zc]
 exact⟨rfl,rfl⟩
theorem zl8:vQ.Vr 1 20=0∧vQ.xI 1 20=[[(0,1)],[(2,2),(3,3)],[(1,1)],[(4,4)],[(5,5)],[]]:=by
 have e:vQ.Vr 1 20=0:=by
  unfold za.Vr
  rw[if_neg (by rw[Y5.1];decide),if_neg (by unfold za.zc7;decide)]
  exact zrE.1
 refine⟨e,?_⟩
 unfold za.xI
 rw[if_pos e]
 exact zrE.2
theorem ztR:Vu vQ 1 20=⟨[0],[[1,2],[3],[4],[1,2],[5],[6],[6]],[2,4,4,2,8,16,9223372036854775808],[[0,1,2,3,4,5,6],[0,1,2,3,4,5,6],[0,1,3,4,5,6],[0,2,3,4,5,6],[0,1,2,3,4,5,6],[0,1,2,3,4,5,6]]⟩:=by
 unfold Vu
 rw[zl8.2,Y5.2]
 kernel_rfl
theorem zp6:y3 (vQ.xI 1 20) (vQ.xI 1 20).length≤600:=by
 rw[zl8.2]
 decide +kernel
theorem UG:zuv (Vu vQ 1 20):=zkR zl8.1 zp6
def twX:Zt:=⟨5,1,3,1,0,0,0⟩
def twY:Zt:=⟨3,1,3,0,0,0,0⟩
theorem tw_X:yO twX=uS 6 (uS 8 (xS 4 (xD 3 3)) (xD 3 1)) (xS 11 (xS 4 (xD 3 3))):=by kernel_rfl
theorem tw_Y:yO twY=xS 10 (xD 3 3):=by kernel_rfl
theorem zy7:XQ [⟨#[97]⟩,⟨#[98]⟩,⟨#[120]⟩,⟨#[99]⟩,⟨#[101]⟩] ⟨#[114]⟩ 1 twX 0 0 0 0 (xD 0 0) (xD 0 0)=0:=by decide +kernel
theorem zzJ:XQ [⟨#[97]⟩,⟨#[98]⟩,⟨#[120]⟩,⟨#[99]⟩,⟨#[101]⟩] ⟨#[114]⟩ 1 twY 0 0 0 0 (xD 0 0) (xD 0 0)=0:=by decide +kernel
theorem zvb:zav twX=0:=by decide +kernel
theorem zvh:zav twY=0:=by decide +kernel
theorem zu8:qO (yO twX)=0:=by
 have h:=uh (partsOf (z1 (xS 4 (yO twX)))) []
 have h1:(partsOf (z1 (xS 4 (yO twX)))).length=2:=by decide +kernel
 have h2:(YC (zX (z1 (xS 4 (yO twX))))).length=2:=by decide +kernel
 unfold qO
 rw[if_pos (by decide +kernel),if_neg (by simp only[List.length_nil] at h;omega)]
theorem zvu:qO (yO twY)=0:=by decide +kernel
theorem zu7 {x:Zt} (h:zav x=0):(yO x).wf zS:=by
 unfold zav at h
 split at h
 ·exact((Wx _ _).1 h).2.2
 ·rename_i q;exact absurd h q
theorem zti:uc (Vu vQ 1 20) (vU (yO twX))=false:=by
 rw[Bool.eq_false_iff,ne_eq,zgY UG (zu7 zvb) zu8]
 rintro⟨s,⟨h0,_,_⟩,h⟩
 apply h
 rw[ztR] at h0
 have h0:s 0=0:=by simpa using h0
 rw[tw_X,zxn rfl rfl]
 refine .inl ((zpH rfl rfl).2 ⟨0,Nat.le_refl _,(znn rfl).2 ?_,λm a b=>zo⟩)
 unfold QO
 rw[ztR,h0]
 decide
def twS (i:Nat):Int:=if i=0 then 0 else if i%2=1 then 1 else 3
theorem zl4 {i:Nat} (h:i%2=1):twS i=1:=by
 have h0:¬i=0:=zo
 unfold twS
 rw[if_neg h0,if_pos h]
theorem zek {i:Nat} (h0:¬i=0) (h:¬i%2=1):twS i=3:=by
 unfold twS
 rw[if_neg h0,if_neg h]
theorem ztL:zmv (Vu vQ 1 20) twS:=by
 rw[ztR]
 refine⟨zc,λi=>?_,λl hl i=>?_⟩
 ·by_cases h0:i=0
  ·subst h0;decide
  ·by_cases h1:i%2=1
   ·rw[zl4 h1,zek (i:=i+1) zo zo];decide
   ·rw[zek h0 h1,zl4 (i:=i+1) zo];decide
 ·refine⟨2*i+2,zo,?_⟩
  have:twS (2*i+2)=3:=zek zo zo
  rw[this]
  revert l
  decide
theorem zmz:uc (Vu vQ 1 20) (vU (yO twY))=true:=by
 rw[zgY UG (zu7 zvh) zvu]
 refine⟨twS,ztL,λh=>?_⟩
 rw[tw_Y,zvq rfl rfl] at h
 obtain⟨j,_,h⟩:=h
 have h:=(znn rfl).1 h
 unfold QO at h
 rw[ztR] at h
 have hs:twS j=0∨twS j=1∨twS j=3:=by
  unfold twS
  split
  ·exact .inl rfl
  ·split
   ·exact .inr (.inl rfl)
   ·exact .inr (.inr rfl)
 rcases hs with e|e|e<;>rw[e] at h<;>revert h<;>decide
theorem ztW:zkb twT=(vQ,0,0):=by
 have e1:zan twT (twT.size+1) 0 1 ⟨[],[]⟩=.done ⟨[(⟨#[97]⟩,1),(⟨#[98]⟩,4),(⟨#[120]⟩,5),(⟨#[99]⟩,4),(⟨#[101]⟩,2)],[(⟨#[97]⟩,⟨#[98]⟩,6),(⟨#[98]⟩,⟨#[120]⟩,7),(⟨#[120]⟩,⟨#[98]⟩,8),(⟨#[120]⟩,⟨#[99]⟩,9),(⟨#[99]⟩,⟨#[101]⟩,10)]⟩:=by kernel_rfl
 have e2:QR [(⟨#[97]⟩,1),(⟨#[98]⟩,4),(⟨#[120]⟩,5),(⟨#[99]⟩,4),(⟨#[101]⟩,2)] [(⟨#[97]⟩,⟨#[98]⟩,6),(⟨#[98]⟩,⟨#[120]⟩,7),(⟨#[120]⟩,⟨#[98]⟩,8),(⟨#[120]⟩,⟨#[99]⟩,9),(⟨#[99]⟩,⟨#[101]⟩,10)] []=.done [(0,1),(1,2),(2,1),(2,3),(3,4)]:=by kernel_rfl
 unfold zkb
 rw[e1]
 dsimp only
 rw[e2]
 dsimp only
 exact if_pos zrp
end
section
open Go.RowKit
def Q0 (s:ByteArray) (p:Nat):ByteArray:=s.extract p s.size
theorem zdd {s:ByteArray} {p:Nat} (h:p≤s.size):(Q0 s p).size=s.size-p:=by unfold Q0;rw[ByteArray.size_extract];omega
theorem zjH (s:ByteArray):Q0 s 0=s:=by unfold Q0;exact ByteArray.extract_zero_size
theorem zqz (s:ByteArray) (p:Nat):(Q0 s p).data.toList=s.data.toList.drop p:=by
 unfold Q0
 rw[ByteArray.data_extract,Array.toList_extract]
 simp[List.extract,List.take_of_length_le]
theorem zfW {s:ByteArray} {p m:Nat} (h:p+m≤s.size):(Q0 s p).extract 0 m=s.extract p (p+m):=by
 unfold Q0
 rw[ByteArray.extract_extract]
 congr 1<;>omega
theorem zh1 {s:ByteArray} {p m:Nat} (h:p+m≤s.size):(Q0 s p).extract m (s.size-p)=Q0 s (p+m):=by
 unfold Q0
 rw[ByteArray.extract_extract]
 congr 1
 omega
theorem zmb {s:ByteArray} {p:Nat} (h:p<s.size):∃b,s[p]? = some b∧s.data.toList.drop p=b::s.data.toList.drop (p+1):=by
 have hl:p<s.data.toList.length:=by simpa using h
 exact⟨s[p],by simp[getElem?_pos,h],by rw[List.drop_eq_getElem_cons hl];rfl⟩
theorem zmi (b c:UInt8):(b==c)=decide (b.toNat=c.toNat):=by
 by_cases h:b=c
 ·subst h;simp
 ·have:b.toNat≠c.toNat:=λe=>h (UInt8.toNat.inj e)
  simp[h,this]
theorem Jn (c:UInt8) (s:ByteArray):∀(n p:Nat),s.size-p=n→p≤s.size→Lib.indexByte (s.data.toList.drop p) c=if yJ c.toNat s p<s.size then ((yJ c.toNat s p-p:Nat):Int) else -1
 | 0,p,h,hp=>by
  have:s.data.toList.drop p=[]:=List.drop_of_length_le (by simp;omega)
  rw[this,zeh zo,if_neg zo]
  rfl
 | n+1,p,h,hp=>by
  obtain⟨b,hb,e⟩:=zmb (s:=s) (p:=p) zo
  have hc:chr s p=b.toNat:=by simp only[chr,hb]
  rw[e]
  simp only[Lib.indexByte]
  rw[Jn c s n (p+1) zo zo,zmi]
  by_cases hq:b.toNat=c.toNat
  ·have e1:yJ c.toNat s p=p:=Wu λ_=>by rw[hc,hq]
   rw[e1,if_pos (show p<s.size by omega),if_pos (by simpa using hq)]
   simp
  ·have e1:yJ c.toNat s p=yJ c.toNat s (p+1):=zao zo (by rw[hc];exact hq)
   have hg:=W2 (c:=c.toNat) (s:=s) (p+1)
   rw[e1,if_neg (show ¬decide (b.toNat=c.toNat)=true by simpa using hq)]
   by_cases h3:yJ c.toNat s (p+1)<s.size
   ·rw[if_pos h3,if_pos h3,if_neg zs];omega
   ·rw[if_neg h3,if_neg h3];simp
theorem ziz (s:ByteArray):∀(n p:Nat),s.size-p=n→p≤s.size→Lib.countByte (s.data.toList.drop p) 32+1=(WE s p).length
 | 0,p,h,hp=>by
  have:s.data.toList.drop p=[]:=List.drop_of_length_le (by simp;omega)
  rw[this,Yj (by rw[zeh zo];omega)]
  rfl
 | n+1,p,h,hp=>by
  obtain⟨b,hb,e⟩:=zmb (s:=s) (p:=p) zo
  have hc:chr s p=b.toNat:=by simp only[chr,hb]
  have ih:=ziz s n (p+1) zo zo
  rw[e]
  unfold Lib.countByte at ih ⊢
  rw[List.count_cons,zmi]
  by_cases hq:b.toNat=(32:UInt8).toNat
  ·have hq':chr s p=32:=by rw[hc,hq];rfl
   have e1:yJ 32 s p=p:=Wu λ_=>hq'
   rw[Yn (by rw[e1];omega),e1,List.length_cons,←ih]
   simp[hq]
  ·have hq':chr s p≠32:=by rw[hc];exact hq
   have e1:=zao (s:=s) (p:=p) zo hq'
   rw[if_neg (by simpa using hq),Nat.add_zero,ih]
   by_cases h3:yJ 32 s p<s.size
   ·rw[Yn h3,Yn (p:=p+1) (by rw[←e1];exact h3),e1];rfl
   ·rw[Yj h3,Yj (p:=p+1) (by rw[←e1];exact h3)];rfl
theorem zeC (s:ByteArray) (c:UInt8):zu Tryz.prog 228 [.sc (.string s),.sc (.string ⟨#[c]⟩)] (.sc (.int .i64 (Lib.countByte s.data.toList c:Nat))) where
 ok:=⟨_,Tryz.func228,by kernel_rfl,by kernel_rfl⟩
 run J F w vs hF hR:=by
  simp only[zY,rep] at hR
  obtain⟨v,us,rfl,rfl,v2,us2,rfl,rfl,rfl⟩:=hR
  have h58:=@run_callFunc_extern Tryz.prog 246 _ Extern.BytealgCount.count Tryz.func246 (by kernel_rfl) (by kernel_rfl) (by kernel_rfl) (by kernel_rfl)
  have h59:=@Lib.run_countString Tryz.prog s
  have e1:(⟨#[c]⟩:ByteArray).size=1:=rfl
  have e2:(⟨#[c]⟩:ByteArray)[0]? = some c:=rfl
  go_enter Tryz.func228,Tryz.ntmps228
  go_wp2
  go_ret
  refine⟨_,F,rfl,hF.lt,?_,Ext.refl _ _ _⟩
  simp only[rep]
  rfl
def zgM (c:UInt8):ByteArray:=⟨#[c]⟩
def zqR (c:UInt8) (s:ByteArray) (p:Nat):Int:=if yJ c.toNat s p<s.size then ((yJ c.toNat s p-p:Nat):Int) else -1
theorem Qj (s:ByteArray) (c:UInt8):zu Tryz.prog 180 [.sc (.string s),.sc (.string ⟨#[c]⟩)] (.sc (.int .i64 (Lib.indexByte s.data.toList c))) where
 ok:=⟨_,Tryz.func180,by kernel_rfl,by kernel_rfl⟩
 run J F w vs hF hR:=by
  simp only[zY,rep] at hR
  obtain⟨v,us,rfl,rfl,v2,us2,rfl,rfl,rfl⟩:=hR
  have h58:=@run_callFunc_extern Tryz.prog 242 _ Extern.BytealgIndexByte.indexByte Tryz.func242 (by kernel_rfl) (by kernel_rfl) (by kernel_rfl) (by kernel_rfl)
  have h59:=@Lib.run_indexByteString Tryz.prog s
  have e1:(⟨#[c]⟩:ByteArray).size=1:=rfl
  have e2:(⟨#[c]⟩:ByteArray)[0]? = some c:=rfl
  go_enter Tryz.func180,Tryz.ntmps180
  go_wp2
  ·rename_i h
   have h:s.data.toList=[c]:=by
    rw[ByteArray.toList_eq] at h
    exact(by simpa using h:[c]=s.data.toList).symm
   go_ret
   refine⟨_,F,rfl,hF.lt,?_,Ext.refl _ _ _⟩
   simp only[rep]
   show Value.int IntKind.i64 0=_
   rw[h]
   simp[Lib.indexByte]
  ·go_ret
   refine⟨_,F,rfl,hF.lt,?_,Ext.refl _ _ _⟩
   simp only[rep]
   rfl
theorem XX (c:UInt8) (s:ByteArray) (p:Nat) (hp:p≤s.size):zu Tryz.prog 180 [.sc (.string (Q0 s p)),.sc (.string (zgM c))] (.sc (.int .i64 (zqR c s p))):=by
 have hI:=Qj (Q0 s p) c
 rwa [zqz,Jn _ s _ p rfl hp] at hI
def c109:PC:=.seq (OP [Mv 4 (cS #[]),Mv 5 (cS #[]),Mv 6 cF]) (.seq (.seq (OP [qm 8 0,qm 9 1,Ca 10 180 [8,9],qm 7 10]) (.seq (OP [qm 11 7,Bi 12 .geq 11 (cI 0)]) (.cond 12 (.seq (.ops [qm 13 0,qm 14 7,qd 15 (.zkW 13 none (some 14)) 3,qm 16 0,qm 17 7,qm 18 1,qd 19 (.zhF 18) 32,qd 20 (.bin .add 17 19) 112,qd 21 (.zkW 16 (some 20) none) 248,qw 4 15 7,qw 5 21 1023,qd 6 (.move cT) 2047] true) .ret) .skip))) (.seq (OP [qm 22 0,qm 4 22,Mv 5 (cS #[]),Mv 6 cF]) .ret))
theorem zr9:zz Tryz.prog 109 23 [.tmp 4,.tmp 5,.tmp 6] c109:=fK Tryz.func109
theorem zbZ (c:UInt8) (s:ByteArray) (hs:s.size≤1000000000) (p:Nat) (hp:p≤s.size):zu Tryz.prog 109 [.sc (.string (Q0 s p)),.sc (.string (zgM c))]
  (if yJ c.toNat s p<s.size then .yI [.sc (.string (s.extract p (yJ c.toNat s p))),.sc (.string (Q0 s (yJ c.toNat s p+1))),.sc (.bool true)] else .yI [.sc (.string (Q0 s p)),.sc (.string ⟨#[]⟩),.sc (.bool false)]):=by
 refine zb zr9 zs (by simp[ze,Pure]) ?_ (by split<;>simp[ze,Pure])
 have hI:=XX c s p hp
 have hg:=W2 (c:=c.toNat) (s:=s) p
 have hz:=zdd hp
 refine sR ?_
 refine sC hI ?_
 by_cases h:yJ c.toNat s p<s.size
 ·rw[if_pos h]
  rw[show zqR c s p=((yJ c.toNat s p-p:Nat):Int) from if_pos h]
  refine sW ?_
  refine⟨zo,zo,zo,?_⟩
  refine sW ?_
  have hcs:(zgM c).size=1:=rfl
  refine .inl ⟨by(unfold InR;rw[IntKind.wrap_i64];omega),?_⟩
  refine sW ?_
  refine⟨zo,zo,zo,?_⟩
  refine sW ?_
  refine yu ?_
  have e1:=zfW (s:=s) (p:=p) (m:=yJ c.toNat s p-p) zo
  have e2:=zh1 (s:=s) (p:=p) (m:=yJ c.toNat s p-p+1) zo
  rw[show p+(yJ c.toNat s p-p)=yJ c.toNat s p by omega] at e1
  rw[show p+(yJ c.toNat s p-p+1)=yJ c.toNat s p+1 by omega] at e2
  rw[hz,hcs,Int.toNat_natCast,show(((yJ c.toNat s p-p:Nat):Int)+(1:Nat)).toNat=yJ c.toNat s p-p+1 by omega,e1,e2]
 ·rw[if_neg h]
  rw[show zqR c s p=-1 from if_neg h]
  refine sW ?_
  exact sP
def c54:PC:=.seq (OP [Mv 4 (cS #[]),Mv 5 (cS #[]),Mv 6 cF]) (.seq (OP [qm 7 0,qm 8 1,Ca 9 109 [7,8],Xt 10 0 9,Xt 11 1 9,Xt 12 2 9,qm 4 10,qm 5 11,qm 6 12]) .ret)
theorem zpn:zz Tryz.prog 54 13 [.tmp 4,.tmp 5,.tmp 6] c54:=fK Tryz.func54
theorem zi3 (c:UInt8) (s:ByteArray) (hs:s.size≤1000000000) (p:Nat) (hp:p≤s.size):zu Tryz.prog 54 [.sc (.string (Q0 s p)),.sc (.string (zgM c))]
  (if yJ c.toNat s p<s.size then .yI [.sc (.string (s.extract p (yJ c.toNat s p))),.sc (.string (Q0 s (yJ c.toNat s p+1))),.sc (.bool true)] else .yI [.sc (.string (Q0 s p)),.sc (.string ⟨#[]⟩),.sc (.bool false)]):=by
 have hC:=zbZ c s hs p hp
 by_cases h:yJ c.toNat s p<s.size
 ·rw[if_pos h] at hC ⊢
  refine zb zpn zs (by simp[ze,Pure]) ?_ (by simp[ze,Pure])
  refine sR ?_
  refine sC hC ?_
  exact .refl _
 ·rw[if_neg h] at hC ⊢
  refine zb zpn zs (by simp[ze,Pure]) ?_ (by simp[ze,Pure])
  refine sR ?_
  refine sC hC ?_
  exact .refl _
def c229:PC:=.seq (OP [Mv 4 (cI 0)]) (.seq (OP [qm 5 0,qm 6 1,Ca 7 180 [5,6],qm 4 7]) .ret)
theorem zuy:zz Tryz.prog 229 8 [.tmp 4] c229:=fK Tryz.func229
theorem zeY (c:UInt8) (s:ByteArray) (p:Nat) (hp:p≤s.size):zu Tryz.prog 229 [.sc (.string (Q0 s p)),.sc (.string (zgM c))] (.sc (.int .i64 (zqR c s p))):=by
 refine zb zuy zs (by simp[ze,Pure]) ?_ (by simp[Pure])
 refine sR ?_
 refine sC (XX c s p hp) ?_
 exact .refl _
def uL (x:ByteArray):List D:=[.sc (.string x)]
theorem zkO (l:List ByteArray):qK l=.xj 1 (l.map uL):=rfl
theorem ziR {L:List ByteArray} {i N:Nat} {x:ByteArray} {r:List ByteArray} (hN:L.length=N) (hd:L.drop i=x::r) :
  (((L.take i).map uL++List.replicate (N-i) (uL ⟨#[]⟩)).set i (uL x))=(L.take (i+1)).map uL++List.replicate (N-(i+1)) (uL ⟨#[]⟩)∧L.drop (i+1)=r∧i<N:=by
 have hi:i<L.length:=by
  rcases Nat.lt_or_ge i L.length with h|h
  ·exact h
  ·rw[List.drop_of_length_le h] at hd;cases hd
 rw[List.drop_eq_getElem_cons hi] at hd
 obtain⟨h1,h2⟩:=List.cons.inj hd
 refine⟨?_,h2,zo⟩
 rw[List.set_append_right _ _ (by simp;omega),show N-i=(N-(i+1))+1 by omega,List.replicate_succ]
 rw[List.take_succ_eq_append_getElem hi,List.map_append,h1]
 simp[show i-min i L.length=0 by omega]
def zyf:PC:=.seq (.seq (OP [qm 34 10,qm 35 3,Bi 36 .lss 34 35]) (.cond 36 .skip (.exit 0))) (.block 1 (.seq (OP [qm 37 0,qm 38 1,Ca 39 229 [37,38],qm 11 39]) (.seq (.seq (OP [qm 40 11,Bi 41 .lss 40 (cI 0)]) (.cond 41 (.exit 0) .skip)) (.seq (OP [qm 42 9,qm 43 10,qm 44 0,qm 45 11,qm 46 2,Bi 47 .add 45 46,q 48 (.zkW 44 none (some 47)),Ia 49 1 42 43,So 1 49 48]) (.seq (OP [qm 50 0,qm 51 11,qm 52 1,q 53 (.zhF 52),Bi 54 .add 51 53,q 55 (.zkW 50 (some 54) none),qm 0 55]) (OP [qm 56 10,Bi 57 .add 56 (cI 1),qm 10 57]))))))
def c181:PC:=.seq (OP [Mv 8 cN]) (.seq (.seq (OP [qm 12 3,Bi 13 .eql 12 (cI 0)]) (.cond 13 (.seq (OP [Mv 8 cN]) .ret) .skip)) (.seq (.seq (OP [qm 14 1,Bi 15 .eql 14 (cS #[])]) (.cond 15 (.seq (OP [qm 16 0,qm 17 3,Ca 18 227 [16,17],qm 8 18]) .ret) .skip)) (.seq (.seq (OP [qm 19 3,Bi 20 .lss 19 (cI 0)]) (.cond 20 (OP [qm 21 0,qm 22 1,Ca 23 228 [21,22],Bi 24 .add 23 (cI 1),qm 3 24]) .skip)) (.seq (OP [qm 25 3,qm 26 0,q 27 (.zhF 26),Bi 28 .add 27 (cI 1),q 29 (.mx false 25 28),qm 3 29]) (.seq (OP [qm 30 3,q 31 (.x5 1 16 [(.string ⟨#[]⟩)] 30 30),qm 9 31]) (.seq (OP [qm 32 3,Bi 33 .sub 32 (cI 1),qm 3 33]) (.seq (OP [Mv 10 (cI 0)]) (.seq (.block 0 (.loop zyf)) (.seq (OP [qm 58 9,qm 59 10,qm 60 0,Ia 61 1 58 59,So 1 61 60]) (.seq (OP [qm 62 9,qm 63 10,Bi 64 .add 63 (cI 1),q 65 (.slc 1 62 none (some 64) none),qm 8 65]) .ret))))))))))
theorem zuT:zz Tryz.prog 181 66 [.tmp 8] c181:=fK Tryz.func181
theorem zaG (s:ByteArray) (hs:s.size≤1000000000):zu Tryz.prog 181 [.sc (.string s),.sc (.string (zgM 32)),.sc (.int .i64 0),.sc (.int .i64 (-1))] (qK (WE s 0)):=by
 refine zb zuT zs (by simp[ze,Pure]) ?_ (wE _)
 have hC:=zeC s 32
 have hn:=ziz s _ 0 rfl (Nat.zero_le _)
 rw[List.drop_zero] at hn
 have hl:=zm1 s _ 0 rfl (Nat.zero_le _)
 have hpos:=zhw s 0
 generalize hN:(WE s 0).length=N at hn hl hpos
 have hk:Lib.countByte s.data.toList 32=N-1:=zo
 rw[hk] at hC
 have hne:((zgM 32).toList==(⟨#[]⟩:ByteArray).toList)=false:=by rw[ByteArray.toList_eq,ByteArray.toList_eq];rfl
 refine sR ?_
 rw[hne]
 refine sW ?_
 refine sC hC ?_
 refine sI ?_
 refine sI ?_
 rw[show(((N-1:Nat):Int)+1)=(N:Int) by omega,show min (N:Int) ((s.size:Int)+1)=(N:Int) by omega]
 refine⟨zo,zo,zo,?_⟩
 refine sW ?_
 refine sI ?_
 rw[show((N:Int)-1)=((N-1:Nat):Int) by omega,Int.toNat_natCast]
 refine zL [1,2,3,9] (λ((i,p):Nat × Nat)=>[(0,.sc (.string (Q0 s p))),(10,.sc (.int .i64 i))]) (λ(i,p)=>[(0,.vec true 0 1 (((WE s 0).take i).map uL++List.replicate (N-i) (uL ⟨#[]⟩)))])
  (λ(i,p)=>i<N∧p≤s.size∧WE s p=(WE s 0).drop i) (λ(i,p)=>N-i) (0,0) ?_
 refine sW ?_
 refine⟨⟨hpos,Nat.zero_le _,rfl⟩,by dsimp only;rw[zjH];exact sK,rfl,?_⟩
 rintro⟨i,p⟩ ⟨hi,hp,hd⟩
 have hI:=zeY 32 s p hp
 have hz:=zdd hp
 have hlen:(WE s p).length=N-i:=by rw[hd,List.length_drop,hN]
 refine sW ?_
 refine sR ?_
 refine sS (λh1=>?_) λh1=>?_
 ·have h1:i<N-1:=sO
  have hm:yJ 32 s p<s.size:=by
   rcases Nat.lt_or_ge (yJ 32 s p) s.size with h|h
   ·exact h
   ·rw[Yj zo] at hlen;simp at hlen;omega
  have hg:=W2 (c:=32) (s:=s) p
  have e0:zqR 32 s p=((yJ 32 s p-p:Nat):Int):=if_pos hm
  rw[e0] at hI
  have e1:=zfW (s:=s) (p:=p) (m:=yJ 32 s p-p) zo
  have e2:=zh1 (s:=s) (p:=p) (m:=yJ 32 s p-p+1) zo
  rw[show p+(yJ 32 s p-p)=yJ 32 s p by omega] at e1
  rw[show p+(yJ 32 s p-p+1)=yJ 32 s p+1 by omega] at e2
  have hcs:(zgM 32).size=1:=rfl
  have hll:(((WE s 0).take i).map uL++List.replicate (N-i) (uL ⟨#[]⟩)).length=N:=by simp[hN];omega
  have hri:(((WE s 0).take i).map uL++List.replicate (N-i) (uL ⟨#[]⟩))[i]? = some (uL ⟨#[]⟩):=by
   rw[List.getElem?_append_right (by simp;omega),List.length_map,List.length_take,hN,show min i N=i by omega,Nat.sub_self,show N-i=(N-i-1)+1 by omega,List.replicate_succ]
   rfl
  refine sC hI ?_
  refine sI ?_
  rw[Int.add_zero]
  refine⟨zo,zo,zo,?_⟩
  refine sW ?_
  rw[Int.toNat_natCast,e1]
  refine⟨zo,zo,?_⟩
  refine sW ?_
  refine⟨_,by rw[show 0+(i:Int).toNat=i by omega];exact hri,?_⟩
  refine sW ?_
  refine .inl ⟨by(unfold InR;rw[IntKind.wrap_i64];omega),?_⟩
  refine sW ?_
  refine⟨zo,zo,Nat.le_refl _,?_⟩
  rw[hz,hcs,show(((yJ 32 s p-p:Nat):Int)+(1:Nat)).toNat=yJ 32 s p-p+1 by omega,e2]
  refine sW ?_
  refine sI ?_
  rw[Yn hm] at hd
  obtain⟨q1,q2,q3⟩:=ziR hN hd.symm
  refine⟨(i+1,yJ 32 s p+1),⟨zo,zo,q2.symm⟩,zd,zC (by exact sK) ?_⟩
  show[zf.vec true 0 1 (List.set (((WE s 0).take i).map uL++List.replicate (N-i) (uL ⟨#[]⟩)) (0+(i:Int).toNat) (uL (s.extract p (yJ 32 s p))))]=[_]
  rw[show 0+(i:Int).toNat=i by omega,q1]
 ·have h1:i=N-1:=sO
  have hm:¬yJ 32 s p<s.size:=λh=>by
   rw[Yn h,List.length_cons] at hlen
   have:=zhw s (yJ 32 s p+1)
   omega
  have hg:=zhq (c:=32) (s:=s) _ p rfl hp
  have e1:s.extract p (yJ 32 s p)=Q0 s p:=by unfold Q0;congr 1;omega
  rw[Yj hm,e1] at hd
  have hri:(((WE s 0).take i).map uL++List.replicate (N-i) (uL ⟨#[]⟩))[i]? = some (uL ⟨#[]⟩):=by
   rw[List.getElem?_append_right (by simp;omega),List.length_map,List.length_take,hN,show min i N=i by omega,Nat.sub_self,show N-i=(N-i-1)+1 by omega,List.replicate_succ]
   rfl
  obtain⟨q1,q2,q3⟩:=ziR hN hd.symm
  refine⟨zo,zo,?_⟩
  refine sW ?_
  refine⟨_,by rw[show 0+(i:Int).toNat=i by omega];exact hri,?_⟩
  refine sW ?_
  refine sI ?_
  refine⟨zo,zo,zo,?_⟩
  refine sW ?_
  rw[zkO]
  refine .own 0 0 _ _ 1 true _ _ rfl ?_
  show uz _ (((List.set (((WE s 0).take i).map uL++List.replicate (N-i) (uL ⟨#[]⟩)) (0+(i:Int).toNat) (uL (Q0 s p))).take (0+((i:Int)+1).toNat)).drop (0+0)) _
  rw[show 0+(i:Int).toNat=i by omega,q1,show 0+((i:Int)+1).toNat=N by omega,show i+1=N by omega,Nat.sub_self,List.replicate_zero,List.append_nil,List.take_of_length_le (i:=N) (l:=WE s 0) zo,List.drop_zero,List.take_of_length_le (i:=N) (by simp[hN])]
  exact zU _
def c110:PC:=.seq (OP [Mv 4 cN]) (.seq (OP [qm 5 0,qm 6 1,Ca 7 181 [5,6,(cI 0),(cI (-1))],qm 4 7]) .ret)
theorem zrX:zz Tryz.prog 110 8 [.tmp 4] c110:=fK Tryz.func110
theorem zeU (s:ByteArray) (hs:s.size≤1000000000):zu Tryz.prog 110 [.sc (.string s),.sc (.string (zgM 32))] (qK (WE s 0)):=by
 refine zb zrX zs (by simp[ze,Pure]) ?_ (wE _)
 refine sR ?_
 refine sC (zaG s hs) ?_
 exact .refl _
end
section
open Go.RowKit
theorem zpE {k:Nat} (h:k<8):(zlL.map λs=>D.sc (.string s))[k]? = some (.sc (.string (Jl k))):=by
 unfold Jl
 rw[List.getElem?_map,List.getD_eq_getElem?_getD]
 have:k<zlL.length:=h
 rw[List.getElem?_eq_getElem this]
 rfl
def c111:PC:=.seq (OP [Mv 2 (cS #[])]) (.seq (OP [q 3 (.build [(.string ⟨#[]⟩),(.string ⟨#[]⟩),(.string ⟨#[]⟩),(.string ⟨#[]⟩),(.string ⟨#[]⟩),(.string ⟨#[]⟩),(.string ⟨#[]⟩),(.string ⟨#[]⟩)] [(0,1,(cS #[])),(1,1,(cS #[115,116,97,114,116])),(2,1,(cS #[101,110,100])),(3,1,(cS #[115,116,111,112])),(4,1,(cS #[116,97,115,107])),(5,1,(cS #[120,111,114])),(6,1,(cS #[97,110,100])),(7,1,(cS #[111,114]))]),qm 4 0,q 5 (.ztx 8 1 false 3 4),qm 2 5]) .ret)
theorem zsw:zz Tryz.prog 111 6 [.tmp 2] c111:=fK Tryz.func111
theorem zos (k:Nat) (hk:k<8):zu Tryz.prog 111 [.sc (.int .i64 k)] (.sc (.string (Jl k))):=by
 refine zb zsw zs (by simp[ze,Pure]) ?_ (by simp[Pure])
 refine sR ?_
 refine⟨zo,zo,_,by rw[Int.toNat_natCast,Nat.mul_one];exact zpE hk,?_⟩
 refine sW ?_
 exact .refl _
theorem zdo {x:ByteArray} {k:Nat} (h:Zv x k≠0):∀n,Zv x (k+n)=Zv x k
 | 0=>rfl
 | n+1=>by
  show Zv x (k+n+1)=_
  have:=zdo h n
  simp only[Zv]
  rw[this,if_pos h]
theorem znR {x:ByteArray} {k:Nat} (h:Zv x k=0) (e:Yz x (Jl (k+1))=true) (hk:k+1≤7):Zv x 7=k+1:=by
 have h1:Zv x (k+1)=k+1:=by simp only[Zv];rw[if_neg (by simp[h]),if_pos e]
 have:=zdo (x:=x) (k:=k+1) (by rw[h1];omega) (7-(k+1))
 rw[show k+1+(7-(k+1))=7 by omega] at this
 rw[this,h1]
theorem zlW {x:ByteArray} {k:Nat} (h:Zv x k=0) (e:Yz x (Jl (k+1))=false):Zv x (k+1)=0:=by
 simp only[Zv];rw[if_neg (by simp[h]),if_neg (by simp[e])]
def Zo (x:ByteArray × ByteArray × Int):List D:=[.sc (.string x.1),.sc (.string x.2.1),.sc (.int .i64 x.2.2)]
def rdO (st:RdS):List zf:=[.row true [.own 1 st.nodes.length 0 st.nodes.length,.sc (.slice none 0 0),.own 2 st.zn.length 0 st.zn.length],.vec true st.nodes.length 2 (st.nodes.map vX),.vec true st.zn.length 3 (st.zn.map Zo)]
theorem Xz {w:List ByteArray} {i:Nat} (h:i<w.length):(w.map λs=>[D.sc (.string s)])[(i:Int).toNat]? = some [.sc (.string (w0 w i))]:=by
 rw[Int.toNat_natCast,List.getElem?_map,List.getElem?_eq_getElem h]
 unfold w0
 rw[List.getD_eq_getElem?_getD,List.getElem?_eq_getElem h]
 rfl
theorem zoI (st:RdS):wq 3 (rdO st):=by
 refine⟨by simp[zf.under,zl,zp],zg _ (zB _ wB _),zg _ (zB _ (λx=>by simp[Zo,ze,Pure]) _),trivial⟩
theorem Um (st:RdS):∀o∈rdO st,o.under (rdO st).length:=by
 intro o ho
 simp only[rdO,List.mem_cons,List.not_mem_nil,or_false] at ho
 rcases ho with rfl|rfl|rfl
 ·simp[zf.under,zl,zp,rdO]
 ·exact zg _ (zB _ wB _)
 ·exact zg _ (zB _ (λx=>by simp[Zo,ze,Pure]) _)
def zAa:PC:=.seq (.seq (OP [qm 49 8,Bi 50 .leq 49 (cI 7)]) (.cond 50 .skip (.exit 0))) (.seq (.block 1 (.seq (.ops [qm 53 7,qd 54 (.zM 1 53 (cI 0)) 1,qd 55 (.zi 54) 3,qm 56 8,qd 57 (.call 111 [56]) 8,qd 58 (.bin .eql 55 57) 31] true) (.cond 58 (.seq (.seq (OP [qm 59 7,Ln 60 59,Bi 61 .neq 60 (cI 2),qm 62 61,GF 63 62 (.move 7),GF 64 62 (.zM 1 63 (cI 1)),GF 65 62 (.zi 64),GF 66 62 (.call 42 [65]),GF 67 62 (.un .not 66),Pk 68 62 cT 67,qm 69 68,GF 70 69 (.move 0),GF 71 69 (.zm 70),GF 72 69 (.zv 2 71),GF 73 69 (.zi 72),GF 74 69 (.len 73),GF 75 69 (.bin .gtr 74 (cI 0)),Pk 76 69 cT 75]) (.cond 76 (.seq (OP [Mv 6 cF]) .ret) .skip)) (.seq (.ops [qm 77 0,qm 78 0,qd 79 (.zm 78) 2,qd 80 (.zv 0 79) 6,qd 81 (.zv 0 80) 14,qd 82 (.zi 81) 30,qm 83 7,qd 84 (.zM 1 83 (cI 1)) 64,qd 85 (.zi 84) 192,qm 86 8,qd 87 (.build [(.string ⟨#[]⟩),(.int .i64 0)] [(0,1,85),(1,1,86)]) 960,qd 88 (.wh 2 1 [87]) 1984,qd 89 (.append 2 24 82 88) 4094,qd 90 (.zm 77) 8191,qd 91 (.zv 0 90) 16383,qd 92 (.zv 0 91) 32767,qk (.store 1 92 89) 65535] true) (.seq (OP [Mv 6 cT]) .ret))) .skip))) (OP [qm 51 8,Bi 52 .add 51 (cI 1),qm 8 52]))
def c55:PC:=.seq (OP [Mv 6 cF]) (.seq (OP [qm 9 1,q 10 (.call 110 [9,(cS #[32])]),qm 7 10]) (.seq (.seq (OP [qm 11 7,Ia 12 1 11 (cI 0),Lo 13 12,Bi 14 .eql 13 (cS #[102,108,111,119])]) (.cond 14 (.seq (.seq (OP [qm 15 7,Ln 16 15,Bi 17 .neq 16 (cI 3),qm 18 17,GF 19 18 (.move 7),GF 20 18 (.zM 1 19 (cI 1)),GF 21 18 (.zi 20),GF 22 18 (.call 42 [21]),GF 23 18 (.un .not 22),Pk 24 18 cT 23,qm 25 24,GF 26 25 (.move 7),GF 27 25 (.zM 1 26 (cI 2)),GF 28 25 (.zi 27),GF 29 25 (.call 42 [28]),GF 30 25 (.un .not 29),Pk 31 25 cT 30]) (.cond 31 (.seq (OP [Mv 6 cF]) .ret) .skip)) (.seq (.ops [qm 32 0,qm 33 0,qd 34 (.zm 33) 2,qd 35 (.zv 2 34) 6,qd 36 (.zi 35) 14,qm 37 7,qd 38 (.zM 1 37 (cI 1)) 32,qd 39 (.zi 38) 96,qm 40 7,qd 41 (.zM 1 40 (cI 2)) 256,qd 42 (.zi 41) 768,qm 43 2,qd 44 (.build [(.string ⟨#[]⟩),(.string ⟨#[]⟩),(.int .i64 0)] [(0,1,39),(1,1,42),(2,1,43)]) 4064,qd 45 (.wh 3 1 [44]) 8160,qd 46 (.append 3 40 36 45) 16382,qd 47 (.zm 32) 32767,qd 48 (.zv 2 47) 65535,qk (.store 1 48 46) 131071] true) (.seq (OP [Mv 6 cT]) .ret))) .skip)) (.seq (.seq (OP [Mv 8 (cI 1)]) (.block 0 (.loop zAa))) (.seq (OP [Mv 6 cF]) .ret))))
theorem zdM:zz Tryz.prog 55 93 [.tmp 6] c55:=fK Tryz.func55
theorem zom (st:RdS) (hst:st.nodes.length≤100000000∧st.zn.length≤100000000) (ln:ByteArray) (hln:ln.size≤100000000) (a:Int) :
  yB Tryz.prog 55 [.loc 0 0,.sc (.string ln),.sc (.int .i64 a)] (rdO st) (.sc (.bool (zbf st ln a).isSome)) (rdO ((zbf st ln a).getD st)):=by
 have hS:=zeU ln zo
 have hpos:=zhw ln 0
 have hsz:∀i,(w0 (WE ln 0) i).size≤9223372036854775807:=λi=>by
  unfold w0
  rw[List.getD_eq_getElem?_getD]
  cases h:(WE ln 0)[i]? with
  | none=>show(0:Nat)≤_;omega
  | some x=>have:=zd8 ln _ 0 rfl (Nat.zero_le _) x (List.mem_of_getElem? h);simp;omega
 have hnm:=λi=>W4 (w0 (WE ln 0) i) (hsz i)
 obtain⟨R,hL⟩:∃R,R=zbf st ln a:=⟨_,rfl⟩
 rw[←hL]
 unfold zbf at hL
 generalize hw:WE ln 0=w at hS hpos hsz hnm hL
 have n1:=hnm 1
 have n2:=hnm 2
 by_cases hf:Yz (w0 w 0) zpX=true
 ·rw[if_pos hf] at hL
  by_cases hl:w.length=3
  ·cases h1:x7 (w0 w 1) with
   | true =>
    rw[h1] at n1
    cases h2:x7 (w0 w 2) with
    | true =>
     rw[h2] at n2
     rw[if_pos ⟨hl,h1,h2⟩] at hL
     subst hL
     refine yp zdM zs (by simp[rdO]) ?_ (by simp[zp]) (Um _)
     unfold rdO
     refine sR ?_
     refine sC hS ?_
     refine sL (Xz (i:=0) zo) ?_
     rw[show((w0 w 0).toList==(⟨#[102,108,111,119]⟩:ByteArray).toList)=true from hf]
     refine sW ?_
     rw[List.length_map]
     rw[show((w.length:Int) != 3)=false by rw[hl];rfl]
     refine sW ?_
     refine sL (Xz (i:=1) zo) ?_
     refine sC n1 ?_
     refine sL (Xz (i:=2) zo) ?_
     refine sC n2 ?_
     refine sL (Xz (i:=1) zo) ?_
     refine sL (Xz (i:=2) zo) ?_
     refine sJ ?_
     exact⟨by simp[Zo,List.take_of_length_le (l:=List.map Zo st.zn) (i:=st.zn.length) zs],zs⟩
    | false =>
     rw[h2] at n2
     rw[if_neg (by simp[h2])] at hL
     subst hL
     refine yp zdM zs (by simp[rdO]) ?_ (by simp[zp]) (Um _)
     unfold rdO
     refine sR ?_
     refine sC hS ?_
     refine sL (Xz (i:=0) zo) ?_
     rw[show((w0 w 0).toList==(⟨#[102,108,111,119]⟩:ByteArray).toList)=true from hf]
     refine sW ?_
     rw[List.length_map]
     rw[show((w.length:Int) != 3)=false by rw[hl];rfl]
     refine sW ?_
     refine sL (Xz (i:=1) zo) ?_
     refine sC n1 ?_
     refine sL (Xz (i:=2) zo) ?_
     refine sC n2 ?_
     exact Nat.le_refl _
   | false =>
    rw[h1] at n1
    rw[if_neg (by simp[h1])] at hL
    subst hL
    refine yp zdM zs (by simp[rdO]) ?_ (by simp[zp]) (Um _)
    unfold rdO
    refine sR ?_
    refine sC hS ?_
    refine sL (Xz (i:=0) zo) ?_
    rw[show((w0 w 0).toList==(⟨#[102,108,111,119]⟩:ByteArray).toList)=true from hf]
    refine sW ?_
    rw[List.length_map]
    rw[show((w.length:Int) != 3)=false by rw[hl];rfl]
    refine sW ?_
    refine sL (Xz (i:=1) zo) ?_
    refine sC n1 ?_
    exact Nat.le_refl _
  ·rw[if_neg (λq=>hl q.1)] at hL
   subst hL
   refine yp zdM zs (by simp[rdO]) ?_ (by simp[zp]) (Um _)
   unfold rdO
   refine sR ?_
   refine sC hS ?_
   refine sL (Xz (i:=0) zo) ?_
   rw[show((w0 w 0).toList==(⟨#[102,108,111,119]⟩:ByteArray).toList)=true from hf]
   refine sW ?_
   rw[List.length_map]
   rw[show((w.length:Int) != 3)=true by simpa using (by omega:(w.length:Int)≠3)]
   refine sW ?_
   exact Nat.le_refl _
 ·rw[if_neg hf] at hL
  have hf:Yz (w0 w 0) zpX=false:=by simpa using hf
  refine yp zdM zs (by simp[rdO]) ?_ (by simp[zp]) (Um _)
  unfold rdO
  refine sR ?_
  refine sC hS ?_
  refine sL (Xz (i:=0) zo) ?_
  rw[show((w0 w 0).toList==(⟨#[102,108,111,119]⟩:ByteArray).toList)=false from hf]
  refine sW ?_
  refine zL [0,7] (λk:Nat=>[(8,.sc (.int .i64 k))]) (λ_=>[]) (λk=>1≤k∧k≤8∧Zv (w0 w 0) (k-1)=0) (λk=>8-k) 1 ?_
  refine sW ?_
  refine⟨⟨Nat.le_refl _,zo,rfl⟩,by exact sK,rfl,?_⟩
  rintro k ⟨hk1,hk8,hk0⟩
  obtain⟨j,rfl⟩:∃j,k=j+1:=⟨k-1,zo⟩
  have hk0:Zv (w0 w 0) j=0:=hk0
  have hW:=λh=>zos (j+1) h
  refine sW ?_
  refine sR ?_
  refine sS (λh5=>?_) λh5=>?_
  ·have h5:j+1≤7:=sO
   refine sL (Xz (i:=0) zo) ?_
   refine sC (hW zo) ?_
   cases he:Yz (w0 w 0) (Jl (j+1)) with
   | false =>
    rw[show((w0 w 0).toList==(Jl (j+1)).toList)=false from he]
    refine sW ?_
    refine sI ?_
    exact⟨j+2,⟨zo,zo,zlW hk0 he⟩,zd,zC (by exact sK) rfl⟩
   | true =>
    rw[show((w0 w 0).toList==(Jl (j+1)).toList)=true from he]
    have hkd:=znR hk0 he zo
    rw[hkd,if_pos zo] at hL
    refine sW ?_
    rw[List.length_map]
    by_cases hl:w.length=2
    ·rw[show((w.length:Int) != 2)=false by rw[hl];rfl]
     refine sW ?_
     refine sL (Xz (i:=1) zo) ?_
     cases h1:x7 (w0 w 1) with
     | true =>
      rw[h1] at n1
      refine sC n1 ?_
      by_cases hfl:st.zn=[]
      ·rw[if_pos ⟨hl,h1,hfl⟩] at hL
       subst hL
       refine zq8 (by rw[hfl];rfl) ?_
       refine sW ?_
       refine sL (Xz (i:=1) zo) ?_
       refine sJ ?_
       exact⟨by simp[vX,List.take_of_length_le (l:=List.map vX st.nodes) (i:=st.nodes.length) zs],zs⟩
      ·rw[if_neg (λq=>hfl q.2.2)] at hL
       subst hL
       have:0<st.zn.length:=List.length_pos_iff.2 hfl
       refine zvF (by simp;omega) ?_
       refine sW ?_
       exact Nat.le_refl _
     | false =>
      rw[h1] at n1
      rw[if_neg (by simp[h1])] at hL
      subst hL
      refine sC n1 ?_
      exact Nat.le_refl _
    ·rw[if_neg (λq=>hl q.1)] at hL
     subst hL
     rw[show((w.length:Int) != 2)=true by simpa using (by omega:(w.length:Int)≠2)]
     refine sW ?_
     exact Nat.le_refl _
  ·have h5:j=7:=sO
   subst h5
   rw[hk0,if_neg zs] at hL
   subst hL
   exact⟨rfl,rfl,Nat.le_refl _⟩
end
section
open Go.RowKit
theorem zk3 {st st':RdS} {ln:ByteArray} {a:Int} (h:zbf st ln a=some st') (hn:∀x∈st.nodes,x.1.size≤1000000) (hl:ln.size≤1000000) :
  st'.nodes.length≤st.nodes.length+1∧st'.zn.length≤st.zn.length+1∧∀x∈st'.nodes,x.1.size≤1000000:=by
 unfold zbf at h
 split at h
 ·split at h
  ·cases h;exact⟨zs,zs,hn⟩
  ·cases h
 ·split at h
  ·split at h
   ·cases h
    refine⟨zs,zs,λx hx=>?_⟩
    rcases List.mem_append.1 hx with hx|hx
    ·exact hn x hx
    ·rw[List.mem_singleton] at hx
     subst hx
     show(w0 (WE ln 0) 1).size≤_
     unfold w0
     rw[List.getD_eq_getElem?_getD]
     cases e:(WE ln 0)[1]? with
     | none=>show(0:Nat)≤_;omega
     | some y=>have:=zd8 ln _ 0 rfl (Nat.zero_le _) y (List.mem_of_getElem? e);show y.size≤_;omega
   ·cases h
  ·cases h
theorem zbN {H:List zf} {n:Nat} {l:List (List D)} (h:l.length≤n):uz H (List.drop 0 (List.take n l)) l:=by rw[List.drop_zero,List.take_of_length_le h];exact zU _
theorem zbR (ρ:Nat→Nat) (l:List (ByteArray × Int)):vw ρ (l.map vX)=l.map vX:=yo _ (zB _ wB _)
theorem Je (ρ:Nat→Nat) (l:List (ByteArray × ByteArray × Int)):vw ρ (l.map Zo)=l.map Zo:=yo _ (zB _ (λx=>by simp[Zo,ze,Pure]) _)
theorem ziv (ρ:Nat→Nat) (l:List (Int × Int)):vw ρ (l.map YO)=l.map YO:=yo _ (zB _ YY _)
theorem zmm (ρ:Nat→Nat) (st:RdS):(rdO st).map (zf.yy ρ)=[.row true [.own (ρ 1) st.nodes.length 0 st.nodes.length,.sc (.slice none 0 0),.own (ρ 2) st.zn.length 0 st.zn.length],.vec true st.nodes.length 2 (st.nodes.map vX),.vec true st.zn.length 3 (st.zn.map Zo)]:=by
 simp only[rdO,List.map_cons,List.map_nil,zf.yy,yG,D.yy,zbR,Je]
def rdQ (st:RdS) (fl:List (Int × Int)):List zf:=[.row true [.own 1 st.nodes.length 0 st.nodes.length,.own 3 fl.length 0 fl.length,.own 2 st.zn.length 0 st.zn.length],.vec true st.nodes.length 2 (st.nodes.map vX),.vec true st.zn.length 3 (st.zn.map Zo),.vec true fl.length 2 (fl.map YO)]
theorem zoi (st:RdS) (fl:List (Int × Int)):wq 4 (rdQ st fl) :=
 ⟨by simp[zf.under,zl,zp],zg _ (zB _ wB _),zg _ (zB _ (λx=>by simp[Zo,ze,Pure]) _),zg _ (zB _ YY _),trivial⟩
def c113:PC:=.seq (OP [Bx 2 0,Mv 3 cF]) (.seq (OP [Fa 4 0 2,Lo 5 4,Lo 6 1,Bi 7 .eql 5 6,qm 3 7]) .ret)
theorem zrY:zz Tryz.prog 113 8 [.tmp 3] c113:=fK Tryz.func113
theorem zkZ (m:ByteArray × Int) (x:ByteArray):zu Tryz.prog 113 [.agg (vX m),.xk [.sc (.string x)]] (.sc (.bool (Yz m.1 x))):=by
 refine zb zrY zs (by simp[ze,Pure,wB]) ?_ (by simp[Pure])
 refine sR ?_
 exact .refl _
def Qf (nodes:List (ByteArray × Int)) (x:ByteArray):Int:=wc (λn=>Yz n.1 x) nodes
def c56:PC:=.seq (OP [Bx 3 1,Mv 4 (cI 0)]) (.seq (OP [qm 5 0,q 6 (.zm 5),Fa 7 0 6,Fa 8 0 7,Lo 9 8,q 10 (.ZP (.func 113) [] [3]),Ca 11 112 [9,10],qm 4 11]) .ret)
theorem zwz:zz Tryz.prog 56 12 [.tmp 4] c56:=fK Tryz.func56
theorem zoc (st:RdS) (hst:st.nodes.length≤1000000000) (fl:List (Int × Int)) (x:ByteArray):yB Tryz.prog 56 [.loc 0 0,.sc (.string x)] (rdQ st fl) (.sc (.int .i64 (Qf st.nodes x))) (rdQ st fl):=by
 have hI:=zbz st.nodes zo (λn=>Yz n.1 x) 113 [.xk [.sc (.string x)]] (by simp[ze,Pure]) λa _=>zkZ a x
 refine yp zwz zs (by simp[rdQ]) ?_ (by simp[zp]) (by
  intro o ho
  simp only[rdQ,List.mem_cons,List.not_mem_nil,or_false] at ho
  rcases ho with rfl|rfl|rfl|rfl
  ·simp[zf.under,zl,zp,rdQ]
  ·exact zg _ (zB _ wB _)
  ·exact zg _ (zB _ (λx=>by simp[Zo,ze,Pure]) _)
  ·exact zg _ (zB _ YY _))
 unfold rdQ
 refine sR ?_
 refine .inr (.inl ⟨_,_,vJ.cons _ _ _ _ (.own 1 _ _ _ 2 true _ _ rfl (by rw[List.drop_zero,List.take_of_length_le zs];exact zU _)) (.cons _ _ _ _ (.fn _ _ _ _ _ (.nil) (.cons _ _ _ _ (.loc 4 0 true _ _ rfl (xn _)) .nil)) .nil),hI,rfl,?_⟩)
 refine sW ?_
 simp
theorem zfi (st:RdS) (hst:st.nodes.length≤1000000000) (fl:List (Int × Int)) (x:ByteArray) {r0:zf} {T:List zf} :
  zge Tryz.prog 56 [.loc 1 0,.sc (.string x)] (r0::.row true [.own 2 st.nodes.length 0 st.nodes.length,.own 4 fl.length 0 fl.length,.own 3 st.zn.length 0 st.zn.length]::.vec true st.nodes.length 2 (st.nodes.map vX)::.vec true st.zn.length 3 (st.zn.map Zo)::.vec true fl.length 2 (fl.map YO)::T) (.sc (.int .i64 (Qf st.nodes x))) [1,2,3,4]:=by
 refine zjo (zoc st hst fl x) [1,2,3,4] rfl zc (by simp[zl,zp,rdQ]) (zoi st fl) (by simp[yG,D.yy]) (by simp[D.yy]) (λi o ho=>?_) 1 (q:=true) (cs:=[.own 2 st.nodes.length 0 st.nodes.length,.own 4 fl.length 0 fl.length,.own 3 st.zn.length 0 st.zn.length]) zs rfl zs (λid hid=>?_)
 ·match i,ho with
  | 0,ho=>cases ho;simp[zf.yy,yG,D.yy]
  | 1,ho=>cases ho;exact congrArg some (show zf.vec true _ 2 (st.nodes.map vX)=zf.yy _ (.vec true _ 2 (st.nodes.map vX)) by simp only[zf.yy,zbR])
  | 2,ho=>cases ho;exact congrArg some (show zf.vec true _ 3 (st.zn.map Zo)=zf.yy _ (.vec true _ 3 (st.zn.map Zo)) by simp only[zf.yy,Je])
  | 3,ho=>cases ho;exact congrArg some (show zf.vec true _ 2 (fl.map YO)=zf.yy _ (.vec true _ 2 (fl.map YO)) by simp only[zf.yy,ziv])
 ·simp only[List.mem_cons,List.not_mem_nil,or_false] at hid
  rcases hid with rfl|rfl|rfl|rfl
  ·exact .inl rfl
  ·exact .inr ⟨st.nodes.length,0,st.nodes.length,zs⟩
  ·exact .inr ⟨st.zn.length,0,st.zn.length,zs⟩
  ·exact .inr ⟨fl.length,0,fl.length,zs⟩
def zmB (x:za × Int × Int):D:=.yI [yQ x.1,.sc (.int .i64 x.2.1),.sc (.int .i64 x.2.2)]
theorem zlS (x:za × Int × Int):Pure (zmB x):=by simp[zmB,Pure,ze,z6]
def zAm:PC:=.seq (.seq (OP [qm 21 0,Bi 22 .neq 21 (cS #[])]) (.cond 22 .skip (.exit 0))) (.seq (.block 1 (.seq (OP [qm 26 0,q 27 (.call 54 [26,(cS #[10])]),qm 25 27,Xt 28 0 25,Xt 29 1 25,Xt 30 2 25,qm 7 28,qm 8 29,qm 9 30]) (.seq (.seq (OP [qm 31 9,Nt 32 31,qm 33 32,GF 34 33 (.move 5),GF 35 33 (.move 7),GF 36 33 (.move 6),GF 37 33 (.call 55 [34,35,36]),GF 38 33 (.un .not 37),Pk 39 33 cT 38]) (.cond 39 (.seq (OP [q 40 (.build [(.slice none 0 0),(.slice none 0 0)] []),qm 41 6,So 2 2 40,qm 3 41,Mv 4 (cI 3)]) .ret) .skip)) (OP [qm 42 8,qm 0 42])))) (OP [qm 23 6,Bi 24 .add 23 (cI 1),qm 6 24]))
def zzO:PC:=.seq (OP [Bi 49 .lss 48 47]) (.seq (.cond 49 .skip (.exit 2)) (.seq (.block 3 (.seq (OP [Ia 50 3 46 48,LA 51 3 50,q 11 (.alloc [(.string ⟨#[]⟩),(.string ⟨#[]⟩),(.int .i64 0)]),So 3 11 51]) (.seq (.ops [qm 52 5,Fa 53 0 11,qd 54 (.zi 53) 2,qd 55 (.call 56 [52,54]) 7,qm 56 5,Fa 57 1 11,qd 58 (.zi 57) 32,qd 59 (.call 56 [56,58]) 127,qw 12 55 255,qw 13 59 511] true) (.seq (.seq (OP [qm 60 12,Bi 61 .lss 60 (cI 0),qm 62 61,GF 63 62 (.move 13),GF 64 62 (.bin .lss 63 (cI 0)),Pk 65 62 cT 64]) (.cond 65 (.seq (.ops [q 66 (.build [(.slice none 0 0),(.slice none 0 0)] []),Fa 67 2 11,qd 68 (.zi 67) 2,qk (.store 2 2 66) 1,qw 3 68 15,qd 4 (.move (cI 4)) 31] true) .ret) .skip)) (OP [qm 69 5,qm 70 5,q 71 (.zm 70),Fa 72 0 71,Fa 73 1 72,Lo 74 73,qm 75 12,qm 76 13,q 77 (.build [(.int .i64 0),(.int .i64 0)] [(0,1,75),(1,1,76)]),Bs 78 2 1 [77],Ap 79 2 16 74 78,q 80 (.zm 69),Fa 81 0 80,Fa 82 1 81,So 1 82 79]))))) (OP [Bi 83 .add 48 (cI 1),qm 48 83])))
def c25:PC:=.seq (OP [q 2 (.alloc [(.slice none 0 0),(.slice none 0 0)]),Mv 3 (cI 0),Mv 4 (cI 0)]) (.seq (.seq (OP [qm 15 0,q 16 (.zhF 15),Bi 17 .gtr 16 (cI 4096)]) (.cond 17 (.seq (OP [q 18 (.build [(.slice none 0 0),(.slice none 0 0)] []),So 2 2 18,Mv 3 (cI 0),Mv 4 (cI 2)]) .ret) .skip)) (.seq (OP [q 19 (.build [(.slice none 0 0),(.slice none 0 0),(.slice none 0 0)] []),Bx 20 19,qm 5 20]) (.seq (.seq (OP [Mv 6 (cI 1)]) (.block 0 (.loop zAm))) (.seq (.seq (OP [qm 43 5,q 44 (.zm 43),Fa 45 2 44,Lo 46 45,Ln 47 46,Mv 48 (cI 0)]) (.block 2 (.loop zzO))) (.seq (.seq (OP [qm 84 5,q 85 (.zm 84),Fa 86 0 85,LA 87 2 86,Ca 88 57 [87],qm 14 88]) (.seq (OP [qm 89 14,Bi 90 .neq 89 (cI 0)]) (.cond 90 (.seq (OP [q 91 (.build [(.slice none 0 0),(.slice none 0 0)] []),qm 92 14,So 2 2 91,Mv 3 (cI 0),qm 4 92]) .ret) .skip))) (.seq (OP [qm 93 5,q 94 (.zm 93),Fa 95 0 94,LA 96 2 95,So 2 2 96,Mv 3 (cI 0),Mv 4 (cI 0)]) .ret))))))
theorem zyb:zz Tryz.prog 25 97 [.agg 2 2,.tmp 3,.tmp 4] c25:=fK Tryz.func25
theorem zkD (s:ByteArray) (hs:s.size≤4096):zu Tryz.prog 25 [.sc (.string s)] (zmB (zkb s)):=by
 refine zb zyb zs (by simp[ze,Pure]) ?_ (zlS _)
 obtain⟨R,hR⟩:∃R,R=zan s (s.size+1) 0 1 ⟨[],[]⟩:=⟨_,rfl⟩
 obtain⟨T,hT⟩:∃T,T=zkb s:=⟨_,rfl⟩
 rw[←hT]
 unfold zkb at hT
 rw[←hR] at hT
 refine sR ?_
 refine zq8 (by simp;omega) ?_
 refine sW ?_
 refine zE (wA (yP 1 0 2 zs rfl rfl) (yP 1 2 3 zs rfl rfl)) ?_
 refine zL [2,5] (λ((f,p,a,st):Nat × Nat × Int × RdS)=>[(0,.sc (.string (Q0 s p))),(6,.sc (.int .i64 a))])
  (λ(f,p,a,st)=>[(1,.row true [.own 2 st.nodes.length 0 st.nodes.length,.sc (.slice none 0 0),.own 3 st.zn.length 0 st.zn.length]),(2,.vec true st.nodes.length 2 (st.nodes.map vX)),(3,.vec true st.zn.length 3 (st.zn.map Zo))])
  (λ(f,p,a,st)=>R=zan s f p a st∧p≤s.size∧s.size-p<f∧st.nodes.length≤p∧st.zn.length≤p∧1≤a∧a≤p+1∧∀x∈st.nodes,x.1.size≤1000000) (λ(f,p,a,st)=>f) (s.size+1,0,1,⟨[],[]⟩) ?_
 refine sW ?_
 refine⟨⟨hR,Nat.zero_le _,zo,Nat.zero_le _,Nat.zero_le _,zo,zo,λx hx=>by cases hx⟩,by dsimp only;rw[zjH];exact sK,rfl,?_⟩
 rintro⟨f,p,a,st⟩ ⟨hR,hp,hf,hn,hfl,ha1,ha2,hnm⟩
 obtain⟨f,rfl⟩:∃g,f=g+1:=⟨f-1,zo⟩
 have hC:=zi3 10 s zo p hp
 have hz:=zdd hp
 refine sW ?_
 refine sR ?_
 simp only[zan] at hR
 by_cases hps:p<s.size
 ·rw[if_pos hps] at hR
  have he:Yz (Q0 s p) ⟨#[]⟩=false:=by
   cases h:Yz (Q0 s p) ⟨#[]⟩ with
   | false=>rfl
   | true=>have:=(zfY _).1 h;omega
  rw[show((Q0 s p).toList==(⟨#[]⟩:ByteArray).toList)=false from he]
  refine sW ?_
  by_cases hnl:yJ 10 s p<s.size
  ·rw[if_pos hnl] at hR
   rw[show(10:UInt8).toNat=10 from rfl,if_pos hnl] at hC
   refine sC hC ?_
   have hg:=W2 (c:=10) (s:=s) p
   have hln:(s.extract p (yJ 10 s p)).size≤1000000:=by rw[ByteArray.size_extract];omega
   have hE:=zom st ⟨zo,zo⟩ (s.extract p (yJ 10 s p)) zo a
   refine sA (vg hE [_] [] rfl (by simp[zl,zp,rdO]) (zoI st) rfl rfl (by rw[zmm];try rfl) (by rw[zmm];try rfl)) ?_
   cases hlr:zbf st (s.extract p (yJ 10 s p)) a with
   | none =>
    rw[hlr] at hR
    subst hR
    simp only at hT
    subst hT
    refine sW ?_
    exact sP
   | some st' =>
    rw[hlr] at hR
    obtain⟨f1,f2,f3⟩:=zk3 hlr hnm hln
    refine sW ?_
    refine sI ?_
    exact⟨(f,yJ 10 s p+1,a+1,st'),⟨hR,zo,zo,zo,zo,zo,zo,f3⟩,zd,zC (by exact sK) rfl⟩
  ·rw[if_neg hnl] at hR
   rw[show(10:UInt8).toNat=10 from rfl,if_neg hnl] at hC
   subst hR
   simp only at hT
   subst hT
   refine sC hC ?_
   exact sP
 ·rw[if_neg hps] at hR
  have he:Yz (Q0 s p) ⟨#[]⟩=true:=(zfY _).2 zo
  rw[show((Q0 s p).toList==(⟨#[]⟩:ByteArray).toList)=true from he]
  subst hR
  refine sW ?_
  obtain⟨FR,hFR⟩:∃FR,FR=QR st.nodes st.zn []:=⟨_,rfl⟩
  simp only at hT
  rw[←hFR] at hT
  refine zE (yP 1 1 2 zs rfl rfl) ?_
  refine zL [2,5,46,47] (λ((k,c,out):Nat × Nat × List (Int × Int))=>[(48,.sc (.int .i64 k))])
   (λ(k,c,out)=>[(1,.row true [.own 2 st.nodes.length 0 st.nodes.length,.own 4 c 0 c,.own 3 st.zn.length 0 st.zn.length]),(4,.vec true c 2 (out.map YO))])
   (λ(k,c,out)=>FR=QR st.nodes (st.zn.drop k) out∧k≤st.zn.length∧out.length=k∧c=out.length) (λ(k,c,out)=>st.zn.length-k) (0,0,[]) ?_
  refine sW ?_
  refine⟨⟨by rw[List.drop_zero];exact hFR,Nat.zero_le _,rfl,rfl⟩,by exact sK,rfl,?_⟩
  rintro⟨k,c,out⟩ ⟨hR,hk,ho,rfl⟩
  refine sW ?_
  refine sR ?_
  refine sS (λh6=>?_) λh6=>?_
  ·have hk':k<st.zn.length:=sO
   obtain⟨x,y,al,hx⟩:∃x y al,st.zn[k]=(x,y,al):=⟨_,_,_,rfl⟩
   have hat:(st.zn.map Zo)[k]? = some (Zo (x,y,al)):=by rw[List.getElem?_map,List.getElem?_eq_getElem hk',hx];rfl
   rw[List.drop_eq_getElem_cons hk',hx] at hR
   simp only[QR] at hR
   refine⟨zo,zo,?_⟩
   refine sW ?_
   refine⟨_,by rw[show 0+(k:Int).toNat=k by omega];exact hat,?_⟩
   refine sW ?_
   refine sX (zfi st zo out x) ?_
   refine sX (zfi st zo out y) ?_
   cases hx1:zbi st.nodes x with
   | none =>
    rw[hx1] at hR
    rw[show Qf st.nodes x=-1 by unfold Qf wc;unfold zbi at hx1;rw[hx1]]
    subst hR
    simp only at hT
    subst hT
    refine sW ?_
    exact sP
   | some i =>
    rw[hx1] at hR
    rw[show Qf st.nodes x=(i:Int) by unfold Qf wc;unfold zbi at hx1;rw[hx1]]
    rw[show decide ((i:Int)<0)=false by simp]
    refine sW ?_
    cases hy1:zbi st.nodes y with
    | none =>
     rw[hy1] at hR
     rw[show Qf st.nodes y=-1 by unfold Qf wc;unfold zbi at hy1;rw[hy1]]
     subst hR
     simp only at hT
     subst hT
     refine sW ?_
     exact sP
    | some j =>
     rw[hy1] at hR
     rw[show Qf st.nodes y=(j:Int) by unfold Qf wc;unfold zbi at hy1;rw[hy1]]
     rw[show decide ((j:Int)<0)=false by simp]
     refine sW ?_
     refine sJ ?_
     refine sI ?_
     refine⟨(k+1,out.length+1,out++[((i:Int),(j:Int))]),⟨hR,zo,by simp[ho],zs⟩,zd,?_⟩
     (refine zj 5 zs rfl ?_ ?_<;>(repeat' (first|exact trivial|exact rfl|exact ya.refl _|exact zP.refl _|exact zJ.refl _|refine And.intro ?_ ?_|(simp[zp,zl,zD,-List.map_take,-List.map_drop];done))))
     all_goals first
      | exact zk (by rw[List.drop_zero,List.take_of_length_le zs,List.map_append];rfl)
      | exact zg _ (zB _ YY _)
      | exact zg _ (zB _ wB _)
      | exact zg _ (zB _ (λx=>by simp[Zo,ze,Pure]) _)
  ·have hk':k=st.zn.length:=by have:¬k<st.zn.length:=sO
                               omega
   subst hk'
   rw[List.drop_length] at hR
   simp only[QR] at hR
   subst hR
   simp only at hT
   have hC:=Qw ⟨st.nodes,out⟩ ⟨by show st.nodes.length≤_;omega,by show out.length≤_;omega,λx hx=>by have:=hnm x hx;omega⟩
   refine sN hC ?_
   by_cases h0:(za.mk st.nodes out).xc=0
   ·rw[if_pos h0] at hT
    subst hT
    refine zq8 (by simp[h0]) ?_
    refine sW ?_
    exact .yI _ _ (.cons _ _ _ _ (.agg _ _ (.cons _ _ _ _ (.own 2 _ _ _ 2 true _ _ rfl (zbN zs)) (.cons _ _ _ _ (.own 4 _ _ _ 2 true _ _ rfl (zbN zs)) .nil))) (.cons _ _ _ _ (.refl _) (.cons _ _ _ _ (.refl _) .nil)))
   ·rw[if_neg h0] at hT
    subst hT
    refine zvF (by simpa using h0) ?_
    refine sW ?_
    exact sP
end
section
open Go.RowKit
end
section
open Go.RowKit
end
end Go.Proofs.YthoklahpcibacaaGreatDoor
