/-
  Parts of a proof, joined. No statement is proved here.
-/
import Derived.Test.YteedlhkjaolahaaGreatDoorZ1
import Derived.Test.YteedlhkjaolahaaGreatDoorZ3
import Derived.Test.YteedlhkjaolahaaGreatDoorProg
import Derived.Test.YteedlhkjaolahaaGreatDoorZ2
import Derived.DeepKeys4
namespace Go.Proofs.YteedlhkjaolahaaGreatDoor
set_option linter.unusedSimpArgs false
set_option linter.unusedVariables false
set_option maxRecDepth 100000
section
section
namespace ze
def nxt (P:ze) (but:Int) (a b:Nat):Prop:=a<P.zu.length∧b<P.zu.length∧P.src b=P.dst a∧P.dst a≠but
inductive Via (P:ze) (but:Int):Nat→Nat→Prop
 | refl (a:Nat):Via P but a a
 | step {a b c:Nat} (h:Via P but a b) (k:P.nxt but b c):Via P but a c
theorem Via.head {P:ze} {but:Int} {a b c:Nat} (k:P.nxt but a b) (h:P.Via but b c):P.Via but a c:=by
 induction h with
 | refl=>exact .step (.refl _) k
 | step _ k' ih=>exact .step ih k'
theorem ztp {P:ze} {but:Int} {b:Nat} {s:Nat→Bool} (h0:s b=true) (h1:∀x y,s y=true→P.nxt but x y→s x=true):∀a,P.Via but a b→s a=true:=by
 intro a h
 induction h with
 | refl=>exact h0
 | step _ k ih=>exact ih (h1 _ _ h0 k)
open Classical in
noncomputable def zqi (P:ze) (but:Int) (a b:Nat):Bool:=decide (P.Via but a b)
theorem zdv {P:ze} {but:Int} {a b:Nat}:P.zqi but a b=true↔P.Via but a b:=by unfold zqi;simp
structure Uc (P:ze) (but:Int) (flow:Nat) (s:Nat→Bool) (Q:List Int):Prop where
 start:s flow=true
 sound:∀i,s i=true→i<P.zu.length∧P.Via but i flow
 todo:∀x∈Q,0≤x∧x<P.zu.length∧s x.toNat=true
 done:∀i,s i=true→(i:Int)∈Q∨∀j,P.nxt but j i→s j=true
structure U9 (P:ze) (but:Int) (flow:Nat) (s:Nat→Bool) (Q:List Int) (x k:Nat):Prop where
 start:s flow=true
 sound:∀i,s i=true→i<P.zu.length∧P.Via but i flow
 todo:∀x∈Q,0≤x∧x<P.zu.length∧s x.toNat=true
 done:∀i,s i=true→(i:Int)∈Q∨(∀j,P.nxt but j i→s j=true)∨(i=x∧∀j,j<k→P.nxt but j i→s j=true)
 here:s x=true
 go:P.src x≠but
theorem Uc.begin {P:ze} {but:Int} {flow:Nat} (h:flow<P.zu.length):P.Uc but flow (mark (λ_=>false) flow) [(flow:Int)] where
 start:=wo _ _
 sound i hi:=by
  rcases qM.1 hi with rfl|h'
  ·exact⟨h,.refl _⟩
  ·cases h'
 todo x hx:=by
  rw[List.mem_singleton] at hx;subst hx
  exact⟨zo,zo,by rw[Int.toNat_natCast];exact wo _ _⟩
 done i hi:=by
  rcases qM.1 hi with rfl|h'
  ·exact .inl zs
  ·cases h'
theorem Uc.stop {P:ze} {but:Int} {flow:Nat} {s:Nat→Bool} {Q:List Int} {x:Int} (h:P.Uc but flow s (x::Q)) (hx:P.src x.toNat=but):P.Uc but flow s Q where
 start:=h.start
 sound:=h.sound
 todo y hy:=h.todo y (List.mem_cons_of_mem _ hy)
 done i hi:=by
  rcases h.done i hi with q|q
  ·rcases List.mem_cons.1 q with q|q
   ·refine .inr λj hj=>?_
    exfalso
    subst q
    rw[Int.toNat_natCast] at hx
    exact hj.2.2.2 (hj.2.2.1.symm.trans hx)
   ·exact .inl q
  ·exact .inr q
theorem Uc.pop {P:ze} {but:Int} {flow:Nat} {s:Nat→Bool} {Q:List Int} {x:Int} (h:P.Uc but flow s (x::Q)) (hx:P.src x.toNat≠but):P.U9 but flow s Q x.toNat 0 where
 start:=h.start
 sound:=h.sound
 todo y hy:=h.todo y (List.mem_cons_of_mem _ hy)
 done i hi:=by
  rcases h.done i hi with q|q
  ·rcases List.mem_cons.1 q with q|q
   ·exact .inr (.inr ⟨zo,λj hj=>zo⟩)
   ·exact .inl q
  ·exact .inr (.inl q)
 here:=(h.todo x zs).2.2
 go:=hx
theorem U9.skip {P:ze} {but:Int} {flow:Nat} {s:Nat→Bool} {Q:List Int} {x k:Nat} (h:P.U9 but flow s Q x k) (hk:P.dst k=P.src x→s k=true):P.U9 but flow s Q x (k+1) where
 start:=h.start
 sound:=h.sound
 todo:=h.todo
 done i hi:=by
  rcases h.done i hi with q|q|⟨rfl,q⟩
  ·exact .inl q
  ·exact .inr (.inl q)
  ·refine .inr (.inr ⟨rfl,λj hj hn=>?_⟩)
   by_cases e:j=k
   ·subst e;exact hk hn.2.2.1.symm
   ·exact q j zo hn
 here:=h.here
 go:=h.go
theorem U9.push {P:ze} {but:Int} {flow:Nat} {s:Nat→Bool} {Q:List Int} {x k:Nat} (h:P.U9 but flow s Q x k) (hk:k<P.zu.length) (hd:P.dst k=P.src x):P.U9 but flow (mark s k) (Q++[(k:Int)]) x (k+1) where
 start:=xC h.start
 sound i hi:=by
  rcases qM.1 hi with rfl|h'
  ·have:=h.sound x h.here
   exact⟨hk,Via.head ⟨hk,this.1,hd.symm,by rw[hd];exact h.go⟩ this.2⟩
  ·exact h.sound i h'
 todo y hy:=by
  rcases List.mem_append.1 hy with q|q
  ·obtain⟨a,b,c⟩:=h.todo y q
   exact⟨a,b,xC c⟩
  ·rw[List.mem_singleton] at q;subst q
   exact⟨zo,zo,by rw[Int.toNat_natCast];exact wo _ _⟩
 done i hi:=by
  rcases qM.1 hi with rfl|h'
  ·exact .inl zs
  ·rcases h.done i h' with q|q|⟨rfl,q⟩
   ·exact .inl (List.mem_append_left _ q)
   ·exact .inr (.inl λj hj=>xC (q j hj))
   ·refine .inr (.inr ⟨rfl,λj hj hn=>?_⟩)
    by_cases e:j=k
    ·subst e;exact wo _ _
    ·exact xC (q j zo hn)
 here:=xC h.here
 go:=h.go
theorem U9.fin {P:ze} {but:Int} {flow:Nat} {s:Nat→Bool} {Q:List Int} {x:Nat} (h:P.U9 but flow s Q x P.zu.length):P.Uc but flow s Q where
 start:=h.start
 sound:=h.sound
 todo:=h.todo
 done i hi:=by
  rcases h.done i hi with q|q|⟨rfl,q⟩
  ·exact .inl q
  ·exact .inr q
  ·exact .inr λj hj=>q j hj.1 hj
theorem Uc.fin {P:ze} {but:Int} {flow:Nat} {s:Nat→Bool} (h:P.Uc but flow s []) (i:Nat):s i=P.zqi but i flow:=by
 rw[Bool.eq_iff_iff,zdv]
 refine⟨λhi=>(h.sound i hi).2,λhi=>ztp h.start (λx y hy hn=>?_) i hi⟩
 rcases h.done y hy with q|q
 ·cases q
 ·exact q x hn
structure DfsJ (P:ze) (but:Int) (a:Nat) (s t:Nat→Bool) (k:Nat):Prop where
 mono:∀x,s x=true→t x=true
 here:t a=true
 sound:∀x,t x=true→s x=true∨P.Via but a x
 closed:∀x y,t x=true→s x=false→x≠a→P.nxt but x y→t y=true
 kids:∀j,j<k→P.nxt but a j→t j=true
theorem DfsJ.begin {P:ze} {but:Int} {a:Nat} {s:Nat→Bool}:P.DfsJ but a s (mark s a) 0 where
 mono x h:=xC h
 here:=wo _ _
 sound x h:=by
  rcases qM.1 h with rfl|h
  ·exact .inr (.refl _)
  ·exact .inl h
 closed x y h1 h2 h3 _:=by
  rcases qM.1 h1 with rfl|h
  ·exact absurd rfl h3
  ·rw[h2] at h;cases h
 kids j h:=zo
end ze
end
section
open Go.RowKit
theorem zmf {Z:List Int} {lo hi:Nat} (h1:lo<hi) (h2:hi≤Z.length):(Z.take hi).drop lo=Z.getD lo 0::(Z.take hi).drop (lo+1):=by
 rw[List.drop_eq_getElem_cons (by rw[List.length_take];omega),List.getElem_take,List.getD_eq_getElem?_getD,List.getElem?_eq_getElem zo]
 rfl
theorem zlT {Z:List Int} {lo hi:Nat} {k:Int}:((zI Z).take hi).drop lo++[[D.sc (.int .i64 k)]]=zI ((Z.take hi).drop lo++[k]):=by
 simp[zI]
def zzy:PC:=.seq (OP [Bi 41 .lss 40 39]) (.seq (.cond 41 .skip (.exit 2)) (.seq (.block 3 (.seq (OP [qm 42 40,Ia 43 2 38 40,LA 44 2 43,q 11 (.alloc [(.int .i64 0),(.int .i64 0)]),qm 10 42,So 2 11 44]) (.seq (OP [Fa 45 1 11,Lo 46 45,qm 47 9,Bi 48 .eql 46 47,qm 49 48,GT 50 49 (.move 7),GT 51 49 (.move 10),GT 52 49 (.zM 1 50 51),GT 53 49 (.zg 52),GT 54 49 (.un .not 53),Pk 55 49 54 cF]) (.cond 55 (.seq (OP [qm 56 7,qm 57 10,Ia 58 1 56 57,So 1 58 cT]) (OP [qm 59 8,qm 60 10,Bs 61 1 1 [60],Ap 62 1 8 59 61,qm 8 62])) .skip)))) (OP [Bi 63 .add 40 (cI 1),qm 40 63])))
def zBk:PC:=.seq (.seq (OP [qm 21 8,Ln 22 21,Bi 23 .gtr 22 (cI 0)]) (.cond 23 .skip (.exit 0))) (.block 1 (.seq (.ops [Fa 24 1 3,qd 25 (.zg 24) 1,qm 26 8,qd 27 (.zM 1 26 (cI 0)) 4,qd 28 (.zg 27) 12,qd 29 (.zM 2 25 28) 31,qd 30 (.zy 0 29) 63,qd 31 (.zg 30) 127,qw 9 31 255] true) (.seq (OP [qm 32 8,q 33 (.slc 1 32 (some (cI 1)) none none),qm 8 33]) (.seq (.seq (OP [qm 34 9,qm 35 2,Bi 36 .eql 34 35]) (.cond 36 (.exit 1) .skip)) (.seq (OP [Fa 37 1 3,Lo 38 37,Ln 39 38,Mv 40 (cI 0)]) (.block 2 (.loop zzy)))))))
def c240:PC:=.seq (OP [Bx 3 0,Mv 6 cN]) (.seq (OP [Fa 12 1 3,Lo 13 12,Ln 14 13,q 15 (.wP 1 1 [(.bool false)] 14 14),qm 7 15]) (.seq (OP [qm 16 7,qm 17 1,Ia 18 1 16 17,So 1 18 cT]) (.seq (OP [qm 19 1,Bs 20 1 1 [19],qm 8 20]) (.seq (.block 0 (.loop zBk)) (.seq (OP [qm 64 7,qm 6 64]) .ret)))))
theorem zwt:zv Tryz.prog 240 65 [.tmp 6] c240:=fK Tryz.func240
theorem zpE (P:ze) (hP:P.Fits) (hF:P.zu.length≤30) (flow:Nat) (hf:flow<P.zu.length) (hok:∀i,i<P.zu.length→P.u4 i=true) (but:Int) :
  zn Tryz.prog 240 [yS P,.sc (.int .i64 flow),.sc (.int .i64 but)] (ur P.zu.length λi=>P.zqi but i flow):=by
 refine za zwt zs (by simp[zb,Pure,yb]) ?_ (zY _ _)
 refine sR ?_
 rw[List.length_map]
 refine⟨zo,zo,zo,?_⟩
 rw[Int.toNat_natCast,show List.map D.sc [Value.bool false]=[D.sc (.bool false)] from rfl,ZI]
 refine sW ?_
 refine sB ?_
 refine⟨_,yh flow zo zo,?_⟩
 refine sW ?_
 refine zP [2,3,7] (λ((s,Z,lo,hi,z7):(Nat→Bool) × List Int × Nat × Nat × Nat)=>[(8,.own 2 z7 lo hi)]) (λ(s,Z,lo,hi,z7)=>[(1,.vec true 0 1 (Yt P.zu.length s)),(2,.vec true z7 1 (zI Z))])
  (λ(s,Z,lo,hi,z7)=>lo≤hi∧hi≤Z.length∧hi-lo+xv s P.zu.length≤P.zu.length∧P.Uc but flow s ((Z.take hi).drop lo)) (λ(s,Z,lo,hi,z7)=>(hi-lo)+xv s P.zu.length) (mark (λ_=>false) flow,[(flow:Int)],0,1,0) ?_
 refine sW ?_
 have u1:=QC (s:=λ_=>false) (s':=mark (λ_=>false) flow) hf (λj _ h=>by cases h) rfl (wo _ _)
 have u2:=zbe (λ_=>false) P.zu.length
 refine⟨⟨zo,zs,zo,ze.Uc.begin hf⟩,by exact sK,by rw[U0 (v:=flow) zo];rfl,?_⟩
 rintro⟨s,Z,lo,hi,z7⟩ ⟨hlo,hhi,hu,hI⟩
 refine sW ?_
 refine sR ?_
 refine sS (λh1=>?_) λh1=>?_
 ·have h1:lo<hi:=sO
  rw[zmf h1 hhi] at hI
  have hx:=hI.todo (Z.getD lo 0) List.mem_cons_self
  generalize hX:Z.getD lo 0=x at hx hI
  have hfx:=ze.Zj.1 (hok x.toNat zo)
  refine sB ?_
  refine⟨_,yc (l:=Z) (k:=lo) zo zo,?_⟩
  refine sW ?_
  rw[hX]
  refine sL (VE P (k:=x.toNat) zo zo) ?_
  refine⟨zo,zo,zo,?_⟩
  refine sW ?_
  rw[show lo+(hi-lo)=hi by omega]
  refine sS (λh2=>?_) λh2=>?_
  ·have h2:P.src x.toNat=but:=sO
   refine⟨(s,Z,lo+1,hi,z7),⟨zo,hhi,zo,hI.stop h2⟩,zd,?_⟩
   exact zD (by exact sK) rfl
  ·have h2:P.src x.toNat≠but:=sO
   rw[List.length_map]
   refine zP [2,3,7,9,38,39] (λ((t,Z',lo',hi',ver',k):(Nat→Bool) × List Int × Nat × Nat × Nat × Nat)=>[(8,.own 2 ver' lo' hi'),(40,.sc (.int .i64 k))]) (λ(t,Z',lo',hi',ver',k)=>[(1,.vec true 0 1 (Yt P.zu.length t)),(2,.vec true ver' 1 (zI Z'))])
    (λ(t,Z',lo',hi',ver',k)=>k≤P.zu.length∧lo'≤hi'∧hi'≤Z'.length∧hi'-lo'+xv t P.zu.length<hi-lo+xv s P.zu.length∧P.U9 but flow t ((Z'.take hi').drop lo') x.toNat k) (λ(t,Z',lo',hi',ver',k)=>P.zu.length-k) (s,Z,lo+1,hi,z7,0) ?_
   refine sW ?_
   refine⟨⟨zo,zo,hhi,zo,hI.pop h2⟩,by exact sK,rfl,?_⟩
   rintro⟨t,Z',lo',hi',ver',k⟩ ⟨hk,hlo',hhi',hu',hJ⟩
   refine sW ?_
   refine sR ?_
   refine sS (λh3=>?_) λh3=>?_
   ·have hk':k<P.zu.length:=sO
    refine sL (VE P (k:=k) zo hk') ?_
    have skip:(P.dst k=P.src x.toNat→t k=true)→P.U9 but flow t ((Z'.take hi').drop lo') x.toNat (k+1):=hJ.skip
    refine sS (λh4=>?_) λh4=>?_
    ·have h4:P.dst k=P.src x.toNat:=sO
     refine sB ?_
     refine⟨_,yh k zo zo,?_⟩
     refine sW ?_
     cases ht:t k
     ·refine sW ?_
      refine sB ?_
      refine⟨_,yh k zo zo,?_⟩
      refine sW ?_
      refine sJ ?_
      refine sI ?_
      have u3:=QC (s:=t) (s':=mark t k) hk' (λj _ h=>xC h) ht (wo _ _)
      have hp:=hJ.push hk' h4
      refine⟨(mark t k,(Z'.take hi').drop lo'++[(k:Int)],0,hi'-lo'+1,ver'+1,k+1),⟨zo,zo,by simp;omega,zo,by rw[List.drop_zero,List.take_of_length_le (by simp;omega)];exact hp⟩,zd,?_⟩
      (refine zm 3 zs rfl ?_ ?_<;>(repeat' (first|exact trivial|exact rfl|exact ym.refl _|exact zX.refl _|exact zN.refl _|refine And.intro ?_ ?_|(simp[zt,zl,zF,-List.map_take,-List.map_drop];done))))
      ·exact zp (U0 zo)
      ·exact zp zlT
     ·refine sW ?_
      refine sI ?_
      refine⟨(t,Z',lo',hi',ver',k+1),⟨zo,hlo',hhi',hu',skip λ_=>ht⟩,zd,?_⟩
      exact zm 3 zs rfl sQ sQ
    ·have h4:P.dst k≠P.src x.toNat:=sO
     refine sW ?_
     refine sI ?_
     refine⟨(t,Z',lo',hi',ver',k+1),⟨zo,hlo',hhi',hu',skip λe=>absurd e h4⟩,zd,?_⟩
     exact zm 3 zs rfl sQ sQ
   ·have hk':k=P.zu.length:=by have:¬k<P.zu.length:=sO
                               omega
    subst hk'
    refine⟨(t,Z',lo',hi',ver'),⟨hlo',hhi',zo,hJ.fin⟩,zd,?_⟩
    exact zD (by exact sK) rfl
 ·have h0:hi=lo:=sO
  subst h0
  rw[List.drop_eq_nil_of_le (by rw[List.length_take];omega)] at hI
  rw[x3 (g':=λi=>P.zqi but i flow) λi _=>hI.fin i]
  exact UP rfl
end
section
open Go.RowKit
end
section
def val (M:List Int) (i:Nat):Int:=M.getD i 0
namespace ze
def ZE (P:ze) (n:Int) (a:Nat):Int:=(P.v7 n).getD a 0
def Uh (P:ze) (n:Int) (a:Nat):Int:=(P.uw n).getD a 0
theorem Qi {l:List Int} {a:Nat} (h:a<l.length):l.getD a 0∈l:=by
 rw[List.getD_eq_getElem?_getD,List.getElem?_eq_getElem h];exact List.getElem_mem h
theorem zk9 {l:List Int} {x:Int} (h:x∈l):∃k,k<l.length∧l.getD k 0=x:=XQ h
theorem zas {P:ze} {n:Int} {a:Nat} (h:a<(P.v7 n).length):0≤P.ZE n a∧P.ZE n a<P.zu.length∧P.dst (P.ZE n a).toNat=n:=by
 obtain⟨i,h1,h2,h3⟩:=Vk.1 (Qi h)
 unfold ZE v7
 rw[h3]
 rw[Int.toNat_natCast]
 exact⟨zo,zo,by simpa using h2⟩
theorem zsL {P:ze} {n:Int} {a:Nat} (h:a<(P.uw n).length):0≤P.Uh n a∧P.Uh n a<P.zu.length∧P.src (P.Uh n a).toNat=n:=by
 obtain⟨i,h1,h2,h3⟩:=Vk.1 (Qi h)
 unfold Uh uw
 rw[h3]
 rw[Int.toNat_natCast]
 exact⟨zo,zo,by simpa using h2⟩
def zay (P:ze) (M:List Int) (n:Int):Nat→Bool
 | 0=>false
 | a+1=>P.zay M n a||decide (0<val M (P.ZE n a).toNat)
def zcf (P:ze) (M:List Int) (n:Int):Nat→Bool
 | 0=>true
 | a+1=>P.zcf M n a&&decide (0<val M (P.ZE n a).toNat)
def hold (P:ze) (M:List Int) (n:Int) (f i:Nat):Prop:=P.Via n i f∧0<val M i∧P.dst i≠n
def zeK (P:ze) (M:List Int) (n:Int) (a:Nat):Prop:=val M (P.ZE n a).toNat≤0∧∃i,i<P.zu.length∧P.hold M n (P.ZE n a).toNat i
open Classical in
noncomputable def Q4 (P:ze) (M:List Int) (n:Int):Bool:=P.zay M n (P.v7 n).length&&decide (∀a,a<(P.v7 n).length→¬P.zeK M n a)
open Classical in
noncomputable def UB (P:ze) (M:List Int) (s:yk):Bool :=
 if 0≤s.2.1 then decide (0<val M s.2.1.toNat) else if P.kind s.1.toNat=7 then P.Q4 M s.1 else P.zcf M s.1 (P.v7 s.1).length
open Classical in
theorem zi3 {P:ze} {M:List Int} {n:Int} {a:Nat} (ha:a<(P.v7 n).length) (h:P.zeK M n a):P.Q4 M n=false:=by
 unfold Q4
 rw[Bool.and_eq_false_iff]
 exact .inr (decide_eq_false λq=>q a ha h)
open Classical in
theorem zl8 {P:ze} {M:List Int} {n:Int} (h:∀a,a<(P.v7 n).length→¬P.zeK M n a):P.Q4 M n=P.zay M n (P.v7 n).length:=by
 unfold Q4
 rw[decide_eq_true h,Bool.and_true]
structure zft (P:ze) (s:yk):Prop where
 node:0≤s.1∧s.1<P.nodes.length
 in_:-1≤s.2.1∧s.2.1<P.zu.length
 kind:s.2.1<0→P.kind s.1.toNat=6∨P.kind s.1.toNat=7
 out:0≤s.2.2∧s.2.2≤1073741824
theorem zni {P:ze} (hf:P.zu.length≤30) (n:Int):0≤P.Y3 n∧P.Y3 n≤1073741823:=by
 have l2:=P.Uo n
 have:=zhI (k:=(P.uw n).length) (n:=30) zo
 have e30:zfH 30=1073741823:=rfl
 unfold Y3
 omega
theorem znE {n:Int} {s:yk}:∀{k:Nat},s∈orS n k→s.1=n∧s.2.1=-1∧0≤s.2.2∧s.2.2≤k
 | 0,h=>by cases h
 | k+1,h=>by
  simp only[orS,List.mem_append,List.mem_singleton] at h
  rcases h with h|h
  ·have:=znE h
   exact⟨this.1,this.2.1,this.2.2.1,zo⟩
  ·subst h
   exact⟨rfl,rfl,zd,zd⟩
theorem zkP {n i:Int} {s:yk}:∀{k:Nat},s∈zkx n i k→s.1=n∧s.2.1=i∧∃j,j<k∧s.2.2=2^j
 | 0,h=>by cases h
 | k+1,h=>by
  simp only[zkx,List.mem_append,List.mem_singleton] at h
  rcases h with h|h
  ·obtain⟨a,b,j,c,d⟩:=zkP h
   exact⟨a,b,j,zo,d⟩
  ·subst h
   exact⟨rfl,rfl,k,zo,rfl⟩
theorem zf7 {P:ze} {k n:Int} {s:yk} (hf:P.zu.length≤30):∀{j:Nat},j≤(P.v7 n).length→s∈P.Yb k n j→s.1=n∧(0≤s.2.1∧s.2.1<P.zu.length)∧0≤s.2.2∧s.2.2≤1073741824
 | 0,_,h=>by cases h
 | j+1,hj,h=>by
  simp only[Yb,List.mem_append] at h
  rcases h with h|h
  ·exact zf7 hf zo h
  ·have hi:=zas (P:=P) (n:=n) (a:=j) zo
   unfold ZE at hi
   have l2:=P.Uo n
   have ha:=zni hf n
   unfold Jo at h
   split at h
   ·obtain⟨a,b,i,c,d⟩:=zkP h
    have p1:=zaZ i
    have p2:=ze3 (k:=i) (n:=30) zo
    have p3:(2:Int)^30=1073741824:=zc
    exact⟨a,zo,zo⟩
   ·rw[List.mem_singleton] at h
    subst h
    exact⟨rfl,⟨hi.1,hi.2.1⟩,ha.1,zd⟩
theorem zjv {P:ze} {n:Nat} {s:yk} (hf:P.zu.length≤30) (hn:n<P.nodes.length) (h:s∈P.qT n):P.zft s:=by
 have ha:=zni hf n
 unfold qT at h
 split at h
 ·obtain⟨a,b,c⟩:=zf7 hf (Nat.le_refl _) h
  exact⟨zo,zo,λq=>zo,c⟩
 ·split at h
  ·rename_i q
   rw[List.mem_singleton] at h
   subst h
   exact⟨zd,zd,λ_=>.inl (by rw[Int.toNat_natCast];exact q),ha.1,zd⟩
  ·split at h
   ·rename_i q
    obtain⟨a,b,c,d⟩:=znE h
    exact⟨zo,zo,λ_=>.inr (by rw[a,Int.toNat_natCast];exact q),c,zo⟩
   ·cases h
theorem zb1 {P:ze} {s:yk} (hf:P.zu.length≤30):∀{n:Nat},n≤P.nodes.length→s∈P.vf n→P.zft s
 | 0,_,h=>by cases h
 | n+1,hn,h=>by
  simp only[vf,List.mem_append] at h
  rcases h with h|h
  ·exact zb1 hf zo h
  ·exact zjv hf zo h
noncomputable def Ya (P:ze) (M:List Int) (l:List yk):Nat→List Int
 | 0=>[]
 | k+1=>if P.UB M (l.getD k (0,0,0))=true then P.Ya M l k++[(k:Int)] else P.Ya M l k
theorem zg0 (P:ze) (M:List Int) (l:List yk):∀k,(P.Ya M l k).length≤k
 | 0=>by simp[Ya]
 | k+1=>by
  have:=zg0 P M l k
  simp only[Ya]
  split
  ·simp;omega
  ·omega
theorem zgO {P:ze} {M:List Int} {n:Int} (h:∀i,0≤val M i):∀a,P.zcf M n a=!((List.range a).any λj=>val M (P.ZE n j).toNat==0)
 | 0=>rfl
 | a+1=>by
  rw[zcf,zgO h a,List.range_succ,List.any_append]
  have h1:decide (0<val M (P.ZE n a).toNat)=!(val M (P.ZE n a).toNat==0):=by
   have:=h (P.ZE n a).toNat
   by_cases q:val M (P.ZE n a).toNat=0
   ·simp[q]
   ·rw[decide_eq_true zo];simp[q]
  simp[h1]
theorem zqv {l:List Int} {p:Int→Bool}:l.any p=(List.range l.length).any λj=>p (l.getD j 0):=by
 rw[Bool.eq_iff_iff,List.any_eq_true,List.any_eq_true]
 constructor
 ·rintro⟨x,hx,hp⟩
  obtain⟨k,hk,rfl⟩:=List.mem_iff_getElem.1 hx
  refine⟨k,List.mem_range.2 hk,?_⟩
  rw[List.getD_eq_getElem?_getD,List.getElem?_eq_getElem hk]
  exact hp
 ·rintro⟨k,hk,hp⟩
  exact⟨_,Qi (List.mem_range.1 hk),hp⟩
end ze
end
section
open Go.RowKit
structure ze.Mark (P:ze) (M:List Int):Prop where
 len:M.length=P.zu.length
 pos:∀i,0≤val M i
 top:∀i,val M i≤9
theorem ziq {M:List Int} {z k:Nat} (hz:z=k) (h:k<M.length):(M.map λn=>[D.sc (.int .i64 n)])[z]? = some [.sc (.int .i64 (val M k))]:=yc hz h
theorem zfv {P:ze} (h0:P.yF=0) {n:Int} (h1:0≤n) (h2:n<P.nodes.length):P.qI n=0∧P.zjg n=P.v7 n∧P.zch n=P.uw n:=by
 have hE:P.qI n=0:=by unfold ze.qI;rw[if_neg zo,if_neg zo]
 exact⟨hE,by unfold ze.zjg;rw[if_pos hE],by unfold ze.zch;rw[if_pos hE]⟩
theorem zhq {P:ze} (h:P.yF=0):∀i,i<P.zu.length→P.u4 i=true:=by
 unfold ze.yF at h
 repeat' (split at h)
 all_goals first|(exact absurd h zc)|(exact absurd h (by assumption))|skip
 all_goals exact Classical.not_not.1 (by assumption)
def zzU:PC:=.seq (OP [Bi 37 .lss 36 35]) (.seq (.cond 37 .skip (.exit 2)) (.seq (.block 3 (.seq (OP [qm 38 36,Ia 39 1 34 36,Lo 40 39,qm 12 38,qm 13 40]) (.seq (OP [qm 41 13,qm 42 41,GT 43 42 (.move 1),GT 44 42 (.move 12),GT 45 42 (.zM 1 43 44),GT 46 42 (.zg 45),GT 47 42 (.bin .gtr 46 (cI 0)),Pk 48 42 47 cF,qm 49 48,GT 50 49 (.zy 1 3),GT 51 49 (.zg 50),GT 52 49 (.move 12),GT 53 49 (.zM 2 51 52),GT 54 49 (.zy 1 53),GT 55 49 (.zg 54),GT 56 49 (.move 2),GT 57 49 (.bin .neq 55 56),Pk 58 49 57 cF]) (.cond 58 (.seq (OP [Mv 6 cF]) .ret) .skip)))) (OP [Bi 59 .add 36 (cI 1),qm 36 59])))
def zA0:PC:=.seq (OP [Bi 23 .lss 22 21]) (.seq (.cond 23 .skip (.exit 0)) (.seq (.block 1 (.seq (OP [Ia 24 1 20 22,Lo 25 24,qm 11 25]) (.seq (.seq (OP [qm 26 1,qm 27 11,Ia 28 1 26 27,Lo 29 28,Bi 30 .gtr 29 (cI 0)]) (.cond 30 (.seq (OP [Mv 9 cT]) (.exit 1)) .skip)) (.seq (OP [LA 31 2 3,qm 32 11,qm 33 2,Ca 34 240 [31,32,33],Ln 35 34,Mv 36 (cI 0)]) (.block 2 (.loop zzU)))))) (OP [Bi 60 .add 22 (cI 1),qm 22 60])))
def c236:PC:=.seq (OP [Bx 3 0,Mv 6 cF]) (.seq (OP [LA 15 2 3,qm 16 2,Ca 17 109 [15,16],qm 14 17,Xt 18 0 14,Xt 19 1 14,qm 7 18,qm 8 19]) (.seq (OP [Mv 9 cF]) (.seq (.seq (OP [qm 20 7,Ln 21 20,Mv 22 (cI 0)]) (.block 0 (.loop zA0))) (.seq (OP [qm 61 9,qm 6 61]) .ret))))
theorem zvl:zv Tryz.prog 236 62 [.tmp 6] c236:=fK Tryz.func236
theorem zlN (P:ze) (hP:P.Fits) (h0:P.yF=0) (M:List Int) (hM:P.Mark M) (n:Int) (h1:0≤n) (h2:n<P.nodes.length) :
  zn Tryz.prog 236 [yS P,zB M,.sc (.int .i64 n)] (.sc (.bool (P.Q4 M n))):=by
 obtain⟨hs1,hs2⟩:=xi h0
 obtain⟨hE,hI,_⟩:=zfv h0 h1 h2
 have hi:=zaQ P hP n
 rw[hI,hE] at hi
 have l1:=P.zaz n
 have lM:=hM.len
 refine za zvl zs (by simp[zb,Pure,yb,zj]) ?_ (by simp[Pure])
 refine sR ?_
 refine sC hi ?_
 rw[List.length_map]
 refine zP [1,2,3,20,21] (λa:Nat=>[(9,.sc (.bool (P.zay M n a))),(22,.sc (.int .i64 a))]) (λ_=>[]) (λa=>a≤(P.v7 n).length∧∀j,j<a→¬P.zeK M n j) (λa=>(P.v7 n).length-a) 0 ?_
 refine sW ?_
 refine⟨⟨zo,λj h=>zo⟩,by exact sK,rfl,?_⟩
 rintro a ⟨ha,hall⟩
 refine sW ?_
 refine sR ?_
 refine sS (λh3=>?_) λh3=>?_
 ·have ha':a<(P.v7 n).length:=sO
  have xR:=ze.zas (P:=P) (n:=n) ha'
  have ep:P.zay M n (a+1)=(P.zay M n a||decide (0<val M (P.ZE n a).toNat)):=rfl
  refine sL (yc (k:=a) zo ha') ?_
  rw[show(P.v7 n).getD a 0=P.ZE n a from rfl]
  generalize hx:P.ZE n a=x at xR ep
  refine sL (ziq (k:=x.toNat) zo zo) ?_
  refine sS (λh4=>?_) λh4=>?_
  ·have h4:0<val M x.toNat:=sO
   refine sW ?_
   refine sI ?_
   refine⟨a+1,⟨zo,λj hj=>?_⟩,zd,?_⟩
   ·by_cases e:j=a
    ·subst e;exact λq=>by have:=q.1;rw[hx] at this;omega
    ·exact hall j zo
   ·rw[decide_eq_true h4,Bool.or_true] at ep
    exact zD ⟨by simp only[ep];rfl,by exact sK⟩ rfl
  ·have h4:¬0<val M x.toNat:=sO
   rw[decide_eq_false h4,Bool.or_false] at ep
   have hc:=zpE P hP hs2 x.toNat zo (zhq h0) n
   rw[show((x.toNat:Nat):Int)=x by omega] at hc
   refine sW ?_
   refine sC hc ?_
   rw[zhF]
   refine zP [1,2,3,9,20,21,22,34,35] (λk:Nat=>[(36,.sc (.int .i64 k))]) (λ_=>[]) (λk=>k≤P.zu.length∧∀i,i<k→¬P.hold M n x.toNat i) (λk=>P.zu.length-k) 0 ?_
   refine sW ?_
   refine⟨⟨zo,λj h=>zo⟩,by exact sK,rfl,?_⟩
   rintro k ⟨hk,hno⟩
   refine sW ?_
   refine sR ?_
   have next:∀{i:Nat},¬P.hold M n x.toNat k→i<k+1→¬P.hold M n x.toNat i:=λh1 h2=>by
    rename_i i
    by_cases e:i=k
    ·subst e;exact h1
    ·exact hno i zo
   refine sS (λh5=>?_) λh5=>?_
   ·have hk':k<P.zu.length:=sO
    refine sL (yh k zo hk') ?_
    cases hv:P.zqi n k x.toNat
    ·refine sW ?_
     refine sI ?_
     refine⟨k+1,⟨zo,λi hi=>next (λq=>by rw[ze.zdv.2 q.1] at hv;cases hv) hi⟩,zd,zD (by exact sK) rfl⟩
    ·refine sW ?_
     refine sL (ziq (k:=k) zo zo) ?_
     cases hg:decide (val M k>0)
     ·refine sW ?_
      refine sI ?_
      refine⟨k+1,⟨zo,λi hi=>next (λq=>by rw[decide_eq_true q.2.1] at hg;cases hg) hi⟩,zd,zD (by exact sK) rfl⟩
     ·refine sW ?_
      refine sL (VE P (k:=k) zo hk') ?_
      refine sS (λh6=>?_) λh6=>?_
      ·have h6:P.dst k≠n:=sO
       rw[ze.zi3 ha' ⟨by rw[hx];omega,k,hk',by rw[hx];exact⟨ze.zdv.1 hv,of_decide_eq_true hg,h6⟩⟩]
       exact .refl _
      ·have h6:P.dst k=n:=sO
       refine sI ?_
       refine⟨k+1,⟨zo,λi hi=>next (λq=>q.2.2 h6) hi⟩,zd,zD (by exact sK) rfl⟩
   ·have hk':k=P.zu.length:=by have:¬k<P.zu.length:=sO
                               omega
    subst hk'
    refine sI ?_
    refine⟨a+1,⟨zo,λj hj=>?_⟩,zd,zD ⟨by simp only[ep];rfl,by exact sK⟩ rfl⟩
    by_cases e:j=a
    ·subst e
     rintro⟨-,i,q1,q2⟩
     rw[hx] at q2
     exact hno i q1 q2
    ·exact hall j zo
 ·have ha':a=(P.v7 n).length:=by have:¬a<(P.v7 n).length:=sO
                                 omega
  subst ha'
  rw[ze.zl8 hall]
  exact .refl _
def c237:PC:=.seq (OP [Mv 3 cF]) (.seq (OP [Lo 4 1,qm 5 0,Ia 6 1 4 5,Lo 7 6,Bi 8 .eql 7 (cI 0),qm 3 8]) .ret)
theorem zuw:zv Tryz.prog 237 9 [.tmp 3] c237:=fK Tryz.func237
def c219:PC:=.seq (OP [Bx 3 0,Bx 4 1,Bx 5 2,Mv 6 cF]) (.seq (.seq (OP [Fa 9 1 5,Lo 10 9,Bi 11 .geq 10 (cI 0)]) (.cond 11 (.seq (OP [Lo 12 4,Fa 13 1 5,Lo 14 13,Ia 15 1 12 14,Lo 16 15,Bi 17 .gtr 16 (cI 0),qm 6 17]) .ret) .skip)) (.seq (.seq (OP [Fa 18 0 3,Lo 19 18,Fa 20 0 5,Lo 21 20,Ia 22 2 19 21,Fa 23 1 22,Lo 24 23,Bi 25 .eql 24 (cI 7)]) (.cond 25 (.seq (OP [LA 26 2 3,Lo 27 4,Fa 28 0 5,Lo 29 28,Ca 30 236 [26,27,29],qm 6 30]) .ret) .skip)) (.seq (OP [LA 32 2 3,Fa 33 0 5,Lo 34 33,Ca 35 109 [32,34],qm 31 35,Xt 36 0 31,Xt 37 1 31,qm 7 36,qm 8 37]) (.seq (OP [qm 38 7,q 39 (.uG (.func 237) [] [4]),Ca 40 52 [38,39],Nt 41 40,qm 6 41]) .ret))))
theorem zv4:zv Tryz.prog 219 42 [.tmp 6] c219:=fK Tryz.func219
theorem zfA (M:List Int) (x:Int) (h1:0≤x) (h2:x<M.length):zn Tryz.prog 237 [.sc (.int .i64 x),.yO [zB M]] (.sc (.bool (val M x.toNat==0))):=by
 refine za zuw zs (by simp[zb,Pure,zj]) ?_ (by simp[Pure])
 refine sR ?_
 refine sL (ziq (k:=x.toNat) zo zo) ?_
 exact .refl _
theorem zBL (s:yk):Pure (.agg (zhE s)):=by simp[Pure,QH]
theorem zaH (P:ze) (hP:P.Fits) (h0:P.yF=0) (M:List Int) (hM:P.Mark M) (s:yk) (hs:P.zft s) :
  zn Tryz.prog 219 [yS P,zB M,.agg (zhE s)] (.sc (.bool (P.UB M s))):=by
 obtain⟨hs1,hs2⟩:=xi h0
 have hn:=hs.node
 have xR:=hs.in_
 obtain⟨hE,hI,_⟩:=zfv h0 hn.1 hn.2
 have hi:=zaQ P hP s.1
 rw[hI,hE] at hi
 have l1:=P.zaz s.1
 have lM:=hM.len
 have hcf:zn Tryz.prog 52 [zB (P.v7 s.1),.fn (.func 237) [] [.yO [zB M]]] (.sc (.bool ((P.v7 s.1).any λx=>val M x.toNat==0))) :=
  yo (λn=>.sc (.int .i64 n)) (λ_=>by simp[Pure]) (P.v7 s.1) zo (λx=>val M x.toNat==0) 237 [.yO [zB M]] (by simp[zb,Pure,zj]) λa ha=>by
   obtain⟨k,hk,e⟩:=ze.zk9 ha
   have:=ze.zas (P:=P) (n:=s.1) hk
   unfold ze.ZE at this
   rw[e] at this
   exact zfA M _ this.1 zo
 refine za zv4 zs (by simp[zb,Pure,yb,zj,QH]) ?_ (by simp[Pure])
 have e:P.UB M s=if 0≤s.2.1 then decide (0<val M s.2.1.toNat) else if P.kind s.1.toNat=7 then P.Q4 M s.1 else P.zcf M s.1 (P.v7 s.1).length:=rfl
 refine sR ?_
 refine sS (λh1=>?_) λh1=>?_
 ·have h1:0≤s.2.1:=sO
  rw[if_pos h1] at e
  refine sL (ziq (k:=s.2.1.toNat) zo zo) ?_
  rw[e]
  exact .refl _
 have h1:¬0≤s.2.1:=sO
 rw[if_neg h1] at e
 refine sL (Xq P (k:=s.1.toNat) zo zo) ?_
 refine sS (λh2=>?_) λh2=>?_
 ·have h2:P.kind s.1.toNat=7:=sO
  rw[if_pos h2] at e
  refine sC (zlN P hP h0 M hM s.1 hn.1 hn.2) ?_
  rw[e]
  exact .refl _
 have h2:P.kind s.1.toNat≠7:=sO
 rw[if_neg h2] at e
 refine sC hi ?_
 refine sN hcf ?_
 rw[e,ze.zgO hM.pos,ze.zqv]
 exact .refl _
end
section
open Go.RowKit
theorem zBm (M:List Int):gl M.length (val M)=M:=by
 apply List.ext_getElem
 ·simp
 ·intro i h1 h2
  simp[gl,val,List.getD_eq_getElem?_getD,List.getElem?_eq_getElem h2]
theorem zqC {y:Int} (h:0≤y) (h':y<9223372036854775808):vl .and .i64 y 1=y.tmod 2:=by
 obtain⟨n,rfl⟩:∃n:Nat,y=n:=⟨y.toNat,zo⟩
 have e:(BitVec.ofInt 64 (n:Int) &&& BitVec.ofInt 64 1).toNat=n%2:=by
  rw[BitVec.toNat_and]
  have e1:(BitVec.ofInt 64 (n:Int)).toNat=n:=by rw[BitVec.toNat_ofInt];omega
  have e2:(BitVec.ofInt 64 1).toNat=1:=zc
  rw[e1,e2,Nat.and_one_is_mod]
 show IntKind.i64.wrap ((BitVec.ofInt 64 (n:Int) &&& BitVec.ofInt 64 1).toNat:Int)=_
 rw[e,show((n:Int).tmod 2)=((n%2:Nat):Int) from(Int.ofNat_tmod n 2).symm,IntKind.wrap_i64]
 omega
namespace ze
def zed (P:ze) (M:List Int) (s:yk) (f:Nat):Bool:=decide (P.dst f=s.1)&&(s.2.1==(f:Int)||decide (s.2.1<0)&&decide (0<val M f))
def Wt (P:ze) (M:List Int) (s:yk) (f:Nat):Int:=val M f-if P.zed M s f=true then 1 else 0
def Wj (P:ze) (s:yk) (f:Nat):Nat→Int
 | 0=>0
 | k+1=>P.Wj s f k+if P.Uh s.1 k=(f:Int)∧zme s.2.2 k=true then 1 else 0
def JU (P:ze) (M:List Int) (s:yk) (f:Nat):Int:=P.Wt M s f+P.Wj s f (P.uw s.1).length
theorem zhG (P:ze) (s:yk) (f:Nat):∀k,0≤P.Wj s f k∧P.Wj s f k≤k
 | 0=>by simp[Wj]
 | k+1=>by
  have:=zhG P s f k
  simp only[Wj]
  split<;>omega
theorem zf9 (P:ze) (s:yk) (f:Nat) {j:Nat}:∀{k:Nat},j≤k→P.Wj s f j≤P.Wj s f k
 | 0,h=>by rw[show j=0 by omega];exact Int.le_refl _
 | k+1,h=>by
  by_cases e:j=k+1
  ·rw[e];exact Int.le_refl _
  ·have:=zf9 P s f (j:=j) (k:=k) zo
   have h2:P.Wj s f k≤P.Wj s f (k+1):=by
    simp only[Wj]
    split<;>omega
   omega
theorem zki {P:ze} {M:List Int} (hM:P.Mark M) (s:yk) (f:Nat):-1≤P.Wt M s f∧P.Wt M s f≤9:=by
 have h1:=hM.pos f
 have h2:=hM.top f
 unfold Wt
 split<;>omega
open Classical in
noncomputable def qA (P:ze) (M:List Int) (s:yk):Int:=if P.kind s.1.toNat=3 then 0 else if ∃f,f<P.zu.length∧9<P.JU M s f then 7 else 0
noncomputable def X3 (P:ze) (M:List Int) (s:yk):List Int :=
 if P.kind s.1.toNat=3 then gl P.zu.length λ_=>0 else if P.qA M s=0 then gl P.zu.length (P.JU M s) else []
theorem zdV {l r:List Int} {a:Nat} (h:a<l.length):(l++r).getD a 0=l.getD a 0:=by
 rw[List.getD_eq_getElem?_getD,List.getD_eq_getElem?_getD,List.getElem?_append_left h]
theorem zfO {l:List Int} {x:Int}:(l++[x]).getD l.length 0=x:=by
 rw[List.getD_eq_getElem?_getD,List.getElem?_append_right (Nat.le_refl _),Nat.sub_self]
 rfl
theorem Qd {p:Nat→Bool}:∀{n a b:Nat},a<b→b<(pick p n).length→(pick p n).getD a 0<(pick p n).getD b 0
 | 0,_,_,_,h=>by simp[pick] at h
 | n+1,a,b,hab,h=>by
  simp only[pick] at h ⊢
  split
  ·rename_i hp
   rw[if_pos hp,List.length_append,List.length_singleton] at h
   by_cases e:b=(pick p n).length
   ·subst e
    obtain⟨i,g1,g2,g3⟩:=Vk.1 (Qi (l:=pick p n) (a:=a) hab)
    rw[zdV hab,g3,zfO]
    omega
   ·rw[zdV zo,zdV zo]
    exact Qd hab zo
  ·rename_i hp
   rw[if_neg hp] at h
   exact Qd hab h
theorem zui {P:ze} {n:Int} {a b:Nat} (h:a<b) (hb:b<(P.v7 n).length):P.ZE n a<P.ZE n b:=Qd h hb
theorem zsG {P:ze} {n:Int} {f:Nat} (hf:f<P.zu.length) (h:P.dst f=n):∃a,a<(P.v7 n).length∧P.ZE n a=f:=XQ (Vk.2 ⟨f,hf,by simpa using h,rfl⟩)
structure zdq (P:ze) (M:List Int) (s:yk) (g:Nat→Int) (a:Nat):Prop where
 gone:∀f j:Nat,j<a→P.ZE s.1 j=(f:Int)→g f=P.Wt M s f
 left:∀f:Nat,(∀j,j<a→P.ZE s.1 j≠(f:Int))→g f=val M f
theorem zdq.begin {P:ze} {M:List Int} {s:yk}:P.zdq M s (val M) 0:=⟨λf j h=>zo,λf _=>rfl⟩
theorem zdq.old {P:ze} {M:List Int} {s:yk} {g:Nat→Int} {a x:Nat} (h:P.zdq M s g a) (ha:a<(P.v7 s.1).length) (hx:P.ZE s.1 a=(x:Int)):g x=val M x :=
 h.left x λj hj e=>by
  have:=zui hj ha
  omega
theorem zdq.next {P:ze} {M:List Int} {s:yk} {g g':Nat→Int} {a x:Nat} (h:P.zdq M s g a) (ha:a<(P.v7 s.1).length) (hx:P.ZE s.1 a=(x:Int)) (h1:g' x=P.Wt M s x) (h2:∀f,f≠x→g' f=g f):P.zdq M s g' (a+1) where
 gone f j hj e:=by
  by_cases q:f=x
  ·subst q;exact h1
  ·rw[h2 f q]
   refine h.gone f j ?_ e
   by_cases q2:j=a
   ·subst q2;rw[hx] at e;omega
   ·omega
 left f hf:=by
  rw[h2 f λe=>by subst e;exact hf a zo hx]
  exact h.left f λj hj=>hf j zo
theorem zdq.fin {P:ze} {M:List Int} {s:yk} {g:Nat→Int} (h:P.zdq M s g (P.v7 s.1).length) {f:Nat} (hf:f<P.zu.length):g f=P.Wt M s f:=by
 by_cases e:P.dst f=s.1
 ·obtain⟨a,h1,h2⟩:=zsG hf e
  exact h.gone f a h1 h2
 ·rw[h.left f λj hj q=>e (by have:=(zas (P:=P) (n:=s.1) hj).2.2;rw[q,Int.toNat_natCast] at this;exact this)]
  unfold Wt zed
  rw[decide_eq_false e]
  simp
theorem zr1 {P:ze} {s:yk} {k x:Nat} (h:P.Uh s.1 k=(x:Int)) (hb:zme s.2.2 k=true):P.Wj s x (k+1)=P.Wj s x k+1:=by
 simp only[Wj]
 rw[if_pos ⟨h,hb⟩]
theorem zgS {P:ze} {s:yk} {k f:Nat} (h:P.Uh s.1 k≠(f:Int)∨zme s.2.2 k=false):P.Wj s f (k+1)=P.Wj s f k:=by
 simp only[Wj]
 rw[if_neg (by rintro⟨h1,h2⟩;rcases h with h|h;exact h h1;rw[h] at h2;cases h2),Int.add_zero]
end ze
end
section
open Go.RowKit
@[simp] theorem zvV {m:Nat} (l:List yk):zt m (ZM l)↔True:=⟨λ_=>trivial,λ_=>zz _ (u5 l)⟩
namespace ze
def vJ (P:ze) (M:List Int):Bool:=decide (M.length=P.zu.length)&&xJ M 10
noncomputable def uc (P:ze) (M:List Int):Int:=if P.yH≠0 then P.yH else if P.vJ M=true then 0 else 1
noncomputable def Q6 (P:ze) (M:List Int):List yk:=if P.uc M=0 then P.zJ else []
theorem xC {P:ze} {M:List Int} (h:P.vJ M=true):P.Mark M:=by
 unfold vJ at h
 rw[Bool.and_eq_true,decide_eq_true_eq] at h
 have k:∀i,0≤val M i∧val M i≤9:=λi=>by
  by_cases hi:i<M.length
  ·have:=zkp h.2 hi
   unfold val
   omega
  ·unfold val
   rw[List.getD_eq_getElem?_getD,List.getElem?_eq_none zo]
   simp
 exact⟨h.1,λi=>(k i).1,λi=>(k i).2⟩
theorem xq {P:ze} (h:P.yH=0):P.yF=0∧P.zJ=P.vf P.nodes.length∧P.zJ.length≤60:=by
 have e:P.zJ=P.vf P.nodes.length:=by unfold zJ;rw[if_pos h]
 unfold yH at h
 split at h
 ·rename_i q;exact absurd h q
 ·rename_i q
  split at h
  ·cases h
  ·exact⟨Classical.not_not.1 q,e,by rw[e];omega⟩
theorem zfm {P:ze} {M:List Int} (h:P.uc M=0):P.yH=0∧P.vJ M=true:=by
 unfold uc at h
 split at h
 ·rename_i q;exact absurd h q
 ·rename_i q
  split at h
  ·rename_i q2;exact⟨Classical.not_not.1 q,q2⟩
  ·cases h
theorem QJ {P:ze} (h:P.yH=0) {k:Nat} (hk:k<P.zJ.length):P.zft (P.zJ.getD k (0,0,0)):=by
 obtain⟨h0,e,_⟩:=xq h
 refine zb1 (xi h0).2 (Nat.le_refl _) ?_
 rw[e] at hk ⊢
 rw[List.getD_eq_getElem?_getD,List.getElem?_eq_getElem hk]
 exact List.getElem_mem hk
end ze
theorem zaN {l:List yk} {z k:Nat} (hz:z=k) (h:k<l.length):(vP l)[z]? = some (zhE (l.getD k (0,0,0))):=by
 rw[zw3 hz h,List.getD_eq_getElem?_getD,List.getElem?_eq_getElem h]
 rfl
def zcQ (P:ze) (i:Nat):Int:=if P.kind (P.src i).toNat=1 then 1 else 0
noncomputable def ze.x0 (P:ze):List Int:=if P.yH=0 then gl P.zu.length (zcQ P) else []
def c235:PC:=.seq (OP [Mv 2 cF]) (.seq (OP [qm 3 0,Bi 4 .lss 3 (cI 0),qm 5 4,GF 6 5 (.move 0),GF 7 5 (.bin .gtr 6 (cI 9)),Pk 8 5 cT 7,qm 2 8]) .ret)
theorem zur:zv Tryz.prog 235 9 [.tmp 2] c235:=fK Tryz.func235
def c218:PC:=.seq (OP [Bx 2 0,Mv 4 cN,Mv 5 (cI 0)]) (.seq (OP [LA 9 2 2,Ca 10 31 [9],qm 8 10,Xt 11 0 8,Xt 12 1 8,qm 6 11,qm 7 12]) (.seq (.seq (OP [qm 13 7,Bi 14 .neq 13 (cI 0)]) (.cond 14 (.seq (OP [qm 15 7,Mv 4 cN,qm 5 15]) .ret) .skip)) (.seq (.seq (OP [qm 16 1,Ln 17 16,Fa 18 1 2,Lo 19 18,Ln 20 19,Bi 21 .neq 17 20,qm 22 21,GF 23 22 (.move 1),GF 24 22 (.call 52 [23,(.func 235)]),Pk 25 22 cT 24]) (.cond 25 (.seq (OP [Mv 4 cN,Mv 5 (cI 1)]) .ret) .skip)) (.seq (OP [qm 26 6,qm 4 26,Mv 5 (cI 0)]) .ret))))
theorem zvC:zv Tryz.prog 218 27 [.tmp 4,.tmp 5] c218:=fK Tryz.func218
theorem zkS (x:Int):zn Tryz.prog 235 [.sc (.int .i64 x)] (.sc (.bool (decide (x<0)||decide (x>9)))):=by
 refine za zur zs (by simp[zb,Pure]) ?_ (by simp[Pure])
 refine sR ?_
 cases h:decide (x<0)
 ·refine sW ?_
  exact .refl _
 ·refine sW ?_
  exact .refl _
theorem zxs (M:List Int):(M.any λx=>decide (x<0)||decide (x>9))=!xJ M 10:=by
 unfold xJ
 rw[List.all_eq_not_any_not,Bool.not_not]
 congr 1
 funext x
 by_cases h1:x<0<;>by_cases h2:x>9<;>simp[h1,h2]<;>omega
theorem zeN (P:ze) (hP:P.Fits) (M:List Int) (hM:M.length≤9223372036854775807):zn Tryz.prog 218 [yS P,zB M] (.yP [ZM (P.Q6 M),.sc (.int .i64 (P.uc M))]):=by
 refine za zvC zs (by simp[zb,Pure,yb,zj]) ?_ (by simp[Pure,zb,u5])
 have bad:∀{H:List zf} {e:Int},e≠0→P.uc M=e→Deep H (.yP [.sc (.slice none 0 0),.sc (.int .i64 e)]) (.yP [ZM (P.Q6 M),.sc (.int .i64 (P.uc M))]):=λh k=>by
  have:P.Q6 M=[]:=by unfold ze.Q6;rw[if_neg (by rw[k];exact h)]
  rw[k,this]
  exact .yP _ _ (.cons _ _ _ _ (.none _) (.cons _ _ _ _ (.refl _) .nil))
 have hcf:=yo (λn=>.sc (.int .i64 n)) (λ_=>by simp[Pure]) M hM (λx=>decide (x<0)||decide (x>9)) 235 [] (by simp[zb]) λa _=>zkS a
 rw[zxs] at hcf
 have hfl:=hP.zu
 have eE:P.uc M=if P.yH≠0 then P.yH else if P.vJ M=true then 0 else 1:=rfl
 refine sR ?_
 refine sC (W1 P hP) ?_
 refine sS (λh1=>?_) λh1=>?_
 ·have h1:P.yH≠0:=sO
  exact bad h1 (by rw[eE,if_pos h1])
 have h1:P.yH=0:=sO
 rw[if_neg zo] at eE
 rw[List.length_map,List.length_map]
 cases h2:((M.length:Int) != P.zu.length)
 ·have h2:M.length=P.zu.length:=sO
  refine sW ?_
  refine sC hcf ?_
  have eM:P.vJ M=xJ M 10:=by unfold ze.vJ;rw[decide_eq_true h2,Bool.true_and]
  cases h3:xJ M 10
  ·refine sW ?_
   exact bad zc (by rw[eE,if_neg (by rw[eM,h3];decide)])
  ·refine sW ?_
   have e0:P.uc M=0:=by rw[eE,if_pos (by rw[eM,h3])]
   have eL:P.Q6 M=P.zJ:=by unfold ze.Q6;rw[if_pos e0]
   rw[e0,eL]
   exact .refl _
 ·have h2:M.length≠P.zu.length:=sO
  refine sW ?_
  exact bad zc (by rw[eE,if_neg (by unfold ze.vJ;rw[decide_eq_false h2];simp)])
def zBt:PC:=.seq (OP [Bi 23 .lss 22 21]) (.seq (.cond 23 .skip (.exit 0)) (.seq (.block 1 (.seq (OP [qm 24 22,Ia 25 3 20 22,LA 26 3 25,q 10 (.alloc [(.int .i64 0),(.int .i64 0),(.int .i64 0)]),qm 9 24,So 3 10 26]) (.seq (OP [LA 27 2 2,qm 28 1,LA 29 3 10,Ca 30 219 [27,28,29]]) (.cond 30 (OP [qm 31 8,qm 32 9,Bs 33 1 1 [32],Ap 34 1 8 31 33,qm 8 34]) .skip)))) (OP [Bi 35 .add 22 (cI 1),qm 22 35])))
def c172:PC:=.seq (OP [Bx 2 0,Mv 4 cN,Mv 5 (cI 0)]) (.seq (OP [LA 12 2 2,qm 13 1,Ca 14 218 [12,13],qm 11 14,Xt 15 0 11,Xt 16 1 11,qm 6 15,qm 7 16]) (.seq (.seq (OP [qm 17 7,Bi 18 .neq 17 (cI 0)]) (.cond 18 (.seq (OP [qm 19 7,Mv 4 cN,qm 5 19]) .ret) .skip)) (.seq (OP [Mv 8 cN]) (.seq (.seq (OP [qm 20 6,Ln 21 20,Mv 22 (cI 0)]) (.block 0 (.loop zBt))) (.seq (OP [qm 36 8,qm 4 36,Mv 5 (cI 0)]) .ret)))))
theorem zwj:zv Tryz.prog 172 37 [.tmp 4,.tmp 5] c172:=fK Tryz.func172
noncomputable def ze.Yh (P:ze) (M:List Int):List Int:=if P.uc M=0 then P.Ya M P.zJ P.zJ.length else []
theorem ziG (P:ze) (hP:P.Fits) (M:List Int) (hM:M.length≤9223372036854775807):zn Tryz.prog 172 [yS P,zB M] (.yP [zB (P.Yh M),.sc (.int .i64 (P.uc M))]):=by
 refine za zwj zs (by simp[zb,Pure,yb,zj]) ?_ (by simp[Pure,zb,zj])
 refine sR ?_
 refine sC (zeN P hP M hM) ?_
 refine sS (λh1=>?_) λh1=>?_
 ·have h1:P.uc M≠0:=sO
  have:P.Yh M=[]:=by unfold ze.Yh;rw[if_neg h1]
  rw[this]
  exact .yP _ _ (.cons _ _ _ _ (.none _) (.cons _ _ _ _ (.refl _) .nil))
 have h1:P.uc M=0:=sO
 obtain⟨hE,hB⟩:=ze.zfm h1
 obtain⟨h0,_,h60⟩:=ze.xq hE
 have hK:=ze.xC hB
 have eL:P.Q6 M=P.zJ:=by unfold ze.Q6;rw[if_pos h1]
 have eN:P.Yh M=P.Ya M P.zJ P.zJ.length:=by unfold ze.Yh;rw[if_pos h1]
 rw[eL,h1,eN,Vq]
 refine zH (xw 8 1 zs rfl) ?_
 refine zP [1,2,20,21] (λ((k,c,l):Nat × Nat × List Int)=>[(8,.own 1 c 0 c),(22,.sc (.int .i64 k))]) (λ(k,c,l)=>[(1,.vec true c 1 (zI l))]) (λ(k,c,l)=>k≤P.zJ.length∧c=l.length∧c≤k∧l=P.Ya M P.zJ k) (λ(k,c,l)=>P.zJ.length-k) (0,0,[]) ?_
 refine sW ?_
 refine⟨⟨zo,rfl,zo,rfl⟩,by exact sK,rfl,?_⟩
 rintro⟨k,c,l⟩ ⟨hk,hc,hck,hl⟩
 refine sW ?_
 refine sR ?_
 refine sS (λh2=>?_) λh2=>?_
 ·have hk':k<P.zJ.length:=sO
  have hsk:=ze.QJ hE hk'
  have eT:P.Ya M P.zJ (k+1)=if P.UB M (P.zJ.getD k (0,0,0))=true then P.Ya M P.zJ k++[(k:Int)] else P.Ya M P.zJ k:=rfl
  refine sL (zaN (k:=k) zo hk') ?_
  generalize P.zJ.getD k (0,0,0)=s at hsk eT
  refine sC (zaH P hP h0 M hK s hsk) ?_
  cases hm:P.UB M s
  ·refine sW ?_
   refine sI ?_
   refine⟨(k+1,c,l),⟨zo,hc,zo,by rw[eT,hm,hl];rfl⟩,zd,?_⟩
   exact zm 2 zs rfl sQ sQ
  ·refine sW ?_
   refine sJ ?_
   refine sI ?_
   refine⟨(k+1,c+1,l++[(k:Int)]),⟨zo,by simp[hc],zo,by rw[eT,hm,hl];rfl⟩,zd,?_⟩
   refine zm 2 zs rfl sQ (sU ?_)
   exact zp (uA hc)
 ·have hk':k=P.zJ.length:=by have:¬k<P.zJ.length:=sO
                             omega
  subst hk'
  rw[←hl]
  exact .yP _ _ (.cons _ _ _ _ (W0 hc rfl) (.cons _ _ _ _ (.refl _) .nil))
def zBB:PC:=.seq (OP [Bi 25 .lss 24 23]) (.seq (.cond 25 .skip (.exit 0)) (.seq (.block 1 (.seq (OP [qm 26 24,Ia 27 2 22 24,LA 28 2 27,q 8 (.alloc [(.int .i64 0),(.int .i64 0)]),qm 7 26,So 2 8 28]) (.seq (OP [Fa 29 0 1,Lo 30 29,Fa 31 0 8,Lo 32 31,Ia 33 2 30 32,Fa 34 1 33,Lo 35 34,Bi 36 .eql 35 (cI 1)]) (.cond 36 (OP [qm 37 6,qm 38 7,Ia 39 1 37 38,So 1 39 (cI 1)]) .skip)))) (OP [Bi 40 .add 24 (cI 1),qm 24 40])))
def c106:PC:=.seq (OP [Bx 1 0,Mv 2 cN,Mv 3 (cI 0)]) (.seq (.seq (OP [LA 10 2 1,Ca 11 31 [10],qm 9 11,Xt 12 0 9,Xt 13 1 9,qm 4 12,qm 5 13]) (.seq (OP [qm 14 5,Bi 15 .neq 14 (cI 0)]) (.cond 15 (.seq (OP [qm 16 5,Mv 2 cN,qm 3 16]) .ret) .skip))) (.seq (OP [Fa 17 1 1,Lo 18 17,Ln 19 18,q 20 (.wP 1 8 [(.int .i64 0)] 19 19),qm 6 20]) (.seq (.seq (OP [Fa 21 1 1,Lo 22 21,Ln 23 22,Mv 24 (cI 0)]) (.block 0 (.loop zBB))) (.seq (OP [qm 41 6,qm 2 41,Mv 3 (cI 0)]) .ret))))
theorem zxF:zv Tryz.prog 106 42 [.tmp 2,.tmp 3] c106:=fK Tryz.func106
theorem zl5 (P:ze) (hP:P.Fits):zn Tryz.prog 106 [yS P] (.yP [zB P.x0,.sc (.int .i64 P.yH)]):=by
 refine za zxF zs (by simp[zb,Pure,yb]) ?_ (by simp[Pure,zb,zj])
 refine sR ?_
 refine sC (W1 P hP) ?_
 refine sS (λh1=>?_) λh1=>?_
 ·have h1:P.yH≠0:=sO
  have:P.x0=[]:=by unfold ze.x0;rw[if_neg h1]
  rw[this]
  exact .yP _ _ (.cons _ _ _ _ (.none _) (.cons _ _ _ _ (.refl _) .nil))
 have h1:P.yH=0:=sO
 obtain⟨h0,_,_⟩:=ze.xq h1
 obtain⟨hs1,hs2⟩:=xi h0
 have eB:P.x0=gl P.zu.length (zcQ P):=by unfold ze.x0;rw[if_pos h1]
 rw[List.length_map,h1,eB]
 refine⟨zo,zo,zo,?_⟩
 rw[Int.toNat_natCast,show List.map D.sc [Value.int .i64 0]=[D.sc (.int .i64 0)] from rfl,zd0]
 refine sW ?_
 rw[List.length_map]
 refine zP [1,6,22,23] (λ((k,g):Nat × (Nat→Int))=>[(24,.sc (.int .i64 k))]) (λ(k,g)=>[(1,.vec true 0 1 (zI (gl P.zu.length g)))]) (λ(k,g)=>k≤P.zu.length∧∀i,g i=if i<k then zcQ P i else 0) (λ(k,g)=>P.zu.length-k) (0,λ_=>0) ?_
 refine sW ?_
 refine⟨⟨zo,λi=>rfl⟩,by exact sK,rfl,?_⟩
 rintro⟨k,g⟩ ⟨hk,hg⟩
 refine sW ?_
 refine sR ?_
 refine sS (λh2=>?_) λh2=>?_
 ·have hk':k<P.zu.length:=sO
  have hfk:=ze.Zj.1 (zhq h0 k hk')
  refine sL (VE P (k:=k) zo hk') ?_
  refine sL (Xq P (k:=(P.src k).toNat) zo zo) ?_
  refine sS (λh3=>?_) λh3=>?_
  ·have h3:P.kind (P.src k).toNat=1:=sO
   refine sB ?_
   refine⟨_,yp k zo zo,?_⟩
   refine sW ?_
   refine sI ?_
   refine⟨(k+1,WG g k 1),⟨zo,λi=>?_⟩,zd,?_⟩
   ·by_cases e:i=k
    ·subst e
     rw[qo,if_pos zo]
     unfold zcQ
     rw[if_pos h3]
    ·rw[VV e,hg]
     by_cases q:i<k
     ·rw[if_pos q,if_pos zo]
     ·rw[if_neg q,if_neg zo]
   ·refine zm 2 zs rfl sQ (sU ?_)
    exact zp (qB zo)
  ·have h3:P.kind (P.src k).toNat≠1:=sO
   refine sI ?_
   refine⟨(k+1,g),⟨zo,λi=>?_⟩,zd,?_⟩
   ·rw[hg]
    by_cases e:i=k
    ·subst e
     rw[if_neg zo,if_pos zo]
     unfold zcQ
     rw[if_neg h3]
    ·by_cases q:i<k
     ·rw[if_pos q,if_pos zo]
     ·rw[if_neg q,if_neg zo]
   ·exact zm 2 zs rfl sQ sQ
 ·have hk':k=P.zu.length:=by have:¬k<P.zu.length:=sO
                             omega
  subst hk'
  have e:gl P.zu.length (zcQ P)=gl P.zu.length g:=YM λi hi=>by rw[hg,if_pos hi]
  rw[e]
  exact .yP _ _ (.cons _ _ _ _ (zcZ rfl) (.cons _ _ _ _ (.refl _) .nil))
end
section
open Go.RowKit
theorem zu7 {zs:List (List D)} {n:Nat} {y:List D} (h:zs.length=n):zs.take 0++List.replicate (n-0) y++zs.drop n=List.replicate n y:=by
 rw[List.drop_eq_nil_of_le zo]
 simp
theorem zmx {x:Int} (h:0≤x) (h':x≤1073741824) (k:Nat):0≤x.fdiv (2^k)∧x.fdiv (2^k)<9223372036854775808:=by
 have hp:(0:Int)<2^k:=Int.pow_pos zc
 rw[Int.fdiv_eq_ediv_of_nonneg _ zo]
 have h1:=Int.ediv_nonneg h (by omega:(0:Int)≤2^k)
 have h2:=Int.ediv_le_self (2^k) h
 omega
def zAj:PC:=.seq (OP [Bi 39 .lss 38 37]) (.seq (.cond 39 .skip (.exit 0)) (.seq (.block 1 (.seq (OP [Ia 40 1 36 38,Lo 41 40,qm 12 41]) (.seq (OP [Fa 42 1 5,Lo 43 42,qm 44 12,Bi 45 .eql 43 44,qm 46 45,GF 47 46 (.zy 1 5),GF 48 46 (.zg 47),GF 49 46 (.bin .lss 48 (cI 0)),GF 50 46 (.move 49),GT 51 50 (.move 8),GT 52 50 (.move 12),GT 53 50 (.zM 1 51 52),GT 54 50 (.zg 53),GT 55 50 (.bin .gtr 54 (cI 0)),GF 56 46 (.pick 50 55 cF),Pk 57 46 cT 56]) (.cond 57 (OP [qm 58 8,qm 59 12,Ia 60 1 58 59,Lo 61 60,Bi 62 .sub 61 (cI 1),Ia 63 1 58 59,So 1 63 62]) .skip)))) (OP [Bi 64 .add 38 (cI 1),qm 38 64])))
def zAA:PC:=.seq (OP [Bi 75 .lss 74 73]) (.seq (.cond 75 .skip (.exit 2)) (.seq (.block 3 (.seq (OP [qm 76 74,Ia 77 1 72 74,Lo 78 77,qm 15 76,qm 16 78]) (.seq (OP [Fa 79 2 5,Lo 80 79,qm 81 15,Bi 82 .shr 80 81,Bi 83 .and 82 (cI 1),Bi 84 .eql 83 (cI 1)]) (.cond 84 (.seq (OP [qm 85 8,qm 86 16,Ia 87 1 85 86,Lo 88 87,Bi 89 .add 88 (cI 1),Ia 90 1 85 86,So 1 90 89]) (.seq (OP [qm 91 8,qm 92 16,Ia 93 1 91 92,Lo 94 93,Bi 95 .gtr 94 (cI 9)]) (.cond 95 (.seq (OP [Mv 6 cN,Mv 7 (cI 7)]) .ret) .skip))) .skip)))) (OP [Bi 96 .add 74 (cI 1),qm 74 96])))
def c220:PC:=.seq (OP [Bx 3 0,Bx 5 2,Mv 6 cN,Mv 7 (cI 0)]) (.seq (OP [qm 17 1,Ca 18 54 [17],qm 8 18]) (.seq (.seq (OP [Fa 19 0 3,Lo 20 19,Fa 21 0 5,Lo 22 21,Ia 23 2 20 22,Fa 24 1 23,Lo 25 24,Bi 26 .eql 25 (cI 3)]) (.cond 26 (.seq (OP [qm 27 8,qn (.clr ((.int .i64 0)) 27)]) (.seq (OP [qm 28 8,qm 6 28,Mv 7 (cI 0)]) .ret)) .skip)) (.seq (OP [LA 30 2 3,Fa 31 0 5,Lo 32 31,Ca 33 109 [30,32],qm 29 33,Xt 34 0 29,Xt 35 1 29,qm 9 34,qm 10 35]) (.seq (.seq (OP [qm 36 9,Ln 37 36,Mv 38 (cI 0)]) (.block 0 (.loop zAj))) (.seq (OP [LA 66 2 3,Fa 67 0 5,Lo 68 67,Ca 69 110 [66,68],qm 65 69,Xt 70 0 65,Xt 71 1 65,qm 13 70,qm 14 71]) (.seq (.seq (OP [qm 72 13,Ln 73 72,Mv 74 (cI 0)]) (.block 2 (.loop zAA))) (.seq (OP [qm 97 8,qm 6 97,Mv 7 (cI 0)]) .ret)))))))
theorem zuE:zv Tryz.prog 220 98 [.tmp 6,.tmp 7] c220:=fK Tryz.func220
theorem zop (P:ze) (hP:P.Fits) (h0:P.yF=0) (M:List Int) (hM:P.Mark M) (s:yk) (hs:P.zft s) :
  zn Tryz.prog 220 [yS P,zB M,.agg (zhE s)] (.yP [zB (P.X3 M s),.sc (.int .i64 (P.qA M s))]):=by
 obtain⟨hs1,hs2⟩:=xi h0
 have hn:=hs.node
 obtain⟨hE,hI,hO⟩:=zfv h0 hn.1 hn.2
 have hi:=zaQ P hP s.1
 have ho:=zgG P hP s.1
 rw[hI,hE] at hi
 rw[hO,hE] at ho
 have l1:=P.zaz s.1
 have l2:=P.Uo s.1
 have lM:=hM.len
 have hout:=hs.out
 have eE:P.qA M s=if P.kind s.1.toNat=3 then 0 else if ∃f,f<P.zu.length∧9<P.JU M s f then 7 else 0:=by unfold ze.qA;rfl
 have eL:P.X3 M s=if P.kind s.1.toNat=3 then gl P.zu.length λ_=>0 else if P.qA M s=0 then gl P.zu.length (P.JU M s) else []:=rfl
 refine za zuE zs (by simp[zb,Pure,yb,zj,QH]) ?_ (by simp[Pure,zb,zj])
 refine sR ?_
 refine sE (xo (JA M zo) (by simp[zb,Pure]) [2] rfl rfl (by simp[zf.yG,yE,D.yG];rfl)) ?_
 rw[lM]
 refine sL (Xq P (k:=s.1.toNat) zo zo) ?_
 refine sS (λh1=>?_) λh1=>?_
 ·have h1:P.kind s.1.toNat=3:=sO
  rw[if_pos h1] at eE eL
  rw[eE,eL,zu7 (by rw[List.length_map];exact lM),zd0]
  exact .yP _ _ (.cons _ _ _ _ (zcZ rfl) (.cons _ _ _ _ (.refl _) .nil))
 have h1:P.kind s.1.toNat≠3:=sO
 rw[if_neg h1] at eE eL
 refine sC hi ?_
 rw[List.length_map]
 have eM:(M.map λn=>[D.sc (.int .i64 n)])=zI (gl P.zu.length (val M)):=by rw[←lM,zBm];rfl
 refine zP [3,5,8,36,37] (λ((a,g):Nat × (Nat→Int))=>[(38,.sc (.int .i64 a))]) (λ(a,g)=>[(2,.vec true 1 1 (zI (gl P.zu.length g)))]) (λ(a,g)=>a≤(P.v7 s.1).length∧P.zdq M s g a) (λ(a,g)=>(P.v7 s.1).length-a) (0,val M) ?_
 refine sW ?_
 refine⟨⟨zo,ze.zdq.begin⟩,by exact sK,by rw[eM];rfl,?_⟩
 rintro⟨a,g⟩ ⟨ha,hA⟩
 refine sW ?_
 refine sR ?_
 refine sS (λh2=>?_) λh2=>?_
 ·have ha':a<(P.v7 s.1).length:=sO
  have xR:=ze.zas (P:=P) (n:=s.1) ha'
  obtain⟨X,hX⟩:∃X:Nat,P.ZE s.1 a=X:=⟨_,(Int.toNat_of_nonneg xR.1).symm⟩
  have hold:=hA.old ha' hX
  have v1:=hM.pos X
  have v2:=hM.top X
  refine sL (yc (k:=a) zo ha') ?_
  rw[show(P.v7 s.1).getD a 0=P.ZE s.1 a from rfl,hX]
  rw[hX,Int.toNat_natCast] at xR
  have eD:P.zed M s X=(s.2.1==(X:Int)||decide (s.2.1<0)&&decide (0<val M X)):=by unfold ze.zed;rw[decide_eq_true xR.2.2,Bool.true_and]
  have eBase:P.Wt M s X=val M X-if P.zed M s X=true then 1 else 0:=rfl
  cases h3:(s.2.1==(X:Int))
  ·refine sW ?_
   rw[h3,Bool.false_or] at eD
   cases h4:decide (s.2.1<0)
   ·rw[h4,Bool.false_and] at eD
    rw[if_neg (by rw[eD];decide),Int.sub_zero] at eBase
    refine sW ?_
    refine sI ?_
    refine⟨(a+1,g),⟨zo,hA.next ha' hX (by rw[eBase,hold]) λf hf=>rfl⟩,zd,?_⟩
    exact zD (by exact sK) rfl
   ·refine sW ?_
    refine sB ?_
    refine⟨_,yp X zo zo,?_⟩
    refine sW ?_
    rw[h4,Bool.true_and] at eD
    rw[hold]
    cases h5:decide (val M X>0)
    ·have eD:P.zed M s X=false:=by rw[eD];exact h5
     rw[if_neg (by rw[eD];decide),Int.sub_zero] at eBase
     refine sW ?_
     refine sI ?_
     refine⟨(a+1,g),⟨zo,hA.next ha' hX (by rw[eBase,hold]) λf hf=>rfl⟩,zd,?_⟩
     exact zD (by exact sK) rfl
    ·have eD:P.zed M s X=true:=by rw[eD];exact h5
     rw[if_pos eD] at eBase
     refine sW ?_
     refine sB ?_
     refine⟨_,yp X zo zo,?_⟩
     refine sW ?_
     refine sI ?_
     refine sB ?_
     refine⟨_,yp X zo zo,?_⟩
     refine sW ?_
     refine sI ?_
     refine⟨(a+1,WG g X (g X-1)),⟨zo,hA.next ha' hX (by rw[qo,eBase,hold]) λf hf=>VV hf⟩,zd,?_⟩
     exact zD (by exact sK) (by rw[qB (k:=X) zo];rfl)
  ·rw[h3,Bool.true_or] at eD
   rw[if_pos eD] at eBase
   refine sW ?_
   refine sB ?_
   refine⟨_,yp X zo zo,?_⟩
   refine sW ?_
   refine sI ?_
   refine sB ?_
   refine⟨_,yp X zo zo,?_⟩
   refine sW ?_
   refine sI ?_
   refine⟨(a+1,WG g X (g X-1)),⟨zo,hA.next ha' hX (by rw[qo,eBase,hold]) λf hf=>VV hf⟩,zd,?_⟩
   exact zD (by exact sK) (by rw[qB (k:=X) zo];rfl)
 have ha':a=(P.v7 s.1).length:=by have:¬a<(P.v7 s.1).length:=sO
                                  omega
 subst ha'
 refine sC ho ?_
 rw[List.length_map]
 refine zP [5,8,72,73] (λ((k,g):Nat × (Nat→Int))=>[(74,.sc (.int .i64 k))]) (λ(k,g)=>[(2,.vec true 1 1 (zI (gl P.zu.length g)))]) (λ(k,g)=>k≤(P.uw s.1).length∧∀f,f<P.zu.length→g f=P.Wt M s f+P.Wj s f k∧g f≤9) (λ(k,g)=>(P.uw s.1).length-k) (0,g) ?_
 refine sW ?_
 refine⟨⟨zo,λf hf=>?_⟩,by exact sK,rfl,?_⟩
 ·have b1:=ze.zki hM s f
  rw[hA.fin hf]
  exact⟨by simp[ze.Wj],b1.2⟩
 clear hA h2
 rintro⟨k,g⟩ ⟨hk,hg⟩
 refine sW ?_
 refine sR ?_
 refine sS (λh2=>?_) λh2=>?_
 ·have hk':k<(P.uw s.1).length:=sO
  have xR:=ze.zsL (P:=P) (n:=s.1) hk'
  obtain⟨X,hX⟩:∃X:Nat,P.Uh s.1 k=X:=⟨_,(Int.toNat_of_nonneg xR.1).symm⟩
  refine sL (yc (k:=k) zo hk') ?_
  rw[show(P.uw s.1).getD k 0=P.Uh s.1 k from rfl,hX]
  rw[hX,Int.toNat_natCast] at xR
  have fd:=zmx hout.1 hout.2 (min (k:Int).toNat IntKind.i64.bits)
  refine⟨zo,?_⟩
  refine sW ?_
  have eb:(vl .and .i64 (s.2.2.fdiv (2^min (k:Int).toNat IntKind.i64.bits)) 1==1)=zme s.2.2 k:=by rw[zqC fd.1 fd.2];rfl
  rw[eb]
  obtain⟨g1,g2⟩:=hg X zo
  have b1:=ze.zki hM s X
  have b2:=ze.zhG P s X k
  refine sS (λh3=>?_) λh3=>?_
  ·have hh:=ze.zr1 hX h3
   refine sB ?_
   refine⟨_,yp X zo zo,?_⟩
   refine sW ?_
   refine sI ?_
   refine sB ?_
   refine⟨_,yp X zo zo,?_⟩
   refine sW ?_
   rw[qB (k:=X) zo]
   refine sB ?_
   refine⟨_,yp X zo zo,?_⟩
   refine sW ?_
   rw[qo]
   refine sS (λh4=>?_) λh4=>?_
   ·have h4:9<g X+1:=sO
    have hm:=ze.zf9 P s X (j:=k+1) (k:=(P.uw s.1).length) zo
    have e7:P.qA M s=7:=by rw[eE,if_pos ⟨X,zo,by unfold ze.JU;omega⟩]
    rw[e7] at eL
    rw[e7,eL,if_neg zc]
    exact .yP _ _ (.cons _ _ _ _ (.none _) (.cons _ _ _ _ (.refl _) .nil))
   ·have h4:g X+1≤9:=sO
    refine sI ?_
    refine⟨(k+1,WG g X (g X+1)),⟨zo,λf hf=>?_⟩,zd,zD (by exact sK) rfl⟩
    by_cases e:f=X
    ·subst e
     rw[qo,hh]
     omega
    ·rw[VV e,ze.zgS (.inl (by rw[hX];omega))]
     exact hg f hf
  ·refine sI ?_
   refine⟨(k+1,g),⟨zo,λf hf=>?_⟩,zd,zD (by exact sK) rfl⟩
   rw[ze.zgS (.inr h3)]
   exact hg f hf
 ·have hk':k=(P.uw s.1).length:=by have:¬k<(P.uw s.1).length:=sO
                                   omega
  subst hk'
  have e0:P.qA M s=0:=by
   rw[eE,if_neg]
   rintro⟨f,hf,h9⟩
   have:=hg f hf
   unfold ze.JU at h9
   omega
  rw[e0,if_pos rfl] at eL
  have e:gl P.zu.length (P.JU M s)=gl P.zu.length g:=YM λf hf=>(hg f hf).1.symm
  rw[e0,eL,e]
  exact .yP _ _ (.cons _ _ _ _ (zcZ rfl) (.cons _ _ _ _ (.refl _) .nil))
open Classical in
noncomputable def ze.Zf (P:ze) (M:List Int) (k:Int):Int :=
 if P.uc M≠0 then P.uc M else if k<0∨(P.zJ.length:Int)≤k then 1
 else if P.UB M (P.zJ.getD k.toNat (0,0,0))=true then P.qA M (P.zJ.getD k.toNat (0,0,0)) else 9
noncomputable def ze.wy (P:ze) (M:List Int) (k:Int):List Int:=if P.Zf M k=0 then P.X3 M (P.zJ.getD k.toNat (0,0,0)) else []
theorem zgK {P:ze} {M:List Int} {s:yk} (h:P.qA M s≠0):P.X3 M s=[]:=by
 unfold ze.X3
 split
 ·rename_i q
  exfalso
  apply h
  unfold ze.qA
  rw[if_pos q]
 ·first|rfl|rw[if_neg h]
def c173:PC:=.seq (OP [Bx 3 0,Mv 6 cN,Mv 7 (cI 0)]) (.seq (OP [LA 11 2 3,qm 12 1,Ca 13 218 [11,12],qm 10 13,Xt 14 0 10,Xt 15 1 10,qm 8 14,qm 9 15]) (.seq (.block 0 (.seq (OP [qm 17 9,Bi 18 .neq 17 (cI 0),qm 16 18]) (.cond 16 (.seq (OP [qm 19 9,Mv 6 cN,qm 7 19]) .ret) (.seq (OP [qm 21 2,Bi 22 .lss 21 (cI 0),qm 23 22,GF 24 23 (.move 2),GF 25 23 (.move 8),GF 26 23 (.len 25),GF 27 23 (.bin .geq 24 26),Pk 28 23 cT 27,qm 20 28]) (.cond 20 (.seq (OP [Mv 6 cN,Mv 7 (cI 1)]) .ret) (.seq (.ops [LA 30 2 3,qm 31 1,qm 32 8,qm 33 2,qd 34 (.zM 3 32 33) 12,qd 35 (.vC 3 34) 28,qd 36 (.call 219 [30,31,35]) 63,qd 37 (.un .not 36) 127,qw 29 37 255] true) (.cond 29 (.seq (OP [Mv 6 cN,Mv 7 (cI 9)]) .ret) .skip))))))) (.seq (.ops [LA 38 2 3,qm 39 1,qm 40 8,qm 41 2,qd 42 (.zM 3 40 41) 12,qd 43 (.vC 3 42) 28,qd 44 (.call 220 [38,39,43]) 63,qd 45 (.ext 0 44) 127,qd 46 (.ext 1 44) 127,qw 6 45 511,qw 7 46 1023] true) .ret)))
theorem zv3:zv Tryz.prog 173 47 [.tmp 6,.tmp 7] c173:=fK Tryz.func173
theorem zqF (P:ze) (hP:P.Fits) (M:List Int) (hM:M.length≤9223372036854775807) (k:Int) :
  zn Tryz.prog 173 [yS P,zB M,.sc (.int .i64 k)] (.yP [zB (P.wy M k),.sc (.int .i64 (P.Zf M k))]):=by
 have eE:P.Zf M k=if P.uc M≠0 then P.uc M else if k<0∨(P.zJ.length:Int)≤k then 1
  else if P.UB M (P.zJ.getD k.toNat (0,0,0))=true then P.qA M (P.zJ.getD k.toNat (0,0,0)) else 9:=by unfold ze.Zf;rfl
 have eL:P.wy M k=if P.Zf M k=0 then P.X3 M (P.zJ.getD k.toNat (0,0,0)) else []:=rfl
 refine za zv3 zs (by simp[zb,Pure,yb,zj]) ?_ (by simp[Pure,zb,zj])
 have bad:∀{H:List zf} {e:Int},e≠0→P.Zf M k=e→Deep H (.yP [.sc (.slice none 0 0),.sc (.int .i64 e)]) (.yP [zB (P.wy M k),.sc (.int .i64 (P.Zf M k))]):=λh q=>by
  rw[eL,q,if_neg h]
  exact .yP _ _ (.cons _ _ _ _ (.none _) (.cons _ _ _ _ (.refl _) .nil))
 refine sR ?_
 refine sC (zeN P hP M hM) ?_
 refine sS (λh1=>?_) λh1=>?_
 ·have h1:P.uc M≠0:=sO
  exact bad h1 (by rw[eE,if_pos h1])
 have h1:P.uc M=0:=sO
 obtain⟨hE,hB⟩:=ze.zfm h1
 obtain⟨h0,_,h60⟩:=ze.xq hE
 have hK:=ze.xC hB
 have eN:P.Q6 M=P.zJ:=by unfold ze.Q6;rw[if_pos h1]
 rw[if_neg zo] at eE
 rw[eN]
 cases h2:decide (k<0)
 ·have h2:¬k<0:=sO
  refine sW ?_
  rw[Vq]
  refine sS (λh3=>?_) λh3=>?_
  ·exact bad zc (by rw[eE,if_pos (.inr (sO))])
  ·have h3:¬(P.zJ.length:Int)≤k:=sO
   rw[if_neg zo] at eE
   have hk':k.toNat<P.zJ.length:=zo
   have hsk:=ze.QJ hE hk'
   refine sL (zaN (k:=k.toNat) zo hk') ?_
   generalize hS:P.zJ.getD k.toNat (0,0,0)=s at hsk eE eL
   refine sC (zaH P hP h0 M hK s hsk) ?_
   cases h4:P.UB M s
   ·refine sW ?_
    exact bad zc (by rw[eE,if_neg (by rw[h4];decide)])
   ·rw[if_pos h4] at eE
    refine sW ?_
    refine sL (zaN (k:=k.toNat) zo hk') ?_
    rw[hS]
    refine sC (zop P hP h0 M hK s hsk) ?_
    have e:P.wy M k=P.X3 M s:=by
     rw[eL,eE]
     split
     ·rfl
     ·rename_i q;exact(zgK q).symm
    rw[eE,e]
    exact .refl _
 ·have h2:k<0:=sO
  refine sW ?_
  exact bad zc (by rw[eE,if_pos (.inl h2)])
end
section
open Go.RowKit
end
section
open Go.RowKit
end
end
section
open Go.RowKit
end
section
section
namespace ze
theorem zla {P:ze} (h:P.yH=0):P.vJ P.x0=true:=by
 have e:P.x0=gl P.zu.length (zcQ P):=by unfold x0;rw[if_pos h]
 unfold vJ xJ
 rw[e,zik,decide_eq_true rfl,Bool.true_and,List.all_eq_true]
 intro x hx
 unfold gl at hx
 obtain⟨i,_,rfl⟩:=List.mem_map.1 hx
 unfold zcQ
 split<;>decide
theorem zvN {P:ze} {M:List Int} (hM:P.Mark M) {s:yk} (hm:P.UB M s=true) (f:Nat):0≤P.JU M s f:=by
 have h1:=hM.pos f
 have h2:=(P.zhG s f (P.uw s.1).length).1
 unfold JU Wt
 split
 ·rename_i hd
  unfold zed at hd
  rw[Bool.and_eq_true,Bool.or_eq_true] at hd
  have:0<val M f:=by
   rcases hd.2 with q|q
   ·have q:s.2.1=(f:Int):=by simpa using q
    unfold UB at hm
    rw[if_pos zo,q,Int.toNat_natCast] at hm
    exact of_decide_eq_true hm
   ·rw[Bool.and_eq_true] at q
    exact of_decide_eq_true q.2
  omega
 ·omega
theorem zuU {P:ze} {M:List Int} (hM:P.vJ M=true) {s:yk} (hm:P.UB M s=true) (he:P.qA M s=0):P.vJ (P.X3 M s)=true:=by
 have hK:=xC hM
 unfold qA at he
 unfold X3
 by_cases h3:P.kind s.1.toNat=3
 ·rw[if_pos h3]
  unfold vJ xJ
  rw[zik,decide_eq_true rfl,Bool.true_and,List.all_eq_true]
  intro x hx
  unfold gl at hx
  obtain⟨i,_,rfl⟩:=List.mem_map.1 hx
  decide
 ·rw[if_neg h3] at he
  split at he
  ·cases he
  ·rename_i hno
   have he':P.qA M s=0:=by unfold qA;rw[if_neg h3,if_neg hno]
   rw[if_neg h3,if_pos he']
   unfold vJ xJ
   rw[zik,decide_eq_true rfl,Bool.true_and,List.all_eq_true]
   intro x hx
   unfold gl at hx
   obtain⟨i,hi,rfl⟩:=List.mem_map.1 hx
   have h4:=zvN hK hm i
   have h5:¬9<P.JU M s i:=λq=>hno ⟨i,List.mem_range.1 hi,q⟩
   rw[Bool.and_eq_true,decide_eq_true_eq,decide_eq_true_eq]
   omega
end ze
end
section
open Go.RowKit
def ux (L:List (List Int)):List (List D):=L.map λl=>[zB l]
theorem XT (L:List (List Int)):yJ (ux L):=zC _ (λl=>by simp[zb,zj]) L
@[simp] theorem zua {m:Nat} (L:List (List Int)):zF m (ux L)↔True:=⟨λ_=>trivial,λ_=>zi _ (XT L)⟩
@[simp] theorem zBP (L:List (List Int)):(ux L).length=L.length:=by simp[ux]
theorem Ju {L:List (List Int)} {c:Nat} {x:List Int} (h:c=L.length):List.drop 0 (List.take c (ux L))++[[zB x]]=ux (L++[x]):=by
 subst h
 rw[zw zs]
 simp[ux]
theorem zkh {L:List (List Int)} {z k:Nat} (hz:z=k) (h:k<L.length):(ux L)[z]? = some [zB (L.getD k [])]:=by
 unfold ux
 rw[zhz hz h,List.getD_eq_getElem?_getD,List.getElem?_eq_getElem h]
 rfl
theorem zmN {H:List zf} {id v n:Nat} {q:Bool} {L:List (List Int)} (hn:n=L.length) (h:H[id]? = some (.vec q v 1 (ux L))):Deep H (.own id v 0 n) (yd L):=by
 subst hn
 exact .own _ _ _ _ _ _ _ _ h (by rw[zw zs];exact z8 _)
end
end
section
section
abbrev qC:=Int × Int
abbrev zO:=Int × Int
structure SpR where
 e:Int
 marks:List (List Int)
 yR:List qC
 cur:List zO
 last:qC
def zek (marks:List (List Int)) (m:List Int):Nat:=marks.idxOf m
def zfe (m:List Int) (tok:Int):Bool:=m.any λx=>decide (x>tok)
def Y9 (marks:List (List Int)) (m:List Int) (tok:Int) (st:Nat):Int:=if zfe m tok=true then 7 else if m∈marks then 0 else if marks.length=st then 8 else 0
def ZB (marks:List (List Int)) (m:List Int) (tok:Int) (st:Nat):List (List Int):=if Y9 marks m tok st=0∧¬m∈marks then marks++[m] else marks
def WE (marks:List (List Int)) (yR:List qC) (m:List Int) (tok:Int) (st:Nat) (o:qC):List qC:=if Y9 marks m tok st=0∧¬m∈marks then yR++[o] else yR
def Vd (marks:List (List Int)) (m:List Int) (tok:Int) (st:Nat):Int:=if Y9 marks m tok st=0 then (zek (ZB marks m tok st) m:Int) else 0
namespace ze
noncomputable def yT (P:ze) (tok:Int) (st:Nat) (n:Nat) (M:List Int):List Int→List (List Int)→List qC→List zO→qC→SpR
 | [],marks,yR,cur,last=>⟨0,marks,yR,cur,last⟩
 | k::r,marks,yR,cur,_ =>
  if P.Zf M k≠0 then ⟨P.Zf M k,marks,yR,cur,((n:Int),k)⟩
  else if Y9 marks (P.wy M k) tok st≠0 then ⟨Y9 marks (P.wy M k) tok st,marks,yR,cur,((n:Int),k)⟩
  else P.yT tok st n M r (ZB marks (P.wy M k) tok st) (WE marks yR (P.wy M k) tok st ((n:Int),k)) (cur++[(k,Vd marks (P.wy M k) tok st)]) ((n:Int),k)
structure SpF where
 e:Int
 marks:List (List Int)
 yR:List qC
 next:List (List zO)
 last:qC
noncomputable def Z5 (P:ze) (tok:Int) (st:Nat):Nat→Nat→List (List Int)→List qC→List (List zO)→qC→SpF
 | 0,_,marks,yR,next,last=>⟨0,marks,yR,next,last⟩
 | f+1,n,marks,yR,next,last =>
  if n<marks.length then
   if (P.yT tok st n (marks.getD n []) (P.Yh (marks.getD n [])) marks yR [] last).e≠0 then
    ⟨(P.yT tok st n (marks.getD n []) (P.Yh (marks.getD n [])) marks yR [] last).e,(P.yT tok st n (marks.getD n []) (P.Yh (marks.getD n [])) marks yR [] last).marks,
     (P.yT tok st n (marks.getD n []) (P.Yh (marks.getD n [])) marks yR [] last).yR,next,(P.yT tok st n (marks.getD n []) (P.Yh (marks.getD n [])) marks yR [] last).last⟩
   else P.Z5 tok st f (n+1) (P.yT tok st n (marks.getD n []) (P.Yh (marks.getD n [])) marks yR [] last).marks (P.yT tok st n (marks.getD n []) (P.Yh (marks.getD n [])) marks yR [] last).yR
    (next++[(P.yT tok st n (marks.getD n []) (P.Yh (marks.getD n [])) marks yR [] last).cur]) (P.yT tok st n (marks.getD n []) (P.Yh (marks.getD n [])) marks yR [] last).last
  else ⟨0,marks,yR,next,last⟩
structure Sp (P:ze) (tok:Int) (st:Nat) (marks:List (List Int)) (yR:List qC):Prop where
 one:marks.Nodup
 vZ:∀m∈marks,P.vJ m=true
 room:marks.length≤st
 len:yR.length=marks.length
 back:∀i,0<i→i<yR.length→0≤(yR.getD i (0,0)).1∧(yR.getD i (0,0)).1<(i:Int)
 root:yR.length=0∨(yR.getD 0 (0,0))=(-1,-1)
theorem zpM {marks:List (List Int)} {m:List Int} {tok:Int} {st:Nat} (h:Y9 marks m tok st=0):zfe m tok=false∧(m∈marks∨marks.length≠st):=by
 unfold Y9 at h
 split at h
 ·cases h
 ·rename_i h1
  refine⟨by simpa using h1,?_⟩
  split at h
  ·rename_i h2;exact .inl h2
  ·split at h
   ·cases h
   ·rename_i h3;exact .inr h3
theorem Sp.put {P:ze} {tok:Int} {st:Nat} {marks:List (List Int)} {yR:List qC} (h:Sp P tok st marks yR) {m:List Int} (hm:P.vJ m=true) {a k:Int} (ha:0≤a) (hl:a<(marks.length:Int)):Sp P tok st (ZB marks m tok st) (WE marks yR m tok st (a,k)):=by
 unfold ZB WE
 split
 ·rename_i q
  obtain⟨q1,q2⟩:=q
  have h3:=(zpM q1).2.resolve_left q2
  have hr:=h.room
  have hlen:=h.len
  refine⟨?_,?_,by simp;omega,by simp[hlen],?_,?_⟩
  ·rw[List.nodup_append]
   refine⟨h.one,zs,λx hx y hy=>?_⟩
   rw[List.mem_singleton] at hy
   subst hy
   intro e;subst e;exact q2 hx
  ·intro x hx
   rcases List.mem_append.1 hx with hx|hx
   ·exact h.vZ x hx
   ·rw[List.mem_singleton] at hx;subst hx;exact hm
  ·intro i hi hil
   rw[List.length_append,List.length_singleton] at hil
   by_cases e:i=yR.length
   ·subst e
    rw[List.getD_eq_getElem?_getD,List.getElem?_append_right (Nat.le_refl _),Nat.sub_self]
    simp
    omega
   ·have:=h.back i hi zo
    rw[List.getD_eq_getElem?_getD,List.getElem?_append_left zo,←List.getD_eq_getElem?_getD]
    exact this
  ·right
   rcases h.root with q|q
   ·omega
   ·rw[List.getD_eq_getElem?_getD,List.getElem?_append_left zo,←List.getD_eq_getElem?_getD]
    exact q
 ·exact h
theorem zei {marks:List (List Int)} {m:List Int} {tok:Int} {st:Nat}:marks.length≤(ZB marks m tok st).length:=by
 unfold ZB;split<;>simp
theorem zjO {marks:List (List Int)} {m:List Int} {tok:Int} {st:Nat} {i:Nat} (h:i<marks.length):(ZB marks m tok st).getD i []=marks.getD i []:=by
 unfold ZB
 split
 ·rw[List.getD_eq_getElem?_getD,List.getElem?_append_left h,←List.getD_eq_getElem?_getD]
 ·rfl
theorem zsl {marks:List (List Int)} {m:List Int} {tok:Int} {st:Nat} (h:Y9 marks m tok st=0):m∈ZB marks m tok st:=by
 unfold ZB
 split
 ·simp
 ·rename_i q
  by_cases e:m∈marks
  ·exact e
  ·exact absurd ⟨h,e⟩ q
theorem XI {l:List (List Int)} {k:Nat} (h:k<l.length):l.getD k []∈l:=by
 rw[List.getD_eq_getElem?_getD,List.getElem?_eq_getElem h];exact List.getElem_mem h
theorem zea {P:ze} {M:List Int} {k:Int} (h:k∈P.Yh M):P.uc M=0∧0≤k∧k.toNat<P.zJ.length∧P.UB M (P.zJ.getD k.toNat (0,0,0))=true:=by
 unfold Yh at h
 split at h
 ·rename_i he
  refine⟨he,?_⟩
  have key:∀n,n≤P.zJ.length→k∈P.Ya M P.zJ n→0≤k∧k.toNat<n∧P.UB M (P.zJ.getD k.toNat (0,0,0))=true:=by
   intro n
   induction n with
   | zero=>intro _ h;simp[Ya] at h
   | succ n ih =>
    intro hn h
    simp only[Ya] at h
    split at h
    ·rename_i hm
     rcases List.mem_append.1 h with h|h
     ·obtain⟨h1,h2,h3⟩:=ih zo h
      exact⟨h1,zo,h3⟩
     ·rw[List.mem_singleton] at h;subst h
      refine⟨zo,zs,?_⟩
      simpa using hm
    ·obtain⟨h1,h2,h3⟩:=ih zo h
     exact⟨h1,zo,h3⟩
  obtain⟨h1,h2,h3⟩:=key _ (Nat.le_refl _) h
  exact⟨h1,h2,h3⟩
 ·simp at h
theorem zvS {P:ze} {M:List Int} {k:Int} (h:k∈P.Yh M):P.Zf M k=P.qA M (P.zJ.getD k.toNat (0,0,0))∧P.wy M k=P.X3 M (P.zJ.getD k.toNat (0,0,0)):=by
 obtain⟨h1,h2,h3,h4⟩:=zea h
 have e:P.Zf M k=P.qA M (P.zJ.getD k.toNat (0,0,0)):=by
  unfold Zf
  rw[if_neg zo,if_neg zo,if_pos h4]
 refine⟨e,?_⟩
 unfold wy
 rw[e]
 split
 ·rfl
 ·rename_i q;exact(zgK q).symm
theorem zga {P:ze} {M:List Int} (hM:P.vJ M=true) {k:Int} (h:k∈P.Yh M) (he:P.Zf M k=0):P.vJ (P.wy M k)=true:=by
 obtain⟨e1,e2⟩:=zvS h
 rw[e2]
 exact zuU hM (zea h).2.2.2 (by rw[←e1];exact he)
theorem znR (P:ze) (M:List Int):(P.Yh M).length≤P.zJ.length:=by
 unfold Yh
 split
 ·exact P.zg0 M _ _
 ·simp
end ze
end
section
open Go.RowKit
theorem zpc {P:Program} {k e:TypeId} {q:IntKind} {n:Nat} (hsz:0<P.types.size) (hk:P.keyType k=true) (hu:P.underlying k=some (.array n e)) (he:P.underlying e=some (.int q)) (hce:P.cellsOf e=1) (hck:P.cellsOf k=n) (vs:List Int) (hl:vs.length=n) (hw:∀x∈vs,(Lit.int q x).wf=true) :
  ∃l,keyOf P k (.agg (vs.map (Value.int q)).toArray)=some l:=by
 obtain⟨d,hd⟩:∃d,P.types.size=d+1:=⟨P.types.size-1,zo⟩
 have key:∀is:List Nat,(∀i∈is,i<n)→∃r,(is.mapM λi=>P.keyLits (d+1) e (((vs.map (Value.int q)).drop (i*P.cellsOf e)).take (P.cellsOf e)))=some r:=by
  intro is
  induction is with
  | nil=>intro _;exact⟨[],rfl⟩
  | cons i is ih =>
   intro h
   obtain⟨r,hr⟩:=ih λj hj=>h j (by simp[hj])
   have hi:=h i zs
   have e1:((vs.map (Value.int q)).drop (i*P.cellsOf e)).take (P.cellsOf e)=[.int q (vs[i]'zo)]:=by
    rw[hce,Nat.mul_one,List.drop_eq_getElem_cons (by simp;omega)]
    simp
   refine⟨[.int q (vs[i]'zo)]::r,?_⟩
   rw[List.mapM_cons,hr,e1]
   simp only[Program.keyLits,he]
   rw[if_pos ⟨trivial,hw _ (List.getElem_mem _)⟩]
   rfl
 obtain⟨r,hr⟩:=key (List.range n) λi hi=>List.mem_range.1 hi
 unfold keyOf
 rw[hu]
 simp only[hk,Value.formed,hu,hck,Bool.true_and]
 rw[if_pos (by simp[hl]),hd]
 show ∃l,(P.keyLits (d+1+1) k (vs.map (Value.int q)).toArray.toList).map _=some l
 rw[Program.keyLits]
 simp only[hu]
 rw[if_pos (by simp[hl,hck]),hr]
 ·exact⟨_,rfl⟩
 ·exact hu
def zfy (m:List Int):List Int:=(List.range 30).map λi=>m.getD i 0
def zmI (m:List Int):List D:=(zfy m).map λx=>.sc (.int .i8 x)
def X1 (m:List Int):Value:=.agg ((zmI m).map scV).toArray
theorem zbW (m:List Int):X1 m=.agg ((zfy m).map (Value.int .i8)).toArray:=by
 unfold X1 zmI
 rw[List.map_map]
 rfl
theorem zeI {m m':List Int} (hl:m.length=m'.length) (h30:m.length≤30) (h:X1 m=X1 m'):m=m':=by
 rw[zbW,zbW] at h
 have h:=(Value.agg.injEq _ _).mp h
 have h:=congrArg Array.toList h
 simp only[List.toList_toArray] at h
 have h:zfy m=zfy m':=by
  have:=congrArg (List.map λv=>match v with|Value.int _ x=>x|_=>0) h
  simpa [List.map_map,Function.comp_def] using this
 apply List.ext_getElem hl
 intro i h1 h2
 have:=congrArg (λl:List Int=>l[i]?) h
 simp only[zfy,List.getElem?_map,List.getElem?_range (show i<30 by omega),Option.map_some,Option.some.injEq] at this
 rw[List.getD_eq_getElem?_getD,List.getD_eq_getElem?_getD,List.getElem?_eq_getElem h1,List.getElem?_eq_getElem h2] at this
 exact this
noncomputable def zfC (marks:List (List Int)):Nat→Value→Option Value
 | 0=>λ_=>none
 | k+1=>JC (zfC marks k) (X1 (marks.getD k [])) (.int .i64 k)
noncomputable def fM (marks:List (List Int)):Value→Option Value:=zfC marks marks.length
theorem zjd {marks:List (List Int)} {m:List Int}:∀k,k≤marks.length→zfC (marks++[m]) k=zfC marks k
 | 0,_=>rfl
 | k+1,h=>by
  simp only[zfC]
  rw[zjd k zo,List.getD_eq_getElem?_getD,List.getElem?_append_left zo,←List.getD_eq_getElem?_getD]
theorem zAk (marks:List (List Int)) (m:List Int):fM (marks++[m])=JC (fM marks) (X1 m) (.int .i64 marks.length):=by
 unfold fM
 rw[List.length_append,List.length_singleton]
 simp only[zfC]
 rw[zjd _ (Nat.le_refl _),List.getD_eq_getElem?_getD,List.getElem?_append_right (Nat.le_refl _),Nat.sub_self]
 rfl
theorem zfV {marks:List (List Int)} {m:List Int} (hl:∀x∈marks,x.length=m.length) (h30:m.length≤30) (hm:¬m∈marks):∀k,k≤marks.length→zfC marks k (X1 m)=none
 | 0,_=>rfl
 | k+1,h=>by
  simp only[zfC,JC]
  rw[if_neg ?_,zfV hl h30 hm k zo]
  intro e
  have hk:=ze.XI (l:=marks) (k:=k) zo
  have:=zeI (hl _ hk).symm h30 e
  exact hm (this▸hk)
theorem zgx {marks:List (List Int)} {m:List Int} (hl:∀x∈marks,x.length=m.length) (h30:m.length≤30) (hn:marks.Nodup) {i:Nat} (hi:i<marks.length) (hm:marks.getD i []=m):∀k,i<k→k≤marks.length→zfC marks k (X1 m)=some (.int .i64 i)
 | 0,h,_=>zo
 | k+1,h,hk=>by
  simp only[zfC,JC]
  by_cases e:i=k
  ·subst e
   rw[hm,if_pos rfl]
  ·rw[if_neg ?_,zgx hl h30 hn hi hm k zo zo]
   intro q
   have hkm:=ze.XI (l:=marks) (k:=k) zo
   have:=zeI (hl _ hkm).symm h30 q
   rw[←hm,List.getD_eq_getElem?_getD,List.getD_eq_getElem?_getD,List.getElem?_eq_getElem hi,List.getElem?_eq_getElem zo] at this
   exact List.pairwise_iff_getElem.1 hn i k hi zo zo this
theorem zoF {marks:List (List Int)} {m:List Int} (h:m∈marks):zek marks m<marks.length∧marks.getD (zek marks m) []=m:=by
 unfold zek
 have h1:=List.idxOf_lt_length_of_mem h
 refine⟨h1,?_⟩
 rw[List.getD_eq_getElem?_getD,List.getElem?_eq_getElem h1,List.getElem_idxOf h1]
 rfl
theorem znn {marks:List (List Int)} {m:List Int} (hl:∀x∈marks,x.length=m.length) (h30:m.length≤30) (hn:marks.Nodup) (h:m∈marks):fM marks (X1 m)=some (.int .i64 (zek marks m)):=by
 obtain⟨h1,h2⟩:=zoF h
 exact zgx hl h30 hn h1 h2 _ h1 (Nat.le_refl _)
theorem zwr {marks:List (List Int)} {m:List Int} (hl:∀x∈marks,x.length=m.length) (h30:m.length≤30) (h:¬m∈marks):fM marks (X1 m)=none:=zfV hl h30 h _ (Nat.le_refl _)
theorem zsY {cs:List D} {z k:Nat} {c:D} {K:List D→Prop} (hz:z=k) (h:k<cs.length) (hK:K (cs.set k c)):zbp cs z [c] K:=by
 subst hz
 refine(Vi _ _ _ _).2 ⟨by simp;omega,?_⟩
 rw[List.set_eq_take_append_cons_drop,if_pos h] at hK
 rw[List.length_singleton,List.append_assoc,List.singleton_append]
 exact hK
def VS (a b:Int):List D:=[.sc (.int .i64 a),.sc (.int .i64 b)]
def wC (l:List (Int × Int)):List (List D):=l.map λo=>VS o.1 o.2
def vo (l:List (Int × Int)):D:=.xl 2 (wC l)
def uy (L:List (List zO)):List (List D):=L.map λl=>[vo l]
@[simp] theorem Yk (l:List (Int × Int)):(wC l).length=l.length:=by simp[wC]
@[simp] theorem zpy (l:List (List zO)):(uy l).length=l.length:=by simp[uy]
theorem YH (l:List (Int × Int)):yJ (wC l):=zC _ (λl=>by simp[VS,zb,Pure]) l
theorem vv (l:List (Int × Int)):Pure (vo l):=by simp only[vo,Pure];exact YH l
theorem Zb (l:List (List zO)):yJ (uy l):=zC _ (λl=>by simp[zb,vv]) l
@[simp] theorem zrc {m:Nat} (l:List (Int × Int)):zF m (wC l)↔True:=⟨λ_=>trivial,λ_=>zi _ (YH l)⟩
@[simp] theorem zt8 {m:Nat} (l:List (List zO)):zF m (uy l)↔True:=⟨λ_=>trivial,λ_=>zi _ (Zb l)⟩
@[simp] theorem zt0 {m:Nat} (l:List (Int × Int)):zt m (vo l)↔True:=⟨λ_=>trivial,λ_=>zz _ (vv l)⟩
theorem uz {l:List (Int × Int)} {z k:Nat} (hz:z=k) (h:k<l.length):(wC l)[z]? = some (VS (l.getD k (0,0)).1 (l.getD k (0,0)).2):=by
 subst hz
 unfold wC
 rw[List.getElem?_map,List.getElem?_eq_getElem h,List.getD_eq_getElem?_getD,List.getElem?_eq_getElem h]
 rfl
theorem WA {l:List (Int × Int)} {c:Nat} {a b:Int} (h:c=l.length):List.drop 0 (List.take c (wC l))++[VS a b]=wC (l++[(a,b)]):=by
 subst h
 rw[zw zs]
 simp[wC]
theorem zlM {L:List (List zO)} {c:Nat} {l:List zO} (h:c=L.length):List.drop 0 (List.take c (uy L))++[[vo l]]=uy (L++[l]):=by
 subst h
 rw[zw zs]
 simp[uy]
def zdG (P:ze) (tok:Int) (st n no nn:Nat) (last:qC):List D:=[.xl 2 (P.nodes.map vU),.xl 2 (P.zu.map Y4),.sc (.int .i64 tok),.sc (.int .i64 st),.own 2 n 0 n,.own 4 nn 0 nn,.mp 0,.own 3 no 0 no,.sc (.int .i64 last.1),.sc (.int .i64 last.2)]
noncomputable def qP (P:ze) (tok:Int) (st:Nat) (marks:List (List Int)) (yR:List qC) (next:List (List zO)) (last:qC):List zf :=
 [.wg true (uQ Tryz.prog 240 (fM marks)),.row true (zdG P tok st marks.length yR.length next.length last),.vec true marks.length 1 (ux marks),.vec true yR.length 2 (wC yR),.vec true next.length 1 (uy next)]
theorem zqS:laidOutB Tryz.prog=true:=by kernel_rfl
theorem zsg:Maps.Keyed Tryz.prog 240:=Maps.Keyed.of_law (deep_law_laid zqS (m:=2) zo (of_decide_eq_true (by kernel_rfl)) (by kernel_rfl) (by rw[Tryz.underlying240]))
def zz4:PC:=.seq (OP [Bi 9 .lss 8 7]) (.seq (.cond 9 .skip (.exit 0)) (.seq (.block 1 (.seq (OP [qm 10 8,Ia 11 1 6 8,Lo 12 11,qm 4 10,qm 5 12]) (OP [qm 13 4,qm 14 5,q 15 (.conv .i8 14),q 16 (.znY 30 1 3 13),So 1 16 15]))) (OP [Bi 17 .add 8 (cI 1),qm 8 17])))
def c171:PC:=.seq (OP [q 2 (.alloc [(.int .i8 0),(.int .i8 0),(.int .i8 0),(.int .i8 0),(.int .i8 0),(.int .i8 0),(.int .i8 0),(.int .i8 0),(.int .i8 0),(.int .i8 0),(.int .i8 0),(.int .i8 0),(.int .i8 0),(.int .i8 0),(.int .i8 0),(.int .i8 0),(.int .i8 0),(.int .i8 0),(.int .i8 0),(.int .i8 0),(.int .i8 0),(.int .i8 0),(.int .i8 0),(.int .i8 0),(.int .i8 0),(.int .i8 0),(.int .i8 0),(.int .i8 0),(.int .i8 0),(.int .i8 0)])]) (.seq (OP [q 3 (.alloc [(.int .i8 0),(.int .i8 0),(.int .i8 0),(.int .i8 0),(.int .i8 0),(.int .i8 0),(.int .i8 0),(.int .i8 0),(.int .i8 0),(.int .i8 0),(.int .i8 0),(.int .i8 0),(.int .i8 0),(.int .i8 0),(.int .i8 0),(.int .i8 0),(.int .i8 0),(.int .i8 0),(.int .i8 0),(.int .i8 0),(.int .i8 0),(.int .i8 0),(.int .i8 0),(.int .i8 0),(.int .i8 0),(.int .i8 0),(.int .i8 0),(.int .i8 0),(.int .i8 0),(.int .i8 0)])]) (.seq (.seq (OP [qm 6 0,Ln 7 6,Mv 8 (cI 0)]) (.block 0 (.loop zz4))) (.seq (OP [LA 18 30 3,So 30 2 18]) .ret)))
theorem zvF:zv Tryz.prog 171 19 [.agg 2 30] c171:=fK Tryz.func171
def c170:PC:=.seq (OP [Mv 3 cF]) (.seq (OP [qm 4 0,Lo 5 1,q 6 (.zq 5),Fa 7 2 6,Lo 8 7,Bi 9 .gtr 4 8,qm 3 9]) .ret)
theorem zud:zv Tryz.prog 170 10 [.tmp 3] c170:=fK Tryz.func170
def zb2 (m:List Int) (k:Nat):List D:=(List.range 30).map λi=>.sc (.int .i8 (if i<k then m.getD i 0 else 0))
theorem zp8 {m:List Int} {k:Nat}:(zb2 m k).set k (.sc (.int .i8 (m.getD k 0)))=zb2 m (k+1):=by
 unfold zb2
 apply List.ext_getElem?
 intro i
 rw[List.getElem?_set]
 by_cases hi:i<30
 ·by_cases e:k=i
  ·subst e
   simp[hi]
  ·rw[if_neg e]
   simp only[List.getElem?_map,List.getElem?_range hi,Option.map_some]
   by_cases q:i<k
   ·rw[if_pos q,if_pos zo]
   ·rw[if_neg q,if_neg zo]
 ·rw[List.getElem?_eq_none (l:=(List.range 30).map _) (by simp;omega),List.getElem?_eq_none (l:=(List.range 30).map _) (by simp;omega)]
  split
  ·simp;omega
  ·rfl
theorem zor (m:List Int):zb2 m m.length=zmI m:=by
 unfold zb2 zmI zfy
 rw[List.map_map]
 refine List.map_congr_left λi _=>?_
 by_cases h:i<m.length
 ·simp[h]
 ·simp[h,List.getD_eq_getElem?_getD,List.getElem?_eq_none (Nat.le_of_not_lt h)]
theorem zco (m:List Int) (hl:m.length≤30) (hm:∀x∈m,0≤x∧x≤127):zn Tryz.prog 171 [zB m] (.agg (zmI m)):=by
 refine za zvF zs (by simp[zb,Pure,zj]) ?_ (by simp only[Pure,zmI];generalize zfy m=l;induction l with|nil=>simp[zb]|cons x r ih=>simpa [zb,Pure] using ih)
 refine sR ?_
 rw[List.length_map]
 refine zP [2,3,6,7] (λk:Nat=>[(8,.sc (.int .i64 k))]) (λk=>[(1,.row true (zb2 m k))]) (λk=>k≤m.length) (λk=>m.length-k) 0 ?_
 refine sW ?_
 refine⟨zo,by exact sK,rfl,?_⟩
 rintro k hk
 refine sW ?_
 refine sR ?_
 refine sS (λh1=>?_) λh1=>?_
 ·have hk':k<m.length:=sO
  refine sL (yc (l:=m) (k:=k) zo hk') ?_
  have hx:=hm _ (yz hk')
  have hwr:JL .i8 (m.getD k 0):=by
   unfold JL
   generalize m.getD k 0=x at hx
   simp[IntKind.wrap,IntKind.bits,IntKind.signed]
   omega
  refine .inl ⟨hwr,?_⟩
  refine sW ?_
  refine⟨zo,zo,?_⟩
  refine sW ?_
  refine zsY (k:=k) zo (by simp[zb2];omega) ?_
  refine sW ?_
  refine sI ?_
  refine⟨k+1,zo,zd,?_⟩
  refine zD (by exact sK) ?_
  rw[zp8]
  rfl
 ·have hk':k=m.length:=by have:¬k<m.length:=sO
                          omega
  refine zR ?_
  show D.agg (zb2 m k)=D.agg (zmI m)
  rw[hk',zor]
theorem zlh (m:List Int) (hm:∀x∈m,0≤x∧x≤127):∃l,keyOf Tryz.prog 240 (X1 m)=some l:=by
 rw[zbW]
 refine zpc (of_decide_eq_true (by kernel_rfl)) (by kernel_rfl) Tryz.underlying240 Tryz.underlying238 (by kernel_rfl) (by kernel_rfl) (zfy m) (by simp[zfy]) λx hx=>?_
 unfold zfy at hx
 obtain⟨i,_,rfl⟩:=List.mem_map.1 hx
 have:0≤m.getD i 0∧m.getD i 0≤127:=by
  by_cases h:i<m.length
  ·exact hm _ (yz h)
  ·rw[List.getD_eq_getElem?_getD,List.getElem?_eq_none zo];simp
 simp only[Lit.wf,Bool.and_eq_true,decide_eq_true_eq]
 have h1:IntKind.min .i8=-128:=zc
 have h2:IntKind.max .i8=127:=zc
 omega
theorem zmq (x tok:Int):zn Tryz.prog 170 [.sc (.int .i64 x),.yO [.yO [.xP,.xP,.sc (.int .i64 tok),.xP,.xP,.xP,.xP,.xP,.xP,.xP]]] (.sc (.bool (decide (x>tok)))):=by
 refine za zud zs (by simp[zb,Pure]) ?_ (by simp[Pure])
 refine sR ?_
 exact .refl _
def c107:PC:=.seq (OP [Bx 3 0,Bx 5 2,Mv 6 (cI 0),Mv 7 (cI 0)]) (.seq (OP [Lo 11 3,LA 12 2 5,q 13 (.zq 11),Fa 14 8 13,So 2 14 12]) (.seq (.seq (OP [qm 15 1,q 16 (.uG (.func 170) [] [3]),Ca 17 52 [15,16]]) (.cond 17 (.seq (OP [Mv 6 (cI 0),Mv 7 (cI 7)]) .ret) .skip)) (.seq (.seq (.ops [Lo 19 3,qd 20 (.zq 19) 1,qd 21 (.zy 6 20) 3,qd 22 (.zg 21) 7,qm 23 1,qd 24 (.call 171 [23]) 16,qd 25 (.look 240 (.int .i64 0) 22 24) 63,qw 18 25 127,qd 26 (.ext 0 18) 255,qd 27 (.ext 1 18) 255,qw 8 26 511,qw 9 27 2047] true) (.seq (OP [qm 28 9]) (.cond 28 (.seq (OP [qm 29 8,qm 6 29,Mv 7 (cI 0)]) .ret) .skip))) (.seq (OP [Lo 30 3,q 31 (.zq 30),Fa 32 4 31,Fa 33 0 32,Lo 34 33,Ln 35 34,qm 10 35]) (.seq (.seq (OP [qm 36 10,Lo 37 3,q 38 (.zq 37),Fa 39 3 38,Lo 40 39,Bi 41 .eql 36 40]) (.cond 41 (.seq (OP [Mv 6 (cI 0),Mv 7 (cI 8)]) .ret) .skip)) (.seq (.ops [Lo 42 3,qd 43 (.zq 42) 1,qd 44 (.zy 6 43) 3,qd 45 (.zg 44) 7,qm 46 1,qd 47 (.call 171 [46]) 16,qm 48 10,qk (.zmT 240 45 47 48) 127] true) (.seq (.ops [Lo 49 3,Lo 50 3,qd 51 (.zq 50) 2,qd 52 (.zy 4 51) 6,qd 53 (.zy 0 52) 14,qd 54 (.zg 53) 30,qm 55 1,qd 56 (.wz 1 1 [55]) 64,qd 57 (.append 1 24 54 56) 254,qd 58 (.zq 49) 511,qd 59 (.zy 4 58) 1023,qd 60 (.zy 0 59) 2047,qk (.store 1 60 57) 4095] true) (.seq (.ops [Lo 61 3,Lo 62 3,qd 63 (.zq 62) 2,qd 64 (.zy 7 63) 6,qd 65 (.zg 64) 14,LA 66 2 5,qd 67 (.wz 2 1 [66]) 32,qd 68 (.append 2 16 65 67) 126,qd 69 (.zq 61) 255,qd 70 (.zy 7 69) 511,qk (.store 1 70 68) 1023] true) (.seq (OP [qm 71 10,qm 6 71,Mv 7 (cI 0)]) .ret)))))))))
theorem zwu:zv Tryz.prog 107 72 [.tmp 6,.tmp 7] c107:=fK Tryz.func107
theorem zsR (m:List Int) (tok:Int):(m.any λx=>decide (x>tok))=zfe m tok:=rfl
theorem zcA (P:ze) (tok:Int) (st:Nat) (hst:st≤200) (marks:List (List Int)) (yR:List qC) (next:List (List zO)) (last:qC) (hS:ze.Sp P tok st marks yR) (h30:P.zu.length≤30) (m:List Int) (hm:P.vJ m=true) (o:qC) :
  yr Tryz.prog 107 [.loc 1 0,zB m,.agg (VS o.1 o.2)] (qP P tok st marks yR next last) (.yP [.sc (.int .i64 (Vd marks m tok st)),.sc (.int .i64 (Y9 marks m tok st))]) (qP P tok st (ZB marks m tok st) (WE marks yR m tok st o) next o):=by
 have hM:=ze.xC hm
 have hml:=hM.len
 have hpos:∀x∈m,0≤x∧x≤9:=λx hx=>by
  unfold ze.vJ at hm
  rw[Bool.and_eq_true] at hm
  have:=z1 hm.2 hx
  omega
 have hlen:∀x∈marks,x.length=m.length:=λx hx=>by rw[(ze.xC (hS.vZ x hx)).len,hml]
 have hr:=hS.room
 have hol:=hS.len
 refine zS zwu zs (by simp[qP]) ?_ (by simp[zt,zl]) (by
  intro x hx
  simp only[qP,List.mem_cons,List.not_mem_nil,or_false] at hx
  rcases hx with rfl|rfl|rfl|rfl|rfl<;>simp[zf.under,zdG,zl,zt,qP])
 unfold qP zdG VS
 refine sR ?_
 refine .inr (.inl ⟨_,_,.cons _ _ _ _ (.refl _) (.cons _ _ _ _ (.fn _ _ _ _ _ .nil (.cons _ _ _ _ (.loc _ _ _ _ _ rfl (.cons _ _ _ _ (.loc _ _ _ _ _ rfl (.cons _ _ _ _ (.xP _) (.cons _ _ _ _ (.xP _) (.cons _ _ _ _ (.refl _) (.cons _ _ _ _ (.xP _) (.cons _ _ _ _ (.xP _) (.cons _ _ _ _ (.xP _) (.cons _ _ _ _ (.xP _) (.cons _ _ _ _ (.xP _) (.cons _ _ _ _ (.xP _) (.cons _ _ _ _ (.xP _) .nil))))))))))) .nil)) .nil)) .nil),
  yo (λn=>.sc (.int .i64 n)) (λa=>by simp[Pure]) m zo (λx=>decide (x>tok)) 170 [.yO [.yO [.xP,.xP,.sc (.int .i64 tok),.xP,.xP,.xP,.xP,.xP,.xP,.xP]]] (by simp[zb,Pure]) (λa _=>zmq a tok),rfl,?_⟩)
 rw[zsR]
 have eE:Y9 marks m tok st=if zfe m tok=true then 7 else if m∈marks then 0 else if marks.length=st then 8 else 0:=rfl
 refine sW ?_
 have hn0:∀v,Y9 marks m tok st=v→v≠0→ZB marks m tok st=marks∧WE marks yR m tok st o=yR∧Vd marks m tok st=0:=λv h1 h2=>by
  unfold ZB WE Vd
  rw[h1,if_neg λq=>h2 q.1,if_neg λq=>h2 q.1,if_neg h2]
  exact⟨rfl,rfl,rfl⟩
 cases h1:zfe m tok
 ·refine sW ?_
  refine sC (zco m zo (λx hx=>by have:=hpos x hx;omega)) ?_
  have hkey:=zlh m (λx hx=>by have:=hpos x hx;omega)
  refine⟨fM marks,rfl,zsg,hkey,λv hv=>?_,λhv=>?_⟩
  ·refine sW ?_
   by_cases h2:m∈marks
   ·have hs:=znn hlen zo hS.one h2
    have hv':some v=some (Value.int .i64 (zek marks m)):=hv.symm.trans hs
    cases hv'
    have e0:Y9 marks m tok st=0:=by rw[eE,h1,if_neg zs,if_pos h2]
    have eM:ZB marks m tok st=marks:=by unfold ZB;rw[if_neg λq=>q.2 h2]
    have eG:WE marks yR m tok st o=yR:=by unfold WE;rw[if_neg λq=>q.2 h2]
    have eI:Vd marks m tok st=(zek marks m:Int):=by unfold Vd;rw[if_pos e0,eM]
    rw[eM,eG,eI,e0]
    exact⟨rfl,rfl,zs⟩
   ·exfalso
    have:=zwr hlen zo h2
    have hv':some v=none:=hv.symm.trans this
    cases hv'
  ·refine sW ?_
   have h2:¬m∈marks:=λh2=>by
    have hs:=znn hlen zo hS.one h2
    have hv':(none:Option Value)=some (Value.int .i64 (zek marks m)):=hv.symm.trans hs
    cases hv'
   refine sS (λh3=>?_) λh3=>?_
   ·have h3:marks.length=st:=sO
    have e8:Y9 marks m tok st=8:=by rw[eE,h1,if_neg zs,if_neg h2,if_pos h3]
    obtain⟨eM,eG,eI⟩:=hn0 8 e8 zc
    rw[eM,eG,eI,e8]
    exact⟨rfl,rfl,zs⟩
   ·have h3:marks.length≠st:=sO
    have e0:Y9 marks m tok st=0:=by rw[eE,h1,if_neg zs,if_neg h2,if_neg h3]
    have eM:ZB marks m tok st=marks++[m]:=by unfold ZB;rw[if_pos ⟨e0,h2⟩]
    have eG:WE marks yR m tok st o=yR++[o]:=by unfold WE;rw[if_pos ⟨e0,h2⟩]
    have eI:Vd marks m tok st=(marks.length:Int):=by
     unfold Vd
     rw[if_pos e0,eM]
     congr 1
     unfold zek
     rw[List.idxOf_append,if_neg h2]
     simp
    refine sC (zco m zo (λx hx=>by have:=hpos x hx;omega)) ?_
    refine⟨fM marks,rfl,zsg,hkey,hv,?_⟩
    refine sW ?_
    refine sJ ?_
    refine sJ ?_
    rw[eM,eG,eI,e0]
    refine⟨rfl,?_,zs⟩
    rw[zAk,List.length_append,List.length_append,List.length_singleton,List.length_singleton]
    have g1:=Ju (L:=marks) (c:=marks.length) (x:=m) rfl
    have g2:=WA (l:=yR) (c:=yR.length) (a:=o.1) (b:=o.2) rfl
    rw[←g1,←g2]
    rfl
 ·have e7:Y9 marks m tok st=7:=by rw[eE,if_pos h1]
  obtain⟨eM,eG,eI⟩:=hn0 7 e7 zc
  refine sW ?_
  rw[eM,eG,eI,e7]
  exact⟨rfl,rfl,zs⟩
end
section
open Go.RowKit
def zj0 (R:SpR):List zO:=if R.e=0 then R.cur else []
namespace ze
theorem YY {P:ze} {tok:Int} {st n:Nat} {M:List Int} {k:Int} {r:List Int} {marks:List (List Int)} {yR:List qC} {cur:List zO} {last:qC} :
  P.yT tok st n M (k::r) marks yR cur last=if P.Zf M k≠0 then ⟨P.Zf M k,marks,yR,cur,((n:Int),k)⟩
  else if Y9 marks (P.wy M k) tok st≠0 then ⟨Y9 marks (P.wy M k) tok st,marks,yR,cur,((n:Int),k)⟩
  else P.yT tok st n M r (ZB marks (P.wy M k) tok st) (WE marks yR (P.wy M k) tok st ((n:Int),k)) (cur++[(k,Vd marks (P.wy M k) tok st)]) ((n:Int),k):=rfl
theorem zmc {l:List Int} {k:Nat} (h:k<l.length):l.drop k=l.getD k 0::l.drop (k+1):=by
 rw[List.drop_eq_getElem_cons h,List.getD_eq_getElem?_getD,List.getElem?_eq_getElem h]
 rfl
end ze
theorem U2 {P:ze} {tok:Int} {st:Nat} {marks:List (List Int)} {yR:List qC} {next:List (List zO)} {last:qC}:wJ 5 (qP P tok st marks yR next last):=by
 simp[qP,wJ,zf.under,zdG,zl,zt]
theorem Uy {P:ze} {tok:Int} {st:Nat} {marks:List (List Int)} {yR:List qC} {next:List (List zO)} {last:qC} {G R:List zf}:WL 5 G (qP P tok st marks yR next last++R) (qP P tok st marks yR next last) :=
 y7 _ _ λo ho=>Zd U2 o ho
def zyC:PC:=.seq (OP [Bi 33 .lss 32 31]) (.seq (.cond 33 .skip (.exit 0)) (.seq (.block 1 (.seq (OP [Ia 34 1 30 32,Lo 35 34,qm 10 35]) (.seq (OP [qm 36 0,qm 37 1,qm 38 10,q 39 (.build [(.int .i64 0),(.int .i64 0)] [(0,1,37),(1,1,38)]),q 40 (.zq 36),Fa 41 8 40,So 2 41 39]) (.seq (.ops [qm 43 0,qd 44 (.zq 43) 1,qd 45 (.zy 0 44) 3,qd 46 (.vC 2 45) 7,qm 47 0,qd 48 (.zq 47) 16,qd 49 (.zy 4 48) 48,qd 50 (.zy 0 49) 112,qd 51 (.zg 50) 240,qm 52 1,qd 53 (.zM 1 51 52) 1008,qd 54 (.zg 53) 2032,qm 55 10,qd 56 (.call 173 [46,54,55]) 8191,qw 42 56 16383,qd 57 (.ext 0 42) 32767,qd 58 (.ext 1 42) 32767,qw 11 57 65535,qw 12 58 262143] true) (.seq (.seq (OP [qm 59 12,Bi 60 .neq 59 (cI 0)]) (.cond 60 (.seq (OP [qm 61 12,Mv 4 cN,qm 5 61]) .ret) .skip)) (.seq (OP [qm 63 0,qm 64 11,qm 65 1,qm 66 10,q 67 (.build [(.int .i64 0),(.int .i64 0)] [(0,1,65),(1,1,66)]),Ca 68 107 [63,64,67],qm 62 68,Xt 69 0 62,Xt 70 1 62,qm 13 69,qm 12 70]) (.seq (.seq (OP [qm 71 12,Bi 72 .neq 71 (cI 0)]) (.cond 72 (.seq (OP [qm 73 12,Mv 4 cN,qm 5 73]) .ret) .skip)) (OP [qm 74 6,qm 75 10,qm 76 13,q 77 (.build [(.int .i64 0),(.int .i64 0)] [(0,1,75),(1,1,76)]),Bs 78 2 1 [77],Ap 79 2 16 74 78,qm 6 79])))))))) (OP [Bi 80 .add 32 (cI 1),qm 32 80])))
def c108:PC:=.seq (OP [Mv 4 cN,Mv 5 (cI 0)]) (.seq (OP [Mv 6 cN]) (.seq (.ops [qm 15 0,qd 16 (.zq 15) 1,qd 17 (.zy 0 16) 3,qd 18 (.vC 2 17) 7,qm 19 0,qd 20 (.zq 19) 16,qd 21 (.zy 4 20) 48,qd 22 (.zy 0 21) 112,qd 23 (.zg 22) 240,qm 24 1,qd 25 (.zM 1 23 24) 1008,qd 26 (.zg 25) 2032,qd 27 (.call 172 [18,26]) 4095,qw 14 27 8191,qd 28 (.ext 0 14) 16383,qd 29 (.ext 1 14) 16383,qw 7 28 32767,qw 8 29 131071] true) (.seq (.seq (OP [qm 30 7,Ln 31 30,Mv 32 (cI 0)]) (.block 0 (.loop zyC))) (.seq (OP [qm 81 6,qm 4 81,Mv 5 (cI 0)]) .ret))))
theorem zuq:zv Tryz.prog 108 82 [.tmp 4,.tmp 5] c108:=fK Tryz.func108
theorem zk8 (P:ze) (hP:P.Fits) (h1:P.yH=0) (tok:Int) (st:Nat) (hst:st≤200) (marks:List (List Int)) (yR:List qC) (next:List (List zO)) (last:qC) (hS:ze.Sp P tok st marks yR) (n:Nat) (hn:n<marks.length) :
  yr Tryz.prog 108 [.loc 1 0,.sc (.int .i64 n)] (qP P tok st marks yR next last)
   (.yP [vo (zj0 (P.yT tok st n (marks.getD n []) (P.Yh (marks.getD n [])) marks yR [] last)),.sc (.int .i64 (P.yT tok st n (marks.getD n []) (P.Yh (marks.getD n [])) marks yR [] last).e)])
   (qP P tok st (P.yT tok st n (marks.getD n []) (P.Yh (marks.getD n [])) marks yR [] last).marks (P.yT tok st n (marks.getD n []) (P.Yh (marks.getD n [])) marks yR [] last).yR next (P.yT tok st n (marks.getD n []) (P.Yh (marks.getD n [])) marks yR [] last).last):=by
 obtain⟨h0,_,h60⟩:=ze.xq h1
 have h30:=(xi h0).2
 have hol:=hS.len
 refine wR zuq zs (by simp[qP]) ?_ (by simp[zt,zl])
 have hMg:=hS.vZ _ (ze.XI hn)
 have hr:=hS.room
 generalize hM:marks.getD n []=M at hMg
 have hML:=(ze.xC hMg).len
 generalize hR:P.yT tok st n M (P.Yh M) marks yR [] last=R
 have eM:P.uc M=0:=by unfold ze.uc;rw[if_neg zo,if_pos hMg]
 have hLl:=P.znR M
 have hLs:∀k∈P.Yh M,k∈P.Yh M:=λ_ h=>h
 generalize hL:P.Yh M=L at hR hLl
 unfold qP zdG
 refine sR ?_
 refine sB ?_
 refine⟨_,zkh (k:=n) zo hn,?_⟩
 refine sW ?_
 rw[hM]
 refine sC (ziG P hP M zo) ?_
 rw[hL,List.length_map]
 refine zH (xw 6 2 zs rfl) ?_
 refine ye [0,1,30,31] (λ((mk,og,cur,la,k):List (List Int) × List qC × List zO × qC × Nat)=>[(6,.own 5 cur.length 0 cur.length),(32,.sc (.int .i64 k))]) (λ(mk,og,cur,la,k)=>qP P tok st mk og next la++[.vec true cur.length 2 (wC cur)])
  (λ(mk,og,cur,la,k)=>k≤L.length∧ze.Sp P tok st mk og∧n<mk.length∧mk.getD n []=M∧cur.length=k∧P.yT tok st n M (L.drop k) mk og cur la=R) (λ(mk,og,cur,la,k)=>L.length-k) (marks,yR,[],last,0) ?_
 refine sW ?_
 refine⟨⟨zo,hS,hn,hM,rfl,hR⟩,by exact sK,rfl,?_⟩
 rintro⟨mk,og,cur,la,k⟩ ⟨hk,hS',hn',hM',hc,hF⟩
 have hr':=hS'.room
 have hol':=hS'.len
 unfold qP zdG
 refine sW ?_
 refine sR ?_
 refine sS (λh2=>?_) λh2=>?_
 ·have hk':k<L.length:=sO
  rw[ze.zmc hk',ze.YY] at hF
  have hxm:L.getD k 0∈P.Yh M:=by rw[hL];exact yz hk'
  refine sL (yc (l:=L) (k:=k) zo hk') ?_
  generalize L.getD k 0=x at hF hxm
  refine sB ?_
  refine⟨_,zkh (k:=n) zo hn',?_⟩
  refine sW ?_
  rw[hM']
  refine sC (zqF P hP M zo x) ?_
  refine sS (λh3=>?_) λh3=>?_
  ·have h3:P.Zf M x≠0:=sO
   rw[if_pos h3] at hF
   subst hF
   have hcur:zj0 ⟨P.Zf M x,mk,og,cur,((n:Int),x)⟩=[]:=if_neg h3
   rw[hcur]
   exact⟨.yP _ _ (.cons _ _ _ _ (.none _) (.refl _)),Uy (P:=P) (tok:=tok) (st:=st) (marks:=mk) (yR:=og) (next:=next) (last:=((n:Int),x)) (R:=[_])⟩
  ·have h3:P.Zf M x=0:=sO
   rw[if_neg λq=>q h3] at hF
   have hmg:=ze.zga hMg hxm h3
   generalize P.wy M x=m at hF hmg
   refine sA (vT (zcA P tok st hst mk og next ((n:Int),x) hS' h30 m hmg ((n:Int),x)) [.vec true cur.length 2 (wC cur)] rfl (by simp[zl,zt,VS,qP]) U2) ?_
   refine sS (λh4=>?_) λh4=>?_
   ·have h4:Y9 mk m tok st≠0:=sO
    rw[if_pos h4] at hF
    have hM1:ZB mk m tok st=mk:=by unfold ZB;rw[if_neg λq=>h4 q.1]
    have hG1:WE mk og m tok st ((n:Int),x)=og:=by unfold WE;rw[if_neg λq=>h4 q.1]
    subst hF
    have hcur:zj0 ⟨Y9 mk m tok st,mk,og,cur,((n:Int),x)⟩=[]:=if_neg h4
    rw[hcur]
    refine⟨.yP _ _ (.cons _ _ _ _ (.none _) (.refl _)),?_⟩
    rw[hM1,hG1]
    exact Uy (P:=P) (tok:=tok) (st:=st) (marks:=mk) (yR:=og) (next:=next) (last:=((n:Int),x)) (R:=[_])
   ·have h4:Y9 mk m tok st=0:=sO
    rw[if_neg λq=>q h4] at hF
    refine sJ ?_
    refine sI ?_
    refine⟨(ZB mk m tok st,WE mk og m tok st ((n:Int),x),cur++[(x,Vd mk m tok st)],((n:Int),x),k+1),⟨zo,hS'.put hmg zo zo,Nat.lt_of_lt_of_le hn' ze.zei,by rw[ze.zjO hn',hM'],by simp[hc],hF⟩,zd,?_⟩
    dsimp only
    rw[show(cur++[(x,Vd mk m tok st)]).length=cur.length+1 by simp]
    refine zm 6 zs rfl sQ (sU ?_)
    exact zp (WA rfl)
 ·have hk':k=L.length:=by have:¬k<L.length:=sO
                          omega
  rw[hk',List.drop_length] at hF
  have hF':R=⟨0,mk,og,cur,la⟩:=hF.symm
  subst hF'
  have hcur:zj0 ⟨0,mk,og,cur,la⟩=cur:=if_pos rfl
  rw[hcur]
  refine⟨.yP _ _ (.cons _ _ _ _ (.own _ _ _ _ _ _ _ _ rfl rfl ?_) (.refl _)),Uy (P:=P) (tok:=tok) (st:=st) (marks:=mk) (yR:=og) (next:=next) (last:=la) (R:=[_])⟩
  rw[zw zs]
  exact .refl _
end
section
open Go.RowKit
namespace ze
noncomputable def QX (P:ze) (tok:Int) (st:Nat):SpF:=P.Z5 tok st 201 0 [P.x0] [(-1,-1)] [] (-1,-1)
theorem Sp.nil (P:ze) (tok:Int) (st:Nat):Sp P tok st [] []:=⟨zs,zs,zs,rfl,λi h1 h2=>by simp at h2,.inl rfl⟩
theorem zmL {P:ze} (h:P.yH=0) {tok:Int} (ht:1≤tok):zfe P.x0 tok=false:=by
 unfold zfe x0
 rw[if_pos h,List.any_eq_false]
 intro x hx
 unfold gl at hx
 obtain⟨i,_,rfl⟩:=List.mem_map.1 hx
 unfold zcQ
 split<;>simp<;>omega
theorem zqp {P:ze} (h:P.yH=0) {tok:Int} (ht:1≤tok) {st:Nat} (hs:1≤st):Y9 [] P.x0 tok st=0∧ZB [] P.x0 tok st=[P.x0]∧WE [] [] P.x0 tok st (-1,-1)=[(-1,-1)]:=by
 have e0:Y9 [] P.x0 tok st=0:=by
  unfold Y9
  rw[zmL h ht]
  simp
  omega
 refine⟨e0,?_,?_⟩
 ·unfold ZB;rw[if_pos ⟨e0,zs⟩];rfl
 ·unfold WE;rw[if_pos ⟨e0,zs⟩];rfl
theorem Sp.start {P:ze} (h:P.yH=0) {tok:Int} {st:Nat} (hs:1≤st):Sp P tok st [P.x0] [(-1,-1)] :=
 ⟨zs,λm hm=>by rw[List.mem_singleton] at hm;subst hm;exact zla h,by simpa using hs,rfl,λi h1 h2=>by simp at h2;omega,.inr rfl⟩
theorem QF {P:ze} {tok:Int} {st n:Nat} {M:List Int} (hM:P.vJ M=true):∀(L:List Int) (marks:List (List Int)) (yR:List qC) (cur:List zO) (last:qC),(∀k∈L,k∈P.Yh M)→Sp P tok st marks yR→n<marks.length →
  Sp P tok st (P.yT tok st n M L marks yR cur last).marks (P.yT tok st n M L marks yR cur last).yR∧marks.length≤(P.yT tok st n M L marks yR cur last).marks.length ∧
   (∀i,i<marks.length→(P.yT tok st n M L marks yR cur last).marks.getD i []=marks.getD i [])
 | [],marks,yR,cur,last,_,hS,_=>⟨hS,Nat.le_refl _,λ_ _=>rfl⟩
 | k::r,marks,yR,cur,last,hL,hS,hn=>by
  rw[YY]
  split
  ·exact⟨hS,Nat.le_refl _,λ_ _=>rfl⟩
  ·split
   ·exact⟨hS,Nat.le_refl _,λ_ _=>rfl⟩
   ·rename_i h1 h2
    have hg:=zga hM (hL k zs) zo
    have hl:=zei (marks:=marks) (m:=P.wy M k) (tok:=tok) (st:=st)
    have hn':n<(ZB marks (P.wy M k) tok st).length:=Nat.lt_of_lt_of_le hn hl
    have hS':=hS.put hg (a:=(n:Int)) (k:=k) zo zo
    obtain⟨g1,g2,g3⟩:=QF hM r (ZB marks (P.wy M k) tok st) (WE marks yR (P.wy M k) tok st ((n:Int),k)) (cur++[(k,Vd marks (P.wy M k) tok st)]) ((n:Int),k) (λj hj=>hL j (by simp[hj])) hS' hn'
    exact⟨g1,Nat.le_trans hl g2,λi hi=>by rw[g3 i (Nat.lt_of_lt_of_le hi hl),zjO hi]⟩
end ze
def zka (P:ze) (tok:Int) (st n no nn:Nat) (last:qC):List D:=[.xl 2 (P.nodes.map vU),.xl 2 (P.zu.map Y4),.sc (.int .i64 tok),.sc (.int .i64 st),.own 3 n 0 n,.own 5 nn 0 nn,.mp 1,.own 4 no 0 no,.sc (.int .i64 last.1),.sc (.int .i64 last.2)]
noncomputable def Yw (P:ze) (tok:Int) (st:Nat) (marks:List (List Int)) (yR:List qC) (next:List (List zO)) (last:qC):List zf :=
 [.row true [.xl 2 (P.nodes.map vU),.xl 2 (P.zu.map Y4)],.wg true (uQ Tryz.prog 240 (fM marks)),.row true (zka P tok st marks.length yR.length next.length last),.vec true marks.length 1 (ux marks),.vec true yR.length 2 (wC yR),.vec true next.length 1 (uy next)]
theorem QP {ρ:Nat→Nat} (P:ze):D.yG ρ (.xl 2 (P.nodes.map vU))=.xl 2 (P.nodes.map vU)∧D.yG ρ (.xl 2 (P.zu.map Y4))=.xl 2 (P.zu.map Y4):=by
 have h:=yb P
 simp only[yS,ze.cells,Pure,zb] at h
 exact⟨yM _ (by simpa only[Pure] using h.1),yM _ (by simpa only[Pure] using h.2.1)⟩
theorem zg4 (P:ze) (tok:Int) (st:Nat) (marks:List (List Int)) (yR:List qC) (next:List (List zO)) (last:qC) :
  [zf.row true [.xl 2 (P.nodes.map vU),.xl 2 (P.zu.map Y4)]]++((qP P tok st marks yR next last).map (zf.yG λi=>[zf.row true [.xl 2 (P.nodes.map vU),.xl 2 (P.zu.map Y4)]].length+i)++[])=Yw P tok st marks yR next last:=by
 have h1:=λρ=>(QP (ρ:=ρ) P).1
 have h2:=λρ=>(QP (ρ:=ρ) P).2
 have h3:=λρ=>yA (ρ:=ρ) _ (XT marks)
 have h4:=λρ=>yA (ρ:=ρ) _ (YH yR)
 have h5:=λρ=>yA (ρ:=ρ) _ (Zb next)
 simp only[qP,Yw,zdG,zka,List.map_cons,List.map_nil,zf.yG,yE,h1,h2,h3,h4,h5,List.append_nil,List.length_cons,List.length_nil,List.cons_append,List.nil_append]
 simp only[D.yG]
theorem zh3 {P:ze} {tok:Int} {st:Nat} {marks:List (List Int)} {yR:List qC} {next:List (List zO)} {last:qC}:∀o∈Yw P tok st marks yR next last,o.under 6:=by
 intro o ho
 simp only[Yw,List.mem_cons,List.not_mem_nil,or_false] at ho
 rcases ho with rfl|rfl|rfl|rfl|rfl|rfl<;>simp[zf.under,zka,zl,zt]
theorem zwB {ρ:Nat→Nat} (l:List (Int × Int)) (v:Value):D.yG ρ (.yP [vo l,.sc v])=.yP [vo l,.sc v]:=by
 simp only[D.yG,yE,yM _ (vv l)]
theorem zwW {ρ:Nat→Nat} (u v:Value):D.yG ρ (.yP [.sc u,.sc v])=.yP [.sc u,.sc v]:=by
 simp only[D.yG,yE]
theorem zgA {P:ze} {f:FuncId} {tok:Int} {st:Nat} {marks marks':List (List Int)} {yR org':List qC} {next:List (List zO)} {last last':qC} {args args':List D} {d d':D}
  (hA:yr Tryz.prog f args (qP P tok st marks yR next last) d (qP P tok st marks' org' next last')) (hu:zl 5 args) (e1:yE (λi=>1+i) args=args') (e2:D.yG (λi=>1+i) d=d') :
  yr Tryz.prog f args' (Yw P tok st marks yR next last) d' (Yw P tok st marks' org' next last') :=
 vI hA [.row true [.xl 2 (P.nodes.map vU),.xl 2 (P.zu.map Y4)]] [] rfl hu U2 e1 e2 (zg4 ..) (zg4 ..)
def zCE:PC:=.seq (.seq (OP [qm 62 15,qm 63 10,q 64 (.zq 63),Fa 65 4 64,Fa 66 0 65,Lo 67 66,Ln 68 67,Bi 69 .lss 62 68]) (.cond 69 .skip (.exit 0))) (.seq (.block 1 (.seq (OP [qm 73 10,qm 74 15,Ca 75 108 [73,74],qm 72 75,Xt 76 0 72,Xt 77 1 72,qm 16 76,qm 17 77]) (.seq (.seq (OP [qm 78 17,Bi 79 .neq 78 (cI 0)]) (.cond 79 (.seq (OP [qm 80 10,qm 81 17,qm 6 80,qm 7 81]) .ret) .skip)) (OP [qm 82 10,qm 83 10,q 84 (.zq 83),Fa 85 4 84,Fa 86 1 85,Lo 87 86,qm 88 16,Bs 89 1 1 [88],Ap 90 1 24 87 89,q 91 (.zq 82),Fa 92 4 91,Fa 93 1 92,So 1 93 90])))) (OP [qm 70 15,Bi 71 .add 70 (cI 1),qm 15 71]))
def c55:PC:=.seq (OP [Bx 3 0,q 6 (.move (.const (.pointer none))),Mv 7 (cI 0)]) (.seq (.seq (OP [LA 19 2 3,Ca 20 31 [19],qm 18 20,Xt 21 0 18,Xt 22 1 18,qm 8 21,qm 9 22]) (.seq (OP [qm 23 9,Bi 24 .neq 23 (cI 0)]) (.cond 24 (.seq (OP [qm 25 9,q 6 (.move (.const (.pointer none))),qm 7 25]) .ret) .skip))) (.seq (.seq (OP [qm 26 1,Bi 27 .lss 26 (cI 1),qm 28 27,GF 29 28 (.move 1),GF 30 28 (.bin .gtr 29 (cI 9)),Pk 31 28 cT 30,qm 32 31,GF 33 32 (.move 2),GF 34 32 (.bin .lss 33 (cI 1)),Pk 35 32 cT 34,qm 36 35,GF 37 36 (.move 2),GF 38 36 (.bin .gtr 37 (cI 200)),Pk 39 36 cT 38]) (.cond 39 (.seq (OP [q 6 (.move (.const (.pointer none))),Mv 7 (cI 1)]) .ret) .skip)) (.seq (OP [LA 40 2 3,qm 41 1,qm 42 2,q 43 (.zhk 240),q 44 (.build [(.slice none 0 0),(.slice none 0 0),(.int .i64 0),(.int .i64 0),(.slice none 0 0),(.slice none 0 0),(.map none),(.slice none 0 0),(.int .i64 0),(.int .i64 0)] [(0,2,40),(2,1,41),(3,1,42),(6,1,43)]),Bx 45 44,qm 10 45]) (.seq (OP [LA 47 2 3,Ca 48 106 [47],qm 46 48,Xt 49 0 46,Xt 50 1 46,qm 11 49,qm 12 50]) (.seq (.seq (.stop (OP [qm 52 10,qm 53 11,q 54 (.build [(.int .i64 0),(.int .i64 0)] [(0,1,(cI (-1))),(1,1,(cI (-1)))]),Ca 55 107 [52,53,54],qm 51 55,Xt 56 0 51,Xt 57 1 51,qm 13 56,qm 14 57])) (.seq (OP [qm 58 14,Bi 59 .neq 58 (cI 0)]) (.cond 59 (.seq (OP [qm 60 10,qm 61 14,qm 6 60,qm 7 61]) .ret) .skip))) (.seq (.seq (OP [Mv 15 (cI 0)]) (.block 0 (.loop zCE))) (.seq (OP [qm 94 10,qm 6 94,Mv 7 (cI 0)]) .ret)))))))
theorem zlF:zv Tryz.prog 55 95 [.tmp 6,.tmp 7] c55:=fK Tryz.func55
theorem zfT (P:ze) (hP:P.Fits) (h1:P.yH≠0) (tok st:Int):yr Tryz.prog 55 [yS P,.sc (.int .i64 tok),.sc (.int .i64 st)] [] (.yP [.sc (.pointer none),.sc (.int .i64 P.yH)]) []:=by
 refine zS zlF zs zs ?_ (by simp[zt,zl]) zs
 unfold yS ze.cells
 refine sR ?_
 refine sC (W1 P hP) ?_
 refine sS (λh2=>?_) λh2=>?_
 ·exact Nat.zero_le _
 ·exfalso;exact sO
theorem zfF (P:ze) (hP:P.Fits) (h1:P.yH=0) (tok st:Int) (hb:tok<1∨9<tok∨st<1∨200<st):yr Tryz.prog 55 [yS P,.sc (.int .i64 tok),.sc (.int .i64 st)] [] (.yP [.sc (.pointer none),.sc (.int .i64 1)]) []:=by
 refine zS zlF zs zs ?_ (by simp[zt,zl]) zs
 unfold yS ze.cells
 refine sR ?_
 refine sC (W1 P hP) ?_
 refine sS (λh2=>?_) λh2=>?_
 ·exfalso;exact sO
 refine sS (λh3=>?_) λh3=>?_
 ·refine sW ?_
  exact Nat.zero_le _
 refine sS (λh4=>?_) λh4=>?_
 ·refine sW ?_
  exact Nat.zero_le _
 refine sS (λh5=>?_) λh5=>?_
 ·refine sW ?_
  exact Nat.zero_le _
 refine sS (λh6=>?_) λh6=>?_
 ·exact Nat.zero_le _
 ·exfalso;exact sO
theorem zp7 (P:ze) (hP:P.Fits) (h1:P.yH=0) (tok:Int) (ht:1≤tok) (ht':tok≤9) (st:Nat) (hs:1≤st) (hs':st≤200) :
  yr Tryz.prog 55 [yS P,.sc (.int .i64 tok),.sc (.int .i64 st)] [] (.yP [.loc 2 0,.sc (.int .i64 (P.QX tok st).e)]) (Yw P tok st (P.QX tok st).marks (P.QX tok st).yR (P.QX tok st).next (P.QX tok st).last):=by
 obtain⟨h0,_,h60⟩:=ze.xq h1
 have h30:=(xi h0).2
 refine zS zlF zs zs ?_ (by simp[zt,zl,Yw]) zh3
 have hB:=ze.zla h1
 obtain⟨p1,p2,p3⟩:=ze.zqp h1 ht hs
 unfold yS ze.cells
 refine sR ?_
 refine sC (W1 P hP) ?_
 refine sS (λh2=>?_) λh2=>?_
 ·exfalso;exact sO
 refine sS (λh3=>?_) λh3=>?_
 ·exfalso;exact sO
 refine sS (λh4=>?_) λh4=>?_
 ·exfalso;exact sO
 refine sS (λh5=>?_) λh5=>?_
 ·exfalso;exact sO
 refine sS (λh6=>?_) λh6=>?_
 ·exfalso;exact sO
 refine sC (zl5 P hP) ?_
 refine zH (yZ 2 4 1 zs rfl rfl) ?_
 refine zH (yZ 2 7 2 zs rfl rfl) ?_
 refine zH (yZ 2 5 1 zs rfl rfl) ?_
 refine sR ?_
 refine sA (zgA (zcA P tok st hs' [] [] [] (0,0) (ze.Sp.nil P tok st) h30 P.x0 hB (-1,-1)) (by simp[zl,zt,VS]) (by simp only[yE,D.yG,VS,yM _ (zj _)]) (zwW _ _)) ?_
 rw[p1,p2,p3]
 refine sW ?_
 have eF:P.QX tok st=P.Z5 tok st 201 0 [P.x0] [(-1,-1)] [] (-1,-1):=rfl
 generalize P.QX tok st=F at eF
 refine ye [10] (λ((mk,og,nx,la,n):List (List Int) × List qC × List (List zO) × qC × Nat)=>[(15,.sc (.int .i64 n))]) (λ(mk,og,nx,la,n)=>Yw P tok st mk og nx la)
  (λ(mk,og,nx,la,n)=>n≤mk.length∧ze.Sp P tok st mk og∧nx.length=n∧P.Z5 tok st (201-n) n mk og nx la=F) (λ(mk,og,nx,la,n)=>201-n) ([P.x0],[(-1,-1)],[],(-1,-1),0) ?_
 refine sW ?_
 refine⟨⟨zs,ze.Sp.start h1 hs,rfl,eF.symm⟩,by exact sK,rfl,?_⟩
 rintro⟨mk,og,nx,la,n⟩ ⟨hn,hS,hnx,hF⟩
 have hr:=hS.room
 obtain⟨f,ef⟩:∃f,201-n=f+1:=⟨200-n,zo⟩
 rw[ef] at hF
 simp only[ze.Z5] at hF
 unfold Yw zka
 refine sW ?_
 refine sR ?_
 refine sS (λh7=>?_) λh7=>?_
 ·have hn':n<mk.length:=sO
  rw[if_pos hn'] at hF
  have hok:=ze.QF (tok:=tok) (st:=st) (n:=n) (hS.vZ _ (ze.XI hn')) (P.Yh (mk.getD n [])) mk og [] la (λ_ h=>h) hS hn'
  refine sA (zgA (zk8 P hP h1 tok st hs' mk og nx la hS n hn') (by simp[zl,zt]) (by simp only[yE,D.yG]) (zwB _ _)) ?_
  generalize P.yT tok st n (mk.getD n []) (P.Yh (mk.getD n [])) mk og [] la=R at hF hok
  refine sS (λh8=>?_) λh8=>?_
  ·have h8:R.e≠0:=sO
   rw[if_pos h8] at hF
   rw[←hF]
   exact⟨rfl,rfl,Nat.le_refl _⟩
  ·have h8:R.e=0:=sO
   rw[if_neg λq=>q h8] at hF
   have hcur:zj0 R=R.cur:=if_pos h8
   rw[hcur]
   refine sJ ?_
   refine sI ?_
   refine⟨(R.marks,R.yR,nx++[R.cur],R.last,n+1),⟨zo,hok.1,by simp[hnx],by rw[show 201-(n+1)=f by omega];exact hF⟩,zd,?_⟩
   dsimp only
   rw[show(nx++[R.cur]).length=nx.length+1 by simp]
   refine zm 6 zs rfl sQ (sU ?_)
   exact zp (zlM rfl)
 ·have hn':¬n<mk.length:=sO
  rw[if_neg hn'] at hF
  rw[←hF]
  exact⟨rfl,rfl,Nat.le_refl _⟩
end
section
open Go.RowKit
namespace ze
theorem zb3 {P:ze} {tok:Int} {st n:Nat} {M:List Int}:∀(L:List Int) (marks:List (List Int)) (yR:List qC) (cur:List zO) (last:qC),last.1=(n:Int)∨L≠[]∨last.1=-1 →
  (P.yT tok st n M L marks yR cur last).last.1=(n:Int)∨(P.yT tok st n M L marks yR cur last).last=last
 | [],marks,yR,cur,last,_=>.inr rfl
 | k::r,marks,yR,cur,last,_=>by
  rw[YY]
  split
  ·exact .inl rfl
  ·split
   ·exact .inl rfl
   ·rcases zb3 r (ZB marks (P.wy M k) tok st) (WE marks yR (P.wy M k) tok st ((n:Int),k)) (cur++[(k,Vd marks (P.wy M k) tok st)]) ((n:Int),k) (.inl rfl) with h|h
    ·exact .inl h
    ·rw[h];exact .inl rfl
theorem zm6 {P:ze} {tok:Int} {st:Nat}:∀(f n:Nat) (marks:List (List Int)) (yR:List qC) (next:List (List zO)) (last:qC),Sp P tok st marks yR→last.1<(marks.length:Int) →
  Sp P tok st (P.Z5 tok st f n marks yR next last).marks (P.Z5 tok st f n marks yR next last).yR∧(P.Z5 tok st f n marks yR next last).last.1<((P.Z5 tok st f n marks yR next last).marks.length:Int)
 | 0,n,marks,yR,next,last,hS,hl=>⟨hS,hl⟩
 | f+1,n,marks,yR,next,last,hS,hl=>by
  simp only[Z5]
  split
  ·rename_i hn
   obtain⟨g1,g2,_⟩:=QF (tok:=tok) (st:=st) (n:=n) (hS.vZ _ (XI hn)) (P.Yh (marks.getD n [])) marks yR [] last (λ_ h=>h) hS hn
   have g3:(P.yT tok st n (marks.getD n []) (P.Yh (marks.getD n [])) marks yR [] last).last.1=(n:Int)∨(P.yT tok st n (marks.getD n []) (P.Yh (marks.getD n [])) marks yR [] last).last=last:=by
    generalize P.Yh (marks.getD n [])=L
    cases L with
    | nil=>exact .inr rfl
    | cons k r=>exact zb3 _ _ _ _ _ (.inr (.inl zs))
   generalize P.yT tok st n (marks.getD n []) (P.Yh (marks.getD n [])) marks yR [] last=R at g1 g2 g3
   have g4:R.last.1<(R.marks.length:Int):=by
    rcases g3 with g3|g3
    ·omega
    ·rw[g3];omega
   split
   ·exact⟨g1,g4⟩
   ·exact zm6 f (n+1) _ _ _ _ g1 g4
  ·exact⟨hS,hl⟩
theorem zAK {P:ze} (h:P.yH=0) {tok:Int} {st:Nat} (hs:1≤st):Sp P tok st (P.QX tok st).marks (P.QX tok st).yR∧(P.QX tok st).last.1<((P.QX tok st).marks.length:Int) :=
 zm6 _ _ _ _ _ _ (Sp.start h hs) zs
def zeJ (tok st:Int):Prop:=tok<1∨9<tok∨st<1∨200<st
instance (tok st:Int):Decidable (zeJ tok st):=by unfold zeJ;infer_instance
noncomputable def VX (P:ze) (tok st:Int):Int:=if P.yH≠0 then P.yH else if zeJ tok st then 1 else (P.QX tok st.toNat).e
noncomputable def exM (P:ze) (tok st:Int):List (List Int):=if P.VX tok st=0 then (P.QX tok st.toNat).marks else []
noncomputable def Z2 (P:ze) (tok st:Int):List (List zO):=if P.VX tok st=0 then (P.QX tok st.toNat).next else []
end ze
end
section
open Go.RowKit
theorem zp1 (l:List Int):yJ (zI l):=by simp[zI,zb,Pure]
theorem zjE {ρ:Nat→Nat} (l:List Int):ue ρ (zI l)=zI l:=yA _ (zp1 l)
def zln (M:List (List Int)) (N:List (List zO)):D:=.agg [yd M,.xl 1 (uy N)]
theorem zi0 (M:List (List Int)) (N:List (List zO)):Pure (zln M N):=by simp[zln,Pure,zb,yf,Zb]
theorem zlj {H:List zf} {id v n:Nat} {q:Bool} {L:List (List zO)} (hn:n=L.length) (h:H[id]? = some (.vec q v 1 (uy L))):Deep H (.own id v 0 n) (.xl 1 (uy L)):=by
 subst hn
 exact .own _ _ _ _ _ _ _ _ h (by rw[zw zs];exact z8 _)
def zx6 (b:Nat) (P:ze) (tok:Int) (st n no nn:Nat) (last:qC):List D:=[.xl 2 (P.nodes.map vU),.xl 2 (P.zu.map Y4),.sc (.int .i64 tok),.sc (.int .i64 st),.own (b+2) n 0 n,.own (b+4) nn 0 nn,.mp b,.own (b+3) no 0 no,.sc (.int .i64 last.1),.sc (.int .i64 last.2)]
noncomputable def zlG (b:Nat) (P:ze) (tok:Int) (st:Nat) (marks:List (List Int)) (yR:List qC) (next:List (List zO)) (last:qC):List zf :=
 [.row true [.xl 2 (P.nodes.map vU),.xl 2 (P.zu.map Y4)],.wg true (uQ Tryz.prog 240 (fM marks)),.row true (zx6 b P tok st marks.length yR.length next.length last),.vec true marks.length 1 (ux marks),.vec true yR.length 2 (wC yR),.vec true next.length 1 (uy next)]
theorem zmA (b:Nat) (P:ze) (tok:Int) (st:Nat) (marks:List (List Int)) (yR:List qC) (next:List (List zO)) (last:qC) :
  (Yw P tok st marks yR next last).map (zf.yG λi=>[b,b+1,b+2,b+3,b+4,b+5].getD i 0)=zlG (b+1) P tok st marks yR next last:=by
 have h1:=λρ=>(QP (ρ:=ρ) P).1
 have h2:=λρ=>(QP (ρ:=ρ) P).2
 have h3:=λρ=>yA (ρ:=ρ) _ (XT marks)
 have h4:=λρ=>yA (ρ:=ρ) _ (YH yR)
 have h5:=λρ=>yA (ρ:=ρ) _ (Zb next)
 simp only[zlG,Yw,zx6,zka,List.map_cons,List.map_nil,zf.yG,yE,h1,h2,h3,h4,h5]
 simp only[D.yG]
 rfl
theorem zli {P:ze} {tok:Int} {st:Nat} {marks:List (List Int)} {yR:List qC} {next:List (List zO)} {last:qC} {args:List D} {e:Int} (hA:yr Tryz.prog 55 args [] (.yP [.loc 2 0,.sc (.int .i64 e)]) (Yw P tok st marks yR next last)) (hp:zb args)
  {H:List zf} {b:Nat} (hb:H.length=b):qs Tryz.prog 55 args H (.yP [.loc (b+2) 0,.sc (.int .i64 e)]) (H++zlG (b+1) P tok st marks yR next last) [b,b+1,b+2,b+3,b+4,b+5] :=
 xo hA hp _ (by rw[hb];rfl) (by simp only[D.yG,yE];rfl) (by rw[zmA])
theorem zdn {args:List D} {e:Int} (hA:yr Tryz.prog 55 args [] (.yP [.sc (.pointer none),.sc (.int .i64 e)]) []) (hp:zb args)
  {H:List zf}:qs Tryz.prog 55 args H (.yP [.sc (.pointer none),.sc (.int .i64 e)]) H [] :=
 xo hA hp [] rfl (by simp only[D.yG,yE]) zs
def c30:PC:=.seq (OP [Bx 3 0,q 6 (.alloc [(.slice none 0 0),(.slice none 0 0)]),Mv 7 (cI 0)]) (.seq (OP [LA 11 2 3,qm 12 1,qm 13 2,Ca 14 55 [11,12,13],qm 10 14,Xt 15 0 10,Xt 16 1 10,qm 8 15,qm 9 16]) (.seq (.seq (OP [qm 17 9,Bi 18 .neq 17 (cI 0)]) (.cond 18 (.seq (OP [q 19 (.build [(.slice none 0 0),(.slice none 0 0)] []),qm 20 9,So 2 6 19,qm 7 20]) .ret) .skip)) (.seq (OP [qm 21 8,q 22 (.zq 21),Fa 23 4 22,LA 24 2 23,So 2 6 24,Mv 7 (cI 0)]) .ret)))
theorem zz7:zv Tryz.prog 30 25 [.agg 6 2,.tmp 7] c30:=fK Tryz.func30
theorem Q7 (P:ze) (hP:P.Fits) (tok st:Int):zn Tryz.prog 30 [yS P,.sc (.int .i64 tok),.sc (.int .i64 st)] (.yP [zln (P.exM tok st) (P.Z2 tok st),.sc (.int .i64 (P.VX tok st))]):=by
 refine za zz7 zs (by simp[zb,Pure,yb]) ?_ (by simp[Pure,zb,zi0])
 have hpa:zb [yS P,.sc (.int .i64 tok),.sc (.int .i64 st)]:=by simp[zb,Pure,yb]
 unfold yS ze.cells
 refine sR ?_
 have bad:∀e,e≠0→P.VX tok st=e→P.exM tok st=[]∧P.Z2 tok st=[]:=λe h1 h2=>by
  unfold ze.exM ze.Z2
  rw[h2,if_neg h1,if_neg h1]
  exact⟨rfl,rfl⟩
 by_cases h1:P.yH=0
 ·by_cases h2:ze.zeJ tok st
  ·have e1:P.VX tok st=1:=by unfold ze.VX;rw[if_neg zo,if_pos h2]
   obtain⟨eM,eN⟩:=bad 1 zc e1
   refine sE (zdn (zfF P hP h1 tok st h2) hpa) ?_
   rw[eM,eN,e1]
   exact .yP _ _ (.cons _ _ _ _ (.agg _ _ (.cons _ _ _ _ (.none _) (.cons _ _ _ _ (.none _) .nil))) (xy _))
  ·have h2':=h2
   unfold ze.zeJ at h2'
   obtain⟨s,rfl⟩:∃s:Nat,st=s:=⟨st.toNat,zo⟩
   have e1:P.VX tok s=(P.QX tok s).e:=by unfold ze.VX;rw[if_neg zo,if_neg h2,Int.toNat_natCast]
   have hA:=zli (zp7 P hP h1 tok zo zo s zo zo) hpa (H:=[.row true [.xl 2 (P.nodes.map vU),.xl 2 (P.zu.map Y4)],.row true [.sc (.slice none 0 0),.sc (.slice none 0 0)]]) (b:=2) rfl
   refine sE (hA) ?_
   refine sS (λh3=>?_) λh3=>?_
   ·have h3:P.VX tok s≠0:=by rw[e1];exact sO
    obtain⟨eM,eN⟩:=bad _ h3 rfl
    rw[eM,eN,e1]
    exact .yP _ _ (.cons _ _ _ _ (.agg _ _ (.cons _ _ _ _ (.none _) (.cons _ _ _ _ (.none _) .nil))) (xy _))
   ·have h3:P.VX tok s=0:=by rw[e1];exact sO
    unfold ze.exM ze.Z2
    rw[if_pos h3,if_pos h3,h3,Int.toNat_natCast]
    exact .yP _ _ (.cons _ _ _ _ (.agg _ _ (.cons _ _ _ _ (zmN rfl rfl) (.cons _ _ _ _ (zlj rfl rfl) .nil))) (xy _))
 ·have e1:P.VX tok st=P.yH:=by unfold ze.VX;rw[if_pos h1]
  obtain⟨eM,eN⟩:=bad _ h1 e1
  refine sE (zdn (zfT P hP h1 tok st) hpa) ?_
  have hb:(P.yH != 0)=true:=by simp[h1]
  rw[hb]
  refine sW ?_
  rw[eM,eN,e1]
  exact .yP _ _ (.cons _ _ _ _ (.agg _ _ (.cons _ _ _ _ (.none _) (.cons _ _ _ _ (.none _) .nil))) (xy _))
end
end
section
def QZ (N:List (List zO)) (m:Nat):List zO:=if (N.getD m []).length=0 then [(-1,(m:Int))] else (N.getD m []).map λx=>(x.1,(m:Int))
def zbb (N:List (List zO)) (m:Nat):List Int:=if (N.getD m []).length=0 then [(m:Int)] else (N.getD m []).map λx=>x.2
def wL (N:List (List zO)):Nat→List zO
 | 0=>[]
 | m+1=>wL N m++QZ N m
def ziw (N:List (List zO)):Nat→List Int
 | 0=>[]
 | m+1=>ziw N m++zbb N m
def xY (N:List (List zO)) (m:Nat):Nat:=(wL N m).length
def wW (N:List (List zO)) (m:Nat):Nat:=(QZ N m).length
theorem zrq (N:List (List zO)) (m:Nat):1≤wW N m:=by
 unfold wW QZ
 split
 ·simp
 ·rename_i h;simp only[List.length_map];omega
theorem qU (N:List (List zO)) (m:Nat):wW N m=if (N.getD m []).length=0 then 1 else (N.getD m []).length:=by
 unfold wW QZ
 split<;>simp
theorem zA4 (N:List (List zO)) (m:Nat):(zbb N m).length=wW N m:=by
 rw[qU]
 unfold zbb
 split<;>simp
theorem qi (N:List (List zO)) (m:Nat):xY N (m+1)=xY N m+wW N m:=by simp[xY,wW,wL]
theorem Uw (N:List (List zO)):∀m,(ziw N m).length=xY N m
 | 0=>rfl
 | m+1=>by rw[qi];simp only[ziw,List.length_append,zA4,Uw N m]
theorem Wp {N:List (List zO)} {m n:Nat} (h:m≤n):xY N m≤xY N n:=by
 induction n with
 | zero=>rw[show m=0 by omega];exact Nat.le_refl _
 | succ n ih =>
  by_cases e:m=n+1
  ·subst e;exact Nat.le_refl _
  ·rw[qi];have:=ih zo;omega
theorem zfU {α:Type} {l r:List α} {a:Nat} {d:α} (h:a<l.length):(l++r).getD a d=l.getD a d:=by
 rw[List.getD_eq_getElem?_getD,List.getD_eq_getElem?_getD,List.getElem?_append_left h]
theorem zf2 {α:Type} {l r:List α} {a k:Nat} {d:α} (h:a=l.length+k):(l++r).getD a d=r.getD k d:=by
 subst h
 rw[List.getD_eq_getElem?_getD,List.getD_eq_getElem?_getD,List.getElem?_append_right zo,Nat.add_sub_cancel_left]
theorem zaw {N:List (List zO)} {m k:Nat} (hk:k<wW N m):∀n,m<n→(wL N n).getD (xY N m+k) (0,0)=(QZ N m).getD k (0,0)
 | 0,h=>zo
 | n+1,h=>by
  simp only[wL]
  by_cases e:m=n
  ·subst e
   exact zf2 rfl
  ·have h1:=Wp (N:=N) (show m+1≤n by omega)
   rw[qi] at h1
   rw[zfU (show xY N m+k<(wL N n).length by unfold xY at h1 ⊢;omega),zaw hk n zo]
theorem zog {N:List (List zO)} {m k:Nat} (hk:k<wW N m):∀n,m<n→(ziw N n).getD (xY N m+k) 0=(zbb N m).getD k 0
 | 0,h=>zo
 | n+1,h=>by
  simp only[ziw]
  by_cases e:m=n
  ·subst e
   exact zf2 (by rw[Uw])
  ·have h1:=Wp (N:=N) (show m+1≤n by omega)
   rw[qi] at h1
   rw[zfU (by rw[Uw];omega),zog hk n zo]
theorem zvP {N:List (List zO)} {m k:Nat} (hk:k<wW N m):((QZ N m).getD k (0,0)).2=(m:Int):=by
 rw[qU] at hk
 unfold QZ
 split
 ·rename_i h
  rw[if_pos h] at hk
  rw[show k=0 by omega]
  rfl
 ·rename_i h
  rw[if_neg h] at hk
  rw[List.getD_eq_getElem?_getD,List.getElem?_map,List.getElem?_eq_getElem hk]
  rfl
theorem zeS {N:List (List zO)}:∀{n i:Nat},i<xY N n→∃m k,m<n∧k<wW N m∧i=xY N m+k
 | 0,i,h=>by simp[xY,wL] at h
 | n+1,i,h=>by
  rw[qi] at h
  by_cases q:i<xY N n
  ·obtain⟨m,k,h1,h2,h3⟩:=zeS q
   exact⟨m,k,zo,h2,h3⟩
  ·exact⟨n,i-xY N n,zo,zo,zo⟩
def Xl (N:List (List zO)) (t:Nat):List Int:=(List.range (wW N t)).map λ(i:Nat)=>((xY N t+i:Nat):Int)
theorem zum {N:List (List zO)} {m:Nat} (h:(N.getD m []).length=0):Xl N m=[(xY N m:Int)]:=by
 unfold Xl
 rw[qU,if_pos h]
 rfl
theorem U8 (N:List (List zO)) (t:Nat):(Xl N t).length=wW N t:=by simp[Xl]
def zyw (N:List (List zO)) (m:Nat) (k:Int):Bool:=(N.getD m []).any λy=>y.1==k
def Ze (N:List (List zO)) (of:List zO) (s:Int):Nat→List Int
 | 0=>[]
 | i+1=>if zyw N (of.getD i (0,0)).2.toNat s=false∨(of.getD i (0,0)).1=s then Ze N of s i++[(i:Int)] else Ze N of s i
theorem zeW (N:List (List zO)) (of:List zO) (s:Int):∀i,(Ze N of s i).length≤i
 | 0=>by simp[Ze]
 | i+1=>by
  simp only[Ze]
  have:=zeW N of s i
  split<;>simp<;>omega
end
section
section
open Go.RowKit
end
section
open Go.RowKit
theorem zvA {L:List (List zO)} {z k:Nat} (hz:z=k) (h:k<L.length):(uy L)[z]? = some [vo L[k]]:=by
 subst hz
 unfold uy
 rw[List.getElem?_map,List.getElem?_eq_getElem h]
 rfl
namespace ze
theorem Jd {P:ze} {tok:Int} {st n:Nat} {M:List Int}:∀(L:List Int) (marks:List (List Int)) (yR:List qC) (cur:List zO) (last:qC),(P.yT tok st n M L marks yR cur last).cur.length≤cur.length+L.length
 | [],_,_,_,_=>by simp[yT]
 | k::r,marks,yR,cur,last=>by
  rw[YY]
  split
  ·simp
  ·split
   ·simp
   ·have:=Jd (P:=P) (tok:=tok) (st:=st) (n:=n) (M:=M) r (ZB marks (P.wy M k) tok st) (WE marks yR (P.wy M k) tok st ((n:Int),k)) (cur++[(k,Vd marks (P.wy M k) tok st)]) ((n:Int),k)
    simp at this ⊢
    omega
theorem zgL {P:ze} {tok:Int} {st:Nat}:∀(f n:Nat) (marks:List (List Int)) (yR:List qC) (next:List (List zO)) (last:qC),(∀x∈next,x.length≤P.zJ.length) →
  (∀x∈(P.Z5 tok st f n marks yR next last).next,x.length≤P.zJ.length)∧(P.Z5 tok st f n marks yR next last).next.length≤next.length+f
 | 0,_,_,_,next,_,h=>⟨h,Nat.le_refl _⟩
 | f+1,n,marks,yR,next,last,h=>by
  simp only[Z5]
  split
  ·split
   ·exact⟨h,zs⟩
   ·have hl:=Jd (P:=P) (tok:=tok) (st:=st) (n:=n) (M:=marks.getD n []) (P.Yh (marks.getD n [])) marks yR [] last
    have he:=P.znR (marks.getD n [])
    generalize P.yT tok st n (marks.getD n []) (P.Yh (marks.getD n [])) marks yR [] last=R at hl
    obtain⟨g1,g2⟩:=zgL (P:=P) (tok:=tok) (st:=st) f (n+1) R.marks R.yR (next++[R.cur]) R.last λx hx=>by
     rcases List.mem_append.1 hx with hx|hx
     ·exact h x hx
     ·rw[List.mem_singleton] at hx;subst hx;exact Nat.le_trans hl (by rw[List.length_nil,Nat.zero_add];exact he)
    refine⟨g1,?_⟩
    rw[List.length_append,List.length_singleton] at g2
    omega
  ·exact⟨h,zs⟩
end ze
end
end
section
structure SpN (M:List (List Int)) (N:List (List zO)) (s:Nat):Prop where
 len:N.length=M.length
 pos:1≤M.length
 few:M.length≤200
 row:∀l∈N,l.length≤60
 edge:∀l∈N,∀x∈l,0≤x.1∧x.1<(s:Int)∧0≤x.2∧x.2<(M.length:Int)
 mark:∀m∈M,m.length≤30∧∀x∈m,0≤x
theorem SpN.rowAt {M:List (List Int)} {N:List (List zO)} {s:Nat} (h:SpN M N s) (i:Nat):(N.getD i []).length≤60:=by
 rw[List.getD_eq_getElem?_getD]
 cases e:N[i]? with
 | none=>simp
 | some l=>exact h.row l (List.mem_of_getElem? e)
theorem zqn {l:List zO} {k:Nat} (h:k<l.length):l.getD k (0,0)∈l:=by
 rw[List.getD_eq_getElem?_getD,List.getElem?_eq_getElem h];exact List.getElem_mem h
theorem SpN.zrT {M:List (List Int)} {N:List (List zO)} {s:Nat} (h:SpN M N s) {i k:Nat} (hk:k<(N.getD i []).length):0≤((N.getD i []).getD k (0,0)).1∧((N.getD i []).getD k (0,0)).1<(s:Int)∧0≤((N.getD i []).getD k (0,0)).2∧((N.getD i []).getD k (0,0)).2<(M.length:Int):=by
 have hm:=zqn hk
 have hi:N.getD i []∈N:=by
  rw[List.getD_eq_getElem?_getD] at hk ⊢
  cases e:N[i]? with
  | none=>rw[e] at hk;simp at hk
  | some l=>exact List.mem_of_getElem? e
 exact h.edge _ hi _ hm
end
section
open Go.RowKit
theorem ze9 {L:List (List zO)} {z k:Nat} (hz:z=k) (h:k<L.length):(uy L)[z]? = some [vo (L.getD k [])]:=by
 rw[zvA hz h,List.getD_eq_getElem?_getD,List.getElem?_eq_getElem h]
 rfl
def zl0 (M:List (List Int)) (N:List (List zO)):List D:=[yd M,.xl 1 (uy N)]
structure FndN (P:ze) (M:List (List Int)) (N:List (List zO)):Prop where
 sp:SpN M N P.zJ.length
 steps:P.yH=0
end
section
open Go.RowKit
def YO (N:List (List zO)) (m:Nat):List Int:=gl m λt=>(xY N t:Int)
def qJ (N:List (List zO)) (m:Nat):List Int:=gl m λt=>(wW N t:Int)
theorem zn0 (n:Nat) (g:Nat→Int):gl (n+1) g=gl n g++[g n]:=by simp[gl,List.range_succ]
def zfN (N:List (List zO)) (m k:Nat):List zO:=((N.getD m []).take k).map λx=>(x.1,(m:Int))
theorem zqG (N:List (List zO)) (m:Nat):zfN N m 0=[]:=by simp[zfN]
theorem zoU {N:List (List zO)} {m k:Nat} (h:k<(N.getD m []).length):zfN N m (k+1)=zfN N m k++[(((N.getD m []).getD k (0,0)).1,(m:Int))]:=by
 unfold zfN
 rw[List.take_add_one,List.getElem?_eq_getElem h,List.getD_eq_getElem?_getD (l:=N.getD m []),List.getElem?_eq_getElem h,List.map_append]
 rfl
theorem zs6 {N:List (List zO)} {m k:Nat} (h:k≤(N.getD m []).length):(zfN N m k).length=k:=by
 simp only[zfN,List.length_map,List.length_take];omega
theorem XV (N:List (List zO)) (m:Nat):(wL N m).length=xY N m:=rfl
theorem zoE (N:List (List zO)) (m:Nat):wL N (m+1)=if (N.getD m []).length=0 then wL N m++[(-1,(m:Int))] else wL N m++zfN N m (N.getD m []).length:=by
 simp only[wL,QZ,zfN,List.take_length]
 split<;>rfl
theorem zxY {N:List (List zO)} {c:Nat} (h:∀i,(N.getD i []).length≤c) (hc:1≤c):∀m,xY N m≤c*m
 | 0=>by simp[xY,wL]
 | m+1=>by
  rw[qi,qU,Nat.mul_succ]
  have:=zxY h hc m
  have:=h m
  split<;>omega
theorem UX {M:List (List Int)} {N:List (List zO)} {s:Nat} (h:SpN M N s) {m:Nat} (hm:m≤N.length):xY N m≤12000:=by
 have h1:=zxY (N:=N) (c:=60) h.rowAt zo m
 have:=h.few
 have:=h.len
 omega
theorem zdy {M:List (List Int)} {N:List (List zO)} {s:Nat} (h:SpN M N s) (m:Nat):wW N m≤60:=by
 rw[qU]
 have:=h.rowAt m
 split<;>omega
theorem zrM (N:List (List zO)) (m:Nat):max (1:Int) ((N.getD m []).length:Int)=(wW N m:Int):=by
 rw[qU]
 split<;>omega
def zfL (L:List yk) (M:List (List Int)) (N:List (List zO)) (o a y:D):List D :=
 [ZM L,yd M,.xl 1 (uy N),o,a,y,.sc (.slice none 0 0),.sc (.slice none 0 0),.sc (.slice none 0 0),.sc (.slice none 0 0)]
def zCg:PC:=.seq (OP [Bi 35 .lss 34 33]) (.seq (.cond 35 .skip (.exit 2)) (.seq (.block 3 (.seq (OP [Ia 36 2 32 34,LA 37 2 36,q 6 (.alloc [(.int .i64 0),(.int .i64 0)]),So 2 6 37]) (.ops [qm 38 0,qm 39 0,qd 40 (.zq 39) 2,qd 41 (.zy 3 40) 6,qd 42 (.zg 41) 14,Fa 43 0 6,qd 44 (.zg 43) 32,qm 45 3,qd 46 (.build [(.int .i64 0),(.int .i64 0)] [(0,1,44),(1,1,45)]) 224,qd 47 (.wz 2 1 [46]) 480,qd 48 (.append 2 16 42 47) 1022,qd 49 (.zq 38) 2047,qd 50 (.zy 3 49) 4095,qk (.store 1 50 48) 8191] true))) (OP [Bi 51 .add 34 (cI 1),qm 34 51])))
def zCi:PC:=.seq (OP [Bi 14 .lss 13 12]) (.seq (.cond 14 .skip (.exit 0)) (.seq (.block 1 (.seq (OP [qm 15 13,Ia 16 1 11 13,Lo 17 16,qm 3 15,qm 4 17]) (.seq (.ops [qm 18 0,qm 19 0,qd 20 (.zq 19) 2,qd 21 (.zy 4 20) 6,qd 22 (.zg 21) 14,qm 23 0,qd 24 (.zq 23) 32,qd 25 (.zy 3 24) 96,qd 26 (.zg 25) 224,qd 27 (.len 26) 480,qd 28 (.wz 1 1 [27]) 992,qd 29 (.append 1 8 22 28) 2046,qd 30 (.zq 18) 4095,qd 31 (.zy 4 30) 8191,qk (.store 1 31 29) 16383] true) (.seq (.seq (OP [qm 32 4,Ln 33 32,Mv 34 (cI 0)]) (.block 2 (.loop zCg))) (.seq (.seq (OP [qm 52 4,Ln 53 52,Bi 54 .eql 53 (cI 0)]) (.cond 54 (OP [qm 55 0,qm 56 0,q 57 (.zq 56),Fa 58 3 57,Lo 59 58,qm 60 3,q 61 (.build [(.int .i64 0),(.int .i64 0)] [(0,1,(cI (-1))),(1,1,60)]),Bs 62 2 1 [61],Ap 63 2 16 59 62,q 64 (.zq 55),Fa 65 3 64,So 1 65 63]) .skip)) (OP [qm 66 0,qm 67 0,q 68 (.zq 67),Fa 69 5 68,Lo 70 69,qm 71 4,Ln 72 71,q 73 (.mx true (cI 1) 72),Bs 74 1 1 [73],Ap 75 1 8 70 74,q 76 (.zq 66),Fa 77 5 76,So 1 77 75])))))) (OP [Bi 78 .add 13 (cI 1),qm 13 78])))
def c32:PC:=.seq (OP [Mv 2 cF]) (.seq (.seq (OP [qm 7 0,q 8 (.zq 7),Fa 9 1 8,Fa 10 1 9,Lo 11 10,Ln 12 11,Mv 13 (cI 0)]) (.block 0 (.loop zCi))) (.seq (OP [qm 79 0,q 80 (.zq 79),Fa 81 3 80,Lo 82 81,Ln 83 82,Bi 84 .leq 83 (cI 600),qm 2 84]) .ret))
theorem zzO:zv Tryz.prog 32 85 [.tmp 2] c32:=fK Tryz.func32
theorem zjz (L:List yk) (M:List (List Int)) (N:List (List zO)) (s:Nat) (hS:SpN M N s) :
  yr Tryz.prog 32 [.loc 0 0] [.row true (zfL L M N (.sc (.slice none 0 0)) (.sc (.slice none 0 0)) (.sc (.slice none 0 0)))] (.sc (.bool (decide ((xY N N.length:Int)≤600))))
   [.row true (zfL L M N (.own 1 (xY N N.length) 0 (xY N N.length)) (.own 2 N.length 0 N.length) (.own 3 N.length 0 N.length)),.vec true (xY N N.length) 2 (wC (wL N N.length)),.vec true N.length 1 (zI (YO N N.length)),.vec true N.length 1 (zI (qJ N N.length))]:=by
 have hf:=hS.few
 have hl:=hS.len
 refine zS zzO zs zs ?_ (by simp[zt]) (by simp[zf.under,zfL,zl,zt])
 unfold zfL
 refine sR ?_
 rw[zpy]
 refine zH (wZ (yZ 0 3 2 zs rfl rfl) (wZ (yZ 0 4 1 zs rfl rfl) (yZ 0 5 1 zs rfl rfl))) ?_
 refine ye [0,11,12] (λ((m,a):Nat × Nat)=>[(13,.sc (.int .i64 m))])
  (λ(m,a)=>[.row true [ZM L,yd M,.xl 1 (uy N),.own 1 a 0 a,.own 2 m 0 m,.own 3 m 0 m,.sc (.slice none 0 0),.sc (.slice none 0 0),.sc (.slice none 0 0),.sc (.slice none 0 0)],.vec true a 2 (wC (wL N m)),.vec true m 1 (zI (YO N m)),.vec true m 1 (zI (qJ N m))])
  (λ(m,a)=>m≤N.length∧a=xY N m) (λ(m,a)=>N.length-m) (0,0) ?_
 refine sW ?_
 refine⟨⟨zo,rfl⟩,by exact sK,rfl,?_⟩
 rintro⟨m,a⟩ ⟨hm,ha⟩
 have haS:=UX hS hm
 refine sW ?_
 refine sR ?_
 refine sS (λh1=>?_) λh1=>?_
 ·have hm':m<N.length:=sO
  have lx:=hS.rowAt m
  have la1:YO N (m+1)=YO N m++[(xY N m:Int)]:=zn0 _ _
  have la2:qJ N (m+1)=qJ N m++[(wW N m:Int)]:=zn0 _ _
  have e1:=zoE N m
  have e2:=qi N m
  have e3:=qU N m
  have e4:=zrM N m
  have xR:=λk (hk:k<(N.getD m []).length)=>zoU hk
  have hinl:=λk (hk:k≤(N.getD m []).length)=>zs6 hk
  have l1:(YO N m).length=m:=by simp[YO]
  have l2:(qJ N m).length=m:=by simp[qJ]
  have l3:(wL N m).length=a:=by rw[ha];rfl
  have hin0:=zqG N m
  have hmp:=zdy hS m
  refine sL (ze9 (L:=N) (k:=m) zo hm') ?_
  generalize N.getD m []=l at *
  refine sJ ?_
  rw[Yk]
  refine ye [0,3,4,11,12,13,32,33] (λ((k,c):Nat × Nat)=>[(34,.sc (.int .i64 k))])
   (λ(k,c)=>[.row true [ZM L,yd M,.xl 1 (uy N),.own 1 c 0 c,.own 2 (m+1) 0 (m+1),.own 3 m 0 m,.sc (.slice none 0 0),.sc (.slice none 0 0),.sc (.slice none 0 0),.sc (.slice none 0 0)],.vec true c 2 (wC (wL N m++zfN N m k)),.vec true (m+1) 1 (zI (YO N m++[(xY N m:Int)])),.vec true m 1 (zI (qJ N m)),.vec true 0 1 [[.sc (.int .i64 a)]]])
   (λ(k,c)=>k≤l.length∧c=a+k) (λ(k,c)=>l.length-k) (0,a) ?_
  refine sW ?_
  refine⟨⟨zo,rfl⟩,by exact sK,?_,?_⟩
  ·have hx:List.drop 0 (List.take m (zI (YO N m)))++[[D.sc (.int .i64 ((a-0:Nat):Int))]]=zI (YO N m++[(xY N m:Int)]):=by rw[uA l1.symm,Nat.sub_zero,ha]
   dsimp only
   rw[hin0,List.append_nil,←hx]
   rfl
  rintro⟨k,c⟩ ⟨hk,hc⟩
  have hil:=hinl k hk
  refine sW ?_
  refine sR ?_
  refine sS (λh2=>?_) λh2=>?_
  ·have hk':k<l.length:=sO
   have hi1:=xR k hk'
   refine sL (uz (k:=k) zo hk') ?_
   generalize l.getD k (0,0)=x at hi1
   refine sJ ?_
   refine sI ?_
   refine⟨(k+1,c+1),⟨zo,zo⟩,zd,?_⟩
   dsimp only
   rw[hi1]
   refine zm 5 zs rfl sQ (sU ?_)
   rw[←List.append_assoc]
   exact zp (WA (by rw[List.length_append,l3,hil,hc]))
  ·have hk':k=l.length:=by have:¬k<l.length:=sO
                           omega
   subst hk'
   rw[Yk]
   refine sS (λh3=>?_) λh3=>?_
   ·have h3:l.length=0:=sO
    rw[if_pos h3] at e1 e3
    refine sJ ?_
    rw[Yk,e4]
    refine sJ ?_
    refine sI ?_
    refine⟨(m+1,c+1),⟨zo,zo⟩,zd,?_⟩
    dsimp only
    rw[la1,la2,e1]
    (refine zm 4 zs rfl ?_ ?_<;>(repeat' (first|exact trivial|exact rfl|exact ym.refl _|exact zX.refl _|exact zN.refl _|refine And.intro ?_ ?_|(simp[zt,zl,zF,-List.map_take,-List.map_drop];done))))
    ·refine zp ?_
     rw[h3,hin0,List.append_nil]
     exact WA zo
    ·exact zp (uA l2.symm)
   ·have h3:¬l.length=0:=sO
    rw[if_neg h3] at e1 e3
    rw[Yk,e4]
    refine sJ ?_
    refine sI ?_
    refine⟨(m+1,c),⟨zo,zo⟩,zd,?_⟩
    dsimp only
    rw[la1,la2,e1]
    refine zm 4 zs rfl sQ (sU ?_)
    exact zp (uA l2.symm)
 ·have hm':m=N.length:=by have:¬m<N.length:=sO
                          omega
  subst hm'
  subst ha
  rw[Nat.sub_zero]
  exact⟨rfl,rfl,Nat.le_refl _⟩
def zaO (l:List Int):List (List D):=l.map λn=>[.sc (.int .u64 n)]
theorem zbE (l:List Int):yJ (zaO l):=zC _ (λl=>by simp[zb,Pure]) l
@[simp] theorem zvb {m:Nat} (l:List Int):zF m (zaO l)↔True:=⟨λ_=>trivial,λ_=>zi _ (zbE l)⟩
theorem zpv {l:List Int} {c:Nat} {x:Int} (h:c=l.length):List.drop 0 (List.take c (zaO l))++[[D.sc (.int .u64 x)]]=zaO (l++[x]):=by
 rw[List.drop_zero,List.take_of_length_le (by simp[h,zaO])]
 simp[zaO]
def Z9 (L:List yk) (M:List (List Int)) (N:List (List zO)) (dS:D) (a x b y c z:Nat):List D :=
 [ZM L,yd M,.xl 1 (uy N),vo (wL N N.length),zB (YO N N.length),zB (qJ N N.length),dS,.own a x 0 x,.own b y 0 y,.own c z 0 z]
def x4 (L:List yk) (M:List (List Int)) (N:List (List zO)) (dS:D) (x y z:Nat) (X:List (List Int)) (Y:List Int) (Z:List (List Int)):List zf :=
 [.row true (Z9 L M N dS 1 x 2 y 3 z),.vec true x 1 (ux X),.vec true y 1 (zaO Y),.vec true z 1 (ux Z)]
theorem zr7 {ρ:Nat→Nat} {L:List yk} {M:List (List Int)} {N:List (List zO)} {dS:D} (hd:Pure dS) {a x b y c z:Nat}:yE ρ (Z9 L M N dS a x b y c z)=Z9 L M N dS (ρ a) x (ρ b) y (ρ c) z:=by
 have h1:=yM (ρ:=ρ) _ (u5 L)
 have h2:=yM (ρ:=ρ) _ (yf M)
 have h3:=yM (ρ:=ρ) (.xl 1 (uy N)) (by simp only[Pure];exact Zb N)
 have h4:=yM (ρ:=ρ) _ (vv (wL N N.length))
 have h5:=yM (ρ:=ρ) _ (zj (YO N N.length))
 have h6:=yM (ρ:=ρ) _ (zj (qJ N N.length))
 have h7:=yM (ρ:=ρ) _ hd
 unfold Z9
 simp only[yE,h1,h2,h3,h4,h5,h6,h7]
 rfl
theorem zmd {k:Nat} {L:List yk} {M:List (List Int)} {N:List (List zO)} {dS:D} (hd:Pure dS) {a x b y c z:Nat} (ha:a<k) (hb:b<k) (hc:c<k):zl k (Z9 L M N dS a x b y c z):=by
 have h1:=zz (m:=k) _ (u5 L)
 have h2:=zz (m:=k) _ (yf M)
 have h3:=zz (m:=k) (.xl 1 (uy N)) (by simp only[Pure];exact Zb N)
 have h4:=zz (m:=k) _ (vv (wL N N.length))
 have h5:=zz (m:=k) _ (zj (YO N N.length))
 have h6:=zz (m:=k) _ (zj (qJ N N.length))
 have h7:=zz (m:=k) _ hd
 unfold Z9
 exact⟨h1,h2,h3,h4,h5,h6,h7,ha,hb,hc,trivial⟩
theorem zaG {k:Nat} (hk:4≤k) {L:List yk} {M:List (List Int)} {N:List (List zO)} {dS:D} (hd:Pure dS) {x y z:Nat} {X:List (List Int)} {Y:List Int} {Z:List (List Int)}:wJ k (x4 L M N dS x y z X Y Z) :=
 ⟨zmd hd zo zo zo,by simp[zf.under],by simp[zf.under],by simp[zf.under],trivial⟩
theorem Zx {L:List yk} {M:List (List Int)} {N:List (List zO)} {dS:D} (hd:Pure dS) {x y z:Nat} {X:List (List Int)} {Y:List Int} {Z:List (List Int)} {G R:List zf}:WL 4 G (x4 L M N dS x y z X Y Z++R) (x4 L M N dS x y z X Y Z) :=
 y7 _ _ λo ho=>Zd (zaG (Nat.le_refl _) hd) o ho
theorem zaS {f:FuncId} {rest:List D} {d:D} {L:List yk} {M:List (List Int)} {N:List (List zO)} {dS:D} (hd:Pure dS) {x y z:Nat} {X:List (List Int)} {Y:List Int} {Z:List (List Int)}
  (hA:yr Tryz.prog f (.loc 0 0::rest) (x4 L M N dS x y z X Y Z) d (x4 L M N dS x y z X Y Z)) (hr:zb rest) (hp:Pure d) {H:List zf} (m a b c:Nat) (hn:[m,a,b,c].Nodup)
  (h0:H[m]? = some (.row true (Z9 L M N dS a x b y c z))) (h1:H[a]? = some (.vec true x 1 (ux X))) (h2:H[b]? = some (.vec true y 1 (zaO Y))) (h3:H[c]? = some (.vec true z 1 (ux Z))):zf5 Tryz.prog f (.loc m 0::rest) H d [m,a,b,c]:=by
 refine zj7 hA [m,a,b,c] rfl hn ⟨by simp[zt,x4],zr _ hr⟩ (zaG (Nat.le_refl _) hd) (by simp only[yE,xe _ hr];rfl) (yM _ hp) (λi o ho=>?_) m zs h0 zs (λid hid=>?_)
 ·have key:∀{i:Nat} {q p:zf},(x4 L M N dS x y z X Y Z)[i]? = some q→H[[m,a,b,c].getD i 0]? = some p→q.yG (λi=>[m,a,b,c].getD i 0)=p→(x4 L M N dS x y z X Y Z)[i]? = some o→H[[m,a,b,c].getD i 0]? = some (o.yG λi=>[m,a,b,c].getD i 0):=λk1 k2 k3 k4=>by
   rw[k1] at k4
   cases k4
   rw[k3];exact k2
  match i with
  | 0=>exact key rfl h0 (by simp only[zf.yG,zr7 hd];rfl) ho
  | 1=>exact key rfl h1 (by simp only[zf.yG,yA _ (XT X)]) ho
  | 2=>exact key rfl h2 (by simp only[zf.yG,yA _ (zbE Y)]) ho
  | 3=>exact key rfl h3 (by simp only[zf.yG,yA _ (XT Z)]) ho
  | i+4=>simp[x4] at ho
 ·simp only[List.mem_cons,List.not_mem_nil,or_false] at hid
  rcases hid with rfl|rfl|rfl|rfl
  ·exact .inl rfl
  ·exact .inr ⟨x,0,x,by simp[Z9]⟩
  ·exact .inr ⟨y,0,y,by simp[Z9]⟩
  ·exact .inr ⟨z,0,z,by simp[Z9]⟩
theorem zom (v:Value):Pure (.sc v):=by simp[Pure]
def zB2:PC:=.seq (OP [Bi 15 .lss 14 13]) (.seq (.cond 15 .skip (.exit 0)) (.seq (.block 1 (.seq (OP [qm 16 14,qm 6 16]) (OP [qm 17 5,qm 18 0,q 19 (.zq 18),Fa 20 4 19,Lo 21 20,qm 22 1,Ia 23 1 21 22,Lo 24 23,qm 25 6,Bi 26 .add 24 25,Bs 27 1 1 [26],Ap 28 1 8 17 27,qm 5 28]))) (OP [Bi 29 .add 14 (cI 1),qm 14 29])))
def c35:PC:=.seq (OP [Mv 4 cN]) (.seq (OP [Mv 5 cN]) (.seq (.seq (OP [qm 7 0,q 8 (.zq 7),Fa 9 5 8,Lo 10 9,qm 11 1,Ia 12 1 10 11,Lo 13 12,Mv 14 (cI 0)]) (.block 0 (.loop zB2))) (.seq (OP [qm 30 5,qm 4 30]) .ret)))
theorem zBq:zv Tryz.prog 35 31 [.tmp 4] c35:=fK Tryz.func35
theorem zpO {N:List (List zO)} {t k:Nat} (h:k<wW N t):(Xl N t).take (k+1)=(Xl N t).take k++[((xY N t+k:Nat):Int)]:=by
 have hl:=U8 N t
 rw[List.take_add_one,List.getElem?_eq_getElem zo]
 simp[Xl]
theorem zkm (L:List yk) (M:List (List Int)) (N:List (List zO)) (s:Nat) (hS:SpN M N s) (dS:D) (hd:Pure dS) (x y z:Nat) (X:List (List Int)) (Y:List Int) (Z:List (List Int)) (t:Nat) (ht:t<N.length):yr Tryz.prog 35 [.loc 0 0,.sc (.int .i64 t)] (x4 L M N dS x y z X Y Z) (zB (Xl N t)) (x4 L M N dS x y z X Y Z):=by
 have hf:=hS.few
 have hl:=hS.len
 have ha:=UX hS (m:=t) zo
 have hm:=zdy hS t
 have hal:=U8 N t
 refine wR zBq zs (by simp[x4]) ?_ (by simp[zt])
 unfold x4 Z9
 refine sR ?_
 refine sL (yc (l:=qJ N N.length) (k:=t) zo (by simpa [qJ] using ht)) ?_
 rw[show(qJ N N.length).getD t 0=(wW N t:Int) from QQ ht]
 refine zH (xw 5 1 zs rfl) ?_
 refine zP [0,1,13] (λk:Nat=>[(5,.own 4 k 0 k),(14,.sc (.int .i64 k))]) (λk=>[(4,.vec true k 1 (zI ((Xl N t).take k)))]) (λk=>k≤wW N t) (λk=>wW N t-k) 0 ?_
 refine sW ?_
 refine⟨zo,by exact sK,rfl,?_⟩
 rintro k hk
 refine sW ?_
 refine sR ?_
 refine sS (λh1=>?_) λh1=>?_
 ·have hk':k<wW N t:=sO
  refine sL (yc (l:=YO N N.length) (k:=t) zo (by simpa [YO] using ht)) ?_
  rw[show(YO N N.length).getD t 0=(xY N t:Int) from QQ ht]
  refine sI ?_
  refine sJ ?_
  refine sI ?_
  refine⟨k+1,zo,zd,?_⟩
  dsimp only
  rw[zpO hk']
  have e:(xY N t:Int)+(k:Int)=((xY N t+k:Nat):Int):=zo
  rw[e]
  have hlt:((Xl N t).take k).length=k:=by rw[List.length_take];omega
  (refine zm 5 zs rfl ?_ ?_<;>(repeat' (first|exact trivial|exact rfl|exact ym.refl _|exact zX.refl _|exact zN.refl _|refine And.intro ?_ ?_|(simp[zt,zl,zF,-List.map_take,-List.map_drop];done))))
  ·exact zz _ hd
  ·exact zp (uA hlt.symm)
 ·have hk':k=wW N t:=by have:¬k<wW N t:=sO
                        omega
  subst hk'
  rw[List.take_of_length_le zo]
  exact⟨.own _ _ _ _ _ _ _ _ rfl rfl (zp (zw (by simp[zI];omega))),Zx hd⟩
theorem zzx {l:List zO} {k:Nat} (h:k<l.length):l[k]? = some (l.getD k (0,0)):=by
 rw[List.getD_eq_getElem?_getD,List.getElem?_eq_getElem h];rfl
theorem zya {N:List (List zO)} {m k:Nat} (h0:(N.getD m []).length≠0) (hk:k<wW N m):(QZ N m).getD k (0,0)=(((N.getD m []).getD k (0,0)).1,(m:Int))∧(zbb N m).getD k 0=((N.getD m []).getD k (0,0)).2:=by
 rw[qU,if_neg h0] at hk
 unfold QZ zbb
 rw[if_neg h0,if_neg h0]
 constructor
 ·rw[List.getD_eq_getElem?_getD,List.getElem?_map,zzx hk]
  rfl
 ·rw[List.getD_eq_getElem?_getD,List.getElem?_map,zzx hk]
  rfl
theorem znS {N:List (List zO)} {m:Nat} (h0:(N.getD m []).length=0):(QZ N m).getD 0 (0,0)=(-1,(m:Int))∧(zbb N m).getD 0 0=(m:Int):=by
 unfold QZ zbb
 rw[if_pos h0,if_pos h0]
 exact⟨rfl,rfl⟩
def c33:PC:=.seq (OP [Mv 4 cN]) (.seq (OP [qm 6 0,q 7 (.zq 6),Fa 8 3 7,Lo 9 8,qm 10 1,Ia 11 2 9 10,LA 12 2 11,q 5 (.alloc [(.int .i64 0),(.int .i64 0)]),So 2 5 12]) (.seq (.seq (OP [Fa 13 0 5,Lo 14 13,Bi 15 .lss 14 (cI 0)]) (.cond 15 (.seq (OP [qm 16 1,Bs 17 1 1 [16],qm 4 17]) .ret) .skip)) (.seq (.ops [qm 18 0,qm 19 0,qd 20 (.zq 19) 2,qd 21 (.zy 1 20) 6,qd 22 (.zy 1 21) 14,qd 23 (.zg 22) 30,Fa 24 1 5,qd 25 (.zg 24) 64,qd 26 (.zM 1 23 25) 254,qd 27 (.zg 26) 510,qm 28 1,qm 29 0,qd 30 (.zq 29) 2048,qd 31 (.zy 4 30) 6144,qd 32 (.zg 31) 14336,Fa 33 1 5,qd 34 (.zg 33) 32768,qd 35 (.zM 1 32 34) 129024,qd 36 (.zg 35) 260096,qd 37 (.bin .sub 28 36) 523264,qd 38 (.zM 2 27 37) 1048574,qd 39 (.zy 1 38) 2097150,qd 40 (.zg 39) 4194302,qd 41 (.call 35 [18,40]) 8388607,qw 4 41 16777215] true) .ret)))
theorem zAo:zv Tryz.prog 33 42 [.tmp 4] c33:=fK Tryz.func33
theorem zo7 (L:List yk) (M:List (List Int)) (N:List (List zO)) (s:Nat) (hS:SpN M N s) (dS:D) (hd:Pure dS) (x y z:Nat) (X:List (List Int)) (Y:List Int) (Z:List (List Int)) (m k:Nat) (hm:m<N.length) (hk:k<wW N m):yr Tryz.prog 33 [.loc 0 0,.sc (.int .i64 ((xY N m+k:Nat):Int))] (x4 L M N dS x y z X Y Z) (zB (Xl N ((zbb N m).getD k 0).toNat)) (x4 L M N dS x y z X Y Z):=by
 have hf:=hS.few
 have hl:=hS.len
 have ha:=UX hS (m:=m+1) zo
 have ha':=Wp (N:=N) (show m+1≤N.length by omega)
 have hsu:=qi N m
 have hol:=XV N N.length
 have hat:=zaw hk N.length hm
 have hall:=λt (ht:t<N.length)=>zkm L M N s hS dS hd x y z X Y Z t ht
 refine wR zAo zs (by simp[x4]) ?_ (by simp[zt])
 by_cases h0:(N.getD m []).length=0
 ·have hk0:k=0:=by rw[qU,if_pos h0] at hk;omega
  subst hk0
  obtain⟨e1,e2⟩:=znS h0
  rw[e2,Int.toNat_natCast,zum h0]
  rw[e1] at hat
  unfold x4 Z9
  refine sR ?_
  refine⟨zo,_,uz (l:=wL N N.length) (k:=xY N m+0) zo zo,?_⟩
  rw[hat]
  refine sW ?_
  exact⟨.own _ _ _ _ _ _ _ _ rfl rfl (.refl _),Zx hd⟩
 ·obtain⟨e1,e2⟩:=zya h0 hk
  rw[e1] at hat
  have hk':k<(N.getD m []).length:=by rw[qU,if_neg h0] at hk;exact hk
  have he:=hS.zrT hk'
  have hrd:=ze9 (L:=N) (z:=(m:Int).toNat) (k:=m) zo hm
  have hpr:=uz (l:=N.getD m []) (z:=k) (k:=k) rfl hk'
  rw[e2]
  generalize (N.getD m []).getD k (0,0)=e at *
  have hA:=hall e.2.toNat zo
  rw[show((e.2.toNat:Nat):Int)=e.2 by omega] at hA
  unfold x4 Z9
  refine sR ?_
  refine⟨zo,_,uz (l:=wL N N.length) (k:=xY N m+k) zo zo,?_⟩
  rw[hat]
  refine sW ?_
  refine sS (λh1=>?_) λh1=>?_
  ·exfalso;exact sO
  refine sL (hrd) ?_
  refine sL (yc (l:=YO N N.length) (k:=m) zo (by simpa [YO] using hm)) ?_
  rw[show(YO N N.length).getD m 0=(xY N m:Int) from QQ hm]
  refine sI ?_
  refine sL ((show(wC (N.getD m []))[(((xY N m+k:Nat):Int)-(xY N m:Int)).toNat]? = _ by rw[show(((xY N m+k:Nat):Int)-(xY N m:Int)).toNat=k by omega];exact hpr)) ?_
  refine sX (zaS hd hA (by simp[zb,Pure]) (zj _) 0 1 2 3 zc rfl rfl rfl rfl) ?_
  exact⟨.refl _,Zx hd⟩
def zhO (L:List yk) (z:Int):Int:=if z<0 then 9223372036854775808 else 2^(L.getD z.toNat (0,0,0)).1.toNat
theorem ztI {z:Int} {k:Nat} (hk:z=k) (h:k≤63):(1:Int)*2^min z.toNat IntKind.u64.bits=2^k:=by
 subst hk
 rw[Int.toNat_natCast,Int.one_mul,Nat.min_eq_left (by show k≤64;omega)]
theorem zto {k:Nat} (h:k≤63):JL .u64 ((2:Int)^k):=by
 have h1:=zaZ k
 have h2:=ze3 (k:=k) (n:=63) h
 have h3:(2:Int)^63=9223372036854775808:=zc
 unfold JL IntKind.wrap
 simp only[IntKind.bits,IntKind.signed]
 have h4:(2:Int)^64=18446744073709551616:=zc
 simp
 omega
def c34:PC:=.seq (OP [q 4 (.move (.const (.int .u64 0)))]) (.seq (.seq (OP [qm 5 0,q 6 (.zq 5),Fa 7 3 6,Lo 8 7,qm 9 1,Ia 10 2 8 9,Fa 11 0 10,Lo 12 11,Bi 13 .lss 12 (cI 0)]) (.cond 13 (.seq (OP [q 4 (.move (.const (.int .u64 9223372036854775808)))]) .ret) .skip)) (.seq (.ops [qm 14 0,qd 15 (.zq 14) 1,qd 16 (.zy 0 15) 3,qd 17 (.zg 16) 7,qm 18 0,qd 19 (.zq 18) 16,qd 20 (.zy 3 19) 48,qd 21 (.zg 20) 112,qm 22 1,qd 23 (.zM 2 21 22) 496,qd 24 (.zy 0 23) 1008,qd 25 (.zg 24) 2032,qd 26 (.zM 3 17 25) 4095,qd 27 (.zy 0 26) 8191,qd 28 (.zg 27) 16383,qd 29 (.bin .shl (.const (.int .u64 1)) 28) 32767,qw 4 29 65535] true) .ret))
theorem zy0:zv Tryz.prog 34 30 [.tmp 4] c34:=fK Tryz.func34
theorem zlY (L:List yk) (M:List (List Int)) (N:List (List zO)) (s:Nat) (hS:SpN M N s) (dS:D) (hd:Pure dS) (x y z:Nat) (X:List (List Int)) (Y:List Int) (Z:List (List Int)) (hL:∀j,j<L.length→0≤(L.getD j (0,0,0)).1∧(L.getD j (0,0,0)).1≤63) (hs:s=L.length) (m k:Nat) (hm:m<N.length) (hk:k<wW N m):yr Tryz.prog 34 [.loc 0 0,.sc (.int .i64 ((xY N m+k:Nat):Int))] (x4 L M N dS x y z X Y Z) (.sc (.int .u64 (zhO L ((QZ N m).getD k (0,0)).1))) (x4 L M N dS x y z X Y Z):=by
 have hf:=hS.few
 have hl:=hS.len
 have ha:=UX hS (m:=m+1) zo
 have ha':=Wp (N:=N) (show m+1≤N.length by omega)
 have hsu:=qi N m
 have hol:=XV N N.length
 have hat:=zaw hk N.length hm
 refine wR zy0 zs (by simp[x4]) ?_ (by simp[zt])
 by_cases h0:(N.getD m []).length=0
 ·have hk0:k=0:=by rw[qU,if_pos h0] at hk;omega
  subst hk0
  obtain⟨e1,e2⟩:=znS h0
  rw[e1]
  rw[e1] at hat
  unfold x4 Z9
  refine sR ?_
  refine⟨zo,_,uz (l:=wL N N.length) (k:=xY N m+0) zo zo,?_⟩
  rw[hat]
  refine sW ?_
  exact⟨.refl _,Zx (R:=[]) hd⟩
 ·obtain⟨e1,e2⟩:=zya h0 hk
  rw[e1] at hat ⊢
  have hk':k<(N.getD m []).length:=by rw[qU,if_neg h0] at hk;exact hk
  have he:=hS.zrT hk'
  generalize (N.getD m []).getD k (0,0)=e at *
  have hnode:=hL e.1.toNat zo
  have e3:zhO L e.1=2^(L.getD e.1.toNat (0,0,0)).1.toNat:=by unfold zhO;rw[if_neg zo]
  unfold x4 Z9
  refine sR ?_
  refine⟨zo,_,uz (l:=wL N N.length) (k:=xY N m+k) zo zo,?_⟩
  rw[hat]
  refine sW ?_
  refine sS (λh1=>?_) λh1=>?_
  ·exfalso;exact sO
  refine⟨zo,_,uz (l:=wL N N.length) (k:=xY N m+k) zo zo,?_⟩
  rw[hat]
  refine sW ?_
  refine sL (zaN (k:=e.1.toNat) zo zo) ?_
  generalize L.getD e.1.toNat (0,0,0)=st at *
  refine⟨zo,?_⟩
  rw[ztI (k:=st.1.toNat) zo zo,←e3]
  refine .inl ⟨by rw[e3];exact zto zo,?_⟩
  refine sW ?_
  exact⟨.refl _,Zx (R:=[]) hd⟩
def zDd:PC:=.seq (OP [Bi 32 .lss 31 30]) (.seq (.cond 32 .skip (.exit 2)) (.seq (.block 3 (.seq (OP [Ia 33 2 29 31,LA 34 2 33,q 10 (.alloc [(.int .i64 0),(.int .i64 0)]),So 2 10 34]) (OP [qm 35 8,qm 36 35,GF 37 36 (.zy 0 10),GF 38 36 (.zg 37),GF 39 36 (.move 1),GF 40 36 (.bin .eql 38 39),Pk 41 36 cT 40,qm 8 41]))) (OP [Bi 42 .add 31 (cI 1),qm 31 42])))
def zCG:PC:=.seq (OP [Bi 17 .lss 16 15]) (.seq (.cond 17 .skip (.exit 0)) (.seq (.block 1 (.seq (OP [qm 18 16,Ia 19 2 14 16,LA 20 2 19,q 7 (.alloc [(.int .i64 0),(.int .i64 0)]),qm 6 18,So 2 7 20]) (.seq (OP [Mv 8 cF]) (.seq (.seq (.ops [qm 21 0,qd 22 (.zq 21) 1,qd 23 (.zy 1 22) 3,qd 24 (.zy 1 23) 7,qd 25 (.zg 24) 15,Fa 26 1 7,qd 27 (.zg 26) 32,qd 28 (.zM 1 25 27) 127,qd 29 (.zg 28) 255,qd 30 (.len 29) 511,Mv 31 (cI 0)] true) (.block 2 (.loop zDd))) (.seq (OP [qm 43 8,Nt 44 43,qm 45 44,GF 46 45 (.zy 0 7),GF 47 45 (.zg 46),GF 48 45 (.move 1),GF 49 45 (.bin .eql 47 48),Pk 50 45 cT 49]) (.cond 50 (OP [qm 51 5,qm 52 6,Bs 53 1 1 [52],Ap 54 1 8 51 53,qm 5 54]) .skip)))))) (OP [Bi 55 .add 16 (cI 1),qm 16 55])))
def c36:PC:=.seq (OP [Mv 4 cN]) (.seq (OP [Mv 5 cN]) (.seq (.seq (OP [qm 11 0,q 12 (.zq 11),Fa 13 3 12,Lo 14 13,Ln 15 14,Mv 16 (cI 0)]) (.block 0 (.loop zCG))) (.seq (OP [qm 56 5,qm 4 56]) .ret)))
theorem zBH:zv Tryz.prog 36 57 [.tmp 4] c36:=fK Tryz.func36
theorem zqf (L:List yk) (M:List (List Int)) (N:List (List zO)) (s:Nat) (hS:SpN M N s) (dS:D) (hd:Pure dS) (x y z:Nat) (X:List (List Int)) (Y:List Int) (Z:List (List Int)) (st:Int):yr Tryz.prog 36 [.loc 0 0,.sc (.int .i64 st)] (x4 L M N dS x y z X Y Z) (zB (Ze N (wL N N.length) st (xY N N.length))) (x4 L M N dS x y z X Y Z):=by
 have hf:=hS.few
 have hl:=hS.len
 have ha:=UX hS (m:=N.length) zo
 have hol:=XV N N.length
 refine wR zBH zs (by simp[x4]) ?_ (by simp[zt])
 unfold x4 Z9
 refine sR ?_
 rw[Yk,hol]
 refine zH (xw 5 1 zs rfl) ?_
 refine zP [0,1,14,15] (λ((k,c,l):Nat × Nat × List Int)=>[(5,.own 4 c 0 c),(16,.sc (.int .i64 k))]) (λ(k,c,l)=>[(4,.vec true c 1 (zI l))]) (λ(k,c,l)=>k≤xY N N.length∧c=l.length∧c≤k∧l=Ze N (wL N N.length) st k) (λ(k,c,l)=>xY N N.length-k) (0,0,[]) ?_
 refine sW ?_
 refine⟨⟨zo,rfl,zo,rfl⟩,by exact sK,rfl,?_⟩
 rintro⟨k,c,l⟩ ⟨hk,hc,hck,hl'⟩
 refine sW ?_
 refine sR ?_
 refine sS (λh1=>?_) λh1=>?_
 ·have hk':k<xY N N.length:=sO
  obtain⟨m,j,q1,q2,q3⟩:=zeS hk'
  have hat:=zaw q2 N.length q1
  rw[←q3] at hat
  have hmk:=zvP q2
  have eT:Ze N (wL N N.length) st (k+1)=if zyw N ((wL N N.length).getD k (0,0)).2.toNat st=false∨((wL N N.length).getD k (0,0)).1=st then Ze N (wL N N.length) st k++[(k:Int)] else Ze N (wL N N.length) st k:=rfl
  refine⟨zo,_,uz (l:=wL N N.length) (k:=k) zo zo,?_⟩
  rw[hat] at eT ⊢
  generalize (QZ N m).getD j (0,0)=e at eT hmk
  rw[hmk,Int.toNat_natCast,←hl'] at eT
  obtain⟨e1,e2⟩:=e
  dsimp only at hmk eT
  subst hmk
  refine sW ?_
  have lx:=hS.rowAt m
  refine sL (ze9 (L:=N) (k:=m) zo q1) ?_
  rw[Yk]
  refine zP [0,1,5,6,7,14,15,16,29,30] (λ((j,b):Nat × Bool)=>[(8,.sc (.bool b)),(31,.sc (.int .i64 j))]) (λ_=>[]) (λ(j,b)=>j≤(N.getD m []).length∧b=((N.getD m []).take j).any λy=>y.1==st) (λ(j,b)=>(N.getD m []).length-j) (0,false) ?_
  refine sW ?_
  refine⟨⟨zo,zs⟩,by exact sK,rfl,?_⟩
  rintro⟨j,b⟩ ⟨hj,hb⟩
  refine sW ?_
  refine sR ?_
  refine sS (λh2=>?_) λh2=>?_
  ·have hj':j<(N.getD m []).length:=sO
   refine sL (uz (k:=j) zo hj') ?_
   have hnx:((N.getD m []).take (j+1)).any (λy=>y.1==st)=(b||(((N.getD m []).getD j (0,0)).1==st)):=by
    rw[List.take_add_one,zzx hj',List.any_append,←hb]
    simp
   generalize (N.getD m []).getD j (0,0)=e at hnx
   cases b
   ·refine sW ?_
    refine sI ?_
    refine⟨(j+1,e.1==st),⟨zo,by rw[hnx];rfl⟩,zd,?_⟩
    refine zm 6 zs rfl sQ (sU ?_)
    exact zz _ hd
   ·refine sW ?_
    refine sI ?_
    refine⟨(j+1,true),⟨zo,by rw[hnx];rfl⟩,zd,?_⟩
    refine zm 6 zs rfl sQ (sU ?_)
    exact zz _ hd
  ·have hj':j=(N.getD m []).length:=by have:¬j<(N.getD m []).length:=sO
                                       omega
   subst hj'
   rw[List.take_length] at hb
   have hb:b=zyw N m st:=hb
   rw[←hb] at eT
   cases b
   ·refine sW ?_
    rw[if_pos (.inl rfl)] at eT
    refine sJ ?_
    refine sI ?_
    refine⟨(k+1,c+1,l++[(k:Int)]),⟨zo,by simp[hc],zo,eT.symm⟩,zd,?_⟩
    (refine zm 5 zs rfl ?_ ?_<;>(repeat' (first|exact trivial|exact rfl|exact ym.refl _|exact zX.refl _|exact zN.refl _|refine And.intro ?_ ?_|(simp[zt,zl,zF,-List.map_take,-List.map_drop];done))))
    ·exact zz _ hd
    ·exact zp (uA hc)
   ·refine sW ?_
    refine sS (λh3=>?_) λh3=>?_
    ·have h3:e1=st:=sO
     rw[if_pos (.inr h3)] at eT
     refine sJ ?_
     refine sI ?_
     refine⟨(k+1,c+1,l++[(k:Int)]),⟨zo,by simp[hc],zo,eT.symm⟩,zd,?_⟩
     (refine zm 5 zs rfl ?_ ?_<;>(repeat' (first|exact trivial|exact rfl|exact ym.refl _|exact zX.refl _|exact zN.refl _|refine And.intro ?_ ?_|(simp[zt,zl,zF,-List.map_take,-List.map_drop];done))))
     ·exact zz _ hd
     ·exact zp (uA hc)
    ·have h3:¬e1=st:=sO
     rw[if_neg (λq=>q.elim (λq=>by cases q) h3)] at eT
     refine sI ?_
     refine⟨(k+1,c,l),⟨zo,hc,zo,eT.symm⟩,zd,?_⟩
     refine zm 5 zs rfl sQ (sU ?_)
     exact zz _ hd
 ·have hk':k=xY N N.length:=by have:¬k<xY N N.length:=sO
                               omega
  subst hk'
  rw[←hl']
  exact⟨.own _ _ _ _ _ _ _ _ rfl rfl (zp (zw (by simp[zI];omega))),Zx hd⟩
end
section
open Go.RowKit
def uJ (N:List (List zO)):List (List Int):=(ziw N N.length).map λt=>Xl N t.toNat
def Wq (L:List yk) (N:List (List zO)):List Int:=(wL N N.length).map λx=>zhO L x.1
def Y6 (L:List yk) (N:List (List zO)):List (List Int):=(List.range L.length).map λ(k:Nat)=>Ze N (wL N N.length) (k:Int) (xY N N.length)
theorem JG (N:List (List zO)):(uJ N).length=xY N N.length:=by simp[uJ,Uw]
theorem zgo (L:List yk) (N:List (List zO)):(Wq L N).length=xY N N.length:=by simp[Wq,XV]
theorem ze5 (L:List yk) (N:List (List zO)):(Y6 L N).length=L.length:=by simp[Y6]
theorem JE {α β:Type} {f:α→β} {l:List α} {d:α} {i:Nat} (h:i<l.length):(l.map f).take (i+1)=(l.map f).take i++[f (l.getD i d)]:=by
 rw[List.take_add_one,List.getElem?_map,List.getElem?_eq_getElem h,List.getD_eq_getElem?_getD,List.getElem?_eq_getElem h]
 rfl
theorem zjp {N:List (List zO)} {m k:Nat} (hm:m<N.length) (hk:k<wW N m):(uJ N).take (xY N m+k+1)=(uJ N).take (xY N m+k)++[Xl N ((zbb N m).getD k 0).toNat]:=by
 have h1:=Wp (N:=N) (show m+1≤N.length by omega)
 rw[qi] at h1
 unfold uJ
 rw[JE (d:=0) (by rw[Uw];omega),zog hk N.length hm]
theorem zmQ {L:List yk} {N:List (List zO)} {m k:Nat} (hm:m<N.length) (hk:k<wW N m):(Wq L N).take (xY N m+k+1)=(Wq L N).take (xY N m+k)++[zhO L ((QZ N m).getD k (0,0)).1]:=by
 have h1:=Wp (N:=N) (show m+1≤N.length by omega)
 rw[qi] at h1
 unfold Wq
 rw[JE (d:=(0,0)) (by rw[XV];omega),zaw hk N.length hm]
theorem zjB {L:List yk} {N:List (List zO)} {k:Nat} (h:k<L.length):(Y6 L N).take (k+1)=(Y6 L N).take k++[Ze N (wL N N.length) (k:Int) (xY N N.length)]:=by
 unfold Y6
 rw[JE (d:=0) (by simpa using h)]
 simp[List.getD_eq_getElem?_getD,List.getElem?_range,h]
def zrb (l:List Int):D:=.xl 1 (zaO l)
def zj3 (start:List Int) (next:List (List Int)) (label:List Int) (fair:List (List Int)):D:=.agg [zB start,yd next,zrb label,yd fair]
theorem zlL (l:List Int):Pure (zrb l):=by simp only[zrb,Pure];exact zbE l
theorem zfW (start:List Int) (next:List (List Int)) (label:List Int) (fair:List (List Int)):Pure (zj3 start next label fair):=by simp[zj3,Pure,zb,zj,yf,zlL]
theorem zjj {ρ:Nat→Nat} {L:List yk} {M:List (List Int)} {N:List (List zO)} {o a y:D}:yE ρ (zfL L M N o a y)=zfL L M N (D.yG ρ o) (D.yG ρ a) (D.yG ρ y):=by
 have h1:=yM (ρ:=ρ) _ (u5 L)
 have h2:=yM (ρ:=ρ) _ (yf M)
 have h3:=yM (ρ:=ρ) (.xl 1 (uy N)) (by simp only[Pure];exact Zb N)
 unfold zfL
 simp only[yE,h1,h2,h3]
 rfl
theorem zql (L:List yk) (M:List (List Int)) (N:List (List zO)) (s:Nat) (hS:SpN M N s) (o0 o1 o2:zf) :
  qs Tryz.prog 32 [.loc 3 0] [o0,o1,o2,.row true (zfL L M N (.sc (.slice none 0 0)) (.sc (.slice none 0 0)) (.sc (.slice none 0 0)))] (.sc (.bool (decide ((xY N N.length:Int)≤600))))
   [o0,o1,o2,.row true (zfL L M N (.own 4 (xY N N.length) 0 (xY N N.length)) (.own 5 N.length 0 N.length) (.own 6 N.length 0 N.length)),.vec true (xY N N.length) 2 (wC (wL N N.length)),.vec true N.length 1 (zI (YO N N.length)),.vec true N.length 1 (zI (qJ N N.length))] [3,4,5,6]:=by
 refine zca (zjz L M N s hS) [3] rfl zs (by simp[zl,zt]) (by simp[wJ,zf.under,zfL,zl,zt]) [3,4,5,6] rfl rfl rfl (λi o ho=>?_) ?_
 ·match i with
  | 0 =>
   simp at ho
   subst ho
   simp only[zf.yG,zjj]
   rfl
  | i+1=>simp at ho
 ·simp only[List.length_cons,List.length_nil,List.take_succ_cons,List.take_zero,List.drop_succ_cons,List.drop_zero,List.map_cons,List.map_nil,zf.yG,zjj,yA _ (YH _),zjE,WK]
  rfl
def zC8:PC:=.seq (OP [Bi 46 .lss 45 44]) (.seq (.cond 46 .skip (.exit 0)) (.seq (.block 1 (.seq (OP [qm 47 45,qm 12 47]) (.seq (.ops [qm 48 11,qm 49 11,qd 50 (.zq 49) 2,qd 51 (.zy 6 50) 6,qd 52 (.zy 1 51) 14,qd 53 (.zg 52) 30,qm 54 11,qm 55 12,qd 56 (.call 33 [54,55]) 192,qd 57 (.wz 1 1 [56]) 448,qd 58 (.append 1 24 53 57) 1022,qd 59 (.zq 48) 2047,qd 60 (.zy 6 59) 4095,qd 61 (.zy 1 60) 8191,qk (.store 1 61 58) 16383] true) (.ops [qm 62 11,qm 63 11,qd 64 (.zq 63) 2,qd 65 (.zy 6 64) 6,qd 66 (.zy 2 65) 14,qd 67 (.zg 66) 30,qm 68 11,qm 69 12,qd 70 (.call 34 [68,69]) 192,qd 71 (.wz 1 1 [70]) 448,qd 72 (.append 1 8 67 71) 1022,qd 73 (.zq 62) 2047,qd 74 (.zy 6 73) 4095,qd 75 (.zy 2 74) 8191,qk (.store 1 75 72) 16383] true)))) (OP [Bi 76 .add 45 (cI 1),qm 45 76])))
def zDC:PC:=.seq (OP [Bi 89 .lss 88 87]) (.seq (.cond 89 .skip (.exit 2)) (.seq (.block 3 (.seq (OP [qm 90 88,qm 13 90]) (.ops [qm 91 11,qm 92 11,qd 93 (.zq 92) 2,qd 94 (.zy 6 93) 6,qd 95 (.zy 3 94) 14,qd 96 (.zg 95) 30,qm 97 11,qm 98 13,qd 99 (.call 36 [97,98]) 192,qd 100 (.wz 1 1 [99]) 448,qd 101 (.append 1 24 96 100) 1022,qd 102 (.zq 91) 2047,qd 103 (.zy 6 102) 4095,qd 104 (.zy 3 103) 8191,qk (.store 1 104 101) 16383] true))) (OP [Bi 105 .add 88 (cI 1),qm 88 105])))
def c15:PC:=.seq (OP [Bx 3 0,q 6 (.alloc [(.slice none 0 0),(.slice none 0 0),(.slice none 0 0),(.slice none 0 0)]),Mv 7 cN,Mv 8 (cI 0)]) (.seq (OP [LA 15 2 3,qm 16 1,qm 17 2,Ca 18 30 [15,16,17],qm 14 18,Xt 19 0 14,Xt 20 1 14,q 9 (.alloc [(.slice none 0 0),(.slice none 0 0)]),So 2 9 19,qm 10 20]) (.seq (.seq (OP [qm 21 10,Bi 22 .neq 21 (cI 0)]) (.cond 22 (.seq (OP [q 23 (.build [(.slice none 0 0),(.slice none 0 0),(.slice none 0 0),(.slice none 0 0)] []),qm 24 10,So 4 6 23,Mv 7 cN,qm 8 24]) .ret) .skip)) (.seq (OP [LA 25 2 9,q 26 (.build [(.slice none 0 0),(.slice none 0 0),(.slice none 0 0),(.slice none 0 0),(.slice none 0 0),(.slice none 0 0),(.slice none 0 0),(.slice none 0 0),(.slice none 0 0),(.slice none 0 0)] [(1,2,25)]),Bx 27 26,qm 11 27]) (.seq (OP [qm 29 11,LA 30 2 3,Ca 31 31 [30],qm 28 31,Xt 32 0 28,Xt 33 1 28,q 34 (.zq 29),Fa 35 0 34,So 1 35 32]) (.seq (.seq (OP [qm 36 11,Ca 37 32 [36],Nt 38 37]) (.cond 38 (.seq (OP [q 39 (.build [(.slice none 0 0),(.slice none 0 0),(.slice none 0 0),(.slice none 0 0)] []),So 4 6 39,Mv 7 cN,Mv 8 (cI 2)]) .ret) .skip)) (.seq (.seq (OP [qm 40 11,q 41 (.zq 40),Fa 42 3 41,Lo 43 42,Ln 44 43,Mv 45 (cI 0)]) (.block 0 (.loop zC8))) (.seq (OP [qm 77 11,qm 78 11,Ca 79 35 [78,(cI 0)],q 80 (.zq 77),Fa 81 6 80,Fa 82 0 81,So 1 82 79]) (.seq (.seq (OP [qm 83 11,q 84 (.zq 83),Fa 85 0 84,Lo 86 85,Ln 87 86,Mv 88 (cI 0)]) (.block 2 (.loop zDC))) (.seq (.ops [qm 106 11,qd 107 (.zq 106) 1,qd 108 (.zy 6 107) 3,qd 109 (.vC 4 108) 7,qm 110 11,qd 111 (.zq 110) 16,qd 112 (.zy 3 111) 48,qd 113 (.zg 112) 112,qk (.store 4 6 109) 15,qw 7 113 511,qd 8 (.move (cI 0)) 1023] true) .ret)))))))))
theorem ztr:zv Tryz.prog 15 114 [.agg 6 4,.tmp 7,.tmp 8] c15:=fK Tryz.func15
theorem zsB (P:ze) (hP:P.Fits) (tok st:Int) (he:P.VX tok st≠0):zn Tryz.prog 15 [yS P,.sc (.int .i64 tok),.sc (.int .i64 st)] (.yP [zj3 [] [] [] [],vo [],.sc (.int .i64 (P.VX tok st))]):=by
 have hE:=Q7 P hP tok st
 refine za ztr zs (by simp[zb,Pure,yb]) ?_ (by simp[Pure,zb,zfW,vv])
 generalize P.VX tok st=e at *
 refine sR ?_
 refine sC hE ?_
 refine sS (λh1=>?_) λh1=>?_
 ·exact .yP _ _ (.cons _ _ _ _ (.agg _ _ (.cons _ _ _ _ (.none _) (.cons _ _ _ _ (.none _) (.cons _ _ _ _ (.none _) (.cons _ _ _ _ (.none _) .nil))))) (.cons _ _ _ _ (.none _) (.cons _ _ _ _ (.refl _) .nil)))
 ·exfalso;exact sO
theorem UR (P:ze) (hP:P.Fits) (tok st:Int) (he:P.VX tok st=0) (hF:FndN P (P.exM tok st) (P.Z2 tok st)):zn Tryz.prog 15 [yS P,.sc (.int .i64 tok),.sc (.int .i64 st)]
  (if xY (P.Z2 tok st) (P.Z2 tok st).length≤600 then .yP [zj3 (Xl (P.Z2 tok st) 0) (uJ (P.Z2 tok st)) (Wq P.zJ (P.Z2 tok st)) (Y6 P.zJ (P.Z2 tok st)),vo (wL (P.Z2 tok st) (P.Z2 tok st).length),.sc (.int .i64 0)] else .yP [zj3 [] [] [] [],vo [],.sc (.int .i64 2)]):=by
 have hE:=Q7 P hP tok st
 rw[he] at hE
 generalize P.exM tok st=M at *
 generalize P.Z2 tok st=N at *
 have hS:=hF.sp
 have hf:=hS.few
 have hl:=hS.len
 have hpos:=hS.pos
 obtain⟨h0,_,h60⟩:=ze.xq hF.steps
 have hnode:∀j,j<P.zJ.length→0≤(P.zJ.getD j (0,0,0)).1∧(P.zJ.getD j (0,0,0)).1≤63:=λj hj=>by
  have h1:=(ze.QJ hF.steps hj).node
  have:=(xi h0).1
  omega
 refine za ztr zs (by simp[zb,Pure,yb]) ?_ (by split<;>simp[Pure,zb,zfW,vv])
 refine sR ?_
 refine sC hE ?_
 refine sC (W1 P hP) ?_
 refine sE (zql P.zJ M N P.zJ.length hS _ _ _) ?_
 by_cases hA:xY N N.length≤600
 ·have hb:decide ((xY N N.length:Int)≤600)=true:=decide_eq_true zo
  rw[hb,if_pos hA]
  refine sW ?_
  rw[Nat.sub_zero]
  have hNl:=JG N
  have hLl:=zgo P.zJ N
  have hFl:=ze5 P.zJ N
  have hd0:Pure (.sc (.slice none 0 0)):=zom _
  have hd1:Pure (zB (Xl N 0)):=zj _
  have hnext:=λi X Y m k (hm:m<N.length) (hk:k<wW N m)=>zo7 P.zJ M N _ hS _ hd0 i i 0 X Y [] m k hm hk
  have hlab:=λi j X Y m k (hm:m<N.length) (hk:k<wW N m)=>zlY P.zJ M N _ hS _ hd0 i j 0 X Y [] hnode rfl m k hm hk
  have hall:=λX Y=>zkm P.zJ M N _ hS _ hd0 (xY N N.length) (xY N N.length) 0 X Y [] 0 zo
  have hfair:=λk X Y Z st=>zqf P.zJ M N _ hS _ hd1 (xY N N.length) (xY N N.length) k X Y Z st
  have hfz:List.drop 0 (List.take (xY N N.length) (wC (wL N N.length)))=wC (wL N N.length):=zw (by simp[XV])
  have hfa:List.drop 0 (List.take N.length (zI (YO N N.length)))=zI (YO N N.length):=zw (by simp[zI,YO])
  have hfm:List.drop 0 (List.take N.length (zI (qJ N N.length)))=zI (qJ N N.length):=zw (by simp[zI,qJ])
  refine zH (wZ (Yj (λi=>i==4||i==5||i==6) (env':=[(6,.loc 1 0),(11,.loc 3 0),(44,.sc (.int .i64 (xY N N.length))),(45,.sc (.int .i64 0))])
   (H':=[.row true P.cells,.row true [.sc (.slice none 0 0),.sc (.slice none 0 0),.sc (.slice none 0 0),.sc (.slice none 0 0)],.row true (zl0 M N),.row true [ZM P.zJ,yd M,.xl 1 (uy N),vo (wL N N.length),zB (YO N N.length),zB (qJ N N.length),.sc (.slice none 0 0),.sc (.slice none 0 0),.sc (.slice none 0 0),.sc (.slice none 0 0)],
    .vec false (xY N N.length) 2 (wC (wL N N.length)),.vec false N.length 1 (zI (YO N N.length)),.vec false N.length 1 (zI (qJ N N.length))])
   ⟨.refl _,.refl _,.refl _,.refl _,trivial⟩ ?_)
   (wZ (yZ 3 7 1 zs rfl rfl) (wZ (yZ 3 8 1 zs rfl rfl) (yZ 3 9 1 zs rfl rfl)))) ?_
  ·refine⟨⟨.inl rfl,(λh=>by cases h),.refl _⟩,⟨.inl rfl,(λh=>by cases h),.refl _⟩,⟨.inl rfl,(λh=>by cases h),.refl _⟩,⟨.inl rfl,(λh=>by cases h),?_⟩,⟨.inr ⟨rfl,rfl⟩,λ_=>rfl,rfl,rfl,.refl _⟩,⟨.inr ⟨rfl,rfl⟩,λ_=>rfl,rfl,rfl,.refl _⟩,⟨.inr ⟨rfl,rfl⟩,λ_=>rfl,rfl,rfl,.refl _⟩,trivial⟩
   refine .cons _ _ _ _ (.refl _) (.cons _ _ _ _ (.refl _) (.cons _ _ _ _ (.refl _) (.cons _ _ _ _ (.own _ _ _ _ _ _ _ _ rfl rfl (zp hfz)) (.cons _ _ _ _ (.own _ _ _ _ _ _ _ _ rfl rfl (zp hfa)) (.cons _ _ _ _ (.own _ _ _ _ _ _ _ _ rfl rfl (zp hfm)) (.refl _))))))
  refine ye [6,11,44] (λi:Nat=>[(45,.sc (.int .i64 i))])
   (λi=>[.row true P.cells,.row true [.sc (.slice none 0 0),.sc (.slice none 0 0),.sc (.slice none 0 0),.sc (.slice none 0 0)],.row true (zl0 M N),.row true (Z9 P.zJ M N (.sc (.slice none 0 0)) 7 i 8 i 9 0),
    .vec false (xY N N.length) 2 (wC (wL N N.length)),.vec false N.length 1 (zI (YO N N.length)),.vec false N.length 1 (zI (qJ N N.length)),.vec true i 1 (ux ((uJ N).take i)),.vec true i 1 (zaO ((Wq P.zJ N).take i)),.vec true 0 1 (ux [])])
   (λi=>i≤xY N N.length) (λi=>xY N N.length-i) 0 ?_
  refine sW ?_
  refine⟨zo,by exact sK,rfl,?_⟩
  rintro i hi
  refine sW ?_
  refine sR ?_
  refine sS (λh1=>?_) λh1=>?_
  ·have hi':i<xY N N.length:=sO
   obtain⟨m,k,q1,q2,rfl⟩:=zeS hi'
   have e1:=zjp q1 q2
   have e2:=zmQ (L:=P.zJ) q1 q2
   have l1:((uJ N).take (xY N m+k)).length=xY N m+k:=by rw[List.length_take];omega
   have l2:((Wq P.zJ N).take (xY N m+k)).length=xY N m+k:=by rw[List.length_take];omega
   have hn:=λX Y=>hnext (xY N m+k) X Y m k q1 q2
   have hlb:=λj X Y=>hlab (xY N m+k+1) j X Y m k q1 q2
   refine sX (zaS hd0 (hn _ _) (by simp[zb,Pure]) (zj _) 3 7 8 9 zc rfl rfl rfl rfl) ?_
   rw[show List.drop 0 (List.take (xY N m+k) (ux (List.take (xY N m+k) (uJ N))))++List.drop 0 (List.take 1 [[zB (Xl N ((zbb N m).getD k 0).toNat)]])=ux ((uJ N).take (xY N m+k+1)) from by rw[e1];exact Ju l1.symm]
   refine sJ ?_
   refine sX (zaS hd0 (hlb (xY N m+k) _ _) (by simp[zb,Pure]) (zom _) 3 7 8 9 zc rfl rfl rfl rfl) ?_
   rw[show List.drop 0 (List.take (xY N m+k) (zaO (List.take (xY N m+k) (Wq P.zJ N))))++List.drop 0 (List.take 1 [[D.sc (.int .u64 (zhO P.zJ ((QZ N m).getD k (0,0)).1))]])=zaO ((Wq P.zJ N).take (xY N m+k+1)) from by rw[e2];exact zpv l2.symm]
   refine sJ ?_
   refine sI ?_
   refine⟨xY N m+k+1,zo,zd,?_⟩
   exact zm 10 zs rfl sQ sQ
  ·have hi':i=xY N N.length:=by have:¬i<xY N N.length:=sO
                                omega
   subst hi'
   rw[List.take_of_length_le zo,List.take_of_length_le zo]
   refine sX (zaS hd0 (hall _ _) (by simp[zb,Pure]) (zj _) 3 7 8 9 zc rfl rfl rfl rfl) ?_
   rw[Vq]
   refine ye [6,11,87] (λi:Nat=>[(88,.sc (.int .i64 i))])
    (λi=>[.row true P.cells,.row true [.sc (.slice none 0 0),.sc (.slice none 0 0),.sc (.slice none 0 0),.sc (.slice none 0 0)],.row true (zl0 M N),.row true (Z9 P.zJ M N (zB (Xl N 0)) 7 (xY N N.length) 8 (xY N N.length) 9 i),
     .vec false (xY N N.length) 2 (wC (wL N N.length)),.vec false N.length 1 (zI (YO N N.length)),.vec false N.length 1 (zI (qJ N N.length)),.vec true (xY N N.length) 1 (ux (uJ N)),.vec true (xY N N.length) 1 (zaO (Wq P.zJ N)),.vec true i 1 (ux ((Y6 P.zJ N).take i))])
    (λi=>i≤P.zJ.length) (λi=>P.zJ.length-i) 0 ?_
   refine sW ?_
   refine⟨zo,by exact sK,rfl,?_⟩
   rintro k hk
   refine sW ?_
   refine sR ?_
   refine sS (λh2=>?_) λh2=>?_
   ·have hk':k<P.zJ.length:=sO
    have e1:=zjB (N:=N) hk'
    have l1:((Y6 P.zJ N).take k).length=k:=by rw[List.length_take];omega
    refine sX (zaS hd1 (hfair k _ _ _ k) (by simp[zb,Pure]) (zj _) 3 7 8 9 zc rfl rfl rfl rfl) ?_
    refine sJ ?_
    refine sI ?_
    refine⟨k+1,zo,zd,?_⟩
    dsimp only
    rw[e1]
    refine zm 10 zs rfl sQ (sU ?_)
    exact zp (Ju l1.symm)
   ·have hk':k=P.zJ.length:=by have:¬k<P.zJ.length:=sO
                               omega
    subst hk'
    rw[List.take_of_length_le zo]
    refine .yP _ _ (.cons _ _ _ _ (.agg _ _ (.cons _ _ _ _ (.refl _) (.cons _ _ _ _ (.own _ _ _ _ _ _ _ _ rfl ?_) (.cons _ _ _ _ (.own _ _ _ _ _ _ _ _ rfl ?_) (.cons _ _ _ _ (.own _ _ _ _ _ _ _ _ rfl ?_) .nil))))) (.cons _ _ _ _ (.refl _) (.cons _ _ _ _ (.refl _) .nil)))
    ·rw[zw (by simp[ux,hNl])];exact z8 _
    ·rw[zw (by simp[zaO,hLl])];exact z8 _
    ·rw[zw (by simp[ux,hFl])];exact z8 _
 ·have hb:decide ((xY N N.length:Int)≤600)=false:=decide_eq_false zo
  rw[hb,if_neg hA]
  refine sW ?_
  exact .yP _ _ (.cons _ _ _ _ (.agg _ _ (.cons _ _ _ _ (.none _) (.cons _ _ _ _ (.none _) (.cons _ _ _ _ (.none _) (.cons _ _ _ _ (.none _) .nil))))) (.cons _ _ _ _ (.none _) (.cons _ _ _ _ (.refl _) .nil)))
end
section
open Go.RowKit
namespace ze
def Jz (s m:Nat) (e:zO):Prop:=0≤e.1∧e.1<(s:Int)∧0≤e.2∧e.2<(m:Int)
theorem Jz.mono {s m m':Nat} {e:zO} (h:Jz s m e) (hm:m≤m'):Jz s m' e:=⟨h.1,h.2.1,h.2.2.1,by have:=h.2.2.2;omega⟩
theorem zg8 {P:ze} {tok:Int} {st n:Nat} {M:List Int}:∀(L:List Int) (marks:List (List Int)) (yR:List qC) (cur:List zO) (last:qC),(∀k∈L,k∈P.Yh M)→(∀e∈cur,Jz P.zJ.length marks.length e) →
  marks.length≤(P.yT tok st n M L marks yR cur last).marks.length∧∀e∈(P.yT tok st n M L marks yR cur last).cur,Jz P.zJ.length (P.yT tok st n M L marks yR cur last).marks.length e
 | [],marks,yR,cur,last,_,hc=>⟨Nat.le_refl _,hc⟩
 | k::r,marks,yR,cur,last,hL,hc=>by
  rw[YY]
  split
  ·exact⟨Nat.le_refl _,hc⟩
  ·split
   ·exact⟨Nat.le_refl _,hc⟩
   ·rename_i h1 h2
    have h2:Y9 marks (P.wy M k) tok st=0:=zo
    have hl:=zei (marks:=marks) (m:=P.wy M k) (tok:=tok) (st:=st)
    obtain⟨_,k1,k2,_⟩:=zea (hL k zs)
    obtain⟨q1,q2⟩:=zg8 (P:=P) (tok:=tok) (st:=st) (n:=n) (M:=M) r (ZB marks (P.wy M k) tok st) (WE marks yR (P.wy M k) tok st ((n:Int),k)) (cur++[(k,Vd marks (P.wy M k) tok st)]) ((n:Int),k)
     (λx hx=>hL x (by simp[hx])) (λe he=>by
      rcases List.mem_append.1 he with he|he
      ·exact(hc e he).mono hl
      ·rw[List.mem_singleton] at he
       subst he
       have hm:=zsl h2
       have hi:=List.idxOf_lt_length_of_mem hm
       have e:Vd marks (P.wy M k) tok st=(zek (ZB marks (P.wy M k) tok st) (P.wy M k):Int):=by unfold Vd;rw[if_pos h2]
       refine⟨k1,by show k<_;omega,?_,?_⟩
       ·show 0≤Vd marks (P.wy M k) tok st
        rw[e];omega
       ·show Vd marks (P.wy M k) tok st<_
        rw[e];unfold zek;omega)
    exact⟨Nat.le_trans hl q1,q2⟩
theorem znT {P:ze} {tok:Int} {st:Nat} (hst:st≤200):∀(f n:Nat) (marks:List (List Int)) (yR:List qC) (next:List (List zO)) (last:qC),Sp P tok st marks yR→(∀l∈next,∀e∈l,Jz P.zJ.length marks.length e)→next.length=n→n≤marks.length→n+f=201 →
  (P.Z5 tok st f n marks yR next last).e=0→(P.Z5 tok st f n marks yR next last).next.length=(P.Z5 tok st f n marks yR next last).marks.length∧marks.length≤(P.Z5 tok st f n marks yR next last).marks.length ∧
   ∀l∈(P.Z5 tok st f n marks yR next last).next,∀e∈l,Jz P.zJ.length (P.Z5 tok st f n marks yR next last).marks.length e
 | 0,n,marks,yR,next,last,hS,_,_,hn,hf,_=>by have:=hS.room;omega
 | f+1,n,marks,yR,next,last,hS,hN,hl,hn,hf,he=>by
  simp only[Z5] at he ⊢
  split
  ·rename_i hlt
   rw[if_pos hlt] at he
   have hM:=hS.vZ _ (XI hlt)
   obtain⟨q1,q2,_⟩:=QF (tok:=tok) (st:=st) (n:=n) hM (P.Yh (marks.getD n [])) marks yR [] last (λ_ h=>h) hS hlt
   obtain⟨r1,r2⟩:=zg8 (P:=P) (tok:=tok) (st:=st) (n:=n) (M:=marks.getD n []) (P.Yh (marks.getD n [])) marks yR [] last (λ_ h=>h) zs
   split
   ·rename_i h0
    rw[if_pos h0] at he
    exact absurd he h0
   ·rename_i h0
    rw[if_neg h0] at he
    obtain⟨t1,t2,t3⟩:=znT hst f (n+1) _ _ _ _ q1 (λl hl' e he'=>by
     rcases List.mem_append.1 hl' with hl'|hl'
     ·exact(hN l hl' e he').mono q2
     ·rw[List.mem_singleton] at hl';subst hl';exact r2 e he') (by simp[hl]) zo zo he
    exact⟨t1,Nat.le_trans q2 t2,t3⟩
  ·rename_i hlt
   exact⟨by show next.length=marks.length;omega,Nat.le_refl _,hN⟩
end ze
theorem vx {P:ze} {tok st:Int} (he:P.VX tok st=0):FndN P (P.exM tok st) (P.Z2 tok st):=by
 have eM:P.exM tok st=(P.QX tok st.toNat).marks:=by unfold ze.exM;rw[if_pos he]
 have eN:P.Z2 tok st=(P.QX tok st.toNat).next:=by unfold ze.Z2;rw[if_pos he]
 unfold ze.VX at he
 split at he
 ·exfalso;omega
 rename_i h1
 have h1:P.yH=0:=zo
 split at he
 ·exfalso;omega
 rename_i h2
 unfold ze.zeJ at h2
 obtain⟨h0,_,h60⟩:=ze.xq h1
 have h30:=(xi h0).2
 obtain⟨hS,_⟩:=ze.zAK h1 (tok:=tok) (st:=st.toNat) zo
 have hr:=hS.room
 obtain⟨g1,g2⟩:=ze.zgL (P:=P) (tok:=tok) (st:=st.toNat) 201 0 [P.x0] [(-1,-1)] [] (-1,-1) zs
 obtain⟨t1,t2,t3⟩:=ze.znT (P:=P) (tok:=tok) (st:=st.toNat) zo 201 0 [P.x0] [(-1,-1)] [] (-1,-1) (ze.Sp.start h1 zo) zs rfl zs rfl he
 rw[eM,eN]
 refine⟨⟨t1,t2,zo,λl hl=>Nat.le_trans (g1 l hl) h60,t3,λm hm=>?_⟩,h1⟩
 have hk:=ze.xC (hS.vZ m hm)
 refine⟨by have:=hk.len;omega,λx hx=>?_⟩
 obtain⟨j,hj,rfl⟩:=XQ hx
 exact by have:=hk.pos j;unfold val at this;exact this
end
section
open Go.RowKit
theorem zcD {P:Program} {f:FuncId} {d:D} {H:List zf} {id:Nat} {k:Int} {t:Tree} (h:zn P f [zQ (x6 k t)] d) (hp:Pure d) (hid:H[id]? = some (.vec true 0 3 [[.sc (.int .i64 t.kind),.sc (.int .i64 t.num),.xl 3 (t.kids.map y6)]])) :
  qs P f [.agg [.sc (.int .i64 k),.sc (.int .i64 0),.own id 0 0 1]] H d (H.set id (.vec false 0 3 [[.sc (.int .i64 t.kind),.sc (.int .i64 t.num),.xl 3 (t.kids.map y6)]])) [id]:=by
 have hx:yJ [[D.sc (.int .i64 t.kind),.sc (.int .i64 t.num),.xl 3 (t.kids.map y6)]]:=by
  have:=yq t
  exact⟨this,trivial⟩
 have:=Wx (args0:=[.agg [.sc (.int .i64 k),.sc (.int .i64 0),.own 0 0 0 1]]) (args':=[zQ (x6 k t)]) (H0:=[.vec true 0 3 [[.sc (.int .i64 t.kind),.sc (.int .i64 t.num),.xl 3 (t.kids.map y6)]]]) (H:=H) (args:=[.agg [.sc (.int .i64 k),.sc (.int .i64 0),.own id 0 0 1]])
  (.cons _ _ _ _ (.agg _ _ (.cons _ _ _ _ (.refl _) (.cons _ _ _ _ (.refl _) (.cons _ _ _ _ (.own _ _ _ _ _ _ _ _ rfl (.cons _ _ _ _ (by rw[qp];exact xy _) .nil)) .nil)))) .nil) h hp [id] rfl zs (by simp[zl,zt]) ⟨zi _ hx,trivial⟩ (by simp[yE,D.yG]) (λi o ho=>by
   cases i with
   | zero =>
    simp at ho;subst ho
    show H[id]? = _
    rw[hid]
    simp only[zf.yG,yA _ hx]
   | succ i=>simp at ho)
 simpa [WB,zf.frozen,zf.yG,yA _ hx,WK] using this
def c20:PC:=.seq (OP [Bx 2 0,Bx 3 1,q 4 (.alloc [(.slice none 0 0),(.slice none 0 0)]),Mv 5 cF,Mv 6 (cI 0)]) (.seq (.seq (OP [LA 13 4 2,Ca 14 45 [13],qm 7 14]) (.seq (OP [qm 15 7,Bi 16 .neq 15 (cI 0)]) (.cond 16 (.seq (OP [q 17 (.build [(.slice none 0 0),(.slice none 0 0)] []),qm 18 7,So 2 4 17,Mv 5 cF,qm 6 18]) .ret) .skip))) (.seq (.seq (OP [LA 19 3 3,Ca 20 43 [19],qm 8 20]) (.seq (OP [qm 21 8,Bi 22 .neq 21 (cI 0)]) (.cond 22 (.seq (OP [q 23 (.build [(.slice none 0 0),(.slice none 0 0)] []),qm 24 8,So 2 4 23,Mv 5 cF,qm 6 24]) .ret) .skip))) (.seq (OP [LA 26 3 3,Bs 27 3 1 [26],q 28 (.build [(.int .i64 0),(.int .i64 0),(.slice none 0 0)] [(0,1,(cI 4)),(2,1,27)]),Ca 29 46 [28],qm 25 29,Xt 30 0 25,Xt 31 1 25,q 9 (.alloc [(.slice none 0 0),(.slice none 0 0),(.slice none 0 0),(.slice none 0 0),(.slice none 0 0)]),So 5 9 30,qm 10 31]) (.seq (.seq (OP [qm 32 10,Bi 33 .neq 32 (cI 0)]) (.cond 33 (.seq (OP [q 34 (.build [(.slice none 0 0),(.slice none 0 0)] []),qm 35 10,So 2 4 34,Mv 5 cF,qm 6 35]) .ret) .skip)) (.seq (OP [LA 37 4 2,LA 38 5 9,Ca 39 47 [37,38],qm 36 39,Xt 40 0 36,Xt 41 1 36,Xt 42 2 36,q 11 (.alloc [(.slice none 0 0),(.slice none 0 0)]),So 2 11 40,qm 12 41,qm 10 42]) (.seq (OP [LA 43 2 11,qm 44 12,Nt 45 44,qm 46 45,GT 47 46 (.move 10),GT 48 46 (.bin .eql 47 (cI 0)),Pk 49 46 48 cF,qm 50 10,So 2 4 43,qm 5 49,qm 6 50]) .ret))))))
theorem zh4:zv Tryz.prog 20 51 [.agg 4 2,.tmp 5,.tmp 6] c20:=fK Tryz.func20
theorem zq5 (W:zA) (hW:W.Fits) (s1:W.start.length≤1048576) (r1:∀l∈W.next,l.length≤1048576) (t:Tree) (hs:Small t) :
  ∃s l,zn Tryz.prog 20 [wb W,zQ t] (.yP [.agg [zB s,zB l],.sc (.bool (decide (W.yF=0∧yF zU t=0∧ZA t=0)&&!(qt W (qY t)))),.sc (.int .i64 (if W.yF≠0 then W.yF else if yF zU t≠0 then yF zU t else ZA t))]) ∧
   (W.yF=0→yF zU t=0→ZA t=0→U6 W (qY t) (xj W (qY t)).1 (xj W (qY t)).2 (xn W (qY t)).2=.yP [.agg [zB s,zB l],.sc (.bool (qt W (qY t))),.sc (.int .i64 0)])∧(¬(W.yF=0∧yF zU t=0∧ZA t=0∧qt W (qY t)=true)→s=[]∧l=[]):=by
 have hC:=zaJ W hW
 have hL:=Ys t hs
 have hM:=zvO (x6 4 t) (vW hs)
 rw[zpR] at hM
 by_cases h1:W.yF=0
 ·by_cases h2:yF zU t=0
  ·by_cases h3:ZA t=0
   ·have hb:=zai hW h1 s1 r1 h3
    have hF:=zxj hb
    obtain⟨s,l,e1,e2⟩:=ztC hb
    rw[e1] at hF
    refine⟨s,l,?_,λ_ _ _=>e1,λh=>e2 (by cases e:qt W (qY t);rfl;exact absurd ⟨h1,h2,h3,e⟩ h)⟩
    rw[if_neg (by simpa using h1),if_neg (by simpa using h2),decide_eq_true ⟨h1,h2,h3⟩,Bool.true_and]
    rw[h1] at hC
    rw[h2] at hL
    rw[h3] at hM ⊢
    generalize qt W (qY t)=b at *
    refine za zh4 zs (by simp[zb,we,zh]) ?_ (by simp[Pure,zb,zj])
    unfold wb at *
    refine sR ?_
    refine sC hC ?_
    refine sC hL ?_
    refine sE (zcD hM (by simp[Pure,zb,qX]) rfl) ?_
    refine sC hF ?_
    cases b
    ·refine sW ?_
     exact sP
    ·refine sW ?_
     exact sP
   ·refine⟨[],[],?_,λ_ _ h=>absurd h h3,λ_=>⟨rfl,rfl⟩⟩
    rw[if_neg (by simpa using h1),if_neg (by simpa using h2),decide_eq_false (λh=>h3 h.2.2),Bool.false_and]
    rw[h1] at hC
    rw[h2] at hL
    generalize ZA t=c at *
    refine za zh4 zs (by simp[zb,we,zh]) ?_ (by simp[Pure,zb,zj])
    unfold wb at *
    refine sR ?_
    refine sC hC ?_
    refine sC hL ?_
    refine sE (zcD hM (by simp[Pure,zb,qX]) rfl) ?_
    refine sS (λg=>?_) λg=>?_
    ·unfold zB
     exact sP
    ·exact absurd (sO) h3
  ·refine⟨[],[],?_,λ_ h=>absurd h h2,λ_=>⟨rfl,rfl⟩⟩
   rw[if_neg (by simpa using h1),if_pos h2,decide_eq_false (λh=>h2 h.2.1),Bool.false_and]
   rw[h1] at hC
   generalize yF zU t=c at *
   refine za zh4 zs (by simp[zb,we,zh]) ?_ (by simp[Pure,zb,zj])
   unfold wb at *
   refine sR ?_
   refine sC hC ?_
   refine sC hL ?_
   refine sS (λg=>?_) λg=>?_
   ·unfold zB
    exact sP
   ·exact absurd (sO) h2
 ·refine⟨[],[],?_,λh=>absurd h h1,λ_=>⟨rfl,rfl⟩⟩
  rw[if_pos h1,decide_eq_false (λh=>h1 h.1),Bool.false_and]
  generalize W.yF=c at *
  refine za zh4 zs (by simp[zb,we,zh]) ?_ (by simp[Pure,zb,zj])
  unfold wb at *
  refine sR ?_
  refine sC hC ?_
  refine sS (λg=>?_) λg=>?_
  ·unfold zB
   exact sP
  ·exact absurd (sO) h1
end
section
open Go.RowKit
def Jm (k a b c:Int):D:=.agg [.sc (.int .i64 k),.sc (.int .i64 a),.sc (.int .i64 b),.sc (.int .i64 c)]
theorem U4 (k a b c:Int):Pure (Jm k a b c):=by simp[Jm,Pure,zb]
def vj (k a b c:Int):Int :=
 if k<1∨14<k∨a<0∨62<a∨b<0∨62<b∨(k≤4∧b≠0) then 1
 else if (k≤3∧(c<1∨3<c))∨(3<k∧c≠0) then 1 else 0
def Um (n:Int):Tree:=u9 5 (vE 3 n) (x6 4 (vE 3 63))
def Vb (a:Int):Nat→Tree
 | 0=>x6 10 (Um a)
 | n+1=>x6 10 (u9 5 (Um a) (x6 7 (Vb a n)))
def znO (a b:Int):Tree:=x6 11 (u9 6 (x6 4 (Um a)) (x6 10 (Um b)))
def zn6 (a b:Int):Tree:=u9 6 (u9 8 (x6 4 (Um b)) (Um a)) (x6 11 (x6 4 (Um b)))
def zcC (k a b c:Int):Tree :=
 if k=1 then Vb a (c-1).toNat else if k=2 then x6 4 (Vb a (c-1).toNat)
 else if k=3 then u9 5 (Vb a (c-1).toNat) (x6 4 (Vb a c.toNat))
 else if k=4 then u9 6 (u9 8 (vE 3 63) (Um a)) (x6 11 (vE 3 63))
 else if k=5 then u9 6 (x6 10 (Um a)) (x6 10 (Um b))
 else if k=6 then u9 6 (x6 4 (x6 10 (Um a))) (x6 10 (Um b))
 else if k=7 then u9 5 (u9 6 (x6 4 (x6 10 (Um a))) (x6 10 (Um b))) (u9 6 (x6 4 (x6 10 (Um b))) (x6 10 (Um a)))
 else if k=13 then x6 4 (u9 5 (x6 10 (Um a)) (x6 10 (Um b)))
 else if k=8 then znO a b else if k=9 then zn6 a b else if k=10 then u9 5 (znO a b) (zn6 a b)
 else if k=11 then x6 11 (u9 6 (x6 4 (Um a)) (x6 7 (u9 8 (x6 4 (Um a)) (Um b))))
 else if k=12 then x6 11 (u9 6 (x6 4 (Um a)) (x6 7 (u9 8 (vE 3 63) (Um b))))
 else x6 11 (u9 6 (x6 4 (Um a)) (x6 4 (x6 7 (x6 10 (Um b)))))
def c112:PC:=.seq (OP [Mv 2 cF]) (.seq (OP [qm 3 0,Bi 4 .geq 3 (cI 1),qm 5 4,GT 6 5 (.move 0),GT 7 5 (.bin .leq 6 (cI 3)),Pk 8 5 7 cF,qm 2 8]) .ret)
theorem zwp:zv Tryz.prog 112 9 [.tmp 2] c112:=fK Tryz.func112
def c59:PC:=.seq (OP [Bx 1 0,Mv 2 (cI 0)]) (.seq (OP [Fa 4 0 1,Lo 5 4,Ca 6 112 [5],qm 7 6,GF 8 7 (.zy 0 1),GF 9 7 (.zg 8),GF 10 7 (.bin .eql 9 (cI 4)),Pk 11 7 cT 10,qm 3 11]) (.seq (.block 0 (.seq (OP [Fa 13 0 1,Lo 14 13,Bi 15 .lss 14 (cI 1),qm 16 15,GF 17 16 (.zy 0 1),GF 18 16 (.zg 17),GF 19 16 (.bin .gtr 18 (cI 14)),Pk 20 16 cT 19,qm 21 20,GF 22 21 (.zy 1 1),GF 23 21 (.zg 22),GF 24 21 (.bin .lss 23 (cI 0)),Pk 25 21 cT 24,qm 26 25,GF 27 26 (.zy 1 1),GF 28 26 (.zg 27),GF 29 26 (.bin .geq 28 (cI 63)),Pk 30 26 cT 29,qm 31 30,GF 32 31 (.zy 2 1),GF 33 31 (.zg 32),GF 34 31 (.bin .lss 33 (cI 0)),Pk 35 31 cT 34,qm 36 35,GF 37 36 (.zy 2 1),GF 38 36 (.zg 37),GF 39 36 (.bin .geq 38 (cI 63)),Pk 40 36 cT 39,qm 41 40,GF 42 41 (.move 3),GF 43 41 (.move 42),GT 44 43 (.zy 2 1),GT 45 43 (.zg 44),GT 46 43 (.bin .neq 45 (cI 0)),GF 47 41 (.pick 43 46 cF),Pk 48 41 cT 47,qm 12 48]) (.cond 12 (.seq (OP [Mv 2 (cI 1)]) .ret) (.seq (OP [Fa 50 0 1,Lo 51 50,Ca 52 112 [51],qm 53 52,GT 54 53 (.zy 3 1),GT 55 53 (.zg 54),GT 56 53 (.bin .lss 55 (cI 1)),GT 57 53 (.move 56),GF 58 57 (.zy 3 1),GF 59 57 (.zg 58),GF 60 57 (.bin .gtr 59 (cI 3)),GT 61 53 (.pick 57 cT 60),Pk 62 53 61 cF,qm 63 62,GF 64 63 (.zy 0 1),GF 65 63 (.zg 64),GF 66 63 (.call 112 [65]),GF 67 63 (.un .not 66),GF 68 63 (.move 67),GT 69 68 (.zy 3 1),GT 70 68 (.zg 69),GT 71 68 (.bin .neq 70 (cI 0)),GF 72 63 (.pick 68 71 cF),Pk 73 63 cT 72,qm 49 73]) (.cond 49 (.seq (OP [Mv 2 (cI 1)]) .ret) .skip))))) (.seq (OP [Mv 2 (cI 0)]) .ret)))
theorem zAF:zv Tryz.prog 59 74 [.tmp 2] c59:=fK Tryz.func59
theorem ziT (k:Int):zn Tryz.prog 112 [.sc (.int .i64 k)] (.sc (.bool (decide (1≤k)&&decide (k≤3)))):=by
 refine za zwp zs (by simp[zb,Pure]) ?_ (by simp[Pure])
 refine sR ?_
 repeat' (first|refine sS (λh=>?_) λh=>?_|exact zR (by simp_all))
theorem zbh (k a b c:Int):zn Tryz.prog 59 [Jm k a b c] (.sc (.int .i64 (vj k a b c))):=by
 refine za zAF zs (by simp[zb,U4]) ?_ (by simp[Pure])
 refine sR ?_
 repeat' (first
  | refine sS (λh=>?_) λh=>?_
  | refine sC (ziT k) ?_
  | exact zR (by unfold vj;congr 2;(repeat' split)<;>first|rfl|exact sO))
def c132:PC:=.seq (OP [q 2 (.alloc [(.int .i64 0),(.int .i64 0),(.slice none 0 0)])]) (.seq (OP [qm 3 0,Ca 4 143 [3],Ca 5 143 [(cI 63)],Ca 6 137 [5],Ca 7 142 [4,6],So 3 2 7]) .ret)
theorem zuf:zv Tryz.prog 132 8 [.agg 2 3] c132:=fK Tryz.func132
def c141:PC:=.seq (OP [q 4 (.alloc [(.int .i64 0),(.int .i64 0),(.slice none 0 0)])]) (.seq (.seq (OP [qm 5 1,Bi 6 .eql 5 (cI 1)]) (.cond 6 (.seq (OP [qm 7 0,Ca 8 132 [7],Ca 9 138 [8],So 3 4 9]) .ret) .skip)) (.seq (OP [qm 10 0,Ca 11 132 [10],qm 12 0,qm 13 1,Bi 14 .sub 13 (cI 1),Ca 15 141 [12,14],Ca 16 144 [(cI 7),15],Ca 17 142 [11,16],Ca 18 138 [17],So 3 4 18]) .ret))
theorem zon:zv Tryz.prog 141 19 [.agg 4 3] c141:=fK Tryz.func141
theorem Qq (n:Int):zn Tryz.prog 132 [.sc (.int .i64 n)] (zQ (Um n)):=by
 refine za zuf zs (by simp[zb,Pure]) ?_ (zh _)
 refine sR ?_
 refine sC (zeU n) ?_
 refine sC (zeU 63) ?_
 refine sC (zc6 (vE 3 63)) ?_
 refine sC (zhR (vE 3 n) (x6 4 (vE 3 63))) ?_
 exact sP
theorem zjY (a:Int):∀n:Nat,n≤3→zn Tryz.prog 141 [.sc (.int .i64 a),.sc (.int .i64 (n+1))] (zQ (Vb a n)):=by
 intro n
 induction n with
 | zero =>
  intro _
  refine za zon zs (by simp[zb,Pure]) ?_ (zh _)
  refine sR ?_
  refine sC (Qq a) ?_
  first|refine sC (zaV (Um a)) ?_|refine sC (V3 10 (Um a)) ?_
  exact sP
 | succ n ih =>
  intro hn
  refine za zon zs (by simp[zb,Pure]) ?_ (zh _)
  refine sR ?_
  refine sC (Qq a) ?_
  refine .inl ⟨by unfold JL;rw[IntKind.wrap_i64];omega,?_⟩
  rw[show((n+1:Nat):Int)+1-1=(n:Int)+1 by omega]
  refine sW ?_
  refine sC (ih zo) ?_
  refine sC (V3 7 (Vb a n)) ?_
  refine sC (zhR (Um a) (x6 7 (Vb a n))) ?_
  first|refine sC (zaV (u9 5 (Um a) (x6 7 (Vb a n)))) ?_|refine sC (V3 10 (u9 5 (Um a) (x6 7 (Vb a n)))) ?_
  exact sP
def c131:PC:=.seq (OP [q 1 (.alloc [(.int .i64 0),(.int .i64 0),(.slice none 0 0)])]) (.seq (OP [Fa 2 1 0,Lo 3 2,Ca 4 132 [3],So 3 1 4]) .ret)
theorem zv6:zv Tryz.prog 131 5 [.agg 1 3] c131:=fK Tryz.func131
def c133:PC:=.seq (OP [q 1 (.alloc [(.int .i64 0),(.int .i64 0),(.slice none 0 0)])]) (.seq (OP [Fa 2 2 0,Lo 3 2,Ca 4 132 [3],So 3 1 4]) .ret)
theorem zu3:zv Tryz.prog 133 5 [.agg 1 3] c133:=fK Tryz.func133
def c134:PC:=.seq (OP [q 2 (.alloc [(.int .i64 0),(.int .i64 0),(.slice none 0 0)])]) (.seq (.ops [Lo 3 0,qd 4 (.y0 3 []) 1,qd 5 (.call 137 [4]) 3,Lo 6 1,qd 7 (.y0 6 []) 15,qd 8 (.call 138 [7]) 31,qd 9 (.call 136 [5,8]) 63,qd 10 (.call 135 [9]) 127,qk (.store 3 2 10) 255] true) .ret)
theorem zvR:zv Tryz.prog 134 11 [.agg 2 3] c134:=fK Tryz.func134
def c139:PC:=.seq (OP [q 2 (.alloc [(.int .i64 0),(.int .i64 0),(.slice none 0 0)])]) (.seq (.ops [Lo 3 0,qd 4 (.y0 3 []) 1,qd 5 (.call 137 [4]) 3,Lo 6 1,qd 7 (.y0 6 []) 15,qd 8 (.call 140 [(cI 8),5,7]) 31,Lo 9 0,qd 10 (.y0 9 []) 127,qd 11 (.call 137 [10]) 255,qd 12 (.call 135 [11]) 511,qd 13 (.call 136 [8,12]) 1023,qk (.store 3 2 13) 2047] true) .ret)
theorem zwd:zv Tryz.prog 139 14 [.agg 2 3] c139:=fK Tryz.func139
def c79:PC:=.seq (OP [Bx 1 0,q 2 (.alloc [(.int .i64 0),(.int .i64 0),(.slice none 0 0)])]) (.seq (OP [q 7 (.uG (.func 131) [] [1]),q 3 (.alloc [(.nilFunc)]),So 1 3 7]) (.seq (OP [q 8 (.uG (.func 133) [] [1]),q 4 (.alloc [(.nilFunc)]),So 1 4 8]) (.seq (OP [q 9 (.uG (.func 134) [] [3,4]),qm 5 9]) (.seq (OP [q 10 (.uG (.func 139) [] [4,3]),qm 6 10]) (.seq (.seq (.stop (OP [Fa 11 0 1,Lo 12 11])) (.block 0 (.seq (OP [Bi 14 .eql 12 (cI 1),qm 13 14]) (.cond 13 (.seq (OP [Fa 15 1 1,Lo 16 15,Fa 17 3 1,Lo 18 17,Ca 19 141 [16,18],So 3 2 19]) .ret) (.seq (OP [Bi 21 .eql 12 (cI 2),qm 20 21]) (.cond 20 (.seq (OP [Fa 22 1 1,Lo 23 22,Fa 24 3 1,Lo 25 24,Ca 26 141 [23,25],Ca 27 137 [26],So 3 2 27]) .ret) (.seq (OP [Bi 29 .eql 12 (cI 3),qm 28 29]) (.cond 28 (.seq (.ops [Fa 30 1 1,qd 31 (.zg 30) 1,Fa 32 3 1,qd 33 (.zg 32) 4,qd 34 (.call 141 [31,33]) 15,Fa 35 1 1,qd 36 (.zg 35) 32,Fa 37 3 1,qd 38 (.zg 37) 128,qd 39 (.bin .add 38 (cI 1)) 384,qd 40 (.call 141 [36,39]) 1023,qd 41 (.call 137 [40]) 2047,qd 42 (.call 142 [34,41]) 4095,qk (.store 3 2 42) 8191] true) .ret) (.seq (OP [Bi 44 .eql 12 (cI 4),qm 43 44]) (.cond 43 (.seq (.ops [Ca 45 143 [(cI 63)],Lo 46 3,qd 47 (.y0 46 []) 3,qd 48 (.call 140 [(cI 8),45,47]) 7,qd 49 (.call 143 [(cI 63)]) 15,qd 50 (.call 135 [49]) 31,qd 51 (.call 136 [48,50]) 63,qk (.store 3 2 51) 127] true) .ret) (.seq (OP [Bi 53 .eql 12 (cI 5),qm 52 53]) (.cond 52 (.seq (.ops [Lo 54 3,qd 55 (.y0 54 []) 1,qd 56 (.call 138 [55]) 3,Lo 57 4,qd 58 (.y0 57 []) 15,qd 59 (.call 138 [58]) 31,qd 60 (.call 136 [56,59]) 63,qk (.store 3 2 60) 127] true) .ret) (.seq (OP [Bi 62 .eql 12 (cI 6),qm 61 62]) (.cond 61 (.seq (.ops [Lo 63 3,qd 64 (.y0 63 []) 1,qd 65 (.call 138 [64]) 3,qd 66 (.call 137 [65]) 7,Lo 67 4,qd 68 (.y0 67 []) 31,qd 69 (.call 138 [68]) 63,qd 70 (.call 136 [66,69]) 127,qk (.store 3 2 70) 255] true) .ret) (.seq (OP [Bi 72 .eql 12 (cI 7),qm 71 72]) (.cond 71 (.seq (.ops [Lo 73 3,qd 74 (.y0 73 []) 1,qd 75 (.call 138 [74]) 3,qd 76 (.call 137 [75]) 7,Lo 77 4,qd 78 (.y0 77 []) 31,qd 79 (.call 138 [78]) 63,qd 80 (.call 136 [76,79]) 127,Lo 81 4,qd 82 (.y0 81 []) 511,qd 83 (.call 138 [82]) 1023,qd 84 (.call 137 [83]) 2047,Lo 85 3,qd 86 (.y0 85 []) 8191,qd 87 (.call 138 [86]) 16383,qd 88 (.call 136 [84,87]) 32767,qd 89 (.call 142 [80,88]) 65535,qk (.store 3 2 89) 131071] true) .ret) (.seq (OP [Bi 91 .eql 12 (cI 13),qm 90 91]) (.cond 90 (.seq (.ops [Lo 92 3,qd 93 (.y0 92 []) 1,qd 94 (.call 138 [93]) 3,Lo 95 4,qd 96 (.y0 95 []) 15,qd 97 (.call 138 [96]) 31,qd 98 (.call 142 [94,97]) 63,qd 99 (.call 137 [98]) 127,qk (.store 3 2 99) 255] true) .ret) (.seq (OP [Bi 101 .eql 12 (cI 8),qm 100 101]) (.cond 100 (.seq (OP [qm 102 5,q 103 (.y0 102 []),So 3 2 103]) .ret) (.seq (OP [Bi 105 .eql 12 (cI 9),qm 104 105]) (.cond 104 (.seq (OP [qm 106 6,q 107 (.y0 106 []),So 3 2 107]) .ret) (.seq (OP [Bi 109 .eql 12 (cI 10),qm 108 109]) (.cond 108 (.seq (OP [qm 110 5,q 111 (.y0 110 []),qm 112 6,q 113 (.y0 112 []),Ca 114 142 [111,113],So 3 2 114]) .ret) (.seq (OP [Bi 116 .eql 12 (cI 11),qm 115 116]) (.cond 115 (.seq (.ops [Lo 117 3,qd 118 (.y0 117 []) 1,qd 119 (.call 137 [118]) 3,Lo 120 3,qd 121 (.y0 120 []) 15,qd 122 (.call 137 [121]) 31,Lo 123 4,qd 124 (.y0 123 []) 127,qd 125 (.call 140 [(cI 8),122,124]) 255,qd 126 (.call 144 [(cI 7),125]) 511,qd 127 (.call 136 [119,126]) 1023,qd 128 (.call 135 [127]) 2047,qk (.store 3 2 128) 4095] true) .ret) (.seq (OP [Bi 130 .eql 12 (cI 12),qm 129 130]) (.cond 129 (.seq (.ops [Lo 131 3,qd 132 (.y0 131 []) 1,qd 133 (.call 137 [132]) 3,qd 134 (.call 143 [(cI 63)]) 7,Lo 135 4,qd 136 (.y0 135 []) 31,qd 137 (.call 140 [(cI 8),134,136]) 63,qd 138 (.call 144 [(cI 7),137]) 127,qd 139 (.call 136 [133,138]) 255,qd 140 (.call 135 [139]) 511,qk (.store 3 2 140) 1023] true) .ret) .skip)))))))))))))))))))))))))))) (.seq (.ops [Lo 141 3,qd 142 (.y0 141 []) 1,qd 143 (.call 137 [142]) 3,Lo 144 4,qd 145 (.y0 144 []) 15,qd 146 (.call 138 [145]) 31,qd 147 (.call 144 [(cI 7),146]) 63,qd 148 (.call 137 [147]) 127,qd 149 (.call 136 [143,148]) 255,qd 150 (.call 135 [149]) 511,qk (.store 3 2 150) 1023] true) .ret))))))
theorem zzn:zv Tryz.prog 79 151 [.agg 2 3] c79:=fK Tryz.func79
def xh (k a b c:Int):List D:=[.sc (.int .i64 k),.sc (.int .i64 a),.sc (.int .i64 b),.sc (.int .i64 c)]
theorem zsP (k a b c:Int):zn Tryz.prog 131 [.yO (xh k a b c)] (zQ (Um a)):=by
 refine za zv6 zs (by simp[zb,Pure,xh]) ?_ (zh _)
 refine sR ?_
 refine sC (Qq a) ?_
 exact sP
theorem zqZ (k a b c:Int):zn Tryz.prog 133 [.yO (xh k a b c)] (zQ (Um b)):=by
 refine za zu3 zs (by simp[zb,Pure,xh]) ?_ (zh _)
 refine sR ?_
 refine sC (Qq b) ?_
 exact sP
def fnA (k a b c:Int):D:=.fn (.func 131) [] [.yO (xh k a b c)]
def fnB (k a b c:Int):D:=.fn (.func 133) [] [.yO (xh k a b c)]
theorem zr5 (k a b c:Int):zn Tryz.prog 134 [.yO [fnA k a b c],.yO [fnB k a b c]] (zQ (znO a b)):=by
 refine za zvR zs (by simp[zb,Pure,xh,fnA,fnB]) ?_ (zh _)
 refine sR ?_
 refine sC (zsP k a b c) ?_
 refine sC (zc6 (Um a)) ?_
 refine sC (zqZ k a b c) ?_
 refine sC (zaV (Um b)) ?_
 refine sC (zlJ _ _) ?_
 refine sC (Jw _) ?_
 exact sP
theorem zrR (k a b c:Int):zn Tryz.prog 139 [.yO [fnB k a b c],.yO [fnA k a b c]] (zQ (zn6 a b)):=by
 refine za zwd zs (by simp[zb,Pure,xh,fnA,fnB]) ?_ (zh _)
 refine sR ?_
 repeat' (first
  | refine sC (zsP k a b c) ?_
  | refine sC (zqZ k a b c) ?_
  | refine sC (zc6 _) ?_
  | refine sC (Jw _) ?_
  | refine sC (zlJ _ _) ?_
  | refine sC (zdd 8 _ _) ?_
  | exact qq rfl (.refl _))
theorem zrW (k a b c:Int) (h:vj k a b c=0):zn Tryz.prog 79 [Jm k a b c] (zQ (zcC k a b c)):=by
 have hc:(k=1∨k=2∨k=3)→1≤c∧c≤3:=λhk=>by
  unfold vj at h
  split at h
  ·omega
  ·split at h
   ·omega
   ·omega
 have m1:(k=1∨k=2∨k=3)→zn Tryz.prog 141 [.sc (.int .i64 a),.sc (.int .i64 c)] (zQ (Vb a (c-1).toNat)):=λhk=>by
  have:=zjY a (c-1).toNat (by have:=hc hk;omega)
  rwa [show(((c-1).toNat:Int))+1=c by have:=hc hk;omega] at this
 have m2:(k=1∨k=2∨k=3)→zn Tryz.prog 141 [.sc (.int .i64 a),.sc (.int .i64 (c+1))] (zQ (Vb a c.toNat)):=λhk=>by
  have:=zjY a c.toNat (by have:=hc hk;omega)
  rwa [show((c.toNat:Int))+1=c+1 by have:=hc hk;omega] at this
 refine za zzn zs (by simp[zb,U4]) ?_ (zh _)
 refine sR ?_
 refine zH (Yj (λi=>!(Nat.beq i 1)) (env':=[(1,.yO (xh k a b c)),(2,.loc 1 0),(3,.yO [fnA k a b c]),(4,.yO [fnB k a b c]),(5,.fn (.func 134) [] [.yO [fnA k a b c],.yO [fnB k a b c]]),(6,.fn (.func 139) [] [.yO [fnB k a b c],.yO [fnA k a b c]])])
  (H':=[.row false (xh k a b c),.row true [.sc (.int .i64 0),.sc (.int .i64 0),.sc (.slice none 0 0)],.row false [fnA k a b c],.row false [fnB k a b c]]) ?_ ?_) ?_
 ·exact sD
 ·exact sD
 refine sR ?_
 repeat' (first
  | refine sS (λh=>?_) λh=>?_
  | refine sC (m1 (sO)) ?_
  | refine sC (m2 (sO)) ?_
  | refine sC (zsP k a b c) ?_
  | refine sC (zqZ k a b c) ?_
  | refine sC (zr5 k a b c) ?_
  | refine sC (zrR k a b c) ?_
  | refine sC (zc6 _) ?_
  | refine sC (zaV _) ?_
  | refine sC (Jw _) ?_
  | refine sC (zeU _) ?_
  | refine sC (zlJ _ _) ?_
  | refine sC (zhR _ _) ?_
  | refine sC (zdd 8 _ _) ?_
  | refine sC (V3 7 _) ?_
  | (refine .inl ⟨by unfold JL;rw[IntKind.wrap_i64];have:=hc (sO);omega,?_⟩;refine sW ?_)
  | exact qq (by simp_all [zcC]) (.refl _))
theorem zbt (n:Int):Small (Um n):=Zy (Zs _ _) (vW (Zs _ _))
theorem zcJ (a:Int):∀n,Small (Vb a n)
 | 0=>vW (zbt a)
 | n+1=>vW (Zy (zbt a) (vW (zcJ a n)))
theorem zcx (k a b c:Int):Small (zcC k a b c):=by
 unfold zcC znO zn6
 repeat' (first|exact zbt _|exact zcJ _ _|exact Zs _ _|apply vW|apply Zy|refine XD _ ?_ ?_)
end
section
open Go.RowKit
set_option maxHeartbeats 4000000
structure qV where
 kind:Int
 scope:Int
 p:Int
 s:Int
 q:Int
 r:Int
 count:Int
def zG (x:qV):List D:=[.sc (.int .i64 x.kind),.sc (.int .i64 x.scope),.sc (.int .i64 x.p),.sc (.int .i64 x.s),.sc (.int .i64 x.q),.sc (.int .i64 x.r),.sc (.int .i64 x.count)]
def Y7 (x:qV):D:=.agg (zG x)
theorem Xx (x:qV):Pure (Y7 x):=by simp[Y7,zG,Pure,zb]
def yY (x:qV):Int :=
 if x.kind<1∨6<x.kind∨x.scope<1∨5<x.scope∨x.p<0∨63<x.p∨x.s<0∨63<x.s∨(x.kind<5∧x.s≠0)
  ∨ x.q<0∨63<x.q∨(x.scope<3∧x.q≠0)∨x.r<0∨63<x.r∨(x.scope≠2∧x.scope<4∧x.r≠0)
  ∨ x.count<0∨3<x.count∨(x.kind≠4∧x.count≠0) then 1 else 0
def noP (x:qV):Tree:=x6 4 (vE 3 x.p)
def noR (x:qV):Tree:=x6 4 (vE 3 x.r)
def zhc (x:qV) (more:Bool) (T:Tree):Tree :=
 if x.kind=2 then x6 11 (vE 3 x.p) else if x.kind=3 then x6 10 (vE 3 x.p)
 else if x.kind=5 then u9 6 (u9 8 (noP x) (vE 3 x.s)) (x6 11 (noP x))
 else if x.kind=6 then x6 11 (u9 6 (noP x) (x6 10 (vE 3 x.s)))
 else if x.kind=4∧more=true then u9 6 (u9 8 (noP x) (u9 5 (vE 3 x.p) (x6 7 T))) (x6 11 (noP x)) else x6 11 (noP x)
def zaM (x:qV):Nat→Tree
 | 0=>zhc x false (vE 0 0)
 | n+1=>zhc x true (zaM x n)
def Jg (weak:Bool) (a b:Tree):Tree:=if weak=true then u9 6 (u9 8 a b) (x6 11 a) else u9 8 a b
def znI (x:qV):Tree:=u9 6 (noP x) (u9 8 (noR x) (u9 5 (vE 3 x.s) (noR x)))
def zjr (x:qV) (T:Tree):Tree:=u9 6 (vE 3 x.r) (u9 5 (u9 5 (vE 3 x.p) (noR x)) (x6 7 T))
def upN (x:qV) (weak more:Bool) (T:Tree):Tree :=
 if x.kind=2 then Jg weak (vE 3 x.p) (vE 3 x.r) else if x.kind=3 then u9 8 (noR x) (u9 5 (vE 3 x.p) (noR x))
 else if x.kind=5 then Jg weak (noP x) (u9 6 (vE 3 x.s) (vE 3 x.r)) else if x.kind=6 then Jg weak (znI x) (vE 3 x.r)
 else if x.kind=4∧more=true then Jg weak (noP x) (zjr x T)
 else Jg weak (noP x) (vE 3 x.r)
def upT (x:qV) (weak:Bool):Nat→Tree
 | 0=>upN x weak false (vE 0 0)
 | n+1=>upN x weak true (upT x weak n)
def vg (x:qV):Tree :=
 let n:=x.count.toNat
 if x.scope=2 then u9 6 (x6 4 (x6 10 (vE 3 x.r))) (upT x false n)
 else if x.scope=3 then u9 6 (x6 11 (x6 4 (vE 3 x.q))) (u9 8 (x6 4 (vE 3 x.q)) (u9 5 (vE 3 x.q) (zaM x n)))
 else if x.scope=4 then x6 11 (u9 6 (x6 4 (u9 5 (u9 5 (vE 3 x.q) (noR x)) (x6 10 (vE 3 x.r)))) (upT x false n))
 else if x.scope=5 then x6 11 (u9 6 (x6 4 (u9 5 (vE 3 x.q) (noR x))) (upT x true n))
 else zaM x n
def c111:PC:=.seq (OP [Mv 4 cF]) (.seq (OP [qm 5 0,Bi 6 .geq 5 (cI 0),qm 7 6,GT 8 7 (.move 0),GT 9 7 (.bin .leq 8 (cI 63)),Pk 10 7 9 cF,qm 11 10,GT 12 11 (.move 1),GT 13 11 (.move 12),GF 14 13 (.move 0),GF 15 13 (.bin .eql 14 (cI 0)),GT 16 11 (.pick 13 cT 15),Pk 17 11 16 cF,qm 4 17]) .ret)
theorem zwo:zv Tryz.prog 111 18 [.tmp 4] c111:=fK Tryz.func111
def c57:PC:=.seq (OP [Bx 1 0,Mv 2 (cI 0)]) (.seq (OP [Fa 6 0 1,Lo 7 6,Bi 8 .eql 7 (cI 5),qm 9 8,GF 10 9 (.zy 0 1),GF 11 9 (.zg 10),GF 12 9 (.bin .eql 11 (cI 6)),Pk 13 9 cT 12,qm 3 13]) (.seq (OP [Fa 14 1 1,Lo 15 14,Bi 16 .eql 15 (cI 3),qm 17 16,GF 18 17 (.zy 1 1),GF 19 17 (.zg 18),GF 20 17 (.bin .eql 19 (cI 4)),Pk 21 17 cT 20,qm 22 21,GF 23 22 (.zy 1 1),GF 24 22 (.zg 23),GF 25 22 (.bin .eql 24 (cI 5)),Pk 26 22 cT 25,qm 4 26]) (.seq (OP [Fa 27 1 1,Lo 28 27,Bi 29 .eql 28 (cI 2),qm 30 29,GF 31 30 (.zy 1 1),GF 32 30 (.zg 31),GF 33 30 (.bin .eql 32 (cI 4)),Pk 34 30 cT 33,qm 35 34,GF 36 35 (.zy 1 1),GF 37 35 (.zg 36),GF 38 35 (.bin .eql 37 (cI 5)),Pk 39 35 cT 38,qm 5 39]) (.seq (.block 0 (.seq (OP [Fa 41 0 1,Lo 42 41,Bi 43 .lss 42 (cI 1),qm 44 43,GF 45 44 (.zy 0 1),GF 46 44 (.zg 45),GF 47 44 (.bin .gtr 46 (cI 6)),Pk 48 44 cT 47,qm 49 48,GF 50 49 (.zy 1 1),GF 51 49 (.zg 50),GF 52 49 (.bin .lss 51 (cI 1)),Pk 53 49 cT 52,qm 54 53,GF 55 54 (.zy 1 1),GF 56 54 (.zg 55),GF 57 54 (.bin .gtr 56 (cI 5)),Pk 58 54 cT 57,qm 40 58]) (.cond 40 (.seq (OP [Mv 2 (cI 1)]) .ret) (.seq (OP [Fa 60 2 1,Lo 61 60,Ca 62 111 [61,cT],Nt 63 62,qm 64 63,GF 65 64 (.zy 3 1),GF 66 64 (.zg 65),GF 67 64 (.move 3),GF 68 64 (.call 111 [66,67]),GF 69 64 (.un .not 68),Pk 70 64 cT 69,qm 71 70,GF 72 71 (.zy 4 1),GF 73 71 (.zg 72),GF 74 71 (.move 4),GF 75 71 (.call 111 [73,74]),GF 76 71 (.un .not 75),Pk 77 71 cT 76,qm 78 77,GF 79 78 (.zy 5 1),GF 80 78 (.zg 79),GF 81 78 (.move 5),GF 82 78 (.call 111 [80,81]),GF 83 78 (.un .not 82),Pk 84 78 cT 83,qm 59 84]) (.cond 59 (.seq (OP [Mv 2 (cI 1)]) .ret) (.seq (OP [Fa 86 6 1,Lo 87 86,Bi 88 .lss 87 (cI 0),qm 89 88,GF 90 89 (.zy 6 1),GF 91 89 (.zg 90),GF 92 89 (.bin .gtr 91 (cI 3)),Pk 93 89 cT 92,qm 94 93,GF 95 94 (.zy 0 1),GF 96 94 (.zg 95),GF 97 94 (.bin .neq 96 (cI 4)),GF 98 94 (.move 97),GT 99 98 (.zy 6 1),GT 100 98 (.zg 99),GT 101 98 (.bin .neq 100 (cI 0)),GF 102 94 (.pick 98 101 cF),Pk 103 94 cT 102,qm 85 103]) (.cond 85 (.seq (OP [Mv 2 (cI 1)]) .ret) .skip))))))) (.seq (OP [Mv 2 (cI 0)]) .ret)))))
theorem zzD:zv Tryz.prog 57 104 [.tmp 2] c57:=fK Tryz.func57
theorem zqx (n:Int) (has:Bool):zn Tryz.prog 111 [.sc (.int .i64 n),.sc (.bool has)] (.sc (.bool (decide (0≤n)&&decide (n≤63)&&(has||n==0)))):=by
 refine za zwo zs (by simp[zb,Pure]) ?_ (by simp[Pure])
 refine sR ?_
 repeat' (first|refine sS (λh=>?_) λh=>?_|exact zR (by simp_all))
theorem qf (x:qV):zn Tryz.prog 57 [Y7 x] (.sc (.int .i64 (yY x))):=by
 refine za zzD zs (by simp[zb,Xx]) ?_ (by simp[Pure])
 refine sR ?_
 repeat' (first
  | refine sS (λh=>?_) λh=>?_
  | refine sC (zqx _ _) ?_
  | exact zR (by unfold yY;congr 2;(repeat' split)<;>first|rfl|exact sO))
theorem zcl (x:qV):∀n,Small (zaM x n)
 | 0=>by
  unfold zaM zhc noP
  repeat' (first|exact Zs _ _|apply vW|apply Zy|refine XD _ ?_ ?_)
 | n+1=>by
  have:=zcl x n
  unfold zaM zhc noP
  repeat' (first|assumption|exact Zs _ _|apply vW|apply Zy|refine XD _ ?_ ?_)
theorem zgH (x:qV) (weak:Bool):∀n,Small (upT x weak n)
 | 0=>by
  unfold upT upN Jg znI zjr noP noR
  repeat' (first|exact Zs _ _|apply vW|apply Zy|refine XD _ ?_ ?_)
 | n+1=>by
  have:=zgH x weak n
  unfold upT upN Jg znI zjr noP noR
  repeat' (first|assumption|exact Zs _ _|apply vW|apply Zy|refine XD _ ?_ ?_)
theorem zae (x:qV):Small (vg x):=by
 unfold vg noR
 repeat' (first|exact zcl _ _|exact zgH _ _ _|exact Zs _ _|apply vW|apply Zy|refine XD _ ?_ ?_)
def c130:PC:=.seq (OP [Bx 2 0,q 4 (.alloc [(.int .i64 0),(.int .i64 0),(.slice none 0 0)])]) (.seq (.seq (OP [Fa 6 0 2,Lo 7 6]) (.block 0 (.seq (OP [Bi 9 .eql 7 (cI 2),qm 8 9]) (.cond 8 (.seq (OP [Fa 10 2 2,Lo 11 10,Ca 12 122 [11],Ca 13 127 [12],So 3 4 13]) .ret) (.seq (OP [Bi 15 .eql 7 (cI 3),qm 14 15]) (.cond 14 (.seq (OP [Fa 16 2 2,Lo 17 16,Ca 18 122 [17],Ca 19 125 [(cI 10),18],So 3 4 19]) .ret) (.seq (OP [Bi 21 .eql 7 (cI 5),qm 20 21]) (.cond 20 (.seq (.ops [Fa 22 2 2,qd 23 (.zg 22) 1,qd 24 (.call 122 [23]) 3,qd 25 (.call 123 [24]) 7,Fa 26 3 2,qd 27 (.zg 26) 16,qd 28 (.call 122 [27]) 63,qd 29 (.call 128 [25,28]) 127,Fa 30 2 2,qd 31 (.zg 30) 256,qd 32 (.call 122 [31]) 1023,qd 33 (.call 123 [32]) 2047,qd 34 (.call 127 [33]) 4095,qd 35 (.call 124 [29,34]) 8191,qk (.store 3 4 35) 16383] true) .ret) (.seq (OP [Bi 37 .eql 7 (cI 6),qm 36 37]) (.cond 36 (.seq (.ops [Fa 38 2 2,qd 39 (.zg 38) 1,qd 40 (.call 122 [39]) 3,qd 41 (.call 123 [40]) 7,Fa 42 3 2,qd 43 (.zg 42) 16,qd 44 (.call 122 [43]) 63,qd 45 (.call 125 [(cI 10),44]) 127,qd 46 (.call 124 [41,45]) 255,qd 47 (.call 127 [46]) 511,qk (.store 3 4 47) 1023] true) .ret) (.seq (OP [Bi 49 .eql 7 (cI 4),qm 48 49]) (.cond 48 (.seq (OP [qm 50 1,Bi 51 .gtr 50 (cI 0)]) (.cond 51 (.seq (.ops [Fa 52 2 2,qd 53 (.zg 52) 1,qd 54 (.call 122 [53]) 3,LA 55 7 2,qm 56 1,qd 57 (.bin .sub 56 (cI 1)) 16,qd 58 (.call 130 [55,57]) 63,qd 59 (.call 125 [(cI 7),58]) 127,qd 60 (.call 129 [54,59]) 255,q 5 (.alloc [(.int .i64 0),(.int .i64 0),(.slice none 0 0)]),qk (.store 3 5 60) 1023] true) (.seq (.ops [Fa 61 2 2,qd 62 (.zg 61) 1,qd 63 (.call 122 [62]) 3,qd 64 (.call 123 [63]) 7,LA 65 3 5,qd 66 (.call 128 [64,65]) 31,Fa 67 2 2,qd 68 (.zg 67) 64,qd 69 (.call 122 [68]) 255,qd 70 (.call 123 [69]) 511,qd 71 (.call 127 [70]) 1023,qd 72 (.call 124 [66,71]) 2047,qk (.store 3 4 72) 4095] true) .ret)) .skip)) .skip)))))))))))) (.seq (OP [Fa 73 2 2,Lo 74 73,Ca 75 122 [74],Ca 76 123 [75],Ca 77 127 [76],So 3 4 77]) .ret))
theorem zof:zv Tryz.prog 130 78 [.agg 4 3] c130:=fK Tryz.func130
def c185:PC:=.seq (OP [q 6 (.alloc [(.int .i64 0),(.int .i64 0),(.slice none 0 0)])]) (.seq (.seq (OP [qm 7 0]) (.cond 7 (.seq (OP [qm 8 1,q 9 (.y0 8 []),qm 10 2,q 11 (.y0 10 []),Ca 12 128 [9,11],qm 13 1,q 14 (.y0 13 []),Ca 15 127 [14],Ca 16 124 [12,15],So 3 6 16]) .ret) .skip)) (.seq (OP [qm 17 1,q 18 (.y0 17 []),qm 19 2,q 20 (.y0 19 []),Ca 21 128 [18,20],So 3 6 21]) .ret))
theorem zvw:zv Tryz.prog 185 22 [.agg 6 3] c185:=fK Tryz.func185
def c183:PC:=.seq (OP [q 1 (.alloc [(.int .i64 0),(.int .i64 0),(.slice none 0 0)])]) (.seq (OP [Fa 2 2 0,Lo 3 2,Ca 4 122 [3],Ca 5 123 [4],So 3 1 5]) .ret)
theorem zwN:zv Tryz.prog 183 6 [.agg 1 3] c183:=fK Tryz.func183
def c184:PC:=.seq (OP [q 1 (.alloc [(.int .i64 0),(.int .i64 0),(.slice none 0 0)])]) (.seq (OP [Fa 2 5 0,Lo 3 2,Ca 4 122 [3],So 3 1 4]) .ret)
theorem zuZ:zv Tryz.prog 184 5 [.agg 1 3] c184:=fK Tryz.func184
def c186:PC:=.seq (OP [q 1 (.alloc [(.int .i64 0),(.int .i64 0),(.slice none 0 0)])]) (.seq (OP [Fa 2 2 0,Lo 3 2,Ca 4 122 [3],So 3 1 4]) .ret)
theorem zvJ:zv Tryz.prog 186 5 [.agg 1 3] c186:=fK Tryz.func186
def c187:PC:=.seq (OP [q 2 (.alloc [(.int .i64 0),(.int .i64 0),(.slice none 0 0)])]) (.seq (.ops [Fa 3 3 0,qd 4 (.zg 3) 1,qd 5 (.call 122 [4]) 3,Lo 6 1,qd 7 (.y0 6 []) 15,qd 8 (.call 124 [5,7]) 31,qk (.store 3 2 8) 63] true) .ret)
theorem zwR:zv Tryz.prog 187 9 [.agg 2 3] c187:=fK Tryz.func187
def c188:PC:=.seq (OP [q 3 (.alloc [(.int .i64 0),(.int .i64 0),(.slice none 0 0)])]) (.seq (.ops [Lo 4 0,qd 5 (.y0 4 []) 1,Lo 6 1,qd 7 (.y0 6 []) 7,qd 8 (.call 123 [7]) 15,Fa 9 3 2,qd 10 (.zg 9) 32,qd 11 (.call 122 [10]) 127,Lo 12 1,qd 13 (.y0 12 []) 511,qd 14 (.call 123 [13]) 1023,qd 15 (.call 129 [11,14]) 2047,qd 16 (.call 128 [8,15]) 4095,qd 17 (.call 124 [5,16]) 8191,qk (.store 3 3 17) 16383] true) .ret)
theorem zwD:zv Tryz.prog 188 18 [.agg 3 3] c188:=fK Tryz.func188
def c189:PC:=.seq (OP [q 4 (.alloc [(.int .i64 0),(.int .i64 0),(.slice none 0 0)])]) (.seq (.ops [Lo 5 0,qd 6 (.y0 5 []) 1,Fa 7 2 1,qd 8 (.zg 7) 4,qd 9 (.call 122 [8]) 15,Lo 10 0,qd 11 (.y0 10 []) 63,qd 12 (.call 123 [11]) 127,qd 13 (.call 129 [9,12]) 255,LA 14 7 1,Lo 15 2,qd 16 (.bin .sub 15 (cI 1)) 1024,Lo 17 3,qd 18 (.call 126 [14,16,17]) 8191,qd 19 (.call 125 [(cI 7),18]) 16383,qd 20 (.call 129 [13,19]) 32767,qd 21 (.call 124 [6,20]) 65535,qk (.store 3 4 21) 131071] true) .ret)
theorem zwA:zv Tryz.prog 189 22 [.agg 4 3] c189:=fK Tryz.func189
def c126:PC:=.seq (OP [Bx 3 0,Bx 4 1,Bx 5 2,q 6 (.alloc [(.int .i64 0),(.int .i64 0),(.slice none 0 0)])]) (.seq (OP [q 10 (.uG (.func 183) [] [3]),q 7 (.alloc [(.nilFunc)]),So 1 7 10]) (.seq (OP [q 11 (.uG (.func 184) [] [3]),q 8 (.alloc [(.nilFunc)]),So 1 8 11]) (.seq (.seq (.stop (OP [Fa 12 0 3,Lo 13 12])) (.block 0 (.seq (OP [Bi 15 .eql 13 (cI 2),qm 14 15]) (.cond 14 (.seq (OP [Lo 16 5,q 17 (.uG (.func 186) [] [3]),Lo 18 8,Ca 19 185 [16,17,18],So 3 6 19]) .ret) (.seq (OP [Bi 21 .eql 13 (cI 3),qm 20 21]) (.cond 20 (.seq (.ops [Lo 22 8,qd 23 (.y0 22 []) 1,qd 24 (.call 123 [23]) 3,Fa 25 2 3,qd 26 (.zg 25) 8,qd 27 (.call 122 [26]) 31,Lo 28 8,qd 29 (.y0 28 []) 127,qd 30 (.call 123 [29]) 255,qd 31 (.call 129 [27,30]) 511,qd 32 (.call 128 [24,31]) 1023,qk (.store 3 6 32) 2047] true) .ret) (.seq (OP [Bi 34 .eql 13 (cI 5),qm 33 34]) (.cond 33 (.seq (OP [Lo 35 5,Lo 36 7,q 37 (.uG (.func 187) [] [3,8]),Ca 38 185 [35,36,37],So 3 6 38]) .ret) (.seq (OP [Bi 40 .eql 13 (cI 6),qm 39 40]) (.cond 39 (.seq (OP [q 41 (.uG (.func 188) [] [7,8,3]),qm 9 41]) (.seq (OP [Lo 42 5,qm 43 9,Lo 44 8,Ca 45 185 [42,43,44],So 3 6 45]) .ret)) (.seq (OP [Bi 47 .eql 13 (cI 4),qm 46 47]) (.cond 46 (.seq (OP [Lo 48 4,Bi 49 .gtr 48 (cI 0)]) (.cond 49 (.seq (OP [Lo 50 5,Lo 51 7,q 52 (.uG (.func 189) [] [8,3,4,5]),Ca 53 185 [50,51,52],So 3 6 53]) .ret) .skip)) .skip)))))))))))) (.seq (OP [Lo 54 5,Lo 55 7,Lo 56 8,Ca 57 185 [54,55,56],So 3 6 57]) .ret))))
theorem zuB:zv Tryz.prog 126 58 [.agg 6 3] c126:=fK Tryz.func126
def c78:PC:=.seq (OP [Bx 1 0,q 2 (.alloc [(.int .i64 0),(.int .i64 0),(.slice none 0 0)])]) (.seq (.ops [Fa 5 4 1,qd 6 (.zg 5) 1,qd 7 (.call 122 [6]) 3,Fa 8 5 1,qd 9 (.zg 8) 8,qd 10 (.call 122 [9]) 31,qd 11 (.call 123 [10]) 63,q 3 (.alloc [(.int .i64 0),(.int .i64 0),(.slice none 0 0)]),q 4 (.alloc [(.int .i64 0),(.int .i64 0),(.slice none 0 0)]),qk (.store 3 3 7) 511,qk (.store 3 4 11) 1023] true) (.seq (.seq (OP [Fa 12 1 1,Lo 13 12]) (.block 0 (.seq (OP [Bi 15 .eql 13 (cI 2),qm 14 15]) (.cond 14 (.seq (.ops [Fa 16 5 1,qd 17 (.zg 16) 1,qd 18 (.call 122 [17]) 3,qd 19 (.call 125 [(cI 10),18]) 7,qd 20 (.call 123 [19]) 15,LA 21 7 1,Fa 22 6 1,qd 23 (.zg 22) 64,qd 24 (.call 126 [21,23,cF]) 255,qd 25 (.call 124 [20,24]) 511,qk (.store 3 2 25) 1023] true) .ret) (.seq (OP [Bi 27 .eql 13 (cI 3),qm 26 27]) (.cond 26 (.seq (.ops [LA 28 3 3,qd 29 (.call 123 [28]) 1,qd 30 (.call 127 [29]) 3,Fa 31 4 1,qd 32 (.zg 31) 8,qd 33 (.call 122 [32]) 31,qd 34 (.call 123 [33]) 63,Fa 35 4 1,qd 36 (.zg 35) 128,qd 37 (.call 122 [36]) 511,LA 38 7 1,Fa 39 6 1,qd 40 (.zg 39) 2048,qd 41 (.call 130 [38,40]) 8191,qd 42 (.call 129 [37,41]) 16383,qd 43 (.call 128 [34,42]) 32767,qd 44 (.call 124 [30,43]) 65535,qk (.store 3 2 44) 131071] true) .ret) (.seq (OP [Bi 46 .eql 13 (cI 4),qm 45 46]) (.cond 45 (.seq (.ops [LA 47 3 3,LA 48 3 4,qd 49 (.call 129 [47,48]) 3,Fa 50 5 1,qd 51 (.zg 50) 8,qd 52 (.call 122 [51]) 31,qd 53 (.call 125 [(cI 10),52]) 63,qd 54 (.call 129 [49,53]) 127,qd 55 (.call 123 [54]) 255,LA 56 7 1,Fa 57 6 1,qd 58 (.zg 57) 1024,qd 59 (.call 126 [56,58,cF]) 4095,qd 60 (.call 124 [55,59]) 8191,qd 61 (.call 127 [60]) 16383,qk (.store 3 2 61) 32767] true) .ret) (.seq (OP [Bi 63 .eql 13 (cI 5),qm 62 63]) (.cond 62 (.seq (.ops [LA 64 3 3,LA 65 3 4,qd 66 (.call 129 [64,65]) 3,qd 67 (.call 123 [66]) 7,LA 68 7 1,Fa 69 6 1,qd 70 (.zg 69) 32,qd 71 (.call 126 [68,70,cT]) 127,qd 72 (.call 124 [67,71]) 255,qd 73 (.call 127 [72]) 511,qk (.store 3 2 73) 1023] true) .ret) .skip)))))))))) (.seq (OP [LA 74 7 1,Fa 75 6 1,Lo 76 75,Ca 77 130 [74,76],So 3 2 77]) .ret)))
theorem zy1:zv Tryz.prog 78 78 [.agg 2 3] c78:=fK Tryz.func78
theorem zmX (x:qV):∀n:Nat,n≤3→zn Tryz.prog 130 [Y7 x,.sc (.int .i64 n)] (zQ (zaM x n)):=by
 intro n
 induction n with
 | zero =>
  intro _
  refine za zof zs (by simp[zb,Pure,Xx]) ?_ (zh _)
  refine sR ?_
  repeat' (first
   | refine sS (λh=>?_) λh=>?_
   | refine sC (qO _) ?_
   | refine sC (VI _) ?_
   | refine sC (V1 _) ?_
   | refine sC (Jk _ _) ?_
   | refine sC (Qj _ _) ?_
   | refine sC (XA _ _) ?_
   | refine sC (VK 10 _) ?_
   | exact qq (by simp_all [zaM,zhc,noP]) (.refl _))
 | succ n ih =>
  intro hn
  have ih:=ih zo
  refine za zof zs (by simp[zb,Pure,Xx]) ?_ (zh _)
  refine sR ?_
  repeat' (first
   | refine sS (λh=>?_) λh=>?_
   | refine sC (qO _) ?_
   | refine sC (VI _) ?_
   | refine sC (V1 _) ?_
   | refine sC (Jk _ _) ?_
   | refine sC (Qj _ _) ?_
   | refine sC (XA _ _) ?_
   | refine sC (VK 10 _) ?_
   | refine sC (VK 7 _) ?_
   | refine sC ih ?_
   | (refine .inl ⟨by unfold JL;rw[IntKind.wrap_i64];omega,?_⟩;rw[show(((n+1:Nat):Int)-1)=(n:Int) by omega];refine sW ?_)
   | exact qq (by simp_all [zaM,zhc,noP]) (.refl _))
theorem XS (weak:Bool) (f g:FuncId) (c1 c2:List D) (h1:zb c1) (h2:zb c2) (a b:Tree) (hA:zn Tryz.prog f c1 (zQ a)) (hB:zn Tryz.prog g c2 (zQ b)) :
  zn Tryz.prog 185 [.sc (.bool weak),.fn (.func f) [] c1,.fn (.func g) [] c2] (zQ (Jg weak a b)):=by
 refine za zvw zs (by simp[zb,Pure,h1,h2]) ?_ (zh _)
 refine sR ?_
 repeat' (first
  | refine sS (λh=>?_) λh=>?_
  | refine sC hA ?_
  | refine sC hB ?_
  | refine sC (V1 _) ?_
  | refine sC (Jk _ _) ?_
  | refine sC (XA _ _) ?_
  | exact qq (by simp_all [Jg]) (.refl _))
def zko (x:qV):D:=.fn (.func 183) [] [.yO (zG x)]
def fnR (x:qV):D:=.fn (.func 184) [] [.yO (zG x)]
theorem zdB (x:qV):zn Tryz.prog 183 [.yO (zG x)] (zQ (noP x)):=by
 refine za zwN zs (by simp[zb,Pure,zG]) ?_ (zh _)
 refine sR ?_
 refine sC (qO _) ?_
 refine sC (VI _) ?_
 exact .refl _
theorem Jr (x:qV):zn Tryz.prog 184 [.yO (zG x)] (zQ (vE 3 x.r)):=by
 refine za zuZ zs (by simp[zb,Pure,zG]) ?_ (zh _)
 refine sR ?_
 refine sC (qO _) ?_
 exact .refl _
theorem zzb (x:qV):zn Tryz.prog 186 [.yO (zG x)] (zQ (vE 3 x.p)):=by
 refine za zvJ zs (by simp[zb,Pure,zG]) ?_ (zh _)
 refine sR ?_
 refine sC (qO _) ?_
 exact .refl _
theorem zyS (x:qV):zn Tryz.prog 187 [.yO (zG x),.yO [fnR x]] (zQ (u9 6 (vE 3 x.s) (vE 3 x.r))):=by
 refine za zwR zs (by simp[zb,Pure,zG,fnR]) ?_ (zh _)
 refine sR ?_
 repeat' (first
  | refine sC (qO _) ?_
  | refine sC (Jr x) ?_
  | refine sC (Jk _ _) ?_
  | exact qq rfl (.refl _))
theorem zzp (x:qV):zn Tryz.prog 188 [.yO [zko x],.yO [fnR x],.yO (zG x)] (zQ (znI x)):=by
 refine za zwD zs (by simp[zb,Pure,zG,fnR,zko]) ?_ (zh _)
 refine sR ?_
 repeat' (first
  | refine sC (qO _) ?_
  | refine sC (zdB x) ?_
  | refine sC (Jr x) ?_
  | refine sC (Jk _ _) ?_
  | refine sC (Qj _ _) ?_
  | refine sC (XA _ _) ?_
  | refine sC (VI _) ?_
  | exact qq rfl (.refl _))
theorem zzz (x:qV) (n:Nat) (hn:n≤3) (weak:Bool) (T:Tree) (h:zn Tryz.prog 126 [Y7 x,.sc (.int .i64 n),.sc (.bool weak)] (zQ T)) :
  zn Tryz.prog 189 [.yO [fnR x],.yO (zG x),.yO [.sc (.int .i64 ((n+1:Nat):Int))],.yO [.sc (.bool weak)]] (zQ (zjr x T)):=by
 refine za zwA zs (by simp[zb,Pure,zG,fnR]) ?_ (zh _)
 refine sR ?_
 repeat' (first
  | refine sC (qO _) ?_
  | refine sC (Jr x) ?_
  | refine sC (Jk _ _) ?_
  | refine sC (Qj _ _) ?_
  | refine sC (VK 7 _) ?_
  | refine sC (VI _) ?_
  | refine sC h ?_
  | (refine .inl ⟨by unfold JL;rw[IntKind.wrap_i64];omega,?_⟩;rw[show(((n+1:Nat):Int)-1)=(n:Int) by omega];refine sW ?_)
  | exact qq rfl (.refl _))
theorem zty (x:qV) (n:Nat) (weak:Bool) (T:Tree) (h6:0<n→zn Tryz.prog 189 [.yO [fnR x],.yO (zG x),.yO [.sc (.int .i64 n)],.yO [.sc (.bool weak)]] (zQ (zjr x T))) :
  zn Tryz.prog 126 [Y7 x,.sc (.int .i64 n),.sc (.bool weak)] (zQ (upN x weak (decide (0<n)) T)):=by
 refine za zuB zs (by simp[zb,Pure,Xx]) ?_ (zh _)
 refine sR ?_
 refine zH (Yj (λi=>!(Nat.beq i 3)) (env':=[(3,.yO (zG x)),(4,.yO [.sc (.int .i64 n)]),(5,.yO [.sc (.bool weak)]),(6,.loc 3 0),(7,.yO [zko x]),(8,.yO [fnR x])])
  (H':=[.row false (zG x),.row false [.sc (.int .i64 n)],.row false [.sc (.bool weak)],.row true [.sc (.int .i64 0),.sc (.int .i64 0),.sc (.slice none 0 0)],.row false [zko x],.row false [fnR x]]) ?_ ?_) ?_
 ·exact sD
 ·exact sD
 refine sR ?_
 repeat' (first
  | refine sS (λh=>?_) λh=>?_
  | refine sC (qO _) ?_
  | refine sC (zdB x) ?_
  | refine sC (Jr x) ?_
  | refine sC (VI _) ?_
  | refine sC (Qj _ _) ?_
  | refine sC (XA _ _) ?_
  | refine sC (XS weak _ _ _ _ (by simp[zb,Pure,zG]) (by simp[zb,Pure,zG]) _ _ (zzb x) (Jr x)) ?_
  | refine sC (XS weak _ _ _ _ (by simp[zb,Pure,zG]) (by simp[zb,Pure,zG,fnR]) _ _ (zdB x) (zyS x)) ?_
  | refine sC (XS weak _ _ _ _ (by simp[zb,Pure,zG,fnR,zko]) (by simp[zb,Pure,zG]) _ _ (zzp x) (Jr x)) ?_
  | refine sC (XS weak _ _ _ _ (by simp[zb,Pure,zG]) (by simp[zb,Pure,zG,fnR]) _ _ (zdB x) (h6 (sO))) ?_
  | refine sC (XS weak _ _ _ _ (by simp[zb,Pure,zG]) (by simp[zb,Pure,zG]) _ _ (zdB x) (Jr x)) ?_
  | exact qq (by simp_all [upN,Jg,noR]) (.refl _))
theorem zsq (x:qV) (weak:Bool):∀n:Nat,n≤3→zn Tryz.prog 126 [Y7 x,.sc (.int .i64 n),.sc (.bool weak)] (zQ (upT x weak n)):=by
 intro n
 induction n with
 | zero=>exact λ_=>zty x 0 weak (vE 0 0) (λh=>zo)
 | succ n ih =>
  intro hn
  have:=zty x (n+1) weak (upT x weak n) (λ_=>zzz x n zo weak _ (ih zo))
  rw[show decide (0<n+1)=true from rfl] at this
  exact this
theorem ztJ (x:qV) (h:yY x=0):zn Tryz.prog 78 [Y7 x] (zQ (vg x)):=by
 have hc:0≤x.count∧x.count≤3:=by
  unfold yY at h
  split at h<;>omega
 have hn:x.count=(x.count.toNat:Int):=zo
 have hg:=zmX x x.count.toNat zo
 have hu:=λweak=>zsq x weak x.count.toNat zo
 rw[←hn] at hg hu
 clear hn hc h
 refine za zy1 zs (by simp[zb,Xx]) ?_ (zh _)
 refine sR ?_
 repeat' (first
  | refine sS (λh=>?_) λh=>?_
  | refine sC hg ?_
  | refine sC (hu true) ?_
  | refine sC (hu false) ?_
  | refine sC (qO _) ?_
  | refine sC (VI _) ?_
  | refine sC (V1 _) ?_
  | refine sC (Jk _ _) ?_
  | refine sC (Qj _ _) ?_
  | refine sC (XA _ _) ?_
  | refine sC (VK 10 _) ?_
  | exact qq (by simp_all [vg,noR]) (.refl _))
end
section
open Go.RowKit
set_option maxHeartbeats 4000000
end
section
open Go.RowKit
end
section
open Go.RowKit
noncomputable def UC (e:Int) (t:Tree):D:=.yP [zQ (if e=0 then t else vE 0 0),.sc (.int .i64 e)]
theorem JO (e:Int) (t:Tree):Pure (UC e t):=by simp[UC,Pure,zb,zh]
theorem Xu {H:List zf} {e:Int} (h:e≠0) (t:Tree):Deep H (.yP [.agg [.sc (.int .i64 0),.sc (.int .i64 0),.sc (.slice none 0 0)],.sc (.int .i64 e)]) (UC e t):=by
 unfold UC
 rw[if_neg h]
 exact .yP _ _ (.cons _ _ _ _ zqy (.cons _ _ _ _ (.refl _) .nil))
theorem JW {H:List zf} {e:Int} (h:e=0) {d:D} {t:Tree} (k:Deep H d (zQ t)):Deep H (.yP [d,.sc (.int .i64 0)]) (UC e t):=by
 subst h
 unfold UC
 rw[if_pos rfl]
 exact .yP _ _ (.cons _ _ _ _ k (.cons _ _ _ _ (.refl _) .nil))
noncomputable def zfQ (x:qV):Int:=if yY x=0 then yF zU (vg x) else yY x
noncomputable def zjb (k a b c:Int):Int:=if vj k a b c=0 then yF zU (zcC k a b c) else vj k a b c
def c42u:PC:=.seq (OP [Bx 1 0,q 2 (.alloc [(.int .i64 0),(.int .i64 0),(.slice none 0 0)]),Mv 3 (cI 0)]) (.seq (.seq (OP [LA 7 4 1,Ca 8 59 [7],qm 4 8]) (.seq (OP [qm 9 4,Bi 10 .neq 9 (cI 0)]) (.cond 10 (.seq (OP [q 11 (.build [(.int .i64 0),(.int .i64 0),(.slice none 0 0)] []),qm 12 4,So 3 2 11,qm 3 12]) .ret) .skip))) (.seq (OP [LA 13 4 1,Ca 14 79 [13],q 5 (.alloc [(.int .i64 0),(.int .i64 0),(.slice none 0 0)]),So 3 5 14]) (.seq (.seq (OP [LA 15 3 5,Ca 16 43 [15],qm 6 16]) (.seq (OP [qm 17 6,Bi 18 .neq 17 (cI 0)]) (.cond 18 (.seq (OP [q 19 (.build [(.int .i64 0),(.int .i64 0),(.slice none 0 0)] []),qm 20 6,So 3 2 19,qm 3 20]) .ret) .skip))) (.seq (OP [LA 21 3 5,So 3 2 21,Mv 3 (cI 0)]) .ret))))
theorem zut:zv Tryz.prog 42 22 [.agg 2 3,.tmp 3] c42u:=fK Tryz.func42
theorem zp5 (k a b c:Int):zn Tryz.prog 42 [Jm k a b c] (UC (zjb k a b c) (zcC k a b c)):=by
 refine za zut zs (by simp[zb,U4]) ?_ (JO _ _)
 unfold zjb
 refine sR ?_
 refine sC (zbh k a b c) ?_
 refine sS (λh1=>?_) λh1=>?_
 ·rw[if_neg (sO)]
  exact Xu (sO) _
 ·have h0:vj k a b c=0:=sO
  rw[if_pos h0]
  refine sC (zrW k a b c h0) ?_
  refine sC (Ys _ (zcx k a b c)) ?_
  refine sS (λh2=>?_) λh2=>?_
  ·exact Xu (sO) _
  ·exact JW (sO) (.refl _)
def c41u:PC:=.seq (OP [Bx 1 0,q 2 (.alloc [(.int .i64 0),(.int .i64 0),(.slice none 0 0)]),Mv 3 (cI 0)]) (.seq (.seq (OP [LA 7 7 1,Ca 8 57 [7],qm 4 8]) (.seq (OP [qm 9 4,Bi 10 .neq 9 (cI 0)]) (.cond 10 (.seq (OP [q 11 (.build [(.int .i64 0),(.int .i64 0),(.slice none 0 0)] []),qm 12 4,So 3 2 11,qm 3 12]) .ret) .skip))) (.seq (OP [LA 13 7 1,Ca 14 78 [13],q 5 (.alloc [(.int .i64 0),(.int .i64 0),(.slice none 0 0)]),So 3 5 14]) (.seq (.seq (OP [LA 15 3 5,Ca 16 43 [15],qm 6 16]) (.seq (OP [qm 17 6,Bi 18 .neq 17 (cI 0)]) (.cond 18 (.seq (OP [q 19 (.build [(.int .i64 0),(.int .i64 0),(.slice none 0 0)] []),qm 20 6,So 3 2 19,qm 3 20]) .ret) .skip))) (.seq (OP [LA 21 3 5,So 3 2 21,Mv 3 (cI 0)]) .ret))))
theorem zvc:zv Tryz.prog 41 22 [.agg 2 3,.tmp 3] c41u:=fK Tryz.func41
theorem zpD (x:qV):zn Tryz.prog 41 [Y7 x] (UC (zfQ x) (vg x)):=by
 refine za zvc zs (by simp[zb,Xx]) ?_ (JO _ _)
 unfold zfQ
 refine sR ?_
 refine sC (qf x) ?_
 refine sS (λh1=>?_) λh1=>?_
 ·rw[if_neg (sO)]
  exact Xu (sO) _
 ·have h0:yY x=0:=sO
  rw[if_pos h0]
  refine sC (ztJ x h0) ?_
  refine sC (Ys _ (zae x)) ?_
  refine sS (λh2=>?_) λh2=>?_
  ·exact Xu (sO) _
  ·exact JW (sO) (.refl _)
theorem zoB {t:Tree} {k:Nat} (hk:k<t.width):List.drop 0 (List.take k ((t.kids.take k).map y6))++[yy (t.yK k)]=(t.kids.take (k+1)).map y6:=by
 have:=zg6 y6 (kid_get? hk)
 rwa [qp] at this
def zCO:PC:=.seq (OP [Bi 15 .lss 14 13]) (.seq (.cond 15 .skip (.exit 0)) (.seq (.block 1 (.seq (OP [Ia 16 3 12 14,LA 17 3 16,q 5 (.alloc [(.int .i64 0),(.int .i64 0),(.slice none 0 0)]),So 3 5 17]) (.ops [Fa 18 2 3,qd 19 (.zg 18) 1,LA 20 3 5,qd 21 (.call 44 [20]) 4,qd 22 (.wz 3 1 [21]) 12,qd 23 (.append 3 40 19 22) 31,qd 24 (.zy 2 3) 63,qk (.store 1 24 23) 127] true))) (OP [Bi 25 .add 14 (cI 1),qm 14 25])))
def c44:PC:=.seq (OP [Bx 1 0,q 2 (.alloc [(.int .i64 0),(.int .i64 0),(.slice none 0 0)])]) (.seq (OP [Fa 6 0 1,Lo 7 6,Fa 8 1 1,Lo 9 8,q 10 (.build [(.int .i64 0),(.int .i64 0),(.slice none 0 0)] [(0,1,7),(1,1,9)]),q 3 (.alloc [(.int .i64 0),(.int .i64 0),(.slice none 0 0)]),So 3 3 10]) (.seq (.seq (OP [Fa 11 2 1,Lo 12 11,Ln 13 12,Mv 14 (cI 0)]) (.block 0 (.loop zCO))) (.seq (OP [LA 26 3 3,So 3 2 26]) .ret)))
theorem zz1:zv Tryz.prog 44 27 [.agg 2 3] c44:=fK Tryz.func44
theorem zkH:∀t:Tree,t.wf zU→zn Tryz.prog 44 [zQ t] (zQ t):=by
 intro t
 induction t using Tree.ind with
 | h t ih =>
  intro hwf
  have hs:=W5 t hwf
  have hsz:=hs.width
  have har:=uk ((xO _ _).1 hwf).1
  refine za zz1 zs (by simp[zb,zh]) ?_ (zh _)
  refine sR ?_
  rw[List.length_map]
  refine zH (yZ 2 2 3 zs rfl rfl) ?_
  refine zP [2,3,12,13] (λk:Nat=>[(14,.sc (.int .i64 k))]) (λk=>[(2,.row true [.sc (.int .i64 t.kind),.sc (.int .i64 t.num),.own 3 k 0 k]),(3,.vec true k 3 ((t.kids.take k).map y6))]) (λk=>k≤t.width) (λk=>t.width-k) 0 ?_
  refine sW ?_
  refine⟨zo,by exact sK,rfl,?_⟩
  rintro k hk
  refine sW ?_
  refine sR ?_
  refine sS (λh1=>?_) λh1=>?_
  ·have hk':k<t.width:=by simpa [Tree.width] using h1
   refine sL (xb hk') ?_
   refine sC (ih k hk' (xG hwf hk')) ?_
   refine sJ ?_
   refine sI ?_
   refine⟨k+1,zo,zd,?_⟩
   refine zm 4 zs rfl sQ (sU ?_)
   exact zp (zoB hk')
  ·have hk':k=t.width:=by have:¬k<t.width:=by simpa [Tree.width] using h1
                          omega
   subst hk'
   refine .agg _ _ (.cons _ _ _ _ (.refl _) (.cons _ _ _ _ (.refl _) (.cons _ _ _ _ (.own _ _ _ _ _ _ _ _ rfl ?_) .nil)))
   rw[zw (by simp[Tree.width]),Tree.width,List.take_length]
   exact z8 _
end
section
open Go.RowKit
def wE (name:ByteArray) (sort:Int) (x:qV) (k a b c:Int) (f g:Tree):List D:=.sc (.string name)::.sc (.int .i64 sort)::(zG x++(xh k a b c++(yy f++yy g)))
def y8 (name:ByteArray) (sort:Int) (x:qV) (k a b c:Int) (f g:Tree):D:=.agg (wE name sort x k a b c f g)
theorem zbf {a b:List D} (h:zb a) (k:zb b):zb (a++b):=by
 induction a with
 | nil=>exact k
 | cons d r ih=>exact⟨h.1,ih h.2⟩
theorem yN (name:ByteArray) (sort:Int) (x:qV) (k a b c:Int) (f g:Tree):Pure (y8 name sort x k a b c f g):=by
 simp only[y8,Pure,wE,zb,true_and]
 exact zbf (by simp[zG,zb,Pure]) (zbf (by simp[xh,zb,Pure]) (zbf (yq f) (yq g)))
noncomputable def Zu (sort:Int) (x:qV) (k a b c:Int) (f:Tree):Int:=if sort=1 then zfQ x else if sort=2 then zjb k a b c else if sort=3 then yF zU f else 1
noncomputable def xD (sort:Int) (x:qV) (k a b c:Int) (f:Tree):Tree:=if sort=1 then vg x else if sort=2 then zcC k a b c else f
def c19:PC:=.seq (OP [Bx 1 0,q 2 (.alloc [(.int .i64 0),(.int .i64 0),(.slice none 0 0)]),Mv 3 (cI 0)]) (.seq (.seq (OP [Fa 5 1 1,Lo 6 5]) (.block 0 (.seq (OP [Bi 8 .eql 6 (cI 1),qm 7 8]) (.cond 7 (.seq (OP [Fa 9 2 1,LA 10 7 9,Ca 11 41 [10],Xt 12 0 11,Xt 13 1 11,So 3 2 12,qm 3 13]) .ret) (.seq (OP [Bi 15 .eql 6 (cI 2),qm 14 15]) (.cond 14 (.seq (OP [Fa 16 9 1,LA 17 4 16,Ca 18 42 [17],Xt 19 0 18,Xt 20 1 18,So 3 2 19,qm 3 20]) .ret) (.seq (OP [Bi 22 .eql 6 (cI 3),qm 21 22]) (.cond 21 (.seq (.seq (OP [Fa 23 13 1,LA 24 3 23,Ca 25 43 [24],qm 4 25]) (.seq (OP [qm 26 4,Bi 27 .neq 26 (cI 0)]) (.cond 27 (.seq (OP [q 28 (.build [(.int .i64 0),(.int .i64 0),(.slice none 0 0)] []),qm 29 4,So 3 2 28,qm 3 29]) .ret) .skip))) (.seq (OP [Fa 30 13 1,LA 31 3 30,Ca 32 44 [31],So 3 2 32,Mv 3 (cI 0)]) .ret)) .skip)))))))) (.seq (OP [q 33 (.build [(.int .i64 0),(.int .i64 0),(.slice none 0 0)] []),So 3 2 33,Mv 3 (cI 1)]) .ret))
theorem zzs:zv Tryz.prog 19 34 [.agg 2 3,.tmp 3] c19:=fK Tryz.func19
theorem zaj (name:ByteArray) (sort:Int) (x:qV) (k a b c:Int) (f g:Tree) (hf:Small f) :
  zn Tryz.prog 19 [y8 name sort x k a b c f g] (UC (Zu sort x k a b c f) (xD sort x k a b c f)):=by
 refine za zzs zs (by simp[zb,yN]) ?_ (JO _ _)
 refine sR ?_
 refine sS (λh1=>?_) λh1=>?_
 ·have h1:sort=1:=sO
  have e:Zu sort x k a b c f=zfQ x:=by simp[Zu,h1]
  have t:xD sort x k a b c f=vg x:=by simp[xD,h1]
  rw[e,t]
  refine sC (zpD x) ?_
  exact .refl _
 have h1:sort≠1:=sO
 refine sS (λh2=>?_) λh2=>?_
 ·have h2:sort=2:=sO
  have e:Zu sort x k a b c f=zjb k a b c:=by simp[Zu,h2]
  have t:xD sort x k a b c f=zcC k a b c:=by simp[xD,h2]
  rw[e,t]
  refine sC (zp5 k a b c) ?_
  exact .refl _
 have h2:sort≠2:=sO
 refine sS (λh3=>?_) λh3=>?_
 ·have h3:sort=3:=sO
  refine sC (Ys f hf) ?_
  have e:Zu sort x k a b c f=yF zU f:=by simp[Zu,h1,h2,h3]
  have t:xD sort x k a b c f=f:=by simp[xD,h1,h2]
  rw[e,t]
  refine sS (λh4=>?_) λh4=>?_
  ·exact Xu (sO) _
  ·have h4:yF zU f=0:=sO
   refine sC (zkH f ((ZU _ _).1 h4).2.2) ?_
   exact JW h4 (.refl _)
 ·have h3:sort≠3:=sO
  have e:Zu sort x k a b c f=1:=by simp[Zu,h1,h2,h3]
  rw[e]
  exact Xu zc _
theorem zks (sort:Int) (x:qV) (k a b c:Int) (f:Tree) (hf:Small f):Small (xD sort x k a b c f):=by
 unfold xD
 split
 ·exact zae x
 ·split
  ·exact zcx k a b c
  ·exact hf
end
section
def rnm (names:List ByteArray) (silent:Bool) (n:Int):ByteArray :=
 if n=63∧silent=true then Xk
 else if n<0∨(names.length:Int)≤n∨63≤n then ⟨#[]⟩
 else if xd (names.getD n.toNat ⟨#[]⟩)=false then ⟨#[]⟩
 else if J6 names n.toNat (names.getD n.toNat ⟨#[]⟩)=true then ⟨#[]⟩
 else names.getD n.toNat ⟨#[]⟩
def wv (x:qV):List Int:=if x.kind=5∨x.kind=6 then [x.s,x.p] else [x.p]
def wB (x:qV):List Int:=if x.scope=2 then [x.r] else if x.scope=3 then [x.q] else if x.scope=4∨x.scope=5 then [x.q,x.r] else []
def JN (k a b:Int):List Int:=if k≤4 then [a] else [a,b]
def um (names:List ByteArray) (silent:Bool) (n:Int):Bool:=ZQ (rnm names silent n) ⟨#[]⟩
def y9 (names:List ByteArray) (sort:Int) (x:qV) (k a b c:Int) (f g:Tree):Int :=
 if sort=1 then (if yY x=0∧(wv x++wB x).any (um names true)=true then 4 else yY x)
 else if sort=2 then (if vj k a b c=0∧(JN k a b).any (um names false)=true then 4 else vj k a b c)
 else if sort=3 then (if yF zU f=0 then (if Z3 names f then 0 else 4) else yF zU f)
 else if sort=4 then (if yF xN g=0 then (if Z3 names g then 0 else 4) else yF xN g) else 0
def zhN (sort:Int) (x:qV) (k a b c:Int) (f g:Tree):Bool :=
 decide (sort≠1)&&!(x.kind==0&&x.scope==0&&x.p==0&&x.s==0&&x.q==0&&x.r==0&&x.count==0)||decide (sort≠2)&&!(k==0&&a==0&&b==0&&c==0) ||
  decide (sort≠3)&&(f.kind != 0||f.num != 0||decide (f.width>0))||decide (sort≠4)&&(g.kind != 0||g.num != 0||decide (g.width>0))
def vK (names:List ByteArray) (name:ByteArray) (sort:Int) (x:qV) (k a b c:Int) (f g:Tree):Int :=
 if xd name=false∨sort<1∨4<sort then 1 else if y9 names sort x k a b c f g≠0 then y9 names sort x k a b c f g else if zhN sort x k a b c f g=true then 1 else 0
end
section
open Go.RowKit
def zDH:PC:=.seq (OP [Bi 19 .lss 18 17]) (.seq (.cond 19 .skip (.exit 0)) (.seq (.block 1 (.seq (OP [qm 20 18,qm 6 20]) (OP [qm 21 5,qm 22 6,Ia 23 1 21 22,So 1 23 cT]))) (OP [Bi 24 .add 18 (cI 1),qm 18 24])))
def c66:PC:=.seq (OP [Bx 1 0,Mv 2 cN,Mv 3 (cI 0)]) (.seq (.seq (OP [LA 7 4 1,Ca 8 45 [7],qm 4 8]) (.seq (OP [qm 9 4,Bi 10 .neq 9 (cI 0)]) (.cond 10 (.seq (OP [qm 11 4,Mv 2 cN,qm 3 11]) .ret) .skip))) (.seq (OP [Fa 12 1 1,Lo 13 12,Ln 14 13,q 15 (.wP 1 1 [(.bool false)] 14 14),qm 5 15]) (.seq (.seq (OP [qm 16 5,Ln 17 16,Mv 18 (cI 0)]) (.block 0 (.loop zDH))) (.seq (OP [LA 25 4 1,qm 26 5,Ca 27 117 [25,26],qm 2 27,Mv 3 (cI 0)]) .ret))))
theorem zyE:zv Tryz.prog 66 28 [.tmp 2,.tmp 3] c66:=fK Tryz.func66
theorem zw4 (W:zA) (hW:W.Fits) (hc:W.yF=0):zn Tryz.prog 66 [wb W] (.yP [ur W.next.length (fwB (qj W.next WW) (W.fair.map We)),.sc (.int .i64 0)]):=by
 obtain⟨_,h600,h80,_,hnx,hfr⟩:=qe W hc
 have hC:=zaJ W hW
 rw[hc] at hC
 have hWi:=zhd W hW hc WW
 refine za zyE zs (by simp[zb,we]) ?_ (by simp[Pure,zb,zY])
 unfold wb at *
 refine sR ?_
 refine sC hC ?_
 rw[List.length_map]
 refine⟨zo,zo,zo,?_⟩
 rw[Int.toNat_natCast,show List.map D.sc [Value.bool false]=[D.sc (.bool false)] from rfl,ZI]
 refine sW ?_
 refine zP [1,5,17] (λk:Nat=>[(18,.sc (.int .i64 k))]) (λk=>[(1,.vec true 0 1 (Yt W.next.length λi=>decide (i<k)))]) (λk=>k≤W.next.length) (λk=>W.next.length-k) 0 ?_
 refine sW ?_
 refine⟨zo,by exact sK,by simp;rfl,?_⟩
 rintro k hk
 refine sW ?_
 refine sR ?_
 refine sS (λq0=>?_) λq0=>?_
 ·have q0:k<W.next.length:=sO
  refine sB ?_
  refine⟨_,yh k zo q0,?_⟩
  refine sW ?_
  refine sI ?_
  refine⟨k+1,zo,zd,zD (by exact sK) ?_⟩
  rw[uO (i:=k) (f':=λi=>decide (i<k+1)) zo λv _=>by
   by_cases e:v=k
   ·rw[if_pos e];simp;omega
   ·rw[if_neg e,Bool.eq_iff_iff];simp;omega]
  rfl
 have q0:k=W.next.length:=by have:¬k<W.next.length:=sO
                             omega
 subst q0
 rw[x3 (g':=WW) λi hi=>by simp[hi,WW]]
 rw[show ur W.next.length WW=D.xl 1 (List.drop 0 (List.take W.next.length (Yt W.next.length WW))) from by rw[zdk];rfl] at hWi
 refine sE (qh (pre:=[_]) (post:=[]) hWi (zY _ _) ⟨by simp only[Pure];exact ZJ W,trivial⟩ trivial (X9 _ _) rfl) ?_
 exact .refl _
end
section
inductive Eu (g:List (List Int)) (a c:Nat→Bool):Nat→Prop
 | base {i:Nat} (h:c i=true):Eu g a c i
 | step {i:Nat} {x:Int} (h:a i=true) (k:x∈g.getD i []) (m:Eu g a c x.toNat):Eu g a c i
open Classical in
noncomputable def euB (g:List (List Int)) (a c:Nat→Bool) (v:Nat):Bool:=decide (Eu g a c v)
theorem zvg {g:List (List Int)} {a c:Nat→Bool} {v:Nat}:euB g a c v=true↔Eu g a c v:=by unfold euB;simp
theorem zzM {g:List (List Int)} {a c:Nat→Bool} {v:Nat} {b:Bool} (h:b=true↔Eu g a c v):b=euB g a c v:=by
 rw[Bool.eq_iff_iff,h,zvg]
structure EuI (g:List (List Int)) (a c:Nat→Bool) (s:Nat→Bool) (Q:List Nat):Prop where
 sound:∀v,s v=true→Eu g a c v
 start:∀v,c v=true→s v=true
 here:∀v,v∈Q→s v=true
 closed:∀v,s v=true→v∈Q∨∀k x,x∈g.getD k []→x.toNat=v→a k=true→s k=true
structure EuJ (g:List (List Int)) (a c:Nat→Bool) (s:Nat→Bool) (Q:List Nat) (n:Nat) (D:List Nat):Prop where
 sound:∀v,s v=true→Eu g a c v
 start:∀v,c v=true→s v=true
 here:∀v,v∈n::Q→s v=true
 closed:∀v,s v=true→v=n∨v∈Q∨∀k x,x∈g.getD k []→x.toNat=v→a k=true→s k=true
 done:∀k,k∈D→a k=true→s k=true
theorem EuI.pop {g:List (List Int)} {a c s:Nat→Bool} {n:Nat} {Q:List Nat} (h:EuI g a c s (n::Q)):EuJ g a c s Q n [] where
 sound:=h.sound
 start:=h.start
 here:=h.here
 closed v hv:=by
  rcases h.closed v hv with q|q
  ·rcases List.mem_cons.1 q with e|e
   ·exact .inl e
   ·exact .inr (.inl e)
  ·exact .inr (.inr q)
 done k hk:=by cases hk
theorem EuJ.skip {g:List (List Int)} {a c s:Nat→Bool} {n k:Nat} {Q D:List Nat} (h:EuJ g a c s Q n D) (hk:a k=true→s k=true):EuJ g a c s Q n (D++[k]) where
 sound:=h.sound
 start:=h.start
 here:=h.here
 closed:=h.closed
 done j hj ha:=by
  rcases List.mem_append.1 hj with q|q
  ·exact h.done j q ha
  ·rw[List.mem_singleton] at q;subst q;exact hk ha
theorem EuJ.push {g:List (List Int)} {a c s:Nat→Bool} {n k:Nat} {Q D:List Nat} (h:EuJ g a c s Q n D) {x:Int} (hx:x∈g.getD k []) (hn:x.toNat=n) (ha:a k=true):EuJ g a c (mark s k) (Q++[k]) n (D++[k]) where
 sound v hv:=by
  rcases qM.1 hv with e|e
  ·subst e;exact .step ha hx (by rw[hn];exact h.sound n (h.here n zs))
  ·exact h.sound v e
 start v hv:=xC (h.start v hv)
 here v hv:=by
  rcases List.mem_cons.1 hv with e|e
  ·exact xC (h.here v (by simp[e]))
  ·rcases List.mem_append.1 e with e|e
   ·exact xC (h.here v (by simp[e]))
   ·rw[List.mem_singleton] at e;subst e;exact wo _ _
 closed v hv:=by
  rcases qM.1 hv with e|e
  ·exact .inr (.inl (by simp[e]))
  ·rcases h.closed v e with q|q|q
   ·exact .inl q
   ·exact .inr (.inl (by simp[q]))
   ·exact .inr (.inr λj y h1 h2 h3=>xC (q j y h1 h2 h3))
 done j hj h3:=by
  rcases List.mem_append.1 hj with q|q
  ·exact xC (h.done j q h3)
  ·rw[List.mem_singleton] at q;subst q;exact wo _ _
theorem EuJ.fin {g:List (List Int)} {a c s:Nat→Bool} {n:Nat} {Q D:List Nat} (h:EuJ g a c s Q n D) (hD:∀k x,x∈g.getD k []→x.toNat=n→k∈D):EuI g a c s Q where
 sound:=h.sound
 start:=h.start
 here v hv:=h.here v (by simp[hv])
 closed v hv:=by
  rcases h.closed v hv with q|q|q
  ·subst q;exact .inr λk x h1 h2 h3=>h.done k (hD k x h1 h2) h3
  ·exact .inl q
  ·exact .inr q
theorem EuI.end_ {g:List (List Int)} {a c s:Nat→Bool} (h:EuI g a c s []) (v:Nat):s v=euB g a c v:=zzM ⟨h.sound v,λq=>by
 induction q with
 | base h'=>exact h.start _ h'
 | step h1 k _ ih=>exact(h.closed _ ih).elim (λq=>by cases q) λq=>q _ _ k rfl h1⟩
end
section
section
open Go.RowKit
noncomputable def Uf (W:zA):Nat→Bool:=fwB (qj W.next WW) (W.fair.map We)
noncomputable def zfJ (W:zA):List D:=[zB W.start,yd W.next,uV W.label,yd W.fair,ur W.next.length (Uf W),yd (xp W.next W.next.length)]
noncomputable def Y1 (W:zA):D:=.yO (zfJ W)
theorem zpZ (W:zA):zb (zfJ W):=by simp[zfJ,zb,zj,yf,uC,zY]
theorem wk (W:zA):Pure (Y1 W):=by simp only[Y1,Pure];exact zpZ W
def wO (a:Nat→Bool):Nat→Bool:=λi=>!a i
def Ul (a b:Nat→Bool):Nat→Bool:=λi=>a i&&b i
def orF (a b:Nat→Bool):Nat→Bool:=λi=>a i||b i
noncomputable def QX (W:zA) (a:Nat→Bool):Nat→Bool:=λi=>(W.next.getD i []).any λx=>a x.toNat&&Uf W x.toNat
noncomputable def euF (W:zA) (a b:Nat→Bool):Nat→Bool:=euB W.next a (Ul b (Uf W))
noncomputable def egF (W:zA) (a:Nat→Bool):Nat→Bool:=fwB (qj W.next a) (W.fair.map We)
noncomputable def auF (W:zA) (a b:Nat→Bool):Nat→Bool:=wO (orF (euF W (wO b) (Ul (wO a) (wO b))) (egF W (wO b)))
def zCe:PC:=.seq (OP [Bi 17 .lss 16 15]) (.seq (.cond 17 .skip (.exit 0)) (.seq (.block 1 (.seq (OP [qm 18 16,qm 6 18]) (OP [qm 19 5,qm 20 6,qm 21 1,qm 22 6,q 23 (.y0 21 [22]),Ia 24 1 19 20,So 1 24 23]))) (OP [Bi 25 .add 16 (cI 1),qm 16 25])))
def c68:PC:=.seq (OP [Mv 4 cN]) (.seq (OP [qm 7 0,q 8 (.zq 7),Fa 9 0 8,Fa 10 1 9,Lo 11 10,Ln 12 11,q 13 (.wP 1 1 [(.bool false)] 12 12),qm 5 13]) (.seq (.seq (OP [qm 14 5,Ln 15 14,Mv 16 (cI 0)]) (.block 0 (.loop zCe))) (.seq (OP [qm 26 5,qm 4 26]) .ret)))
theorem zrj:zv Tryz.prog 68 27 [.tmp 4] c68:=fK Tryz.func68
theorem Qm (W:zA) (h6:W.next.length≤1000000) (p:Nat→Bool) (cl:FuncId) (caps:List D) (hcaps:zb caps) (hc:∀i:Nat,i<W.next.length→zn Tryz.prog cl (.sc (.int .i64 i)::caps) (.sc (.bool (p i)))) :
  zn Tryz.prog 68 [Y1 W,.fn (.func cl) [] caps] (ur W.next.length p):=by
 refine za zrj zs (by simp[zb,Pure,wk,hcaps]) ?_ (zY _ _)
 unfold Y1 zfJ
 refine sR ?_
 rw[List.length_map]
 refine⟨zo,zo,zo,?_⟩
 rw[Int.toNat_natCast,show List.map D.sc [Value.bool false]=[D.sc (.bool false)] from rfl,ZI]
 refine sW ?_
 refine zP [1,5,15] (λk:Nat=>[(16,.sc (.int .i64 k))]) (λk=>[(0,.vec true 0 1 (Yt W.next.length λi=>if i<k then p i else false))]) (λk=>k≤W.next.length) (λk=>W.next.length-k) 0 ?_
 refine sW ?_
 refine⟨zo,by exact sK,by simp;rfl,?_⟩
 rintro k hk
 refine sW ?_
 refine sR ?_
 refine sS (λq0=>?_) λq0=>?_
 ·have q0:k<W.next.length:=sO
  refine sC (hc k q0) ?_
  refine sB ?_
  refine⟨_,yh k zo q0,?_⟩
  refine sW ?_
  refine sI ?_
  refine⟨k+1,zo,zd,zD (by exact sK) ?_⟩
  rw[uO (i:=k) (f':=λi=>if i<k+1 then p i else false) zo λv _=>by
   by_cases e:v=k
   ·subst e;rw[if_pos zo,if_pos rfl]
   ·rw[if_neg e]
    by_cases e2:v<k
    ·rw[if_pos e2,if_pos zo]
    ·rw[if_neg e2,if_neg zo]]
  rfl
 ·have q0:k=W.next.length:=by have:¬k<W.next.length:=sO
                              omega
  subst q0
  rw[x3 (g':=p) λi hi=>if_pos hi]
  exact UP rfl
theorem zq8 (W:zA) (h6:W.next.length≤1000000) (p:Nat→Bool) (cl:FuncId) (x y:D) (hx:Pure x) (hy:Pure y) (hc:∀i:Nat,i<W.next.length→zn Tryz.prog cl [.sc (.int .i64 i),.yO [x],.yO [y]] (.sc (.bool (p i)))) :
  yr Tryz.prog 68 [Y1 W,.fn (.func cl) [] [.loc 0 0,.loc 1 0]] [.row true [x],.row true [y]] (.own 2 0 0 W.next.length) [.row true [x],.row true [y],.vec true 0 1 (Yt W.next.length p)]:=by
 refine zS zrj zs zs ?_ (by simp[zt]) (by
  intro o ho
  simp only[List.mem_cons,List.not_mem_nil,or_false] at ho
  rcases ho with rfl|rfl|rfl
  ·exact⟨zz _ hx,trivial⟩
  ·exact⟨zz _ hy,trivial⟩
  ·exact zi _ (X9 _ _))
 unfold Y1 zfJ
 refine sR ?_
 rw[List.length_map]
 refine⟨zo,zo,zo,?_⟩
 rw[Int.toNat_natCast,show List.map D.sc [Value.bool false]=[D.sc (.bool false)] from rfl,ZI]
 refine sW ?_
 refine zP [1,5,15] (λk:Nat=>[(16,.sc (.int .i64 k))]) (λk=>[(2,.vec true 0 1 (Yt W.next.length λi=>if i<k then p i else false))]) (λk=>k≤W.next.length) (λk=>W.next.length-k) 0 ?_
 refine sW ?_
 refine⟨zo,by exact sK,by simp;rfl,?_⟩
 rintro k hk
 refine sW ?_
 refine sR ?_
 refine sS (λq0=>?_) λq0=>?_
 ·have q0:k<W.next.length:=sO
  refine sN (hc k q0) ?_
  refine sB ?_
  refine⟨_,yh k zo q0,?_⟩
  refine sW ?_
  refine sI ?_
  refine⟨k+1,zo,zd,zD (by exact sK) ?_⟩
  rw[uO (i:=k) (f':=λi=>if i<k+1 then p i else false) zo λv _=>by
   by_cases e:v=k
   ·subst e;rw[if_pos zo,if_pos rfl]
   ·rw[if_neg e]
    by_cases e2:v<k
    ·rw[if_pos e2,if_pos zo]
    ·rw[if_neg e2,if_neg zo]]
  rfl
 ·have q0:k=W.next.length:=by have:¬k<W.next.length:=sO
                              omega
  subst q0
  rw[x3 (g':=p) λi hi=>if_pos hi]
  exact⟨rfl,Nat.le_refl _⟩
def c119:PC:=.seq (OP [Mv 3 cF]) (.seq (OP [Lo 4 1,qm 5 0,Ia 6 1 4 5,Lo 7 6,Nt 8 7,qm 3 8]) .ret)
theorem zwC:zv Tryz.prog 119 9 [.tmp 3] c119:=fK Tryz.func119
theorem zvn (n:Nat) (a:Nat→Bool) (i:Nat) (hi:i<n):zn Tryz.prog 119 [.sc (.int .i64 i),.yO [ur n a]] (.sc (.bool (wO a i))):=by
 refine za zwC zs (by simp[zb,Pure,zY]) ?_ (by simp[Pure])
 refine sR ?_
 refine sL (yh i zo hi) ?_
 exact .refl _
def c71:PC:=.seq (OP [Bx 3 1,Mv 4 cN]) (.seq (OP [qm 5 0,q 6 (.uG (.func 119) [] [3]),Ca 7 68 [5,6],qm 4 7]) .ret)
theorem zy6:zv Tryz.prog 71 8 [.tmp 4] c71:=fK Tryz.func71
theorem XP (W:zA) (h6:W.next.length≤1000000) (a:Nat→Bool):zn Tryz.prog 71 [Y1 W,ur W.next.length a] (ur W.next.length (wO a)):=by
 have hE:=Qm W h6 (wO a) 119 [.yO [ur W.next.length a]] (by simp[zb,Pure,zY]) (λi hi=>zvn W.next.length a i hi)
 refine za zy6 zs (by simp[zb,wk,zY]) ?_ (zY _ _)
 refine sR ?_
 refine sV hE ?_
 exact .refl _
def c120:PC:=.seq (OP [Mv 4 cF]) (.seq (OP [Lo 5 1,qm 6 0,Ia 7 1 5 6,Lo 8 7,qm 9 8,GT 10 9 (.zg 2),GT 11 9 (.move 0),GT 12 9 (.zM 1 10 11),GT 13 9 (.zg 12),Pk 14 9 13 cF,qm 4 14]) .ret)
theorem zxP:zv Tryz.prog 120 15 [.tmp 4] c120:=fK Tryz.func120
theorem zjl (n:Nat) (a b:Nat→Bool) (i:Nat) (hi:i<n):zn Tryz.prog 120 [.sc (.int .i64 i),.yO [ur n a],.yO [ur n b]] (.sc (.bool (Ul a b i))):=by
 refine za zxP zs (by simp[zb,Pure,zY]) ?_ (by simp[Pure])
 have e:Ul a b i=(a i&&b i):=rfl
 refine sR ?_
 refine sL (yh i zo hi) ?_
 cases r:a i
 ·rw[r] at e
  refine sW ?_
  rw[e]
  exact .refl _
 ·rw[r] at e
  refine sW ?_
  refine sL (yh i zo hi) ?_
  rw[e]
  exact .refl _
def c72:PC:=.seq (OP [Bx 4 1,Bx 5 2,Mv 6 cN]) (.seq (OP [qm 7 0,q 8 (.uG (.func 120) [] [4,5]),Ca 9 68 [7,8],qm 6 9]) .ret)
theorem zq1:zv Tryz.prog 72 10 [.tmp 6] c72:=fK Tryz.func72
theorem zm4 (W:zA) (h6:W.next.length≤1000000) (a b:Nat→Bool):zn Tryz.prog 72 [Y1 W,ur W.next.length a,ur W.next.length b] (ur W.next.length (Ul a b)):=by
 have hE:=Qm W h6 (Ul a b) 120 [.yO [ur W.next.length a],.yO [ur W.next.length b]] (by simp[zb,Pure,zY]) (λi hi=>zjl W.next.length a b i hi)
 refine za zq1 zs (by simp[zb,wk,zY]) ?_ (zY _ _)
 refine sR ?_
 refine sV hE ?_
 exact .refl _
theorem zjK (W:zA) (h6:W.next.length≤1000000) (a b:Nat→Bool):yr Tryz.prog 72 [Y1 W,ur W.next.length a,ur W.next.length b] [] (.own 2 0 0 W.next.length) [.row true [ur W.next.length a],.row true [ur W.next.length b],.vec true 0 1 (Yt W.next.length (Ul a b))]:=by
 have hE:=zq8 W h6 (Ul a b) 120 (ur W.next.length a) (ur W.next.length b) (zY _ _) (zY _ _) (λi hi=>zjl W.next.length a b i hi)
 refine zS zq1 zs zs ?_ (by simp[zt]) (by simp[zf.under,zl,zi _ (X9 _ _)])
 refine sR ?_
 refine sA hE ?_
 exact Nat.le_refl _
def zBj:PC:=.seq (OP [Bi 17 .lss 16 15]) (.seq (.cond 17 .skip (.exit 0)) (.seq (.block 1 (.seq (OP [Ia 18 1 14 16,Lo 19 18,qm 6 19]) (.seq (OP [Lo 20 2,qm 21 6,Ia 22 1 20 21,Lo 23 22,qm 24 23,GT 25 24 (.zg 1),GT 26 24 (.zq 25),GT 27 24 (.zy 4 26),GT 28 24 (.zg 27),GT 29 24 (.move 6),GT 30 24 (.zM 1 28 29),GT 31 24 (.zg 30),Pk 32 24 31 cF]) (.cond 32 (.seq (OP [Mv 4 cT]) .ret) .skip)))) (OP [Bi 33 .add 16 (cI 1),qm 16 33])))
def c121:PC:=.seq (OP [Mv 4 cF]) (.seq (.seq (OP [Lo 7 1,q 8 (.zq 7),Fa 9 0 8,Fa 10 1 9,Lo 11 10,qm 12 0,Ia 13 1 11 12,Lo 14 13,Ln 15 14,Mv 16 (cI 0)]) (.block 0 (.loop zBj))) (.seq (OP [Mv 4 cF]) .ret))
theorem zuv:zv Tryz.prog 121 34 [.tmp 4] c121:=fK Tryz.func121
theorem zA9 (W:zA) (hW:W.Fits) (hc:W.yF=0) (a:Nat→Bool) (i:Nat) (hi:i<W.next.length):zn Tryz.prog 121 [.sc (.int .i64 i),.yO [Y1 W],.yO [ur W.next.length a]] (.sc (.bool (QX W a i))):=by
 obtain⟨_,h600,h80,_,hnx,hfr⟩:=qe W hc
 have hrow:=λk=>xa (g:=W.next) (λl hl=>(hnx l hl).2) k
 have hFN:uZ W.next:=⟨hW.next,hW.Vu⟩
 have hgF:=hFN.at i
 refine za zuv zs (by simp[zb,Pure,zY,wk]) ?_ (by simp[Pure])
 have e:QX W a i=(W.next.getD i []).any λx=>a x.toNat&&Uf W x.toNat:=rfl
 rw[e]
 have hr:=hrow i
 unfold Y1 zfJ
 generalize Uf W=f at *
 refine sR ?_
 refine sL (xX (g:=W.next) (k:=i) zo hi) ?_
 rw[List.length_map]
 generalize W.next.getD i []=l at *
 refine zP [1,2,14,15] (λk:Nat=>[(16,.sc (.int .i64 k))]) (λ_=>[]) (λk=>k≤l.length∧∀j (hj:j<l.length),j<k→(a l[j].toNat&&f l[j].toNat)=false) (λk=>l.length-k) 0 ?_
 refine sW ?_
 refine⟨⟨zo,λj hj h=>zo⟩,by exact sK,rfl,?_⟩
 rintro k ⟨hk,hno⟩
 refine sW ?_
 refine sR ?_
 refine sS (λq0=>?_) λq0=>?_
 ·have q0:k<l.length:=sO
  have hx:=z1 hr (yz q0)
  have next:(a (l.getD k 0).toNat&&f (l.getD k 0).toNat)=false→∀j (hj:j<l.length),j<k+1→(a l[j].toNat&&f l[j].toNat)=false:=λh j hj hjk=>by
   by_cases e:j=k
   ·subst e;rw[List.getD_eq_getElem?_getD,List.getElem?_eq_getElem q0] at h;exact h
   ·exact hno j hj zo
  have yes:(a (l.getD k 0).toNat&&f (l.getD k 0).toNat)=true→(l.any λx=>a x.toNat&&f x.toNat)=true:=λh=>List.any_eq_true.2 ⟨_,yz q0,h⟩
  refine sL (yc (l:=l) (k:=k) zo q0) ?_
  generalize l.getD k 0=x at *
  refine sL (yh x.toNat zo zo) ?_
  cases r:a x.toNat
  ·rw[r] at next
   refine sW ?_
   refine sI ?_
   exact⟨k+1,⟨zo,next rfl⟩,zd,zD (by exact sK) rfl⟩
  ·rw[r] at next yes
   refine sW ?_
   refine sL (yh x.toNat zo zo) ?_
   cases r2:f x.toNat
   ·rw[r2] at next
    refine sW ?_
    refine sI ?_
    exact⟨k+1,⟨zo,next rfl⟩,zd,zD (by exact sK) rfl⟩
   ·rw[r2] at yes
    refine sW ?_
    rw[yes rfl]
    exact .refl _
 ·have q0:k=l.length:=by have:¬k<l.length:=sO
                         omega
  rw[zl2 λj hj=>hno j hj zo]
  exact .refl _
def c74:PC:=.seq (OP [Bx 2 0,Bx 3 1,Mv 4 cN]) (.seq (OP [Lo 5 2,q 6 (.uG (.func 121) [] [2,3]),Ca 7 68 [5,6],qm 4 7]) .ret)
theorem zAp:zv Tryz.prog 74 8 [.tmp 4] c74:=fK Tryz.func74
theorem zxW (W:zA) (hW:W.Fits) (hc:W.yF=0) (a:Nat→Bool):zn Tryz.prog 74 [Y1 W,ur W.next.length a] (ur W.next.length (QX W a)):=by
 obtain⟨_,h600,_⟩:=qe W hc
 have hE:=Qm W zo (QX W a) 121 [.yO [Y1 W],.yO [ur W.next.length a]] (by simp[zb,Pure,zY,wk]) (λi hi=>zA9 W hW hc a i hi)
 refine za zAp zs (by simp[zb,wk,zY]) ?_ (zY _ _)
 refine sR ?_
 refine sV hE ?_
 exact .refl _
def c76:PC:=.seq (OP [Mv 4 cN]) (.seq (OP [qm 5 0,q 6 (.zq 5),Fa 7 0 6,LA 8 4 7,qm 9 1,Ca 10 117 [8,9],qm 4 10]) .ret)
theorem zyH:zv Tryz.prog 76 11 [.tmp 4] c76:=fK Tryz.func76
theorem zs9 (W:zA) (hW:W.Fits) (hc:W.yF=0) (a:Nat→Bool):zn Tryz.prog 76 [Y1 W,ur W.next.length a] (ur W.next.length (egF W a)):=by
 have h:=zhd W hW hc a
 refine za zyH zs (by simp[zb,wk,zY]) ?_ (zY _ _)
 unfold wb zA.cells at h
 refine sR ?_
 refine sC h ?_
 exact .refl _
end
section
open Go.RowKit
def zCR:PC:=.seq (OP [Bi 24 .lss 23 22]) (.seq (.cond 24 .skip (.exit 0)) (.seq (.block 1 (.seq (OP [qm 25 23,Ia 26 1 21 23,Lo 27 26,qm 9 25,qm 10 27]) (.seq (OP [qm 28 10]) (.cond 28 (OP [qm 29 8,qm 30 9,Bs 31 1 1 [30],Ap 32 1 8 29 31,qm 8 32]) .skip)))) (OP [Bi 33 .add 23 (cI 1),qm 23 33])))
def zCH:PC:=.seq (OP [Bi 51 .lss 50 49]) (.seq (.cond 51 .skip (.exit 4)) (.seq (.block 5 (.seq (OP [Ia 52 1 48 50,Lo 53 52,qm 13 53]) (.seq (OP [qm 54 1,qm 55 13,Ia 56 1 54 55,Lo 57 56,qm 58 57,GT 59 58 (.move 7),GT 60 58 (.move 13),GT 61 58 (.zM 1 59 60),GT 62 58 (.zg 61),GT 63 58 (.un .not 62),Pk 64 58 63 cF]) (.cond 64 (.seq (OP [qm 65 7,qm 66 13,Ia 67 1 65 66,So 1 67 cT]) (OP [qm 68 8,qm 69 13,Bs 70 1 1 [69],Ap 71 1 8 68 70,qm 8 71])) .skip)))) (OP [Bi 72 .add 50 (cI 1),qm 50 72])))
def zDl:PC:=.seq (.seq (OP [qm 34 8,Ln 35 34,Bi 36 .gtr 35 (cI 0)]) (.cond 36 .skip (.exit 2))) (.block 3 (.seq (OP [qm 37 8,Ia 38 1 37 (cI 0),Lo 39 38,qm 11 39]) (.seq (OP [qm 40 8,q 41 (.slc 1 40 (some (cI 1)) none none),qm 8 41]) (.seq (OP [qm 42 0,q 43 (.zq 42),Fa 44 5 43,Lo 45 44,qm 46 11,Ia 47 1 45 46,Lo 48 47,Ln 49 48,Mv 50 (cI 0)]) (.block 4 (.loop zCH))))))
def c75:PC:=.seq (OP [Mv 6 cN]) (.seq (OP [qm 14 0,qm 15 2,qm 16 0,q 17 (.zq 16),Fa 18 4 17,Lo 19 18,Ca 20 72 [14,15,19],qm 7 20]) (.seq (OP [Mv 8 cN]) (.seq (.seq (OP [qm 21 7,Ln 22 21,Mv 23 (cI 0)]) (.block 0 (.loop zCR))) (.seq (.block 2 (.loop zDl)) (.seq (OP [qm 73 7,qm 6 73]) .ret)))))
theorem ztG:zv Tryz.prog 75 74 [.tmp 6] c75:=fK Tryz.func75
theorem Qc (c:Nat→Bool):∀n,(wI c n).length+xv c n=n
 | 0=>rfl
 | n+1=>by
  have:=Qc c n
  unfold xv at this ⊢
  rw[Vz]
  simp only[vp]
  cases h:c n<;>simp<;>omega
theorem zqX (W:zA) (hc:W.yF=0) (a b:Nat→Bool):zn Tryz.prog 75 [Y1 W,ur W.next.length a,ur W.next.length b] (ur W.next.length (euF W a b)):=by
 obtain⟨_,h600,h80,_,hnx,hfr⟩:=qe W hc
 have hin0:∀l∈W.next,xJ l W.next.length=true:=λl hl=>(hnx l hl).2
 have hrow:=λk=>xa hin0 k
 have hin':∀v y,y∈W.next.getD v []→y.toNat<W.next.length:=λv x hx=>by have:=z1 (hrow v) hx;omega
 have hB:=zjK W zo b (Uf W)
 have e0:euF W a b=euB W.next a (Ul b (Uf W)):=rfl
 rw[e0]
 clear e0
 generalize Ul b (Uf W)=c at *
 refine za ztG zs (by simp[zb,wk,zY]) ?_ (zY _ _)
 unfold Y1 zfJ at *
 generalize hT:xp W.next W.next.length=T at *
 have lT:T.length=W.next.length:=by rw[←hT,vi]
 have mT:∀(m:Nat) (x:Int),x∈T.getD m []↔∃k,k<W.next.length∧x=(k:Int)∧∃y,y∈W.next.getD k []∧y.toNat=m:=λm x=>by rw[←hT];exact XC hin' (Nat.le_refl _)
 have rT:∀m,(T.getD m []).length≤W.next.length:=λm=>by rw[←hT];exact Xv W.next W.next.length m
 refine sR ?_
 refine sA hB ?_
 refine zH (xw 8 1 zs rfl) ?_
 refine zP [0,1,7,21,22] (λk:Nat=>[(8,.own 3 (wI c k).length 0 (wI c k).length),(23,.sc (.int .i64 k))]) (λk=>[(3,.vec true (wI c k).length 1 (zI (wI c k)))]) (λk=>k≤W.next.length) (λk=>W.next.length-k) 0 ?_
 refine sW ?_
 refine⟨zo,by exact sK,rfl,?_⟩
 rintro k hk
 have hcl:=QG c k
 have eS:=Vz c k
 refine sW ?_
 refine sR ?_
 refine sS (λq0=>?_) λq0=>?_
 ·have q0:k<W.next.length:=sO
  refine sB ?_
  refine⟨_,yh k zo q0,?_⟩
  refine sW ?_
  cases r:c k
  ·rw[r,if_neg zc] at eS
   refine sW ?_
   refine sI ?_
   refine⟨k+1,zo,zd,?_⟩
   dsimp only
   rw[eS]
   exact zD (by exact sK) rfl
  ·rw[r,if_pos rfl] at eS
   refine sW ?_
   refine sJ ?_
   refine sI ?_
   refine⟨k+1,zo,zd,?_⟩
   dsimp only
   rw[eS,show(wI c k++[(k:Int)]).length=(wI c k).length+1 by simp]
   refine zm 4 zs rfl sQ (sU ?_)
   exact zp (by rw[zau,List.take_length])
 have q0:k=W.next.length:=by have:¬k<W.next.length:=sO
                             omega
 subst q0
 clear eS
 refine zP [0,1,7] (λ((s,Z,lo,hi,z7):(Nat→Bool) × List Int × Nat × Nat × Nat)=>[(8,.own 3 z7 lo hi)]) (λ(s,Z,lo,hi,z7)=>[(2,.vec true 0 1 (Yt W.next.length s)),(3,.vec true z7 1 (zI Z))])
  (λ(s,Z,lo,hi,z7)=>lo≤hi∧hi≤Z.length∧(∀x∈Z,0≤x∧x<(W.next.length:Int))∧hi-lo+xv s W.next.length≤W.next.length∧EuI W.next a c s (WV ((Z.take hi).drop lo))) (λ(s,Z,lo,hi,z7)=>hi-lo+xv s W.next.length) (c,wI c W.next.length,0,(wI c W.next.length).length,(wI c W.next.length).length) ?_
 refine sW ?_
 refine⟨⟨zo,zo,λx hx=>⟨(vR.1 hx).1,(vR.1 hx).2.1⟩,by rw[Nat.sub_zero];exact Nat.le_of_eq (Qc c _),?_⟩,by exact sK,rfl,?_⟩
 ·rw[List.take_length,List.drop_zero]
  refine⟨λv hv=>.base hv,λv hv=>hv,λv hv=>?_,λv hv=>?_⟩
  ·obtain⟨x,hx,rfl⟩:=WT.1 hv
   exact(vR.1 hx).2.2
  ·by_cases q:v<W.next.length
   ·exact .inl (WT.2 ⟨(v:Int),vR.2 ⟨zo,zo,by rw[Int.toNat_natCast];exact hv⟩,zs⟩)
   ·exact .inr λk x hx e=>absurd (e▸hin' k x hx) q
 rintro⟨s,Z,lo,hi,z7⟩ ⟨hlo,hhi,hrg,hu,hI⟩
 refine sW ?_
 refine sR ?_
 refine sS (λh1=>?_) λh1=>?_
 ·have h1:lo<hi:=sO
  rw[zoc h1 hhi,zgY] at hI
  have hx:=hrg (Z.getD lo 0) (yz zo)
  generalize hX:Z.getD lo 0=x at hI hx
  refine sB ?_
  refine⟨_,yc (l:=Z) (k:=lo) zo zo,?_⟩
  refine sW ?_
  rw[hX]
  refine⟨zo,zo,zo,?_⟩
  refine sW ?_
  rw[show lo+(hi-lo)=hi by omega]
  refine sL (xX (g:=T) (k:=x.toNat) zo zo) ?_
  rw[List.length_map]
  have hL:=rT x.toNat
  have mL:=mT x.toNat
  generalize T.getD x.toNat []=L at hL mL
  refine zP [0,1,7,48,49] (λ((s',Z',lo',hi',ver',k):(Nat→Bool) × List Int × Nat × Nat × Nat × Nat)=>[(8,.own 3 ver' lo' hi'),(50,.sc (.int .i64 k))]) (λ(s',Z',lo',hi',ver',k)=>[(2,.vec true 0 1 (Yt W.next.length s')),(3,.vec true ver' 1 (zI Z'))])
   (λ(s',Z',lo',hi',ver',k)=>k≤L.length∧lo'≤hi'∧hi'≤Z'.length∧(∀x∈Z',0≤x∧x<(W.next.length:Int))∧hi'-lo'+xv s' W.next.length<hi-lo+xv s W.next.length∧EuJ W.next a c s' (WV ((Z'.take hi').drop lo')) x.toNat (WV (L.take k))) (λ(s',Z',lo',hi',ver',k)=>L.length-k) (s,Z,lo+1,hi,z7,0) ?_
  refine sW ?_
  refine⟨⟨zo,zo,hhi,hrg,zo,hI.pop⟩,by exact sK,rfl,?_⟩
  rintro⟨s',Z',lo',hi',ver',k⟩ ⟨hk,hlo',hhi',hrg',hu',hJ⟩
  refine sW ?_
  refine sR ?_
  refine sS (λh3=>?_) λh3=>?_
  ·have hk':k<L.length:=sO
   obtain⟨v,hv1,hv2,y,hy1,hy2⟩:=(mL (L.getD k 0)).1 (yz hk')
   have eT:WV (L.take (k+1))=WV (L.take k)++[v]:=by
    rw[List.take_add_one,List.getElem?_eq_getElem hk',zaP]
    rw[List.getD_eq_getElem?_getD,List.getElem?_eq_getElem hk'] at hv2
    simp at hv2
    simp[WV,hv2]
   refine sL (yc (l:=L) (k:=k) zo hk') ?_
   rw[hv2]
   refine sL (yh v zo hv1) ?_
   cases av:a v
   ·refine sW ?_
    refine sI ?_
    refine⟨(s',Z',lo',hi',ver',k+1),⟨zo,hlo',hhi',hrg',hu',by rw[eT];exact hJ.skip λq=>by rw[av] at q;cases q⟩,zd,zD (by exact sK) rfl⟩
   ·refine sW ?_
    refine sB ?_
    refine⟨_,yh v zo hv1,?_⟩
    refine sW ?_
    cases sv:s' v
    ·refine sW ?_
     refine sB ?_
     refine⟨_,yh v zo hv1,?_⟩
     refine sW ?_
     refine sJ ?_
     refine sI ?_
     have hl1:=QC (s:=s') (s':=mark s' v) hv1 (λj _ q=>xC q) sv (wo _ _)
     refine⟨(mark s' v,(Z'.take hi').drop lo'++[(v:Int)],0,hi'-lo'+1,ver'+1,k+1),⟨zo,zo,by simp;omega,λz hz=>?_,zo,?_⟩,zd,?_⟩
     ·rcases List.mem_append.1 hz with q|q
      ·exact hrg' z (List.mem_of_mem_take (List.mem_of_mem_drop q))
      ·rw[List.mem_singleton] at q;omega
     ·rw[List.drop_zero,List.take_of_length_le (by simp;omega),zaP,eT]
      exact hJ.push hy1 hy2 av
     ·(refine zm 4 zs rfl ?_ ?_<;>(repeat' (first|exact trivial|exact rfl|exact ym.refl _|exact zX.refl _|exact zN.refl _|refine And.intro ?_ ?_|(simp[zt,zl,zF,-List.map_take,-List.map_drop];done))))
      ·exact zp (U0 zo)
      ·exact zp Zo
    ·refine sW ?_
     refine sI ?_
     refine⟨(s',Z',lo',hi',ver',k+1),⟨zo,hlo',hhi',hrg',hu',by rw[eT];exact hJ.skip λ_=>sv⟩,zd,zD (by exact sK) rfl⟩
  ·have hk':k=L.length:=by have:¬k<L.length:=sO
                           omega
   subst hk'
   refine⟨(s',Z',lo',hi',ver'),⟨hlo',hhi',hrg',zo,hJ.fin λk y h1 h2=>?_⟩,zd,zD (by exact sK) rfl⟩
   have hk:k<W.next.length:=by
    rcases Nat.lt_or_ge k W.next.length with q|q
    ·exact q
    ·rw[List.getD_eq_getElem?_getD,List.getElem?_eq_none q] at h1;cases h1
   rw[List.take_length]
   exact WT.2 ⟨(k:Int),(mL k).2 ⟨k,hk,rfl,y,h1,h2⟩,zs⟩
 have h0:hi=lo:=sO
 subst h0
 rw[List.drop_eq_nil_of_le (by rw[List.length_take];omega)] at hI
 rw[x3 (g':=euB W.next a c) λi _=>hI.end_ i]
 exact UP rfl
theorem zyX (W:zA) (hc:W.yF=0) (a b:Nat→Bool):yr Tryz.prog 75 [Y1 W,ur W.next.length a,ur W.next.length b] [] (.own 2 0 0 W.next.length) [.row true [ur W.next.length b],.row true [ur W.next.length (Uf W)],.vec true 0 1 (Yt W.next.length (euF W a b))]:=by
 obtain⟨_,h600,h80,_,hnx,hfr⟩:=qe W hc
 have hin0:∀l∈W.next,xJ l W.next.length=true:=λl hl=>(hnx l hl).2
 have hrow:=λk=>xa hin0 k
 have hin':∀v y,y∈W.next.getD v []→y.toNat<W.next.length:=λv x hx=>by have:=z1 (hrow v) hx;omega
 have hB:=zjK W zo b (Uf W)
 have e0:euF W a b=euB W.next a (Ul b (Uf W)):=rfl
 rw[e0]
 clear e0
 generalize Ul b (Uf W)=c at *
 refine zS ztG zs zs ?_ (by simp[zt]) (by simp[zf.under,zl,zi _ (X9 _ _)])
 unfold Y1 zfJ at *
 generalize hT:xp W.next W.next.length=T at *
 have lT:T.length=W.next.length:=by rw[←hT,vi]
 have mT:∀(m:Nat) (x:Int),x∈T.getD m []↔∃k,k<W.next.length∧x=(k:Int)∧∃y,y∈W.next.getD k []∧y.toNat=m:=λm x=>by rw[←hT];exact XC hin' (Nat.le_refl _)
 have rT:∀m,(T.getD m []).length≤W.next.length:=λm=>by rw[←hT];exact Xv W.next W.next.length m
 refine sR ?_
 refine sA hB ?_
 refine zH (xw 8 1 zs rfl) ?_
 refine zP [0,1,7,21,22] (λk:Nat=>[(8,.own 3 (wI c k).length 0 (wI c k).length),(23,.sc (.int .i64 k))]) (λk=>[(3,.vec true (wI c k).length 1 (zI (wI c k)))]) (λk=>k≤W.next.length) (λk=>W.next.length-k) 0 ?_
 refine sW ?_
 refine⟨zo,by exact sK,rfl,?_⟩
 rintro k hk
 have hcl:=QG c k
 have eS:=Vz c k
 refine sW ?_
 refine sR ?_
 refine sS (λq0=>?_) λq0=>?_
 ·have q0:k<W.next.length:=sO
  refine sB ?_
  refine⟨_,yh k zo q0,?_⟩
  refine sW ?_
  cases r:c k
  ·rw[r,if_neg zc] at eS
   refine sW ?_
   refine sI ?_
   refine⟨k+1,zo,zd,?_⟩
   dsimp only
   rw[eS]
   exact zD (by exact sK) rfl
  ·rw[r,if_pos rfl] at eS
   refine sW ?_
   refine sJ ?_
   refine sI ?_
   refine⟨k+1,zo,zd,?_⟩
   dsimp only
   rw[eS,show(wI c k++[(k:Int)]).length=(wI c k).length+1 by simp]
   refine zm 4 zs rfl sQ (sU ?_)
   exact zp (by rw[zau,List.take_length])
 have q0:k=W.next.length:=by have:¬k<W.next.length:=sO
                             omega
 subst q0
 clear eS
 refine zP [0,1,7] (λ((s,Z,lo,hi,z7):(Nat→Bool) × List Int × Nat × Nat × Nat)=>[(8,.own 3 z7 lo hi)]) (λ(s,Z,lo,hi,z7)=>[(2,.vec true 0 1 (Yt W.next.length s)),(3,.vec true z7 1 (zI Z))])
  (λ(s,Z,lo,hi,z7)=>lo≤hi∧hi≤Z.length∧(∀x∈Z,0≤x∧x<(W.next.length:Int))∧hi-lo+xv s W.next.length≤W.next.length∧EuI W.next a c s (WV ((Z.take hi).drop lo))) (λ(s,Z,lo,hi,z7)=>hi-lo+xv s W.next.length) (c,wI c W.next.length,0,(wI c W.next.length).length,(wI c W.next.length).length) ?_
 refine sW ?_
 refine⟨⟨zo,zo,λx hx=>⟨(vR.1 hx).1,(vR.1 hx).2.1⟩,by rw[Nat.sub_zero];exact Nat.le_of_eq (Qc c _),?_⟩,by exact sK,rfl,?_⟩
 ·rw[List.take_length,List.drop_zero]
  refine⟨λv hv=>.base hv,λv hv=>hv,λv hv=>?_,λv hv=>?_⟩
  ·obtain⟨x,hx,rfl⟩:=WT.1 hv
   exact(vR.1 hx).2.2
  ·by_cases q:v<W.next.length
   ·exact .inl (WT.2 ⟨(v:Int),vR.2 ⟨zo,zo,by rw[Int.toNat_natCast];exact hv⟩,zs⟩)
   ·exact .inr λk x hx e=>absurd (e▸hin' k x hx) q
 rintro⟨s,Z,lo,hi,z7⟩ ⟨hlo,hhi,hrg,hu,hI⟩
 refine sW ?_
 refine sR ?_
 refine sS (λh1=>?_) λh1=>?_
 ·have h1:lo<hi:=sO
  rw[zoc h1 hhi,zgY] at hI
  have hx:=hrg (Z.getD lo 0) (yz zo)
  generalize hX:Z.getD lo 0=x at hI hx
  refine sB ?_
  refine⟨_,yc (l:=Z) (k:=lo) zo zo,?_⟩
  refine sW ?_
  rw[hX]
  refine⟨zo,zo,zo,?_⟩
  refine sW ?_
  rw[show lo+(hi-lo)=hi by omega]
  refine sL (xX (g:=T) (k:=x.toNat) zo zo) ?_
  rw[List.length_map]
  have hL:=rT x.toNat
  have mL:=mT x.toNat
  generalize T.getD x.toNat []=L at hL mL
  refine zP [0,1,7,48,49] (λ((s',Z',lo',hi',ver',k):(Nat→Bool) × List Int × Nat × Nat × Nat × Nat)=>[(8,.own 3 ver' lo' hi'),(50,.sc (.int .i64 k))]) (λ(s',Z',lo',hi',ver',k)=>[(2,.vec true 0 1 (Yt W.next.length s')),(3,.vec true ver' 1 (zI Z'))])
   (λ(s',Z',lo',hi',ver',k)=>k≤L.length∧lo'≤hi'∧hi'≤Z'.length∧(∀x∈Z',0≤x∧x<(W.next.length:Int))∧hi'-lo'+xv s' W.next.length<hi-lo+xv s W.next.length∧EuJ W.next a c s' (WV ((Z'.take hi').drop lo')) x.toNat (WV (L.take k))) (λ(s',Z',lo',hi',ver',k)=>L.length-k) (s,Z,lo+1,hi,z7,0) ?_
  refine sW ?_
  refine⟨⟨zo,zo,hhi,hrg,zo,hI.pop⟩,by exact sK,rfl,?_⟩
  rintro⟨s',Z',lo',hi',ver',k⟩ ⟨hk,hlo',hhi',hrg',hu',hJ⟩
  refine sW ?_
  refine sR ?_
  refine sS (λh3=>?_) λh3=>?_
  ·have hk':k<L.length:=sO
   obtain⟨v,hv1,hv2,y,hy1,hy2⟩:=(mL (L.getD k 0)).1 (yz hk')
   have eT:WV (L.take (k+1))=WV (L.take k)++[v]:=by
    rw[List.take_add_one,List.getElem?_eq_getElem hk',zaP]
    rw[List.getD_eq_getElem?_getD,List.getElem?_eq_getElem hk'] at hv2
    simp at hv2
    simp[WV,hv2]
   refine sL (yc (l:=L) (k:=k) zo hk') ?_
   rw[hv2]
   refine sL (yh v zo hv1) ?_
   cases av:a v
   ·refine sW ?_
    refine sI ?_
    refine⟨(s',Z',lo',hi',ver',k+1),⟨zo,hlo',hhi',hrg',hu',by rw[eT];exact hJ.skip λq=>by rw[av] at q;cases q⟩,zd,zD (by exact sK) rfl⟩
   ·refine sW ?_
    refine sB ?_
    refine⟨_,yh v zo hv1,?_⟩
    refine sW ?_
    cases sv:s' v
    ·refine sW ?_
     refine sB ?_
     refine⟨_,yh v zo hv1,?_⟩
     refine sW ?_
     refine sJ ?_
     refine sI ?_
     have hl1:=QC (s:=s') (s':=mark s' v) hv1 (λj _ q=>xC q) sv (wo _ _)
     refine⟨(mark s' v,(Z'.take hi').drop lo'++[(v:Int)],0,hi'-lo'+1,ver'+1,k+1),⟨zo,zo,by simp;omega,λz hz=>?_,zo,?_⟩,zd,?_⟩
     ·rcases List.mem_append.1 hz with q|q
      ·exact hrg' z (List.mem_of_mem_take (List.mem_of_mem_drop q))
      ·rw[List.mem_singleton] at q;omega
     ·rw[List.drop_zero,List.take_of_length_le (by simp;omega),zaP,eT]
      exact hJ.push hy1 hy2 av
     ·(refine zm 4 zs rfl ?_ ?_<;>(repeat' (first|exact trivial|exact rfl|exact ym.refl _|exact zX.refl _|exact zN.refl _|refine And.intro ?_ ?_|(simp[zt,zl,zF,-List.map_take,-List.map_drop];done))))
      ·exact zp (U0 zo)
      ·exact zp Zo
    ·refine sW ?_
     refine sI ?_
     refine⟨(s',Z',lo',hi',ver',k+1),⟨zo,hlo',hhi',hrg',hu',by rw[eT];exact hJ.skip λ_=>sv⟩,zd,zD (by exact sK) rfl⟩
  ·have hk':k=L.length:=by have:¬k<L.length:=sO
                           omega
   subst hk'
   refine⟨(s',Z',lo',hi',ver'),⟨hlo',hhi',hrg',zo,hJ.fin λk y h1 h2=>?_⟩,zd,zD (by exact sK) rfl⟩
   have hk:k<W.next.length:=by
    rcases Nat.lt_or_ge k W.next.length with q|q
    ·exact q
    ·rw[List.getD_eq_getElem?_getD,List.getElem?_eq_none q] at h1;cases h1
   rw[List.take_length]
   exact WT.2 ⟨(k:Int),(mL k).2 ⟨k,hk,rfl,y,h1,h2⟩,zs⟩
 have h0:hi=lo:=sO
 subst h0
 rw[List.drop_eq_nil_of_le (by rw[List.length_take];omega)] at hI
 rw[x3 (g':=euB W.next a c) λi _=>hI.end_ i]
 exact⟨rfl,zs⟩
end
section
open Go.RowKit
def zkZ (W:zA) (num:Int):Nat→Bool:=λi=>zme (W.label.getD i 0) num
noncomputable def ZD (W:zA) (kind num:Int) (K:Nat→Nat→Bool):Nat→Bool :=
 if kind=1 then WW else if kind=3 then zkZ W num else if kind=4 then wO (K 0) else if kind=5 then Ul (K 0) (K 1) else if kind=6 then orF (K 0) (K 1)
 else if kind=7 then QX W (K 0) else if kind=8 then euF W WW (K 0) else if kind=9 then egF W (K 0) else if kind=10 then euF W (K 0) (K 1)
 else if kind=11 then wO (QX W (wO (K 0))) else if kind=12 then wO (egF W (wO (K 0))) else if kind=13 then wO (euF W WW (wO (K 0))) else if kind=14 then auF W (K 0) (K 1) else wO WW
mutual
noncomputable def zbv (W:zA):Tree→Nat→Bool
 | .node k n ks=>ZD W k n (xm W ks)
noncomputable def xm (W:zA):List Tree→Nat→Nat→Bool
 | [],_=>noT
 | t::_,0=>zbv W t
 | _::ts,j+1=>xm W ts j
end
theorem zkT (W:zA):∀(ts:List Tree) (j:Nat),j<ts.length→xm W ts j=zbv W (ts.getD j default)
 | [],j,h=>by simp at h
 | t::_,0,_=>by simp[xm]
 | _::ts,j+1,h=>by
  rw[xm,zkT W ts j (by simpa using h)]
  rfl
theorem zuG (W:zA) {t:Tree} {j:Nat} (h:j<t.width):xm W t.kids j=zbv W (t.yK j):=zkT W t.kids j h
theorem zuN (W:zA) (t:Tree):zbv W t=ZD W t.kind t.num (xm W t.kids):=by cases t;rw[zbv];rfl
noncomputable def Ww (W:zA) (t:Tree) (k:Nat):List (List D):=(List.range k).map λj=>[ur W.next.length (xm W t.kids j)]
@[simp] theorem zBQ (W:zA) (t:Tree) (k:Nat):(Ww W t k).length=k:=by simp[Ww]
theorem JP (W:zA) (t:Tree) (k:Nat):yJ (Ww W t k):=zC _ (λj=>by simp[zb,zY]) _
@[simp] theorem zt4 {m:Nat} (W:zA) (t:Tree) (k:Nat):zF m (Ww W t k)↔True:=⟨λ_=>trivial,λ_=>zi _ (JP W t k)⟩
theorem vd {W:zA} {t:Tree} {k z j:Nat} (hz:z=j) (h:j<k):(Ww W t k)[z]? = some [ur W.next.length (xm W t.kids j)]:=by
 subst hz
 rw[List.getElem?_eq_getElem (by simpa using h)];simp[Ww]
theorem zl7 (W:zA) (t:Tree) (k:Nat):List.drop 0 (List.take k (Ww W t k))++List.drop 0 (List.take 1 [[ur W.next.length (xm W t.kids k)]])=Ww W t (k+1):=by
 rw[zw zs]
 simp[Ww,List.range_succ]
theorem zi1 {t:Tree} (h:¬yI xN t):((t.kind=1∨t.kind=2∨t.kind=3)∧t.width=0∨(t.kind=4∨t.kind=7∨t.kind=8∨t.kind=9∨t.kind=11∨t.kind=12∨t.kind=13)∧t.width=1∨(t.kind=5∨t.kind=6∨t.kind=10∨t.kind=14)∧t.width=2)∧0≤t.num∧t.num≤63:=by
 unfold yI xN at h
 (repeat' split at h)<;>omega
theorem zxL {v:Int} (h:0≤v∧v<18446744073709551616) (a:Int):(vl .and .u64 (v.fdiv (2^min a.toNat 64)) 1==1)=zme v a:=by
 have hr:=zlR h.1 h.2 (min a.toNat 64)
 rw[zu4 hr.1 hr.2]
 rfl
theorem zuK {l:List Int} {z k:Nat} (hz:z=k) (h:k<l.length):(l.map λn=>[D.sc (.int .u64 n)])[z]? = some [.sc (.int .u64 (l.getD k 0))]:=by
 subst hz
 rw[List.getElem?_map,List.getElem?_eq_getElem h,List.getD_eq_getElem?_getD,List.getElem?_eq_getElem h];rfl
def zDz:PC:=.seq (OP [Bi 30 .lss 29 28]) (.seq (.cond 30 .skip (.exit 0)) (.seq (.block 1 (.seq (OP [qm 31 29,Ia 32 1 27 29,Lo 33 32,qm 8 31,qm 9 33]) (OP [qm 34 7,qm 35 8,qm 36 7,qm 37 8,Ia 38 1 36 37,Lo 39 38,qm 40 39,GF 41 40 (.move 9),Pk 42 40 cT 41,Ia 43 1 34 35,So 1 43 42]))) (OP [Bi 44 .add 29 (cI 1),qm 29 44])))
def c77:PC:=.seq (OP [Mv 6 cN]) (.seq (OP [qm 10 0,qm 11 0,qm 12 2,Ca 13 71 [11,12],qm 14 0,qm 15 0,qm 16 1,Ca 17 71 [15,16],qm 18 0,qm 19 2,Ca 20 71 [18,19],Ca 21 72 [14,17,20],Ca 22 75 [10,13,21],qm 7 22]) (.seq (.seq (OP [qm 23 0,qm 24 0,qm 25 2,Ca 26 71 [24,25],Ca 27 76 [23,26],Ln 28 27,Mv 29 (cI 0)]) (.block 0 (.loop zDz))) (.seq (OP [qm 45 0,qm 46 7,Ca 47 71 [45,46],qm 6 47]) .ret)))
theorem zAQ:zv Tryz.prog 77 48 [.tmp 6] c77:=fK Tryz.func77
theorem zCK (W:zA) (hW:W.Fits) (hc:W.yF=0) (a b:Nat→Bool):zn Tryz.prog 77 [Y1 W,ur W.next.length a,ur W.next.length b] (ur W.next.length (auF W a b)):=by
 obtain⟨_,h600,_⟩:=qe W hc
 have n1:=XP W zo a
 have n2:=XP W zo b
 have bo:=zm4 W zo (wO a) (wO b)
 have eO:=zyX W hc (wO b) (Ul (wO a) (wO b))
 have eg:=zs9 W hW hc (wO b)
 have n3:=XP W zo (orF (euF W (wO b) (Ul (wO a) (wO b))) (egF W (wO b)))
 have e0:auF W a b=wO (orF (euF W (wO b) (Ul (wO a) (wO b))) (egF W (wO b))):=rfl
 refine za zAQ zs (by simp[zb,wk,zY]) ?_ (zY _ _)
 rw[e0]
 clear e0
 generalize euF W (wO b) (Ul (wO a) (wO b))=e at *
 generalize egF W (wO b)=f at *
 refine sR ?_
 refine sC n2 ?_
 refine sC n1 ?_
 refine sC n2 ?_
 refine sC bo ?_
 refine sA eO ?_
 refine sC n2 ?_
 refine sC eg ?_
 rw[zhF]
 refine zP [0,7,27,28] (λk:Nat=>[(29,.sc (.int .i64 k))]) (λk=>[(2,.vec true 0 1 (Yt W.next.length λi=>if i<k then orF e f i else e i))]) (λk=>k≤W.next.length) (λk=>W.next.length-k) 0 ?_
 refine sW ?_
 refine⟨zo,by exact sK,by simp;rfl,?_⟩
 rintro k hk
 refine sW ?_
 refine sR ?_
 refine sS (λq0=>?_) λq0=>?_
 ·have q0:k<W.next.length:=sO
  have eat:(if k<k then orF e f k else e k)=e k:=if_neg zo
  have eput:∀v,v<W.next.length→(if v<k+1 then orF e f v else e v)=if v=k then (e k||f k) else if v<k then orF e f v else e v:=λv _=>by
   by_cases q:v=k
   ·subst q;rw[if_pos zo,if_pos rfl];rfl
   ·rw[if_neg q]
    by_cases e2:v<k
    ·rw[if_pos e2,if_pos zo]
    ·rw[if_neg e2,if_neg zo]
  refine sL (yh k zo q0) ?_
  refine sB ?_
  refine⟨_,yh k zo q0,?_⟩
  rw[eat]
  cases r:e k
  ·rw[r,Bool.false_or] at eput
   refine sW ?_
   refine sB ?_
   refine⟨_,yh k zo q0,?_⟩
   refine sW ?_
   refine sI ?_
   refine⟨k+1,zo,zd,zD (by exact sK) ?_⟩
   rw[uO (i:=k) zo eput]
   rfl
  ·rw[r,Bool.true_or] at eput
   refine sW ?_
   refine sB ?_
   refine⟨_,yh k zo q0,?_⟩
   refine sW ?_
   refine sI ?_
   refine⟨k+1,zo,zd,zD (by exact sK) ?_⟩
   rw[uO (i:=k) zo eput]
   rfl
 ·have q0:k=W.next.length:=by have:¬k<W.next.length:=sO
                              omega
  subst q0
  rw[x3 (g':=orF e f) λi hi=>if_pos hi]
  rw[show ur W.next.length (orF e f)=D.xl 1 (List.drop 0 (List.take W.next.length (Yt W.next.length (orF e f)))) from by rw[zdk];rfl] at n3
  refine sE (qh (pre:=[_]) (post:=[]) n3 (zY _ _) ⟨wk W,trivial⟩ trivial (X9 _ _) rfl) ?_
  exact .refl _
def c39:PC:=.seq (OP [Bx 1 0,q 2 (.move (.const (.pointer none)))]) (.seq (OP [LA 4 4 1,q 5 (.build [(.slice none 0 0),(.slice none 0 0),(.slice none 0 0),(.slice none 0 0),(.slice none 0 0),(.slice none 0 0)] [(0,4,4)]),Bx 6 5,qm 3 6]) (.seq (OP [qm 8 3,LA 9 4 1,Ca 10 66 [9],qm 7 10,Xt 11 0 7,Xt 12 1 7,q 13 (.zq 8),Fa 14 4 13,So 1 14 11]) (.seq (OP [qm 16 3,Fa 17 1 1,Lo 18 17,Ca 19 67 [18],qm 15 19,Xt 20 0 15,Xt 21 1 15,q 22 (.zq 16),Fa 23 5 22,So 1 23 20]) (.seq (OP [qm 24 3,qm 2 24]) .ret))))
theorem zBF:zv Tryz.prog 39 25 [.tmp 2] c39:=fK Tryz.func39
theorem ztx (W:zA) (hW:W.Fits) (hc:W.yF=0):zn Tryz.prog 39 [wb W] (Y1 W):=by
 obtain⟨_,h600,h80,_,hnx,hfr⟩:=qe W hc
 have hF:=zw4 W hW hc
 have hT:=zgX W.next (Yi.2 ⟨zo,λl hl=>(hnx l hl).2⟩) ⟨hW.next,hW.Vu⟩
 refine za zBF zs (by simp[zb,we]) ?_ (wk W)
 unfold wb zA.cells Y1 zfJ at *
 refine sR ?_
 refine sC hF ?_
 refine sC hT ?_
 exact .loc _ _ _ _ _ rfl (xy _)
def c69:PC:=.seq (OP [Mv 2 cF]) (.seq (OP [Mv 2 cT]) .ret)
theorem zBf:zv Tryz.prog 69 3 [.tmp 2] c69:=fK Tryz.func69
theorem zuz (i:Int):zn Tryz.prog 69 [.sc (.int .i64 i)] (.sc (.bool true)):=by
 refine za zBf zs (by simp[zb,Pure]) ?_ (by simp[Pure])
 refine sR ?_
 exact .refl _
def c70:PC:=.seq (OP [Mv 4 cF]) (.seq (.ops [Lo 5 1,qd 6 (.zq 5) 1,qd 7 (.zy 0 6) 3,qd 8 (.zy 2 7) 7,qd 9 (.zg 8) 15,qm 10 0,qd 11 (.zM 1 9 10) 63,qd 12 (.zg 11) 127,Fa 13 1 2,qd 14 (.zg 13) 256,qd 15 (.bin .shr 12 14) 1023,qd 16 (.bin .and 15 (.const (.int .u64 1))) 2047,qd 17 (.bin .eql 16 (.const (.int .u64 1))) 4095,qw 4 17 8191] true) .ret)
theorem zyY:zv Tryz.prog 70 18 [.tmp 4] c70:=fK Tryz.func70
theorem zw6 (W:zA) (hl:W.label.length=W.next.length) (hL:zxM W.label) (t:Tree) (hn:0≤t.num∧t.num≤63) (i:Nat) (hi:i<W.next.length):zn Tryz.prog 70 [.sc (.int .i64 i),.yO [Y1 W],.yO (yy t)] (.sc (.bool (zkZ W t.num i))):=by
 have hv:0≤W.label.getD i 0∧W.label.getD i 0<18446744073709551616:=hL _ (yz zo)
 have hb:=zxL hv t.num
 refine za zyY zs (by simp[zb,Pure,wk,yq]) ?_ (by simp[Pure])
 have e:zkZ W t.num i=zme (W.label.getD i 0) t.num:=rfl
 rw[e,←hb]
 unfold Y1 zfJ uV
 refine sR ?_
 refine sL (zuK (k:=i) zo zo) ?_
 refine⟨hn.1,?_⟩
 refine sW ?_
 exact .refl _
def c73:PC:=.seq (OP [Mv 3 cF]) (.seq (OP [Lo 4 1,Ia 5 1 4 (cI 0),Lo 6 5,qm 7 0,Ia 8 1 6 7,Lo 9 8,qm 10 9,GF 11 10 (.zg 1),GF 12 10 (.zM 1 11 (cI 1)),GF 13 10 (.zg 12),GF 14 10 (.move 0),GF 15 10 (.zM 1 13 14),GF 16 10 (.zg 15),Pk 17 10 cT 16,qm 3 17]) .ret)
theorem zAf:zv Tryz.prog 73 18 [.tmp 3] c73:=fK Tryz.func73
theorem zwP (W:zA) (t:Tree) (h2:t.width=2) (i:Nat) (hi:i<W.next.length):zn Tryz.prog 73 [.sc (.int .i64 i),.yO [.xl 1 (Ww W t t.width)]] (.sc (.bool (orF (xm W t.kids 0) (xm W t.kids 1) i))):=by
 refine za zAf zs (by simp[zb,Pure,JP]) ?_ (by simp[Pure])
 have e:orF (xm W t.kids 0) (xm W t.kids 1) i=(xm W t.kids 0 i||xm W t.kids 1 i):=rfl
 rw[e]
 refine sR ?_
 refine sL (vd (j:=0) zo zo) ?_
 refine sL (yh i zo hi) ?_
 cases r:xm W t.kids 0 i
 ·refine sW ?_
  refine sL (vd (j:=1) zo zo) ?_
  refine sL (yh i zo hi) ?_
  exact .refl _
 ·refine sW ?_
  exact .refl _
def zDm:PC:=.seq (OP [Bi 15 .lss 14 13]) (.seq (.cond 15 .skip (.exit 0)) (.seq (.block 1 (.seq (OP [Ia 16 3 12 14,LA 17 3 16,q 8 (.alloc [(.int .i64 0),(.int .i64 0),(.slice none 0 0)]),So 3 8 17]) (.ops [Lo 18 6,Lo 19 2,LA 20 3 8,qd 21 (.call 40 [19,20]) 6,qd 22 (.wz 1 1 [21]) 14,qd 23 (.append 1 24 18 22) 31,qk (.store 1 6 23) 63] true))) (OP [Bi 24 .add 14 (cI 1),qm 14 24])))
def c40:PC:=.seq (OP [Bx 2 0,Bx 3 1,Mv 4 cN]) (.seq (OP [Lo 9 2,Ca 10 68 [9,(.func 69)],qm 5 10]) (.seq (OP [q 6 (.alloc [(.slice none 0 0)])]) (.seq (.seq (OP [Fa 11 2 3,Lo 12 11,Ln 13 12,Mv 14 (cI 0)]) (.block 0 (.loop zDm))) (.seq (.seq (OP [Fa 25 0 3,Lo 26 25]) (.block 2 (.seq (OP [Bi 28 .eql 26 (cI 1),qm 27 28]) (.cond 27 (.seq (OP [qm 29 5,qm 4 29]) .ret) (.seq (OP [Bi 31 .eql 26 (cI 3),qm 30 31]) (.cond 30 (.seq (OP [Lo 32 2,q 33 (.uG (.func 70) [] [2,3]),Ca 34 68 [32,33],qm 4 34]) .ret) (.seq (OP [Bi 36 .eql 26 (cI 4),qm 35 36]) (.cond 35 (.seq (.ops [Lo 37 2,Lo 38 6,qd 39 (.zM 1 38 (cI 0)) 2,qd 40 (.zg 39) 6,qd 41 (.call 71 [37,40]) 15,qw 4 41 31] true) .ret) (.seq (OP [Bi 43 .eql 26 (cI 5),qm 42 43]) (.cond 42 (.seq (.ops [Lo 44 2,Lo 45 6,qd 46 (.zM 1 45 (cI 0)) 2,qd 47 (.zg 46) 6,Lo 48 6,qd 49 (.zM 1 48 (cI 1)) 16,qd 50 (.zg 49) 48,qd 51 (.call 72 [44,47,50]) 127,qw 4 51 255] true) .ret) (.seq (OP [Bi 53 .eql 26 (cI 6),qm 52 53]) (.cond 52 (.seq (OP [Lo 54 2,q 55 (.uG (.func 73) [] [6]),Ca 56 68 [54,55],qm 4 56]) .ret) (.seq (OP [Bi 58 .eql 26 (cI 7),qm 57 58]) (.cond 57 (.seq (.ops [Lo 59 2,Lo 60 6,qd 61 (.zM 1 60 (cI 0)) 2,qd 62 (.zg 61) 6,qd 63 (.call 74 [59,62]) 15,qw 4 63 31] true) .ret) (.seq (OP [Bi 65 .eql 26 (cI 8),qm 64 65]) (.cond 64 (.seq (.ops [Lo 66 2,qm 67 5,Lo 68 6,qd 69 (.zM 1 68 (cI 0)) 4,qd 70 (.zg 69) 12,qd 71 (.call 75 [66,67,70]) 31,qw 4 71 63] true) .ret) (.seq (OP [Bi 73 .eql 26 (cI 9),qm 72 73]) (.cond 72 (.seq (.ops [Lo 74 2,Lo 75 6,qd 76 (.zM 1 75 (cI 0)) 2,qd 77 (.zg 76) 6,qd 78 (.call 76 [74,77]) 15,qw 4 78 31] true) .ret) (.seq (OP [Bi 80 .eql 26 (cI 10),qm 79 80]) (.cond 79 (.seq (.ops [Lo 81 2,Lo 82 6,qd 83 (.zM 1 82 (cI 0)) 2,qd 84 (.zg 83) 6,Lo 85 6,qd 86 (.zM 1 85 (cI 1)) 16,qd 87 (.zg 86) 48,qd 88 (.call 75 [81,84,87]) 127,qw 4 88 255] true) .ret) (.seq (OP [Bi 90 .eql 26 (cI 11),qm 89 90]) (.cond 89 (.seq (.ops [Lo 91 2,Lo 92 2,Lo 93 2,Lo 94 6,qd 95 (.zM 1 94 (cI 0)) 8,qd 96 (.zg 95) 24,qd 97 (.call 71 [93,96]) 60,qd 98 (.call 74 [92,97]) 126,qd 99 (.call 71 [91,98]) 255,qw 4 99 511] true) .ret) (.seq (OP [Bi 101 .eql 26 (cI 12),qm 100 101]) (.cond 100 (.seq (.ops [Lo 102 2,Lo 103 2,Lo 104 2,Lo 105 6,qd 106 (.zM 1 105 (cI 0)) 8,qd 107 (.zg 106) 24,qd 108 (.call 71 [104,107]) 60,qd 109 (.call 76 [103,108]) 126,qd 110 (.call 71 [102,109]) 255,qw 4 110 511] true) .ret) (.seq (OP [Bi 112 .eql 26 (cI 13),qm 111 112]) (.cond 111 (.seq (.ops [Lo 113 2,Lo 114 2,qm 115 5,Lo 116 2,Lo 117 6,qd 118 (.zM 1 117 (cI 0)) 16,qd 119 (.zg 118) 48,qd 120 (.call 71 [116,119]) 120,qd 121 (.call 75 [114,115,120]) 254,qd 122 (.call 71 [113,121]) 511,qw 4 122 1023] true) .ret) (.seq (OP [Bi 124 .eql 26 (cI 14),qm 123 124]) (.cond 123 (.seq (.ops [Lo 125 2,Lo 126 6,qd 127 (.zM 1 126 (cI 0)) 2,qd 128 (.zg 127) 6,Lo 129 6,qd 130 (.zM 1 129 (cI 1)) 16,qd 131 (.zg 130) 48,qd 132 (.call 77 [125,128,131]) 127,qw 4 132 255] true) .ret) .skip)))))))))))))))))))))))))))) (.seq (OP [Lo 133 2,qm 134 5,Ca 135 71 [133,134],qm 4 135]) .ret)))))
theorem zAE:zv Tryz.prog 40 136 [.tmp 4] c40:=fK Tryz.func40
theorem zr8 (W:zA) (hW:W.Fits) (hc:W.yF=0) (hL:zxM W.label):∀t:Tree,t.wf xN→zn Tryz.prog 40 [Y1 W,zQ t] (ur W.next.length (zbv W t)):=by
 obtain⟨hl,h600,_⟩:=qe W hc
 have h6:W.next.length≤1000000:=zo
 have hAll:=Qm W h6 WW 69 [] (by simp[zb]) (λi hi=>zuz i)
 intro t
 induction t using Tree.ind with
 | h t ih =>
  intro hwf
  obtain⟨har,hnum⟩:=zi1 ((xO _ _).1 hwf).1
  have hwd:t.width≤2:=zo
  have hA:=Qm W h6 (zkZ W t.num) 70 [.yO [Y1 W],.yO (yy t)] (by simp[zb,Pure,wk,yq]) (λi hi=>zw6 W hl hL t hnum i hi)
  have hO:=λ(h:t.width=2)=>Qm W h6 (orF (xm W t.kids 0) (xm W t.kids 1)) 73 [.yO [.xl 1 (Ww W t t.width)]] (by simp[zb,Pure,JP]) (λi hi=>zwP W t h i hi)
  refine za zAE zs (by simp[zb,wk,zh]) ?_ (zY _ _)
  rw[zuN]
  refine sR ?_
  refine sC hAll ?_
  refine zH (yZ 2 0 1 zs rfl rfl) ?_
  refine ye [2,3,5,6,12,13] (λk:Nat=>[(14,.sc (.int .i64 k))]) (λk=>[.row true [Y1 W],.row true (yy t),.row true [.own 3 k 0 k],.vec true k 1 (Ww W t k)]) (λk=>k≤t.width) (λk=>t.width-k) 0 ?_
  refine sW ?_
  refine⟨zo,by exact sK,rfl,?_⟩
  rintro k hk
  refine sW ?_
  refine sR ?_
  refine sS (λh1=>?_) λh1=>?_
  ·have hk':k<t.width:=by simpa [Tree.width] using h1
   refine sL (by rw[Int.toNat_natCast];exact xb hk') ?_
   have hih:=ih k hk' (xG hwf hk')
   rw[←zuG W hk'] at hih
   refine sC hih ?_
   refine⟨by unfold xg;simp;omega,?_⟩
   refine sW ?_
   refine sI ?_
   refine⟨k+1,zo,zd,?_⟩
   dsimp only
   refine zm 4 zs rfl sQ (sU ?_)
   exact zp (zl7 W t k)
  have hkw:k=t.width:=by have:¬k<t.width:=by simpa [Tree.width] using h1
                         omega
  subst hkw
  clear ih h1 hk
  refine sS (λg1=>?_) λg1=>?_
  ·have g1:t.kind=1:=sO
   rw[show ZD W t.kind t.num (xm W t.kids)=WW from by unfold ZD;simp[g1]]
   exact .refl _
  have g1:¬t.kind=1:=sO
  refine sS (λg3=>?_) λg3=>?_
  ·have g3:t.kind=3:=sO
   rw[show ZD W t.kind t.num (xm W t.kids)=zkZ W t.num from by unfold ZD;simp[g3]]
   refine sV hA ?_
   exact .refl _
  have g3:¬t.kind=3:=sO
  refine sS (λg4=>?_) λg4=>?_
  ·have g4:t.kind=4:=sO
   rw[show ZD W t.kind t.num (xm W t.kids)=wO (xm W t.kids 0) from by unfold ZD;simp[g4]]
   refine sB ?_
   refine⟨_,vd (j:=0) zo zo,?_⟩
   refine sW ?_
   refine sC (XP W h6 (xm W t.kids 0)) ?_
   exact .refl _
  have g4:¬t.kind=4:=sO
  refine sS (λg5=>?_) λg5=>?_
  ·have g5:t.kind=5:=sO
   rw[show ZD W t.kind t.num (xm W t.kids)=Ul (xm W t.kids 0) (xm W t.kids 1) from by unfold ZD;simp[g5]]
   refine sB ?_
   refine⟨_,vd (j:=0) zo zo,?_⟩
   refine sW ?_
   refine sB ?_
   refine⟨_,vd (j:=1) zo zo,?_⟩
   refine sW ?_
   refine sC (zm4 W h6 (xm W t.kids 0) (xm W t.kids 1)) ?_
   exact .refl _
  have g5:¬t.kind=5:=sO
  refine sS (λg6=>?_) λg6=>?_
  ·have g6:t.kind=6:=sO
   rw[show ZD W t.kind t.num (xm W t.kids)=orF (xm W t.kids 0) (xm W t.kids 1) from by unfold ZD;simp[g6]]
   have hdd:∀{H:List zf},vH H (List.drop 0 (List.take t.width (Ww W t t.width))) (Ww W t t.width):=by intro H;rw[zw zs];exact z8 _
   refine .inr (.inr (.inr (.inr (.inr (.inl ⟨rfl,_,_,.cons _ _ _ _ (.refl _) (.cons _ _ _ _ (.fn _ _ _ _ _ .nil (.cons _ _ _ _ (.loc _ _ _ _ _ rfl (.cons _ _ _ _ (.own _ _ _ _ _ _ _ _ rfl hdd) .nil)) .nil)) .nil),hO zo,?_⟩)))))
   refine sW ?_
   exact .refl _
  have g6:¬t.kind=6:=sO
  refine sS (λg7=>?_) λg7=>?_
  ·have g7:t.kind=7:=sO
   rw[show ZD W t.kind t.num (xm W t.kids)=QX W (xm W t.kids 0) from by unfold ZD;simp[g7]]
   refine sB ?_
   refine⟨_,vd (j:=0) zo zo,?_⟩
   refine sW ?_
   refine sC (zxW W hW hc (xm W t.kids 0)) ?_
   exact .refl _
  have g7:¬t.kind=7:=sO
  refine sS (λg8=>?_) λg8=>?_
  ·have g8:t.kind=8:=sO
   rw[show ZD W t.kind t.num (xm W t.kids)=euF W WW (xm W t.kids 0) from by unfold ZD;simp[g8]]
   refine sB ?_
   refine⟨_,vd (j:=0) zo zo,?_⟩
   refine sW ?_
   refine sC (zqX W hc WW (xm W t.kids 0)) ?_
   exact .refl _
  have g8:¬t.kind=8:=sO
  refine sS (λg9=>?_) λg9=>?_
  ·have g9:t.kind=9:=sO
   rw[show ZD W t.kind t.num (xm W t.kids)=egF W (xm W t.kids 0) from by unfold ZD;simp[g9]]
   refine sB ?_
   refine⟨_,vd (j:=0) zo zo,?_⟩
   refine sW ?_
   refine sC (zs9 W hW hc (xm W t.kids 0)) ?_
   exact .refl _
  have g9:¬t.kind=9:=sO
  refine sS (λg10=>?_) λg10=>?_
  ·have g10:t.kind=10:=sO
   rw[show ZD W t.kind t.num (xm W t.kids)=euF W (xm W t.kids 0) (xm W t.kids 1) from by unfold ZD;simp[g10]]
   refine sB ?_
   refine⟨_,vd (j:=0) zo zo,?_⟩
   refine sW ?_
   refine sB ?_
   refine⟨_,vd (j:=1) zo zo,?_⟩
   refine sW ?_
   refine sC (zqX W hc (xm W t.kids 0) (xm W t.kids 1)) ?_
   exact .refl _
  have g10:¬t.kind=10:=sO
  refine sS (λg11=>?_) λg11=>?_
  ·have g11:t.kind=11:=sO
   rw[show ZD W t.kind t.num (xm W t.kids)=wO (QX W (wO (xm W t.kids 0))) from by unfold ZD;simp[g11]]
   refine sB ?_
   refine⟨_,vd (j:=0) zo zo,?_⟩
   refine sW ?_
   refine sC (XP W h6 (xm W t.kids 0)) ?_
   refine sC (zxW W hW hc (wO (xm W t.kids 0))) ?_
   refine sC (XP W h6 (QX W (wO (xm W t.kids 0)))) ?_
   exact .refl _
  have g11:¬t.kind=11:=sO
  refine sS (λg12=>?_) λg12=>?_
  ·have g12:t.kind=12:=sO
   rw[show ZD W t.kind t.num (xm W t.kids)=wO (egF W (wO (xm W t.kids 0))) from by unfold ZD;simp[g12]]
   refine sB ?_
   refine⟨_,vd (j:=0) zo zo,?_⟩
   refine sW ?_
   refine sC (XP W h6 (xm W t.kids 0)) ?_
   refine sC (zs9 W hW hc (wO (xm W t.kids 0))) ?_
   refine sC (XP W h6 (egF W (wO (xm W t.kids 0)))) ?_
   exact .refl _
  have g12:¬t.kind=12:=sO
  refine sS (λg13=>?_) λg13=>?_
  ·have g13:t.kind=13:=sO
   rw[show ZD W t.kind t.num (xm W t.kids)=wO (euF W WW (wO (xm W t.kids 0))) from by unfold ZD;simp[g13]]
   refine sB ?_
   refine⟨_,vd (j:=0) zo zo,?_⟩
   refine sW ?_
   refine sC (XP W h6 (xm W t.kids 0)) ?_
   refine sC (zqX W hc WW (wO (xm W t.kids 0))) ?_
   refine sC (XP W h6 (euF W WW (wO (xm W t.kids 0)))) ?_
   exact .refl _
  have g13:¬t.kind=13:=sO
  refine sS (λg14=>?_) λg14=>?_
  ·have g14:t.kind=14:=sO
   rw[show ZD W t.kind t.num (xm W t.kids)=auF W (xm W t.kids 0) (xm W t.kids 1) from by unfold ZD;simp[g14]]
   refine sB ?_
   refine⟨_,vd (j:=0) zo zo,?_⟩
   refine sW ?_
   refine sB ?_
   refine⟨_,vd (j:=1) zo zo,?_⟩
   refine sW ?_
   refine sC (zCK W hW hc (xm W t.kids 0) (xm W t.kids 1)) ?_
   exact .refl _
  have g14:¬t.kind=14:=sO
  rw[show ZD W t.kind t.num (xm W t.kids)=wO WW from by unfold ZD;simp[g1,g3,g4,g5,g6,g7,g8,g9,g10,g11,g12,g13,g14]]
  refine sC (XP W h6 WW) ?_
  exact .refl _
end
end
section
open Go.RowKit
def zxN (W:zA) (t:Tree):Int:=if W.yF=0 then yF xN t else W.yF
def c38:PC:=.seq (OP [Bx 2 0,Bx 3 1,Mv 4 (cI 0)]) (.seq (.seq (OP [LA 6 4 2,Ca 7 45 [6],qm 5 7]) (.seq (OP [qm 8 5,Bi 9 .neq 8 (cI 0)]) (.cond 9 (.seq (OP [qm 10 5,qm 4 10]) .ret) .skip))) (.seq (OP [LA 11 3 3,Ca 12 65 [11],qm 4 12]) .ret))
theorem zzl:zv Tryz.prog 38 13 [.tmp 4] c38:=fK Tryz.func38
theorem zoD (W:zA) (hW:W.Fits) (t:Tree) (hs:Small t):zn Tryz.prog 38 [wb W,zQ t] (.sc (.int .i64 (zxN W t))):=by
 have hC:=zaJ W hW
 have hT:=zgB t hs
 refine za zzl zs (by simp[zb,we,zh]) ?_ (by simp[Pure])
 unfold zxN
 generalize W.yF=c at *
 unfold wb at *
 refine sR ?_
 refine sC hC ?_
 refine sS (λq=>?_) λq=>?_
 ·have q:¬c=0:=sO
  rw[if_neg q]
  exact .refl _
 ·have q:c=0:=sO
  rw[if_pos q]
  refine sC hT ?_
  exact .refl _
def c18:PC:=.seq (OP [Bx 2 0,Bx 3 1,Mv 4 cN,Mv 5 (cI 0)]) (.seq (.seq (OP [LA 7 4 2,LA 8 3 3,Ca 9 38 [7,8],qm 6 9]) (.seq (OP [qm 10 6,Bi 11 .neq 10 (cI 0)]) (.cond 11 (.seq (OP [qm 12 6,Mv 4 cN,qm 5 12]) .ret) .skip))) (.seq (.ops [LA 13 4 2,qd 14 (.call 39 [13]) 1,LA 15 3 3,qd 16 (.call 40 [14,15]) 7,qw 4 16 15,qd 5 (.move (cI 0)) 31] true) .ret))
theorem zyG:zv Tryz.prog 18 17 [.tmp 4,.tmp 5] c18:=fK Tryz.func18
theorem zrF (W:zA) (hW:W.Fits) (hL:zxM W.label) (t:Tree) (hs:Small t) (hc:W.yF=0) (h:yF xN t=0):zn Tryz.prog 18 [wb W,zQ t] (.yP [ur W.next.length (zbv W t),.sc (.int .i64 0)]):=by
 have hC:=zoD W hW t hs
 rw[show zxN W t=0 by unfold zxN;rw[if_pos hc,h]] at hC
 have hB:=ztx W hW hc
 have hT:=zr8 W hW hc hL t ((ZU _ _).1 h).2.2
 refine za zyG zs (by simp[zb,we,zh]) ?_ (by simp[Pure,zb,zY])
 unfold wb at *
 refine sR ?_
 refine sC hC ?_
 refine sC hB ?_
 refine sC hT ?_
 exact .refl _
end
section
open Go.RowKit
theorem zld {N:List (List zO)} {x:Int}:∀{n:Nat},x∈ziw N n→∃m,m<n∧x∈zbb N m
 | 0,h=>by simp[ziw] at h
 | n+1,h=>by
  simp only[ziw,List.mem_append] at h
  rcases h with h|h
  ·obtain⟨m,h1,h2⟩:=zld h
   exact⟨m,zo,h2⟩
  ·exact⟨n,zo,h⟩
theorem zuu {M:List (List Int)} {N:List (List zO)} {s:Nat} (h:SpN M N s) {m:Nat} (hm:m<N.length) {x:Int} (hx:x∈zbb N m):0≤x∧x.toNat<N.length:=by
 unfold zbb at hx
 split at hx
 ·rw[List.mem_singleton] at hx;subst hx;omega
 ·obtain⟨e,he,rfl⟩:=List.mem_map.1 hx
  have hr:N.getD m []∈N:=by rw[List.getD_eq_getElem?_getD,List.getElem?_eq_getElem hm];simp
  have:=h.edge _ hr e he
  have:=h.len
  omega
theorem znZ {N:List (List zO)} {t n:Nat} (ht:t<n) {x:Int} (hx:x∈Xl N t):0≤x∧x<(xY N n:Int):=by
 obtain⟨i,hi,rfl⟩:=List.mem_map.1 hx
 have hi:=List.mem_range.1 hi
 have:=Wp (N:=N) (show t+1≤n by omega)
 rw[qi] at this
 omega
noncomputable def Vx (P:ze) (tok st:Int):zA:=⟨Xl (P.Z2 tok st) 0,uJ (P.Z2 tok st),Wq P.zJ (P.Z2 tok st),Y6 P.zJ (P.Z2 tok st)⟩
theorem znz (P:ze) (tok st:Int):wb (Vx P tok st)=zj3 (Xl (P.Z2 tok st) 0) (uJ (P.Z2 tok st)) (Wq P.zJ (P.Z2 tok st)) (Y6 P.zJ (P.Z2 tok st)):=rfl
theorem zbA {N:List (List zO)} {of:List zO} {s x:Int}:∀{i:Nat},x∈Ze N of s i→0≤x∧x<(i:Int)
 | 0,h=>by simp[Ze] at h
 | i+1,h=>by
  simp only[Ze] at h
  split at h
  ·rcases List.mem_append.1 h with h|h
   ·have:=zbA h;omega
   ·rw[List.mem_singleton] at h;subst h;omega
  ·have:=zbA h;omega
structure zyN (W:zA):Prop where
 fits:W.Fits
 yF:W.yF=0
 zs1:zxM W.label
 start:W.start.length≤1048576
 rows:∀l∈W.next,l.length≤1048576
theorem zlQ {P:ze} (h:P.yH=0) (z:Int):0≤zhO P.zJ z∧zhO P.zJ z<18446744073709551616:=by
 unfold zhO
 split
 ·omega
 ·have hp:∀k:Nat,k≤63→(0:Int)≤2^k∧(2:Int)^k<18446744073709551616:=λk hk=>by
   have h1:(2:Nat)^k≤2^63:=Nat.pow_le_pow_right zo hk
   have h3:(2:Nat)^63=9223372036854775808:=zc
   rw[zeo k]
   generalize (2:Nat)^k=z at *
   omega
  refine hp _ ?_
  by_cases hz:z.toNat<P.zJ.length
  ·have h1:=(ze.QJ h hz).node
   have:=(xi (ze.xq h).1).1
   omega
  ·rw[List.getD_eq_getElem?_getD,List.getElem?_eq_none zo]
   simp
theorem zmH {P:ze} {tok st:Int} (he:P.VX tok st=0) (hA:xY (P.Z2 tok st) (P.Z2 tok st).length≤600):zyN (Vx P tok st):=by
 have hF:=vx he
 have hS:=hF.sp
 obtain⟨_,_,h60⟩:=ze.xq hF.steps
 have hlab:=λz=>zlQ (P:=P) hF.steps z
 have hpos:1≤(P.Z2 tok st).length:=by have:=hS.len;have:=hS.pos;omega
 unfold Vx
 generalize P.Z2 tok st=N at *
 generalize P.exM tok st=M at *
 have hnl:=JG N
 have hll:=zgo P.zJ N
 have hfl:=ze5 P.zJ N
 have hm:∀t,t<N.length→wW N t≤600:=λt ht=>by
  have:=Wp (N:=N) (show t+1≤N.length by omega)
  rw[qi] at this
  omega
 have hnx:∀l∈uJ N,l≠[]∧l.length≤600∧xJ l (uJ N).length=true:=λl hl=>by
  obtain⟨x,hx,rfl⟩:=List.mem_map.1 hl
  obtain⟨m,m1,m2⟩:=zld hx
  obtain⟨x1,x2⟩:=zuu hS m1 m2
  refine⟨λh=>?_,?_,wA λy hy=>?_⟩
  ·have h1:=U8 N x.toNat
   have h2:=zrq N x.toNat
   rw[h] at h1
   simp at h1
   omega
  ·rw[U8];exact hm _ x2
  ·rw[hnl];exact znZ x2 hy
 have hst:xJ (Xl N 0) (uJ N).length=true:=wA λy hy=>by rw[hnl];exact znZ hpos hy
 have hsl:(Xl N 0).length≤600:=by rw[U8];exact hm 0 hpos
 have hfr:∀l∈Y6 P.zJ N,xJ l (uJ N).length=true∧l.length≤600:=λl hl=>by
  obtain⟨k,hk,rfl⟩:=List.mem_map.1 hl
  refine⟨wA λy hy=>?_,?_⟩
  ·rw[hnl];exact zbA hy
  ·have:=zeW N (wL N N.length) (k:Int) (xY N N.length);omega
 refine⟨⟨?_,?_,?_,?_,?_,?_⟩,?_,?_,?_,?_⟩
 ·show(Xl N 0).length≤_;omega
 ·show(uJ N).length≤_;omega
 ·show(Wq P.zJ N).length≤_;omega
 ·show(Y6 P.zJ N).length≤_;omega
 ·intro l hl;have:=hnx l hl;omega
 ·intro l hl;have:=hfr l hl;omega
 ·unfold zA.yF
  dsimp only
  rw[if_neg zo,if_neg (by rw[hst];simp;omega),if_neg,if_neg]
  ·rw[Bool.not_eq_true,List.any_eq_false]
   intro l hl
   rw[(hfr l hl).1];decide
  ·rw[Bool.not_eq_true,List.any_eq_false]
   intro l hl
   obtain⟨h1,_,h2⟩:=hnx l hl
   rw[h2]
   simpa using h1
 ·intro x hx
  obtain⟨e,_,rfl⟩:=List.mem_map.1 hx
  exact hlab e.1
 ·show(Xl N 0).length≤_;omega
 ·intro l hl;have:=hnx l hl;omega
theorem zhp:∀{a b:List Int},zB a=zB b→a=b:=λ{a b} h=>by
 unfold zB at h
 injection h with _ h
 induction a generalizing b with
 | nil=>cases b with
  | nil=>rfl
  | cons y b=>simp at h
 | cons x a ih=>cases b with
  | nil=>simp at h
  | cons y b =>
   simp only[List.map_cons,List.cons.injEq,D.sc.injEq,Value.int.injEq,true_and,and_true] at h
   rw[h.1,ih h.2]
theorem zk1 {W:zA} {A:yl} (hb:UD W A) (ha:qt W A=true) {s l:List Int} (e:U6 W A (xj W A).1 (xj W A).2 (xn W A).2=.yP [.agg [zB s,zB l],.sc (.bool (qt W A)),.sc (.int .i64 0)]) :
  ¬pE (xj W A).2 (vk W A (xj W A).1)<0∧s=qS (xj W A).1 ((x7 (xj W A).2 (vk W A (xj W A).1) (xn W A).2).take ((x7 (xj W A).2 (vk W A (xj W A).1) (xn W A).2).length-1)) ∧
   l=qS (xj W A).1 (Uk (xj W A).2 (vk W A (xj W A).1) (yV (x7 (xj W A).2 (vk W A (xj W A).1) (xn W A).2)).toNat):=by
 rw[ha] at e
 unfold U6 at e
 split at e
 ·simp at e
 ·rename_i hp
  simp only[D.yP.injEq,List.cons.injEq,D.agg.injEq,and_true,true_and] at e
  exact⟨hp,(zhp e.1).symm,(zhp e.2).symm⟩
theorem zg1 {W:zA} {A:yl} (hb:UD W A) {l:List Int} (h:xJ l (xj W A).2.length=true):xJ (qS (xj W A).1 l) W.next.length=true:=wA λx hx=>by
 obtain⟨hN,hg⟩:=Wr hb
 obtain⟨n,hn,rfl⟩:=List.mem_map.1 hx
 have h1:=z1 h hn
 have:=hN.len
 exact(hg _ (xH (show n.toNat<(xj W A).1.length by omega))).1
theorem zsI {W:zA} {A:yl} (hb:UD W A) (ha:qt W A=true) {s l:List Int} (e:U6 W A (xj W A).1 (xj W A).2 (xn W A).2=.yP [.agg [zB s,zB l],.sc (.bool (qt W A)),.sc (.int .i64 0)]) :
  xJ s W.next.length=true∧xJ l W.next.length=true∧s.length≤1000000000∧l.length≤1000000000:=by
 obtain⟨hp,rfl,rfl⟩:=zk1 hb ha e
 obtain⟨h1,h2,h3,h4⟩:=zfg hb hp
 obtain⟨h5,h6⟩:=zm0 h4
 have hG:=(Wr hb).1.fits hb (Wr hb).2
 have hS:(vk W A (xj W A).1).length≤160:=by
  obtain⟨_,_,h80,_⟩:=qg W hb.two.cw
  obtain⟨_,_,_,h80',_⟩:=YQ A hb.two.ca
  unfold vk
  rw[List.length_append,YX (Nat.le_refl _),YX (Nat.le_refl _)]
  omega
 refine⟨zg1 hb (wA λx hx=>z1 h1 (List.mem_of_mem_take hx)),zg1 hb h5,?_,?_⟩
 ·unfold qS;rw[List.length_map,List.length_take];omega
 ·unfold qS;rw[List.length_map]
  have:=Nat.mul_le_mul hS (show(xj W A).2.length≤1228800 by omega)
  omega
end
end Go.Proofs.YteedlhkjaolahaaGreatDoor
