/-
  Parts of a proof, joined. No statement is proved here.
-/
import Derived.Test.YtoehflejhaakpaaGreatDoorZ1
import Derived.Test.YtoehflejhaakpaaGreatDoorZ3
import Derived.Test.YtoehflejhaakpaaGreatDoorProg
import Derived.Test.YtoehflejhaakpaaGreatDoorZ2
import Derived.DeepKeys4
namespace Go.Proofs.YtoehflejhaakpaaGreatDoor
set_option linter.unusedSimpArgs false
set_option linter.unusedVariables false
set_option maxRecDepth 100000
section
section
namespace zb
def nxt (P:zb) (but:Int) (a b:Nat):Prop:=a<P.zv.length∧b<P.zv.length∧P.src b=P.dst a∧P.dst a≠but
inductive Via (P:zb) (but:Int):Nat→Nat→Prop
 | refl (a:Nat):Via P but a a
 | step {a b c:Nat} (h:Via P but a b) (k:P.nxt but b c):Via P but a c
theorem Via.head {P:zb} {but:Int} {a b c:Nat} (k:P.nxt but a b) (h:P.Via but b c):P.Via but a c:=by
 induction h with
 | refl=>exact .step (.refl _) k
 | step _ k' ih=>exact .step ih k'
theorem zsA {P:zb} {but:Int} {b:Nat} {s:Nat→Bool} (h0:s b=true) (h1:∀x y,s y=true→P.nxt but x y→s x=true):∀a,P.Via but a b→s a=true:=by
 intro a h
 induction h with
 | refl=>exact h0
 | step _ k ih=>exact ih (h1 _ _ h0 k)
open Classical in
noncomputable def zoI (P:zb) (but:Int) (a b:Nat):Bool:=decide (P.Via but a b)
theorem zei {P:zb} {but:Int} {a b:Nat}:P.zoI but a b=true↔P.Via but a b:=by unfold zoI;simp
structure VZ (P:zb) (but:Int) (flow:Nat) (s:Nat→Bool) (Q:List Int):Prop where
 start:s flow=true
 sound:∀i,s i=true→i<P.zv.length∧P.Via but i flow
 todo:∀x∈Q,0≤x∧x<P.zv.length∧s x.toNat=true
 done:∀i,s i=true→(i:Int)∈Q∨∀j,P.nxt but j i→s j=true
structure Uq (P:zb) (but:Int) (flow:Nat) (s:Nat→Bool) (Q:List Int) (x k:Nat):Prop where
 start:s flow=true
 sound:∀i,s i=true→i<P.zv.length∧P.Via but i flow
 todo:∀x∈Q,0≤x∧x<P.zv.length∧s x.toNat=true
 done:∀i,s i=true→(i:Int)∈Q∨(∀j,P.nxt but j i→s j=true)∨(i=x∧∀j,j<k→P.nxt but j i→s j=true)
 here:s x=true
 go:P.src x≠but
theorem VZ.begin {P:zb} {but:Int} {flow:Nat} (h:flow<P.zv.length):P.VZ but flow (mark (λ_=>false) flow) [(flow:Int)] where
 start:=wS _ _
 sound i hi:=by
  rcases Yv.1 hi with rfl|h'
  ·exact⟨h,.refl _⟩
  ·cases h'
 todo x hx:=by
  rw[List.mem_singleton] at hx;subst hx
  exact⟨zo,zo,by rw[Int.toNat_natCast];exact wS _ _⟩
 done i hi:=by
  rcases Yv.1 hi with rfl|h'
  ·exact .inl zs
  ·cases h'
theorem VZ.stop {P:zb} {but:Int} {flow:Nat} {s:Nat→Bool} {Q:List Int} {x:Int} (h:P.VZ but flow s (x::Q)) (hx:P.src x.toNat=but):P.VZ but flow s Q where
 start:=h.start
 sound:=h.sound
 todo y hy:=h.todo y (List.mem_cons_of_mem _ hy)
 done i hi:=by
  rcases h.done i hi with q|q
  ·rcases List.mem_cons.1 q with q|q
   ·refine .inr λj hj=>?_
    exfalso
    subst q
    rw[Int.toNat_natCast] at hx
    exact hj.2.2.2 (hj.2.2.1.symm.trans hx)
   ·exact .inl q
  ·exact .inr q
theorem VZ.pop {P:zb} {but:Int} {flow:Nat} {s:Nat→Bool} {Q:List Int} {x:Int} (h:P.VZ but flow s (x::Q)) (hx:P.src x.toNat≠but):P.Uq but flow s Q x.toNat 0 where
 start:=h.start
 sound:=h.sound
 todo y hy:=h.todo y (List.mem_cons_of_mem _ hy)
 done i hi:=by
  rcases h.done i hi with q|q
  ·rcases List.mem_cons.1 q with q|q
   ·exact .inr (.inr ⟨zo,λj hj=>zo⟩)
   ·exact .inl q
  ·exact .inr (.inl q)
 here:=(h.todo x zs).2.2
 go:=hx
theorem Uq.skip {P:zb} {but:Int} {flow:Nat} {s:Nat→Bool} {Q:List Int} {x k:Nat} (h:P.Uq but flow s Q x k) (hk:P.dst k=P.src x→s k=true):P.Uq but flow s Q x (k+1) where
 start:=h.start
 sound:=h.sound
 todo:=h.todo
 done i hi:=by
  rcases h.done i hi with q|q|⟨rfl,q⟩
  ·exact .inl q
  ·exact .inr (.inl q)
  ·refine .inr (.inr ⟨rfl,λj hj hn=>?_⟩)
   by_cases e:j=k
   ·subst e;exact hk hn.2.2.1.symm
   ·exact q j zo hn
 here:=h.here
 go:=h.go
theorem Uq.push {P:zb} {but:Int} {flow:Nat} {s:Nat→Bool} {Q:List Int} {x k:Nat} (h:P.Uq but flow s Q x k) (hk:k<P.zv.length) (hd:P.dst k=P.src x):P.Uq but flow (mark s k) (Q++[(k:Int)]) x (k+1) where
 start:=xD h.start
 sound i hi:=by
  rcases Yv.1 hi with rfl|h'
  ·have:=h.sound x h.here
   exact⟨hk,Via.head ⟨hk,this.1,hd.symm,by rw[hd];exact h.go⟩ this.2⟩
  ·exact h.sound i h'
 todo y hy:=by
  rcases List.mem_append.1 hy with q|q
  ·obtain⟨a,b,c⟩:=h.todo y q
   exact⟨a,b,xD c⟩
  ·rw[List.mem_singleton] at q;subst q
   exact⟨zo,zo,by rw[Int.toNat_natCast];exact wS _ _⟩
 done i hi:=by
  rcases Yv.1 hi with rfl|h'
  ·exact .inl zs
  ·rcases h.done i h' with q|q|⟨rfl,q⟩
   ·exact .inl (List.mem_append_left _ q)
   ·exact .inr (.inl λj hj=>xD (q j hj))
   ·refine .inr (.inr ⟨rfl,λj hj hn=>?_⟩)
    by_cases e:j=k
    ·subst e;exact wS _ _
    ·exact xD (q j zo hn)
 here:=xD h.here
 go:=h.go
theorem Uq.fin {P:zb} {but:Int} {flow:Nat} {s:Nat→Bool} {Q:List Int} {x:Nat} (h:P.Uq but flow s Q x P.zv.length):P.VZ but flow s Q where
 start:=h.start
 sound:=h.sound
 todo:=h.todo
 done i hi:=by
  rcases h.done i hi with q|q|⟨rfl,q⟩
  ·exact .inl q
  ·exact .inr q
  ·exact .inr λj hj=>q j hj.1 hj
theorem VZ.fin {P:zb} {but:Int} {flow:Nat} {s:Nat→Bool} (h:P.VZ but flow s []) (i:Nat):s i=P.zoI but i flow:=by
 rw[Bool.eq_iff_iff,zei]
 refine⟨λhi=>(h.sound i hi).2,λhi=>zsA h.start (λx y hy hn=>?_) i hi⟩
 rcases h.done y hy with q|q
 ·cases q
 ·exact q x hn
end zb
end
section
open Go.RowKit
theorem zlF {Z:List Int} {lo hi:Nat} (h1:lo<hi) (h2:hi≤Z.length):(Z.take hi).drop lo=Z.getD lo 0::(Z.take hi).drop (lo+1):=by
 rw[List.drop_eq_getElem_cons (by rw[List.length_take];omega),List.getElem_take,List.getD_eq_getElem?_getD,List.getElem?_eq_getElem zo]
 rfl
theorem zkT {Z:List Int} {lo hi:Nat} {k:Int}:((zL Z).take hi).drop lo++[[D.sc (.int .i64 k)]]=zL ((Z.take hi).drop lo++[k]):=by
 simp[zL]
def zyF:PC:=.seq (OP [Bi 41 .lss 40 39]) (.seq (.cond 41 .skip (.exit 2)) (.seq (.block 3 (.seq (OP [qm 42 40,Ia 43 2 38 40,LA 44 2 43,q 11 (.alloc [(.int .i64 0),(.int .i64 0)]),qm 10 42,So 2 11 44]) (.seq (OP [Fa 45 1 11,Lo 46 45,qm 47 9,Bi 48 .eql 46 47,qm 49 48,GT 50 49 (.move 7),GT 51 49 (.move 10),GT 52 49 (.zM 1 50 51),GT 53 49 (.zg 52),GT 54 49 (.un .not 53),Pk 55 49 54 cF]) (.cond 55 (.seq (OP [qm 56 7,qm 57 10,Ia 58 1 56 57,So 1 58 cT]) (OP [qm 59 8,qm 60 10,Bs 61 1 1 [60],Ap 62 1 8 59 61,qm 8 62])) .skip)))) (OP [Bi 63 .add 40 (cI 1),qm 40 63])))
def zw7:PC:=.seq (.seq (OP [qm 21 8,Ln 22 21,Bi 23 .gtr 22 (cI 0)]) (.cond 23 .skip (.exit 0))) (.block 1 (.seq (.ops [Fa 24 1 3,qd 25 (.zg 24) 1,qm 26 8,qd 27 (.zM 1 26 (cI 0)) 4,qd 28 (.zg 27) 12,qd 29 (.zM 2 25 28) 31,qd 30 (.zz 0 29) 63,qd 31 (.zg 30) 127,qw 9 31 255] true) (.seq (OP [qm 32 8,q 33 (.slc 1 32 (some (cI 1)) none none),qm 8 33]) (.seq (.seq (OP [qm 34 9,qm 35 2,Bi 36 .eql 34 35]) (.cond 36 (.exit 1) .skip)) (.seq (OP [Fa 37 1 3,Lo 38 37,Ln 39 38,Mv 40 (cI 0)]) (.block 2 (.loop zyF)))))))
def c242:PC:=.seq (OP [Bx 3 0,Mv 6 cN]) (.seq (OP [Fa 12 1 3,Lo 13 12,Ln 14 13,q 15 (.wE 1 1 [(.bool false)] 14 14),qm 7 15]) (.seq (OP [qm 16 7,qm 17 1,Ia 18 1 16 17,So 1 18 cT]) (.seq (OP [qm 19 1,Bs 20 1 1 [19],qm 8 20]) (.seq (.block 0 (.loop zw7)) (.seq (OP [qm 64 7,qm 6 64]) .ret)))))
theorem ztI:zy Tryz.prog 242 65 [.tmp 6] c242:=fK Tryz.func242
theorem zos (P:zb) (hP:P.Fits) (hF:P.zv.length≤30) (flow:Nat) (hf:flow<P.zv.length) (hok:∀i,i<P.zv.length→P.ZI i=true) (but:Int) :
  zq Tryz.prog 242 [yU P,.sc (.int .i64 flow),.sc (.int .i64 but)] (uh P.zv.length λi=>P.zoI but i flow):=by
 refine za ztI zs (by simp[ze,Pure,yj]) ?_ (zV _ _)
 refine sR ?_
 rw[List.length_map]
 refine⟨zo,zo,zo,?_⟩
 rw[Int.toNat_natCast,show List.map D.sc [Value.bool false]=[D.sc (.bool false)] from rfl,ZE]
 refine sW ?_
 refine sB ?_
 refine⟨_,yd flow zo zo,?_⟩
 refine sW ?_
 refine zO [2,3,7] (λ((s,Z,lo,hi,zY):(Nat→Bool) × List Int × Nat × Nat × Nat)=>[(8,.own 2 zY lo hi)]) (λ(s,Z,lo,hi,zY)=>[(1,.vec true 0 1 (Z8 P.zv.length s)),(2,.vec true zY 1 (zL Z))])
  (λ(s,Z,lo,hi,zY)=>lo≤hi∧hi≤Z.length∧hi-lo+xq s P.zv.length≤P.zv.length∧P.VZ but flow s ((Z.take hi).drop lo)) (λ(s,Z,lo,hi,zY)=>(hi-lo)+xq s P.zv.length) (mark (λ_=>false) flow,[(flow:Int)],0,1,0) ?_
 refine sW ?_
 have u1:=UX (s:=λ_=>false) (s':=mark (λ_=>false) flow) hf (λj _ h=>by cases h) rfl (wS _ _)
 have u2:=zaW (λ_=>false) P.zv.length
 refine⟨⟨zo,zs,zo,zb.VZ.begin hf⟩,by exact sK,by rw[Up (v:=flow) zo];rfl,?_⟩
 rintro⟨s,Z,lo,hi,zY⟩ ⟨hlo,hhi,hu,hI⟩
 refine sW ?_
 refine sR ?_
 refine sS (λh1=>?_) λh1=>?_
 ·have h1:lo<hi:=sO
  rw[zlF h1 hhi] at hI
  have hx:=hI.todo (Z.getD lo 0) List.mem_cons_self
  generalize hX:Z.getD lo 0=x at hx hI
  have hfx:=zb.qP.1 (hok x.toNat zo)
  refine sB ?_
  refine⟨_,yb (l:=Z) (k:=lo) zo zo,?_⟩
  refine sW ?_
  rw[hX]
  refine sL (VC P (k:=x.toNat) zo zo) ?_
  refine⟨zo,zo,zo,?_⟩
  refine sW ?_
  rw[show lo+(hi-lo)=hi by omega]
  refine sS (λh2=>?_) λh2=>?_
  ·have h2:P.src x.toNat=but:=sO
   refine⟨(s,Z,lo+1,hi,zY),⟨zo,hhi,zo,hI.stop h2⟩,zd,?_⟩
   exact zD (by exact sK) rfl
  ·have h2:P.src x.toNat≠but:=sO
   rw[List.length_map]
   refine zO [2,3,7,9,38,39] (λ((t,Z',lo',hi',ver',k):(Nat→Bool) × List Int × Nat × Nat × Nat × Nat)=>[(8,.own 2 ver' lo' hi'),(40,.sc (.int .i64 k))]) (λ(t,Z',lo',hi',ver',k)=>[(1,.vec true 0 1 (Z8 P.zv.length t)),(2,.vec true ver' 1 (zL Z'))])
    (λ(t,Z',lo',hi',ver',k)=>k≤P.zv.length∧lo'≤hi'∧hi'≤Z'.length∧hi'-lo'+xq t P.zv.length<hi-lo+xq s P.zv.length∧P.Uq but flow t ((Z'.take hi').drop lo') x.toNat k) (λ(t,Z',lo',hi',ver',k)=>P.zv.length-k) (s,Z,lo+1,hi,zY,0) ?_
   refine sW ?_
   refine⟨⟨zo,zo,hhi,zo,hI.pop h2⟩,by exact sK,rfl,?_⟩
   rintro⟨t,Z',lo',hi',ver',k⟩ ⟨hk,hlo',hhi',hu',hJ⟩
   refine sW ?_
   refine sR ?_
   refine sS (λh3=>?_) λh3=>?_
   ·have hk':k<P.zv.length:=sO
    refine sL (VC P (k:=k) zo hk') ?_
    have skip:(P.dst k=P.src x.toNat→t k=true)→P.Uq but flow t ((Z'.take hi').drop lo') x.toNat (k+1):=hJ.skip
    refine sS (λh4=>?_) λh4=>?_
    ·have h4:P.dst k=P.src x.toNat:=sO
     refine sB ?_
     refine⟨_,yd k zo zo,?_⟩
     refine sW ?_
     cases ht:t k
     ·refine sW ?_
      refine sB ?_
      refine⟨_,yd k zo zo,?_⟩
      refine sW ?_
      refine sJ ?_
      refine sI ?_
      have u3:=UX (s:=t) (s':=mark t k) hk' (λj _ h=>xD h) ht (wS _ _)
      have hp:=hJ.push hk' h4
      refine⟨(mark t k,(Z'.take hi').drop lo'++[(k:Int)],0,hi'-lo'+1,ver'+1,k+1),⟨zo,zo,by simp;omega,zo,by rw[List.drop_zero,List.take_of_length_le (by simp;omega)];exact hp⟩,zd,?_⟩
      (refine zj 3 zs rfl ?_ ?_<;>(repeat' (first|exact trivial|exact rfl|exact yc.refl _|exact zQ.refl _|exact zK.refl _|refine And.intro ?_ ?_|(simp[zt,zl,zF,-List.map_take,-List.map_drop];done))))
      ·exact zp (Up zo)
      ·exact zp zkT
     ·refine sW ?_
      refine sI ?_
      refine⟨(t,Z',lo',hi',ver',k+1),⟨zo,hlo',hhi',hu',skip λ_=>ht⟩,zd,?_⟩
      exact zj 3 zs rfl sQ sQ
    ·have h4:P.dst k≠P.src x.toNat:=sO
     refine sW ?_
     refine sI ?_
     refine⟨(t,Z',lo',hi',ver',k+1),⟨zo,hlo',hhi',hu',skip λe=>absurd e h4⟩,zd,?_⟩
     exact zj 3 zs rfl sQ sQ
   ·have hk':k=P.zv.length:=by have:¬k<P.zv.length:=sO
                               omega
    subst hk'
    refine⟨(t,Z',lo',hi',ver'),⟨hlo',hhi',zo,hJ.fin⟩,zd,?_⟩
    exact zD (by exact sK) rfl
 ·have h0:hi=lo:=sO
  subst h0
  rw[List.drop_eq_nil_of_le (by rw[List.length_take];omega)] at hI
  rw[xV (g':=λi=>P.zoI but i flow) λi _=>hI.fin i]
  exact UH rfl
end
section
open Go.RowKit
end
section
def val (M:List Int) (i:Nat):Int:=M.getD i 0
namespace zb
def ZW (P:zb) (n:Int) (a:Nat):Int:=(P.ub n).getD a 0
def zae (P:zb) (n:Int) (a:Nat):Int:=(P.uV n).getD a 0
theorem Qi {l:List Int} {a:Nat} (h:a<l.length):l.getD a 0∈l:=by
 rw[List.getD_eq_getElem?_getD,List.getElem?_eq_getElem h];exact List.getElem_mem h
theorem ziN {l:List Int} {x:Int} (h:x∈l):∃k,k<l.length∧l.getD k 0=x:=XK h
theorem zan {P:zb} {n:Int} {a:Nat} (h:a<(P.ub n).length):0≤P.ZW n a∧P.ZW n a<P.zv.length∧P.dst (P.ZW n a).toNat=n:=by
 obtain⟨i,h1,h2,h3⟩:=Vb.1 (Qi h)
 unfold ZW ub
 rw[h3]
 rw[Int.toNat_natCast]
 exact⟨zo,zo,by simpa using h2⟩
theorem zq4 {P:zb} {n:Int} {a:Nat} (h:a<(P.uV n).length):0≤P.zae n a∧P.zae n a<P.zv.length∧P.src (P.zae n a).toNat=n:=by
 obtain⟨i,h1,h2,h3⟩:=Vb.1 (Qi h)
 unfold zae uV
 rw[h3]
 rw[Int.toNat_natCast]
 exact⟨zo,zo,by simpa using h2⟩
def zfy (P:zb) (M:List Int) (n:Int):Nat→Bool
 | 0=>false
 | a+1=>P.zfy M n a||decide (0<val M (P.ZW n a).toNat)
def zkl (P:zb) (M:List Int) (n:Int):Nat→Bool
 | 0=>true
 | a+1=>P.zkl M n a&&decide (0<val M (P.ZW n a).toNat)
def hold (P:zb) (M:List Int) (n:Int) (f i:Nat):Prop:=P.Via n i f∧0<val M i∧P.dst i≠n
def zmq (P:zb) (M:List Int) (n:Int) (a:Nat):Prop:=val M (P.ZW n a).toNat≤0∧∃i,i<P.zv.length∧P.hold M n (P.ZW n a).toNat i
open Classical in
noncomputable def zdw (P:zb) (M:List Int) (n:Int):Bool:=P.zfy M n (P.ub n).length&&decide (∀a,a<(P.ub n).length→¬P.zmq M n a)
open Classical in
noncomputable def zas (P:zb) (M:List Int) (s:yi):Bool :=
 if 0≤s.2.1 then decide (0<val M s.2.1.toNat) else if P.kind s.1.toNat=7 then P.zdw M s.1 else P.zkl M s.1 (P.ub s.1).length
open Classical in
theorem zj6 {P:zb} {M:List Int} {n:Int} {a:Nat} (ha:a<(P.ub n).length) (h:P.zmq M n a):P.zdw M n=false:=by
 unfold zdw
 rw[Bool.and_eq_false_iff]
 exact .inr (decide_eq_false λq=>q a ha h)
open Classical in
theorem zld {P:zb} {M:List Int} {n:Int} (h:∀a,a<(P.ub n).length→¬P.zmq M n a):P.zdw M n=P.zfy M n (P.ub n).length:=by
 unfold zdw
 rw[decide_eq_true h,Bool.and_true]
structure zdz (P:zb) (s:yi):Prop where
 node:0≤s.1∧s.1<P.nodes.length
 in_:-1≤s.2.1∧s.2.1<P.zv.length
 kind:s.2.1<0→P.kind s.1.toNat=6∨P.kind s.1.toNat=7
 out:0≤s.2.2∧s.2.2≤1073741824
theorem zmW {P:zb} (hf:P.zv.length≤30) (n:Int):0≤P.XX n∧P.XX n≤1073741823:=by
 have l2:=P.Ue n
 have:=zhU (k:=(P.uV n).length) (n:=30) zo
 have e30:zfb 30=1073741823:=rfl
 unfold XX
 omega
theorem zm0 {n:Int} {s:yi}:∀{k:Nat},s∈orS n k→s.1=n∧s.2.1=-1∧0≤s.2.2∧s.2.2≤k
 | 0,h=>by cases h
 | k+1,h=>by
  simp only[orS,List.mem_append,List.mem_singleton] at h
  rcases h with h|h
  ·have:=zm0 h
   exact⟨this.1,this.2.1,this.2.2.1,zo⟩
  ·subst h
   exact⟨rfl,rfl,zd,zd⟩
theorem zi7 {n i:Int} {s:yi}:∀{k:Nat},s∈ziv n i k→s.1=n∧s.2.1=i∧∃j,j<k∧s.2.2=2^j
 | 0,h=>by cases h
 | k+1,h=>by
  simp only[ziv,List.mem_append,List.mem_singleton] at h
  rcases h with h|h
  ·obtain⟨a,b,j,c,d⟩:=zi7 h
   exact⟨a,b,j,zo,d⟩
  ·subst h
   exact⟨rfl,rfl,k,zo,rfl⟩
theorem zgB {P:zb} {k n:Int} {s:yi} (hf:P.zv.length≤30):∀{j:Nat},j≤(P.ub n).length→s∈P.XH k n j→s.1=n∧(0≤s.2.1∧s.2.1<P.zv.length)∧0≤s.2.2∧s.2.2≤1073741824
 | 0,_,h=>by cases h
 | j+1,hj,h=>by
  simp only[XH,List.mem_append] at h
  rcases h with h|h
  ·exact zgB hf zo h
  ·have hi:=zan (P:=P) (n:=n) (a:=j) zo
   unfold ZW at hi
   have l2:=P.Ue n
   have ha:=zmW hf n
   unfold zcu at h
   split at h
   ·obtain⟨a,b,i,c,d⟩:=zi7 h
    have p1:=zai i
    have p2:=zdb (k:=i) (n:=30) zo
    have p3:(2:Int)^30=1073741824:=zc
    exact⟨a,zo,zo⟩
   ·rw[List.mem_singleton] at h
    subst h
    exact⟨rfl,⟨hi.1,hi.2.1⟩,ha.1,zd⟩
theorem zke {P:zb} {n:Nat} {s:yi} (hf:P.zv.length≤30) (hn:n<P.nodes.length) (h:s∈P.Y5 n):P.zdz s:=by
 have ha:=zmW hf n
 unfold Y5 at h
 split at h
 ·obtain⟨a,b,c⟩:=zgB hf (Nat.le_refl _) h
  exact⟨zo,zo,λq=>zo,c⟩
 ·split at h
  ·rename_i q
   rw[List.mem_singleton] at h
   subst h
   exact⟨zd,zd,λ_=>.inl (by rw[Int.toNat_natCast];exact q),ha.1,zd⟩
  ·split at h
   ·rename_i q
    obtain⟨a,b,c,d⟩:=zm0 h
    exact⟨zo,zo,λ_=>.inr (by rw[a,Int.toNat_natCast];exact q),c,zo⟩
   ·cases h
theorem zbE {P:zb} {s:yi} (hf:P.zv.length≤30):∀{n:Nat},n≤P.nodes.length→s∈P.vW n→P.zdz s
 | 0,_,h=>by cases h
 | n+1,hn,h=>by
  simp only[vW,List.mem_append] at h
  rcases h with h|h
  ·exact zbE hf zo h
  ·exact zke hf zo h
noncomputable def X3 (P:zb) (M:List Int) (l:List yi):Nat→List Int
 | 0=>[]
 | k+1=>if P.zas M (l.getD k (0,0,0))=true then P.X3 M l k++[(k:Int)] else P.X3 M l k
theorem zgj (P:zb) (M:List Int) (l:List yi):∀k,(P.X3 M l k).length≤k
 | 0=>by simp[X3]
 | k+1=>by
  have:=zgj P M l k
  simp only[X3]
  split
  ·simp;omega
  ·omega
theorem zfC {P:zb} {M:List Int} {n:Int} (h:∀i,0≤val M i):∀a,P.zkl M n a=!((List.range a).any λj=>val M (P.ZW n j).toNat==0)
 | 0=>rfl
 | a+1=>by
  rw[zkl,zfC h a,List.range_succ,List.any_append]
  have h1:decide (0<val M (P.ZW n a).toNat)=!(val M (P.ZW n a).toNat==0):=by
   have:=h (P.ZW n a).toNat
   by_cases q:val M (P.ZW n a).toNat=0
   ·simp[q]
   ·rw[decide_eq_true zo];simp[q]
  simp[h1]
theorem zoA {l:List Int} {p:Int→Bool}:l.any p=(List.range l.length).any λj=>p (l.getD j 0):=by
 rw[Bool.eq_iff_iff,List.any_eq_true,List.any_eq_true]
 constructor
 ·rintro⟨x,hx,hp⟩
  obtain⟨k,hk,rfl⟩:=List.mem_iff_getElem.1 hx
  refine⟨k,List.mem_range.2 hk,?_⟩
  rw[List.getD_eq_getElem?_getD,List.getElem?_eq_getElem hk]
  exact hp
 ·rintro⟨k,hk,hp⟩
  exact⟨_,Qi (List.mem_range.1 hk),hp⟩
end zb
end
section
open Go.RowKit
structure zb.Mark (P:zb) (M:List Int):Prop where
 len:M.length=P.zv.length
 pos:∀i,0≤val M i
 top:∀i,val M i≤9
theorem zh1 {M:List Int} {z k:Nat} (hz:z=k) (h:k<M.length):(M.map λn=>[D.sc (.int .i64 n)])[z]? = some [.sc (.int .i64 (val M k))]:=yb hz h
theorem zd8 {P:zb} (h0:P.yJ=0) {n:Int} (h1:0≤n) (h2:n<P.nodes.length):P.qC n=0∧P.zj5 n=P.ub n∧P.zbW n=P.uV n:=by
 have hE:P.qC n=0:=by unfold zb.qC;rw[if_neg zo,if_neg zo]
 exact⟨hE,by unfold zb.zj5;rw[if_pos hE],by unfold zb.zbW;rw[if_pos hE]⟩
theorem zgE {P:zb} (h:P.yJ=0):∀i,i<P.zv.length→P.ZI i=true:=by
 unfold zb.yJ at h
 repeat' (split at h)
 all_goals first|(exact absurd h zc)|(exact absurd h (by assumption))|skip
 all_goals exact Classical.not_not.1 (by assumption)
def zzu:PC:=.seq (OP [Bi 37 .lss 36 35]) (.seq (.cond 37 .skip (.exit 2)) (.seq (.block 3 (.seq (OP [qm 38 36,Ia 39 1 34 36,Lo 40 39,qm 12 38,qm 13 40]) (.seq (OP [qm 41 13,qm 42 41,GT 43 42 (.move 1),GT 44 42 (.move 12),GT 45 42 (.zM 1 43 44),GT 46 42 (.zg 45),GT 47 42 (.bin .gtr 46 (cI 0)),Pk 48 42 47 cF,qm 49 48,GT 50 49 (.zz 1 3),GT 51 49 (.zg 50),GT 52 49 (.move 12),GT 53 49 (.zM 2 51 52),GT 54 49 (.zz 1 53),GT 55 49 (.zg 54),GT 56 49 (.move 2),GT 57 49 (.bin .neq 55 56),Pk 58 49 57 cF]) (.cond 58 (.seq (OP [Mv 6 cF]) .ret) .skip)))) (OP [Bi 59 .add 36 (cI 1),qm 36 59])))
def zzS:PC:=.seq (OP [Bi 23 .lss 22 21]) (.seq (.cond 23 .skip (.exit 0)) (.seq (.block 1 (.seq (OP [Ia 24 1 20 22,Lo 25 24,qm 11 25]) (.seq (.seq (OP [qm 26 1,qm 27 11,Ia 28 1 26 27,Lo 29 28,Bi 30 .gtr 29 (cI 0)]) (.cond 30 (.seq (OP [Mv 9 cT]) (.exit 1)) .skip)) (.seq (OP [LA 31 2 3,qm 32 11,qm 33 2,Ca 34 242 [31,32,33],Ln 35 34,Mv 36 (cI 0)]) (.block 2 (.loop zzu)))))) (OP [Bi 60 .add 22 (cI 1),qm 22 60])))
def c238:PC:=.seq (OP [Bx 3 0,Mv 6 cF]) (.seq (OP [LA 15 2 3,qm 16 2,Ca 17 103 [15,16],qm 14 17,Xt 18 0 14,Xt 19 1 14,qm 7 18,qm 8 19]) (.seq (OP [Mv 9 cF]) (.seq (.seq (OP [qm 20 7,Ln 21 20,Mv 22 (cI 0)]) (.block 0 (.loop zzS))) (.seq (OP [qm 61 9,qm 6 61]) .ret))))
theorem zuF:zy Tryz.prog 238 62 [.tmp 6] c238:=fK Tryz.func238
theorem zlP (P:zb) (hP:P.Fits) (h0:P.yJ=0) (M:List Int) (hM:P.Mark M) (n:Int) (h1:0≤n) (h2:n<P.nodes.length) :
  zq Tryz.prog 238 [yU P,zB M,.sc (.int .i64 n)] (.sc (.bool (P.zdw M n))):=by
 obtain⟨hs1,hs2⟩:=xm h0
 obtain⟨hE,hI,_⟩:=zd8 h0 h1 h2
 have hi:=JQ P hP n
 rw[hI,hE] at hi
 have l1:=P.JO n
 have lM:=hM.len
 refine za zuF zs (by simp[ze,Pure,yj,zi]) ?_ (by simp[Pure])
 refine sR ?_
 refine sC hi ?_
 rw[List.length_map]
 refine zO [1,2,3,20,21] (λa:Nat=>[(9,.sc (.bool (P.zfy M n a))),(22,.sc (.int .i64 a))]) (λ_=>[]) (λa=>a≤(P.ub n).length∧∀j,j<a→¬P.zmq M n j) (λa=>(P.ub n).length-a) 0 ?_
 refine sW ?_
 refine⟨⟨zo,λj h=>zo⟩,by exact sK,rfl,?_⟩
 rintro a ⟨ha,hall⟩
 refine sW ?_
 refine sR ?_
 refine sS (λh3=>?_) λh3=>?_
 ·have ha':a<(P.ub n).length:=sO
  have xL:=zb.zan (P:=P) (n:=n) ha'
  have ep:P.zfy M n (a+1)=(P.zfy M n a||decide (0<val M (P.ZW n a).toNat)):=rfl
  refine sL (yb (k:=a) zo ha') ?_
  rw[show(P.ub n).getD a 0=P.ZW n a from rfl]
  generalize hx:P.ZW n a=x at xL ep
  refine sL (zh1 (k:=x.toNat) zo zo) ?_
  refine sS (λh4=>?_) λh4=>?_
  ·have h4:0<val M x.toNat:=sO
   refine sW ?_
   refine sI ?_
   refine⟨a+1,⟨zo,λj hj=>?_⟩,zd,?_⟩
   ·by_cases e:j=a
    ·subst e;exact λq=>by have:=q.1;rw[hx] at this;omega
    ·exact hall j zo
   ·rw[decide_eq_true h4,Bool.or_true] at ep
    exact zD ⟨by simp only[ep];rfl,by exact sK⟩ rfl
  ·have h4:¬0<val M x.toNat:=sO
   rw[decide_eq_false h4,Bool.or_false] at ep
   have hc:=zos P hP hs2 x.toNat zo (zgE h0) n
   rw[show((x.toNat:Nat):Int)=x by omega] at hc
   refine sW ?_
   refine sC hc ?_
   rw[zhf]
   refine zO [1,2,3,9,20,21,22,34,35] (λk:Nat=>[(36,.sc (.int .i64 k))]) (λ_=>[]) (λk=>k≤P.zv.length∧∀i,i<k→¬P.hold M n x.toNat i) (λk=>P.zv.length-k) 0 ?_
   refine sW ?_
   refine⟨⟨zo,λj h=>zo⟩,by exact sK,rfl,?_⟩
   rintro k ⟨hk,hno⟩
   refine sW ?_
   refine sR ?_
   have next:∀{i:Nat},¬P.hold M n x.toNat k→i<k+1→¬P.hold M n x.toNat i:=λh1 h2=>by
    rename_i i
    by_cases e:i=k
    ·subst e;exact h1
    ·exact hno i zo
   refine sS (λh5=>?_) λh5=>?_
   ·have hk':k<P.zv.length:=sO
    refine sL (yd k zo hk') ?_
    cases hv:P.zoI n k x.toNat
    ·refine sW ?_
     refine sI ?_
     refine⟨k+1,⟨zo,λi hi=>next (λq=>by rw[zb.zei.2 q.1] at hv;cases hv) hi⟩,zd,zD (by exact sK) rfl⟩
    ·refine sW ?_
     refine sL (zh1 (k:=k) zo zo) ?_
     cases hg:decide (val M k>0)
     ·refine sW ?_
      refine sI ?_
      refine⟨k+1,⟨zo,λi hi=>next (λq=>by rw[decide_eq_true q.2.1] at hg;cases hg) hi⟩,zd,zD (by exact sK) rfl⟩
     ·refine sW ?_
      refine sL (VC P (k:=k) zo hk') ?_
      refine sS (λh6=>?_) λh6=>?_
      ·have h6:P.dst k≠n:=sO
       rw[zb.zj6 ha' ⟨by rw[hx];omega,k,hk',by rw[hx];exact⟨zb.zei.1 hv,of_decide_eq_true hg,h6⟩⟩]
       exact .refl _
      ·have h6:P.dst k=n:=sO
       refine sI ?_
       refine⟨k+1,⟨zo,λi hi=>next (λq=>q.2.2 h6) hi⟩,zd,zD (by exact sK) rfl⟩
   ·have hk':k=P.zv.length:=by have:¬k<P.zv.length:=sO
                               omega
    subst hk'
    refine sI ?_
    refine⟨a+1,⟨zo,λj hj=>?_⟩,zd,zD ⟨by simp only[ep];rfl,by exact sK⟩ rfl⟩
    by_cases e:j=a
    ·subst e
     rintro⟨-,i,q1,q2⟩
     rw[hx] at q2
     exact hno i q1 q2
    ·exact hall j zo
 ·have ha':a=(P.ub n).length:=by have:¬a<(P.ub n).length:=sO
                                 omega
  subst ha'
  rw[zb.zld hall]
  exact .refl _
def c239:PC:=.seq (OP [Mv 3 cF]) (.seq (OP [Lo 4 1,qm 5 0,Ia 6 1 4 5,Lo 7 6,Bi 8 .eql 7 (cI 0),qm 3 8]) .ret)
theorem zvr:zy Tryz.prog 239 9 [.tmp 3] c239:=fK Tryz.func239
def c221:PC:=.seq (OP [Bx 3 0,Bx 4 1,Bx 5 2,Mv 6 cF]) (.seq (.seq (OP [Fa 9 1 5,Lo 10 9,Bi 11 .geq 10 (cI 0)]) (.cond 11 (.seq (OP [Lo 12 4,Fa 13 1 5,Lo 14 13,Ia 15 1 12 14,Lo 16 15,Bi 17 .gtr 16 (cI 0),qm 6 17]) .ret) .skip)) (.seq (.seq (OP [Fa 18 0 3,Lo 19 18,Fa 20 0 5,Lo 21 20,Ia 22 2 19 21,Fa 23 1 22,Lo 24 23,Bi 25 .eql 24 (cI 7)]) (.cond 25 (.seq (OP [LA 26 2 3,Lo 27 4,Fa 28 0 5,Lo 29 28,Ca 30 238 [26,27,29],qm 6 30]) .ret) .skip)) (.seq (OP [LA 32 2 3,Fa 33 0 5,Lo 34 33,Ca 35 103 [32,34],qm 31 35,Xt 36 0 31,Xt 37 1 31,qm 7 36,qm 8 37]) (.seq (OP [qm 38 7,q 39 (.qj (.func 239) [] [4]),Ca 40 49 [38,39],Nt 41 40,qm 6 41]) .ret))))
theorem zvC:zy Tryz.prog 221 42 [.tmp 6] c221:=fK Tryz.func221
theorem zfd (M:List Int) (x:Int) (h1:0≤x) (h2:x<M.length):zq Tryz.prog 239 [.sc (.int .i64 x),.y7 [zB M]] (.sc (.bool (val M x.toNat==0))):=by
 refine za zvr zs (by simp[ze,Pure,zi]) ?_ (by simp[Pure])
 refine sR ?_
 refine sL (zh1 (k:=x.toNat) zo zo) ?_
 exact .refl _
theorem JB (P:zb) (hP:P.Fits) (h0:P.yJ=0) (M:List Int) (hM:P.Mark M) (s:yi) (hs:P.zdz s) :
  zq Tryz.prog 221 [yU P,zB M,.agg (ziB s)] (.sc (.bool (P.zas M s))):=by
 obtain⟨hs1,hs2⟩:=xm h0
 have hn:=hs.node
 have xL:=hs.in_
 obtain⟨hE,hI,_⟩:=zd8 h0 hn.1 hn.2
 have hi:=JQ P hP s.1
 rw[hI,hE] at hi
 have l1:=P.JO s.1
 have lM:=hM.len
 have hcf:zq Tryz.prog 49 [zB (P.ub s.1),.fn (.func 239) [] [.y7 [zB M]]] (.sc (.bool ((P.ub s.1).any λx=>val M x.toNat==0))) :=
  y4 (λn=>.sc (.int .i64 n)) (λ_=>by simp[Pure]) (P.ub s.1) zo (λx=>val M x.toNat==0) 239 [.y7 [zB M]] (by simp[ze,Pure,zi]) λa ha=>by
   obtain⟨k,hk,e⟩:=zb.ziN ha
   have:=zb.zan (P:=P) (n:=s.1) hk
   unfold zb.ZW at this
   rw[e] at this
   exact zfd M _ this.1 zo
 refine za zvC zs (by simp[ze,Pure,yj,zi,za1]) ?_ (by simp[Pure])
 have e:P.zas M s=if 0≤s.2.1 then decide (0<val M s.2.1.toNat) else if P.kind s.1.toNat=7 then P.zdw M s.1 else P.zkl M s.1 (P.ub s.1).length:=rfl
 refine sR ?_
 refine sS (λh1=>?_) λh1=>?_
 ·have h1:0≤s.2.1:=sO
  rw[if_pos h1] at e
  refine sL (zh1 (k:=s.2.1.toNat) zo zo) ?_
  rw[e]
  exact .refl _
 have h1:¬0≤s.2.1:=sO
 rw[if_neg h1] at e
 refine sL (Wr P (k:=s.1.toNat) zo zo) ?_
 refine sS (λh2=>?_) λh2=>?_
 ·have h2:P.kind s.1.toNat=7:=sO
  rw[if_pos h2] at e
  refine sC (zlP P hP h0 M hM s.1 hn.1 hn.2) ?_
  rw[e]
  exact .refl _
 have h2:P.kind s.1.toNat≠7:=sO
 rw[if_neg h2] at e
 refine sC hi ?_
 refine sN hcf ?_
 rw[e,zb.zfC hM.pos,zb.zoA]
 exact .refl _
end
section
open Go.RowKit
theorem zxm (M:List Int):gl M.length (val M)=M:=by
 apply List.ext_getElem
 ·simp
 ·intro i h1 h2
  simp[gl,val,List.getD_eq_getElem?_getD,List.getElem?_eq_getElem h2]
theorem zo6 {y:Int} (h:0≤y) (h':y<9223372036854775808):vd .and .i64 y 1=y.tmod 2:=by
 obtain⟨n,rfl⟩:∃n:Nat,y=n:=⟨y.toNat,zo⟩
 have e:(BitVec.ofInt 64 (n:Int) &&& BitVec.ofInt 64 1).toNat=n%2:=by
  rw[BitVec.toNat_and]
  have e1:(BitVec.ofInt 64 (n:Int)).toNat=n:=by rw[BitVec.toNat_ofInt];omega
  have e2:(BitVec.ofInt 64 1).toNat=1:=zc
  rw[e1,e2,Nat.and_one_is_mod]
 show IntKind.i64.wrap ((BitVec.ofInt 64 (n:Int) &&& BitVec.ofInt 64 1).toNat:Int)=_
 rw[e,show((n:Int).tmod 2)=((n%2:Nat):Int) from(Int.ofNat_tmod n 2).symm,IntKind.wrap_i64]
 omega
namespace zb
def zkq (P:zb) (M:List Int) (s:yi) (f:Nat):Bool:=decide (P.dst f=s.1)&&(s.2.1==(f:Int)||decide (s.2.1<0)&&decide (0<val M f))
def Ui (P:zb) (M:List Int) (s:yi) (f:Nat):Int:=val M f-if P.zkq M s f=true then 1 else 0
def Vx (P:zb) (s:yi) (f:Nat):Nat→Int
 | 0=>0
 | k+1=>P.Vx s f k+if P.zae s.1 k=(f:Int)∧zhB s.2.2 k=true then 1 else 0
def zcn (P:zb) (M:List Int) (s:yi) (f:Nat):Int:=P.Ui M s f+P.Vx s f (P.uV s.1).length
theorem zhN (P:zb) (s:yi) (f:Nat):∀k,0≤P.Vx s f k∧P.Vx s f k≤k
 | 0=>by simp[Vx]
 | k+1=>by
  have:=zhN P s f k
  simp only[Vx]
  split<;>omega
theorem zg0 (P:zb) (s:yi) (f:Nat) {j:Nat}:∀{k:Nat},j≤k→P.Vx s f j≤P.Vx s f k
 | 0,h=>by rw[show j=0 by omega];exact Int.le_refl _
 | k+1,h=>by
  by_cases e:j=k+1
  ·rw[e];exact Int.le_refl _
  ·have:=zg0 P s f (j:=j) (k:=k) zo
   have h2:P.Vx s f k≤P.Vx s f (k+1):=by
    simp only[Vx]
    split<;>omega
   omega
theorem zi8 {P:zb} {M:List Int} (hM:P.Mark M) (s:yi) (f:Nat):-1≤P.Ui M s f∧P.Ui M s f≤9:=by
 have h1:=hM.pos f
 have h2:=hM.top f
 unfold Ui
 split<;>omega
open Classical in
noncomputable def Zo (P:zb) (M:List Int) (s:yi):Int:=if P.kind s.1.toNat=3 then 0 else if ∃f,f<P.zv.length∧9<P.zcn M s f then 7 else 0
noncomputable def VX (P:zb) (M:List Int) (s:yi):List Int :=
 if P.kind s.1.toNat=3 then gl P.zv.length λ_=>0 else if P.Zo M s=0 then gl P.zv.length (P.zcn M s) else []
theorem zdh {l r:List Int} {a:Nat} (h:a<l.length):(l++r).getD a 0=l.getD a 0:=by
 rw[List.getD_eq_getElem?_getD,List.getD_eq_getElem?_getD,List.getElem?_append_left h]
theorem zfc {l:List Int} {x:Int}:(l++[x]).getD l.length 0=x:=by
 rw[List.getD_eq_getElem?_getD,List.getElem?_append_right (Nat.le_refl _),Nat.sub_self]
 rfl
theorem UF {p:Nat→Bool}:∀{n a b:Nat},a<b→b<(pick p n).length→(pick p n).getD a 0<(pick p n).getD b 0
 | 0,_,_,_,h=>by simp[pick] at h
 | n+1,a,b,hab,h=>by
  simp only[pick] at h ⊢
  split
  ·rename_i hp
   rw[if_pos hp,List.length_append,List.length_singleton] at h
   by_cases e:b=(pick p n).length
   ·subst e
    obtain⟨i,g1,g2,g3⟩:=Vb.1 (Qi (l:=pick p n) (a:=a) hab)
    rw[zdh hab,g3,zfc]
    omega
   ·rw[zdh zo,zdh zo]
    exact UF hab zo
  ·rename_i hp
   rw[if_neg hp] at h
   exact UF hab h
theorem ztN {P:zb} {n:Int} {a b:Nat} (h:a<b) (hb:b<(P.ub n).length):P.ZW n a<P.ZW n b:=UF h hb
theorem zsr {P:zb} {n:Int} {f:Nat} (hf:f<P.zv.length) (h:P.dst f=n):∃a,a<(P.ub n).length∧P.ZW n a=f:=XK (Vb.2 ⟨f,hf,by simpa using h,rfl⟩)
structure ze4 (P:zb) (M:List Int) (s:yi) (g:Nat→Int) (a:Nat):Prop where
 gone:∀f j:Nat,j<a→P.ZW s.1 j=(f:Int)→g f=P.Ui M s f
 left:∀f:Nat,(∀j,j<a→P.ZW s.1 j≠(f:Int))→g f=val M f
theorem ze4.begin {P:zb} {M:List Int} {s:yi}:P.ze4 M s (val M) 0:=⟨λf j h=>zo,λf _=>rfl⟩
theorem ze4.old {P:zb} {M:List Int} {s:yi} {g:Nat→Int} {a x:Nat} (h:P.ze4 M s g a) (ha:a<(P.ub s.1).length) (hx:P.ZW s.1 a=(x:Int)):g x=val M x :=
 h.left x λj hj e=>by
  have:=ztN hj ha
  omega
theorem ze4.next {P:zb} {M:List Int} {s:yi} {g g':Nat→Int} {a x:Nat} (h:P.ze4 M s g a) (ha:a<(P.ub s.1).length) (hx:P.ZW s.1 a=(x:Int)) (h1:g' x=P.Ui M s x) (h2:∀f,f≠x→g' f=g f):P.ze4 M s g' (a+1) where
 gone f j hj e:=by
  by_cases q:f=x
  ·subst q;exact h1
  ·rw[h2 f q]
   refine h.gone f j ?_ e
   by_cases q2:j=a
   ·subst q2;rw[hx] at e;omega
   ·omega
 left f hf:=by
  rw[h2 f λe=>by subst e;exact hf a zo hx]
  exact h.left f λj hj=>hf j zo
theorem ze4.fin {P:zb} {M:List Int} {s:yi} {g:Nat→Int} (h:P.ze4 M s g (P.ub s.1).length) {f:Nat} (hf:f<P.zv.length):g f=P.Ui M s f:=by
 by_cases e:P.dst f=s.1
 ·obtain⟨a,h1,h2⟩:=zsr hf e
  exact h.gone f a h1 h2
 ·rw[h.left f λj hj q=>e (by have:=(zan (P:=P) (n:=s.1) hj).2.2;rw[q,Int.toNat_natCast] at this;exact this)]
  unfold Ui zkq
  rw[decide_eq_false e]
  simp
theorem zrP {P:zb} {s:yi} {k x:Nat} (h:P.zae s.1 k=(x:Int)) (hb:zhB s.2.2 k=true):P.Vx s x (k+1)=P.Vx s x k+1:=by
 simp only[Vx]
 rw[if_pos ⟨h,hb⟩]
theorem zgD {P:zb} {s:yi} {k f:Nat} (h:P.zae s.1 k≠(f:Int)∨zhB s.2.2 k=false):P.Vx s f (k+1)=P.Vx s f k:=by
 simp only[Vx]
 rw[if_neg (by rintro⟨h1,h2⟩;rcases h with h|h;exact h h1;rw[h] at h2;cases h2),Int.add_zero]
end zb
end
section
open Go.RowKit
@[simp] theorem ztY {m:Nat} (l:List yi):zt m (ZG l)↔True:=⟨λ_=>trivial,λ_=>zw _ (uK l)⟩
namespace zb
def uA (P:zb) (M:List Int):Bool:=decide (M.length=P.zv.length)&&xH M 10
noncomputable def uS (P:zb) (M:List Int):Int:=if P.yK≠0 then P.yK else if P.uA M=true then 0 else 1
noncomputable def QK (P:zb) (M:List Int):List yi:=if P.uS M=0 then P.zI else []
theorem xD {P:zb} {M:List Int} (h:P.uA M=true):P.Mark M:=by
 unfold uA at h
 rw[Bool.and_eq_true,decide_eq_true_eq] at h
 have k:∀i,0≤val M i∧val M i≤9:=λi=>by
  by_cases hi:i<M.length
  ·have:=zj1 h.2 hi
   unfold val
   omega
  ·unfold val
   rw[List.getD_eq_getElem?_getD,List.getElem?_eq_none zo]
   simp
 exact⟨h.1,λi=>(k i).1,λi=>(k i).2⟩
theorem xl {P:zb} (h:P.yK=0):P.yJ=0∧P.zI=P.vW P.nodes.length∧P.zI.length≤60:=by
 have e:P.zI=P.vW P.nodes.length:=by unfold zI;rw[if_pos h]
 unfold yK at h
 split at h
 ·rename_i q;exact absurd h q
 ·rename_i q
  split at h
  ·cases h
  ·exact⟨Classical.not_not.1 q,e,by rw[e];omega⟩
theorem zdi {P:zb} {M:List Int} (h:P.uS M=0):P.yK=0∧P.uA M=true:=by
 unfold uS at h
 split at h
 ·rename_i q;exact absurd h q
 ·rename_i q
  split at h
  ·rename_i q2;exact⟨Classical.not_not.1 q,q2⟩
  ·cases h
theorem Qs {P:zb} (h:P.yK=0) {k:Nat} (hk:k<P.zI.length):P.zdz (P.zI.getD k (0,0,0)):=by
 obtain⟨h0,e,_⟩:=xl h
 refine zbE (xm h0).2 (Nat.le_refl _) ?_
 rw[e] at hk ⊢
 rw[List.getD_eq_getElem?_getD,List.getElem?_eq_getElem hk]
 exact List.getElem_mem hk
end zb
theorem zao {l:List yi} {z k:Nat} (hz:z=k) (h:k<l.length):(vF l)[z]? = some (ziB (l.getD k (0,0,0))):=by
 rw[zvF hz h,List.getD_eq_getElem?_getD,List.getElem?_eq_getElem h]
 rfl
def zhx (P:zb) (i:Nat):Int:=if P.kind (P.src i).toNat=1 then 1 else 0
noncomputable def zb.wF (P:zb):List Int:=if P.yK=0 then gl P.zv.length (zhx P) else []
def c237:PC:=.seq (OP [Mv 2 cF]) (.seq (OP [qm 3 0,Bi 4 .lss 3 (cI 0),qm 5 4,GF 6 5 (.move 0),GF 7 5 (.bin .gtr 6 (cI 9)),Pk 8 5 cT 7,qm 2 8]) .ret)
theorem zuR:zy Tryz.prog 237 9 [.tmp 2] c237:=fK Tryz.func237
def c220:PC:=.seq (OP [Bx 2 0,Mv 4 cN,Mv 5 (cI 0)]) (.seq (OP [LA 9 2 2,Ca 10 19 [9],qm 8 10,Xt 11 0 8,Xt 12 1 8,qm 6 11,qm 7 12]) (.seq (.seq (OP [qm 13 7,Bi 14 .neq 13 (cI 0)]) (.cond 14 (.seq (OP [qm 15 7,Mv 4 cN,qm 5 15]) .ret) .skip)) (.seq (.seq (OP [qm 16 1,Ln 17 16,Fa 18 1 2,Lo 19 18,Ln 20 19,Bi 21 .neq 17 20,qm 22 21,GF 23 22 (.move 1),GF 24 22 (.call 49 [23,(.func 237)]),Pk 25 22 cT 24]) (.cond 25 (.seq (OP [Mv 4 cN,Mv 5 (cI 1)]) .ret) .skip)) (.seq (OP [qm 26 6,qm 4 26,Mv 5 (cI 0)]) .ret))))
theorem zvZ:zy Tryz.prog 220 27 [.tmp 4,.tmp 5] c220:=fK Tryz.func220
theorem zkD (x:Int):zq Tryz.prog 237 [.sc (.int .i64 x)] (.sc (.bool (decide (x<0)||decide (x>9)))):=by
 refine za zuR zs (by simp[ze,Pure]) ?_ (by simp[Pure])
 refine sR ?_
 cases h:decide (x<0)
 ·refine sW ?_
  exact .refl _
 ·refine sW ?_
  exact .refl _
theorem zua (M:List Int):(M.any λx=>decide (x<0)||decide (x>9))=!xH M 10:=by
 unfold xH
 rw[List.all_eq_not_any_not,Bool.not_not]
 congr 1
 funext x
 by_cases h1:x<0<;>by_cases h2:x>9<;>simp[h1,h2]<;>omega
theorem zdW (P:zb) (hP:P.Fits) (M:List Int) (hM:M.length≤9223372036854775807):zq Tryz.prog 220 [yU P,zB M] (.yO [ZG (P.QK M),.sc (.int .i64 (P.uS M))]):=by
 refine za zvZ zs (by simp[ze,Pure,yj,zi]) ?_ (by simp[Pure,ze,uK])
 have bad:∀{H:List zf} {e:Int},e≠0→P.uS M=e→Deep H (.yO [.sc (.slice none 0 0),.sc (.int .i64 e)]) (.yO [ZG (P.QK M),.sc (.int .i64 (P.uS M))]):=λh k=>by
  have:P.QK M=[]:=by unfold zb.QK;rw[if_neg (by rw[k];exact h)]
  rw[k,this]
  exact .yO _ _ (.cons _ _ _ _ (.none _) (.cons _ _ _ _ (.refl _) .nil))
 have hcf:=y4 (λn=>.sc (.int .i64 n)) (λ_=>by simp[Pure]) M hM (λx=>decide (x<0)||decide (x>9)) 237 [] (by simp[ze]) λa _=>zkD a
 rw[zua] at hcf
 have hfl:=hP.zv
 have eE:P.uS M=if P.yK≠0 then P.yK else if P.uA M=true then 0 else 1:=rfl
 refine sR ?_
 refine sC (W0 P hP) ?_
 refine sS (λh1=>?_) λh1=>?_
 ·have h1:P.yK≠0:=sO
  exact bad h1 (by rw[eE,if_pos h1])
 have h1:P.yK=0:=sO
 rw[if_neg zo] at eE
 rw[List.length_map,List.length_map]
 cases h2:((M.length:Int) != P.zv.length)
 ·have h2:M.length=P.zv.length:=sO
  refine sW ?_
  refine sC hcf ?_
  have eM:P.uA M=xH M 10:=by unfold zb.uA;rw[decide_eq_true h2,Bool.true_and]
  cases h3:xH M 10
  ·refine sW ?_
   exact bad zc (by rw[eE,if_neg (by rw[eM,h3];decide)])
  ·refine sW ?_
   have e0:P.uS M=0:=by rw[eE,if_pos (by rw[eM,h3])]
   have eL:P.QK M=P.zI:=by unfold zb.QK;rw[if_pos e0]
   rw[e0,eL]
   exact .refl _
 ·have h2:M.length≠P.zv.length:=sO
  refine sW ?_
  exact bad zc (by rw[eE,if_neg (by unfold zb.uA;rw[decide_eq_false h2];simp)])
def zye:PC:=.seq (OP [Bi 23 .lss 22 21]) (.seq (.cond 23 .skip (.exit 0)) (.seq (.block 1 (.seq (OP [qm 24 22,Ia 25 3 20 22,LA 26 3 25,q 10 (.alloc [(.int .i64 0),(.int .i64 0),(.int .i64 0)]),qm 9 24,So 3 10 26]) (.seq (OP [LA 27 2 2,qm 28 1,LA 29 3 10,Ca 30 221 [27,28,29]]) (.cond 30 (OP [qm 31 8,qm 32 9,Bs 33 1 1 [32],Ap 34 1 8 31 33,qm 8 34]) .skip)))) (OP [Bi 35 .add 22 (cI 1),qm 22 35])))
def c173:PC:=.seq (OP [Bx 2 0,Mv 4 cN,Mv 5 (cI 0)]) (.seq (OP [LA 12 2 2,qm 13 1,Ca 14 220 [12,13],qm 11 14,Xt 15 0 11,Xt 16 1 11,qm 6 15,qm 7 16]) (.seq (.seq (OP [qm 17 7,Bi 18 .neq 17 (cI 0)]) (.cond 18 (.seq (OP [qm 19 7,Mv 4 cN,qm 5 19]) .ret) .skip)) (.seq (OP [Mv 8 cN]) (.seq (.seq (OP [qm 20 6,Ln 21 20,Mv 22 (cI 0)]) (.block 0 (.loop zye))) (.seq (OP [qm 36 8,qm 4 36,Mv 5 (cI 0)]) .ret)))))
theorem zth:zy Tryz.prog 173 37 [.tmp 4,.tmp 5] c173:=fK Tryz.func173
noncomputable def zb.YL (P:zb) (M:List Int):List Int:=if P.uS M=0 then P.X3 M P.zI P.zI.length else []
theorem zhn (P:zb) (hP:P.Fits) (M:List Int) (hM:M.length≤9223372036854775807):zq Tryz.prog 173 [yU P,zB M] (.yO [zB (P.YL M),.sc (.int .i64 (P.uS M))]):=by
 refine za zth zs (by simp[ze,Pure,yj,zi]) ?_ (by simp[Pure,ze,zi])
 refine sR ?_
 refine sC (zdW P hP M hM) ?_
 refine sS (λh1=>?_) λh1=>?_
 ·have h1:P.uS M≠0:=sO
  have:P.YL M=[]:=by unfold zb.YL;rw[if_neg h1]
  rw[this]
  exact .yO _ _ (.cons _ _ _ _ (.none _) (.cons _ _ _ _ (.refl _) .nil))
 have h1:P.uS M=0:=sO
 obtain⟨hE,hB⟩:=zb.zdi h1
 obtain⟨h0,_,h60⟩:=zb.xl hE
 have hK:=zb.xD hB
 have eL:P.QK M=P.zI:=by unfold zb.QK;rw[if_pos h1]
 have eN:P.YL M=P.X3 M P.zI P.zI.length:=by unfold zb.YL;rw[if_pos h1]
 rw[eL,h1,eN,W2]
 refine zG (xr 8 1 zs rfl) ?_
 refine zO [1,2,20,21] (λ((k,c,l):Nat × Nat × List Int)=>[(8,.own 1 c 0 c),(22,.sc (.int .i64 k))]) (λ(k,c,l)=>[(1,.vec true c 1 (zL l))]) (λ(k,c,l)=>k≤P.zI.length∧c=l.length∧c≤k∧l=P.X3 M P.zI k) (λ(k,c,l)=>P.zI.length-k) (0,0,[]) ?_
 refine sW ?_
 refine⟨⟨zo,rfl,zo,rfl⟩,by exact sK,rfl,?_⟩
 rintro⟨k,c,l⟩ ⟨hk,hc,hck,hl⟩
 refine sW ?_
 refine sR ?_
 refine sS (λh2=>?_) λh2=>?_
 ·have hk':k<P.zI.length:=sO
  have hsk:=zb.Qs hE hk'
  have eT:P.X3 M P.zI (k+1)=if P.zas M (P.zI.getD k (0,0,0))=true then P.X3 M P.zI k++[(k:Int)] else P.X3 M P.zI k:=rfl
  refine sL (zao (k:=k) zo hk') ?_
  generalize P.zI.getD k (0,0,0)=s at hsk eT
  refine sC (JB P hP h0 M hK s hsk) ?_
  cases hm:P.zas M s
  ·refine sW ?_
   refine sI ?_
   refine⟨(k+1,c,l),⟨zo,hc,zo,by rw[eT,hm,hl];rfl⟩,zd,?_⟩
   exact zj 2 zs rfl sQ sQ
  ·refine sW ?_
   refine sJ ?_
   refine sI ?_
   refine⟨(k+1,c+1,l++[(k:Int)]),⟨zo,by simp[hc],zo,by rw[eT,hm,hl];rfl⟩,zd,?_⟩
   refine zj 2 zs rfl sQ (sU ?_)
   exact zp (uo hc)
 ·have hk':k=P.zI.length:=by have:¬k<P.zI.length:=sO
                             omega
  subst hk'
  rw[←hl]
  exact .yO _ _ (.cons _ _ _ _ (WZ hc rfl) (.cons _ _ _ _ (.refl _) .nil))
def zwV:PC:=.seq (OP [Bi 25 .lss 24 23]) (.seq (.cond 25 .skip (.exit 0)) (.seq (.block 1 (.seq (OP [qm 26 24,Ia 27 2 22 24,LA 28 2 27,q 8 (.alloc [(.int .i64 0),(.int .i64 0)]),qm 7 26,So 2 8 28]) (.seq (OP [Fa 29 0 1,Lo 30 29,Fa 31 0 8,Lo 32 31,Ia 33 2 30 32,Fa 34 1 33,Lo 35 34,Bi 36 .eql 35 (cI 1)]) (.cond 36 (OP [qm 37 6,qm 38 7,Ia 39 1 37 38,So 1 39 (cI 1)]) .skip)))) (OP [Bi 40 .add 24 (cI 1),qm 24 40])))
def c100:PC:=.seq (OP [Bx 1 0,Mv 2 cN,Mv 3 (cI 0)]) (.seq (.seq (OP [LA 10 2 1,Ca 11 19 [10],qm 9 11,Xt 12 0 9,Xt 13 1 9,qm 4 12,qm 5 13]) (.seq (OP [qm 14 5,Bi 15 .neq 14 (cI 0)]) (.cond 15 (.seq (OP [qm 16 5,Mv 2 cN,qm 3 16]) .ret) .skip))) (.seq (OP [Fa 17 1 1,Lo 18 17,Ln 19 18,q 20 (.wE 1 8 [(.int .i64 0)] 19 19),qm 6 20]) (.seq (.seq (OP [Fa 21 1 1,Lo 22 21,Ln 23 22,Mv 24 (cI 0)]) (.block 0 (.loop zwV))) (.seq (OP [qm 41 6,qm 2 41,Mv 3 (cI 0)]) .ret))))
theorem zs9:zy Tryz.prog 100 42 [.tmp 2,.tmp 3] c100:=fK Tryz.func100
theorem zli (P:zb) (hP:P.Fits):zq Tryz.prog 100 [yU P] (.yO [zB P.wF,.sc (.int .i64 P.yK)]):=by
 refine za zs9 zs (by simp[ze,Pure,yj]) ?_ (by simp[Pure,ze,zi])
 refine sR ?_
 refine sC (W0 P hP) ?_
 refine sS (λh1=>?_) λh1=>?_
 ·have h1:P.yK≠0:=sO
  have:P.wF=[]:=by unfold zb.wF;rw[if_neg h1]
  rw[this]
  exact .yO _ _ (.cons _ _ _ _ (.none _) (.cons _ _ _ _ (.refl _) .nil))
 have h1:P.yK=0:=sO
 obtain⟨h0,_,_⟩:=zb.xl h1
 obtain⟨hs1,hs2⟩:=xm h0
 have eB:P.wF=gl P.zv.length (zhx P):=by unfold zb.wF;rw[if_pos h1]
 rw[List.length_map,h1,eB]
 refine⟨zo,zo,zo,?_⟩
 rw[Int.toNat_natCast,show List.map D.sc [Value.int .i64 0]=[D.sc (.int .i64 0)] from rfl,ze3]
 refine sW ?_
 rw[List.length_map]
 refine zO [1,6,22,23] (λ((k,g):Nat × (Nat→Int))=>[(24,.sc (.int .i64 k))]) (λ(k,g)=>[(1,.vec true 0 1 (zL (gl P.zv.length g)))]) (λ(k,g)=>k≤P.zv.length∧∀i,g i=if i<k then zhx P i else 0) (λ(k,g)=>P.zv.length-k) (0,λ_=>0) ?_
 refine sW ?_
 refine⟨⟨zo,λi=>rfl⟩,by exact sK,rfl,?_⟩
 rintro⟨k,g⟩ ⟨hk,hg⟩
 refine sW ?_
 refine sR ?_
 refine sS (λh2=>?_) λh2=>?_
 ·have hk':k<P.zv.length:=sO
  have hfk:=zb.qP.1 (zgE h0 k hk')
  refine sL (VC P (k:=k) zo hk') ?_
  refine sL (Wr P (k:=(P.src k).toNat) zo zo) ?_
  refine sS (λh3=>?_) λh3=>?_
  ·have h3:P.kind (P.src k).toNat=1:=sO
   refine sB ?_
   refine⟨_,yl k zo zo,?_⟩
   refine sW ?_
   refine sI ?_
   refine⟨(k+1,Ww g k 1),⟨zo,λi=>?_⟩,zd,?_⟩
   ·by_cases e:i=k
    ·subst e
     rw[qb,if_pos zo]
     unfold zhx
     rw[if_pos h3]
    ·rw[Vw e,hg]
     by_cases q:i<k
     ·rw[if_pos q,if_pos zo]
     ·rw[if_neg q,if_neg zo]
   ·refine zj 2 zs rfl sQ (sU ?_)
    exact zp (qo zo)
  ·have h3:P.kind (P.src k).toNat≠1:=sO
   refine sI ?_
   refine⟨(k+1,g),⟨zo,λi=>?_⟩,zd,?_⟩
   ·rw[hg]
    by_cases e:i=k
    ·subst e
     rw[if_neg zo,if_pos zo]
     unfold zhx
     rw[if_neg h3]
    ·by_cases q:i<k
     ·rw[if_pos q,if_pos zo]
     ·rw[if_neg q,if_neg zo]
   ·exact zj 2 zs rfl sQ sQ
 ·have hk':k=P.zv.length:=by have:¬k<P.zv.length:=sO
                             omega
  subst hk'
  have e:gl P.zv.length (zhx P)=gl P.zv.length g:=Yx λi hi=>by rw[hg,if_pos hi]
  rw[e]
  exact .yO _ _ (.cons _ _ _ _ (zcJ rfl) (.cons _ _ _ _ (.refl _) .nil))
end
section
open Go.RowKit
theorem zut {zs:List (List D)} {n:Nat} {y:List D} (h:zs.length=n):zs.take 0++List.replicate (n-0) y++zs.drop n=List.replicate n y:=by
 rw[List.drop_eq_nil_of_le zo]
 simp
theorem zlS {x:Int} (h:0≤x) (h':x≤1073741824) (k:Nat):0≤x.fdiv (2^k)∧x.fdiv (2^k)<9223372036854775808:=by
 have hp:(0:Int)<2^k:=Int.pow_pos zc
 rw[Int.fdiv_eq_ediv_of_nonneg _ zo]
 have h1:=Int.ediv_nonneg h (by omega:(0:Int)≤2^k)
 have h2:=Int.ediv_le_self (2^k) h
 omega
def zzB:PC:=.seq (OP [Bi 39 .lss 38 37]) (.seq (.cond 39 .skip (.exit 0)) (.seq (.block 1 (.seq (OP [Ia 40 1 36 38,Lo 41 40,qm 12 41]) (.seq (OP [Fa 42 1 5,Lo 43 42,qm 44 12,Bi 45 .eql 43 44,qm 46 45,GF 47 46 (.zz 1 5),GF 48 46 (.zg 47),GF 49 46 (.bin .lss 48 (cI 0)),GF 50 46 (.move 49),GT 51 50 (.move 8),GT 52 50 (.move 12),GT 53 50 (.zM 1 51 52),GT 54 50 (.zg 53),GT 55 50 (.bin .gtr 54 (cI 0)),GF 56 46 (.pick 50 55 cF),Pk 57 46 cT 56]) (.cond 57 (OP [qm 58 8,qm 59 12,Ia 60 1 58 59,Lo 61 60,Bi 62 .sub 61 (cI 1),Ia 63 1 58 59,So 1 63 62]) .skip)))) (OP [Bi 64 .add 38 (cI 1),qm 38 64])))
def zzy:PC:=.seq (OP [Bi 75 .lss 74 73]) (.seq (.cond 75 .skip (.exit 2)) (.seq (.block 3 (.seq (OP [qm 76 74,Ia 77 1 72 74,Lo 78 77,qm 15 76,qm 16 78]) (.seq (OP [Fa 79 2 5,Lo 80 79,qm 81 15,Bi 82 .shr 80 81,Bi 83 .and 82 (cI 1),Bi 84 .eql 83 (cI 1)]) (.cond 84 (.seq (OP [qm 85 8,qm 86 16,Ia 87 1 85 86,Lo 88 87,Bi 89 .add 88 (cI 1),Ia 90 1 85 86,So 1 90 89]) (.seq (OP [qm 91 8,qm 92 16,Ia 93 1 91 92,Lo 94 93,Bi 95 .gtr 94 (cI 9)]) (.cond 95 (.seq (OP [Mv 6 cN,Mv 7 (cI 7)]) .ret) .skip))) .skip)))) (OP [Bi 96 .add 74 (cI 1),qm 74 96])))
def c222:PC:=.seq (OP [Bx 3 0,Bx 5 2,Mv 6 cN,Mv 7 (cI 0)]) (.seq (OP [qm 17 1,Ca 18 76 [17],qm 8 18]) (.seq (.seq (OP [Fa 19 0 3,Lo 20 19,Fa 21 0 5,Lo 22 21,Ia 23 2 20 22,Fa 24 1 23,Lo 25 24,Bi 26 .eql 25 (cI 3)]) (.cond 26 (.seq (OP [qm 27 8,qn (.clr ((.int .i64 0)) 27)]) (.seq (OP [qm 28 8,qm 6 28,Mv 7 (cI 0)]) .ret)) .skip)) (.seq (OP [LA 30 2 3,Fa 31 0 5,Lo 32 31,Ca 33 103 [30,32],qm 29 33,Xt 34 0 29,Xt 35 1 29,qm 9 34,qm 10 35]) (.seq (.seq (OP [qm 36 9,Ln 37 36,Mv 38 (cI 0)]) (.block 0 (.loop zzB))) (.seq (OP [LA 66 2 3,Fa 67 0 5,Lo 68 67,Ca 69 104 [66,68],qm 65 69,Xt 70 0 65,Xt 71 1 65,qm 13 70,qm 14 71]) (.seq (.seq (OP [qm 72 13,Ln 73 72,Mv 74 (cI 0)]) (.block 2 (.loop zzy))) (.seq (OP [qm 97 8,qm 6 97,Mv 7 (cI 0)]) .ret)))))))
theorem zs5:zy Tryz.prog 222 98 [.tmp 6,.tmp 7] c222:=fK Tryz.func222
theorem zo8 (P:zb) (hP:P.Fits) (h0:P.yJ=0) (M:List Int) (hM:P.Mark M) (s:yi) (hs:P.zdz s) :
  zq Tryz.prog 222 [yU P,zB M,.agg (ziB s)] (.yO [zB (P.VX M s),.sc (.int .i64 (P.Zo M s))]):=by
 obtain⟨hs1,hs2⟩:=xm h0
 have hn:=hs.node
 obtain⟨hE,hI,hO⟩:=zd8 h0 hn.1 hn.2
 have hi:=JQ P hP s.1
 have ho:=zgq P hP s.1
 rw[hI,hE] at hi
 rw[hO,hE] at ho
 have l1:=P.JO s.1
 have l2:=P.Ue s.1
 have lM:=hM.len
 have hout:=hs.out
 have eE:P.Zo M s=if P.kind s.1.toNat=3 then 0 else if ∃f,f<P.zv.length∧9<P.zcn M s f then 7 else 0:=by unfold zb.Zo;rfl
 have eL:P.VX M s=if P.kind s.1.toNat=3 then gl P.zv.length λ_=>0 else if P.Zo M s=0 then gl P.zv.length (P.zcn M s) else []:=rfl
 refine za zs5 zs (by simp[ze,Pure,yj,zi,za1]) ?_ (by simp[Pure,ze,zi])
 refine sR ?_
 refine sE (vP (Jw M zo) (by simp[ze,Pure]) [2] rfl rfl (by simp[zf.yI,yG,D.yI];rfl)) ?_
 rw[lM]
 refine sL (Wr P (k:=s.1.toNat) zo zo) ?_
 refine sS (λh1=>?_) λh1=>?_
 ·have h1:P.kind s.1.toNat=3:=sO
  rw[if_pos h1] at eE eL
  rw[eE,eL,zut (by rw[List.length_map];exact lM),ze3]
  exact .yO _ _ (.cons _ _ _ _ (zcJ rfl) (.cons _ _ _ _ (.refl _) .nil))
 have h1:P.kind s.1.toNat≠3:=sO
 rw[if_neg h1] at eE eL
 refine sC hi ?_
 rw[List.length_map]
 have eM:(M.map λn=>[D.sc (.int .i64 n)])=zL (gl P.zv.length (val M)):=by rw[←lM,zxm];rfl
 refine zO [3,5,8,36,37] (λ((a,g):Nat × (Nat→Int))=>[(38,.sc (.int .i64 a))]) (λ(a,g)=>[(2,.vec true 1 1 (zL (gl P.zv.length g)))]) (λ(a,g)=>a≤(P.ub s.1).length∧P.ze4 M s g a) (λ(a,g)=>(P.ub s.1).length-a) (0,val M) ?_
 refine sW ?_
 refine⟨⟨zo,zb.ze4.begin⟩,by exact sK,by rw[eM];rfl,?_⟩
 rintro⟨a,g⟩ ⟨ha,hA⟩
 refine sW ?_
 refine sR ?_
 refine sS (λh2=>?_) λh2=>?_
 ·have ha':a<(P.ub s.1).length:=sO
  have xL:=zb.zan (P:=P) (n:=s.1) ha'
  obtain⟨X,hX⟩:∃X:Nat,P.ZW s.1 a=X:=⟨_,(Int.toNat_of_nonneg xL.1).symm⟩
  have hold:=hA.old ha' hX
  have v1:=hM.pos X
  have v2:=hM.top X
  refine sL (yb (k:=a) zo ha') ?_
  rw[show(P.ub s.1).getD a 0=P.ZW s.1 a from rfl,hX]
  rw[hX,Int.toNat_natCast] at xL
  have eD:P.zkq M s X=(s.2.1==(X:Int)||decide (s.2.1<0)&&decide (0<val M X)):=by unfold zb.zkq;rw[decide_eq_true xL.2.2,Bool.true_and]
  have eBase:P.Ui M s X=val M X-if P.zkq M s X=true then 1 else 0:=rfl
  cases h3:(s.2.1==(X:Int))
  ·refine sW ?_
   rw[h3,Bool.false_or] at eD
   cases h4:decide (s.2.1<0)
   ·rw[h4,Bool.false_and] at eD
    rw[if_neg (by rw[eD];decide),Int.sub_zero] at eBase
    refine sW ?_
    refine sI ?_
    refine⟨(a+1,g),⟨zo,hA.next ha' hX (by rw[eBase,hold]) λf hf=>rfl⟩,zd,?_⟩
    exact zD (by exact sK) rfl
   ·refine sW ?_
    refine sB ?_
    refine⟨_,yl X zo zo,?_⟩
    refine sW ?_
    rw[h4,Bool.true_and] at eD
    rw[hold]
    cases h5:decide (val M X>0)
    ·have eD:P.zkq M s X=false:=by rw[eD];exact h5
     rw[if_neg (by rw[eD];decide),Int.sub_zero] at eBase
     refine sW ?_
     refine sI ?_
     refine⟨(a+1,g),⟨zo,hA.next ha' hX (by rw[eBase,hold]) λf hf=>rfl⟩,zd,?_⟩
     exact zD (by exact sK) rfl
    ·have eD:P.zkq M s X=true:=by rw[eD];exact h5
     rw[if_pos eD] at eBase
     refine sW ?_
     refine sB ?_
     refine⟨_,yl X zo zo,?_⟩
     refine sW ?_
     refine sI ?_
     refine sB ?_
     refine⟨_,yl X zo zo,?_⟩
     refine sW ?_
     refine sI ?_
     refine⟨(a+1,Ww g X (g X-1)),⟨zo,hA.next ha' hX (by rw[qb,eBase,hold]) λf hf=>Vw hf⟩,zd,?_⟩
     exact zD (by exact sK) (by rw[qo (k:=X) zo];rfl)
  ·rw[h3,Bool.true_or] at eD
   rw[if_pos eD] at eBase
   refine sW ?_
   refine sB ?_
   refine⟨_,yl X zo zo,?_⟩
   refine sW ?_
   refine sI ?_
   refine sB ?_
   refine⟨_,yl X zo zo,?_⟩
   refine sW ?_
   refine sI ?_
   refine⟨(a+1,Ww g X (g X-1)),⟨zo,hA.next ha' hX (by rw[qb,eBase,hold]) λf hf=>Vw hf⟩,zd,?_⟩
   exact zD (by exact sK) (by rw[qo (k:=X) zo];rfl)
 have ha':a=(P.ub s.1).length:=by have:¬a<(P.ub s.1).length:=sO
                                  omega
 subst ha'
 refine sC ho ?_
 rw[List.length_map]
 refine zO [5,8,72,73] (λ((k,g):Nat × (Nat→Int))=>[(74,.sc (.int .i64 k))]) (λ(k,g)=>[(2,.vec true 1 1 (zL (gl P.zv.length g)))]) (λ(k,g)=>k≤(P.uV s.1).length∧∀f,f<P.zv.length→g f=P.Ui M s f+P.Vx s f k∧g f≤9) (λ(k,g)=>(P.uV s.1).length-k) (0,g) ?_
 refine sW ?_
 refine⟨⟨zo,λf hf=>?_⟩,by exact sK,rfl,?_⟩
 ·have b1:=zb.zi8 hM s f
  rw[hA.fin hf]
  exact⟨by simp[zb.Vx],b1.2⟩
 clear hA h2
 rintro⟨k,g⟩ ⟨hk,hg⟩
 refine sW ?_
 refine sR ?_
 refine sS (λh2=>?_) λh2=>?_
 ·have hk':k<(P.uV s.1).length:=sO
  have xL:=zb.zq4 (P:=P) (n:=s.1) hk'
  obtain⟨X,hX⟩:∃X:Nat,P.zae s.1 k=X:=⟨_,(Int.toNat_of_nonneg xL.1).symm⟩
  refine sL (yb (k:=k) zo hk') ?_
  rw[show(P.uV s.1).getD k 0=P.zae s.1 k from rfl,hX]
  rw[hX,Int.toNat_natCast] at xL
  have fd:=zlS hout.1 hout.2 (min (k:Int).toNat IntKind.i64.bits)
  refine⟨zo,?_⟩
  refine sW ?_
  have eb:(vd .and .i64 (s.2.2.fdiv (2^min (k:Int).toNat IntKind.i64.bits)) 1==1)=zhB s.2.2 k:=by rw[zo6 fd.1 fd.2];rfl
  rw[eb]
  obtain⟨g1,g2⟩:=hg X zo
  have b1:=zb.zi8 hM s X
  have b2:=zb.zhN P s X k
  refine sS (λh3=>?_) λh3=>?_
  ·have hh:=zb.zrP hX h3
   refine sB ?_
   refine⟨_,yl X zo zo,?_⟩
   refine sW ?_
   refine sI ?_
   refine sB ?_
   refine⟨_,yl X zo zo,?_⟩
   refine sW ?_
   rw[qo (k:=X) zo]
   refine sB ?_
   refine⟨_,yl X zo zo,?_⟩
   refine sW ?_
   rw[qb]
   refine sS (λh4=>?_) λh4=>?_
   ·have h4:9<g X+1:=sO
    have hm:=zb.zg0 P s X (j:=k+1) (k:=(P.uV s.1).length) zo
    have e7:P.Zo M s=7:=by rw[eE,if_pos ⟨X,zo,by unfold zb.zcn;omega⟩]
    rw[e7] at eL
    rw[e7,eL,if_neg zc]
    exact .yO _ _ (.cons _ _ _ _ (.none _) (.cons _ _ _ _ (.refl _) .nil))
   ·have h4:g X+1≤9:=sO
    refine sI ?_
    refine⟨(k+1,Ww g X (g X+1)),⟨zo,λf hf=>?_⟩,zd,zD (by exact sK) rfl⟩
    by_cases e:f=X
    ·subst e
     rw[qb,hh]
     omega
    ·rw[Vw e,zb.zgD (.inl (by rw[hX];omega))]
     exact hg f hf
  ·refine sI ?_
   refine⟨(k+1,g),⟨zo,λf hf=>?_⟩,zd,zD (by exact sK) rfl⟩
   rw[zb.zgD (.inr h3)]
   exact hg f hf
 ·have hk':k=(P.uV s.1).length:=by have:¬k<(P.uV s.1).length:=sO
                                   omega
  subst hk'
  have e0:P.Zo M s=0:=by
   rw[eE,if_neg]
   rintro⟨f,hf,h9⟩
   have:=hg f hf
   unfold zb.zcn at h9
   omega
  rw[e0,if_pos rfl] at eL
  have e:gl P.zv.length (P.zcn M s)=gl P.zv.length g:=Yx λf hf=>(hg f hf).1.symm
  rw[e0,eL,e]
  exact .yO _ _ (.cons _ _ _ _ (zcJ rfl) (.cons _ _ _ _ (.refl _) .nil))
open Classical in
noncomputable def zb.ZN (P:zb) (M:List Int) (k:Int):Int :=
 if P.uS M≠0 then P.uS M else if k<0∨(P.zI.length:Int)≤k then 1
 else if P.zas M (P.zI.getD k.toNat (0,0,0))=true then P.Zo M (P.zI.getD k.toNat (0,0,0)) else 9
noncomputable def zb.wV (P:zb) (M:List Int) (k:Int):List Int:=if P.ZN M k=0 then P.VX M (P.zI.getD k.toNat (0,0,0)) else []
theorem zgA {P:zb} {M:List Int} {s:yi} (h:P.Zo M s≠0):P.VX M s=[]:=by
 unfold zb.VX
 split
 ·rename_i q
  exfalso
  apply h
  unfold zb.Zo
  rw[if_pos q]
 ·first|rfl|rw[if_neg h]
def c174:PC:=.seq (OP [Bx 3 0,Mv 6 cN,Mv 7 (cI 0)]) (.seq (OP [LA 11 2 3,qm 12 1,Ca 13 220 [11,12],qm 10 13,Xt 14 0 10,Xt 15 1 10,qm 8 14,qm 9 15]) (.seq (.block 0 (.seq (OP [qm 17 9,Bi 18 .neq 17 (cI 0),qm 16 18]) (.cond 16 (.seq (OP [qm 19 9,Mv 6 cN,qm 7 19]) .ret) (.seq (OP [qm 21 2,Bi 22 .lss 21 (cI 0),qm 23 22,GF 24 23 (.move 2),GF 25 23 (.move 8),GF 26 23 (.len 25),GF 27 23 (.bin .geq 24 26),Pk 28 23 cT 27,qm 20 28]) (.cond 20 (.seq (OP [Mv 6 cN,Mv 7 (cI 1)]) .ret) (.seq (.ops [LA 30 2 3,qm 31 1,qm 32 8,qm 33 2,qd 34 (.zM 3 32 33) 12,qd 35 (.vw 3 34) 28,qd 36 (.call 221 [30,31,35]) 63,qd 37 (.un .not 36) 127,qw 29 37 255] true) (.cond 29 (.seq (OP [Mv 6 cN,Mv 7 (cI 9)]) .ret) .skip))))))) (.seq (.ops [LA 38 2 3,qm 39 1,qm 40 8,qm 41 2,qd 42 (.zM 3 40 41) 12,qd 43 (.vw 3 42) 28,qd 44 (.call 222 [38,39,43]) 63,qd 45 (.ext 0 44) 127,qd 46 (.ext 1 44) 127,qw 6 45 511,qw 7 46 1023] true) .ret)))
theorem ztL:zy Tryz.prog 174 47 [.tmp 6,.tmp 7] c174:=fK Tryz.func174
theorem zpn (P:zb) (hP:P.Fits) (M:List Int) (hM:M.length≤9223372036854775807) (k:Int) :
  zq Tryz.prog 174 [yU P,zB M,.sc (.int .i64 k)] (.yO [zB (P.wV M k),.sc (.int .i64 (P.ZN M k))]):=by
 have eE:P.ZN M k=if P.uS M≠0 then P.uS M else if k<0∨(P.zI.length:Int)≤k then 1
  else if P.zas M (P.zI.getD k.toNat (0,0,0))=true then P.Zo M (P.zI.getD k.toNat (0,0,0)) else 9:=by unfold zb.ZN;rfl
 have eL:P.wV M k=if P.ZN M k=0 then P.VX M (P.zI.getD k.toNat (0,0,0)) else []:=rfl
 refine za ztL zs (by simp[ze,Pure,yj,zi]) ?_ (by simp[Pure,ze,zi])
 have bad:∀{H:List zf} {e:Int},e≠0→P.ZN M k=e→Deep H (.yO [.sc (.slice none 0 0),.sc (.int .i64 e)]) (.yO [zB (P.wV M k),.sc (.int .i64 (P.ZN M k))]):=λh q=>by
  rw[eL,q,if_neg h]
  exact .yO _ _ (.cons _ _ _ _ (.none _) (.cons _ _ _ _ (.refl _) .nil))
 refine sR ?_
 refine sC (zdW P hP M hM) ?_
 refine sS (λh1=>?_) λh1=>?_
 ·have h1:P.uS M≠0:=sO
  exact bad h1 (by rw[eE,if_pos h1])
 have h1:P.uS M=0:=sO
 obtain⟨hE,hB⟩:=zb.zdi h1
 obtain⟨h0,_,h60⟩:=zb.xl hE
 have hK:=zb.xD hB
 have eN:P.QK M=P.zI:=by unfold zb.QK;rw[if_pos h1]
 rw[if_neg zo] at eE
 rw[eN]
 cases h2:decide (k<0)
 ·have h2:¬k<0:=sO
  refine sW ?_
  rw[W2]
  refine sS (λh3=>?_) λh3=>?_
  ·exact bad zc (by rw[eE,if_pos (.inr (sO))])
  ·have h3:¬(P.zI.length:Int)≤k:=sO
   rw[if_neg zo] at eE
   have hk':k.toNat<P.zI.length:=zo
   have hsk:=zb.Qs hE hk'
   refine sL (zao (k:=k.toNat) zo hk') ?_
   generalize hS:P.zI.getD k.toNat (0,0,0)=s at hsk eE eL
   refine sC (JB P hP h0 M hK s hsk) ?_
   cases h4:P.zas M s
   ·refine sW ?_
    exact bad zc (by rw[eE,if_neg (by rw[h4];decide)])
   ·rw[if_pos h4] at eE
    refine sW ?_
    refine sL (zao (k:=k.toNat) zo hk') ?_
    rw[hS]
    refine sC (zo8 P hP h0 M hK s hsk) ?_
    have e:P.wV M k=P.VX M s:=by
     rw[eL,eE]
     split
     ·rfl
     ·rename_i q;exact(zgA q).symm
    rw[eE,e]
    exact .refl _
 ·have h2:k<0:=sO
  refine sW ?_
  exact bad zc (by rw[eE,if_pos (.inl h2)])
end
section
open Go.RowKit
end
section
open Go.RowKit
end
end
section
open Go.RowKit
end
section
section
namespace zb
theorem zjZ {P:zb} (h:P.yK=0):P.uA P.wF=true:=by
 have e:P.wF=gl P.zv.length (zhx P):=by unfold wF;rw[if_pos h]
 unfold uA xH
 rw[e,zhw,decide_eq_true rfl,Bool.true_and,List.all_eq_true]
 intro x hx
 unfold gl at hx
 obtain⟨i,_,rfl⟩:=List.mem_map.1 hx
 unfold zhx
 split<;>decide
theorem zuZ {P:zb} {M:List Int} (hM:P.Mark M) {s:yi} (hm:P.zas M s=true) (f:Nat):0≤P.zcn M s f:=by
 have h1:=hM.pos f
 have h2:=(P.zhN s f (P.uV s.1).length).1
 unfold zcn Ui
 split
 ·rename_i hd
  unfold zkq at hd
  rw[Bool.and_eq_true,Bool.or_eq_true] at hd
  have:0<val M f:=by
   rcases hd.2 with q|q
   ·have q:s.2.1=(f:Int):=by simpa using q
    unfold zas at hm
    rw[if_pos zo,q,Int.toNat_natCast] at hm
    exact of_decide_eq_true hm
   ·rw[Bool.and_eq_true] at q
    exact of_decide_eq_true q.2
  omega
 ·omega
theorem ztb {P:zb} {M:List Int} (hM:P.uA M=true) {s:yi} (hm:P.zas M s=true) (he:P.Zo M s=0):P.uA (P.VX M s)=true:=by
 have hK:=xD hM
 unfold Zo at he
 unfold VX
 by_cases h3:P.kind s.1.toNat=3
 ·rw[if_pos h3]
  unfold uA xH
  rw[zhw,decide_eq_true rfl,Bool.true_and,List.all_eq_true]
  intro x hx
  unfold gl at hx
  obtain⟨i,_,rfl⟩:=List.mem_map.1 hx
  decide
 ·rw[if_neg h3] at he
  split at he
  ·cases he
  ·rename_i hno
   have he':P.Zo M s=0:=by unfold Zo;rw[if_neg h3,if_neg hno]
   rw[if_neg h3,if_pos he']
   unfold uA xH
   rw[zhw,decide_eq_true rfl,Bool.true_and,List.all_eq_true]
   intro x hx
   unfold gl at hx
   obtain⟨i,hi,rfl⟩:=List.mem_map.1 hx
   have h4:=zuZ hK hm i
   have h5:¬9<P.zcn M s i:=λq=>hno ⟨i,List.mem_range.1 hi,q⟩
   rw[Bool.and_eq_true,decide_eq_true_eq,decide_eq_true_eq]
   omega
end zb
end
section
open Go.RowKit
def uf (L:List (List Int)):List (List D):=L.map λl=>[zB l]
theorem XA (L:List (List Int)):yE (uf L):=zC _ (λl=>by simp[ze,zi]) L
@[simp] theorem zsR {m:Nat} (L:List (List Int)):zF m (uf L)↔True:=⟨λ_=>trivial,λ_=>zh _ (XA L)⟩
@[simp] theorem zAe (L:List (List Int)):(uf L).length=L.length:=by simp[uf]
theorem Ju {L:List (List Int)} {c:Nat} {x:List Int} (h:c=L.length):List.drop 0 (List.take c (uf L))++[[zB x]]=uf (L++[x]):=by
 subst h
 rw[zu zs]
 simp[uf]
theorem zko {L:List (List Int)} {z k:Nat} (hz:z=k) (h:k<L.length):(uf L)[z]? = some [zB (L.getD k [])]:=by
 unfold uf
 rw[zif hz h,List.getD_eq_getElem?_getD,List.getElem?_eq_getElem h]
 rfl
theorem zmh {H:List zf} {id v n:Nat} {q:Bool} {L:List (List Int)} (hn:n=L.length) (h:H[id]? = some (.vec q v 1 (uf L))):Deep H (.own id v 0 n) (ya L):=by
 subst hn
 exact .own _ _ _ _ _ _ _ _ h (by rw[zu zs];exact z6 _)
end
end
section
section
abbrev qq:=Int × Int
abbrev zN:=Int × Int
structure SpR where
 e:Int
 marks:List (List Int)
 yP:List qq
 cur:List zN
 last:qq
def zeY (marks:List (List Int)) (m:List Int):Nat:=marks.idxOf m
def zdM (m:List Int) (tok:Int):Bool:=m.any λx=>decide (x>tok)
def YM (marks:List (List Int)) (m:List Int) (tok:Int) (st:Nat):Int:=if zdM m tok=true then 7 else if m∈marks then 0 else if marks.length=st then 8 else 0
def Zn (marks:List (List Int)) (m:List Int) (tok:Int) (st:Nat):List (List Int):=if YM marks m tok st=0∧¬m∈marks then marks++[m] else marks
def Wz (marks:List (List Int)) (yP:List qq) (m:List Int) (tok:Int) (st:Nat) (o:qq):List qq:=if YM marks m tok st=0∧¬m∈marks then yP++[o] else yP
def W9 (marks:List (List Int)) (m:List Int) (tok:Int) (st:Nat):Int:=if YM marks m tok st=0 then (zeY (Zn marks m tok st) m:Int) else 0
namespace zb
noncomputable def yY (P:zb) (tok:Int) (st:Nat) (n:Nat) (M:List Int):List Int→List (List Int)→List qq→List zN→qq→SpR
 | [],marks,yP,cur,last=>⟨0,marks,yP,cur,last⟩
 | k::r,marks,yP,cur,_ =>
  if P.ZN M k≠0 then ⟨P.ZN M k,marks,yP,cur,((n:Int),k)⟩
  else if YM marks (P.wV M k) tok st≠0 then ⟨YM marks (P.wV M k) tok st,marks,yP,cur,((n:Int),k)⟩
  else P.yY tok st n M r (Zn marks (P.wV M k) tok st) (Wz marks yP (P.wV M k) tok st ((n:Int),k)) (cur++[(k,W9 marks (P.wV M k) tok st)]) ((n:Int),k)
structure SpF where
 e:Int
 marks:List (List Int)
 yP:List qq
 next:List (List zN)
 last:qq
noncomputable def YN (P:zb) (tok:Int) (st:Nat):Nat→Nat→List (List Int)→List qq→List (List zN)→qq→SpF
 | 0,_,marks,yP,next,last=>⟨0,marks,yP,next,last⟩
 | f+1,n,marks,yP,next,last =>
  if n<marks.length then
   if (P.yY tok st n (marks.getD n []) (P.YL (marks.getD n [])) marks yP [] last).e≠0 then
    ⟨(P.yY tok st n (marks.getD n []) (P.YL (marks.getD n [])) marks yP [] last).e,(P.yY tok st n (marks.getD n []) (P.YL (marks.getD n [])) marks yP [] last).marks,
     (P.yY tok st n (marks.getD n []) (P.YL (marks.getD n [])) marks yP [] last).yP,next,(P.yY tok st n (marks.getD n []) (P.YL (marks.getD n [])) marks yP [] last).last⟩
   else P.YN tok st f (n+1) (P.yY tok st n (marks.getD n []) (P.YL (marks.getD n [])) marks yP [] last).marks (P.yY tok st n (marks.getD n []) (P.YL (marks.getD n [])) marks yP [] last).yP
    (next++[(P.yY tok st n (marks.getD n []) (P.YL (marks.getD n [])) marks yP [] last).cur]) (P.yY tok st n (marks.getD n []) (P.YL (marks.getD n [])) marks yP [] last).last
  else ⟨0,marks,yP,next,last⟩
structure Sp (P:zb) (tok:Int) (st:Nat) (marks:List (List Int)) (yP:List qq):Prop where
 one:marks.Nodup
 vN:∀m∈marks,P.uA m=true
 room:marks.length≤st
 len:yP.length=marks.length
 back:∀i,0<i→i<yP.length→0≤(yP.getD i (0,0)).1∧(yP.getD i (0,0)).1<(i:Int)
 root:yP.length=0∨(yP.getD 0 (0,0))=(-1,-1)
theorem zpK {marks:List (List Int)} {m:List Int} {tok:Int} {st:Nat} (h:YM marks m tok st=0):zdM m tok=false∧(m∈marks∨marks.length≠st):=by
 unfold YM at h
 split at h
 ·cases h
 ·rename_i h1
  refine⟨by simpa using h1,?_⟩
  split at h
  ·rename_i h2;exact .inl h2
  ·split at h
   ·cases h
   ·rename_i h3;exact .inr h3
theorem Sp.put {P:zb} {tok:Int} {st:Nat} {marks:List (List Int)} {yP:List qq} (h:Sp P tok st marks yP) {m:List Int} (hm:P.uA m=true) {a k:Int} (ha:0≤a) (hl:a<(marks.length:Int)):Sp P tok st (Zn marks m tok st) (Wz marks yP m tok st (a,k)):=by
 unfold Zn Wz
 split
 ·rename_i q
  obtain⟨q1,q2⟩:=q
  have h3:=(zpK q1).2.resolve_left q2
  have hr:=h.room
  have hlen:=h.len
  refine⟨?_,?_,by simp;omega,by simp[hlen],?_,?_⟩
  ·rw[List.nodup_append]
   refine⟨h.one,zs,λx hx y hy=>?_⟩
   rw[List.mem_singleton] at hy
   subst hy
   intro e;subst e;exact q2 hx
  ·intro x hx
   rcases List.mem_append.1 hx with hx|hx
   ·exact h.vN x hx
   ·rw[List.mem_singleton] at hx;subst hx;exact hm
  ·intro i hi hil
   rw[List.length_append,List.length_singleton] at hil
   by_cases e:i=yP.length
   ·subst e
    rw[List.getD_eq_getElem?_getD,List.getElem?_append_right (Nat.le_refl _),Nat.sub_self]
    simp
    omega
   ·have:=h.back i hi zo
    rw[List.getD_eq_getElem?_getD,List.getElem?_append_left zo,←List.getD_eq_getElem?_getD]
    exact this
  ·right
   rcases h.root with q|q
   ·omega
   ·rw[List.getD_eq_getElem?_getD,List.getElem?_append_left zo,←List.getD_eq_getElem?_getD]
    exact q
 ·exact h
theorem zds {marks:List (List Int)} {m:List Int} {tok:Int} {st:Nat}:marks.length≤(Zn marks m tok st).length:=by
 unfold Zn;split<;>simp
theorem ziL {marks:List (List Int)} {m:List Int} {tok:Int} {st:Nat} {i:Nat} (h:i<marks.length):(Zn marks m tok st).getD i []=marks.getD i []:=by
 unfold Zn
 split
 ·rw[List.getD_eq_getElem?_getD,List.getElem?_append_left h,←List.getD_eq_getElem?_getD]
 ·rfl
theorem zrr {marks:List (List Int)} {m:List Int} {tok:Int} {st:Nat} (h:YM marks m tok st=0):m∈Zn marks m tok st:=by
 unfold Zn
 split
 ·simp
 ·rename_i q
  by_cases e:m∈marks
  ·exact e
  ·exact absurd ⟨h,e⟩ q
theorem Xn {l:List (List Int)} {k:Nat} (h:k<l.length):l.getD k []∈l:=by
 rw[List.getD_eq_getElem?_getD,List.getElem?_eq_getElem h];exact List.getElem_mem h
theorem zdJ {P:zb} {M:List Int} {k:Int} (h:k∈P.YL M):P.uS M=0∧0≤k∧k.toNat<P.zI.length∧P.zas M (P.zI.getD k.toNat (0,0,0))=true:=by
 unfold YL at h
 split at h
 ·rename_i he
  refine⟨he,?_⟩
  have key:∀n,n≤P.zI.length→k∈P.X3 M P.zI n→0≤k∧k.toNat<n∧P.zas M (P.zI.getD k.toNat (0,0,0))=true:=by
   intro n
   induction n with
   | zero=>intro _ h;simp[X3] at h
   | succ n ih =>
    intro hn h
    simp only[X3] at h
    split at h
    ·rename_i hm
     rcases List.mem_append.1 h with h|h
     ·obtain⟨h1,h2,h3⟩:=ih zo h
      exact⟨h1,zo,h3⟩
     ·rw[List.mem_singleton] at h;subst h
      refine⟨zo,zs,?_⟩
      simpa using hm
    ·obtain⟨h1,h2,h3⟩:=ih zo h
     exact⟨h1,zo,h3⟩
  obtain⟨h1,h2,h3⟩:=key _ (Nat.le_refl _) h
  exact⟨h1,h2,h3⟩
 ·simp at h
theorem zs4 {P:zb} {M:List Int} {k:Int} (h:k∈P.YL M):P.ZN M k=P.Zo M (P.zI.getD k.toNat (0,0,0))∧P.wV M k=P.VX M (P.zI.getD k.toNat (0,0,0)):=by
 obtain⟨h1,h2,h3,h4⟩:=zdJ h
 have e:P.ZN M k=P.Zo M (P.zI.getD k.toNat (0,0,0)):=by
  unfold ZN
  rw[if_neg zo,if_neg zo,if_pos h4]
 refine⟨e,?_⟩
 unfold wV
 rw[e]
 split
 ·rfl
 ·rename_i q;exact(zgA q).symm
theorem zfE {P:zb} {M:List Int} (hM:P.uA M=true) {k:Int} (h:k∈P.YL M) (he:P.ZN M k=0):P.uA (P.wV M k)=true:=by
 obtain⟨e1,e2⟩:=zs4 h
 rw[e2]
 exact ztb hM (zdJ h).2.2.2 (by rw[←e1];exact he)
theorem znw (P:zb) (M:List Int):(P.YL M).length≤P.zI.length:=by
 unfold YL
 split
 ·exact P.zgj M _ _
 ·simp
end zb
end
section
open Go.RowKit
theorem zpH {P:Program} {k e:TypeId} {q:IntKind} {n:Nat} (hsz:0<P.types.size) (hk:P.keyType k=true) (hu:P.underlying k=some (.array n e)) (he:P.underlying e=some (.int q)) (hce:P.cellsOf e=1) (hck:P.cellsOf k=n) (vs:List Int) (hl:vs.length=n) (hw:∀x∈vs,(Lit.int q x).wf=true) :
  ∃l,keyOf P k (.agg (vs.map (Value.int q)).toArray)=some l:=by
 obtain⟨d,hd⟩:∃d,P.types.size=d+1:=⟨P.types.size-1,zo⟩
 have key:∀is:List Nat,(∀i∈is,i<n)→∃r,(is.mapM λi=>P.keyLits (d+1) e (((vs.map (Value.int q)).drop (i*P.cellsOf e)).take (P.cellsOf e)))=some r:=by
  intro is
  induction is with
  | nil=>intro _;exact⟨[],rfl⟩
  | cons i is ih =>
   intro h
   obtain⟨r,hr⟩:=ih λj hj=>h j (by simp[hj])
   have hi:=h i zs
   have e1:((vs.map (Value.int q)).drop (i*P.cellsOf e)).take (P.cellsOf e)=[.int q (vs[i]'zo)]:=by
    rw[hce,Nat.mul_one,List.drop_eq_getElem_cons (by simp;omega)]
    simp
   refine⟨[.int q (vs[i]'zo)]::r,?_⟩
   rw[List.mapM_cons,hr,e1]
   simp only[Program.keyLits,he]
   rw[if_pos ⟨trivial,hw _ (List.getElem_mem _)⟩]
   rfl
 obtain⟨r,hr⟩:=key (List.range n) λi hi=>List.mem_range.1 hi
 unfold keyOf
 rw[hu]
 simp only[hk,Value.formed,hu,hck,Bool.true_and]
 rw[if_pos (by simp[hl]),hd]
 show ∃l,(P.keyLits (d+1+1) k (vs.map (Value.int q)).toArray.toList).map _=some l
 rw[Program.keyLits]
 simp only[hu]
 rw[if_pos (by simp[hl,hck]),hr]
 ·exact⟨_,rfl⟩
 ·exact hu
def zfm (m:List Int):List Int:=(List.range 30).map λi=>m.getD i 0
def zkO (m:List Int):List D:=(zfm m).map λx=>.sc (.int .i8 x)
def XS (m:List Int):Value:=.agg ((zkO m).map scV).toArray
theorem zbg (m:List Int):XS m=.agg ((zfm m).map (Value.int .i8)).toArray:=by
 unfold XS zkO
 rw[List.map_map]
 rfl
theorem zeV {m m':List Int} (hl:m.length=m'.length) (h30:m.length≤30) (h:XS m=XS m'):m=m':=by
 rw[zbg,zbg] at h
 have h:=(Value.agg.injEq _ _).mp h
 have h:=congrArg Array.toList h
 simp only[List.toList_toArray] at h
 have h:zfm m=zfm m':=by
  have:=congrArg (List.map λv=>match v with|Value.int _ x=>x|_=>0) h
  simpa [List.map_map,Function.comp_def] using this
 apply List.ext_getElem hl
 intro i h1 h2
 have:=congrArg (λl:List Int=>l[i]?) h
 simp only[zfm,List.getElem?_map,List.getElem?_range (show i<30 by omega),Option.map_some,Option.some.injEq] at this
 rw[List.getD_eq_getElem?_getD,List.getD_eq_getElem?_getD,List.getElem?_eq_getElem h1,List.getElem?_eq_getElem h2] at this
 exact this
noncomputable def zff (marks:List (List Int)):Nat→Value→Option Value
 | 0=>λ_=>none
 | k+1=>Q9 (zff marks k) (XS (marks.getD k [])) (.int .i64 k)
noncomputable def fM (marks:List (List Int)):Value→Option Value:=zff marks marks.length
theorem zkF {marks:List (List Int)} {m:List Int}:∀k,k≤marks.length→zff (marks++[m]) k=zff marks k
 | 0,_=>rfl
 | k+1,h=>by
  simp only[zff]
  rw[zkF k zo,List.getD_eq_getElem?_getD,List.getElem?_append_left zo,←List.getD_eq_getElem?_getD]
theorem zyP (marks:List (List Int)) (m:List Int):fM (marks++[m])=Q9 (fM marks) (XS m) (.int .i64 marks.length):=by
 unfold fM
 rw[List.length_append,List.length_singleton]
 simp only[zff]
 rw[zkF _ (Nat.le_refl _),List.getD_eq_getElem?_getD,List.getElem?_append_right (Nat.le_refl _),Nat.sub_self]
 rfl
theorem zgL {marks:List (List Int)} {m:List Int} (hl:∀x∈marks,x.length=m.length) (h30:m.length≤30) (hm:¬m∈marks):∀k,k≤marks.length→zff marks k (XS m)=none
 | 0,_=>rfl
 | k+1,h=>by
  simp only[zff,Q9]
  rw[if_neg ?_,zgL hl h30 hm k zo]
  intro e
  have hk:=zb.Xn (l:=marks) (k:=k) zo
  have:=zeV (hl _ hk).symm h30 e
  exact hm (this▸hk)
theorem zgn {marks:List (List Int)} {m:List Int} (hl:∀x∈marks,x.length=m.length) (h30:m.length≤30) (hn:marks.Nodup) {i:Nat} (hi:i<marks.length) (hm:marks.getD i []=m):∀k,i<k→k≤marks.length→zff marks k (XS m)=some (.int .i64 i)
 | 0,h,_=>zo
 | k+1,h,hk=>by
  simp only[zff,Q9]
  by_cases e:i=k
  ·subst e
   rw[hm,if_pos rfl]
  ·rw[if_neg ?_,zgn hl h30 hn hi hm k zo zo]
   intro q
   have hkm:=zb.Xn (l:=marks) (k:=k) zo
   have:=zeV (hl _ hkm).symm h30 q
   rw[←hm,List.getD_eq_getElem?_getD,List.getD_eq_getElem?_getD,List.getElem?_eq_getElem hi,List.getElem?_eq_getElem zo] at this
   exact List.pairwise_iff_getElem.1 hn i k hi zo zo this
theorem zod {marks:List (List Int)} {m:List Int} (h:m∈marks):zeY marks m<marks.length∧marks.getD (zeY marks m) []=m:=by
 unfold zeY
 have h1:=List.idxOf_lt_length_of_mem h
 refine⟨h1,?_⟩
 rw[List.getD_eq_getElem?_getD,List.getElem?_eq_getElem h1,List.getElem_idxOf h1]
 rfl
theorem zna {marks:List (List Int)} {m:List Int} (hl:∀x∈marks,x.length=m.length) (h30:m.length≤30) (hn:marks.Nodup) (h:m∈marks):fM marks (XS m)=some (.int .i64 (zeY marks m)):=by
 obtain⟨h1,h2⟩:=zod h
 exact zgn hl h30 hn h1 h2 _ h1 (Nat.le_refl _)
theorem zvN {marks:List (List Int)} {m:List Int} (hl:∀x∈marks,x.length=m.length) (h30:m.length≤30) (h:¬m∈marks):fM marks (XS m)=none:=zgL hl h30 h _ (Nat.le_refl _)
theorem zsa {cs:List D} {z k:Nat} {c:D} {K:List D→Prop} (hz:z=k) (h:k<cs.length) (hK:K (cs.set k c)):zbb cs z [c] K:=by
 subst hz
 refine(Vf _ _ _ _).2 ⟨by simp;omega,?_⟩
 rw[List.set_eq_take_append_cons_drop,if_pos h] at hK
 rw[List.length_singleton,List.append_assoc,List.singleton_append]
 exact hK
def VK (a b:Int):List D:=[.sc (.int .i64 a),.sc (.int .i64 b)]
def wm (l:List (Int × Int)):List (List D):=l.map λo=>VK o.1 o.2
def vm (l:List (Int × Int)):D:=.xj 2 (wm l)
def ud (L:List (List zN)):List (List D):=L.map λl=>[vm l]
@[simp] theorem Z7 (l:List (Int × Int)):(wm l).length=l.length:=by simp[wm]
@[simp] theorem zo1 (l:List (List zN)):(ud l).length=l.length:=by simp[ud]
theorem YH (l:List (Int × Int)):yE (wm l):=zC _ (λl=>by simp[VK,ze,Pure]) l
theorem vf (l:List (Int × Int)):Pure (vm l):=by simp only[vm,Pure];exact YH l
theorem qX (l:List (List zN)):yE (ud l):=zC _ (λl=>by simp[ze,vf]) l
@[simp] theorem zqS {m:Nat} (l:List (Int × Int)):zF m (wm l)↔True:=⟨λ_=>trivial,λ_=>zh _ (YH l)⟩
@[simp] theorem zsO {m:Nat} (l:List (List zN)):zF m (ud l)↔True:=⟨λ_=>trivial,λ_=>zh _ (qX l)⟩
@[simp] theorem zsW {m:Nat} (l:List (Int × Int)):zt m (vm l)↔True:=⟨λ_=>trivial,λ_=>zw _ (vf l)⟩
theorem uv {l:List (Int × Int)} {z k:Nat} (hz:z=k) (h:k<l.length):(wm l)[z]? = some (VK (l.getD k (0,0)).1 (l.getD k (0,0)).2):=by
 subst hz
 unfold wm
 rw[List.getElem?_map,List.getElem?_eq_getElem h,List.getD_eq_getElem?_getD,List.getElem?_eq_getElem h]
 rfl
theorem Wi {l:List (Int × Int)} {c:Nat} {a b:Int} (h:c=l.length):List.drop 0 (List.take c (wm l))++[VK a b]=wm (l++[(a,b)]):=by
 subst h
 rw[zu zs]
 simp[wm]
theorem zlj {L:List (List zN)} {c:Nat} {l:List zN} (h:c=L.length):List.drop 0 (List.take c (ud L))++[[vm l]]=ud (L++[l]):=by
 subst h
 rw[zu zs]
 simp[ud]
def zdm (P:zb) (tok:Int) (st n no nn:Nat) (last:qq):List D:=[.xj 2 (P.nodes.map ug),.xj 2 (P.zv.map YT),.sc (.int .i64 tok),.sc (.int .i64 st),.own 2 n 0 n,.own 4 nn 0 nn,.mp 0,.own 3 no 0 no,.sc (.int .i64 last.1),.sc (.int .i64 last.2)]
noncomputable def qy (P:zb) (tok:Int) (st:Nat) (marks:List (List Int)) (yP:List qq) (next:List (List zN)) (last:qq):List zf :=
 [.wc true (uQ Tryz.prog 243 (fM marks)),.row true (zdm P tok st marks.length yP.length next.length last),.vec true marks.length 1 (uf marks),.vec true yP.length 2 (wm yP),.vec true next.length 1 (ud next)]
theorem zqc:laidOutB Tryz.prog=true:=by kernel_rfl
theorem zrH:Maps.Keyed Tryz.prog 243:=Maps.Keyed.of_law (deep_law_laid zqc (m:=2) zo (of_decide_eq_true (by kernel_rfl)) (by kernel_rfl) (by rw[Tryz.underlying243]))
def zyG:PC:=.seq (OP [Bi 9 .lss 8 7]) (.seq (.cond 9 .skip (.exit 0)) (.seq (.block 1 (.seq (OP [qm 10 8,Ia 11 1 6 8,Lo 12 11,qm 4 10,qm 5 12]) (OP [qm 13 4,qm 14 5,q 15 (.conv .i8 14),q 16 (.zmo 30 1 3 13),So 1 16 15]))) (OP [Bi 17 .add 8 (cI 1),qm 8 17])))
def c172:PC:=.seq (OP [q 2 (.alloc [(.int .i8 0),(.int .i8 0),(.int .i8 0),(.int .i8 0),(.int .i8 0),(.int .i8 0),(.int .i8 0),(.int .i8 0),(.int .i8 0),(.int .i8 0),(.int .i8 0),(.int .i8 0),(.int .i8 0),(.int .i8 0),(.int .i8 0),(.int .i8 0),(.int .i8 0),(.int .i8 0),(.int .i8 0),(.int .i8 0),(.int .i8 0),(.int .i8 0),(.int .i8 0),(.int .i8 0),(.int .i8 0),(.int .i8 0),(.int .i8 0),(.int .i8 0),(.int .i8 0),(.int .i8 0)])]) (.seq (OP [q 3 (.alloc [(.int .i8 0),(.int .i8 0),(.int .i8 0),(.int .i8 0),(.int .i8 0),(.int .i8 0),(.int .i8 0),(.int .i8 0),(.int .i8 0),(.int .i8 0),(.int .i8 0),(.int .i8 0),(.int .i8 0),(.int .i8 0),(.int .i8 0),(.int .i8 0),(.int .i8 0),(.int .i8 0),(.int .i8 0),(.int .i8 0),(.int .i8 0),(.int .i8 0),(.int .i8 0),(.int .i8 0),(.int .i8 0),(.int .i8 0),(.int .i8 0),(.int .i8 0),(.int .i8 0),(.int .i8 0)])]) (.seq (.seq (OP [qm 6 0,Ln 7 6,Mv 8 (cI 0)]) (.block 0 (.loop zyG))) (.seq (OP [LA 18 30 3,So 30 2 18]) .ret)))
theorem ztJ:zy Tryz.prog 172 19 [.agg 2 30] c172:=fK Tryz.func172
def c171:PC:=.seq (OP [Mv 3 cF]) (.seq (OP [qm 4 0,Lo 5 1,q 6 (.zn 5),Fa 7 2 6,Lo 8 7,Bi 9 .gtr 4 8,qm 3 9]) .ret)
theorem ztA:zy Tryz.prog 171 10 [.tmp 3] c171:=fK Tryz.func171
def zb9 (m:List Int) (k:Nat):List D:=(List.range 30).map λi=>.sc (.int .i8 (if i<k then m.getD i 0 else 0))
theorem zpi {m:List Int} {k:Nat}:(zb9 m k).set k (.sc (.int .i8 (m.getD k 0)))=zb9 m (k+1):=by
 unfold zb9
 apply List.ext_getElem?
 intro i
 rw[List.getElem?_set]
 by_cases hi:i<30
 ·by_cases e:k=i
  ·subst e
   simp[hi]
  ·rw[if_neg e]
   simp only[List.getElem?_map,List.getElem?_range hi,Option.map_some]
   by_cases q:i<k
   ·rw[if_pos q,if_pos zo]
   ·rw[if_neg q,if_neg zo]
 ·rw[List.getElem?_eq_none (l:=(List.range 30).map _) (by simp;omega),List.getElem?_eq_none (l:=(List.range 30).map _) (by simp;omega)]
  split
  ·simp;omega
  ·rfl
theorem zpC (m:List Int):zb9 m m.length=zkO m:=by
 unfold zb9 zkO zfm
 rw[List.map_map]
 refine List.map_congr_left λi _=>?_
 by_cases h:i<m.length
 ·simp[h]
 ·simp[h,List.getD_eq_getElem?_getD,List.getElem?_eq_none (Nat.le_of_not_lt h)]
theorem zcb (m:List Int) (hl:m.length≤30) (hm:∀x∈m,0≤x∧x≤127):zq Tryz.prog 172 [zB m] (.agg (zkO m)):=by
 refine za ztJ zs (by simp[ze,Pure,zi]) ?_ (by simp only[Pure,zkO];generalize zfm m=l;induction l with|nil=>simp[ze]|cons x r ih=>simpa [ze,Pure] using ih)
 refine sR ?_
 rw[List.length_map]
 refine zO [2,3,6,7] (λk:Nat=>[(8,.sc (.int .i64 k))]) (λk=>[(1,.row true (zb9 m k))]) (λk=>k≤m.length) (λk=>m.length-k) 0 ?_
 refine sW ?_
 refine⟨zo,by exact sK,rfl,?_⟩
 rintro k hk
 refine sW ?_
 refine sR ?_
 refine sS (λh1=>?_) λh1=>?_
 ·have hk':k<m.length:=sO
  refine sL (yb (l:=m) (k:=k) zo hk') ?_
  have hx:=hm _ (yv hk')
  have hwr:InR .i8 (m.getD k 0):=by
   unfold InR
   generalize m.getD k 0=x at hx
   simp[IntKind.wrap,IntKind.bits,IntKind.signed]
   omega
  refine .inl ⟨hwr,?_⟩
  refine sW ?_
  refine⟨zo,zo,?_⟩
  refine sW ?_
  refine zsa (k:=k) zo (by simp[zb9];omega) ?_
  refine sW ?_
  refine sI ?_
  refine⟨k+1,zo,zd,?_⟩
  refine zD (by exact sK) ?_
  rw[zpi]
  rfl
 ·have hk':k=m.length:=by have:¬k<m.length:=sO
                          omega
  refine yA ?_
  show D.agg (zb9 m k)=D.agg (zkO m)
  rw[hk',zpC]
theorem zma (m:List Int) (hm:∀x∈m,0≤x∧x≤127):∃l,keyOf Tryz.prog 243 (XS m)=some l:=by
 rw[zbg]
 refine zpH (of_decide_eq_true (by kernel_rfl)) (by kernel_rfl) Tryz.underlying243 Tryz.underlying241 (by kernel_rfl) (by kernel_rfl) (zfm m) (by simp[zfm]) λx hx=>?_
 unfold zfm at hx
 obtain⟨i,_,rfl⟩:=List.mem_map.1 hx
 have:0≤m.getD i 0∧m.getD i 0≤127:=by
  by_cases h:i<m.length
  ·exact hm _ (yv h)
  ·rw[List.getD_eq_getElem?_getD,List.getElem?_eq_none zo];simp
 simp only[Lit.wf,Bool.and_eq_true,decide_eq_true_eq]
 have h1:IntKind.min .i8=-128:=zc
 have h2:IntKind.max .i8=127:=zc
 omega
theorem zlT (x tok:Int):zq Tryz.prog 171 [.sc (.int .i64 x),.y7 [.y7 [.xO,.xO,.sc (.int .i64 tok),.xO,.xO,.xO,.xO,.xO,.xO,.xO]]] (.sc (.bool (decide (x>tok)))):=by
 refine za ztA zs (by simp[ze,Pure]) ?_ (by simp[Pure])
 refine sR ?_
 exact .refl _
def c101:PC:=.seq (OP [Bx 3 0,Bx 5 2,Mv 6 (cI 0),Mv 7 (cI 0)]) (.seq (OP [Lo 11 3,LA 12 2 5,q 13 (.zn 11),Fa 14 8 13,So 2 14 12]) (.seq (.seq (OP [qm 15 1,q 16 (.qj (.func 171) [] [3]),Ca 17 49 [15,16]]) (.cond 17 (.seq (OP [Mv 6 (cI 0),Mv 7 (cI 7)]) .ret) .skip)) (.seq (.seq (.ops [Lo 19 3,qd 20 (.zn 19) 1,qd 21 (.zz 6 20) 3,qd 22 (.zg 21) 7,qm 23 1,qd 24 (.call 172 [23]) 16,qd 25 (.look 243 (.int .i64 0) 22 24) 63,qw 18 25 127,qd 26 (.ext 0 18) 255,qd 27 (.ext 1 18) 255,qw 8 26 511,qw 9 27 2047] true) (.seq (OP [qm 28 9]) (.cond 28 (.seq (OP [qm 29 8,qm 6 29,Mv 7 (cI 0)]) .ret) .skip))) (.seq (OP [Lo 30 3,q 31 (.zn 30),Fa 32 4 31,Fa 33 0 32,Lo 34 33,Ln 35 34,qm 10 35]) (.seq (.seq (OP [qm 36 10,Lo 37 3,q 38 (.zn 37),Fa 39 3 38,Lo 40 39,Bi 41 .eql 36 40]) (.cond 41 (.seq (OP [Mv 6 (cI 0),Mv 7 (cI 8)]) .ret) .skip)) (.seq (.ops [Lo 42 3,qd 43 (.zn 42) 1,qd 44 (.zz 6 43) 3,qd 45 (.zg 44) 7,qm 46 1,qd 47 (.call 172 [46]) 16,qm 48 10,qk (.zlJ 243 45 47 48) 127] true) (.seq (.ops [Lo 49 3,Lo 50 3,qd 51 (.zn 50) 2,qd 52 (.zz 4 51) 6,qd 53 (.zz 0 52) 14,qd 54 (.zg 53) 30,qm 55 1,qd 56 (.xe 1 1 [55]) 64,qd 57 (.append 1 24 54 56) 254,qd 58 (.zn 49) 511,qd 59 (.zz 4 58) 1023,qd 60 (.zz 0 59) 2047,qk (.store 1 60 57) 4095] true) (.seq (.ops [Lo 61 3,Lo 62 3,qd 63 (.zn 62) 2,qd 64 (.zz 7 63) 6,qd 65 (.zg 64) 14,LA 66 2 5,qd 67 (.xe 2 1 [66]) 32,qd 68 (.append 2 16 65 67) 126,qd 69 (.zn 61) 255,qd 70 (.zz 7 69) 511,qk (.store 1 70 68) 1023] true) (.seq (OP [qm 71 10,qm 6 71,Mv 7 (cI 0)]) .ret)))))))))
theorem zvd:zy Tryz.prog 101 72 [.tmp 6,.tmp 7] c101:=fK Tryz.func101
theorem zq2 (m:List Int) (tok:Int):(m.any λx=>decide (x>tok))=zdM m tok:=rfl
theorem zb7 (P:zb) (tok:Int) (st:Nat) (hst:st≤200) (marks:List (List Int)) (yP:List qq) (next:List (List zN)) (last:qq) (hS:zb.Sp P tok st marks yP) (h30:P.zv.length≤30) (m:List Int) (hm:P.uA m=true) (o:qq) :
  yu Tryz.prog 101 [.loc 1 0,zB m,.agg (VK o.1 o.2)] (qy P tok st marks yP next last) (.yO [.sc (.int .i64 (W9 marks m tok st)),.sc (.int .i64 (YM marks m tok st))]) (qy P tok st (Zn marks m tok st) (Wz marks yP m tok st o) next o):=by
 have hM:=zb.xD hm
 have hml:=hM.len
 have hpos:∀x∈m,0≤x∧x≤9:=λx hx=>by
  unfold zb.uA at hm
  rw[Bool.and_eq_true] at hm
  have:=zT hm.2 hx
  omega
 have hlen:∀x∈marks,x.length=m.length:=λx hx=>by rw[(zb.xD (hS.vN x hx)).len,hml]
 have hr:=hS.room
 have hol:=hS.len
 refine z1 zvd zs (by simp[qy]) ?_ (by simp[zt,zl]) (by
  intro x hx
  simp only[qy,List.mem_cons,List.not_mem_nil,or_false] at hx
  rcases hx with rfl|rfl|rfl|rfl|rfl<;>simp[zf.under,zdm,zl,zt,qy])
 unfold qy zdm VK
 refine sR ?_
 refine .inr (.inl ⟨_,_,.cons _ _ _ _ (.refl _) (.cons _ _ _ _ (.fn _ _ _ _ _ .nil (.cons _ _ _ _ (.loc _ _ _ _ _ rfl (.cons _ _ _ _ (.loc _ _ _ _ _ rfl (.cons _ _ _ _ (.xO _) (.cons _ _ _ _ (.xO _) (.cons _ _ _ _ (.refl _) (.cons _ _ _ _ (.xO _) (.cons _ _ _ _ (.xO _) (.cons _ _ _ _ (.xO _) (.cons _ _ _ _ (.xO _) (.cons _ _ _ _ (.xO _) (.cons _ _ _ _ (.xO _) (.cons _ _ _ _ (.xO _) .nil))))))))))) .nil)) .nil)) .nil),
  y4 (λn=>.sc (.int .i64 n)) (λa=>by simp[Pure]) m zo (λx=>decide (x>tok)) 171 [.y7 [.y7 [.xO,.xO,.sc (.int .i64 tok),.xO,.xO,.xO,.xO,.xO,.xO,.xO]]] (by simp[ze,Pure]) (λa _=>zlT a tok),rfl,?_⟩)
 rw[zq2]
 have eE:YM marks m tok st=if zdM m tok=true then 7 else if m∈marks then 0 else if marks.length=st then 8 else 0:=rfl
 refine sW ?_
 have hn0:∀v,YM marks m tok st=v→v≠0→Zn marks m tok st=marks∧Wz marks yP m tok st o=yP∧W9 marks m tok st=0:=λv h1 h2=>by
  unfold Zn Wz W9
  rw[h1,if_neg λq=>h2 q.1,if_neg λq=>h2 q.1,if_neg h2]
  exact⟨rfl,rfl,rfl⟩
 cases h1:zdM m tok
 ·refine sW ?_
  refine sC (zcb m zo (λx hx=>by have:=hpos x hx;omega)) ?_
  have hkey:=zma m (λx hx=>by have:=hpos x hx;omega)
  refine⟨fM marks,rfl,zrH,hkey,λv hv=>?_,λhv=>?_⟩
  ·refine sW ?_
   by_cases h2:m∈marks
   ·have hs:=zna hlen zo hS.one h2
    have hv':some v=some (Value.int .i64 (zeY marks m)):=hv.symm.trans hs
    cases hv'
    have e0:YM marks m tok st=0:=by rw[eE,h1,if_neg zs,if_pos h2]
    have eM:Zn marks m tok st=marks:=by unfold Zn;rw[if_neg λq=>q.2 h2]
    have eG:Wz marks yP m tok st o=yP:=by unfold Wz;rw[if_neg λq=>q.2 h2]
    have eI:W9 marks m tok st=(zeY marks m:Int):=by unfold W9;rw[if_pos e0,eM]
    rw[eM,eG,eI,e0]
    exact⟨rfl,rfl,zs⟩
   ·exfalso
    have:=zvN hlen zo h2
    have hv':some v=none:=hv.symm.trans this
    cases hv'
  ·refine sW ?_
   have h2:¬m∈marks:=λh2=>by
    have hs:=zna hlen zo hS.one h2
    have hv':(none:Option Value)=some (Value.int .i64 (zeY marks m)):=hv.symm.trans hs
    cases hv'
   refine sS (λh3=>?_) λh3=>?_
   ·have h3:marks.length=st:=sO
    have e8:YM marks m tok st=8:=by rw[eE,h1,if_neg zs,if_neg h2,if_pos h3]
    obtain⟨eM,eG,eI⟩:=hn0 8 e8 zc
    rw[eM,eG,eI,e8]
    exact⟨rfl,rfl,zs⟩
   ·have h3:marks.length≠st:=sO
    have e0:YM marks m tok st=0:=by rw[eE,h1,if_neg zs,if_neg h2,if_neg h3]
    have eM:Zn marks m tok st=marks++[m]:=by unfold Zn;rw[if_pos ⟨e0,h2⟩]
    have eG:Wz marks yP m tok st o=yP++[o]:=by unfold Wz;rw[if_pos ⟨e0,h2⟩]
    have eI:W9 marks m tok st=(marks.length:Int):=by
     unfold W9
     rw[if_pos e0,eM]
     congr 1
     unfold zeY
     rw[List.idxOf_append,if_neg h2]
     simp
    refine sC (zcb m zo (λx hx=>by have:=hpos x hx;omega)) ?_
    refine⟨fM marks,rfl,zrH,hkey,hv,?_⟩
    refine sW ?_
    refine sJ ?_
    refine sJ ?_
    rw[eM,eG,eI,e0]
    refine⟨rfl,?_,zs⟩
    rw[zyP,List.length_append,List.length_append,List.length_singleton,List.length_singleton]
    have g1:=Ju (L:=marks) (c:=marks.length) (x:=m) rfl
    have g2:=Wi (l:=yP) (c:=yP.length) (a:=o.1) (b:=o.2) rfl
    rw[←g1,←g2]
    rfl
 ·have e7:YM marks m tok st=7:=by rw[eE,if_pos h1]
  obtain⟨eM,eG,eI⟩:=hn0 7 e7 zc
  refine sW ?_
  rw[eM,eG,eI,e7]
  exact⟨rfl,rfl,zs⟩
end
section
open Go.RowKit
def zkn (R:SpR):List zN:=if R.e=0 then R.cur else []
namespace zb
theorem YK {P:zb} {tok:Int} {st n:Nat} {M:List Int} {k:Int} {r:List Int} {marks:List (List Int)} {yP:List qq} {cur:List zN} {last:qq} :
  P.yY tok st n M (k::r) marks yP cur last=if P.ZN M k≠0 then ⟨P.ZN M k,marks,yP,cur,((n:Int),k)⟩
  else if YM marks (P.wV M k) tok st≠0 then ⟨YM marks (P.wV M k) tok st,marks,yP,cur,((n:Int),k)⟩
  else P.yY tok st n M r (Zn marks (P.wV M k) tok st) (Wz marks yP (P.wV M k) tok st ((n:Int),k)) (cur++[(k,W9 marks (P.wV M k) tok st)]) ((n:Int),k):=rfl
theorem zk8 {l:List Int} {k:Nat} (h:k<l.length):l.drop k=l.getD k 0::l.drop (k+1):=by
 rw[List.drop_eq_getElem_cons h,List.getD_eq_getElem?_getD,List.getElem?_eq_getElem h]
 rfl
end zb
theorem Uz {P:zb} {tok:Int} {st:Nat} {marks:List (List Int)} {yP:List qq} {next:List (List zN)} {last:qq}:wD 5 (qy P tok st marks yP next last):=by
 simp[qy,wD,zf.under,zdm,zl,zt]
theorem Uh {P:zb} {tok:Int} {st:Nat} {marks:List (List Int)} {yP:List qq} {next:List (List zN)} {last:qq} {G R:List zf}:Wy 5 G (qy P tok st marks yP next last++R) (qy P tok st marks yP next last) :=
 y5 _ _ λo ho=>qT Uz o ho
def zxd:PC:=.seq (OP [Bi 33 .lss 32 31]) (.seq (.cond 33 .skip (.exit 0)) (.seq (.block 1 (.seq (OP [Ia 34 1 30 32,Lo 35 34,qm 10 35]) (.seq (OP [qm 36 0,qm 37 1,qm 38 10,q 39 (.build [(.int .i64 0),(.int .i64 0)] [(0,1,37),(1,1,38)]),q 40 (.zn 36),Fa 41 8 40,So 2 41 39]) (.seq (.ops [qm 43 0,qd 44 (.zn 43) 1,qd 45 (.zz 0 44) 3,qd 46 (.vw 2 45) 7,qm 47 0,qd 48 (.zn 47) 16,qd 49 (.zz 4 48) 48,qd 50 (.zz 0 49) 112,qd 51 (.zg 50) 240,qm 52 1,qd 53 (.zM 1 51 52) 1008,qd 54 (.zg 53) 2032,qm 55 10,qd 56 (.call 174 [46,54,55]) 8191,qw 42 56 16383,qd 57 (.ext 0 42) 32767,qd 58 (.ext 1 42) 32767,qw 11 57 65535,qw 12 58 262143] true) (.seq (.seq (OP [qm 59 12,Bi 60 .neq 59 (cI 0)]) (.cond 60 (.seq (OP [qm 61 12,Mv 4 cN,qm 5 61]) .ret) .skip)) (.seq (OP [qm 63 0,qm 64 11,qm 65 1,qm 66 10,q 67 (.build [(.int .i64 0),(.int .i64 0)] [(0,1,65),(1,1,66)]),Ca 68 101 [63,64,67],qm 62 68,Xt 69 0 62,Xt 70 1 62,qm 13 69,qm 12 70]) (.seq (.seq (OP [qm 71 12,Bi 72 .neq 71 (cI 0)]) (.cond 72 (.seq (OP [qm 73 12,Mv 4 cN,qm 5 73]) .ret) .skip)) (OP [qm 74 6,qm 75 10,qm 76 13,q 77 (.build [(.int .i64 0),(.int .i64 0)] [(0,1,75),(1,1,76)]),Bs 78 2 1 [77],Ap 79 2 16 74 78,qm 6 79])))))))) (OP [Bi 80 .add 32 (cI 1),qm 32 80])))
def c102:PC:=.seq (OP [Mv 4 cN,Mv 5 (cI 0)]) (.seq (OP [Mv 6 cN]) (.seq (.ops [qm 15 0,qd 16 (.zn 15) 1,qd 17 (.zz 0 16) 3,qd 18 (.vw 2 17) 7,qm 19 0,qd 20 (.zn 19) 16,qd 21 (.zz 4 20) 48,qd 22 (.zz 0 21) 112,qd 23 (.zg 22) 240,qm 24 1,qd 25 (.zM 1 23 24) 1008,qd 26 (.zg 25) 2032,qd 27 (.call 173 [18,26]) 4095,qw 14 27 8191,qd 28 (.ext 0 14) 16383,qd 29 (.ext 1 14) 16383,qw 7 28 32767,qw 8 29 131071] true) (.seq (.seq (OP [qm 30 7,Ln 31 30,Mv 32 (cI 0)]) (.block 0 (.loop zxd))) (.seq (OP [qm 81 6,qm 4 81,Mv 5 (cI 0)]) .ret))))
theorem zs7:zy Tryz.prog 102 82 [.tmp 4,.tmp 5] c102:=fK Tryz.func102
theorem zjE (P:zb) (hP:P.Fits) (h1:P.yK=0) (tok:Int) (st:Nat) (hst:st≤200) (marks:List (List Int)) (yP:List qq) (next:List (List zN)) (last:qq) (hS:zb.Sp P tok st marks yP) (n:Nat) (hn:n<marks.length) :
  yu Tryz.prog 102 [.loc 1 0,.sc (.int .i64 n)] (qy P tok st marks yP next last)
   (.yO [vm (zkn (P.yY tok st n (marks.getD n []) (P.YL (marks.getD n [])) marks yP [] last)),.sc (.int .i64 (P.yY tok st n (marks.getD n []) (P.YL (marks.getD n [])) marks yP [] last).e)])
   (qy P tok st (P.yY tok st n (marks.getD n []) (P.YL (marks.getD n [])) marks yP [] last).marks (P.yY tok st n (marks.getD n []) (P.YL (marks.getD n [])) marks yP [] last).yP next (P.yY tok st n (marks.getD n []) (P.YL (marks.getD n [])) marks yP [] last).last):=by
 obtain⟨h0,_,h60⟩:=zb.xl h1
 have h30:=(xm h0).2
 have hol:=hS.len
 refine wI zs7 zs (by simp[qy]) ?_ (by simp[zt,zl])
 have hMg:=hS.vN _ (zb.Xn hn)
 have hr:=hS.room
 generalize hM:marks.getD n []=M at hMg
 have hML:=(zb.xD hMg).len
 generalize hR:P.yY tok st n M (P.YL M) marks yP [] last=R
 have eM:P.uS M=0:=by unfold zb.uS;rw[if_neg zo,if_pos hMg]
 have hLl:=P.znw M
 have hLs:∀k∈P.YL M,k∈P.YL M:=λ_ h=>h
 generalize hL:P.YL M=L at hR hLl
 unfold qy zdm
 refine sR ?_
 refine sB ?_
 refine⟨_,zko (k:=n) zo hn,?_⟩
 refine sW ?_
 rw[hM]
 refine sC (zhn P hP M zo) ?_
 rw[hL,List.length_map]
 refine zG (xr 6 2 zs rfl) ?_
 refine z8 [0,1,30,31] (λ((mk,og,cur,la,k):List (List Int) × List qq × List zN × qq × Nat)=>[(6,.own 5 cur.length 0 cur.length),(32,.sc (.int .i64 k))]) (λ(mk,og,cur,la,k)=>qy P tok st mk og next la++[.vec true cur.length 2 (wm cur)])
  (λ(mk,og,cur,la,k)=>k≤L.length∧zb.Sp P tok st mk og∧n<mk.length∧mk.getD n []=M∧cur.length=k∧P.yY tok st n M (L.drop k) mk og cur la=R) (λ(mk,og,cur,la,k)=>L.length-k) (marks,yP,[],last,0) ?_
 refine sW ?_
 refine⟨⟨zo,hS,hn,hM,rfl,hR⟩,by exact sK,rfl,?_⟩
 rintro⟨mk,og,cur,la,k⟩ ⟨hk,hS',hn',hM',hc,hF⟩
 have hr':=hS'.room
 have hol':=hS'.len
 unfold qy zdm
 refine sW ?_
 refine sR ?_
 refine sS (λh2=>?_) λh2=>?_
 ·have hk':k<L.length:=sO
  rw[zb.zk8 hk',zb.YK] at hF
  have hxm:L.getD k 0∈P.YL M:=by rw[hL];exact yv hk'
  refine sL (yb (l:=L) (k:=k) zo hk') ?_
  generalize L.getD k 0=x at hF hxm
  refine sB ?_
  refine⟨_,zko (k:=n) zo hn',?_⟩
  refine sW ?_
  rw[hM']
  refine sC (zpn P hP M zo x) ?_
  refine sS (λh3=>?_) λh3=>?_
  ·have h3:P.ZN M x≠0:=sO
   rw[if_pos h3] at hF
   subst hF
   have hcur:zkn ⟨P.ZN M x,mk,og,cur,((n:Int),x)⟩=[]:=if_neg h3
   rw[hcur]
   exact⟨.yO _ _ (.cons _ _ _ _ (.none _) (.refl _)),Uh (P:=P) (tok:=tok) (st:=st) (marks:=mk) (yP:=og) (next:=next) (last:=((n:Int),x)) (R:=[_])⟩
  ·have h3:P.ZN M x=0:=sO
   rw[if_neg λq=>q h3] at hF
   have hmg:=zb.zfE hMg hxm h3
   generalize P.wV M x=m at hF hmg
   refine sA (vH (zb7 P tok st hst mk og next ((n:Int),x) hS' h30 m hmg ((n:Int),x)) [.vec true cur.length 2 (wm cur)] rfl (by simp[zl,zt,VK,qy]) Uz) ?_
   refine sS (λh4=>?_) λh4=>?_
   ·have h4:YM mk m tok st≠0:=sO
    rw[if_pos h4] at hF
    have hM1:Zn mk m tok st=mk:=by unfold Zn;rw[if_neg λq=>h4 q.1]
    have hG1:Wz mk og m tok st ((n:Int),x)=og:=by unfold Wz;rw[if_neg λq=>h4 q.1]
    subst hF
    have hcur:zkn ⟨YM mk m tok st,mk,og,cur,((n:Int),x)⟩=[]:=if_neg h4
    rw[hcur]
    refine⟨.yO _ _ (.cons _ _ _ _ (.none _) (.refl _)),?_⟩
    rw[hM1,hG1]
    exact Uh (P:=P) (tok:=tok) (st:=st) (marks:=mk) (yP:=og) (next:=next) (last:=((n:Int),x)) (R:=[_])
   ·have h4:YM mk m tok st=0:=sO
    rw[if_neg λq=>q h4] at hF
    refine sJ ?_
    refine sI ?_
    refine⟨(Zn mk m tok st,Wz mk og m tok st ((n:Int),x),cur++[(x,W9 mk m tok st)],((n:Int),x),k+1),⟨zo,hS'.put hmg zo zo,Nat.lt_of_lt_of_le hn' zb.zds,by rw[zb.ziL hn',hM'],by simp[hc],hF⟩,zd,?_⟩
    dsimp only
    rw[show(cur++[(x,W9 mk m tok st)]).length=cur.length+1 by simp]
    refine zj 6 zs rfl sQ (sU ?_)
    exact zp (Wi rfl)
 ·have hk':k=L.length:=by have:¬k<L.length:=sO
                          omega
  rw[hk',List.drop_length] at hF
  have hF':R=⟨0,mk,og,cur,la⟩:=hF.symm
  subst hF'
  have hcur:zkn ⟨0,mk,og,cur,la⟩=cur:=if_pos rfl
  rw[hcur]
  refine⟨.yO _ _ (.cons _ _ _ _ (.own _ _ _ _ _ _ _ _ rfl rfl ?_) (.refl _)),Uh (P:=P) (tok:=tok) (st:=st) (marks:=mk) (yP:=og) (next:=next) (last:=la) (R:=[_])⟩
  rw[zu zs]
  exact .refl _
end
section
open Go.RowKit
namespace zb
noncomputable def Jz (P:zb) (tok:Int) (st:Nat):SpF:=P.YN tok st 201 0 [P.wF] [(-1,-1)] [] (-1,-1)
theorem Sp.nil (P:zb) (tok:Int) (st:Nat):Sp P tok st [] []:=⟨zs,zs,zs,rfl,λi h1 h2=>by simp at h2,.inl rfl⟩
theorem zk3 {P:zb} (h:P.yK=0) {tok:Int} (ht:1≤tok):zdM P.wF tok=false:=by
 unfold zdM wF
 rw[if_pos h,List.any_eq_false]
 intro x hx
 unfold gl at hx
 obtain⟨i,_,rfl⟩:=List.mem_map.1 hx
 unfold zhx
 split<;>simp<;>omega
theorem zoh {P:zb} (h:P.yK=0) {tok:Int} (ht:1≤tok) {st:Nat} (hs:1≤st):YM [] P.wF tok st=0∧Zn [] P.wF tok st=[P.wF]∧Wz [] [] P.wF tok st (-1,-1)=[(-1,-1)]:=by
 have e0:YM [] P.wF tok st=0:=by
  unfold YM
  rw[zk3 h ht]
  simp
  omega
 refine⟨e0,?_,?_⟩
 ·unfold Zn;rw[if_pos ⟨e0,zs⟩];rfl
 ·unfold Wz;rw[if_pos ⟨e0,zs⟩];rfl
theorem Sp.start {P:zb} (h:P.yK=0) {tok:Int} {st:Nat} (hs:1≤st):Sp P tok st [P.wF] [(-1,-1)] :=
 ⟨zs,λm hm=>by rw[List.mem_singleton] at hm;subst hm;exact zjZ h,by simpa using hs,rfl,λi h1 h2=>by simp at h2;omega,.inr rfl⟩
theorem Qm {P:zb} {tok:Int} {st n:Nat} {M:List Int} (hM:P.uA M=true):∀(L:List Int) (marks:List (List Int)) (yP:List qq) (cur:List zN) (last:qq),(∀k∈L,k∈P.YL M)→Sp P tok st marks yP→n<marks.length →
  Sp P tok st (P.yY tok st n M L marks yP cur last).marks (P.yY tok st n M L marks yP cur last).yP∧marks.length≤(P.yY tok st n M L marks yP cur last).marks.length ∧
   (∀i,i<marks.length→(P.yY tok st n M L marks yP cur last).marks.getD i []=marks.getD i [])
 | [],marks,yP,cur,last,_,hS,_=>⟨hS,Nat.le_refl _,λ_ _=>rfl⟩
 | k::r,marks,yP,cur,last,hL,hS,hn=>by
  rw[YK]
  split
  ·exact⟨hS,Nat.le_refl _,λ_ _=>rfl⟩
  ·split
   ·exact⟨hS,Nat.le_refl _,λ_ _=>rfl⟩
   ·rename_i h1 h2
    have hg:=zfE hM (hL k zs) zo
    have hl:=zds (marks:=marks) (m:=P.wV M k) (tok:=tok) (st:=st)
    have hn':n<(Zn marks (P.wV M k) tok st).length:=Nat.lt_of_lt_of_le hn hl
    have hS':=hS.put hg (a:=(n:Int)) (k:=k) zo zo
    obtain⟨g1,g2,g3⟩:=Qm hM r (Zn marks (P.wV M k) tok st) (Wz marks yP (P.wV M k) tok st ((n:Int),k)) (cur++[(k,W9 marks (P.wV M k) tok st)]) ((n:Int),k) (λj hj=>hL j (by simp[hj])) hS' hn'
    exact⟨g1,Nat.le_trans hl g2,λi hi=>by rw[g3 i (Nat.lt_of_lt_of_le hi hl),ziL hi]⟩
end zb
def zjV (P:zb) (tok:Int) (st n no nn:Nat) (last:qq):List D:=[.xj 2 (P.nodes.map ug),.xj 2 (P.zv.map YT),.sc (.int .i64 tok),.sc (.int .i64 st),.own 3 n 0 n,.own 5 nn 0 nn,.mp 1,.own 4 no 0 no,.sc (.int .i64 last.1),.sc (.int .i64 last.2)]
noncomputable def ZT (P:zb) (tok:Int) (st:Nat) (marks:List (List Int)) (yP:List qq) (next:List (List zN)) (last:qq):List zf :=
 [.row true [.xj 2 (P.nodes.map ug),.xj 2 (P.zv.map YT)],.wc true (uQ Tryz.prog 243 (fM marks)),.row true (zjV P tok st marks.length yP.length next.length last),.vec true marks.length 1 (uf marks),.vec true yP.length 2 (wm yP),.vec true next.length 1 (ud next)]
theorem Qq {ρ:Nat→Nat} (P:zb):D.yI ρ (.xj 2 (P.nodes.map ug))=.xj 2 (P.nodes.map ug)∧D.yI ρ (.xj 2 (P.zv.map YT))=.xj 2 (P.zv.map YT):=by
 have h:=yj P
 simp only[yU,zb.cells,Pure,ze] at h
 exact⟨yH _ (by simpa only[Pure] using h.1),yH _ (by simpa only[Pure] using h.2.1)⟩
theorem zfA (P:zb) (tok:Int) (st:Nat) (marks:List (List Int)) (yP:List qq) (next:List (List zN)) (last:qq) :
  [zf.row true [.xj 2 (P.nodes.map ug),.xj 2 (P.zv.map YT)]]++((qy P tok st marks yP next last).map (zf.yI λi=>[zf.row true [.xj 2 (P.nodes.map ug),.xj 2 (P.zv.map YT)]].length+i)++[])=ZT P tok st marks yP next last:=by
 have h1:=λρ=>(Qq (ρ:=ρ) P).1
 have h2:=λρ=>(Qq (ρ:=ρ) P).2
 have h3:=λρ=>yw (ρ:=ρ) _ (XA marks)
 have h4:=λρ=>yw (ρ:=ρ) _ (YH yP)
 have h5:=λρ=>yw (ρ:=ρ) _ (qX next)
 simp only[qy,ZT,zdm,zjV,List.map_cons,List.map_nil,zf.yI,yG,h1,h2,h3,h4,h5,List.append_nil,List.length_cons,List.length_nil,List.cons_append,List.nil_append]
 simp only[D.yI]
theorem zhb {P:zb} {tok:Int} {st:Nat} {marks:List (List Int)} {yP:List qq} {next:List (List zN)} {last:qq}:∀o∈ZT P tok st marks yP next last,o.under 6:=by
 intro o ho
 simp only[ZT,List.mem_cons,List.not_mem_nil,or_false] at ho
 rcases ho with rfl|rfl|rfl|rfl|rfl|rfl<;>simp[zf.under,zjV,zl,zt]
theorem zuU {ρ:Nat→Nat} (l:List (Int × Int)) (v:Value):D.yI ρ (.yO [vm l,.sc v])=.yO [vm l,.sc v]:=by
 simp only[D.yI,yG,yH _ (vf l)]
theorem zwb {ρ:Nat→Nat} (u v:Value):D.yI ρ (.yO [.sc u,.sc v])=.yO [.sc u,.sc v]:=by
 simp only[D.yI,yG]
theorem zgZ {P:zb} {f:FuncId} {tok:Int} {st:Nat} {marks marks':List (List Int)} {yP org':List qq} {next:List (List zN)} {last last':qq} {args args':List D} {d d':D}
  (hA:yu Tryz.prog f args (qy P tok st marks yP next last) d (qy P tok st marks' org' next last')) (hu:zl 5 args) (e1:yG (λi=>1+i) args=args') (e2:D.yI (λi=>1+i) d=d') :
  yu Tryz.prog f args' (ZT P tok st marks yP next last) d' (ZT P tok st marks' org' next last') :=
 vB hA [.row true [.xj 2 (P.nodes.map ug),.xj 2 (P.zv.map YT)]] [] rfl hu Uz e1 e2 (zfA ..) (zfA ..)
def zB3:PC:=.seq (.seq (OP [qm 62 15,qm 63 10,q 64 (.zn 63),Fa 65 4 64,Fa 66 0 65,Lo 67 66,Ln 68 67,Bi 69 .lss 62 68]) (.cond 69 .skip (.exit 0))) (.seq (.block 1 (.seq (OP [qm 73 10,qm 74 15,Ca 75 102 [73,74],qm 72 75,Xt 76 0 72,Xt 77 1 72,qm 16 76,qm 17 77]) (.seq (.seq (OP [qm 78 17,Bi 79 .neq 78 (cI 0)]) (.cond 79 (.seq (OP [qm 80 10,qm 81 17,qm 6 80,qm 7 81]) .ret) .skip)) (OP [qm 82 10,qm 83 10,q 84 (.zn 83),Fa 85 4 84,Fa 86 1 85,Lo 87 86,qm 88 16,Bs 89 1 1 [88],Ap 90 1 24 87 89,q 91 (.zn 82),Fa 92 4 91,Fa 93 1 92,So 1 93 90])))) (OP [qm 70 15,Bi 71 .add 70 (cI 1),qm 15 71]))
def c41:PC:=.seq (OP [Bx 3 0,q 6 (.move (.const (.pointer none))),Mv 7 (cI 0)]) (.seq (.seq (OP [LA 19 2 3,Ca 20 19 [19],qm 18 20,Xt 21 0 18,Xt 22 1 18,qm 8 21,qm 9 22]) (.seq (OP [qm 23 9,Bi 24 .neq 23 (cI 0)]) (.cond 24 (.seq (OP [qm 25 9,q 6 (.move (.const (.pointer none))),qm 7 25]) .ret) .skip))) (.seq (.seq (OP [qm 26 1,Bi 27 .lss 26 (cI 1),qm 28 27,GF 29 28 (.move 1),GF 30 28 (.bin .gtr 29 (cI 9)),Pk 31 28 cT 30,qm 32 31,GF 33 32 (.move 2),GF 34 32 (.bin .lss 33 (cI 1)),Pk 35 32 cT 34,qm 36 35,GF 37 36 (.move 2),GF 38 36 (.bin .gtr 37 (cI 200)),Pk 39 36 cT 38]) (.cond 39 (.seq (OP [q 6 (.move (.const (.pointer none))),Mv 7 (cI 1)]) .ret) .skip)) (.seq (OP [LA 40 2 3,qm 41 1,qm 42 2,q 43 (.zf2 243),q 44 (.build [(.slice none 0 0),(.slice none 0 0),(.int .i64 0),(.int .i64 0),(.slice none 0 0),(.slice none 0 0),(.map none),(.slice none 0 0),(.int .i64 0),(.int .i64 0)] [(0,2,40),(2,1,41),(3,1,42),(6,1,43)]),Bx 45 44,qm 10 45]) (.seq (OP [LA 47 2 3,Ca 48 100 [47],qm 46 48,Xt 49 0 46,Xt 50 1 46,qm 11 49,qm 12 50]) (.seq (.seq (.stop (OP [qm 52 10,qm 53 11,q 54 (.build [(.int .i64 0),(.int .i64 0)] [(0,1,(cI (-1))),(1,1,(cI (-1)))]),Ca 55 101 [52,53,54],qm 51 55,Xt 56 0 51,Xt 57 1 51,qm 13 56,qm 14 57])) (.seq (OP [qm 58 14,Bi 59 .neq 58 (cI 0)]) (.cond 59 (.seq (OP [qm 60 10,qm 61 14,qm 6 60,qm 7 61]) .ret) .skip))) (.seq (.seq (OP [Mv 15 (cI 0)]) (.block 0 (.loop zB3))) (.seq (OP [qm 94 10,qm 6 94,Mv 7 (cI 0)]) .ret)))))))
theorem zl6:zy Tryz.prog 41 95 [.tmp 6,.tmp 7] c41:=fK Tryz.func41
theorem zfv (P:zb) (hP:P.Fits) (h1:P.yK≠0) (tok st:Int):yu Tryz.prog 41 [yU P,.sc (.int .i64 tok),.sc (.int .i64 st)] [] (.yO [.sc (.pointer none),.sc (.int .i64 P.yK)]) []:=by
 refine z1 zl6 zs zs ?_ (by simp[zt,zl]) zs
 unfold yU zb.cells
 refine sR ?_
 refine sC (W0 P hP) ?_
 refine sS (λh2=>?_) λh2=>?_
 ·exact Nat.zero_le _
 ·exfalso;exact sO
theorem zfg (P:zb) (hP:P.Fits) (h1:P.yK=0) (tok st:Int) (hb:tok<1∨9<tok∨st<1∨200<st):yu Tryz.prog 41 [yU P,.sc (.int .i64 tok),.sc (.int .i64 st)] [] (.yO [.sc (.pointer none),.sc (.int .i64 1)]) []:=by
 refine z1 zl6 zs zs ?_ (by simp[zt,zl]) zs
 unfold yU zb.cells
 refine sR ?_
 refine sC (W0 P hP) ?_
 refine sS (λh2=>?_) λh2=>?_
 ·exfalso;exact sO
 refine sS (λh3=>?_) λh3=>?_
 ·refine sW ?_
  exact Nat.zero_le _
 refine sS (λh4=>?_) λh4=>?_
 ·refine sW ?_
  exact Nat.zero_le _
 refine sS (λh5=>?_) λh5=>?_
 ·refine sW ?_
  exact Nat.zero_le _
 refine sS (λh6=>?_) λh6=>?_
 ·exact Nat.zero_le _
 ·exfalso;exact sO
theorem znR (P:zb) (hP:P.Fits) (h1:P.yK=0) (tok:Int) (ht:1≤tok) (ht':tok≤9) (st:Nat) (hs:1≤st) (hs':st≤200) :
  yu Tryz.prog 41 [yU P,.sc (.int .i64 tok),.sc (.int .i64 st)] [] (.yO [.loc 2 0,.sc (.int .i64 (P.Jz tok st).e)]) (ZT P tok st (P.Jz tok st).marks (P.Jz tok st).yP (P.Jz tok st).next (P.Jz tok st).last):=by
 obtain⟨h0,_,h60⟩:=zb.xl h1
 have h30:=(xm h0).2
 refine z1 zl6 zs zs ?_ (by simp[zt,zl,ZT]) zhb
 have hB:=zb.zjZ h1
 obtain⟨p1,p2,p3⟩:=zb.zoh h1 ht hs
 unfold yU zb.cells
 refine sR ?_
 refine sC (W0 P hP) ?_
 refine sS (λh2=>?_) λh2=>?_
 ·exfalso;exact sO
 refine sS (λh3=>?_) λh3=>?_
 ·exfalso;exact sO
 refine sS (λh4=>?_) λh4=>?_
 ·exfalso;exact sO
 refine sS (λh5=>?_) λh5=>?_
 ·exfalso;exact sO
 refine sS (λh6=>?_) λh6=>?_
 ·exfalso;exact sO
 refine sC (zli P hP) ?_
 refine zG (yV 2 4 1 zs rfl rfl) ?_
 refine zG (yV 2 7 2 zs rfl rfl) ?_
 refine zG (yV 2 5 1 zs rfl rfl) ?_
 refine sR ?_
 refine sA (zgZ (zb7 P tok st hs' [] [] [] (0,0) (zb.Sp.nil P tok st) h30 P.wF hB (-1,-1)) (by simp[zl,zt,VK]) (by simp only[yG,D.yI,VK,yH _ (zi _)]) (zwb _ _)) ?_
 rw[p1,p2,p3]
 refine sW ?_
 have eF:P.Jz tok st=P.YN tok st 201 0 [P.wF] [(-1,-1)] [] (-1,-1):=rfl
 generalize P.Jz tok st=F at eF
 refine z8 [10] (λ((mk,og,nx,la,n):List (List Int) × List qq × List (List zN) × qq × Nat)=>[(15,.sc (.int .i64 n))]) (λ(mk,og,nx,la,n)=>ZT P tok st mk og nx la)
  (λ(mk,og,nx,la,n)=>n≤mk.length∧zb.Sp P tok st mk og∧nx.length=n∧P.YN tok st (201-n) n mk og nx la=F) (λ(mk,og,nx,la,n)=>201-n) ([P.wF],[(-1,-1)],[],(-1,-1),0) ?_
 refine sW ?_
 refine⟨⟨zs,zb.Sp.start h1 hs,rfl,eF.symm⟩,by exact sK,rfl,?_⟩
 rintro⟨mk,og,nx,la,n⟩ ⟨hn,hS,hnx,hF⟩
 have hr:=hS.room
 obtain⟨f,ef⟩:∃f,201-n=f+1:=⟨200-n,zo⟩
 rw[ef] at hF
 simp only[zb.YN] at hF
 unfold ZT zjV
 refine sW ?_
 refine sR ?_
 refine sS (λh7=>?_) λh7=>?_
 ·have hn':n<mk.length:=sO
  rw[if_pos hn'] at hF
  have hok:=zb.Qm (tok:=tok) (st:=st) (n:=n) (hS.vN _ (zb.Xn hn')) (P.YL (mk.getD n [])) mk og [] la (λ_ h=>h) hS hn'
  refine sA (zgZ (zjE P hP h1 tok st hs' mk og nx la hS n hn') (by simp[zl,zt]) (by simp only[yG,D.yI]) (zuU _ _)) ?_
  generalize P.yY tok st n (mk.getD n []) (P.YL (mk.getD n [])) mk og [] la=R at hF hok
  refine sS (λh8=>?_) λh8=>?_
  ·have h8:R.e≠0:=sO
   rw[if_pos h8] at hF
   rw[←hF]
   exact⟨rfl,rfl,Nat.le_refl _⟩
  ·have h8:R.e=0:=sO
   rw[if_neg λq=>q h8] at hF
   have hcur:zkn R=R.cur:=if_pos h8
   rw[hcur]
   refine sJ ?_
   refine sI ?_
   refine⟨(R.marks,R.yP,nx++[R.cur],R.last,n+1),⟨zo,hok.1,by simp[hnx],by rw[show 201-(n+1)=f by omega];exact hF⟩,zd,?_⟩
   dsimp only
   rw[show(nx++[R.cur]).length=nx.length+1 by simp]
   refine zj 6 zs rfl sQ (sU ?_)
   exact zp (zlj rfl)
 ·have hn':¬n<mk.length:=sO
  rw[if_neg hn'] at hF
  rw[←hF]
  exact⟨rfl,rfl,Nat.le_refl _⟩
end
section
open Go.RowKit
namespace zb
theorem zb1 {P:zb} {tok:Int} {st n:Nat} {M:List Int}:∀(L:List Int) (marks:List (List Int)) (yP:List qq) (cur:List zN) (last:qq),last.1=(n:Int)∨L≠[]∨last.1=-1 →
  (P.yY tok st n M L marks yP cur last).last.1=(n:Int)∨(P.yY tok st n M L marks yP cur last).last=last
 | [],marks,yP,cur,last,_=>.inr rfl
 | k::r,marks,yP,cur,last,_=>by
  rw[YK]
  split
  ·exact .inl rfl
  ·split
   ·exact .inl rfl
   ·rcases zb1 r (Zn marks (P.wV M k) tok st) (Wz marks yP (P.wV M k) tok st ((n:Int),k)) (cur++[(k,W9 marks (P.wV M k) tok st)]) ((n:Int),k) (.inl rfl) with h|h
    ·exact .inl h
    ·rw[h];exact .inl rfl
theorem zmC {P:zb} {tok:Int} {st:Nat}:∀(f n:Nat) (marks:List (List Int)) (yP:List qq) (next:List (List zN)) (last:qq),Sp P tok st marks yP→last.1<(marks.length:Int) →
  Sp P tok st (P.YN tok st f n marks yP next last).marks (P.YN tok st f n marks yP next last).yP∧(P.YN tok st f n marks yP next last).last.1<((P.YN tok st f n marks yP next last).marks.length:Int)
 | 0,n,marks,yP,next,last,hS,hl=>⟨hS,hl⟩
 | f+1,n,marks,yP,next,last,hS,hl=>by
  simp only[YN]
  split
  ·rename_i hn
   obtain⟨g1,g2,_⟩:=Qm (tok:=tok) (st:=st) (n:=n) (hS.vN _ (Xn hn)) (P.YL (marks.getD n [])) marks yP [] last (λ_ h=>h) hS hn
   have g3:(P.yY tok st n (marks.getD n []) (P.YL (marks.getD n [])) marks yP [] last).last.1=(n:Int)∨(P.yY tok st n (marks.getD n []) (P.YL (marks.getD n [])) marks yP [] last).last=last:=by
    generalize P.YL (marks.getD n [])=L
    cases L with
    | nil=>exact .inr rfl
    | cons k r=>exact zb1 _ _ _ _ _ (.inr (.inl zs))
   generalize P.yY tok st n (marks.getD n []) (P.YL (marks.getD n [])) marks yP [] last=R at g1 g2 g3
   have g4:R.last.1<(R.marks.length:Int):=by
    rcases g3 with g3|g3
    ·omega
    ·rw[g3];omega
   split
   ·exact⟨g1,g4⟩
   ·exact zmC f (n+1) _ _ _ _ g1 g4
  ·exact⟨hS,hl⟩
theorem zyq {P:zb} (h:P.yK=0) {tok:Int} {st:Nat} (hs:1≤st):Sp P tok st (P.Jz tok st).marks (P.Jz tok st).yP∧(P.Jz tok st).last.1<((P.Jz tok st).marks.length:Int) :=
 zmC _ _ _ _ _ _ (Sp.start h hs) zs
def zeb (tok st:Int):Prop:=tok<1∨9<tok∨st<1∨200<st
instance (tok st:Int):Decidable (zeb tok st):=by unfold zeb;infer_instance
noncomputable def Qb (P:zb) (tok st:Int):Int:=if P.yK≠0 then P.yK else if zeb tok st then 1 else (P.Jz tok st.toNat).e
noncomputable def exM (P:zb) (tok st:Int):List (List Int):=if P.Qb tok st=0 then (P.Jz tok st.toNat).marks else []
noncomputable def YO (P:zb) (tok st:Int):List (List zN):=if P.Qb tok st=0 then (P.Jz tok st.toNat).next else []
end zb
end
section
open Go.RowKit
theorem zof (l:List Int):yE (zL l):=by simp[zL,ze,Pure]
theorem ziR {ρ:Nat→Nat} (l:List Int):vS ρ (zL l)=zL l:=yw _ (zof l)
def zk7 (M:List (List Int)) (N:List (List zN)):D:=.agg [ya M,.xj 1 (ud N)]
theorem zjz (M:List (List Int)) (N:List (List zN)):Pure (zk7 M N):=by simp[zk7,Pure,ze,z7,qX]
theorem zlz {H:List zf} {id v n:Nat} {q:Bool} {L:List (List zN)} (hn:n=L.length) (h:H[id]? = some (.vec q v 1 (ud L))):Deep H (.own id v 0 n) (.xj 1 (ud L)):=by
 subst hn
 exact .own _ _ _ _ _ _ _ _ h (by rw[zu zs];exact z6 _)
def zwA (b:Nat) (P:zb) (tok:Int) (st n no nn:Nat) (last:qq):List D:=[.xj 2 (P.nodes.map ug),.xj 2 (P.zv.map YT),.sc (.int .i64 tok),.sc (.int .i64 st),.own (b+2) n 0 n,.own (b+4) nn 0 nn,.mp b,.own (b+3) no 0 no,.sc (.int .i64 last.1),.sc (.int .i64 last.2)]
noncomputable def zmf (b:Nat) (P:zb) (tok:Int) (st:Nat) (marks:List (List Int)) (yP:List qq) (next:List (List zN)) (last:qq):List zf :=
 [.row true [.xj 2 (P.nodes.map ug),.xj 2 (P.zv.map YT)],.wc true (uQ Tryz.prog 243 (fM marks)),.row true (zwA b P tok st marks.length yP.length next.length last),.vec true marks.length 1 (uf marks),.vec true yP.length 2 (wm yP),.vec true next.length 1 (ud next)]
theorem zlB (b:Nat) (P:zb) (tok:Int) (st:Nat) (marks:List (List Int)) (yP:List qq) (next:List (List zN)) (last:qq) :
  (ZT P tok st marks yP next last).map (zf.yI λi=>[b,b+1,b+2,b+3,b+4,b+5].getD i 0)=zmf (b+1) P tok st marks yP next last:=by
 have h1:=λρ=>(Qq (ρ:=ρ) P).1
 have h2:=λρ=>(Qq (ρ:=ρ) P).2
 have h3:=λρ=>yw (ρ:=ρ) _ (XA marks)
 have h4:=λρ=>yw (ρ:=ρ) _ (YH yP)
 have h5:=λρ=>yw (ρ:=ρ) _ (qX next)
 simp only[zmf,ZT,zwA,zjV,List.map_cons,List.map_nil,zf.yI,yG,h1,h2,h3,h4,h5]
 simp only[D.yI]
 rfl
theorem zl2 {P:zb} {tok:Int} {st:Nat} {marks:List (List Int)} {yP:List qq} {next:List (List zN)} {last:qq} {args:List D} {e:Int} (hA:yu Tryz.prog 41 args [] (.yO [.loc 2 0,.sc (.int .i64 e)]) (ZT P tok st marks yP next last)) (hp:ze args)
  {H:List zf} {b:Nat} (hb:H.length=b):u7 Tryz.prog 41 args H (.yO [.loc (b+2) 0,.sc (.int .i64 e)]) (H++zmf (b+1) P tok st marks yP next last) [b,b+1,b+2,b+3,b+4,b+5] :=
 vP hA hp _ (by rw[hb];rfl) (by simp only[D.yI,yG];rfl) (by rw[zlB])
theorem zea {args:List D} {e:Int} (hA:yu Tryz.prog 41 args [] (.yO [.sc (.pointer none),.sc (.int .i64 e)]) []) (hp:ze args)
  {H:List zf}:u7 Tryz.prog 41 args H (.yO [.sc (.pointer none),.sc (.int .i64 e)]) H [] :=
 vP hA hp [] rfl (by simp only[D.yI,yG]) zs
def c18:PC:=.seq (OP [Bx 3 0,q 6 (.alloc [(.slice none 0 0),(.slice none 0 0)]),Mv 7 (cI 0)]) (.seq (OP [LA 11 2 3,qm 12 1,qm 13 2,Ca 14 41 [11,12,13],qm 10 14,Xt 15 0 10,Xt 16 1 10,qm 8 15,qm 9 16]) (.seq (.seq (OP [qm 17 9,Bi 18 .neq 17 (cI 0)]) (.cond 18 (.seq (OP [q 19 (.build [(.slice none 0 0),(.slice none 0 0)] []),qm 20 9,So 2 6 19,qm 7 20]) .ret) .skip)) (.seq (OP [qm 21 8,q 22 (.zn 21),Fa 23 4 22,LA 24 2 23,So 2 6 24,Mv 7 (cI 0)]) .ret)))
theorem zyl:zy Tryz.prog 18 25 [.agg 6 2,.tmp 7] c18:=fK Tryz.func18
theorem QO (P:zb) (hP:P.Fits) (tok st:Int):zq Tryz.prog 18 [yU P,.sc (.int .i64 tok),.sc (.int .i64 st)] (.yO [zk7 (P.exM tok st) (P.YO tok st),.sc (.int .i64 (P.Qb tok st))]):=by
 refine za zyl zs (by simp[ze,Pure,yj]) ?_ (by simp[Pure,ze,zjz])
 have hpa:ze [yU P,.sc (.int .i64 tok),.sc (.int .i64 st)]:=by simp[ze,Pure,yj]
 unfold yU zb.cells
 refine sR ?_
 have bad:∀e,e≠0→P.Qb tok st=e→P.exM tok st=[]∧P.YO tok st=[]:=λe h1 h2=>by
  unfold zb.exM zb.YO
  rw[h2,if_neg h1,if_neg h1]
  exact⟨rfl,rfl⟩
 by_cases h1:P.yK=0
 ·by_cases h2:zb.zeb tok st
  ·have e1:P.Qb tok st=1:=by unfold zb.Qb;rw[if_neg zo,if_pos h2]
   obtain⟨eM,eN⟩:=bad 1 zc e1
   refine sE (zea (zfg P hP h1 tok st h2) hpa) ?_
   rw[eM,eN,e1]
   exact .yO _ _ (.cons _ _ _ _ (.agg _ _ (.cons _ _ _ _ (.none _) (.cons _ _ _ _ (.none _) .nil))) (xv _))
  ·have h2':=h2
   unfold zb.zeb at h2'
   obtain⟨s,rfl⟩:∃s:Nat,st=s:=⟨st.toNat,zo⟩
   have e1:P.Qb tok s=(P.Jz tok s).e:=by unfold zb.Qb;rw[if_neg zo,if_neg h2,Int.toNat_natCast]
   have hA:=zl2 (znR P hP h1 tok zo zo s zo zo) hpa (H:=[.row true [.xj 2 (P.nodes.map ug),.xj 2 (P.zv.map YT)],.row true [.sc (.slice none 0 0),.sc (.slice none 0 0)]]) (b:=2) rfl
   refine sE (hA) ?_
   refine sS (λh3=>?_) λh3=>?_
   ·have h3:P.Qb tok s≠0:=by rw[e1];exact sO
    obtain⟨eM,eN⟩:=bad _ h3 rfl
    rw[eM,eN,e1]
    exact .yO _ _ (.cons _ _ _ _ (.agg _ _ (.cons _ _ _ _ (.none _) (.cons _ _ _ _ (.none _) .nil))) (xv _))
   ·have h3:P.Qb tok s=0:=by rw[e1];exact sO
    unfold zb.exM zb.YO
    rw[if_pos h3,if_pos h3,h3,Int.toNat_natCast]
    exact .yO _ _ (.cons _ _ _ _ (.agg _ _ (.cons _ _ _ _ (zmh rfl rfl) (.cons _ _ _ _ (zlz rfl rfl) .nil))) (xv _))
 ·have e1:P.Qb tok st=P.yK:=by unfold zb.Qb;rw[if_pos h1]
  obtain⟨eM,eN⟩:=bad _ h1 e1
  refine sE (zea (zfv P hP h1 tok st) hpa) ?_
  have hb:(P.yK != 0)=true:=by simp[h1]
  rw[hb]
  refine sW ?_
  rw[eM,eN,e1]
  exact .yO _ _ (.cons _ _ _ _ (.agg _ _ (.cons _ _ _ _ (.none _) (.cons _ _ _ _ (.none _) .nil))) (xv _))
end
end
section
def QC (N:List (List zN)) (m:Nat):List zN:=if (N.getD m []).length=0 then [(-1,(m:Int))] else (N.getD m []).map λx=>(x.1,(m:Int))
def JU (N:List (List zN)) (m:Nat):List Int:=if (N.getD m []).length=0 then [(m:Int)] else (N.getD m []).map λx=>x.2
def wz (N:List (List zN)):Nat→List zN
 | 0=>[]
 | m+1=>wz N m++QC N m
def zhH (N:List (List zN)):Nat→List Int
 | 0=>[]
 | m+1=>zhH N m++JU N m
def x4 (N:List (List zN)) (m:Nat):Nat:=(wz N m).length
def wN (N:List (List zN)) (m:Nat):Nat:=(QC N m).length
theorem zq8 (N:List (List zN)) (m:Nat):1≤wN N m:=by
 unfold wN QC
 split
 ·simp
 ·rename_i h;simp only[List.length_map];omega
theorem qH (N:List (List zN)) (m:Nat):wN N m=if (N.getD m []).length=0 then 1 else (N.getD m []).length:=by
 unfold wN QC
 split<;>simp
theorem zxp (N:List (List zN)) (m:Nat):(JU N m).length=wN N m:=by
 rw[qH]
 unfold JU
 split<;>simp
theorem qe (N:List (List zN)) (m:Nat):x4 N (m+1)=x4 N m+wN N m:=by simp[x4,wN,wz]
theorem UK (N:List (List zN)):∀m,(zhH N m).length=x4 N m
 | 0=>rfl
 | m+1=>by rw[qe];simp only[zhH,List.length_append,zxp,UK N m]
theorem We {N:List (List zN)} {m n:Nat} (h:m≤n):x4 N m≤x4 N n:=by
 induction n with
 | zero=>rw[show m=0 by omega];exact Nat.le_refl _
 | succ n ih =>
  by_cases e:m=n+1
  ·subst e;exact Nat.le_refl _
  ·rw[qe];have:=ih zo;omega
theorem zfW {α:Type} {l r:List α} {a:Nat} {d:α} (h:a<l.length):(l++r).getD a d=l.getD a d:=by
 rw[List.getD_eq_getElem?_getD,List.getD_eq_getElem?_getD,List.getElem?_append_left h]
theorem zgP {α:Type} {l r:List α} {a k:Nat} {d:α} (h:a=l.length+k):(l++r).getD a d=r.getD k d:=by
 subst h
 rw[List.getD_eq_getElem?_getD,List.getD_eq_getElem?_getD,List.getElem?_append_right zo,Nat.add_sub_cancel_left]
theorem JX {N:List (List zN)} {m k:Nat} (hk:k<wN N m):∀n,m<n→(wz N n).getD (x4 N m+k) (0,0)=(QC N m).getD k (0,0)
 | 0,h=>zo
 | n+1,h=>by
  simp only[wz]
  by_cases e:m=n
  ·subst e
   exact zgP rfl
  ·have h1:=We (N:=N) (show m+1≤n by omega)
   rw[qe] at h1
   rw[zfW (show x4 N m+k<(wz N n).length by unfold x4 at h1 ⊢;omega),JX hk n zo]
theorem zmO {N:List (List zN)} {m k:Nat} (hk:k<wN N m):∀n,m<n→(zhH N n).getD (x4 N m+k) 0=(JU N m).getD k 0
 | 0,h=>zo
 | n+1,h=>by
  simp only[zhH]
  by_cases e:m=n
  ·subst e
   exact zgP (by rw[UK])
  ·have h1:=We (N:=N) (show m+1≤n by omega)
   rw[qe] at h1
   rw[zfW (by rw[UK];omega),zmO hk n zo]
theorem zta {N:List (List zN)} {m k:Nat} (hk:k<wN N m):((QC N m).getD k (0,0)).2=(m:Int):=by
 rw[qH] at hk
 unfold QC
 split
 ·rename_i h
  rw[if_pos h] at hk
  rw[show k=0 by omega]
  rfl
 ·rename_i h
  rw[if_neg h] at hk
  rw[List.getD_eq_getElem?_getD,List.getElem?_map,List.getElem?_eq_getElem hk]
  rfl
theorem zer {N:List (List zN)}:∀{n i:Nat},i<x4 N n→∃m k,m<n∧k<wN N m∧i=x4 N m+k
 | 0,i,h=>by simp[x4,wz] at h
 | n+1,i,h=>by
  rw[qe] at h
  by_cases q:i<x4 N n
  ·obtain⟨m,k,h1,h2,h3⟩:=zer q
   exact⟨m,k,zo,h2,h3⟩
  ·exact⟨n,i-x4 N n,zo,zo,zo⟩
def Xc (N:List (List zN)) (t:Nat):List Int:=(List.range (wN N t)).map λ(i:Nat)=>((x4 N t+i:Nat):Int)
theorem zv7 {N:List (List zN)} {m:Nat} (h:(N.getD m []).length=0):Xc N m=[(x4 N m:Int)]:=by
 unfold Xc
 rw[qH,if_pos h]
 rfl
theorem UR (N:List (List zN)) (t:Nat):(Xc N t).length=wN N t:=by simp[Xc]
def zxl (N:List (List zN)) (m:Nat) (k:Int):Bool:=(N.getD m []).any λy=>y.1==k
def qZ (N:List (List zN)) (of:List zN) (s:Int):Nat→List Int
 | 0=>[]
 | i+1=>if zxl N (of.getD i (0,0)).2.toNat s=false∨(of.getD i (0,0)).1=s then qZ N of s i++[(i:Int)] else qZ N of s i
theorem zdn (N:List (List zN)) (of:List zN) (s:Int):∀i,(qZ N of s i).length≤i
 | 0=>by simp[qZ]
 | i+1=>by
  simp only[qZ]
  have:=zdn N of s i
  split<;>simp<;>omega
end
section
section
open Go.RowKit
end
section
open Go.RowKit
theorem zvH {L:List (List zN)} {z k:Nat} (hz:z=k) (h:k<L.length):(ud L)[z]? = some [vm L[k]]:=by
 subst hz
 unfold ud
 rw[List.getElem?_map,List.getElem?_eq_getElem h]
 rfl
namespace zb
theorem QF {P:zb} {tok:Int} {st n:Nat} {M:List Int}:∀(L:List Int) (marks:List (List Int)) (yP:List qq) (cur:List zN) (last:qq),(P.yY tok st n M L marks yP cur last).cur.length≤cur.length+L.length
 | [],_,_,_,_=>by simp[yY]
 | k::r,marks,yP,cur,last=>by
  rw[YK]
  split
  ·simp
  ·split
   ·simp
   ·have:=QF (P:=P) (tok:=tok) (st:=st) (n:=n) (M:=M) r (Zn marks (P.wV M k) tok st) (Wz marks yP (P.wV M k) tok st ((n:Int),k)) (cur++[(k,W9 marks (P.wV M k) tok st)]) ((n:Int),k)
    simp at this ⊢
    omega
theorem zgo {P:zb} {tok:Int} {st:Nat}:∀(f n:Nat) (marks:List (List Int)) (yP:List qq) (next:List (List zN)) (last:qq),(∀x∈next,x.length≤P.zI.length) →
  (∀x∈(P.YN tok st f n marks yP next last).next,x.length≤P.zI.length)∧(P.YN tok st f n marks yP next last).next.length≤next.length+f
 | 0,_,_,_,next,_,h=>⟨h,Nat.le_refl _⟩
 | f+1,n,marks,yP,next,last,h=>by
  simp only[YN]
  split
  ·split
   ·exact⟨h,zs⟩
   ·have hl:=QF (P:=P) (tok:=tok) (st:=st) (n:=n) (M:=marks.getD n []) (P.YL (marks.getD n [])) marks yP [] last
    have he:=P.znw (marks.getD n [])
    generalize P.yY tok st n (marks.getD n []) (P.YL (marks.getD n [])) marks yP [] last=R at hl
    obtain⟨g1,g2⟩:=zgo (P:=P) (tok:=tok) (st:=st) f (n+1) R.marks R.yP (next++[R.cur]) R.last λx hx=>by
     rcases List.mem_append.1 hx with hx|hx
     ·exact h x hx
     ·rw[List.mem_singleton] at hx;subst hx;exact Nat.le_trans hl (by rw[List.length_nil,Nat.zero_add];exact he)
    refine⟨g1,?_⟩
    rw[List.length_append,List.length_singleton] at g2
    omega
  ·exact⟨h,zs⟩
end zb
end
end
section
structure SpN (M:List (List Int)) (N:List (List zN)) (s:Nat):Prop where
 len:N.length=M.length
 pos:1≤M.length
 few:M.length≤200
 row:∀l∈N,l.length≤60
 edge:∀l∈N,∀x∈l,0≤x.1∧x.1<(s:Int)∧0≤x.2∧x.2<(M.length:Int)
 mark:∀m∈M,m.length≤30∧∀x∈m,0≤x
theorem SpN.rowAt {M:List (List Int)} {N:List (List zN)} {s:Nat} (h:SpN M N s) (i:Nat):(N.getD i []).length≤60:=by
 rw[List.getD_eq_getElem?_getD]
 cases e:N[i]? with
 | none=>simp
 | some l=>exact h.row l (List.mem_of_getElem? e)
theorem znH {l:List zN} {k:Nat} (h:k<l.length):l.getD k (0,0)∈l:=by
 rw[List.getD_eq_getElem?_getD,List.getElem?_eq_getElem h];exact List.getElem_mem h
theorem SpN.zqQ {M:List (List Int)} {N:List (List zN)} {s:Nat} (h:SpN M N s) {i k:Nat} (hk:k<(N.getD i []).length):0≤((N.getD i []).getD k (0,0)).1∧((N.getD i []).getD k (0,0)).1<(s:Int)∧0≤((N.getD i []).getD k (0,0)).2∧((N.getD i []).getD k (0,0)).2<(M.length:Int):=by
 have hm:=znH hk
 have hi:N.getD i []∈N:=by
  rw[List.getD_eq_getElem?_getD] at hk ⊢
  cases e:N[i]? with
  | none=>rw[e] at hk;simp at hk
  | some l=>exact List.mem_of_getElem? e
 exact h.edge _ hi _ hm
end
section
open Go.RowKit
theorem zc9 {L:List (List zN)} {z k:Nat} (hz:z=k) (h:k<L.length):(ud L)[z]? = some [vm (L.getD k [])]:=by
 rw[zvH hz h,List.getD_eq_getElem?_getD,List.getElem?_eq_getElem h]
 rfl
def zlp (M:List (List Int)) (N:List (List zN)):List D:=[ya M,.xj 1 (ud N)]
structure FndN (P:zb) (M:List (List Int)) (N:List (List zN)):Prop where
 sp:SpN M N P.zI.length
 steps:P.yK=0
end
section
open Go.RowKit
def Yz (N:List (List zN)) (m:Nat):List Int:=gl m λt=>(x4 N t:Int)
def qB (N:List (List zN)) (m:Nat):List Int:=gl m λt=>(wN N t:Int)
theorem zmX (n:Nat) (g:Nat→Int):gl (n+1) g=gl n g++[g n]:=by simp[gl,List.range_succ]
def zfr (N:List (List zN)) (m k:Nat):List zN:=((N.getD m []).take k).map λx=>(x.1,(m:Int))
theorem zn1 (N:List (List zN)) (m:Nat):zfr N m 0=[]:=by simp[zfr]
theorem zn6 {N:List (List zN)} {m k:Nat} (h:k<(N.getD m []).length):zfr N m (k+1)=zfr N m k++[(((N.getD m []).getD k (0,0)).1,(m:Int))]:=by
 unfold zfr
 rw[List.take_add_one,List.getElem?_eq_getElem h,List.getD_eq_getElem?_getD (l:=N.getD m []),List.getElem?_eq_getElem h,List.map_append]
 rfl
theorem zrE {N:List (List zN)} {m k:Nat} (h:k≤(N.getD m []).length):(zfr N m k).length=k:=by
 simp only[zfr,List.length_map,List.length_take];omega
theorem XV (N:List (List zN)) (m:Nat):(wz N m).length=x4 N m:=rfl
theorem zoC (N:List (List zN)) (m:Nat):wz N (m+1)=if (N.getD m []).length=0 then wz N m++[(-1,(m:Int))] else wz N m++zfr N m (N.getD m []).length:=by
 simp only[wz,QC,zfr,List.take_length]
 split<;>rfl
theorem zwh {N:List (List zN)} {c:Nat} (h:∀i,(N.getD i []).length≤c) (hc:1≤c):∀m,x4 N m≤c*m
 | 0=>by simp[x4,wz]
 | m+1=>by
  rw[qe,qH,Nat.mul_succ]
  have:=zwh h hc m
  have:=h m
  split<;>omega
theorem US {M:List (List Int)} {N:List (List zN)} {s:Nat} (h:SpN M N s) {m:Nat} (hm:m≤N.length):x4 N m≤12000:=by
 have h1:=zwh (N:=N) (c:=60) h.rowAt zo m
 have:=h.few
 have:=h.len
 omega
theorem zeN {M:List (List Int)} {N:List (List zN)} {s:Nat} (h:SpN M N s) (m:Nat):wN N m≤60:=by
 rw[qH]
 have:=h.rowAt m
 split<;>omega
theorem zsh (N:List (List zN)) (m:Nat):max (1:Int) ((N.getD m []).length:Int)=(wN N m:Int):=by
 rw[qH]
 split<;>omega
def zfh (L:List yi) (M:List (List Int)) (N:List (List zN)) (o a y:D):List D :=
 [ZG L,ya M,.xj 1 (ud N),o,a,y,.sc (.slice none 0 0),.sc (.slice none 0 0),.sc (.slice none 0 0),.sc (.slice none 0 0)]
def zBP:PC:=.seq (OP [Bi 35 .lss 34 33]) (.seq (.cond 35 .skip (.exit 2)) (.seq (.block 3 (.seq (OP [Ia 36 2 32 34,LA 37 2 36,q 6 (.alloc [(.int .i64 0),(.int .i64 0)]),So 2 6 37]) (.ops [qm 38 0,qm 39 0,qd 40 (.zn 39) 2,qd 41 (.zz 3 40) 6,qd 42 (.zg 41) 14,Fa 43 0 6,qd 44 (.zg 43) 32,qm 45 3,qd 46 (.build [(.int .i64 0),(.int .i64 0)] [(0,1,44),(1,1,45)]) 224,qd 47 (.xe 2 1 [46]) 480,qd 48 (.append 2 16 42 47) 1022,qd 49 (.zn 38) 2047,qd 50 (.zz 3 49) 4095,qk (.store 1 50 48) 8191] true))) (OP [Bi 51 .add 34 (cI 1),qm 34 51])))
def zAw:PC:=.seq (OP [Bi 14 .lss 13 12]) (.seq (.cond 14 .skip (.exit 0)) (.seq (.block 1 (.seq (OP [qm 15 13,Ia 16 1 11 13,Lo 17 16,qm 3 15,qm 4 17]) (.seq (.ops [qm 18 0,qm 19 0,qd 20 (.zn 19) 2,qd 21 (.zz 4 20) 6,qd 22 (.zg 21) 14,qm 23 0,qd 24 (.zn 23) 32,qd 25 (.zz 3 24) 96,qd 26 (.zg 25) 224,qd 27 (.len 26) 480,qd 28 (.xe 1 1 [27]) 992,qd 29 (.append 1 8 22 28) 2046,qd 30 (.zn 18) 4095,qd 31 (.zz 4 30) 8191,qk (.store 1 31 29) 16383] true) (.seq (.seq (OP [qm 32 4,Ln 33 32,Mv 34 (cI 0)]) (.block 2 (.loop zBP))) (.seq (.seq (OP [qm 52 4,Ln 53 52,Bi 54 .eql 53 (cI 0)]) (.cond 54 (OP [qm 55 0,qm 56 0,q 57 (.zn 56),Fa 58 3 57,Lo 59 58,qm 60 3,q 61 (.build [(.int .i64 0),(.int .i64 0)] [(0,1,(cI (-1))),(1,1,60)]),Bs 62 2 1 [61],Ap 63 2 16 59 62,q 64 (.zn 55),Fa 65 3 64,So 1 65 63]) .skip)) (OP [qm 66 0,qm 67 0,q 68 (.zn 67),Fa 69 5 68,Lo 70 69,qm 71 4,Ln 72 71,q 73 (.mx true (cI 1) 72),Bs 74 1 1 [73],Ap 75 1 8 70 74,q 76 (.zn 66),Fa 77 5 76,So 1 77 75])))))) (OP [Bi 78 .add 13 (cI 1),qm 13 78])))
def c20:PC:=.seq (OP [Mv 2 cF]) (.seq (.seq (OP [qm 7 0,q 8 (.zn 7),Fa 9 1 8,Fa 10 1 9,Lo 11 10,Ln 12 11,Mv 13 (cI 0)]) (.block 0 (.loop zAw))) (.seq (OP [qm 79 0,q 80 (.zn 79),Fa 81 3 80,Lo 82 81,Ln 83 82,Bi 84 .leq 83 (cI 600),qm 2 84]) .ret))
theorem zxt:zy Tryz.prog 20 85 [.tmp 2] c20:=fK Tryz.func20
theorem zjG (L:List yi) (M:List (List Int)) (N:List (List zN)) (s:Nat) (hS:SpN M N s) :
  yu Tryz.prog 20 [.loc 0 0] [.row true (zfh L M N (.sc (.slice none 0 0)) (.sc (.slice none 0 0)) (.sc (.slice none 0 0)))] (.sc (.bool (decide ((x4 N N.length:Int)≤600))))
   [.row true (zfh L M N (.own 1 (x4 N N.length) 0 (x4 N N.length)) (.own 2 N.length 0 N.length) (.own 3 N.length 0 N.length)),.vec true (x4 N N.length) 2 (wm (wz N N.length)),.vec true N.length 1 (zL (Yz N N.length)),.vec true N.length 1 (zL (qB N N.length))]:=by
 have hf:=hS.few
 have hl:=hS.len
 refine z1 zxt zs zs ?_ (by simp[zt]) (by simp[zf.under,zfh,zl,zt])
 unfold zfh
 refine sR ?_
 rw[zo1]
 refine zG (wT (yV 0 3 2 zs rfl rfl) (wT (yV 0 4 1 zs rfl rfl) (yV 0 5 1 zs rfl rfl))) ?_
 refine z8 [0,11,12] (λ((m,a):Nat × Nat)=>[(13,.sc (.int .i64 m))])
  (λ(m,a)=>[.row true [ZG L,ya M,.xj 1 (ud N),.own 1 a 0 a,.own 2 m 0 m,.own 3 m 0 m,.sc (.slice none 0 0),.sc (.slice none 0 0),.sc (.slice none 0 0),.sc (.slice none 0 0)],.vec true a 2 (wm (wz N m)),.vec true m 1 (zL (Yz N m)),.vec true m 1 (zL (qB N m))])
  (λ(m,a)=>m≤N.length∧a=x4 N m) (λ(m,a)=>N.length-m) (0,0) ?_
 refine sW ?_
 refine⟨⟨zo,rfl⟩,by exact sK,rfl,?_⟩
 rintro⟨m,a⟩ ⟨hm,ha⟩
 have haS:=US hS hm
 refine sW ?_
 refine sR ?_
 refine sS (λh1=>?_) λh1=>?_
 ·have hm':m<N.length:=sO
  have lx:=hS.rowAt m
  have la1:Yz N (m+1)=Yz N m++[(x4 N m:Int)]:=zmX _ _
  have la2:qB N (m+1)=qB N m++[(wN N m:Int)]:=zmX _ _
  have e1:=zoC N m
  have e2:=qe N m
  have e3:=qH N m
  have e4:=zsh N m
  have xL:=λk (hk:k<(N.getD m []).length)=>zn6 hk
  have hinl:=λk (hk:k≤(N.getD m []).length)=>zrE hk
  have l1:(Yz N m).length=m:=by simp[Yz]
  have l2:(qB N m).length=m:=by simp[qB]
  have l3:(wz N m).length=a:=by rw[ha];rfl
  have hin0:=zn1 N m
  have hmp:=zeN hS m
  refine sL (zc9 (L:=N) (k:=m) zo hm') ?_
  generalize N.getD m []=l at *
  refine sJ ?_
  rw[Z7]
  refine z8 [0,3,4,11,12,13,32,33] (λ((k,c):Nat × Nat)=>[(34,.sc (.int .i64 k))])
   (λ(k,c)=>[.row true [ZG L,ya M,.xj 1 (ud N),.own 1 c 0 c,.own 2 (m+1) 0 (m+1),.own 3 m 0 m,.sc (.slice none 0 0),.sc (.slice none 0 0),.sc (.slice none 0 0),.sc (.slice none 0 0)],.vec true c 2 (wm (wz N m++zfr N m k)),.vec true (m+1) 1 (zL (Yz N m++[(x4 N m:Int)])),.vec true m 1 (zL (qB N m)),.vec true 0 1 [[.sc (.int .i64 a)]]])
   (λ(k,c)=>k≤l.length∧c=a+k) (λ(k,c)=>l.length-k) (0,a) ?_
  refine sW ?_
  refine⟨⟨zo,rfl⟩,by exact sK,?_,?_⟩
  ·have hx:List.drop 0 (List.take m (zL (Yz N m)))++[[D.sc (.int .i64 ((a-0:Nat):Int))]]=zL (Yz N m++[(x4 N m:Int)]):=by rw[uo l1.symm,Nat.sub_zero,ha]
   dsimp only
   rw[hin0,List.append_nil,←hx]
   rfl
  rintro⟨k,c⟩ ⟨hk,hc⟩
  have hil:=hinl k hk
  refine sW ?_
  refine sR ?_
  refine sS (λh2=>?_) λh2=>?_
  ·have hk':k<l.length:=sO
   have hi1:=xL k hk'
   refine sL (uv (k:=k) zo hk') ?_
   generalize l.getD k (0,0)=x at hi1
   refine sJ ?_
   refine sI ?_
   refine⟨(k+1,c+1),⟨zo,zo⟩,zd,?_⟩
   dsimp only
   rw[hi1]
   refine zj 5 zs rfl sQ (sU ?_)
   rw[←List.append_assoc]
   exact zp (Wi (by rw[List.length_append,l3,hil,hc]))
  ·have hk':k=l.length:=by have:¬k<l.length:=sO
                           omega
   subst hk'
   rw[Z7]
   refine sS (λh3=>?_) λh3=>?_
   ·have h3:l.length=0:=sO
    rw[if_pos h3] at e1 e3
    refine sJ ?_
    rw[Z7,e4]
    refine sJ ?_
    refine sI ?_
    refine⟨(m+1,c+1),⟨zo,zo⟩,zd,?_⟩
    dsimp only
    rw[la1,la2,e1]
    (refine zj 4 zs rfl ?_ ?_<;>(repeat' (first|exact trivial|exact rfl|exact yc.refl _|exact zQ.refl _|exact zK.refl _|refine And.intro ?_ ?_|(simp[zt,zl,zF,-List.map_take,-List.map_drop];done))))
    ·refine zp ?_
     rw[h3,hin0,List.append_nil]
     exact Wi zo
    ·exact zp (uo l2.symm)
   ·have h3:¬l.length=0:=sO
    rw[if_neg h3] at e1 e3
    rw[Z7,e4]
    refine sJ ?_
    refine sI ?_
    refine⟨(m+1,c),⟨zo,zo⟩,zd,?_⟩
    dsimp only
    rw[la1,la2,e1]
    refine zj 4 zs rfl sQ (sU ?_)
    exact zp (uo l2.symm)
 ·have hm':m=N.length:=by have:¬m<N.length:=sO
                          omega
  subst hm'
  subst ha
  rw[Nat.sub_zero]
  exact⟨rfl,rfl,Nat.le_refl _⟩
def JN (l:List Int):List (List D):=l.map λn=>[.sc (.int .u64 n)]
theorem zbs (l:List Int):yE (JN l):=zC _ (λl=>by simp[ze,Pure]) l
@[simp] theorem zva {m:Nat} (l:List Int):zF m (JN l)↔True:=⟨λ_=>trivial,λ_=>zh _ (zbs l)⟩
theorem zog {l:List Int} {c:Nat} {x:Int} (h:c=l.length):List.drop 0 (List.take c (JN l))++[[D.sc (.int .u64 x)]]=JN (l++[x]):=by
 rw[List.drop_zero,List.take_of_length_le (by simp[h,JN])]
 simp[JN]
def ZQ (L:List yi) (M:List (List Int)) (N:List (List zN)) (dS:D) (a x b y c z:Nat):List D :=
 [ZG L,ya M,.xj 1 (ud N),vm (wz N N.length),zB (Yz N N.length),zB (qB N N.length),dS,.own a x 0 x,.own b y 0 y,.own c z 0 z]
def xW (L:List yi) (M:List (List Int)) (N:List (List zN)) (dS:D) (x y z:Nat) (X:List (List Int)) (Y:List Int) (Z:List (List Int)):List zf :=
 [.row true (ZQ L M N dS 1 x 2 y 3 z),.vec true x 1 (uf X),.vec true y 1 (JN Y),.vec true z 1 (uf Z)]
theorem zqJ {ρ:Nat→Nat} {L:List yi} {M:List (List Int)} {N:List (List zN)} {dS:D} (hd:Pure dS) {a x b y c z:Nat}:yG ρ (ZQ L M N dS a x b y c z)=ZQ L M N dS (ρ a) x (ρ b) y (ρ c) z:=by
 have h1:=yH (ρ:=ρ) _ (uK L)
 have h2:=yH (ρ:=ρ) _ (z7 M)
 have h3:=yH (ρ:=ρ) (.xj 1 (ud N)) (by simp only[Pure];exact qX N)
 have h4:=yH (ρ:=ρ) _ (vf (wz N N.length))
 have h5:=yH (ρ:=ρ) _ (zi (Yz N N.length))
 have h6:=yH (ρ:=ρ) _ (zi (qB N N.length))
 have h7:=yH (ρ:=ρ) _ hd
 unfold ZQ
 simp only[yG,h1,h2,h3,h4,h5,h6,h7]
 rfl
theorem zlI {k:Nat} {L:List yi} {M:List (List Int)} {N:List (List zN)} {dS:D} (hd:Pure dS) {a x b y c z:Nat} (ha:a<k) (hb:b<k) (hc:c<k):zl k (ZQ L M N dS a x b y c z):=by
 have h1:=zw (m:=k) _ (uK L)
 have h2:=zw (m:=k) _ (z7 M)
 have h3:=zw (m:=k) (.xj 1 (ud N)) (by simp only[Pure];exact qX N)
 have h4:=zw (m:=k) _ (vf (wz N N.length))
 have h5:=zw (m:=k) _ (zi (Yz N N.length))
 have h6:=zw (m:=k) _ (zi (qB N N.length))
 have h7:=zw (m:=k) _ hd
 unfold ZQ
 exact⟨h1,h2,h3,h4,h5,h6,h7,ha,hb,hc,trivial⟩
theorem zaa {k:Nat} (hk:4≤k) {L:List yi} {M:List (List Int)} {N:List (List zN)} {dS:D} (hd:Pure dS) {x y z:Nat} {X:List (List Int)} {Y:List Int} {Z:List (List Int)}:wD k (xW L M N dS x y z X Y Z) :=
 ⟨zlI hd zo zo zo,by simp[zf.under],by simp[zf.under],by simp[zf.under],trivial⟩
theorem Zc {L:List yi} {M:List (List Int)} {N:List (List zN)} {dS:D} (hd:Pure dS) {x y z:Nat} {X:List (List Int)} {Y:List Int} {Z:List (List Int)} {G R:List zf}:Wy 4 G (xW L M N dS x y z X Y Z++R) (xW L M N dS x y z X Y Z) :=
 y5 _ _ λo ho=>qT (zaa (Nat.le_refl _) hd) o ho
theorem JT {f:FuncId} {rest:List D} {d:D} {L:List yi} {M:List (List Int)} {N:List (List zN)} {dS:D} (hd:Pure dS) {x y z:Nat} {X:List (List Int)} {Y:List Int} {Z:List (List Int)}
  (hA:yu Tryz.prog f (.loc 0 0::rest) (xW L M N dS x y z X Y Z) d (xW L M N dS x y z X Y Z)) (hr:ze rest) (hp:Pure d) {H:List zf} (m a b c:Nat) (hn:[m,a,b,c].Nodup)
  (h0:H[m]? = some (.row true (ZQ L M N dS a x b y c z))) (h1:H[a]? = some (.vec true x 1 (uf X))) (h2:H[b]? = some (.vec true y 1 (JN Y))) (h3:H[c]? = some (.vec true z 1 (uf Z))):zgC Tryz.prog f (.loc m 0::rest) H d [m,a,b,c]:=by
 refine ziw hA [m,a,b,c] rfl hn ⟨by simp[zt,xW],zr _ hr⟩ (zaa (Nat.le_refl _) hd) (by simp only[yG,xa _ hr];rfl) (yH _ hp) (λi o ho=>?_) m zs h0 zs (λid hid=>?_)
 ·have key:∀{i:Nat} {q p:zf},(xW L M N dS x y z X Y Z)[i]? = some q→H[[m,a,b,c].getD i 0]? = some p→q.yI (λi=>[m,a,b,c].getD i 0)=p→(xW L M N dS x y z X Y Z)[i]? = some o→H[[m,a,b,c].getD i 0]? = some (o.yI λi=>[m,a,b,c].getD i 0):=λk1 k2 k3 k4=>by
   rw[k1] at k4
   cases k4
   rw[k3];exact k2
  match i with
  | 0=>exact key rfl h0 (by simp only[zf.yI,zqJ hd];rfl) ho
  | 1=>exact key rfl h1 (by simp only[zf.yI,yw _ (XA X)]) ho
  | 2=>exact key rfl h2 (by simp only[zf.yI,yw _ (zbs Y)]) ho
  | 3=>exact key rfl h3 (by simp only[zf.yI,yw _ (XA Z)]) ho
  | i+4=>simp[xW] at ho
 ·simp only[List.mem_cons,List.not_mem_nil,or_false] at hid
  rcases hid with rfl|rfl|rfl|rfl
  ·exact .inl rfl
  ·exact .inr ⟨x,0,x,by simp[ZQ]⟩
  ·exact .inr ⟨y,0,y,by simp[ZQ]⟩
  ·exact .inr ⟨z,0,z,by simp[ZQ]⟩
theorem zmJ (v:Value):Pure (.sc v):=by simp[Pure]
def zA6:PC:=.seq (OP [Bi 15 .lss 14 13]) (.seq (.cond 15 .skip (.exit 0)) (.seq (.block 1 (.seq (OP [qm 16 14,qm 6 16]) (OP [qm 17 5,qm 18 0,q 19 (.zn 18),Fa 20 4 19,Lo 21 20,qm 22 1,Ia 23 1 21 22,Lo 24 23,qm 25 6,Bi 26 .add 24 25,Bs 27 1 1 [26],Ap 28 1 8 17 27,qm 5 28]))) (OP [Bi 29 .add 14 (cI 1),qm 14 29])))
def c23:PC:=.seq (OP [Mv 4 cN]) (.seq (OP [Mv 5 cN]) (.seq (.seq (OP [qm 7 0,q 8 (.zn 7),Fa 9 5 8,Lo 10 9,qm 11 1,Ia 12 1 10 11,Lo 13 12,Mv 14 (cI 0)]) (.block 0 (.loop zA6))) (.seq (OP [qm 30 5,qm 4 30]) .ret)))
theorem zxD:zy Tryz.prog 23 31 [.tmp 4] c23:=fK Tryz.func23
theorem zoM {N:List (List zN)} {t k:Nat} (h:k<wN N t):(Xc N t).take (k+1)=(Xc N t).take k++[((x4 N t+k:Nat):Int)]:=by
 have hl:=UR N t
 rw[List.take_add_one,List.getElem?_eq_getElem zo]
 simp[Xc]
theorem zki (L:List yi) (M:List (List Int)) (N:List (List zN)) (s:Nat) (hS:SpN M N s) (dS:D) (hd:Pure dS) (x y z:Nat) (X:List (List Int)) (Y:List Int) (Z:List (List Int)) (t:Nat) (ht:t<N.length):yu Tryz.prog 23 [.loc 0 0,.sc (.int .i64 t)] (xW L M N dS x y z X Y Z) (zB (Xc N t)) (xW L M N dS x y z X Y Z):=by
 have hf:=hS.few
 have hl:=hS.len
 have ha:=US hS (m:=t) zo
 have hm:=zeN hS t
 have hal:=UR N t
 refine wI zxD zs (by simp[xW]) ?_ (by simp[zt])
 unfold xW ZQ
 refine sR ?_
 refine sL (yb (l:=qB N N.length) (k:=t) zo (by simpa [qB] using ht)) ?_
 rw[show(qB N N.length).getD t 0=(wN N t:Int) from Qe ht]
 refine zG (xr 5 1 zs rfl) ?_
 refine zO [0,1,13] (λk:Nat=>[(5,.own 4 k 0 k),(14,.sc (.int .i64 k))]) (λk=>[(4,.vec true k 1 (zL ((Xc N t).take k)))]) (λk=>k≤wN N t) (λk=>wN N t-k) 0 ?_
 refine sW ?_
 refine⟨zo,by exact sK,rfl,?_⟩
 rintro k hk
 refine sW ?_
 refine sR ?_
 refine sS (λh1=>?_) λh1=>?_
 ·have hk':k<wN N t:=sO
  refine sL (yb (l:=Yz N N.length) (k:=t) zo (by simpa [Yz] using ht)) ?_
  rw[show(Yz N N.length).getD t 0=(x4 N t:Int) from Qe ht]
  refine sI ?_
  refine sJ ?_
  refine sI ?_
  refine⟨k+1,zo,zd,?_⟩
  dsimp only
  rw[zoM hk']
  have e:(x4 N t:Int)+(k:Int)=((x4 N t+k:Nat):Int):=zo
  rw[e]
  have hlt:((Xc N t).take k).length=k:=by rw[List.length_take];omega
  (refine zj 5 zs rfl ?_ ?_<;>(repeat' (first|exact trivial|exact rfl|exact yc.refl _|exact zQ.refl _|exact zK.refl _|refine And.intro ?_ ?_|(simp[zt,zl,zF,-List.map_take,-List.map_drop];done))))
  ·exact zw _ hd
  ·exact zp (uo hlt.symm)
 ·have hk':k=wN N t:=by have:¬k<wN N t:=sO
                        omega
  subst hk'
  rw[List.take_of_length_le zo]
  exact⟨.own _ _ _ _ _ _ _ _ rfl rfl (zp (zu (by simp[zL];omega))),Zc hd⟩
theorem zzE {l:List zN} {k:Nat} (h:k<l.length):l[k]? = some (l.getD k (0,0)):=by
 rw[List.getD_eq_getElem?_getD,List.getElem?_eq_getElem h];rfl
theorem zwe {N:List (List zN)} {m k:Nat} (h0:(N.getD m []).length≠0) (hk:k<wN N m):(QC N m).getD k (0,0)=(((N.getD m []).getD k (0,0)).1,(m:Int))∧(JU N m).getD k 0=((N.getD m []).getD k (0,0)).2:=by
 rw[qH,if_neg h0] at hk
 unfold QC JU
 rw[if_neg h0,if_neg h0]
 constructor
 ·rw[List.getD_eq_getElem?_getD,List.getElem?_map,zzE hk]
  rfl
 ·rw[List.getD_eq_getElem?_getD,List.getElem?_map,zzE hk]
  rfl
theorem zml {N:List (List zN)} {m:Nat} (h0:(N.getD m []).length=0):(QC N m).getD 0 (0,0)=(-1,(m:Int))∧(JU N m).getD 0 0=(m:Int):=by
 unfold QC JU
 rw[if_pos h0,if_pos h0]
 exact⟨rfl,rfl⟩
def c21:PC:=.seq (OP [Mv 4 cN]) (.seq (OP [qm 6 0,q 7 (.zn 6),Fa 8 3 7,Lo 9 8,qm 10 1,Ia 11 2 9 10,LA 12 2 11,q 5 (.alloc [(.int .i64 0),(.int .i64 0)]),So 2 5 12]) (.seq (.seq (OP [Fa 13 0 5,Lo 14 13,Bi 15 .lss 14 (cI 0)]) (.cond 15 (.seq (OP [qm 16 1,Bs 17 1 1 [16],qm 4 17]) .ret) .skip)) (.seq (.ops [qm 18 0,qm 19 0,qd 20 (.zn 19) 2,qd 21 (.zz 1 20) 6,qd 22 (.zz 1 21) 14,qd 23 (.zg 22) 30,Fa 24 1 5,qd 25 (.zg 24) 64,qd 26 (.zM 1 23 25) 254,qd 27 (.zg 26) 510,qm 28 1,qm 29 0,qd 30 (.zn 29) 2048,qd 31 (.zz 4 30) 6144,qd 32 (.zg 31) 14336,Fa 33 1 5,qd 34 (.zg 33) 32768,qd 35 (.zM 1 32 34) 129024,qd 36 (.zg 35) 260096,qd 37 (.bin .sub 28 36) 523264,qd 38 (.zM 2 27 37) 1048574,qd 39 (.zz 1 38) 2097150,qd 40 (.zg 39) 4194302,qd 41 (.call 23 [18,40]) 8388607,qw 4 41 16777215] true) .ret)))
theorem zy8:zy Tryz.prog 21 42 [.tmp 4] c21:=fK Tryz.func21
theorem zoH (L:List yi) (M:List (List Int)) (N:List (List zN)) (s:Nat) (hS:SpN M N s) (dS:D) (hd:Pure dS) (x y z:Nat) (X:List (List Int)) (Y:List Int) (Z:List (List Int)) (m k:Nat) (hm:m<N.length) (hk:k<wN N m):yu Tryz.prog 21 [.loc 0 0,.sc (.int .i64 ((x4 N m+k:Nat):Int))] (xW L M N dS x y z X Y Z) (zB (Xc N ((JU N m).getD k 0).toNat)) (xW L M N dS x y z X Y Z):=by
 have hf:=hS.few
 have hl:=hS.len
 have ha:=US hS (m:=m+1) zo
 have ha':=We (N:=N) (show m+1≤N.length by omega)
 have hsu:=qe N m
 have hol:=XV N N.length
 have hat:=JX hk N.length hm
 have hall:=λt (ht:t<N.length)=>zki L M N s hS dS hd x y z X Y Z t ht
 refine wI zy8 zs (by simp[xW]) ?_ (by simp[zt])
 by_cases h0:(N.getD m []).length=0
 ·have hk0:k=0:=by rw[qH,if_pos h0] at hk;omega
  subst hk0
  obtain⟨e1,e2⟩:=zml h0
  rw[e2,Int.toNat_natCast,zv7 h0]
  rw[e1] at hat
  unfold xW ZQ
  refine sR ?_
  refine⟨zo,_,uv (l:=wz N N.length) (k:=x4 N m+0) zo zo,?_⟩
  rw[hat]
  refine sW ?_
  exact⟨.own _ _ _ _ _ _ _ _ rfl rfl (.refl _),Zc hd⟩
 ·obtain⟨e1,e2⟩:=zwe h0 hk
  rw[e1] at hat
  have hk':k<(N.getD m []).length:=by rw[qH,if_neg h0] at hk;exact hk
  have he:=hS.zqQ hk'
  have hrd:=zc9 (L:=N) (z:=(m:Int).toNat) (k:=m) zo hm
  have hpr:=uv (l:=N.getD m []) (z:=k) (k:=k) rfl hk'
  rw[e2]
  generalize (N.getD m []).getD k (0,0)=e at *
  have hA:=hall e.2.toNat zo
  rw[show((e.2.toNat:Nat):Int)=e.2 by omega] at hA
  unfold xW ZQ
  refine sR ?_
  refine⟨zo,_,uv (l:=wz N N.length) (k:=x4 N m+k) zo zo,?_⟩
  rw[hat]
  refine sW ?_
  refine sS (λh1=>?_) λh1=>?_
  ·exfalso;exact sO
  refine sL (hrd) ?_
  refine sL (yb (l:=Yz N N.length) (k:=m) zo (by simpa [Yz] using hm)) ?_
  rw[show(Yz N N.length).getD m 0=(x4 N m:Int) from Qe hm]
  refine sI ?_
  refine sL ((show(wm (N.getD m []))[(((x4 N m+k:Nat):Int)-(x4 N m:Int)).toNat]? = _ by rw[show(((x4 N m+k:Nat):Int)-(x4 N m:Int)).toNat=k by omega];exact hpr)) ?_
  refine sX (JT hd hA (by simp[ze,Pure]) (zi _) 0 1 2 3 zc rfl rfl rfl rfl) ?_
  exact⟨.refl _,Zc hd⟩
def zha (L:List yi) (z:Int):Int:=if z<0 then 9223372036854775808 else 2^(L.getD z.toNat (0,0,0)).1.toNat
theorem zrZ {z:Int} {k:Nat} (hk:z=k) (h:k≤63):(1:Int)*2^min z.toNat IntKind.u64.bits=2^k:=by
 subst hk
 rw[Int.toNat_natCast,Int.one_mul,Nat.min_eq_left (by show k≤64;omega)]
theorem zsj {k:Nat} (h:k≤63):InR .u64 ((2:Int)^k):=by
 have h1:=zai k
 have h2:=zdb (k:=k) (n:=63) h
 have h3:(2:Int)^63=9223372036854775808:=zc
 unfold InR IntKind.wrap
 simp only[IntKind.bits,IntKind.signed]
 have h4:(2:Int)^64=18446744073709551616:=zc
 simp
 omega
def c22:PC:=.seq (OP [q 4 (.move (.const (.int .u64 0)))]) (.seq (.seq (OP [qm 5 0,q 6 (.zn 5),Fa 7 3 6,Lo 8 7,qm 9 1,Ia 10 2 8 9,Fa 11 0 10,Lo 12 11,Bi 13 .lss 12 (cI 0)]) (.cond 13 (.seq (OP [q 4 (.move (.const (.int .u64 9223372036854775808)))]) .ret) .skip)) (.seq (.ops [qm 14 0,qd 15 (.zn 14) 1,qd 16 (.zz 0 15) 3,qd 17 (.zg 16) 7,qm 18 0,qd 19 (.zn 18) 16,qd 20 (.zz 3 19) 48,qd 21 (.zg 20) 112,qm 22 1,qd 23 (.zM 2 21 22) 496,qd 24 (.zz 0 23) 1008,qd 25 (.zg 24) 2032,qd 26 (.zM 3 17 25) 4095,qd 27 (.zz 0 26) 8191,qd 28 (.zg 27) 16383,qd 29 (.bin .shl (.const (.int .u64 1)) 28) 32767,qw 4 29 65535] true) .ret))
theorem zxv:zy Tryz.prog 22 30 [.tmp 4] c22:=fK Tryz.func22
theorem zlv (L:List yi) (M:List (List Int)) (N:List (List zN)) (s:Nat) (hS:SpN M N s) (dS:D) (hd:Pure dS) (x y z:Nat) (X:List (List Int)) (Y:List Int) (Z:List (List Int)) (hL:∀j,j<L.length→0≤(L.getD j (0,0,0)).1∧(L.getD j (0,0,0)).1≤63) (hs:s=L.length) (m k:Nat) (hm:m<N.length) (hk:k<wN N m):yu Tryz.prog 22 [.loc 0 0,.sc (.int .i64 ((x4 N m+k:Nat):Int))] (xW L M N dS x y z X Y Z) (.sc (.int .u64 (zha L ((QC N m).getD k (0,0)).1))) (xW L M N dS x y z X Y Z):=by
 have hf:=hS.few
 have hl:=hS.len
 have ha:=US hS (m:=m+1) zo
 have ha':=We (N:=N) (show m+1≤N.length by omega)
 have hsu:=qe N m
 have hol:=XV N N.length
 have hat:=JX hk N.length hm
 refine wI zxv zs (by simp[xW]) ?_ (by simp[zt])
 by_cases h0:(N.getD m []).length=0
 ·have hk0:k=0:=by rw[qH,if_pos h0] at hk;omega
  subst hk0
  obtain⟨e1,e2⟩:=zml h0
  rw[e1]
  rw[e1] at hat
  unfold xW ZQ
  refine sR ?_
  refine⟨zo,_,uv (l:=wz N N.length) (k:=x4 N m+0) zo zo,?_⟩
  rw[hat]
  refine sW ?_
  exact⟨.refl _,Zc (R:=[]) hd⟩
 ·obtain⟨e1,e2⟩:=zwe h0 hk
  rw[e1] at hat ⊢
  have hk':k<(N.getD m []).length:=by rw[qH,if_neg h0] at hk;exact hk
  have he:=hS.zqQ hk'
  generalize (N.getD m []).getD k (0,0)=e at *
  have hnode:=hL e.1.toNat zo
  have e3:zha L e.1=2^(L.getD e.1.toNat (0,0,0)).1.toNat:=by unfold zha;rw[if_neg zo]
  unfold xW ZQ
  refine sR ?_
  refine⟨zo,_,uv (l:=wz N N.length) (k:=x4 N m+k) zo zo,?_⟩
  rw[hat]
  refine sW ?_
  refine sS (λh1=>?_) λh1=>?_
  ·exfalso;exact sO
  refine⟨zo,_,uv (l:=wz N N.length) (k:=x4 N m+k) zo zo,?_⟩
  rw[hat]
  refine sW ?_
  refine sL (zao (k:=e.1.toNat) zo zo) ?_
  generalize L.getD e.1.toNat (0,0,0)=st at *
  refine⟨zo,?_⟩
  rw[zrZ (k:=st.1.toNat) zo zo,←e3]
  refine .inl ⟨by rw[e3];exact zsj zo,?_⟩
  refine sW ?_
  exact⟨.refl _,Zc (R:=[]) hd⟩
def zBp:PC:=.seq (OP [Bi 32 .lss 31 30]) (.seq (.cond 32 .skip (.exit 2)) (.seq (.block 3 (.seq (OP [Ia 33 2 29 31,LA 34 2 33,q 10 (.alloc [(.int .i64 0),(.int .i64 0)]),So 2 10 34]) (OP [qm 35 8,qm 36 35,GF 37 36 (.zz 0 10),GF 38 36 (.zg 37),GF 39 36 (.move 1),GF 40 36 (.bin .eql 38 39),Pk 41 36 cT 40,qm 8 41]))) (OP [Bi 42 .add 31 (cI 1),qm 31 42])))
def zA3:PC:=.seq (OP [Bi 17 .lss 16 15]) (.seq (.cond 17 .skip (.exit 0)) (.seq (.block 1 (.seq (OP [qm 18 16,Ia 19 2 14 16,LA 20 2 19,q 7 (.alloc [(.int .i64 0),(.int .i64 0)]),qm 6 18,So 2 7 20]) (.seq (OP [Mv 8 cF]) (.seq (.seq (.ops [qm 21 0,qd 22 (.zn 21) 1,qd 23 (.zz 1 22) 3,qd 24 (.zz 1 23) 7,qd 25 (.zg 24) 15,Fa 26 1 7,qd 27 (.zg 26) 32,qd 28 (.zM 1 25 27) 127,qd 29 (.zg 28) 255,qd 30 (.len 29) 511,Mv 31 (cI 0)] true) (.block 2 (.loop zBp))) (.seq (OP [qm 43 8,Nt 44 43,qm 45 44,GF 46 45 (.zz 0 7),GF 47 45 (.zg 46),GF 48 45 (.move 1),GF 49 45 (.bin .eql 47 48),Pk 50 45 cT 49]) (.cond 50 (OP [qm 51 5,qm 52 6,Bs 53 1 1 [52],Ap 54 1 8 51 53,qm 5 54]) .skip)))))) (OP [Bi 55 .add 16 (cI 1),qm 16 55])))
def c24:PC:=.seq (OP [Mv 4 cN]) (.seq (OP [Mv 5 cN]) (.seq (.seq (OP [qm 11 0,q 12 (.zn 11),Fa 13 3 12,Lo 14 13,Ln 15 14,Mv 16 (cI 0)]) (.block 0 (.loop zA3))) (.seq (OP [qm 56 5,qm 4 56]) .ret)))
theorem zyn:zy Tryz.prog 24 57 [.tmp 4] c24:=fK Tryz.func24
theorem zpE (L:List yi) (M:List (List Int)) (N:List (List zN)) (s:Nat) (hS:SpN M N s) (dS:D) (hd:Pure dS) (x y z:Nat) (X:List (List Int)) (Y:List Int) (Z:List (List Int)) (st:Int):yu Tryz.prog 24 [.loc 0 0,.sc (.int .i64 st)] (xW L M N dS x y z X Y Z) (zB (qZ N (wz N N.length) st (x4 N N.length))) (xW L M N dS x y z X Y Z):=by
 have hf:=hS.few
 have hl:=hS.len
 have ha:=US hS (m:=N.length) zo
 have hol:=XV N N.length
 refine wI zyn zs (by simp[xW]) ?_ (by simp[zt])
 unfold xW ZQ
 refine sR ?_
 rw[Z7,hol]
 refine zG (xr 5 1 zs rfl) ?_
 refine zO [0,1,14,15] (λ((k,c,l):Nat × Nat × List Int)=>[(5,.own 4 c 0 c),(16,.sc (.int .i64 k))]) (λ(k,c,l)=>[(4,.vec true c 1 (zL l))]) (λ(k,c,l)=>k≤x4 N N.length∧c=l.length∧c≤k∧l=qZ N (wz N N.length) st k) (λ(k,c,l)=>x4 N N.length-k) (0,0,[]) ?_
 refine sW ?_
 refine⟨⟨zo,rfl,zo,rfl⟩,by exact sK,rfl,?_⟩
 rintro⟨k,c,l⟩ ⟨hk,hc,hck,hl'⟩
 refine sW ?_
 refine sR ?_
 refine sS (λh1=>?_) λh1=>?_
 ·have hk':k<x4 N N.length:=sO
  obtain⟨m,j,q1,q2,q3⟩:=zer hk'
  have hat:=JX q2 N.length q1
  rw[←q3] at hat
  have hmk:=zta q2
  have eT:qZ N (wz N N.length) st (k+1)=if zxl N ((wz N N.length).getD k (0,0)).2.toNat st=false∨((wz N N.length).getD k (0,0)).1=st then qZ N (wz N N.length) st k++[(k:Int)] else qZ N (wz N N.length) st k:=rfl
  refine⟨zo,_,uv (l:=wz N N.length) (k:=k) zo zo,?_⟩
  rw[hat] at eT ⊢
  generalize (QC N m).getD j (0,0)=e at eT hmk
  rw[hmk,Int.toNat_natCast,←hl'] at eT
  obtain⟨e1,e2⟩:=e
  dsimp only at hmk eT
  subst hmk
  refine sW ?_
  have lx:=hS.rowAt m
  refine sL (zc9 (L:=N) (k:=m) zo q1) ?_
  rw[Z7]
  refine zO [0,1,5,6,7,14,15,16,29,30] (λ((j,b):Nat × Bool)=>[(8,.sc (.bool b)),(31,.sc (.int .i64 j))]) (λ_=>[]) (λ(j,b)=>j≤(N.getD m []).length∧b=((N.getD m []).take j).any λy=>y.1==st) (λ(j,b)=>(N.getD m []).length-j) (0,false) ?_
  refine sW ?_
  refine⟨⟨zo,zs⟩,by exact sK,rfl,?_⟩
  rintro⟨j,b⟩ ⟨hj,hb⟩
  refine sW ?_
  refine sR ?_
  refine sS (λh2=>?_) λh2=>?_
  ·have hj':j<(N.getD m []).length:=sO
   refine sL (uv (k:=j) zo hj') ?_
   have hnx:((N.getD m []).take (j+1)).any (λy=>y.1==st)=(b||(((N.getD m []).getD j (0,0)).1==st)):=by
    rw[List.take_add_one,zzE hj',List.any_append,←hb]
    simp
   generalize (N.getD m []).getD j (0,0)=e at hnx
   cases b
   ·refine sW ?_
    refine sI ?_
    refine⟨(j+1,e.1==st),⟨zo,by rw[hnx];rfl⟩,zd,?_⟩
    refine zj 6 zs rfl sQ (sU ?_)
    exact zw _ hd
   ·refine sW ?_
    refine sI ?_
    refine⟨(j+1,true),⟨zo,by rw[hnx];rfl⟩,zd,?_⟩
    refine zj 6 zs rfl sQ (sU ?_)
    exact zw _ hd
  ·have hj':j=(N.getD m []).length:=by have:¬j<(N.getD m []).length:=sO
                                       omega
   subst hj'
   rw[List.take_length] at hb
   have hb:b=zxl N m st:=hb
   rw[←hb] at eT
   cases b
   ·refine sW ?_
    rw[if_pos (.inl rfl)] at eT
    refine sJ ?_
    refine sI ?_
    refine⟨(k+1,c+1,l++[(k:Int)]),⟨zo,by simp[hc],zo,eT.symm⟩,zd,?_⟩
    (refine zj 5 zs rfl ?_ ?_<;>(repeat' (first|exact trivial|exact rfl|exact yc.refl _|exact zQ.refl _|exact zK.refl _|refine And.intro ?_ ?_|(simp[zt,zl,zF,-List.map_take,-List.map_drop];done))))
    ·exact zw _ hd
    ·exact zp (uo hc)
   ·refine sW ?_
    refine sS (λh3=>?_) λh3=>?_
    ·have h3:e1=st:=sO
     rw[if_pos (.inr h3)] at eT
     refine sJ ?_
     refine sI ?_
     refine⟨(k+1,c+1,l++[(k:Int)]),⟨zo,by simp[hc],zo,eT.symm⟩,zd,?_⟩
     (refine zj 5 zs rfl ?_ ?_<;>(repeat' (first|exact trivial|exact rfl|exact yc.refl _|exact zQ.refl _|exact zK.refl _|refine And.intro ?_ ?_|(simp[zt,zl,zF,-List.map_take,-List.map_drop];done))))
     ·exact zw _ hd
     ·exact zp (uo hc)
    ·have h3:¬e1=st:=sO
     rw[if_neg (λq=>q.elim (λq=>by cases q) h3)] at eT
     refine sI ?_
     refine⟨(k+1,c,l),⟨zo,hc,zo,eT.symm⟩,zd,?_⟩
     refine zj 5 zs rfl sQ (sU ?_)
     exact zw _ hd
 ·have hk':k=x4 N N.length:=by have:¬k<x4 N N.length:=sO
                               omega
  subst hk'
  rw[←hl']
  exact⟨.own _ _ _ _ _ _ _ _ rfl rfl (zp (zu (by simp[zL];omega))),Zc hd⟩
end
section
open Go.RowKit
def ux (N:List (List zN)):List (List Int):=(zhH N N.length).map λt=>Xc N t.toNat
def Wd (L:List yi) (N:List (List zN)):List Int:=(wz N N.length).map λx=>zha L x.1
def YS (L:List yi) (N:List (List zN)):List (List Int):=(List.range L.length).map λ(k:Nat)=>qZ N (wz N N.length) (k:Int) (x4 N N.length)
theorem QZ (N:List (List zN)):(ux N).length=x4 N N.length:=by simp[ux,UK]
theorem zfZ (L:List yi) (N:List (List zN)):(Wd L N).length=x4 N N.length:=by simp[Wd,XV]
theorem ze5 (L:List yi) (N:List (List zN)):(YS L N).length=L.length:=by simp[YS]
theorem Jm {α β:Type} {f:α→β} {l:List α} {d:α} {i:Nat} (h:i<l.length):(l.map f).take (i+1)=(l.map f).take i++[f (l.getD i d)]:=by
 rw[List.take_add_one,List.getElem?_map,List.getElem?_eq_getElem h,List.getD_eq_getElem?_getD,List.getElem?_eq_getElem h]
 rfl
theorem zjA {N:List (List zN)} {m k:Nat} (hm:m<N.length) (hk:k<wN N m):(ux N).take (x4 N m+k+1)=(ux N).take (x4 N m+k)++[Xc N ((JU N m).getD k 0).toNat]:=by
 have h1:=We (N:=N) (show m+1≤N.length by omega)
 rw[qe] at h1
 unfold ux
 rw[Jm (d:=0) (by rw[UK];omega),zmO hk N.length hm]
theorem zlu {L:List yi} {N:List (List zN)} {m k:Nat} (hm:m<N.length) (hk:k<wN N m):(Wd L N).take (x4 N m+k+1)=(Wd L N).take (x4 N m+k)++[zha L ((QC N m).getD k (0,0)).1]:=by
 have h1:=We (N:=N) (show m+1≤N.length by omega)
 rw[qe] at h1
 unfold Wd
 rw[Jm (d:=(0,0)) (by rw[XV];omega),JX hk N.length hm]
theorem zir {L:List yi} {N:List (List zN)} {k:Nat} (h:k<L.length):(YS L N).take (k+1)=(YS L N).take k++[qZ N (wz N N.length) (k:Int) (x4 N N.length)]:=by
 unfold YS
 rw[Jm (d:=0) (by simpa using h)]
 simp[List.getD_eq_getElem?_getD,List.getElem?_range,h]
def zrF (l:List Int):D:=.xj 1 (JN l)
def zkA (start:List Int) (next:List (List Int)) (label:List Int) (fair:List (List Int)):D:=.agg [zB start,ya next,zrF label,ya fair]
theorem zk1 (l:List Int):Pure (zrF l):=by simp only[zrF,Pure];exact zbs l
theorem zfS (start:List Int) (next:List (List Int)) (label:List Int) (fair:List (List Int)):Pure (zkA start next label fair):=by simp[zkA,Pure,ze,zi,z7,zk1]
theorem zjb {ρ:Nat→Nat} {L:List yi} {M:List (List Int)} {N:List (List zN)} {o a y:D}:yG ρ (zfh L M N o a y)=zfh L M N (D.yI ρ o) (D.yI ρ a) (D.yI ρ y):=by
 have h1:=yH (ρ:=ρ) _ (uK L)
 have h2:=yH (ρ:=ρ) _ (z7 M)
 have h3:=yH (ρ:=ρ) (.xj 1 (ud N)) (by simp only[Pure];exact qX N)
 unfold zfh
 simp only[yG,h1,h2,h3]
 rfl
theorem znI (L:List yi) (M:List (List Int)) (N:List (List zN)) (s:Nat) (hS:SpN M N s) (o0 o1 o2:zf) :
  u7 Tryz.prog 20 [.loc 3 0] [o0,o1,o2,.row true (zfh L M N (.sc (.slice none 0 0)) (.sc (.slice none 0 0)) (.sc (.slice none 0 0)))] (.sc (.bool (decide ((x4 N N.length:Int)≤600))))
   [o0,o1,o2,.row true (zfh L M N (.own 4 (x4 N N.length) 0 (x4 N N.length)) (.own 5 N.length 0 N.length) (.own 6 N.length 0 N.length)),.vec true (x4 N N.length) 2 (wm (wz N N.length)),.vec true N.length 1 (zL (Yz N N.length)),.vec true N.length 1 (zL (qB N N.length))] [3,4,5,6]:=by
 refine zcd (zjG L M N s hS) [3] rfl zs (by simp[zl,zt]) (by simp[wD,zf.under,zfh,zl,zt]) [3,4,5,6] rfl rfl rfl (λi o ho=>?_) ?_
 ·match i with
  | 0 =>
   simp at ho
   subst ho
   simp only[zf.yI,zjb]
   rfl
  | i+1=>simp at ho
 ·simp only[List.length_cons,List.length_nil,List.take_succ_cons,List.take_zero,List.drop_succ_cons,List.drop_zero,List.map_cons,List.map_nil,zf.yI,zjb,yw _ (YH _),ziR,WA]
  rfl
def zBK:PC:=.seq (OP [Bi 46 .lss 45 44]) (.seq (.cond 46 .skip (.exit 0)) (.seq (.block 1 (.seq (OP [qm 47 45,qm 12 47]) (.seq (.ops [qm 48 11,qm 49 11,qd 50 (.zn 49) 2,qd 51 (.zz 6 50) 6,qd 52 (.zz 1 51) 14,qd 53 (.zg 52) 30,qm 54 11,qm 55 12,qd 56 (.call 21 [54,55]) 192,qd 57 (.xe 1 1 [56]) 448,qd 58 (.append 1 24 53 57) 1022,qd 59 (.zn 48) 2047,qd 60 (.zz 6 59) 4095,qd 61 (.zz 1 60) 8191,qk (.store 1 61 58) 16383] true) (.ops [qm 62 11,qm 63 11,qd 64 (.zn 63) 2,qd 65 (.zz 6 64) 6,qd 66 (.zz 2 65) 14,qd 67 (.zg 66) 30,qm 68 11,qm 69 12,qd 70 (.call 22 [68,69]) 192,qd 71 (.xe 1 1 [70]) 448,qd 72 (.append 1 8 67 71) 1022,qd 73 (.zn 62) 2047,qd 74 (.zz 6 73) 4095,qd 75 (.zz 2 74) 8191,qk (.store 1 75 72) 16383] true)))) (OP [Bi 76 .add 45 (cI 1),qm 45 76])))
def zAR:PC:=.seq (OP [Bi 89 .lss 88 87]) (.seq (.cond 89 .skip (.exit 2)) (.seq (.block 3 (.seq (OP [qm 90 88,qm 13 90]) (.ops [qm 91 11,qm 92 11,qd 93 (.zn 92) 2,qd 94 (.zz 6 93) 6,qd 95 (.zz 3 94) 14,qd 96 (.zg 95) 30,qm 97 11,qm 98 13,qd 99 (.call 24 [97,98]) 192,qd 100 (.xe 1 1 [99]) 448,qd 101 (.append 1 24 96 100) 1022,qd 102 (.zn 91) 2047,qd 103 (.zz 6 102) 4095,qd 104 (.zz 3 103) 8191,qk (.store 1 104 101) 16383] true))) (OP [Bi 105 .add 88 (cI 1),qm 88 105])))
def c10:PC:=.seq (OP [Bx 3 0,q 6 (.alloc [(.slice none 0 0),(.slice none 0 0),(.slice none 0 0),(.slice none 0 0)]),Mv 7 cN,Mv 8 (cI 0)]) (.seq (OP [LA 15 2 3,qm 16 1,qm 17 2,Ca 18 18 [15,16,17],qm 14 18,Xt 19 0 14,Xt 20 1 14,q 9 (.alloc [(.slice none 0 0),(.slice none 0 0)]),So 2 9 19,qm 10 20]) (.seq (.seq (OP [qm 21 10,Bi 22 .neq 21 (cI 0)]) (.cond 22 (.seq (OP [q 23 (.build [(.slice none 0 0),(.slice none 0 0),(.slice none 0 0),(.slice none 0 0)] []),qm 24 10,So 4 6 23,Mv 7 cN,qm 8 24]) .ret) .skip)) (.seq (OP [LA 25 2 9,q 26 (.build [(.slice none 0 0),(.slice none 0 0),(.slice none 0 0),(.slice none 0 0),(.slice none 0 0),(.slice none 0 0),(.slice none 0 0),(.slice none 0 0),(.slice none 0 0),(.slice none 0 0)] [(1,2,25)]),Bx 27 26,qm 11 27]) (.seq (OP [qm 29 11,LA 30 2 3,Ca 31 19 [30],qm 28 31,Xt 32 0 28,Xt 33 1 28,q 34 (.zn 29),Fa 35 0 34,So 1 35 32]) (.seq (.seq (OP [qm 36 11,Ca 37 20 [36],Nt 38 37]) (.cond 38 (.seq (OP [q 39 (.build [(.slice none 0 0),(.slice none 0 0),(.slice none 0 0),(.slice none 0 0)] []),So 4 6 39,Mv 7 cN,Mv 8 (cI 2)]) .ret) .skip)) (.seq (.seq (OP [qm 40 11,q 41 (.zn 40),Fa 42 3 41,Lo 43 42,Ln 44 43,Mv 45 (cI 0)]) (.block 0 (.loop zBK))) (.seq (OP [qm 77 11,qm 78 11,Ca 79 23 [78,(cI 0)],q 80 (.zn 77),Fa 81 6 80,Fa 82 0 81,So 1 82 79]) (.seq (.seq (OP [qm 83 11,q 84 (.zn 83),Fa 85 0 84,Lo 86 85,Ln 87 86,Mv 88 (cI 0)]) (.block 2 (.loop zAR))) (.seq (.ops [qm 106 11,qd 107 (.zn 106) 1,qd 108 (.zz 6 107) 3,qd 109 (.vw 4 108) 7,qm 110 11,qd 111 (.zn 110) 16,qd 112 (.zz 3 111) 48,qd 113 (.zg 112) 112,qk (.store 4 6 109) 15,qw 7 113 511,qd 8 (.move (cI 0)) 1023] true) .ret)))))))))
theorem zr5:zy Tryz.prog 10 114 [.agg 6 4,.tmp 7,.tmp 8] c10:=fK Tryz.func10
theorem zqu (P:zb) (hP:P.Fits) (tok st:Int) (he:P.Qb tok st≠0):zq Tryz.prog 10 [yU P,.sc (.int .i64 tok),.sc (.int .i64 st)] (.yO [zkA [] [] [] [],vm [],.sc (.int .i64 (P.Qb tok st))]):=by
 have hE:=QO P hP tok st
 refine za zr5 zs (by simp[ze,Pure,yj]) ?_ (by simp[Pure,ze,zfS,vf])
 generalize P.Qb tok st=e at *
 refine sR ?_
 refine sC hE ?_
 refine sS (λh1=>?_) λh1=>?_
 ·exact .yO _ _ (.cons _ _ _ _ (.agg _ _ (.cons _ _ _ _ (.none _) (.cons _ _ _ _ (.none _) (.cons _ _ _ _ (.none _) (.cons _ _ _ _ (.none _) .nil))))) (.cons _ _ _ _ (.none _) (.cons _ _ _ _ (.refl _) .nil)))
 ·exfalso;exact sO
theorem zdE (P:zb) (hP:P.Fits) (tok st:Int) (he:P.Qb tok st=0) (hF:FndN P (P.exM tok st) (P.YO tok st)):zq Tryz.prog 10 [yU P,.sc (.int .i64 tok),.sc (.int .i64 st)]
  (if x4 (P.YO tok st) (P.YO tok st).length≤600 then .yO [zkA (Xc (P.YO tok st) 0) (ux (P.YO tok st)) (Wd P.zI (P.YO tok st)) (YS P.zI (P.YO tok st)),vm (wz (P.YO tok st) (P.YO tok st).length),.sc (.int .i64 0)] else .yO [zkA [] [] [] [],vm [],.sc (.int .i64 2)]):=by
 have hE:=QO P hP tok st
 rw[he] at hE
 generalize P.exM tok st=M at *
 generalize P.YO tok st=N at *
 have hS:=hF.sp
 have hf:=hS.few
 have hl:=hS.len
 have hpos:=hS.pos
 obtain⟨h0,_,h60⟩:=zb.xl hF.steps
 have hnode:∀j,j<P.zI.length→0≤(P.zI.getD j (0,0,0)).1∧(P.zI.getD j (0,0,0)).1≤63:=λj hj=>by
  have h1:=(zb.Qs hF.steps hj).node
  have:=(xm h0).1
  omega
 refine za zr5 zs (by simp[ze,Pure,yj]) ?_ (by split<;>simp[Pure,ze,zfS,vf])
 refine sR ?_
 refine sC hE ?_
 refine sC (W0 P hP) ?_
 refine sE (znI P.zI M N P.zI.length hS _ _ _) ?_
 by_cases hA:x4 N N.length≤600
 ·have hb:decide ((x4 N N.length:Int)≤600)=true:=decide_eq_true zo
  rw[hb,if_pos hA]
  refine sW ?_
  rw[Nat.sub_zero]
  have hNl:=QZ N
  have hLl:=zfZ P.zI N
  have hFl:=ze5 P.zI N
  have hd0:Pure (.sc (.slice none 0 0)):=zmJ _
  have hd1:Pure (zB (Xc N 0)):=zi _
  have hnext:=λi X Y m k (hm:m<N.length) (hk:k<wN N m)=>zoH P.zI M N _ hS _ hd0 i i 0 X Y [] m k hm hk
  have hlab:=λi j X Y m k (hm:m<N.length) (hk:k<wN N m)=>zlv P.zI M N _ hS _ hd0 i j 0 X Y [] hnode rfl m k hm hk
  have hall:=λX Y=>zki P.zI M N _ hS _ hd0 (x4 N N.length) (x4 N N.length) 0 X Y [] 0 zo
  have hfair:=λk X Y Z st=>zpE P.zI M N _ hS _ hd1 (x4 N N.length) (x4 N N.length) k X Y Z st
  have hfz:List.drop 0 (List.take (x4 N N.length) (wm (wz N N.length)))=wm (wz N N.length):=zu (by simp[XV])
  have hfa:List.drop 0 (List.take N.length (zL (Yz N N.length)))=zL (Yz N N.length):=zu (by simp[zL,Yz])
  have hfm:List.drop 0 (List.take N.length (zL (qB N N.length)))=zL (qB N N.length):=zu (by simp[zL,qB])
  refine zG (wT (Z9 (λi=>i==4||i==5||i==6) (env':=[(6,.loc 1 0),(11,.loc 3 0),(44,.sc (.int .i64 (x4 N N.length))),(45,.sc (.int .i64 0))])
   (H':=[.row true P.cells,.row true [.sc (.slice none 0 0),.sc (.slice none 0 0),.sc (.slice none 0 0),.sc (.slice none 0 0)],.row true (zlp M N),.row true [ZG P.zI,ya M,.xj 1 (ud N),vm (wz N N.length),zB (Yz N N.length),zB (qB N N.length),.sc (.slice none 0 0),.sc (.slice none 0 0),.sc (.slice none 0 0),.sc (.slice none 0 0)],
    .vec false (x4 N N.length) 2 (wm (wz N N.length)),.vec false N.length 1 (zL (Yz N N.length)),.vec false N.length 1 (zL (qB N N.length))])
   ⟨.refl _,.refl _,.refl _,.refl _,trivial⟩ ?_)
   (wT (yV 3 7 1 zs rfl rfl) (wT (yV 3 8 1 zs rfl rfl) (yV 3 9 1 zs rfl rfl)))) ?_
  ·refine⟨⟨.inl rfl,(λh=>by cases h),.refl _⟩,⟨.inl rfl,(λh=>by cases h),.refl _⟩,⟨.inl rfl,(λh=>by cases h),.refl _⟩,⟨.inl rfl,(λh=>by cases h),?_⟩,⟨.inr ⟨rfl,rfl⟩,λ_=>rfl,rfl,rfl,.refl _⟩,⟨.inr ⟨rfl,rfl⟩,λ_=>rfl,rfl,rfl,.refl _⟩,⟨.inr ⟨rfl,rfl⟩,λ_=>rfl,rfl,rfl,.refl _⟩,trivial⟩
   refine .cons _ _ _ _ (.refl _) (.cons _ _ _ _ (.refl _) (.cons _ _ _ _ (.refl _) (.cons _ _ _ _ (.own _ _ _ _ _ _ _ _ rfl rfl (zp hfz)) (.cons _ _ _ _ (.own _ _ _ _ _ _ _ _ rfl rfl (zp hfa)) (.cons _ _ _ _ (.own _ _ _ _ _ _ _ _ rfl rfl (zp hfm)) (.refl _))))))
  refine z8 [6,11,44] (λi:Nat=>[(45,.sc (.int .i64 i))])
   (λi=>[.row true P.cells,.row true [.sc (.slice none 0 0),.sc (.slice none 0 0),.sc (.slice none 0 0),.sc (.slice none 0 0)],.row true (zlp M N),.row true (ZQ P.zI M N (.sc (.slice none 0 0)) 7 i 8 i 9 0),
    .vec false (x4 N N.length) 2 (wm (wz N N.length)),.vec false N.length 1 (zL (Yz N N.length)),.vec false N.length 1 (zL (qB N N.length)),.vec true i 1 (uf ((ux N).take i)),.vec true i 1 (JN ((Wd P.zI N).take i)),.vec true 0 1 (uf [])])
   (λi=>i≤x4 N N.length) (λi=>x4 N N.length-i) 0 ?_
  refine sW ?_
  refine⟨zo,by exact sK,rfl,?_⟩
  rintro i hi
  refine sW ?_
  refine sR ?_
  refine sS (λh1=>?_) λh1=>?_
  ·have hi':i<x4 N N.length:=sO
   obtain⟨m,k,q1,q2,rfl⟩:=zer hi'
   have e1:=zjA q1 q2
   have e2:=zlu (L:=P.zI) q1 q2
   have l1:((ux N).take (x4 N m+k)).length=x4 N m+k:=by rw[List.length_take];omega
   have l2:((Wd P.zI N).take (x4 N m+k)).length=x4 N m+k:=by rw[List.length_take];omega
   have hn:=λX Y=>hnext (x4 N m+k) X Y m k q1 q2
   have hlb:=λj X Y=>hlab (x4 N m+k+1) j X Y m k q1 q2
   refine sX (JT hd0 (hn _ _) (by simp[ze,Pure]) (zi _) 3 7 8 9 zc rfl rfl rfl rfl) ?_
   rw[show List.drop 0 (List.take (x4 N m+k) (uf (List.take (x4 N m+k) (ux N))))++List.drop 0 (List.take 1 [[zB (Xc N ((JU N m).getD k 0).toNat)]])=uf ((ux N).take (x4 N m+k+1)) from by rw[e1];exact Ju l1.symm]
   refine sJ ?_
   refine sX (JT hd0 (hlb (x4 N m+k) _ _) (by simp[ze,Pure]) (zmJ _) 3 7 8 9 zc rfl rfl rfl rfl) ?_
   rw[show List.drop 0 (List.take (x4 N m+k) (JN (List.take (x4 N m+k) (Wd P.zI N))))++List.drop 0 (List.take 1 [[D.sc (.int .u64 (zha P.zI ((QC N m).getD k (0,0)).1))]])=JN ((Wd P.zI N).take (x4 N m+k+1)) from by rw[e2];exact zog l2.symm]
   refine sJ ?_
   refine sI ?_
   refine⟨x4 N m+k+1,zo,zd,?_⟩
   exact zj 10 zs rfl sQ sQ
  ·have hi':i=x4 N N.length:=by have:¬i<x4 N N.length:=sO
                                omega
   subst hi'
   rw[List.take_of_length_le zo,List.take_of_length_le zo]
   refine sX (JT hd0 (hall _ _) (by simp[ze,Pure]) (zi _) 3 7 8 9 zc rfl rfl rfl rfl) ?_
   rw[W2]
   refine z8 [6,11,87] (λi:Nat=>[(88,.sc (.int .i64 i))])
    (λi=>[.row true P.cells,.row true [.sc (.slice none 0 0),.sc (.slice none 0 0),.sc (.slice none 0 0),.sc (.slice none 0 0)],.row true (zlp M N),.row true (ZQ P.zI M N (zB (Xc N 0)) 7 (x4 N N.length) 8 (x4 N N.length) 9 i),
     .vec false (x4 N N.length) 2 (wm (wz N N.length)),.vec false N.length 1 (zL (Yz N N.length)),.vec false N.length 1 (zL (qB N N.length)),.vec true (x4 N N.length) 1 (uf (ux N)),.vec true (x4 N N.length) 1 (JN (Wd P.zI N)),.vec true i 1 (uf ((YS P.zI N).take i))])
    (λi=>i≤P.zI.length) (λi=>P.zI.length-i) 0 ?_
   refine sW ?_
   refine⟨zo,by exact sK,rfl,?_⟩
   rintro k hk
   refine sW ?_
   refine sR ?_
   refine sS (λh2=>?_) λh2=>?_
   ·have hk':k<P.zI.length:=sO
    have e1:=zir (N:=N) hk'
    have l1:((YS P.zI N).take k).length=k:=by rw[List.length_take];omega
    refine sX (JT hd1 (hfair k _ _ _ k) (by simp[ze,Pure]) (zi _) 3 7 8 9 zc rfl rfl rfl rfl) ?_
    refine sJ ?_
    refine sI ?_
    refine⟨k+1,zo,zd,?_⟩
    dsimp only
    rw[e1]
    refine zj 10 zs rfl sQ (sU ?_)
    exact zp (Ju l1.symm)
   ·have hk':k=P.zI.length:=by have:¬k<P.zI.length:=sO
                               omega
    subst hk'
    rw[List.take_of_length_le zo]
    refine .yO _ _ (.cons _ _ _ _ (.agg _ _ (.cons _ _ _ _ (.refl _) (.cons _ _ _ _ (.own _ _ _ _ _ _ _ _ rfl ?_) (.cons _ _ _ _ (.own _ _ _ _ _ _ _ _ rfl ?_) (.cons _ _ _ _ (.own _ _ _ _ _ _ _ _ rfl ?_) .nil))))) (.cons _ _ _ _ (.refl _) (.cons _ _ _ _ (.refl _) .nil)))
    ·rw[zu (by simp[uf,hNl])];exact z6 _
    ·rw[zu (by simp[JN,hLl])];exact z6 _
    ·rw[zu (by simp[uf,hFl])];exact z6 _
 ·have hb:decide ((x4 N N.length:Int)≤600)=false:=decide_eq_false zo
  rw[hb,if_neg hA]
  refine sW ?_
  exact .yO _ _ (.cons _ _ _ _ (.agg _ _ (.cons _ _ _ _ (.none _) (.cons _ _ _ _ (.none _) (.cons _ _ _ _ (.none _) (.cons _ _ _ _ (.none _) .nil))))) (.cons _ _ _ _ (.none _) (.cons _ _ _ _ (.refl _) .nil)))
end
section
open Go.RowKit
namespace zb
def Jn (s m:Nat) (e:zN):Prop:=0≤e.1∧e.1<(s:Int)∧0≤e.2∧e.2<(m:Int)
theorem Jn.mono {s m m':Nat} {e:zN} (h:Jn s m e) (hm:m≤m'):Jn s m' e:=⟨h.1,h.2.1,h.2.2.1,by have:=h.2.2.2;omega⟩
theorem zgK {P:zb} {tok:Int} {st n:Nat} {M:List Int}:∀(L:List Int) (marks:List (List Int)) (yP:List qq) (cur:List zN) (last:qq),(∀k∈L,k∈P.YL M)→(∀e∈cur,Jn P.zI.length marks.length e) →
  marks.length≤(P.yY tok st n M L marks yP cur last).marks.length∧∀e∈(P.yY tok st n M L marks yP cur last).cur,Jn P.zI.length (P.yY tok st n M L marks yP cur last).marks.length e
 | [],marks,yP,cur,last,_,hc=>⟨Nat.le_refl _,hc⟩
 | k::r,marks,yP,cur,last,hL,hc=>by
  rw[YK]
  split
  ·exact⟨Nat.le_refl _,hc⟩
  ·split
   ·exact⟨Nat.le_refl _,hc⟩
   ·rename_i h1 h2
    have h2:YM marks (P.wV M k) tok st=0:=zo
    have hl:=zds (marks:=marks) (m:=P.wV M k) (tok:=tok) (st:=st)
    obtain⟨_,k1,k2,_⟩:=zdJ (hL k zs)
    obtain⟨q1,q2⟩:=zgK (P:=P) (tok:=tok) (st:=st) (n:=n) (M:=M) r (Zn marks (P.wV M k) tok st) (Wz marks yP (P.wV M k) tok st ((n:Int),k)) (cur++[(k,W9 marks (P.wV M k) tok st)]) ((n:Int),k)
     (λx hx=>hL x (by simp[hx])) (λe he=>by
      rcases List.mem_append.1 he with he|he
      ·exact(hc e he).mono hl
      ·rw[List.mem_singleton] at he
       subst he
       have hm:=zrr h2
       have hi:=List.idxOf_lt_length_of_mem hm
       have e:W9 marks (P.wV M k) tok st=(zeY (Zn marks (P.wV M k) tok st) (P.wV M k):Int):=by unfold W9;rw[if_pos h2]
       refine⟨k1,by show k<_;omega,?_,?_⟩
       ·show 0≤W9 marks (P.wV M k) tok st
        rw[e];omega
       ·show W9 marks (P.wV M k) tok st<_
        rw[e];unfold zeY;omega)
    exact⟨Nat.le_trans hl q1,q2⟩
theorem znj {P:zb} {tok:Int} {st:Nat} (hst:st≤200):∀(f n:Nat) (marks:List (List Int)) (yP:List qq) (next:List (List zN)) (last:qq),Sp P tok st marks yP→(∀l∈next,∀e∈l,Jn P.zI.length marks.length e)→next.length=n→n≤marks.length→n+f=201 →
  (P.YN tok st f n marks yP next last).e=0→(P.YN tok st f n marks yP next last).next.length=(P.YN tok st f n marks yP next last).marks.length∧marks.length≤(P.YN tok st f n marks yP next last).marks.length ∧
   ∀l∈(P.YN tok st f n marks yP next last).next,∀e∈l,Jn P.zI.length (P.YN tok st f n marks yP next last).marks.length e
 | 0,n,marks,yP,next,last,hS,_,_,hn,hf,_=>by have:=hS.room;omega
 | f+1,n,marks,yP,next,last,hS,hN,hl,hn,hf,he=>by
  simp only[YN] at he ⊢
  split
  ·rename_i hlt
   rw[if_pos hlt] at he
   have hM:=hS.vN _ (Xn hlt)
   obtain⟨q1,q2,_⟩:=Qm (tok:=tok) (st:=st) (n:=n) hM (P.YL (marks.getD n [])) marks yP [] last (λ_ h=>h) hS hlt
   obtain⟨r1,r2⟩:=zgK (P:=P) (tok:=tok) (st:=st) (n:=n) (M:=marks.getD n []) (P.YL (marks.getD n [])) marks yP [] last (λ_ h=>h) zs
   split
   ·rename_i h0
    rw[if_pos h0] at he
    exact absurd he h0
   ·rename_i h0
    rw[if_neg h0] at he
    obtain⟨t1,t2,t3⟩:=znj hst f (n+1) _ _ _ _ q1 (λl hl' e he'=>by
     rcases List.mem_append.1 hl' with hl'|hl'
     ·exact(hN l hl' e he').mono q2
     ·rw[List.mem_singleton] at hl';subst hl';exact r2 e he') (by simp[hl]) zo zo he
    exact⟨t1,Nat.le_trans q2 t2,t3⟩
  ·rename_i hlt
   exact⟨by show next.length=marks.length;omega,Nat.le_refl _,hN⟩
end zb
theorem uZ {P:zb} {tok st:Int} (he:P.Qb tok st=0):FndN P (P.exM tok st) (P.YO tok st):=by
 have eM:P.exM tok st=(P.Jz tok st.toNat).marks:=by unfold zb.exM;rw[if_pos he]
 have eN:P.YO tok st=(P.Jz tok st.toNat).next:=by unfold zb.YO;rw[if_pos he]
 unfold zb.Qb at he
 split at he
 ·exfalso;omega
 rename_i h1
 have h1:P.yK=0:=zo
 split at he
 ·exfalso;omega
 rename_i h2
 unfold zb.zeb at h2
 obtain⟨h0,_,h60⟩:=zb.xl h1
 have h30:=(xm h0).2
 obtain⟨hS,_⟩:=zb.zyq h1 (tok:=tok) (st:=st.toNat) zo
 have hr:=hS.room
 obtain⟨g1,g2⟩:=zb.zgo (P:=P) (tok:=tok) (st:=st.toNat) 201 0 [P.wF] [(-1,-1)] [] (-1,-1) zs
 obtain⟨t1,t2,t3⟩:=zb.znj (P:=P) (tok:=tok) (st:=st.toNat) zo 201 0 [P.wF] [(-1,-1)] [] (-1,-1) (zb.Sp.start h1 zo) zs rfl zs rfl he
 rw[eM,eN]
 refine⟨⟨t1,t2,zo,λl hl=>Nat.le_trans (g1 l hl) h60,t3,λm hm=>?_⟩,h1⟩
 have hk:=zb.xD (hS.vN m hm)
 refine⟨by have:=hk.len;omega,λx hx=>?_⟩
 obtain⟨j,hj,rfl⟩:=XK hx
 exact by have:=hk.pos j;unfold val at this;exact this
end
section
open Go.RowKit
theorem zb4 {P:Program} {f:FuncId} {d:D} {H:List zf} {id:Nat} {k:Int} {t:Tree} (h:zq P f [zZ (yS k t)] d) (hp:Pure d) (hid:H[id]? = some (.vec true 0 3 [[.sc (.int .i64 t.kind),.sc (.int .i64 t.num),.xj 3 (t.kids.map y6)]])) :
  u7 P f [.agg [.sc (.int .i64 k),.sc (.int .i64 0),.own id 0 0 1]] H d (H.set id (.vec false 0 3 [[.sc (.int .i64 t.kind),.sc (.int .i64 t.num),.xj 3 (t.kids.map y6)]])) [id]:=by
 have hx:yE [[D.sc (.int .i64 t.kind),.sc (.int .i64 t.num),.xj 3 (t.kids.map y6)]]:=by
  have:=ym t
  exact⟨this,trivial⟩
 have:=Ws (args0:=[.agg [.sc (.int .i64 k),.sc (.int .i64 0),.own 0 0 0 1]]) (args':=[zZ (yS k t)]) (H0:=[.vec true 0 3 [[.sc (.int .i64 t.kind),.sc (.int .i64 t.num),.xj 3 (t.kids.map y6)]]]) (H:=H) (args:=[.agg [.sc (.int .i64 k),.sc (.int .i64 0),.own id 0 0 1]])
  (.cons _ _ _ _ (.agg _ _ (.cons _ _ _ _ (.refl _) (.cons _ _ _ _ (.refl _) (.cons _ _ _ _ (.own _ _ _ _ _ _ _ _ rfl (.cons _ _ _ _ (by rw[Zj];exact xv _) .nil)) .nil)))) .nil) h hp [id] rfl zs (by simp[zl,zt]) ⟨zh _ hx,trivial⟩ (by simp[yG,D.yI]) (λi o ho=>by
   cases i with
   | zero =>
    simp at ho;subst ho
    show H[id]? = _
    rw[hid]
    simp only[zf.yI,yw _ hx]
   | succ i=>simp at ho)
 simpa [Wg,zf.frozen,zf.yI,yw _ hx,WA] using this
def c15:PC:=.seq (OP [Bx 2 0,Bx 3 1,q 4 (.alloc [(.slice none 0 0),(.slice none 0 0)]),Mv 5 cF,Mv 6 (cI 0)]) (.seq (.seq (OP [LA 13 4 2,Ca 14 34 [13],qm 7 14]) (.seq (OP [qm 15 7,Bi 16 .neq 15 (cI 0)]) (.cond 16 (.seq (OP [q 17 (.build [(.slice none 0 0),(.slice none 0 0)] []),qm 18 7,So 2 4 17,Mv 5 cF,qm 6 18]) .ret) .skip))) (.seq (.seq (OP [LA 19 3 3,Ca 20 32 [19],qm 8 20]) (.seq (OP [qm 21 8,Bi 22 .neq 21 (cI 0)]) (.cond 22 (.seq (OP [q 23 (.build [(.slice none 0 0),(.slice none 0 0)] []),qm 24 8,So 2 4 23,Mv 5 cF,qm 6 24]) .ret) .skip))) (.seq (OP [LA 26 3 3,Bs 27 3 1 [26],q 28 (.build [(.int .i64 0),(.int .i64 0),(.slice none 0 0)] [(0,1,(cI 4)),(2,1,27)]),Ca 29 35 [28],qm 25 29,Xt 30 0 25,Xt 31 1 25,q 9 (.alloc [(.slice none 0 0),(.slice none 0 0),(.slice none 0 0),(.slice none 0 0),(.slice none 0 0)]),So 5 9 30,qm 10 31]) (.seq (.seq (OP [qm 32 10,Bi 33 .neq 32 (cI 0)]) (.cond 33 (.seq (OP [q 34 (.build [(.slice none 0 0),(.slice none 0 0)] []),qm 35 10,So 2 4 34,Mv 5 cF,qm 6 35]) .ret) .skip)) (.seq (OP [LA 37 4 2,LA 38 5 9,Ca 39 36 [37,38],qm 36 39,Xt 40 0 36,Xt 41 1 36,Xt 42 2 36,q 11 (.alloc [(.slice none 0 0),(.slice none 0 0)]),So 2 11 40,qm 12 41,qm 10 42]) (.seq (OP [LA 43 2 11,qm 44 12,Nt 45 44,qm 46 45,GT 47 46 (.move 10),GT 48 46 (.bin .eql 47 (cI 0)),Pk 49 46 48 cF,qm 50 10,So 2 4 43,qm 5 49,qm 6 50]) .ret))))))
theorem zh5:zy Tryz.prog 15 51 [.agg 4 2,.tmp 5,.tmp 6] c15:=fK Tryz.func15
theorem zp1 (W:zA) (hW:W.Fits) (s1:W.start.length≤1048576) (r1:∀l∈W.next,l.length≤1048576) (t:Tree) (hs:Small t) :
  ∃s l,zq Tryz.prog 15 [wC W,zZ t] (.yO [.agg [zB s,zB l],.sc (.bool (decide (W.yJ=0∧yJ zP t=0∧uI t=0)&&!(vM W (vC t)))),.sc (.int .i64 (if W.yJ≠0 then W.yJ else if yJ zP t≠0 then yJ zP t else uI t))]) ∧
   (W.yJ=0→yJ zP t=0→uI t=0→V2 W (vC t) (xc W (vC t)).1 (xc W (vC t)).2 (xh W (vC t)).2=.yO [.agg [zB s,zB l],.sc (.bool (vM W (vC t))),.sc (.int .i64 0)])∧(¬(W.yJ=0∧yJ zP t=0∧uI t=0∧vM W (vC t)=true)→s=[]∧l=[]):=by
 have hC:=J8 W hW
 have hL:=Xk t hs
 have hM:=zu2 (yS 4 t) (xg hs)
 rw[zo0] at hM
 by_cases h1:W.yJ=0
 ·by_cases h2:yJ zP t=0
  ·by_cases h3:uI t=0
   ·have hb:=zag hW h1 s1 r1 h3
    have hF:=zus hb
    obtain⟨s,l,e1,e2⟩:=zry hb
    rw[e1] at hF
    refine⟨s,l,?_,λ_ _ _=>e1,λh=>e2 (by cases e:vM W (vC t);rfl;exact absurd ⟨h1,h2,h3,e⟩ h)⟩
    rw[if_neg (by simpa using h1),if_neg (by simpa using h2),decide_eq_true ⟨h1,h2,h3⟩,Bool.true_and]
    rw[h1] at hC
    rw[h2] at hL
    rw[h3] at hM ⊢
    generalize vM W (vC t)=b at *
    refine za zh5 zs (by simp[ze,wb,zm]) ?_ (by simp[Pure,ze,zi])
    unfold wC at *
    refine sR ?_
    refine sC hC ?_
    refine sC hL ?_
    refine sE (zb4 hM (by simp[Pure,ze,qU]) rfl) ?_
    refine sC hF ?_
    cases b
    ·refine sW ?_
     exact sP
    ·refine sW ?_
     exact sP
   ·refine⟨[],[],?_,λ_ _ h=>absurd h h3,λ_=>⟨rfl,rfl⟩⟩
    rw[if_neg (by simpa using h1),if_neg (by simpa using h2),decide_eq_false (λh=>h3 h.2.2),Bool.false_and]
    rw[h1] at hC
    rw[h2] at hL
    generalize uI t=c at *
    refine za zh5 zs (by simp[ze,wb,zm]) ?_ (by simp[Pure,ze,zi])
    unfold wC at *
    refine sR ?_
    refine sC hC ?_
    refine sC hL ?_
    refine sE (zb4 hM (by simp[Pure,ze,qU]) rfl) ?_
    refine sS (λg=>?_) λg=>?_
    ·unfold zB
     exact sP
    ·exact absurd (sO) h3
  ·refine⟨[],[],?_,λ_ h=>absurd h h2,λ_=>⟨rfl,rfl⟩⟩
   rw[if_neg (by simpa using h1),if_pos h2,decide_eq_false (λh=>h2 h.2.1),Bool.false_and]
   rw[h1] at hC
   generalize yJ zP t=c at *
   refine za zh5 zs (by simp[ze,wb,zm]) ?_ (by simp[Pure,ze,zi])
   unfold wC at *
   refine sR ?_
   refine sC hC ?_
   refine sC hL ?_
   refine sS (λg=>?_) λg=>?_
   ·unfold zB
    exact sP
   ·exact absurd (sO) h2
 ·refine⟨[],[],?_,λh=>absurd h h1,λ_=>⟨rfl,rfl⟩⟩
  rw[if_pos h1,decide_eq_false (λh=>h1 h.1),Bool.false_and]
  generalize W.yJ=c at *
  refine za zh5 zs (by simp[ze,wb,zm]) ?_ (by simp[Pure,ze,zi])
  unfold wC at *
  refine sR ?_
  refine sC hC ?_
  refine sS (λg=>?_) λg=>?_
  ·unfold zB
   exact sP
  ·exact absurd (sO) h1
end
section
open Go.RowKit
def zcD (k a b c:Int):Int :=
 if k<1∨14<k∨a<0∨62<a∨b<0∨62<b∨(k≤4∧b≠0) then 1
 else if (k≤3∧(c<1∨3<c))∨(3<k∧c≠0) then 1 else 0
def evT (n:Int):Tree:=vx 5 (yB 3 n) (yS 4 (yB 3 63))
def zf5 (a:Int):Nat→Tree
 | 0=>yS 10 (evT a)
 | n+1=>yS 10 (vx 5 (evT a) (yS 7 (zf5 a n)))
def zrV (a b:Int):Tree:=yS 11 (vx 6 (yS 4 (evT a)) (yS 10 (evT b)))
def zro (a b:Int):Tree:=vx 6 (vx 8 (yS 4 (evT b)) (evT a)) (yS 11 (yS 4 (evT b)))
def znC (k a b c:Int):Tree :=
 if k=1 then zf5 a (c-1).toNat else if k=2 then yS 4 (zf5 a (c-1).toNat)
 else if k=3 then vx 5 (zf5 a (c-1).toNat) (yS 4 (zf5 a c.toNat))
 else if k=4 then vx 6 (vx 8 (yB 3 63) (evT a)) (yS 11 (yB 3 63))
 else if k=5 then vx 6 (yS 10 (evT a)) (yS 10 (evT b))
 else if k=6 then vx 6 (yS 4 (yS 10 (evT a))) (yS 10 (evT b))
 else if k=7 then vx 5 (vx 6 (yS 4 (yS 10 (evT a))) (yS 10 (evT b))) (vx 6 (yS 4 (yS 10 (evT b))) (yS 10 (evT a)))
 else if k=13 then yS 4 (vx 5 (yS 10 (evT a)) (yS 10 (evT b)))
 else if k=8 then zrV a b else if k=9 then zro a b else if k=10 then vx 5 (zrV a b) (zro a b)
 else if k=11 then yS 11 (vx 6 (yS 4 (evT a)) (yS 7 (vx 8 (yS 4 (evT a)) (evT b))))
 else if k=12 then yS 11 (vx 6 (yS 4 (evT a)) (yS 7 (vx 8 (yB 3 63) (evT b))))
 else yS 11 (vx 6 (yS 4 (evT a)) (yS 4 (yS 7 (yS 10 (evT b)))))
def Zq (k a b c:Int):List D:=[.sc (.int .i64 k),.sc (.int .i64 a),.sc (.int .i64 b),.sc (.int .i64 c)]
theorem zbx (n:Int):Small (evT n):=uu (uq _ _) (xg (uq _ _))
theorem zbC (a:Int):∀n,Small (zf5 a n)
 | 0=>xg (zbx a)
 | n+1=>xg (uu (zbx a) (xg (zbC a n)))
theorem zks (k a b c:Int):Small (znC k a b c):=by
 unfold znC zrV zro
 repeat' (first|exact zbx _|exact zbC _ _|exact uq _ _|apply xg|apply uu|refine Xe _ ?_ ?_)
end
section
open Go.RowKit
set_option maxHeartbeats 4000000
structure ZM where
 kind:Int
 scope:Int
 p:Int
 s:Int
 q:Int
 r:Int
 count:Int
def zW (x:ZM):List D:=[.sc (.int .i64 x.kind),.sc (.int .i64 x.scope),.sc (.int .i64 x.p),.sc (.int .i64 x.s),.sc (.int .i64 x.q),.sc (.int .i64 x.r),.sc (.int .i64 x.count)]
def zbu (x:ZM):D:=.agg (zW x)
theorem Xl (x:ZM):Pure (zbu x):=by simp[zbu,zW,Pure,ze]
def u0 (x:ZM):Int :=
 if x.kind<1∨6<x.kind∨x.scope<1∨5<x.scope∨x.p<0∨63<x.p∨x.s<0∨63<x.s∨(x.kind<5∧x.s≠0)
  ∨ x.q<0∨63<x.q∨(x.scope<3∧x.q≠0)∨x.r<0∨63<x.r∨(x.scope≠2∧x.scope<4∧x.r≠0)
  ∨ x.count<0∨3<x.count∨(x.kind≠4∧x.count≠0) then 1 else 0
def noP (x:ZM):Tree:=yS 4 (yB 3 x.p)
def noR (x:ZM):Tree:=yS 4 (yB 3 x.r)
def zfX (x:ZM) (more:Bool) (T:Tree):Tree :=
 if x.kind=2 then yS 11 (yB 3 x.p) else if x.kind=3 then yS 10 (yB 3 x.p)
 else if x.kind=5 then vx 6 (vx 8 (noP x) (yB 3 x.s)) (yS 11 (noP x))
 else if x.kind=6 then yS 11 (vx 6 (noP x) (yS 10 (yB 3 x.s)))
 else if x.kind=4∧more=true then vx 6 (vx 8 (noP x) (vx 5 (yB 3 x.p) (yS 7 T))) (yS 11 (noP x)) else yS 11 (noP x)
def zaf (x:ZM):Nat→Tree
 | 0=>zfX x false (yB 0 0)
 | n+1=>zfX x true (zaf x n)
def QR (weak:Bool) (a b:Tree):Tree:=if weak=true then vx 6 (vx 8 a b) (yS 11 a) else vx 8 a b
def zm8 (x:ZM):Tree:=vx 6 (noP x) (vx 8 (noR x) (vx 5 (yB 3 x.s) (noR x)))
def ziC (x:ZM) (T:Tree):Tree:=vx 6 (yB 3 x.r) (vx 5 (vx 5 (yB 3 x.p) (noR x)) (yS 7 T))
def upN (x:ZM) (weak more:Bool) (T:Tree):Tree :=
 if x.kind=2 then QR weak (yB 3 x.p) (yB 3 x.r) else if x.kind=3 then vx 8 (noR x) (vx 5 (yB 3 x.p) (noR x))
 else if x.kind=5 then QR weak (noP x) (vx 6 (yB 3 x.s) (yB 3 x.r)) else if x.kind=6 then QR weak (zm8 x) (yB 3 x.r)
 else if x.kind=4∧more=true then QR weak (noP x) (ziC x T)
 else QR weak (noP x) (yB 3 x.r)
def upT (x:ZM) (weak:Bool):Nat→Tree
 | 0=>upN x weak false (yB 0 0)
 | n+1=>upN x weak true (upT x weak n)
def xz (x:ZM):Tree :=
 let n:=x.count.toNat
 if x.scope=2 then vx 6 (yS 4 (yS 10 (yB 3 x.r))) (upT x false n)
 else if x.scope=3 then vx 6 (yS 11 (yS 4 (yB 3 x.q))) (vx 8 (yS 4 (yB 3 x.q)) (vx 5 (yB 3 x.q) (zaf x n)))
 else if x.scope=4 then yS 11 (vx 6 (yS 4 (vx 5 (vx 5 (yB 3 x.q) (noR x)) (yS 10 (yB 3 x.r)))) (upT x false n))
 else if x.scope=5 then yS 11 (vx 6 (yS 4 (vx 5 (yB 3 x.q) (noR x))) (upT x true n))
 else zaf x n
def c105:PC:=.seq (OP [Mv 4 cF]) (.seq (OP [qm 5 0,Bi 6 .geq 5 (cI 0),qm 7 6,GT 8 7 (.move 0),GT 9 7 (.bin .leq 8 (cI 63)),Pk 10 7 9 cF,qm 11 10,GT 12 11 (.move 1),GT 13 11 (.move 12),GF 14 13 (.move 0),GF 15 13 (.bin .eql 14 (cI 0)),GT 16 11 (.pick 13 cT 15),Pk 17 11 16 cF,qm 4 17]) .ret)
theorem zvE:zy Tryz.prog 105 18 [.tmp 4] c105:=fK Tryz.func105
def c43:PC:=.seq (OP [Bx 1 0,Mv 2 (cI 0)]) (.seq (OP [Fa 6 0 1,Lo 7 6,Bi 8 .eql 7 (cI 5),qm 9 8,GF 10 9 (.zz 0 1),GF 11 9 (.zg 10),GF 12 9 (.bin .eql 11 (cI 6)),Pk 13 9 cT 12,qm 3 13]) (.seq (OP [Fa 14 1 1,Lo 15 14,Bi 16 .eql 15 (cI 3),qm 17 16,GF 18 17 (.zz 1 1),GF 19 17 (.zg 18),GF 20 17 (.bin .eql 19 (cI 4)),Pk 21 17 cT 20,qm 22 21,GF 23 22 (.zz 1 1),GF 24 22 (.zg 23),GF 25 22 (.bin .eql 24 (cI 5)),Pk 26 22 cT 25,qm 4 26]) (.seq (OP [Fa 27 1 1,Lo 28 27,Bi 29 .eql 28 (cI 2),qm 30 29,GF 31 30 (.zz 1 1),GF 32 30 (.zg 31),GF 33 30 (.bin .eql 32 (cI 4)),Pk 34 30 cT 33,qm 35 34,GF 36 35 (.zz 1 1),GF 37 35 (.zg 36),GF 38 35 (.bin .eql 37 (cI 5)),Pk 39 35 cT 38,qm 5 39]) (.seq (.block 0 (.seq (OP [Fa 41 0 1,Lo 42 41,Bi 43 .lss 42 (cI 1),qm 44 43,GF 45 44 (.zz 0 1),GF 46 44 (.zg 45),GF 47 44 (.bin .gtr 46 (cI 6)),Pk 48 44 cT 47,qm 49 48,GF 50 49 (.zz 1 1),GF 51 49 (.zg 50),GF 52 49 (.bin .lss 51 (cI 1)),Pk 53 49 cT 52,qm 54 53,GF 55 54 (.zz 1 1),GF 56 54 (.zg 55),GF 57 54 (.bin .gtr 56 (cI 5)),Pk 58 54 cT 57,qm 40 58]) (.cond 40 (.seq (OP [Mv 2 (cI 1)]) .ret) (.seq (OP [Fa 60 2 1,Lo 61 60,Ca 62 105 [61,cT],Nt 63 62,qm 64 63,GF 65 64 (.zz 3 1),GF 66 64 (.zg 65),GF 67 64 (.move 3),GF 68 64 (.call 105 [66,67]),GF 69 64 (.un .not 68),Pk 70 64 cT 69,qm 71 70,GF 72 71 (.zz 4 1),GF 73 71 (.zg 72),GF 74 71 (.move 4),GF 75 71 (.call 105 [73,74]),GF 76 71 (.un .not 75),Pk 77 71 cT 76,qm 78 77,GF 79 78 (.zz 5 1),GF 80 78 (.zg 79),GF 81 78 (.move 5),GF 82 78 (.call 105 [80,81]),GF 83 78 (.un .not 82),Pk 84 78 cT 83,qm 59 84]) (.cond 59 (.seq (OP [Mv 2 (cI 1)]) .ret) (.seq (OP [Fa 86 6 1,Lo 87 86,Bi 88 .lss 87 (cI 0),qm 89 88,GF 90 89 (.zz 6 1),GF 91 89 (.zg 90),GF 92 89 (.bin .gtr 91 (cI 3)),Pk 93 89 cT 92,qm 94 93,GF 95 94 (.zz 0 1),GF 96 94 (.zg 95),GF 97 94 (.bin .neq 96 (cI 4)),GF 98 94 (.move 97),GT 99 98 (.zz 6 1),GT 100 98 (.zg 99),GT 101 98 (.bin .neq 100 (cI 0)),GF 102 94 (.pick 98 101 cF),Pk 103 94 cT 102,qm 85 103]) (.cond 85 (.seq (OP [Mv 2 (cI 1)]) .ret) .skip))))))) (.seq (OP [Mv 2 (cI 0)]) .ret)))))
theorem zz7:zy Tryz.prog 43 104 [.tmp 2] c43:=fK Tryz.func43
theorem zoV (n:Int) (has:Bool):zq Tryz.prog 105 [.sc (.int .i64 n),.sc (.bool has)] (.sc (.bool (decide (0≤n)&&decide (n≤63)&&(has||n==0)))):=by
 refine za zvE zs (by simp[ze,Pure]) ?_ (by simp[Pure])
 refine sR ?_
 repeat' (first|refine sS (λh=>?_) λh=>?_|exact yA (by simp_all))
theorem zbA (x:ZM):zq Tryz.prog 43 [zbu x] (.sc (.int .i64 (u0 x))):=by
 refine za zz7 zs (by simp[ze,Xl]) ?_ (by simp[Pure])
 refine sR ?_
 repeat' (first
  | refine sS (λh=>?_) λh=>?_
  | refine sC (zoV _ _) ?_
  | exact yA (by unfold u0;congr 2;(repeat' split)<;>first|rfl|exact sO))
theorem zbY (x:ZM):∀n,Small (zaf x n)
 | 0=>by
  unfold zaf zfX noP
  repeat' (first|exact uq _ _|apply xg|apply uu|refine Xe _ ?_ ?_)
 | n+1=>by
  have:=zbY x n
  unfold zaf zfX noP
  repeat' (first|assumption|exact uq _ _|apply xg|apply uu|refine Xe _ ?_ ?_)
theorem zgQ (x:ZM) (weak:Bool):∀n,Small (upT x weak n)
 | 0=>by
  unfold upT upN QR zm8 ziC noP noR
  repeat' (first|exact uq _ _|apply xg|apply uu|refine Xe _ ?_ ?_)
 | n+1=>by
  have:=zgQ x weak n
  unfold upT upN QR zm8 ziC noP noR
  repeat' (first|assumption|exact uq _ _|apply xg|apply uu|refine Xe _ ?_ ?_)
theorem zaz (x:ZM):Small (xz x):=by
 unfold xz noR
 repeat' (first|exact zbY _ _|exact zgQ _ _ _|exact uq _ _|apply xg|apply uu|refine Xe _ ?_ ?_)
def c126:PC:=.seq (OP [Bx 2 0,q 4 (.alloc [(.int .i64 0),(.int .i64 0),(.slice none 0 0)])]) (.seq (.seq (OP [Fa 6 0 2,Lo 7 6]) (.block 0 (.seq (OP [Bi 9 .eql 7 (cI 2),qm 8 9]) (.cond 8 (.seq (OP [Fa 10 2 2,Lo 11 10,Ca 12 118 [11],Ca 13 123 [12],So 3 4 13]) .ret) (.seq (OP [Bi 15 .eql 7 (cI 3),qm 14 15]) (.cond 14 (.seq (OP [Fa 16 2 2,Lo 17 16,Ca 18 118 [17],Ca 19 121 [(cI 10),18],So 3 4 19]) .ret) (.seq (OP [Bi 21 .eql 7 (cI 5),qm 20 21]) (.cond 20 (.seq (.ops [Fa 22 2 2,qd 23 (.zg 22) 1,qd 24 (.call 118 [23]) 3,qd 25 (.call 119 [24]) 7,Fa 26 3 2,qd 27 (.zg 26) 16,qd 28 (.call 118 [27]) 63,qd 29 (.call 124 [25,28]) 127,Fa 30 2 2,qd 31 (.zg 30) 256,qd 32 (.call 118 [31]) 1023,qd 33 (.call 119 [32]) 2047,qd 34 (.call 123 [33]) 4095,qd 35 (.call 120 [29,34]) 8191,qk (.store 3 4 35) 16383] true) .ret) (.seq (OP [Bi 37 .eql 7 (cI 6),qm 36 37]) (.cond 36 (.seq (.ops [Fa 38 2 2,qd 39 (.zg 38) 1,qd 40 (.call 118 [39]) 3,qd 41 (.call 119 [40]) 7,Fa 42 3 2,qd 43 (.zg 42) 16,qd 44 (.call 118 [43]) 63,qd 45 (.call 121 [(cI 10),44]) 127,qd 46 (.call 120 [41,45]) 255,qd 47 (.call 123 [46]) 511,qk (.store 3 4 47) 1023] true) .ret) (.seq (OP [Bi 49 .eql 7 (cI 4),qm 48 49]) (.cond 48 (.seq (OP [qm 50 1,Bi 51 .gtr 50 (cI 0)]) (.cond 51 (.seq (.ops [Fa 52 2 2,qd 53 (.zg 52) 1,qd 54 (.call 118 [53]) 3,LA 55 7 2,qm 56 1,qd 57 (.bin .sub 56 (cI 1)) 16,qd 58 (.call 126 [55,57]) 63,qd 59 (.call 121 [(cI 7),58]) 127,qd 60 (.call 125 [54,59]) 255,q 5 (.alloc [(.int .i64 0),(.int .i64 0),(.slice none 0 0)]),qk (.store 3 5 60) 1023] true) (.seq (.ops [Fa 61 2 2,qd 62 (.zg 61) 1,qd 63 (.call 118 [62]) 3,qd 64 (.call 119 [63]) 7,LA 65 3 5,qd 66 (.call 124 [64,65]) 31,Fa 67 2 2,qd 68 (.zg 67) 64,qd 69 (.call 118 [68]) 255,qd 70 (.call 119 [69]) 511,qd 71 (.call 123 [70]) 1023,qd 72 (.call 120 [66,71]) 2047,qk (.store 3 4 72) 4095] true) .ret)) .skip)) .skip)))))))))))) (.seq (OP [Fa 73 2 2,Lo 74 73,Ca 75 118 [74],Ca 76 119 [75],Ca 77 123 [76],So 3 4 77]) .ret))
theorem zmP:zy Tryz.prog 126 78 [.agg 4 3] c126:=fK Tryz.func126
def c186:PC:=.seq (OP [q 6 (.alloc [(.int .i64 0),(.int .i64 0),(.slice none 0 0)])]) (.seq (.seq (OP [qm 7 0]) (.cond 7 (.seq (OP [qm 8 1,q 9 (.vu 8 []),qm 10 2,q 11 (.vu 10 []),Ca 12 124 [9,11],qm 13 1,q 14 (.vu 13 []),Ca 15 123 [14],Ca 16 120 [12,15],So 3 6 16]) .ret) .skip)) (.seq (OP [qm 17 1,q 18 (.vu 17 []),qm 19 2,q 20 (.vu 19 []),Ca 21 124 [18,20],So 3 6 21]) .ret))
theorem zs3:zy Tryz.prog 186 22 [.agg 6 3] c186:=fK Tryz.func186
def c184:PC:=.seq (OP [q 1 (.alloc [(.int .i64 0),(.int .i64 0),(.slice none 0 0)])]) (.seq (OP [Fa 2 2 0,Lo 3 2,Ca 4 118 [3],Ca 5 119 [4],So 3 1 5]) .ret)
theorem zvb:zy Tryz.prog 184 6 [.agg 1 3] c184:=fK Tryz.func184
def c185:PC:=.seq (OP [q 1 (.alloc [(.int .i64 0),(.int .i64 0),(.slice none 0 0)])]) (.seq (OP [Fa 2 5 0,Lo 3 2,Ca 4 118 [3],So 3 1 4]) .ret)
theorem ztV:zy Tryz.prog 185 5 [.agg 1 3] c185:=fK Tryz.func185
def c187:PC:=.seq (OP [q 1 (.alloc [(.int .i64 0),(.int .i64 0),(.slice none 0 0)])]) (.seq (OP [Fa 2 2 0,Lo 3 2,Ca 4 118 [3],So 3 1 4]) .ret)
theorem zvq:zy Tryz.prog 187 5 [.agg 1 3] c187:=fK Tryz.func187
def c188:PC:=.seq (OP [q 2 (.alloc [(.int .i64 0),(.int .i64 0),(.slice none 0 0)])]) (.seq (.ops [Fa 3 3 0,qd 4 (.zg 3) 1,qd 5 (.call 118 [4]) 3,Lo 6 1,qd 7 (.vu 6 []) 15,qd 8 (.call 120 [5,7]) 31,qk (.store 3 2 8) 63] true) .ret)
theorem zvT:zy Tryz.prog 188 9 [.agg 2 3] c188:=fK Tryz.func188
def c189:PC:=.seq (OP [q 3 (.alloc [(.int .i64 0),(.int .i64 0),(.slice none 0 0)])]) (.seq (.ops [Lo 4 0,qd 5 (.vu 4 []) 1,Lo 6 1,qd 7 (.vu 6 []) 7,qd 8 (.call 119 [7]) 15,Fa 9 3 2,qd 10 (.zg 9) 32,qd 11 (.call 118 [10]) 127,Lo 12 1,qd 13 (.vu 12 []) 511,qd 14 (.call 119 [13]) 1023,qd 15 (.call 125 [11,14]) 2047,qd 16 (.call 124 [8,15]) 4095,qd 17 (.call 120 [5,16]) 8191,qk (.store 3 3 17) 16383] true) .ret)
theorem zuV:zy Tryz.prog 189 18 [.agg 3 3] c189:=fK Tryz.func189
def c190:PC:=.seq (OP [q 4 (.alloc [(.int .i64 0),(.int .i64 0),(.slice none 0 0)])]) (.seq (.ops [Lo 5 0,qd 6 (.vu 5 []) 1,Fa 7 2 1,qd 8 (.zg 7) 4,qd 9 (.call 118 [8]) 15,Lo 10 0,qd 11 (.vu 10 []) 63,qd 12 (.call 119 [11]) 127,qd 13 (.call 125 [9,12]) 255,LA 14 7 1,Lo 15 2,qd 16 (.bin .sub 15 (cI 1)) 1024,Lo 17 3,qd 18 (.call 122 [14,16,17]) 8191,qd 19 (.call 121 [(cI 7),18]) 16383,qd 20 (.call 125 [13,19]) 32767,qd 21 (.call 120 [6,20]) 65535,qk (.store 3 4 21) 131071] true) .ret)
theorem zuv:zy Tryz.prog 190 22 [.agg 4 3] c190:=fK Tryz.func190
def c122:PC:=.seq (OP [Bx 3 0,Bx 4 1,Bx 5 2,q 6 (.alloc [(.int .i64 0),(.int .i64 0),(.slice none 0 0)])]) (.seq (OP [q 10 (.qj (.func 184) [] [3]),q 7 (.alloc [(.nilFunc)]),So 1 7 10]) (.seq (OP [q 11 (.qj (.func 185) [] [3]),q 8 (.alloc [(.nilFunc)]),So 1 8 11]) (.seq (.seq (.stop (OP [Fa 12 0 3,Lo 13 12])) (.block 0 (.seq (OP [Bi 15 .eql 13 (cI 2),qm 14 15]) (.cond 14 (.seq (OP [Lo 16 5,q 17 (.qj (.func 187) [] [3]),Lo 18 8,Ca 19 186 [16,17,18],So 3 6 19]) .ret) (.seq (OP [Bi 21 .eql 13 (cI 3),qm 20 21]) (.cond 20 (.seq (.ops [Lo 22 8,qd 23 (.vu 22 []) 1,qd 24 (.call 119 [23]) 3,Fa 25 2 3,qd 26 (.zg 25) 8,qd 27 (.call 118 [26]) 31,Lo 28 8,qd 29 (.vu 28 []) 127,qd 30 (.call 119 [29]) 255,qd 31 (.call 125 [27,30]) 511,qd 32 (.call 124 [24,31]) 1023,qk (.store 3 6 32) 2047] true) .ret) (.seq (OP [Bi 34 .eql 13 (cI 5),qm 33 34]) (.cond 33 (.seq (OP [Lo 35 5,Lo 36 7,q 37 (.qj (.func 188) [] [3,8]),Ca 38 186 [35,36,37],So 3 6 38]) .ret) (.seq (OP [Bi 40 .eql 13 (cI 6),qm 39 40]) (.cond 39 (.seq (OP [q 41 (.qj (.func 189) [] [7,8,3]),qm 9 41]) (.seq (OP [Lo 42 5,qm 43 9,Lo 44 8,Ca 45 186 [42,43,44],So 3 6 45]) .ret)) (.seq (OP [Bi 47 .eql 13 (cI 4),qm 46 47]) (.cond 46 (.seq (OP [Lo 48 4,Bi 49 .gtr 48 (cI 0)]) (.cond 49 (.seq (OP [Lo 50 5,Lo 51 7,q 52 (.qj (.func 190) [] [8,3,4,5]),Ca 53 186 [50,51,52],So 3 6 53]) .ret) .skip)) .skip)))))))))))) (.seq (OP [Lo 54 5,Lo 55 7,Lo 56 8,Ca 57 186 [54,55,56],So 3 6 57]) .ret))))
theorem zvt:zy Tryz.prog 122 58 [.agg 6 3] c122:=fK Tryz.func122
def c65:PC:=.seq (OP [Bx 1 0,q 2 (.alloc [(.int .i64 0),(.int .i64 0),(.slice none 0 0)])]) (.seq (.ops [Fa 5 4 1,qd 6 (.zg 5) 1,qd 7 (.call 118 [6]) 3,Fa 8 5 1,qd 9 (.zg 8) 8,qd 10 (.call 118 [9]) 31,qd 11 (.call 119 [10]) 63,q 3 (.alloc [(.int .i64 0),(.int .i64 0),(.slice none 0 0)]),q 4 (.alloc [(.int .i64 0),(.int .i64 0),(.slice none 0 0)]),qk (.store 3 3 7) 511,qk (.store 3 4 11) 1023] true) (.seq (.seq (OP [Fa 12 1 1,Lo 13 12]) (.block 0 (.seq (OP [Bi 15 .eql 13 (cI 2),qm 14 15]) (.cond 14 (.seq (.ops [Fa 16 5 1,qd 17 (.zg 16) 1,qd 18 (.call 118 [17]) 3,qd 19 (.call 121 [(cI 10),18]) 7,qd 20 (.call 119 [19]) 15,LA 21 7 1,Fa 22 6 1,qd 23 (.zg 22) 64,qd 24 (.call 122 [21,23,cF]) 255,qd 25 (.call 120 [20,24]) 511,qk (.store 3 2 25) 1023] true) .ret) (.seq (OP [Bi 27 .eql 13 (cI 3),qm 26 27]) (.cond 26 (.seq (.ops [LA 28 3 3,qd 29 (.call 119 [28]) 1,qd 30 (.call 123 [29]) 3,Fa 31 4 1,qd 32 (.zg 31) 8,qd 33 (.call 118 [32]) 31,qd 34 (.call 119 [33]) 63,Fa 35 4 1,qd 36 (.zg 35) 128,qd 37 (.call 118 [36]) 511,LA 38 7 1,Fa 39 6 1,qd 40 (.zg 39) 2048,qd 41 (.call 126 [38,40]) 8191,qd 42 (.call 125 [37,41]) 16383,qd 43 (.call 124 [34,42]) 32767,qd 44 (.call 120 [30,43]) 65535,qk (.store 3 2 44) 131071] true) .ret) (.seq (OP [Bi 46 .eql 13 (cI 4),qm 45 46]) (.cond 45 (.seq (.ops [LA 47 3 3,LA 48 3 4,qd 49 (.call 125 [47,48]) 3,Fa 50 5 1,qd 51 (.zg 50) 8,qd 52 (.call 118 [51]) 31,qd 53 (.call 121 [(cI 10),52]) 63,qd 54 (.call 125 [49,53]) 127,qd 55 (.call 119 [54]) 255,LA 56 7 1,Fa 57 6 1,qd 58 (.zg 57) 1024,qd 59 (.call 122 [56,58,cF]) 4095,qd 60 (.call 120 [55,59]) 8191,qd 61 (.call 123 [60]) 16383,qk (.store 3 2 61) 32767] true) .ret) (.seq (OP [Bi 63 .eql 13 (cI 5),qm 62 63]) (.cond 62 (.seq (.ops [LA 64 3 3,LA 65 3 4,qd 66 (.call 125 [64,65]) 3,qd 67 (.call 119 [66]) 7,LA 68 7 1,Fa 69 6 1,qd 70 (.zg 69) 32,qd 71 (.call 122 [68,70,cT]) 127,qd 72 (.call 120 [67,71]) 255,qd 73 (.call 123 [72]) 511,qk (.store 3 2 73) 1023] true) .ret) .skip)))))))))) (.seq (OP [LA 74 7 1,Fa 75 6 1,Lo 76 75,Ca 77 126 [74,76],So 3 2 77]) .ret)))
theorem zyd:zy Tryz.prog 65 78 [.agg 2 3] c65:=fK Tryz.func65
theorem zlA (x:ZM):∀n:Nat,n≤3→zq Tryz.prog 126 [zbu x,.sc (.int .i64 n)] (zZ (zaf x n)):=by
 intro n
 induction n with
 | zero =>
  intro _
  refine za zmP zs (by simp[ze,Pure,Xl]) ?_ (zm _)
  refine sR ?_
  repeat' (first
   | refine sS (λh=>?_) λh=>?_
   | refine sC (qz _) ?_
   | refine sC (VD _) ?_
   | refine sC (VE _) ?_
   | refine sC (Q0 _ _) ?_
   | refine sC (Qf _ _) ?_
   | refine sC (Xs _ _) ?_
   | refine sC (Vs 10 _) ?_
   | exact ZJ (by simp_all [zaf,zfX,noP]) (.refl _))
 | succ n ih =>
  intro hn
  have ih:=ih zo
  refine za zmP zs (by simp[ze,Pure,Xl]) ?_ (zm _)
  refine sR ?_
  repeat' (first
   | refine sS (λh=>?_) λh=>?_
   | refine sC (qz _) ?_
   | refine sC (VD _) ?_
   | refine sC (VE _) ?_
   | refine sC (Q0 _ _) ?_
   | refine sC (Qf _ _) ?_
   | refine sC (Xs _ _) ?_
   | refine sC (Vs 10 _) ?_
   | refine sC (Vs 7 _) ?_
   | refine sC ih ?_
   | (refine .inl ⟨by unfold InR;rw[IntKind.wrap_i64];omega,?_⟩;rw[show(((n+1:Nat):Int)-1)=(n:Int) by omega];refine sW ?_)
   | exact ZJ (by simp_all [zaf,zfX,noP]) (.refl _))
theorem XJ (weak:Bool) (f g:FuncId) (c1 c2:List D) (h1:ze c1) (h2:ze c2) (a b:Tree) (hA:zq Tryz.prog f c1 (zZ a)) (hB:zq Tryz.prog g c2 (zZ b)) :
  zq Tryz.prog 186 [.sc (.bool weak),.fn (.func f) [] c1,.fn (.func g) [] c2] (zZ (QR weak a b)):=by
 refine za zs3 zs (by simp[ze,Pure,h1,h2]) ?_ (zm _)
 refine sR ?_
 repeat' (first
  | refine sS (λh=>?_) λh=>?_
  | refine sC hA ?_
  | refine sC hB ?_
  | refine sC (VE _) ?_
  | refine sC (Q0 _ _) ?_
  | refine sC (Xs _ _) ?_
  | exact ZJ (by simp_all [QR]) (.refl _))
def zjU (x:ZM):D:=.fn (.func 184) [] [.y7 (zW x)]
def fnR (x:ZM):D:=.fn (.func 185) [] [.y7 (zW x)]
theorem zeG (x:ZM):zq Tryz.prog 184 [.y7 (zW x)] (zZ (noP x)):=by
 refine za zvb zs (by simp[ze,Pure,zW]) ?_ (zm _)
 refine sR ?_
 refine sC (qz _) ?_
 refine sC (VD _) ?_
 exact .refl _
theorem Jr (x:ZM):zq Tryz.prog 185 [.y7 (zW x)] (zZ (yB 3 x.r)):=by
 refine za ztV zs (by simp[ze,Pure,zW]) ?_ (zm _)
 refine sR ?_
 refine sC (qz _) ?_
 exact .refl _
theorem zz0 (x:ZM):zq Tryz.prog 187 [.y7 (zW x)] (zZ (yB 3 x.p)):=by
 refine za zvq zs (by simp[ze,Pure,zW]) ?_ (zm _)
 refine sR ?_
 refine sC (qz _) ?_
 exact .refl _
theorem zy6 (x:ZM):zq Tryz.prog 188 [.y7 (zW x),.y7 [fnR x]] (zZ (vx 6 (yB 3 x.s) (yB 3 x.r))):=by
 refine za zvT zs (by simp[ze,Pure,zW,fnR]) ?_ (zm _)
 refine sR ?_
 repeat' (first
  | refine sC (qz _) ?_
  | refine sC (Jr x) ?_
  | refine sC (Q0 _ _) ?_
  | exact ZJ rfl (.refl _))
theorem zyx (x:ZM):zq Tryz.prog 189 [.y7 [zjU x],.y7 [fnR x],.y7 (zW x)] (zZ (zm8 x)):=by
 refine za zuV zs (by simp[ze,Pure,zW,fnR,zjU]) ?_ (zm _)
 refine sR ?_
 repeat' (first
  | refine sC (qz _) ?_
  | refine sC (zeG x) ?_
  | refine sC (Jr x) ?_
  | refine sC (Q0 _ _) ?_
  | refine sC (Qf _ _) ?_
  | refine sC (Xs _ _) ?_
  | refine sC (VD _) ?_
  | exact ZJ rfl (.refl _))
theorem zxz (x:ZM) (n:Nat) (hn:n≤3) (weak:Bool) (T:Tree) (h:zq Tryz.prog 122 [zbu x,.sc (.int .i64 n),.sc (.bool weak)] (zZ T)) :
  zq Tryz.prog 190 [.y7 [fnR x],.y7 (zW x),.y7 [.sc (.int .i64 ((n+1:Nat):Int))],.y7 [.sc (.bool weak)]] (zZ (ziC x T)):=by
 refine za zuv zs (by simp[ze,Pure,zW,fnR]) ?_ (zm _)
 refine sR ?_
 repeat' (first
  | refine sC (qz _) ?_
  | refine sC (Jr x) ?_
  | refine sC (Q0 _ _) ?_
  | refine sC (Qf _ _) ?_
  | refine sC (Vs 7 _) ?_
  | refine sC (VD _) ?_
  | refine sC h ?_
  | (refine .inl ⟨by unfold InR;rw[IntKind.wrap_i64];omega,?_⟩;rw[show(((n+1:Nat):Int)-1)=(n:Int) by omega];refine sW ?_)
  | exact ZJ rfl (.refl _))
theorem zrk (x:ZM) (n:Nat) (weak:Bool) (T:Tree) (h6:0<n→zq Tryz.prog 190 [.y7 [fnR x],.y7 (zW x),.y7 [.sc (.int .i64 n)],.y7 [.sc (.bool weak)]] (zZ (ziC x T))) :
  zq Tryz.prog 122 [zbu x,.sc (.int .i64 n),.sc (.bool weak)] (zZ (upN x weak (decide (0<n)) T)):=by
 refine za zvt zs (by simp[ze,Pure,Xl]) ?_ (zm _)
 refine sR ?_
 refine zG (Z9 (λi=>!(Nat.beq i 3)) (env':=[(3,.y7 (zW x)),(4,.y7 [.sc (.int .i64 n)]),(5,.y7 [.sc (.bool weak)]),(6,.loc 3 0),(7,.y7 [zjU x]),(8,.y7 [fnR x])])
  (H':=[.row false (zW x),.row false [.sc (.int .i64 n)],.row false [.sc (.bool weak)],.row true [.sc (.int .i64 0),.sc (.int .i64 0),.sc (.slice none 0 0)],.row false [zjU x],.row false [fnR x]]) ?_ ?_) ?_
 ·exact sD
 ·exact sD
 refine sR ?_
 repeat' (first
  | refine sS (λh=>?_) λh=>?_
  | refine sC (qz _) ?_
  | refine sC (zeG x) ?_
  | refine sC (Jr x) ?_
  | refine sC (VD _) ?_
  | refine sC (Qf _ _) ?_
  | refine sC (Xs _ _) ?_
  | refine sC (XJ weak _ _ _ _ (by simp[ze,Pure,zW]) (by simp[ze,Pure,zW]) _ _ (zz0 x) (Jr x)) ?_
  | refine sC (XJ weak _ _ _ _ (by simp[ze,Pure,zW]) (by simp[ze,Pure,zW,fnR]) _ _ (zeG x) (zy6 x)) ?_
  | refine sC (XJ weak _ _ _ _ (by simp[ze,Pure,zW,fnR,zjU]) (by simp[ze,Pure,zW]) _ _ (zyx x) (Jr x)) ?_
  | refine sC (XJ weak _ _ _ _ (by simp[ze,Pure,zW]) (by simp[ze,Pure,zW,fnR]) _ _ (zeG x) (h6 (sO))) ?_
  | refine sC (XJ weak _ _ _ _ (by simp[ze,Pure,zW]) (by simp[ze,Pure,zW]) _ _ (zeG x) (Jr x)) ?_
  | exact ZJ (by simp_all [upN,QR,noR]) (.refl _))
theorem zqC (x:ZM) (weak:Bool):∀n:Nat,n≤3→zq Tryz.prog 122 [zbu x,.sc (.int .i64 n),.sc (.bool weak)] (zZ (upT x weak n)):=by
 intro n
 induction n with
 | zero=>exact λ_=>zrk x 0 weak (yB 0 0) (λh=>zo)
 | succ n ih =>
  intro hn
  have:=zrk x (n+1) weak (upT x weak n) (λ_=>zxz x n zo weak _ (ih zo))
  rw[show decide (0<n+1)=true from rfl] at this
  exact this
theorem zqf (x:ZM) (h:u0 x=0):zq Tryz.prog 65 [zbu x] (zZ (xz x)):=by
 have hc:0≤x.count∧x.count≤3:=by
  unfold u0 at h
  split at h<;>omega
 have hn:x.count=(x.count.toNat:Int):=zo
 have hg:=zlA x x.count.toNat zo
 have hu:=λweak=>zqC x weak x.count.toNat zo
 rw[←hn] at hg hu
 clear hn hc h
 refine za zyd zs (by simp[ze,Xl]) ?_ (zm _)
 refine sR ?_
 repeat' (first
  | refine sS (λh=>?_) λh=>?_
  | refine sC hg ?_
  | refine sC (hu true) ?_
  | refine sC (hu false) ?_
  | refine sC (qz _) ?_
  | refine sC (VD _) ?_
  | refine sC (VE _) ?_
  | refine sC (Q0 _ _) ?_
  | refine sC (Qf _ _) ?_
  | refine sC (Xs _ _) ?_
  | refine sC (Vs 10 _) ?_
  | exact ZJ (by simp_all [xz,noR]) (.refl _))
end
section
open Go.RowKit
set_option maxHeartbeats 4000000
end
section
open Go.RowKit
end
section
open Go.RowKit
noncomputable def UQ (e:Int) (t:Tree):D:=.yO [zZ (if e=0 then t else yB 0 0),.sc (.int .i64 e)]
theorem Jf (e:Int) (t:Tree):Pure (UQ e t):=by simp[UQ,Pure,ze,zm]
theorem zbq {H:List zf} {e:Int} (h:e≠0) (t:Tree):Deep H (.yO [.agg [.sc (.int .i64 0),.sc (.int .i64 0),.sc (.slice none 0 0)],.sc (.int .i64 e)]) (UQ e t):=by
 unfold UQ
 rw[if_neg h]
 exact .yO _ _ (.cons _ _ _ _ zo4 (.cons _ _ _ _ (.refl _) .nil))
theorem zdR {H:List zf} {e:Int} (h:e=0) {d:D} {t:Tree} (k:Deep H d (zZ t)):Deep H (.yO [d,.sc (.int .i64 0)]) (UQ e t):=by
 subst h
 unfold UQ
 rw[if_pos rfl]
 exact .yO _ _ (.cons _ _ _ _ k (.cons _ _ _ _ (.refl _) .nil))
noncomputable def zed (x:ZM):Int:=if u0 x=0 then yJ zP (xz x) else u0 x
noncomputable def zwB (k a b c:Int):Int:=if zcD k a b c=0 then yJ zP (znC k a b c) else zcD k a b c
def c30u:PC:=.seq (OP [Bx 1 0,q 2 (.alloc [(.int .i64 0),(.int .i64 0),(.slice none 0 0)]),Mv 3 (cI 0)]) (.seq (.seq (OP [LA 7 7 1,Ca 8 43 [7],qm 4 8]) (.seq (OP [qm 9 4,Bi 10 .neq 9 (cI 0)]) (.cond 10 (.seq (OP [q 11 (.build [(.int .i64 0),(.int .i64 0),(.slice none 0 0)] []),qm 12 4,So 3 2 11,qm 3 12]) .ret) .skip))) (.seq (OP [LA 13 7 1,Ca 14 65 [13],q 5 (.alloc [(.int .i64 0),(.int .i64 0),(.slice none 0 0)]),So 3 5 14]) (.seq (.seq (OP [LA 15 3 5,Ca 16 32 [15],qm 6 16]) (.seq (OP [qm 17 6,Bi 18 .neq 17 (cI 0)]) (.cond 18 (.seq (OP [q 19 (.build [(.int .i64 0),(.int .i64 0),(.slice none 0 0)] []),qm 20 6,So 3 2 19,qm 3 20]) .ret) .skip))) (.seq (OP [LA 21 3 5,So 3 2 21,Mv 3 (cI 0)]) .ret))))
theorem zuh:zy Tryz.prog 30 22 [.agg 2 3,.tmp 3] c30u:=fK Tryz.func30
theorem zoX (x:ZM):zq Tryz.prog 30 [zbu x] (UQ (zed x) (xz x)):=by
 refine za zuh zs (by simp[ze,Xl]) ?_ (Jf _ _)
 unfold zed
 refine sR ?_
 refine sC (zbA x) ?_
 refine sS (λh1=>?_) λh1=>?_
 ·rw[if_neg (sO)]
  exact zbq (sO) _
 ·have h0:u0 x=0:=sO
  rw[if_pos h0]
  refine sC (zqf x h0) ?_
  refine sC (Xk _ (zaz x)) ?_
  refine sS (λh2=>?_) λh2=>?_
  ·exact zbq (sO) _
  ·exact zdR (sO) (.refl _)
theorem zpv {t:Tree} {k:Nat} (hk:k<t.width):List.drop 0 (List.take k ((t.kids.take k).map y6))++[yo (t.yD k)]=(t.kids.take (k+1)).map y6:=by
 have:=zfH y6 (kid_get? hk)
 rwa [Zj] at this
def zAr:PC:=.seq (OP [Bi 15 .lss 14 13]) (.seq (.cond 15 .skip (.exit 0)) (.seq (.block 1 (.seq (OP [Ia 16 3 12 14,LA 17 3 16,q 5 (.alloc [(.int .i64 0),(.int .i64 0),(.slice none 0 0)]),So 3 5 17]) (.ops [Fa 18 2 3,qd 19 (.zg 18) 1,LA 20 3 5,qd 21 (.call 33 [20]) 4,qd 22 (.xe 3 1 [21]) 12,qd 23 (.append 3 40 19 22) 31,qd 24 (.zz 2 3) 63,qk (.store 1 24 23) 127] true))) (OP [Bi 25 .add 14 (cI 1),qm 14 25])))
def c33:PC:=.seq (OP [Bx 1 0,q 2 (.alloc [(.int .i64 0),(.int .i64 0),(.slice none 0 0)])]) (.seq (OP [Fa 6 0 1,Lo 7 6,Fa 8 1 1,Lo 9 8,q 10 (.build [(.int .i64 0),(.int .i64 0),(.slice none 0 0)] [(0,1,7),(1,1,9)]),q 3 (.alloc [(.int .i64 0),(.int .i64 0),(.slice none 0 0)]),So 3 3 10]) (.seq (.seq (OP [Fa 11 2 1,Lo 12 11,Ln 13 12,Mv 14 (cI 0)]) (.block 0 (.loop zAr))) (.seq (OP [LA 26 3 3,So 3 2 26]) .ret)))
theorem zzl:zy Tryz.prog 33 27 [.agg 2 3] c33:=fK Tryz.func33
theorem zjJ:∀t:Tree,t.wf zP→zq Tryz.prog 33 [zZ t] (zZ t):=by
 intro t
 induction t using Tree.ind with
 | h t ih =>
  intro hwf
  have hs:=WU t hwf
  have hsz:=hs.width
  have har:=vZ ((xM _ _).1 hwf).1
  refine za zzl zs (by simp[ze,zm]) ?_ (zm _)
  refine sR ?_
  rw[List.length_map]
  refine zG (yV 2 2 3 zs rfl rfl) ?_
  refine zO [2,3,12,13] (λk:Nat=>[(14,.sc (.int .i64 k))]) (λk=>[(2,.row true [.sc (.int .i64 t.kind),.sc (.int .i64 t.num),.own 3 k 0 k]),(3,.vec true k 3 ((t.kids.take k).map y6))]) (λk=>k≤t.width) (λk=>t.width-k) 0 ?_
  refine sW ?_
  refine⟨zo,by exact sK,rfl,?_⟩
  rintro k hk
  refine sW ?_
  refine sR ?_
  refine sS (λh1=>?_) λh1=>?_
  ·have hk':k<t.width:=by simpa [Tree.width] using h1
   refine sL (y8 hk') ?_
   refine sC (ih k hk' (x9 hwf hk')) ?_
   refine sJ ?_
   refine sI ?_
   refine⟨k+1,zo,zd,?_⟩
   refine zj 4 zs rfl sQ (sU ?_)
   exact zp (zpv hk')
  ·have hk':k=t.width:=by have:¬k<t.width:=by simpa [Tree.width] using h1
                          omega
   subst hk'
   refine .agg _ _ (.cons _ _ _ _ (.refl _) (.cons _ _ _ _ (.refl _) (.cons _ _ _ _ (.own _ _ _ _ _ _ _ _ rfl ?_) .nil)))
   rw[zu (by simp[Tree.width]),Tree.width,List.take_length]
   exact z6 _
end
section
open Go.RowKit
def ZU (name:ByteArray) (sort:Int) (x:ZM) (k a b c:Int) (f g:Tree):List D:=.sc (.string name)::.sc (.int .i64 sort)::(zW x++(Zq k a b c++(yo f++yo g)))
def wy (name:ByteArray) (sort:Int) (x:ZM) (k a b c:Int) (f g:Tree):D:=.agg (ZU name sort x k a b c f g)
theorem zby {a b:List D} (h:ze a) (k:ze b):ze (a++b):=by
 induction a with
 | nil=>exact k
 | cons d r ih=>exact⟨h.1,ih h.2⟩
theorem xA (name:ByteArray) (sort:Int) (x:ZM) (k a b c:Int) (f g:Tree):Pure (wy name sort x k a b c f g):=by
 simp only[wy,Pure,ZU,ze,true_and]
 exact zby (by simp[zW,ze,Pure]) (zby (by simp[Zq,ze,Pure]) (zby (ym f) (ym g)))
noncomputable def zaB (sort:Int) (x:ZM) (k a b c:Int) (f:Tree):Int:=if sort=1 then zed x else if sort=2 then zwB k a b c else if sort=3 then yJ zP f else 1
noncomputable def wL (sort:Int) (x:ZM) (k a b c:Int) (f:Tree):Tree:=if sort=1 then xz x else if sort=2 then znC k a b c else f
def c14:PC:=.seq (OP [Bx 1 0,q 2 (.alloc [(.int .i64 0),(.int .i64 0),(.slice none 0 0)]),Mv 3 (cI 0)]) (.seq (.seq (OP [Fa 5 1 1,Lo 6 5]) (.block 0 (.seq (OP [Bi 8 .eql 6 (cI 1),qm 7 8]) (.cond 7 (.seq (OP [Fa 9 2 1,LA 10 7 9,Ca 11 30 [10],Xt 12 0 11,Xt 13 1 11,So 3 2 12,qm 3 13]) .ret) (.seq (OP [Bi 15 .eql 6 (cI 2),qm 14 15]) (.cond 14 (.seq (OP [Fa 16 9 1,LA 17 4 16,Ca 18 31 [17],Xt 19 0 18,Xt 20 1 18,So 3 2 19,qm 3 20]) .ret) (.seq (OP [Bi 22 .eql 6 (cI 3),qm 21 22]) (.cond 21 (.seq (.seq (OP [Fa 23 13 1,LA 24 3 23,Ca 25 32 [24],qm 4 25]) (.seq (OP [qm 26 4,Bi 27 .neq 26 (cI 0)]) (.cond 27 (.seq (OP [q 28 (.build [(.int .i64 0),(.int .i64 0),(.slice none 0 0)] []),qm 29 4,So 3 2 28,qm 3 29]) .ret) .skip))) (.seq (OP [Fa 30 13 1,LA 31 3 30,Ca 32 33 [31],So 3 2 32,Mv 3 (cI 0)]) .ret)) .skip)))))))) (.seq (OP [q 33 (.build [(.int .i64 0),(.int .i64 0),(.slice none 0 0)] []),So 3 2 33,Mv 3 (cI 1)]) .ret))
theorem zq7:zy Tryz.prog 14 34 [.agg 2 3,.tmp 3] c14:=fK Tryz.func14
theorem zje (sort:Int) (x:ZM) (k a b c:Int) (f:Tree) (hf:Small f):Small (wL sort x k a b c f):=by
 unfold wL
 split
 ·exact zaz x
 ·split
  ·exact zks k a b c
  ·exact hf
end
section
theorem xB {a b:Int} (h:a≠b):(a==b)=false:=by simpa using h
theorem zbn {a b:Int} (h:a=b):(a==b)=true:=by simpa using h
def rnm (names:List ByteArray) (silent:Bool) (n:Int):ByteArray :=
 if n=63∧silent=true then Xb
 else if n<0∨(names.length:Int)≤n∨63≤n then ⟨#[]⟩
 else if xb (names.getD n.toNat ⟨#[]⟩)=false then ⟨#[]⟩
 else if zaw names n.toNat (names.getD n.toNat ⟨#[]⟩)=true then ⟨#[]⟩
 else names.getD n.toNat ⟨#[]⟩
def QX (x:ZM):List Int:=if x.kind=5∨x.kind=6 then [x.s,x.p] else [x.p]
def Jl (x:ZM):List Int:=if x.scope=2 then [x.r] else if x.scope=3 then [x.q] else if x.scope=4∨x.scope=5 then [x.q,x.r] else []
def zzC (k a b:Int):List Int:=if k≤4 then [a] else [a,b]
def zel (names:List ByteArray) (silent:Bool) (n:Int):Bool:=ZR (rnm names silent n) ⟨#[]⟩
def w7 (names:List ByteArray) (sort:Int) (x:ZM) (k a b c:Int) (f g:Tree):Int :=
 if sort=1 then (if u0 x=0∧(QX x++Jl x).any (zel names true)=true then 4 else u0 x)
 else if sort=2 then (if zcD k a b c=0∧(zzC k a b).any (zel names false)=true then 4 else zcD k a b c)
 else if sort=3 then (if yJ zP f=0 then (if qs names f then 0 else 4) else yJ zP f)
 else if sort=4 then (if yJ xn g=0 then (if qs names g then 0 else 4) else yJ xn g) else 0
def U3 (sort:Int) (x:ZM) (k a b c:Int) (f g:Tree):Bool :=
 decide (sort≠1)&&!(x.kind==0&&x.scope==0&&x.p==0&&x.s==0&&x.q==0&&x.r==0&&x.count==0)||decide (sort≠2)&&!(k==0&&a==0&&b==0&&c==0) ||
  decide (sort≠3)&&(f.kind != 0||f.num != 0||decide (f.width>0))||decide (sort≠4)&&(g.kind != 0||g.num != 0||decide (g.width>0))
def wK (names:List ByteArray) (name:ByteArray) (sort:Int) (x:ZM) (k a b c:Int) (f g:Tree):Int :=
 if xb name=false∨sort<1∨4<sort then 1 else if w7 names sort x k a b c f g≠0 then w7 names sort x k a b c f g else if U3 sort x k a b c f g=true then 1 else 0
end
section
open Go.RowKit
def zBU:PC:=.seq (OP [Bi 19 .lss 18 17]) (.seq (.cond 19 .skip (.exit 0)) (.seq (.block 1 (.seq (OP [qm 20 18,qm 6 20]) (OP [qm 21 5,qm 22 6,Ia 23 1 21 22,So 1 23 cT]))) (OP [Bi 24 .add 18 (cI 1),qm 18 24])))
def c53:PC:=.seq (OP [Bx 1 0,Mv 2 cN,Mv 3 (cI 0)]) (.seq (.seq (OP [LA 7 4 1,Ca 8 34 [7],qm 4 8]) (.seq (OP [qm 9 4,Bi 10 .neq 9 (cI 0)]) (.cond 10 (.seq (OP [qm 11 4,Mv 2 cN,qm 3 11]) .ret) .skip))) (.seq (OP [Fa 12 1 1,Lo 13 12,Ln 14 13,q 15 (.wE 1 1 [(.bool false)] 14 14),qm 5 15]) (.seq (.seq (OP [qm 16 5,Ln 17 16,Mv 18 (cI 0)]) (.block 0 (.loop zBU))) (.seq (OP [LA 25 4 1,qm 26 5,Ca 27 112 [25,26],qm 2 27,Mv 3 (cI 0)]) .ret))))
theorem zyc:zy Tryz.prog 53 28 [.tmp 2,.tmp 3] c53:=fK Tryz.func53
theorem zvf (W:zA) (hW:W.Fits) (hc:W.yJ=0):zq Tryz.prog 53 [wC W] (.yO [uh W.next.length (fwB (uG W.next XL) (W.fair.map XI)),.sc (.int .i64 0)]):=by
 obtain⟨_,h600,h80,_,hnx,hfr⟩:=qa W hc
 have hC:=J8 W hW
 rw[hc] at hC
 have hWi:=zgs W hW hc XL
 refine za zyc zs (by simp[ze,wb]) ?_ (by simp[Pure,ze,zV])
 unfold wC at *
 refine sR ?_
 refine sC hC ?_
 rw[List.length_map]
 refine⟨zo,zo,zo,?_⟩
 rw[Int.toNat_natCast,show List.map D.sc [Value.bool false]=[D.sc (.bool false)] from rfl,ZE]
 refine sW ?_
 refine zO [1,5,17] (λk:Nat=>[(18,.sc (.int .i64 k))]) (λk=>[(1,.vec true 0 1 (Z8 W.next.length λi=>decide (i<k)))]) (λk=>k≤W.next.length) (λk=>W.next.length-k) 0 ?_
 refine sW ?_
 refine⟨zo,by exact sK,by simp;rfl,?_⟩
 rintro k hk
 refine sW ?_
 refine sR ?_
 refine sS (λq0=>?_) λq0=>?_
 ·have q0:k<W.next.length:=sO
  refine sB ?_
  refine⟨_,yd k zo q0,?_⟩
  refine sW ?_
  refine sI ?_
  refine⟨k+1,zo,zd,zD (by exact sK) ?_⟩
  rw[uC (i:=k) (f':=λi=>decide (i<k+1)) zo λv _=>by
   by_cases e:v=k
   ·rw[if_pos e];simp;omega
   ·rw[if_neg e,Bool.eq_iff_iff];simp;omega]
  rfl
 have q0:k=W.next.length:=by have:¬k<W.next.length:=sO
                             omega
 subst q0
 rw[xV (g':=XL) λi hi=>by simp[hi,XL]]
 rw[show uh W.next.length XL=D.xj 1 (List.drop 0 (List.take W.next.length (Z8 W.next.length XL))) from by rw[zcx];rfl] at hWi
 refine sE (qf (pre:=[_]) (post:=[]) hWi (zV _ _) ⟨by simp only[Pure];exact Zy W,trivial⟩ trivial (XM _ _) rfl) ?_
 exact .refl _
end
section
inductive Eu (g:List (List Int)) (a c:Nat→Bool):Nat→Prop
 | base {i:Nat} (h:c i=true):Eu g a c i
 | step {i:Nat} {x:Int} (h:a i=true) (k:x∈g.getD i []) (m:Eu g a c x.toNat):Eu g a c i
open Classical in
noncomputable def euB (g:List (List Int)) (a c:Nat→Bool) (v:Nat):Bool:=decide (Eu g a c v)
theorem zmy {g:List (List Int)} {a c:Nat→Bool} {v:Nat}:euB g a c v=true↔Eu g a c v:=by unfold euB;simp
theorem zzz {g:List (List Int)} {a c:Nat→Bool} {v:Nat} {b:Bool} (h:b=true↔Eu g a c v):b=euB g a c v:=by
 rw[Bool.eq_iff_iff,h,zmy]
structure EuI (g:List (List Int)) (a c:Nat→Bool) (s:Nat→Bool) (Q:List Nat):Prop where
 sound:∀v,s v=true→Eu g a c v
 start:∀v,c v=true→s v=true
 here:∀v,v∈Q→s v=true
 closed:∀v,s v=true→v∈Q∨∀k x,x∈g.getD k []→x.toNat=v→a k=true→s k=true
structure EuJ (g:List (List Int)) (a c:Nat→Bool) (s:Nat→Bool) (Q:List Nat) (n:Nat) (D:List Nat):Prop where
 sound:∀v,s v=true→Eu g a c v
 start:∀v,c v=true→s v=true
 here:∀v,v∈n::Q→s v=true
 closed:∀v,s v=true→v=n∨v∈Q∨∀k x,x∈g.getD k []→x.toNat=v→a k=true→s k=true
 done:∀k,k∈D→a k=true→s k=true
theorem EuI.pop {g:List (List Int)} {a c s:Nat→Bool} {n:Nat} {Q:List Nat} (h:EuI g a c s (n::Q)):EuJ g a c s Q n [] where
 sound:=h.sound
 start:=h.start
 here:=h.here
 closed v hv:=by
  rcases h.closed v hv with q|q
  ·rcases List.mem_cons.1 q with e|e
   ·exact .inl e
   ·exact .inr (.inl e)
  ·exact .inr (.inr q)
 done k hk:=by cases hk
theorem EuJ.skip {g:List (List Int)} {a c s:Nat→Bool} {n k:Nat} {Q D:List Nat} (h:EuJ g a c s Q n D) (hk:a k=true→s k=true):EuJ g a c s Q n (D++[k]) where
 sound:=h.sound
 start:=h.start
 here:=h.here
 closed:=h.closed
 done j hj ha:=by
  rcases List.mem_append.1 hj with q|q
  ·exact h.done j q ha
  ·rw[List.mem_singleton] at q;subst q;exact hk ha
theorem EuJ.push {g:List (List Int)} {a c s:Nat→Bool} {n k:Nat} {Q D:List Nat} (h:EuJ g a c s Q n D) {x:Int} (hx:x∈g.getD k []) (hn:x.toNat=n) (ha:a k=true):EuJ g a c (mark s k) (Q++[k]) n (D++[k]) where
 sound v hv:=by
  rcases Yv.1 hv with e|e
  ·subst e;exact .step ha hx (by rw[hn];exact h.sound n (h.here n zs))
  ·exact h.sound v e
 start v hv:=xD (h.start v hv)
 here v hv:=by
  rcases List.mem_cons.1 hv with e|e
  ·exact xD (h.here v (by simp[e]))
  ·rcases List.mem_append.1 e with e|e
   ·exact xD (h.here v (by simp[e]))
   ·rw[List.mem_singleton] at e;subst e;exact wS _ _
 closed v hv:=by
  rcases Yv.1 hv with e|e
  ·exact .inr (.inl (by simp[e]))
  ·rcases h.closed v e with q|q|q
   ·exact .inl q
   ·exact .inr (.inl (by simp[q]))
   ·exact .inr (.inr λj y h1 h2 h3=>xD (q j y h1 h2 h3))
 done j hj h3:=by
  rcases List.mem_append.1 hj with q|q
  ·exact xD (h.done j q h3)
  ·rw[List.mem_singleton] at q;subst q;exact wS _ _
theorem EuJ.fin {g:List (List Int)} {a c s:Nat→Bool} {n:Nat} {Q D:List Nat} (h:EuJ g a c s Q n D) (hD:∀k x,x∈g.getD k []→x.toNat=n→k∈D):EuI g a c s Q where
 sound:=h.sound
 start:=h.start
 here v hv:=h.here v (by simp[hv])
 closed v hv:=by
  rcases h.closed v hv with q|q|q
  ·subst q;exact .inr λk x h1 h2 h3=>h.done k (hD k x h1 h2) h3
  ·exact .inl q
  ·exact .inr q
theorem EuI.end_ {g:List (List Int)} {a c s:Nat→Bool} (h:EuI g a c s []) (v:Nat):s v=euB g a c v:=zzz ⟨h.sound v,λq=>by
 induction q with
 | base h'=>exact h.start _ h'
 | step h1 k _ ih=>exact(h.closed _ ih).elim (λq=>by cases q) λq=>q _ _ k rfl h1⟩
end
section
section
open Go.RowKit
noncomputable def Wq (W:zA):Nat→Bool:=fwB (uG W.next XL) (W.fair.map XI)
noncomputable def zfu (W:zA):List D:=[zB W.start,ya W.next,uX W.label,ya W.fair,uh W.next.length (Wq W),ya (xk W.next W.next.length)]
noncomputable def Yy (W:zA):D:=.y7 (zfu W)
theorem zoF (W:zA):ze (zfu W):=by simp[zfu,ze,zi,z7,ur,zV]
theorem wi (W:zA):Pure (Yy W):=by simp only[Yy,Pure];exact zoF W
def xt (a:Nat→Bool):Nat→Bool:=λi=>!a i
def WH (a b:Nat→Bool):Nat→Bool:=λi=>a i&&b i
def orF (a b:Nat→Bool):Nat→Bool:=λi=>a i||b i
noncomputable def Jz (W:zA) (a:Nat→Bool):Nat→Bool:=λi=>(W.next.getD i []).any λx=>a x.toNat&&Wq W x.toNat
noncomputable def euF (W:zA) (a b:Nat→Bool):Nat→Bool:=euB W.next a (WH b (Wq W))
noncomputable def egF (W:zA) (a:Nat→Bool):Nat→Bool:=fwB (uG W.next a) (W.fair.map XI)
noncomputable def auF (W:zA) (a b:Nat→Bool):Nat→Bool:=xt (orF (euF W (xt b) (WH (xt a) (xt b))) (egF W (xt b)))
def zBM:PC:=.seq (OP [Bi 17 .lss 16 15]) (.seq (.cond 17 .skip (.exit 0)) (.seq (.block 1 (.seq (OP [qm 18 16,qm 6 18]) (OP [qm 19 5,qm 20 6,qm 21 1,qm 22 6,q 23 (.vu 21 [22]),Ia 24 1 19 20,So 1 24 23]))) (OP [Bi 25 .add 16 (cI 1),qm 16 25])))
def c55:PC:=.seq (OP [Mv 4 cN]) (.seq (OP [qm 7 0,q 8 (.zn 7),Fa 9 0 8,Fa 10 1 9,Lo 11 10,Ln 12 11,q 13 (.wE 1 1 [(.bool false)] 12 12),qm 5 13]) (.seq (.seq (OP [qm 14 5,Ln 15 14,Mv 16 (cI 0)]) (.block 0 (.loop zBM))) (.seq (OP [qm 26 5,qm 4 26]) .ret)))
theorem zqB:zy Tryz.prog 55 27 [.tmp 4] c55:=fK Tryz.func55
theorem U7 (W:zA) (h6:W.next.length≤1000000) (p:Nat→Bool) (cl:FuncId) (caps:List D) (hcaps:ze caps) (hc:∀i:Nat,i<W.next.length→zq Tryz.prog cl (.sc (.int .i64 i)::caps) (.sc (.bool (p i)))) :
  zq Tryz.prog 55 [Yy W,.fn (.func cl) [] caps] (uh W.next.length p):=by
 refine za zqB zs (by simp[ze,Pure,wi,hcaps]) ?_ (zV _ _)
 unfold Yy zfu
 refine sR ?_
 rw[List.length_map]
 refine⟨zo,zo,zo,?_⟩
 rw[Int.toNat_natCast,show List.map D.sc [Value.bool false]=[D.sc (.bool false)] from rfl,ZE]
 refine sW ?_
 refine zO [1,5,15] (λk:Nat=>[(16,.sc (.int .i64 k))]) (λk=>[(0,.vec true 0 1 (Z8 W.next.length λi=>if i<k then p i else false))]) (λk=>k≤W.next.length) (λk=>W.next.length-k) 0 ?_
 refine sW ?_
 refine⟨zo,by exact sK,by simp;rfl,?_⟩
 rintro k hk
 refine sW ?_
 refine sR ?_
 refine sS (λq0=>?_) λq0=>?_
 ·have q0:k<W.next.length:=sO
  refine sC (hc k q0) ?_
  refine sB ?_
  refine⟨_,yd k zo q0,?_⟩
  refine sW ?_
  refine sI ?_
  refine⟨k+1,zo,zd,zD (by exact sK) ?_⟩
  rw[uC (i:=k) (f':=λi=>if i<k+1 then p i else false) zo λv _=>by
   by_cases e:v=k
   ·subst e;rw[if_pos zo,if_pos rfl]
   ·rw[if_neg e]
    by_cases e2:v<k
    ·rw[if_pos e2,if_pos zo]
    ·rw[if_neg e2,if_neg zo]]
  rfl
 ·have q0:k=W.next.length:=by have:¬k<W.next.length:=sO
                              omega
  subst q0
  rw[xV (g':=p) λi hi=>if_pos hi]
  exact UH rfl
theorem zp9 (W:zA) (h6:W.next.length≤1000000) (p:Nat→Bool) (cl:FuncId) (x y:D) (hx:Pure x) (hy:Pure y) (hc:∀i:Nat,i<W.next.length→zq Tryz.prog cl [.sc (.int .i64 i),.y7 [x],.y7 [y]] (.sc (.bool (p i)))) :
  yu Tryz.prog 55 [Yy W,.fn (.func cl) [] [.loc 0 0,.loc 1 0]] [.row true [x],.row true [y]] (.own 2 0 0 W.next.length) [.row true [x],.row true [y],.vec true 0 1 (Z8 W.next.length p)]:=by
 refine z1 zqB zs zs ?_ (by simp[zt]) (by
  intro o ho
  simp only[List.mem_cons,List.not_mem_nil,or_false] at ho
  rcases ho with rfl|rfl|rfl
  ·exact⟨zw _ hx,trivial⟩
  ·exact⟨zw _ hy,trivial⟩
  ·exact zh _ (XM _ _))
 unfold Yy zfu
 refine sR ?_
 rw[List.length_map]
 refine⟨zo,zo,zo,?_⟩
 rw[Int.toNat_natCast,show List.map D.sc [Value.bool false]=[D.sc (.bool false)] from rfl,ZE]
 refine sW ?_
 refine zO [1,5,15] (λk:Nat=>[(16,.sc (.int .i64 k))]) (λk=>[(2,.vec true 0 1 (Z8 W.next.length λi=>if i<k then p i else false))]) (λk=>k≤W.next.length) (λk=>W.next.length-k) 0 ?_
 refine sW ?_
 refine⟨zo,by exact sK,by simp;rfl,?_⟩
 rintro k hk
 refine sW ?_
 refine sR ?_
 refine sS (λq0=>?_) λq0=>?_
 ·have q0:k<W.next.length:=sO
  refine sN (hc k q0) ?_
  refine sB ?_
  refine⟨_,yd k zo q0,?_⟩
  refine sW ?_
  refine sI ?_
  refine⟨k+1,zo,zd,zD (by exact sK) ?_⟩
  rw[uC (i:=k) (f':=λi=>if i<k+1 then p i else false) zo λv _=>by
   by_cases e:v=k
   ·subst e;rw[if_pos zo,if_pos rfl]
   ·rw[if_neg e]
    by_cases e2:v<k
    ·rw[if_pos e2,if_pos zo]
    ·rw[if_neg e2,if_neg zo]]
  rfl
 ·have q0:k=W.next.length:=by have:¬k<W.next.length:=sO
                              omega
  subst q0
  rw[xV (g':=p) λi hi=>if_pos hi]
  exact⟨rfl,Nat.le_refl _⟩
def c115:PC:=.seq (OP [Mv 3 cF]) (.seq (OP [Lo 4 1,qm 5 0,Ia 6 1 4 5,Lo 7 6,Nt 8 7,qm 3 8]) .ret)
theorem ztj:zy Tryz.prog 115 9 [.tmp 3] c115:=fK Tryz.func115
theorem zux (n:Nat) (a:Nat→Bool) (i:Nat) (hi:i<n):zq Tryz.prog 115 [.sc (.int .i64 i),.y7 [uh n a]] (.sc (.bool (xt a i))):=by
 refine za ztj zs (by simp[ze,Pure,zV]) ?_ (by simp[Pure])
 refine sR ?_
 refine sL (yd i zo hi) ?_
 exact .refl _
def c58:PC:=.seq (OP [Bx 3 1,Mv 4 cN]) (.seq (OP [qm 5 0,q 6 (.qj (.func 115) [] [3]),Ca 7 55 [5,6],qm 4 7]) .ret)
theorem zy3:zy Tryz.prog 58 8 [.tmp 4] c58:=fK Tryz.func58
theorem XB (W:zA) (h6:W.next.length≤1000000) (a:Nat→Bool):zq Tryz.prog 58 [Yy W,uh W.next.length a] (uh W.next.length (xt a)):=by
 have hE:=U7 W h6 (xt a) 115 [.y7 [uh W.next.length a]] (by simp[ze,Pure,zV]) (λi hi=>zux W.next.length a i hi)
 refine za zy3 zs (by simp[ze,wi,zV]) ?_ (zV _ _)
 refine sR ?_
 refine sV hE ?_
 exact .refl _
def c116:PC:=.seq (OP [Mv 4 cF]) (.seq (OP [Lo 5 1,qm 6 0,Ia 7 1 5 6,Lo 8 7,qm 9 8,GT 10 9 (.zg 2),GT 11 9 (.move 0),GT 12 9 (.zM 1 10 11),GT 13 9 (.zg 12),Pk 14 9 13 cF,qm 4 14]) .ret)
theorem ztg:zy Tryz.prog 116 15 [.tmp 4] c116:=fK Tryz.func116
theorem zi5 (n:Nat) (a b:Nat→Bool) (i:Nat) (hi:i<n):zq Tryz.prog 116 [.sc (.int .i64 i),.y7 [uh n a],.y7 [uh n b]] (.sc (.bool (WH a b i))):=by
 refine za ztg zs (by simp[ze,Pure,zV]) ?_ (by simp[Pure])
 have e:WH a b i=(a i&&b i):=rfl
 refine sR ?_
 refine sL (yd i zo hi) ?_
 cases r:a i
 ·rw[r] at e
  refine sW ?_
  rw[e]
  exact .refl _
 ·rw[r] at e
  refine sW ?_
  refine sL (yd i zo hi) ?_
  rw[e]
  exact .refl _
def c59:PC:=.seq (OP [Bx 4 1,Bx 5 2,Mv 6 cN]) (.seq (OP [qm 7 0,q 8 (.qj (.func 116) [] [4,5]),Ca 9 55 [7,8],qm 6 9]) .ret)
theorem zp6:zy Tryz.prog 59 10 [.tmp 6] c59:=fK Tryz.func59
theorem zmx (W:zA) (h6:W.next.length≤1000000) (a b:Nat→Bool):zq Tryz.prog 59 [Yy W,uh W.next.length a,uh W.next.length b] (uh W.next.length (WH a b)):=by
 have hE:=U7 W h6 (WH a b) 116 [.y7 [uh W.next.length a],.y7 [uh W.next.length b]] (by simp[ze,Pure,zV]) (λi hi=>zi5 W.next.length a b i hi)
 refine za zp6 zs (by simp[ze,wi,zV]) ?_ (zV _ _)
 refine sR ?_
 refine sV hE ?_
 exact .refl _
theorem zj3 (W:zA) (h6:W.next.length≤1000000) (a b:Nat→Bool):yu Tryz.prog 59 [Yy W,uh W.next.length a,uh W.next.length b] [] (.own 2 0 0 W.next.length) [.row true [uh W.next.length a],.row true [uh W.next.length b],.vec true 0 1 (Z8 W.next.length (WH a b))]:=by
 have hE:=zp9 W h6 (WH a b) 116 (uh W.next.length a) (uh W.next.length b) (zV _ _) (zV _ _) (λi hi=>zi5 W.next.length a b i hi)
 refine z1 zp6 zs zs ?_ (by simp[zt]) (by simp[zf.under,zl,zh _ (XM _ _)])
 refine sR ?_
 refine sA hE ?_
 exact Nat.le_refl _
def zzG:PC:=.seq (OP [Bi 17 .lss 16 15]) (.seq (.cond 17 .skip (.exit 0)) (.seq (.block 1 (.seq (OP [Ia 18 1 14 16,Lo 19 18,qm 6 19]) (.seq (OP [Lo 20 2,qm 21 6,Ia 22 1 20 21,Lo 23 22,qm 24 23,GT 25 24 (.zg 1),GT 26 24 (.zn 25),GT 27 24 (.zz 4 26),GT 28 24 (.zg 27),GT 29 24 (.move 6),GT 30 24 (.zM 1 28 29),GT 31 24 (.zg 30),Pk 32 24 31 cF]) (.cond 32 (.seq (OP [Mv 4 cT]) .ret) .skip)))) (OP [Bi 33 .add 16 (cI 1),qm 16 33])))
def c117:PC:=.seq (OP [Mv 4 cF]) (.seq (.seq (OP [Lo 7 1,q 8 (.zn 7),Fa 9 0 8,Fa 10 1 9,Lo 11 10,qm 12 0,Ia 13 1 11 12,Lo 14 13,Ln 15 14,Mv 16 (cI 0)]) (.block 0 (.loop zzG))) (.seq (OP [Mv 4 cF]) .ret))
theorem zuj:zy Tryz.prog 117 34 [.tmp 4] c117:=fK Tryz.func117
theorem zx2 (W:zA) (hW:W.Fits) (hc:W.yJ=0) (a:Nat→Bool) (i:Nat) (hi:i<W.next.length):zq Tryz.prog 117 [.sc (.int .i64 i),.y7 [Yy W],.y7 [uh W.next.length a]] (.sc (.bool (Jz W a i))):=by
 obtain⟨_,h600,h80,_,hnx,hfr⟩:=qa W hc
 have hrow:=λk=>y3 (g:=W.next) (λl hl=>(hnx l hl).2) k
 have hFN:uU W.next:=⟨hW.next,hW.WI⟩
 have hgF:=hFN.at i
 refine za zuj zs (by simp[ze,Pure,zV,wi]) ?_ (by simp[Pure])
 have e:Jz W a i=(W.next.getD i []).any λx=>a x.toNat&&Wq W x.toNat:=rfl
 rw[e]
 have hr:=hrow i
 unfold Yy zfu
 generalize Wq W=f at *
 refine sR ?_
 refine sL (xS (g:=W.next) (k:=i) zo hi) ?_
 rw[List.length_map]
 generalize W.next.getD i []=l at *
 refine zO [1,2,14,15] (λk:Nat=>[(16,.sc (.int .i64 k))]) (λ_=>[]) (λk=>k≤l.length∧∀j (hj:j<l.length),j<k→(a l[j].toNat&&f l[j].toNat)=false) (λk=>l.length-k) 0 ?_
 refine sW ?_
 refine⟨⟨zo,λj hj h=>zo⟩,by exact sK,rfl,?_⟩
 rintro k ⟨hk,hno⟩
 refine sW ?_
 refine sR ?_
 refine sS (λq0=>?_) λq0=>?_
 ·have q0:k<l.length:=sO
  have hx:=zT hr (yv q0)
  have next:(a (l.getD k 0).toNat&&f (l.getD k 0).toNat)=false→∀j (hj:j<l.length),j<k+1→(a l[j].toNat&&f l[j].toNat)=false:=λh j hj hjk=>by
   by_cases e:j=k
   ·subst e;rw[List.getD_eq_getElem?_getD,List.getElem?_eq_getElem q0] at h;exact h
   ·exact hno j hj zo
  have yes:(a (l.getD k 0).toNat&&f (l.getD k 0).toNat)=true→(l.any λx=>a x.toNat&&f x.toNat)=true:=λh=>List.any_eq_true.2 ⟨_,yv q0,h⟩
  refine sL (yb (l:=l) (k:=k) zo q0) ?_
  generalize l.getD k 0=x at *
  refine sL (yd x.toNat zo zo) ?_
  cases r:a x.toNat
  ·rw[r] at next
   refine sW ?_
   refine sI ?_
   exact⟨k+1,⟨zo,next rfl⟩,zd,zD (by exact sK) rfl⟩
  ·rw[r] at next yes
   refine sW ?_
   refine sL (yd x.toNat zo zo) ?_
   cases r2:f x.toNat
   ·rw[r2] at next
    refine sW ?_
    refine sI ?_
    exact⟨k+1,⟨zo,next rfl⟩,zd,zD (by exact sK) rfl⟩
   ·rw[r2] at yes
    refine sW ?_
    rw[yes rfl]
    exact .refl _
 ·have q0:k=l.length:=by have:¬k<l.length:=sO
                         omega
  rw[zlh λj hj=>hno j hj zo]
  exact .refl _
def c61:PC:=.seq (OP [Bx 2 0,Bx 3 1,Mv 4 cN]) (.seq (OP [Lo 5 2,q 6 (.qj (.func 117) [] [2,3]),Ca 7 55 [5,6],qm 4 7]) .ret)
theorem zxK:zy Tryz.prog 61 8 [.tmp 4] c61:=fK Tryz.func61
theorem zws (W:zA) (hW:W.Fits) (hc:W.yJ=0) (a:Nat→Bool):zq Tryz.prog 61 [Yy W,uh W.next.length a] (uh W.next.length (Jz W a)):=by
 obtain⟨_,h600,_⟩:=qa W hc
 have hE:=U7 W zo (Jz W a) 117 [.y7 [Yy W],.y7 [uh W.next.length a]] (by simp[ze,Pure,zV,wi]) (λi hi=>zx2 W hW hc a i hi)
 refine za zxK zs (by simp[ze,wi,zV]) ?_ (zV _ _)
 refine sR ?_
 refine sV hE ?_
 exact .refl _
def c63:PC:=.seq (OP [Mv 4 cN]) (.seq (OP [qm 5 0,q 6 (.zn 5),Fa 7 0 6,LA 8 4 7,qm 9 1,Ca 10 112 [8,9],qm 4 10]) .ret)
theorem zx3:zy Tryz.prog 63 11 [.tmp 4] c63:=fK Tryz.func63
theorem zrv (W:zA) (hW:W.Fits) (hc:W.yJ=0) (a:Nat→Bool):zq Tryz.prog 63 [Yy W,uh W.next.length a] (uh W.next.length (egF W a)):=by
 have h:=zgs W hW hc a
 refine za zx3 zs (by simp[ze,wi,zV]) ?_ (zV _ _)
 unfold wC zA.cells at h
 refine sR ?_
 refine sC h ?_
 exact .refl _
end
section
open Go.RowKit
def zAH:PC:=.seq (OP [Bi 24 .lss 23 22]) (.seq (.cond 24 .skip (.exit 0)) (.seq (.block 1 (.seq (OP [qm 25 23,Ia 26 1 21 23,Lo 27 26,qm 9 25,qm 10 27]) (.seq (OP [qm 28 10]) (.cond 28 (OP [qm 29 8,qm 30 9,Bs 31 1 1 [30],Ap 32 1 8 29 31,qm 8 32]) .skip)))) (OP [Bi 33 .add 23 (cI 1),qm 23 33])))
def zA5:PC:=.seq (OP [Bi 51 .lss 50 49]) (.seq (.cond 51 .skip (.exit 4)) (.seq (.block 5 (.seq (OP [Ia 52 1 48 50,Lo 53 52,qm 13 53]) (.seq (OP [qm 54 1,qm 55 13,Ia 56 1 54 55,Lo 57 56,qm 58 57,GT 59 58 (.move 7),GT 60 58 (.move 13),GT 61 58 (.zM 1 59 60),GT 62 58 (.zg 61),GT 63 58 (.un .not 62),Pk 64 58 63 cF]) (.cond 64 (.seq (OP [qm 65 7,qm 66 13,Ia 67 1 65 66,So 1 67 cT]) (OP [qm 68 8,qm 69 13,Bs 70 1 1 [69],Ap 71 1 8 68 70,qm 8 71])) .skip)))) (OP [Bi 72 .add 50 (cI 1),qm 50 72])))
def zA2:PC:=.seq (.seq (OP [qm 34 8,Ln 35 34,Bi 36 .gtr 35 (cI 0)]) (.cond 36 .skip (.exit 2))) (.block 3 (.seq (OP [qm 37 8,Ia 38 1 37 (cI 0),Lo 39 38,qm 11 39]) (.seq (OP [qm 40 8,q 41 (.slc 1 40 (some (cI 1)) none none),qm 8 41]) (.seq (OP [qm 42 0,q 43 (.zn 42),Fa 44 5 43,Lo 45 44,qm 46 11,Ia 47 1 45 46,Lo 48 47,Ln 49 48,Mv 50 (cI 0)]) (.block 4 (.loop zA5))))))
def c62:PC:=.seq (OP [Mv 6 cN]) (.seq (OP [qm 14 0,qm 15 2,qm 16 0,q 17 (.zn 16),Fa 18 4 17,Lo 19 18,Ca 20 59 [14,15,19],qm 7 20]) (.seq (OP [Mv 8 cN]) (.seq (.seq (OP [qm 21 7,Ln 22 21,Mv 23 (cI 0)]) (.block 0 (.loop zAH))) (.seq (.block 2 (.loop zA2)) (.seq (OP [qm 73 7,qm 6 73]) .ret)))))
theorem zrU:zy Tryz.prog 62 74 [.tmp 6] c62:=fK Tryz.func62
theorem Uf (c:Nat→Bool):∀n,(wx c n).length+xq c n=n
 | 0=>rfl
 | n+1=>by
  have:=Uf c n
  unfold xq at this ⊢
  rw[VP]
  simp only[vh]
  cases h:c n<;>simp<;>omega
theorem zsz (W:zA) (hc:W.yJ=0) (a b:Nat→Bool):zq Tryz.prog 62 [Yy W,uh W.next.length a,uh W.next.length b] (uh W.next.length (euF W a b)):=by
 obtain⟨_,h600,h80,_,hnx,hfr⟩:=qa W hc
 have hin0:∀l∈W.next,xH l W.next.length=true:=λl hl=>(hnx l hl).2
 have hrow:=λk=>y3 hin0 k
 have hin':∀v y,y∈W.next.getD v []→y.toNat<W.next.length:=λv x hx=>by have:=zT (hrow v) hx;omega
 have hB:=zj3 W zo b (Wq W)
 have e0:euF W a b=euB W.next a (WH b (Wq W)):=rfl
 rw[e0]
 clear e0
 generalize WH b (Wq W)=c at *
 refine za zrU zs (by simp[ze,wi,zV]) ?_ (zV _ _)
 unfold Yy zfu at *
 generalize hT:xk W.next W.next.length=T at *
 have lT:T.length=W.next.length:=by rw[←hT,vc]
 have mT:∀(m:Nat) (x:Int),x∈T.getD m []↔∃k,k<W.next.length∧x=(k:Int)∧∃y,y∈W.next.getD k []∧y.toNat=m:=λm x=>by rw[←hT];exact Xj hin' (Nat.le_refl _)
 have rT:∀m,(T.getD m []).length≤W.next.length:=λm=>by rw[←hT];exact Xh W.next W.next.length m
 refine sR ?_
 refine sA hB ?_
 refine zG (xr 8 1 zs rfl) ?_
 refine zO [0,1,7,21,22] (λk:Nat=>[(8,.own 3 (wx c k).length 0 (wx c k).length),(23,.sc (.int .i64 k))]) (λk=>[(3,.vec true (wx c k).length 1 (zL (wx c k)))]) (λk=>k≤W.next.length) (λk=>W.next.length-k) 0 ?_
 refine sW ?_
 refine⟨zo,by exact sK,rfl,?_⟩
 rintro k hk
 have hcl:=Qa c k
 have eS:=VP c k
 refine sW ?_
 refine sR ?_
 refine sS (λq0=>?_) λq0=>?_
 ·have q0:k<W.next.length:=sO
  refine sB ?_
  refine⟨_,yd k zo q0,?_⟩
  refine sW ?_
  cases r:c k
  ·rw[r,if_neg zc] at eS
   refine sW ?_
   refine sI ?_
   refine⟨k+1,zo,zd,?_⟩
   dsimp only
   rw[eS]
   exact zD (by exact sK) rfl
  ·rw[r,if_pos rfl] at eS
   refine sW ?_
   refine sJ ?_
   refine sI ?_
   refine⟨k+1,zo,zd,?_⟩
   dsimp only
   rw[eS,show(wx c k++[(k:Int)]).length=(wx c k).length+1 by simp]
   refine zj 4 zs rfl sQ (sU ?_)
   exact zp (by rw[zaD,List.take_length])
 have q0:k=W.next.length:=by have:¬k<W.next.length:=sO
                             omega
 subst q0
 clear eS
 refine zO [0,1,7] (λ((s,Z,lo,hi,zY):(Nat→Bool) × List Int × Nat × Nat × Nat)=>[(8,.own 3 zY lo hi)]) (λ(s,Z,lo,hi,zY)=>[(2,.vec true 0 1 (Z8 W.next.length s)),(3,.vec true zY 1 (zL Z))])
  (λ(s,Z,lo,hi,zY)=>lo≤hi∧hi≤Z.length∧(∀x∈Z,0≤x∧x<(W.next.length:Int))∧hi-lo+xq s W.next.length≤W.next.length∧EuI W.next a c s (WQ ((Z.take hi).drop lo))) (λ(s,Z,lo,hi,zY)=>hi-lo+xq s W.next.length) (c,wx c W.next.length,0,(wx c W.next.length).length,(wx c W.next.length).length) ?_
 refine sW ?_
 refine⟨⟨zo,zo,λx hx=>⟨(vy.1 hx).1,(vy.1 hx).2.1⟩,by rw[Nat.sub_zero];exact Nat.le_of_eq (Uf c _),?_⟩,by exact sK,rfl,?_⟩
 ·rw[List.take_length,List.drop_zero]
  refine⟨λv hv=>.base hv,λv hv=>hv,λv hv=>?_,λv hv=>?_⟩
  ·obtain⟨x,hx,rfl⟩:=W3.1 hv
   exact(vy.1 hx).2.2
  ·by_cases q:v<W.next.length
   ·exact .inl (W3.2 ⟨(v:Int),vy.2 ⟨zo,zo,by rw[Int.toNat_natCast];exact hv⟩,zs⟩)
   ·exact .inr λk x hx e=>absurd (e▸hin' k x hx) q
 rintro⟨s,Z,lo,hi,zY⟩ ⟨hlo,hhi,hrg,hu,hI⟩
 refine sW ?_
 refine sR ?_
 refine sS (λh1=>?_) λh1=>?_
 ·have h1:lo<hi:=sO
  rw[znl h1 hhi,zgT] at hI
  have hx:=hrg (Z.getD lo 0) (yv zo)
  generalize hX:Z.getD lo 0=x at hI hx
  refine sB ?_
  refine⟨_,yb (l:=Z) (k:=lo) zo zo,?_⟩
  refine sW ?_
  rw[hX]
  refine⟨zo,zo,zo,?_⟩
  refine sW ?_
  rw[show lo+(hi-lo)=hi by omega]
  refine sL (xS (g:=T) (k:=x.toNat) zo zo) ?_
  rw[List.length_map]
  have hL:=rT x.toNat
  have mL:=mT x.toNat
  generalize T.getD x.toNat []=L at hL mL
  refine zO [0,1,7,48,49] (λ((s',Z',lo',hi',ver',k):(Nat→Bool) × List Int × Nat × Nat × Nat × Nat)=>[(8,.own 3 ver' lo' hi'),(50,.sc (.int .i64 k))]) (λ(s',Z',lo',hi',ver',k)=>[(2,.vec true 0 1 (Z8 W.next.length s')),(3,.vec true ver' 1 (zL Z'))])
   (λ(s',Z',lo',hi',ver',k)=>k≤L.length∧lo'≤hi'∧hi'≤Z'.length∧(∀x∈Z',0≤x∧x<(W.next.length:Int))∧hi'-lo'+xq s' W.next.length<hi-lo+xq s W.next.length∧EuJ W.next a c s' (WQ ((Z'.take hi').drop lo')) x.toNat (WQ (L.take k))) (λ(s',Z',lo',hi',ver',k)=>L.length-k) (s,Z,lo+1,hi,zY,0) ?_
  refine sW ?_
  refine⟨⟨zo,zo,hhi,hrg,zo,hI.pop⟩,by exact sK,rfl,?_⟩
  rintro⟨s',Z',lo',hi',ver',k⟩ ⟨hk,hlo',hhi',hrg',hu',hJ⟩
  refine sW ?_
  refine sR ?_
  refine sS (λh3=>?_) λh3=>?_
  ·have hk':k<L.length:=sO
   obtain⟨v,hv1,hv2,y,hy1,hy2⟩:=(mL (L.getD k 0)).1 (yv hk')
   have eT:WQ (L.take (k+1))=WQ (L.take k)++[v]:=by
    rw[List.take_add_one,List.getElem?_eq_getElem hk',JV]
    rw[List.getD_eq_getElem?_getD,List.getElem?_eq_getElem hk'] at hv2
    simp at hv2
    simp[WQ,hv2]
   refine sL (yb (l:=L) (k:=k) zo hk') ?_
   rw[hv2]
   refine sL (yd v zo hv1) ?_
   cases av:a v
   ·refine sW ?_
    refine sI ?_
    refine⟨(s',Z',lo',hi',ver',k+1),⟨zo,hlo',hhi',hrg',hu',by rw[eT];exact hJ.skip λq=>by rw[av] at q;cases q⟩,zd,zD (by exact sK) rfl⟩
   ·refine sW ?_
    refine sB ?_
    refine⟨_,yd v zo hv1,?_⟩
    refine sW ?_
    cases sv:s' v
    ·refine sW ?_
     refine sB ?_
     refine⟨_,yd v zo hv1,?_⟩
     refine sW ?_
     refine sJ ?_
     refine sI ?_
     have hl1:=UX (s:=s') (s':=mark s' v) hv1 (λj _ q=>xD q) sv (wS _ _)
     refine⟨(mark s' v,(Z'.take hi').drop lo'++[(v:Int)],0,hi'-lo'+1,ver'+1,k+1),⟨zo,zo,by simp;omega,λz hz=>?_,zo,?_⟩,zd,?_⟩
     ·rcases List.mem_append.1 hz with q|q
      ·exact hrg' z (List.mem_of_mem_take (List.mem_of_mem_drop q))
      ·rw[List.mem_singleton] at q;omega
     ·rw[List.drop_zero,List.take_of_length_le (by simp;omega),JV,eT]
      exact hJ.push hy1 hy2 av
     ·(refine zj 4 zs rfl ?_ ?_<;>(repeat' (first|exact trivial|exact rfl|exact yc.refl _|exact zQ.refl _|exact zK.refl _|refine And.intro ?_ ?_|(simp[zt,zl,zF,-List.map_take,-List.map_drop];done))))
      ·exact zp (Up zo)
      ·exact zp Zf
    ·refine sW ?_
     refine sI ?_
     refine⟨(s',Z',lo',hi',ver',k+1),⟨zo,hlo',hhi',hrg',hu',by rw[eT];exact hJ.skip λ_=>sv⟩,zd,zD (by exact sK) rfl⟩
  ·have hk':k=L.length:=by have:¬k<L.length:=sO
                           omega
   subst hk'
   refine⟨(s',Z',lo',hi',ver'),⟨hlo',hhi',hrg',zo,hJ.fin λk y h1 h2=>?_⟩,zd,zD (by exact sK) rfl⟩
   have hk:k<W.next.length:=by
    rcases Nat.lt_or_ge k W.next.length with q|q
    ·exact q
    ·rw[List.getD_eq_getElem?_getD,List.getElem?_eq_none q] at h1;cases h1
   rw[List.take_length]
   exact W3.2 ⟨(k:Int),(mL k).2 ⟨k,hk,rfl,y,h1,h2⟩,zs⟩
 have h0:hi=lo:=sO
 subst h0
 rw[List.drop_eq_nil_of_le (by rw[List.length_take];omega)] at hI
 rw[xV (g':=euB W.next a c) λi _=>hI.end_ i]
 exact UH rfl
theorem zzn (W:zA) (hc:W.yJ=0) (a b:Nat→Bool):yu Tryz.prog 62 [Yy W,uh W.next.length a,uh W.next.length b] [] (.own 2 0 0 W.next.length) [.row true [uh W.next.length b],.row true [uh W.next.length (Wq W)],.vec true 0 1 (Z8 W.next.length (euF W a b))]:=by
 obtain⟨_,h600,h80,_,hnx,hfr⟩:=qa W hc
 have hin0:∀l∈W.next,xH l W.next.length=true:=λl hl=>(hnx l hl).2
 have hrow:=λk=>y3 hin0 k
 have hin':∀v y,y∈W.next.getD v []→y.toNat<W.next.length:=λv x hx=>by have:=zT (hrow v) hx;omega
 have hB:=zj3 W zo b (Wq W)
 have e0:euF W a b=euB W.next a (WH b (Wq W)):=rfl
 rw[e0]
 clear e0
 generalize WH b (Wq W)=c at *
 refine z1 zrU zs zs ?_ (by simp[zt]) (by simp[zf.under,zl,zh _ (XM _ _)])
 unfold Yy zfu at *
 generalize hT:xk W.next W.next.length=T at *
 have lT:T.length=W.next.length:=by rw[←hT,vc]
 have mT:∀(m:Nat) (x:Int),x∈T.getD m []↔∃k,k<W.next.length∧x=(k:Int)∧∃y,y∈W.next.getD k []∧y.toNat=m:=λm x=>by rw[←hT];exact Xj hin' (Nat.le_refl _)
 have rT:∀m,(T.getD m []).length≤W.next.length:=λm=>by rw[←hT];exact Xh W.next W.next.length m
 refine sR ?_
 refine sA hB ?_
 refine zG (xr 8 1 zs rfl) ?_
 refine zO [0,1,7,21,22] (λk:Nat=>[(8,.own 3 (wx c k).length 0 (wx c k).length),(23,.sc (.int .i64 k))]) (λk=>[(3,.vec true (wx c k).length 1 (zL (wx c k)))]) (λk=>k≤W.next.length) (λk=>W.next.length-k) 0 ?_
 refine sW ?_
 refine⟨zo,by exact sK,rfl,?_⟩
 rintro k hk
 have hcl:=Qa c k
 have eS:=VP c k
 refine sW ?_
 refine sR ?_
 refine sS (λq0=>?_) λq0=>?_
 ·have q0:k<W.next.length:=sO
  refine sB ?_
  refine⟨_,yd k zo q0,?_⟩
  refine sW ?_
  cases r:c k
  ·rw[r,if_neg zc] at eS
   refine sW ?_
   refine sI ?_
   refine⟨k+1,zo,zd,?_⟩
   dsimp only
   rw[eS]
   exact zD (by exact sK) rfl
  ·rw[r,if_pos rfl] at eS
   refine sW ?_
   refine sJ ?_
   refine sI ?_
   refine⟨k+1,zo,zd,?_⟩
   dsimp only
   rw[eS,show(wx c k++[(k:Int)]).length=(wx c k).length+1 by simp]
   refine zj 4 zs rfl sQ (sU ?_)
   exact zp (by rw[zaD,List.take_length])
 have q0:k=W.next.length:=by have:¬k<W.next.length:=sO
                             omega
 subst q0
 clear eS
 refine zO [0,1,7] (λ((s,Z,lo,hi,zY):(Nat→Bool) × List Int × Nat × Nat × Nat)=>[(8,.own 3 zY lo hi)]) (λ(s,Z,lo,hi,zY)=>[(2,.vec true 0 1 (Z8 W.next.length s)),(3,.vec true zY 1 (zL Z))])
  (λ(s,Z,lo,hi,zY)=>lo≤hi∧hi≤Z.length∧(∀x∈Z,0≤x∧x<(W.next.length:Int))∧hi-lo+xq s W.next.length≤W.next.length∧EuI W.next a c s (WQ ((Z.take hi).drop lo))) (λ(s,Z,lo,hi,zY)=>hi-lo+xq s W.next.length) (c,wx c W.next.length,0,(wx c W.next.length).length,(wx c W.next.length).length) ?_
 refine sW ?_
 refine⟨⟨zo,zo,λx hx=>⟨(vy.1 hx).1,(vy.1 hx).2.1⟩,by rw[Nat.sub_zero];exact Nat.le_of_eq (Uf c _),?_⟩,by exact sK,rfl,?_⟩
 ·rw[List.take_length,List.drop_zero]
  refine⟨λv hv=>.base hv,λv hv=>hv,λv hv=>?_,λv hv=>?_⟩
  ·obtain⟨x,hx,rfl⟩:=W3.1 hv
   exact(vy.1 hx).2.2
  ·by_cases q:v<W.next.length
   ·exact .inl (W3.2 ⟨(v:Int),vy.2 ⟨zo,zo,by rw[Int.toNat_natCast];exact hv⟩,zs⟩)
   ·exact .inr λk x hx e=>absurd (e▸hin' k x hx) q
 rintro⟨s,Z,lo,hi,zY⟩ ⟨hlo,hhi,hrg,hu,hI⟩
 refine sW ?_
 refine sR ?_
 refine sS (λh1=>?_) λh1=>?_
 ·have h1:lo<hi:=sO
  rw[znl h1 hhi,zgT] at hI
  have hx:=hrg (Z.getD lo 0) (yv zo)
  generalize hX:Z.getD lo 0=x at hI hx
  refine sB ?_
  refine⟨_,yb (l:=Z) (k:=lo) zo zo,?_⟩
  refine sW ?_
  rw[hX]
  refine⟨zo,zo,zo,?_⟩
  refine sW ?_
  rw[show lo+(hi-lo)=hi by omega]
  refine sL (xS (g:=T) (k:=x.toNat) zo zo) ?_
  rw[List.length_map]
  have hL:=rT x.toNat
  have mL:=mT x.toNat
  generalize T.getD x.toNat []=L at hL mL
  refine zO [0,1,7,48,49] (λ((s',Z',lo',hi',ver',k):(Nat→Bool) × List Int × Nat × Nat × Nat × Nat)=>[(8,.own 3 ver' lo' hi'),(50,.sc (.int .i64 k))]) (λ(s',Z',lo',hi',ver',k)=>[(2,.vec true 0 1 (Z8 W.next.length s')),(3,.vec true ver' 1 (zL Z'))])
   (λ(s',Z',lo',hi',ver',k)=>k≤L.length∧lo'≤hi'∧hi'≤Z'.length∧(∀x∈Z',0≤x∧x<(W.next.length:Int))∧hi'-lo'+xq s' W.next.length<hi-lo+xq s W.next.length∧EuJ W.next a c s' (WQ ((Z'.take hi').drop lo')) x.toNat (WQ (L.take k))) (λ(s',Z',lo',hi',ver',k)=>L.length-k) (s,Z,lo+1,hi,zY,0) ?_
  refine sW ?_
  refine⟨⟨zo,zo,hhi,hrg,zo,hI.pop⟩,by exact sK,rfl,?_⟩
  rintro⟨s',Z',lo',hi',ver',k⟩ ⟨hk,hlo',hhi',hrg',hu',hJ⟩
  refine sW ?_
  refine sR ?_
  refine sS (λh3=>?_) λh3=>?_
  ·have hk':k<L.length:=sO
   obtain⟨v,hv1,hv2,y,hy1,hy2⟩:=(mL (L.getD k 0)).1 (yv hk')
   have eT:WQ (L.take (k+1))=WQ (L.take k)++[v]:=by
    rw[List.take_add_one,List.getElem?_eq_getElem hk',JV]
    rw[List.getD_eq_getElem?_getD,List.getElem?_eq_getElem hk'] at hv2
    simp at hv2
    simp[WQ,hv2]
   refine sL (yb (l:=L) (k:=k) zo hk') ?_
   rw[hv2]
   refine sL (yd v zo hv1) ?_
   cases av:a v
   ·refine sW ?_
    refine sI ?_
    refine⟨(s',Z',lo',hi',ver',k+1),⟨zo,hlo',hhi',hrg',hu',by rw[eT];exact hJ.skip λq=>by rw[av] at q;cases q⟩,zd,zD (by exact sK) rfl⟩
   ·refine sW ?_
    refine sB ?_
    refine⟨_,yd v zo hv1,?_⟩
    refine sW ?_
    cases sv:s' v
    ·refine sW ?_
     refine sB ?_
     refine⟨_,yd v zo hv1,?_⟩
     refine sW ?_
     refine sJ ?_
     refine sI ?_
     have hl1:=UX (s:=s') (s':=mark s' v) hv1 (λj _ q=>xD q) sv (wS _ _)
     refine⟨(mark s' v,(Z'.take hi').drop lo'++[(v:Int)],0,hi'-lo'+1,ver'+1,k+1),⟨zo,zo,by simp;omega,λz hz=>?_,zo,?_⟩,zd,?_⟩
     ·rcases List.mem_append.1 hz with q|q
      ·exact hrg' z (List.mem_of_mem_take (List.mem_of_mem_drop q))
      ·rw[List.mem_singleton] at q;omega
     ·rw[List.drop_zero,List.take_of_length_le (by simp;omega),JV,eT]
      exact hJ.push hy1 hy2 av
     ·(refine zj 4 zs rfl ?_ ?_<;>(repeat' (first|exact trivial|exact rfl|exact yc.refl _|exact zQ.refl _|exact zK.refl _|refine And.intro ?_ ?_|(simp[zt,zl,zF,-List.map_take,-List.map_drop];done))))
      ·exact zp (Up zo)
      ·exact zp Zf
    ·refine sW ?_
     refine sI ?_
     refine⟨(s',Z',lo',hi',ver',k+1),⟨zo,hlo',hhi',hrg',hu',by rw[eT];exact hJ.skip λ_=>sv⟩,zd,zD (by exact sK) rfl⟩
  ·have hk':k=L.length:=by have:¬k<L.length:=sO
                           omega
   subst hk'
   refine⟨(s',Z',lo',hi',ver'),⟨hlo',hhi',hrg',zo,hJ.fin λk y h1 h2=>?_⟩,zd,zD (by exact sK) rfl⟩
   have hk:k<W.next.length:=by
    rcases Nat.lt_or_ge k W.next.length with q|q
    ·exact q
    ·rw[List.getD_eq_getElem?_getD,List.getElem?_eq_none q] at h1;cases h1
   rw[List.take_length]
   exact W3.2 ⟨(k:Int),(mL k).2 ⟨k,hk,rfl,y,h1,h2⟩,zs⟩
 have h0:hi=lo:=sO
 subst h0
 rw[List.drop_eq_nil_of_le (by rw[List.length_take];omega)] at hI
 rw[xV (g':=euB W.next a c) λi _=>hI.end_ i]
 exact⟨rfl,zs⟩
end
section
open Go.RowKit
def YF (W:zA) (num:Int):Nat→Bool:=λi=>zhB (W.label.getD i 0) num
noncomputable def qD (W:zA) (kind num:Int) (K:Nat→Nat→Bool):Nat→Bool :=
 if kind=1 then XL else if kind=3 then YF W num else if kind=4 then xt (K 0) else if kind=5 then WH (K 0) (K 1) else if kind=6 then orF (K 0) (K 1)
 else if kind=7 then Jz W (K 0) else if kind=8 then euF W XL (K 0) else if kind=9 then egF W (K 0) else if kind=10 then euF W (K 0) (K 1)
 else if kind=11 then xt (Jz W (xt (K 0))) else if kind=12 then xt (egF W (xt (K 0))) else if kind=13 then xt (euF W XL (xt (K 0))) else if kind=14 then auF W (K 0) (K 1) else xt XL
mutual
noncomputable def ZY (W:zA):Tree→Nat→Bool
 | .node k n ks=>qD W k n (xf W ks)
noncomputable def xf (W:zA):List Tree→Nat→Nat→Bool
 | [],_=>noT
 | t::_,0=>ZY W t
 | _::ts,j+1=>xf W ts j
end
theorem ziq (W:zA):∀(ts:List Tree) (j:Nat),j<ts.length→xf W ts j=ZY W (ts.getD j default)
 | [],j,h=>by simp at h
 | t::_,0,_=>by simp[xf]
 | _::ts,j+1,h=>by
  rw[xf,ziq W ts j (by simpa using h)]
  rfl
theorem zt5 (W:zA) {t:Tree} {j:Nat} (h:j<t.width):xf W t.kids j=ZY W (t.yD j):=ziq W t.kids j h
theorem zcC (W:zA) (t:Tree):ZY W t=qD W t.kind t.num (xf W t.kids):=by cases t;rw[ZY];rfl
noncomputable def Wk (W:zA) (t:Tree) (k:Nat):List (List D):=(List.range k).map λj=>[uh W.next.length (xf W t.kids j)]
@[simp] theorem zAm (W:zA) (t:Tree) (k:Nat):(Wk W t k).length=k:=by simp[Wk]
theorem Q7 (W:zA) (t:Tree) (k:Nat):yE (Wk W t k):=zC _ (λj=>by simp[ze,zV]) _
@[simp] theorem zsP {m:Nat} (W:zA) (t:Tree) (k:Nat):zF m (Wk W t k)↔True:=⟨λ_=>trivial,λ_=>zh _ (Q7 W t k)⟩
theorem wY {W:zA} {t:Tree} {k z j:Nat} (hz:z=j) (h:j<k):(Wk W t k)[z]? = some [uh W.next.length (xf W t.kids j)]:=by
 subst hz
 rw[List.getElem?_eq_getElem (by simpa using h)];simp[Wk]
theorem zkM (W:zA) (t:Tree) (k:Nat):List.drop 0 (List.take k (Wk W t k))++List.drop 0 (List.take 1 [[uh W.next.length (xf W t.kids k)]])=Wk W t (k+1):=by
 rw[zu zs]
 simp[Wk,List.range_succ]
theorem zjQ {t:Tree} (h:¬yC xn t):((t.kind=1∨t.kind=2∨t.kind=3)∧t.width=0∨(t.kind=4∨t.kind=7∨t.kind=8∨t.kind=9∨t.kind=11∨t.kind=12∨t.kind=13)∧t.width=1∨(t.kind=5∨t.kind=6∨t.kind=10∨t.kind=14)∧t.width=2)∧0≤t.num∧t.num≤63:=by
 unfold yC xn at h
 (repeat' split at h)<;>omega
theorem zt0 {v:Int} (h:0≤v∧v<18446744073709551616) (a:Int):(vd .and .u64 (v.fdiv (2^min a.toNat 64)) 1==1)=zhB v a:=by
 have hr:=zlG h.1 h.2 (min a.toNat 64)
 rw[zs2 hr.1 hr.2]
 rfl
theorem zuc {l:List Int} {z k:Nat} (hz:z=k) (h:k<l.length):(l.map λn=>[D.sc (.int .u64 n)])[z]? = some [.sc (.int .u64 (l.getD k 0))]:=by
 subst hz
 rw[List.getElem?_map,List.getElem?_eq_getElem h,List.getD_eq_getElem?_getD,List.getElem?_eq_getElem h];rfl
def zAy:PC:=.seq (OP [Bi 30 .lss 29 28]) (.seq (.cond 30 .skip (.exit 0)) (.seq (.block 1 (.seq (OP [qm 31 29,Ia 32 1 27 29,Lo 33 32,qm 8 31,qm 9 33]) (OP [qm 34 7,qm 35 8,qm 36 7,qm 37 8,Ia 38 1 36 37,Lo 39 38,qm 40 39,GF 41 40 (.move 9),Pk 42 40 cT 41,Ia 43 1 34 35,So 1 43 42]))) (OP [Bi 44 .add 29 (cI 1),qm 29 44])))
def c64:PC:=.seq (OP [Mv 6 cN]) (.seq (OP [qm 10 0,qm 11 0,qm 12 2,Ca 13 58 [11,12],qm 14 0,qm 15 0,qm 16 1,Ca 17 58 [15,16],qm 18 0,qm 19 2,Ca 20 58 [18,19],Ca 21 59 [14,17,20],Ca 22 62 [10,13,21],qm 7 22]) (.seq (.seq (OP [qm 23 0,qm 24 0,qm 25 2,Ca 26 58 [24,25],Ca 27 63 [23,26],Ln 28 27,Mv 29 (cI 0)]) (.block 0 (.loop zAy))) (.seq (OP [qm 45 0,qm 46 7,Ca 47 58 [45,46],qm 6 47]) .ret)))
theorem zxI:zy Tryz.prog 64 48 [.tmp 6] c64:=fK Tryz.func64
theorem zAW (W:zA) (hW:W.Fits) (hc:W.yJ=0) (a b:Nat→Bool):zq Tryz.prog 64 [Yy W,uh W.next.length a,uh W.next.length b] (uh W.next.length (auF W a b)):=by
 obtain⟨_,h600,_⟩:=qa W hc
 have n1:=XB W zo a
 have n2:=XB W zo b
 have bo:=zmx W zo (xt a) (xt b)
 have eO:=zzn W hc (xt b) (WH (xt a) (xt b))
 have eg:=zrv W hW hc (xt b)
 have n3:=XB W zo (orF (euF W (xt b) (WH (xt a) (xt b))) (egF W (xt b)))
 have e0:auF W a b=xt (orF (euF W (xt b) (WH (xt a) (xt b))) (egF W (xt b))):=rfl
 refine za zxI zs (by simp[ze,wi,zV]) ?_ (zV _ _)
 rw[e0]
 clear e0
 generalize euF W (xt b) (WH (xt a) (xt b))=e at *
 generalize egF W (xt b)=f at *
 refine sR ?_
 refine sC n2 ?_
 refine sC n1 ?_
 refine sC n2 ?_
 refine sC bo ?_
 refine sA eO ?_
 refine sC n2 ?_
 refine sC eg ?_
 rw[zhf]
 refine zO [0,7,27,28] (λk:Nat=>[(29,.sc (.int .i64 k))]) (λk=>[(2,.vec true 0 1 (Z8 W.next.length λi=>if i<k then orF e f i else e i))]) (λk=>k≤W.next.length) (λk=>W.next.length-k) 0 ?_
 refine sW ?_
 refine⟨zo,by exact sK,by simp;rfl,?_⟩
 rintro k hk
 refine sW ?_
 refine sR ?_
 refine sS (λq0=>?_) λq0=>?_
 ·have q0:k<W.next.length:=sO
  have eat:(if k<k then orF e f k else e k)=e k:=if_neg zo
  have eput:∀v,v<W.next.length→(if v<k+1 then orF e f v else e v)=if v=k then (e k||f k) else if v<k then orF e f v else e v:=λv _=>by
   by_cases q:v=k
   ·subst q;rw[if_pos zo,if_pos rfl];rfl
   ·rw[if_neg q]
    by_cases e2:v<k
    ·rw[if_pos e2,if_pos zo]
    ·rw[if_neg e2,if_neg zo]
  refine sL (yd k zo q0) ?_
  refine sB ?_
  refine⟨_,yd k zo q0,?_⟩
  rw[eat]
  cases r:e k
  ·rw[r,Bool.false_or] at eput
   refine sW ?_
   refine sB ?_
   refine⟨_,yd k zo q0,?_⟩
   refine sW ?_
   refine sI ?_
   refine⟨k+1,zo,zd,zD (by exact sK) ?_⟩
   rw[uC (i:=k) zo eput]
   rfl
  ·rw[r,Bool.true_or] at eput
   refine sW ?_
   refine sB ?_
   refine⟨_,yd k zo q0,?_⟩
   refine sW ?_
   refine sI ?_
   refine⟨k+1,zo,zd,zD (by exact sK) ?_⟩
   rw[uC (i:=k) zo eput]
   rfl
 ·have q0:k=W.next.length:=by have:¬k<W.next.length:=sO
                              omega
  subst q0
  rw[xV (g':=orF e f) λi hi=>if_pos hi]
  rw[show uh W.next.length (orF e f)=D.xj 1 (List.drop 0 (List.take W.next.length (Z8 W.next.length (orF e f)))) from by rw[zcx];rfl] at n3
  refine sE (qf (pre:=[_]) (post:=[]) n3 (zV _ _) ⟨wi W,trivial⟩ trivial (XM _ _) rfl) ?_
  exact .refl _
def c28:PC:=.seq (OP [Bx 1 0,q 2 (.move (.const (.pointer none)))]) (.seq (OP [LA 4 4 1,q 5 (.build [(.slice none 0 0),(.slice none 0 0),(.slice none 0 0),(.slice none 0 0),(.slice none 0 0),(.slice none 0 0)] [(0,4,4)]),Bx 6 5,qm 3 6]) (.seq (OP [qm 8 3,LA 9 4 1,Ca 10 53 [9],qm 7 10,Xt 11 0 7,Xt 12 1 7,q 13 (.zn 8),Fa 14 4 13,So 1 14 11]) (.seq (OP [qm 16 3,Fa 17 1 1,Lo 18 17,Ca 19 54 [18],qm 15 19,Xt 20 0 15,Xt 21 1 15,q 22 (.zn 16),Fa 23 5 22,So 1 23 20]) (.seq (OP [qm 24 3,qm 2 24]) .ret))))
theorem zyy:zy Tryz.prog 28 25 [.tmp 2] c28:=fK Tryz.func28
theorem zqx (W:zA) (hW:W.Fits) (hc:W.yJ=0):zq Tryz.prog 28 [wC W] (Yy W):=by
 obtain⟨_,h600,h80,_,hnx,hfr⟩:=qa W hc
 have hF:=zvf W hW hc
 have hT:=zfP W.next (ZX.2 ⟨zo,λl hl=>(hnx l hl).2⟩) ⟨hW.next,hW.WI⟩
 refine za zyy zs (by simp[ze,wb]) ?_ (wi W)
 unfold wC zA.cells Yy zfu at *
 refine sR ?_
 refine sC hF ?_
 refine sC hT ?_
 exact .loc _ _ _ _ _ rfl (xv _)
def c56:PC:=.seq (OP [Mv 2 cF]) (.seq (OP [Mv 2 cT]) .ret)
theorem zzD:zy Tryz.prog 56 3 [.tmp 2] c56:=fK Tryz.func56
theorem zuC (i:Int):zq Tryz.prog 56 [.sc (.int .i64 i)] (.sc (.bool true)):=by
 refine za zzD zs (by simp[ze,Pure]) ?_ (by simp[Pure])
 refine sR ?_
 exact .refl _
def c57:PC:=.seq (OP [Mv 4 cF]) (.seq (.ops [Lo 5 1,qd 6 (.zn 5) 1,qd 7 (.zz 0 6) 3,qd 8 (.zz 2 7) 7,qd 9 (.zg 8) 15,qm 10 0,qd 11 (.zM 1 9 10) 63,qd 12 (.zg 11) 127,Fa 13 1 2,qd 14 (.zg 13) 256,qd 15 (.bin .shr 12 14) 1023,qd 16 (.bin .and 15 (.const (.int .u64 1))) 2047,qd 17 (.bin .eql 16 (.const (.int .u64 1))) 4095,qw 4 17 8191] true) .ret)
theorem zy1:zy Tryz.prog 57 18 [.tmp 4] c57:=fK Tryz.func57
theorem zui (W:zA) (hl:W.label.length=W.next.length) (hL:zvW W.label) (t:Tree) (hn:0≤t.num∧t.num≤63) (i:Nat) (hi:i<W.next.length):zq Tryz.prog 57 [.sc (.int .i64 i),.y7 [Yy W],.y7 (yo t)] (.sc (.bool (YF W t.num i))):=by
 have hv:0≤W.label.getD i 0∧W.label.getD i 0<18446744073709551616:=hL _ (yv zo)
 have hb:=zt0 hv t.num
 refine za zy1 zs (by simp[ze,Pure,wi,ym]) ?_ (by simp[Pure])
 have e:YF W t.num i=zhB (W.label.getD i 0) t.num:=rfl
 rw[e,←hb]
 unfold Yy zfu uX
 refine sR ?_
 refine sL (zuc (k:=i) zo zo) ?_
 refine⟨hn.1,?_⟩
 refine sW ?_
 exact .refl _
def c60:PC:=.seq (OP [Mv 3 cF]) (.seq (OP [Lo 4 1,Ia 5 1 4 (cI 0),Lo 6 5,qm 7 0,Ia 8 1 6 7,Lo 9 8,qm 10 9,GF 11 10 (.zg 1),GF 12 10 (.zM 1 11 (cI 1)),GF 13 10 (.zg 12),GF 14 10 (.move 0),GF 15 10 (.zM 1 13 14),GF 16 10 (.zg 15),Pk 17 10 cT 16,qm 3 17]) .ret)
theorem zy2:zy Tryz.prog 60 18 [.tmp 3] c60:=fK Tryz.func60
theorem zuq (W:zA) (t:Tree) (h2:t.width=2) (i:Nat) (hi:i<W.next.length):zq Tryz.prog 60 [.sc (.int .i64 i),.y7 [.xj 1 (Wk W t t.width)]] (.sc (.bool (orF (xf W t.kids 0) (xf W t.kids 1) i))):=by
 refine za zy2 zs (by simp[ze,Pure,Q7]) ?_ (by simp[Pure])
 have e:orF (xf W t.kids 0) (xf W t.kids 1) i=(xf W t.kids 0 i||xf W t.kids 1 i):=rfl
 rw[e]
 refine sR ?_
 refine sL (wY (j:=0) zo zo) ?_
 refine sL (yd i zo hi) ?_
 cases r:xf W t.kids 0 i
 ·refine sW ?_
  refine sL (wY (j:=1) zo zo) ?_
  refine sL (yd i zo hi) ?_
  exact .refl _
 ·refine sW ?_
  exact .refl _
def zBL:PC:=.seq (OP [Bi 15 .lss 14 13]) (.seq (.cond 15 .skip (.exit 0)) (.seq (.block 1 (.seq (OP [Ia 16 3 12 14,LA 17 3 16,q 8 (.alloc [(.int .i64 0),(.int .i64 0),(.slice none 0 0)]),So 3 8 17]) (.ops [Lo 18 6,Lo 19 2,LA 20 3 8,qd 21 (.call 29 [19,20]) 6,qd 22 (.xe 1 1 [21]) 14,qd 23 (.append 1 24 18 22) 31,qk (.store 1 6 23) 63] true))) (OP [Bi 24 .add 14 (cI 1),qm 14 24])))
def c29:PC:=.seq (OP [Bx 2 0,Bx 3 1,Mv 4 cN]) (.seq (OP [Lo 9 2,Ca 10 55 [9,(.func 56)],qm 5 10]) (.seq (OP [q 6 (.alloc [(.slice none 0 0)])]) (.seq (.seq (OP [Fa 11 2 3,Lo 12 11,Ln 13 12,Mv 14 (cI 0)]) (.block 0 (.loop zBL))) (.seq (.seq (OP [Fa 25 0 3,Lo 26 25]) (.block 2 (.seq (OP [Bi 28 .eql 26 (cI 1),qm 27 28]) (.cond 27 (.seq (OP [qm 29 5,qm 4 29]) .ret) (.seq (OP [Bi 31 .eql 26 (cI 3),qm 30 31]) (.cond 30 (.seq (OP [Lo 32 2,q 33 (.qj (.func 57) [] [2,3]),Ca 34 55 [32,33],qm 4 34]) .ret) (.seq (OP [Bi 36 .eql 26 (cI 4),qm 35 36]) (.cond 35 (.seq (.ops [Lo 37 2,Lo 38 6,qd 39 (.zM 1 38 (cI 0)) 2,qd 40 (.zg 39) 6,qd 41 (.call 58 [37,40]) 15,qw 4 41 31] true) .ret) (.seq (OP [Bi 43 .eql 26 (cI 5),qm 42 43]) (.cond 42 (.seq (.ops [Lo 44 2,Lo 45 6,qd 46 (.zM 1 45 (cI 0)) 2,qd 47 (.zg 46) 6,Lo 48 6,qd 49 (.zM 1 48 (cI 1)) 16,qd 50 (.zg 49) 48,qd 51 (.call 59 [44,47,50]) 127,qw 4 51 255] true) .ret) (.seq (OP [Bi 53 .eql 26 (cI 6),qm 52 53]) (.cond 52 (.seq (OP [Lo 54 2,q 55 (.qj (.func 60) [] [6]),Ca 56 55 [54,55],qm 4 56]) .ret) (.seq (OP [Bi 58 .eql 26 (cI 7),qm 57 58]) (.cond 57 (.seq (.ops [Lo 59 2,Lo 60 6,qd 61 (.zM 1 60 (cI 0)) 2,qd 62 (.zg 61) 6,qd 63 (.call 61 [59,62]) 15,qw 4 63 31] true) .ret) (.seq (OP [Bi 65 .eql 26 (cI 8),qm 64 65]) (.cond 64 (.seq (.ops [Lo 66 2,qm 67 5,Lo 68 6,qd 69 (.zM 1 68 (cI 0)) 4,qd 70 (.zg 69) 12,qd 71 (.call 62 [66,67,70]) 31,qw 4 71 63] true) .ret) (.seq (OP [Bi 73 .eql 26 (cI 9),qm 72 73]) (.cond 72 (.seq (.ops [Lo 74 2,Lo 75 6,qd 76 (.zM 1 75 (cI 0)) 2,qd 77 (.zg 76) 6,qd 78 (.call 63 [74,77]) 15,qw 4 78 31] true) .ret) (.seq (OP [Bi 80 .eql 26 (cI 10),qm 79 80]) (.cond 79 (.seq (.ops [Lo 81 2,Lo 82 6,qd 83 (.zM 1 82 (cI 0)) 2,qd 84 (.zg 83) 6,Lo 85 6,qd 86 (.zM 1 85 (cI 1)) 16,qd 87 (.zg 86) 48,qd 88 (.call 62 [81,84,87]) 127,qw 4 88 255] true) .ret) (.seq (OP [Bi 90 .eql 26 (cI 11),qm 89 90]) (.cond 89 (.seq (.ops [Lo 91 2,Lo 92 2,Lo 93 2,Lo 94 6,qd 95 (.zM 1 94 (cI 0)) 8,qd 96 (.zg 95) 24,qd 97 (.call 58 [93,96]) 60,qd 98 (.call 61 [92,97]) 126,qd 99 (.call 58 [91,98]) 255,qw 4 99 511] true) .ret) (.seq (OP [Bi 101 .eql 26 (cI 12),qm 100 101]) (.cond 100 (.seq (.ops [Lo 102 2,Lo 103 2,Lo 104 2,Lo 105 6,qd 106 (.zM 1 105 (cI 0)) 8,qd 107 (.zg 106) 24,qd 108 (.call 58 [104,107]) 60,qd 109 (.call 63 [103,108]) 126,qd 110 (.call 58 [102,109]) 255,qw 4 110 511] true) .ret) (.seq (OP [Bi 112 .eql 26 (cI 13),qm 111 112]) (.cond 111 (.seq (.ops [Lo 113 2,Lo 114 2,qm 115 5,Lo 116 2,Lo 117 6,qd 118 (.zM 1 117 (cI 0)) 16,qd 119 (.zg 118) 48,qd 120 (.call 58 [116,119]) 120,qd 121 (.call 62 [114,115,120]) 254,qd 122 (.call 58 [113,121]) 511,qw 4 122 1023] true) .ret) (.seq (OP [Bi 124 .eql 26 (cI 14),qm 123 124]) (.cond 123 (.seq (.ops [Lo 125 2,Lo 126 6,qd 127 (.zM 1 126 (cI 0)) 2,qd 128 (.zg 127) 6,Lo 129 6,qd 130 (.zM 1 129 (cI 1)) 16,qd 131 (.zg 130) 48,qd 132 (.call 64 [125,128,131]) 127,qw 4 132 255] true) .ret) .skip)))))))))))))))))))))))))))) (.seq (OP [Lo 133 2,qm 134 5,Ca 135 58 [133,134],qm 4 135]) .ret)))))
theorem zzL:zy Tryz.prog 29 136 [.tmp 4] c29:=fK Tryz.func29
theorem zrB (W:zA) (hW:W.Fits) (hc:W.yJ=0) (hL:zvW W.label):∀t:Tree,t.wf xn→zq Tryz.prog 29 [Yy W,zZ t] (uh W.next.length (ZY W t)):=by
 obtain⟨hl,h600,_⟩:=qa W hc
 have h6:W.next.length≤1000000:=zo
 have hAll:=U7 W h6 XL 56 [] (by simp[ze]) (λi hi=>zuC i)
 intro t
 induction t using Tree.ind with
 | h t ih =>
  intro hwf
  obtain⟨har,hnum⟩:=zjQ ((xM _ _).1 hwf).1
  have hwd:t.width≤2:=zo
  have hA:=U7 W h6 (YF W t.num) 57 [.y7 [Yy W],.y7 (yo t)] (by simp[ze,Pure,wi,ym]) (λi hi=>zui W hl hL t hnum i hi)
  have hO:=λ(h:t.width=2)=>U7 W h6 (orF (xf W t.kids 0) (xf W t.kids 1)) 60 [.y7 [.xj 1 (Wk W t t.width)]] (by simp[ze,Pure,Q7]) (λi hi=>zuq W t h i hi)
  refine za zzL zs (by simp[ze,wi,zm]) ?_ (zV _ _)
  rw[zcC]
  refine sR ?_
  refine sC hAll ?_
  refine zG (yV 2 0 1 zs rfl rfl) ?_
  refine z8 [2,3,5,6,12,13] (λk:Nat=>[(14,.sc (.int .i64 k))]) (λk=>[.row true [Yy W],.row true (yo t),.row true [.own 3 k 0 k],.vec true k 1 (Wk W t k)]) (λk=>k≤t.width) (λk=>t.width-k) 0 ?_
  refine sW ?_
  refine⟨zo,by exact sK,rfl,?_⟩
  rintro k hk
  refine sW ?_
  refine sR ?_
  refine sS (λh1=>?_) λh1=>?_
  ·have hk':k<t.width:=by simpa [Tree.width] using h1
   refine sL (by rw[Int.toNat_natCast];exact y8 hk') ?_
   have hih:=ih k hk' (x9 hwf hk')
   rw[←zt5 W hk'] at hih
   refine sC hih ?_
   refine⟨by unfold xd;simp;omega,?_⟩
   refine sW ?_
   refine sI ?_
   refine⟨k+1,zo,zd,?_⟩
   dsimp only
   refine zj 4 zs rfl sQ (sU ?_)
   exact zp (zkM W t k)
  have hkw:k=t.width:=by have:¬k<t.width:=by simpa [Tree.width] using h1
                         omega
  subst hkw
  clear ih h1 hk
  refine sS (λg1=>?_) λg1=>?_
  ·have g1:t.kind=1:=sO
   rw[show qD W t.kind t.num (xf W t.kids)=XL from by unfold qD;simp[g1]]
   exact .refl _
  have g1:¬t.kind=1:=sO
  refine sS (λg3=>?_) λg3=>?_
  ·have g3:t.kind=3:=sO
   rw[show qD W t.kind t.num (xf W t.kids)=YF W t.num from by unfold qD;simp[g3]]
   refine sV hA ?_
   exact .refl _
  have g3:¬t.kind=3:=sO
  refine sS (λg4=>?_) λg4=>?_
  ·have g4:t.kind=4:=sO
   rw[show qD W t.kind t.num (xf W t.kids)=xt (xf W t.kids 0) from by unfold qD;simp[g4]]
   refine sB ?_
   refine⟨_,wY (j:=0) zo zo,?_⟩
   refine sW ?_
   refine sC (XB W h6 (xf W t.kids 0)) ?_
   exact .refl _
  have g4:¬t.kind=4:=sO
  refine sS (λg5=>?_) λg5=>?_
  ·have g5:t.kind=5:=sO
   rw[show qD W t.kind t.num (xf W t.kids)=WH (xf W t.kids 0) (xf W t.kids 1) from by unfold qD;simp[g5]]
   refine sB ?_
   refine⟨_,wY (j:=0) zo zo,?_⟩
   refine sW ?_
   refine sB ?_
   refine⟨_,wY (j:=1) zo zo,?_⟩
   refine sW ?_
   refine sC (zmx W h6 (xf W t.kids 0) (xf W t.kids 1)) ?_
   exact .refl _
  have g5:¬t.kind=5:=sO
  refine sS (λg6=>?_) λg6=>?_
  ·have g6:t.kind=6:=sO
   rw[show qD W t.kind t.num (xf W t.kids)=orF (xf W t.kids 0) (xf W t.kids 1) from by unfold qD;simp[g6]]
   have hdd:∀{H:List zf},vA H (List.drop 0 (List.take t.width (Wk W t t.width))) (Wk W t t.width):=by intro H;rw[zu zs];exact z6 _
   refine .inr (.inr (.inr (.inr (.inr (.inl ⟨rfl,_,_,.cons _ _ _ _ (.refl _) (.cons _ _ _ _ (.fn _ _ _ _ _ .nil (.cons _ _ _ _ (.loc _ _ _ _ _ rfl (.cons _ _ _ _ (.own _ _ _ _ _ _ _ _ rfl hdd) .nil)) .nil)) .nil),hO zo,?_⟩)))))
   refine sW ?_
   exact .refl _
  have g6:¬t.kind=6:=sO
  refine sS (λg7=>?_) λg7=>?_
  ·have g7:t.kind=7:=sO
   rw[show qD W t.kind t.num (xf W t.kids)=Jz W (xf W t.kids 0) from by unfold qD;simp[g7]]
   refine sB ?_
   refine⟨_,wY (j:=0) zo zo,?_⟩
   refine sW ?_
   refine sC (zws W hW hc (xf W t.kids 0)) ?_
   exact .refl _
  have g7:¬t.kind=7:=sO
  refine sS (λg8=>?_) λg8=>?_
  ·have g8:t.kind=8:=sO
   rw[show qD W t.kind t.num (xf W t.kids)=euF W XL (xf W t.kids 0) from by unfold qD;simp[g8]]
   refine sB ?_
   refine⟨_,wY (j:=0) zo zo,?_⟩
   refine sW ?_
   refine sC (zsz W hc XL (xf W t.kids 0)) ?_
   exact .refl _
  have g8:¬t.kind=8:=sO
  refine sS (λg9=>?_) λg9=>?_
  ·have g9:t.kind=9:=sO
   rw[show qD W t.kind t.num (xf W t.kids)=egF W (xf W t.kids 0) from by unfold qD;simp[g9]]
   refine sB ?_
   refine⟨_,wY (j:=0) zo zo,?_⟩
   refine sW ?_
   refine sC (zrv W hW hc (xf W t.kids 0)) ?_
   exact .refl _
  have g9:¬t.kind=9:=sO
  refine sS (λg10=>?_) λg10=>?_
  ·have g10:t.kind=10:=sO
   rw[show qD W t.kind t.num (xf W t.kids)=euF W (xf W t.kids 0) (xf W t.kids 1) from by unfold qD;simp[g10]]
   refine sB ?_
   refine⟨_,wY (j:=0) zo zo,?_⟩
   refine sW ?_
   refine sB ?_
   refine⟨_,wY (j:=1) zo zo,?_⟩
   refine sW ?_
   refine sC (zsz W hc (xf W t.kids 0) (xf W t.kids 1)) ?_
   exact .refl _
  have g10:¬t.kind=10:=sO
  refine sS (λg11=>?_) λg11=>?_
  ·have g11:t.kind=11:=sO
   rw[show qD W t.kind t.num (xf W t.kids)=xt (Jz W (xt (xf W t.kids 0))) from by unfold qD;simp[g11]]
   refine sB ?_
   refine⟨_,wY (j:=0) zo zo,?_⟩
   refine sW ?_
   refine sC (XB W h6 (xf W t.kids 0)) ?_
   refine sC (zws W hW hc (xt (xf W t.kids 0))) ?_
   refine sC (XB W h6 (Jz W (xt (xf W t.kids 0)))) ?_
   exact .refl _
  have g11:¬t.kind=11:=sO
  refine sS (λg12=>?_) λg12=>?_
  ·have g12:t.kind=12:=sO
   rw[show qD W t.kind t.num (xf W t.kids)=xt (egF W (xt (xf W t.kids 0))) from by unfold qD;simp[g12]]
   refine sB ?_
   refine⟨_,wY (j:=0) zo zo,?_⟩
   refine sW ?_
   refine sC (XB W h6 (xf W t.kids 0)) ?_
   refine sC (zrv W hW hc (xt (xf W t.kids 0))) ?_
   refine sC (XB W h6 (egF W (xt (xf W t.kids 0)))) ?_
   exact .refl _
  have g12:¬t.kind=12:=sO
  refine sS (λg13=>?_) λg13=>?_
  ·have g13:t.kind=13:=sO
   rw[show qD W t.kind t.num (xf W t.kids)=xt (euF W XL (xt (xf W t.kids 0))) from by unfold qD;simp[g13]]
   refine sB ?_
   refine⟨_,wY (j:=0) zo zo,?_⟩
   refine sW ?_
   refine sC (XB W h6 (xf W t.kids 0)) ?_
   refine sC (zsz W hc XL (xt (xf W t.kids 0))) ?_
   refine sC (XB W h6 (euF W XL (xt (xf W t.kids 0)))) ?_
   exact .refl _
  have g13:¬t.kind=13:=sO
  refine sS (λg14=>?_) λg14=>?_
  ·have g14:t.kind=14:=sO
   rw[show qD W t.kind t.num (xf W t.kids)=auF W (xf W t.kids 0) (xf W t.kids 1) from by unfold qD;simp[g14]]
   refine sB ?_
   refine⟨_,wY (j:=0) zo zo,?_⟩
   refine sW ?_
   refine sB ?_
   refine⟨_,wY (j:=1) zo zo,?_⟩
   refine sW ?_
   refine sC (zAW W hW hc (xf W t.kids 0) (xf W t.kids 1)) ?_
   exact .refl _
  have g14:¬t.kind=14:=sO
  rw[show qD W t.kind t.num (xf W t.kids)=xt XL from by unfold qD;simp[g1,g3,g4,g5,g6,g7,g8,g9,g10,g11,g12,g13,g14]]
  refine sC (XB W h6 XL) ?_
  exact .refl _
end
end
section
open Go.RowKit
def ztW (W:zA) (t:Tree):Int:=if W.yJ=0 then yJ xn t else W.yJ
def c27:PC:=.seq (OP [Bx 2 0,Bx 3 1,Mv 4 (cI 0)]) (.seq (.seq (OP [LA 6 4 2,Ca 7 34 [6],qm 5 7]) (.seq (OP [qm 8 5,Bi 9 .neq 8 (cI 0)]) (.cond 9 (.seq (OP [qm 10 5,qm 4 10]) .ret) .skip))) (.seq (OP [LA 11 3 3,Ca 12 52 [11],qm 4 12]) .ret))
theorem zzI:zy Tryz.prog 27 13 [.tmp 4] c27:=fK Tryz.func27
theorem zn4 (W:zA) (hW:W.Fits) (t:Tree) (hs:Small t):zq Tryz.prog 27 [wC W,zZ t] (.sc (.int .i64 (ztW W t))):=by
 have hC:=J8 W hW
 have hT:=zg1 t hs
 refine za zzI zs (by simp[ze,wb,zm]) ?_ (by simp[Pure])
 unfold ztW
 generalize W.yJ=c at *
 unfold wC at *
 refine sR ?_
 refine sC hC ?_
 refine sS (λq=>?_) λq=>?_
 ·have q:¬c=0:=sO
  rw[if_neg q]
  exact .refl _
 ·have q:c=0:=sO
  rw[if_pos q]
  refine sC hT ?_
  exact .refl _
def c13:PC:=.seq (OP [Bx 2 0,Bx 3 1,Mv 4 cN,Mv 5 (cI 0)]) (.seq (.seq (OP [LA 7 4 2,LA 8 3 3,Ca 9 27 [7,8],qm 6 9]) (.seq (OP [qm 10 6,Bi 11 .neq 10 (cI 0)]) (.cond 11 (.seq (OP [qm 12 6,Mv 4 cN,qm 5 12]) .ret) .skip))) (.seq (.ops [LA 13 4 2,qd 14 (.call 28 [13]) 1,LA 15 3 3,qd 16 (.call 29 [14,15]) 7,qw 4 16 15,qd 5 (.move (cI 0)) 31] true) .ret))
theorem zz2:zy Tryz.prog 13 17 [.tmp 4,.tmp 5] c13:=fK Tryz.func13
theorem zqv (W:zA) (hW:W.Fits) (hL:zvW W.label) (t:Tree) (hs:Small t) (hc:W.yJ=0) (h:yJ xn t=0):zq Tryz.prog 13 [wC W,zZ t] (.yO [uh W.next.length (ZY W t),.sc (.int .i64 0)]):=by
 have hC:=zn4 W hW t hs
 rw[show ztW W t=0 by unfold ztW;rw[if_pos hc,h]] at hC
 have hB:=zqx W hW hc
 have hT:=zrB W hW hc hL t ((qG _ _).1 h).2.2
 refine za zz2 zs (by simp[ze,wb,zm]) ?_ (by simp[Pure,ze,zV])
 unfold wC at *
 refine sR ?_
 refine sC hC ?_
 refine sC hB ?_
 refine sC hT ?_
 exact .refl _
end
section
open Go.RowKit
theorem zjB {N:List (List zN)} {x:Int}:∀{n:Nat},x∈zhH N n→∃m,m<n∧x∈JU N m
 | 0,h=>by simp[zhH] at h
 | n+1,h=>by
  simp only[zhH,List.mem_append] at h
  rcases h with h|h
  ·obtain⟨m,h1,h2⟩:=zjB h
   exact⟨m,zo,h2⟩
  ·exact⟨n,zo,h⟩
theorem zu4 {M:List (List Int)} {N:List (List zN)} {s:Nat} (h:SpN M N s) {m:Nat} (hm:m<N.length) {x:Int} (hx:x∈JU N m):0≤x∧x.toNat<N.length:=by
 unfold JU at hx
 split at hx
 ·rw[List.mem_singleton] at hx;subst hx;omega
 ·obtain⟨e,he,rfl⟩:=List.mem_map.1 hx
  have hr:N.getD m []∈N:=by rw[List.getD_eq_getElem?_getD,List.getElem?_eq_getElem hm];simp
  have:=h.edge _ hr e he
  have:=h.len
  omega
theorem zny {N:List (List zN)} {t n:Nat} (ht:t<n) {x:Int} (hx:x∈Xc N t):0≤x∧x<(x4 N n:Int):=by
 obtain⟨i,hi,rfl⟩:=List.mem_map.1 hx
 have hi:=List.mem_range.1 hi
 have:=We (N:=N) (show t+1≤n by omega)
 rw[qe] at this
 omega
noncomputable def VY (P:zb) (tok st:Int):zA:=⟨Xc (P.YO tok st) 0,ux (P.YO tok st),Wd P.zI (P.YO tok st),YS P.zI (P.YO tok st)⟩
theorem zwN (P:zb) (tok st:Int):wC (VY P tok st)=zkA (Xc (P.YO tok st) 0) (ux (P.YO tok st)) (Wd P.zI (P.YO tok st)) (YS P.zI (P.YO tok st)):=rfl
theorem zbz {N:List (List zN)} {of:List zN} {s x:Int}:∀{i:Nat},x∈qZ N of s i→0≤x∧x<(i:Int)
 | 0,h=>by simp[qZ] at h
 | i+1,h=>by
  simp only[qZ] at h
  split at h
  ·rcases List.mem_append.1 h with h|h
   ·have:=zbz h;omega
   ·rw[List.mem_singleton] at h;subst h;omega
  ·have:=zbz h;omega
structure zsu (W:zA):Prop where
 fits:W.Fits
 yJ:W.yJ=0
 znQ:zvW W.label
 start:W.start.length≤1048576
 rows:∀l∈W.next,l.length≤1048576
theorem zlW {P:zb} (h:P.yK=0) (z:Int):0≤zha P.zI z∧zha P.zI z<18446744073709551616:=by
 unfold zha
 split
 ·omega
 ·have hp:∀k:Nat,k≤63→(0:Int)≤2^k∧(2:Int)^k<18446744073709551616:=λk hk=>by
   have h1:(2:Nat)^k≤2^63:=Nat.pow_le_pow_right zo hk
   have h3:(2:Nat)^63=9223372036854775808:=zc
   rw[zeZ k]
   generalize (2:Nat)^k=z at *
   omega
  refine hp _ ?_
  by_cases hz:z.toNat<P.zI.length
  ·have h1:=(zb.Qs h hz).node
   have:=(xm (zb.xl h).1).1
   omega
  ·rw[List.getD_eq_getElem?_getD,List.getElem?_eq_none zo]
   simp
theorem zhG {P:zb} {tok st:Int} (he:P.Qb tok st=0) (hA:x4 (P.YO tok st) (P.YO tok st).length≤600):zsu (VY P tok st):=by
 have hF:=uZ he
 have hS:=hF.sp
 obtain⟨_,_,h60⟩:=zb.xl hF.steps
 have hlab:=λz=>zlW (P:=P) hF.steps z
 have hpos:1≤(P.YO tok st).length:=by have:=hS.len;have:=hS.pos;omega
 unfold VY
 generalize P.YO tok st=N at *
 generalize P.exM tok st=M at *
 have hnl:=QZ N
 have hll:=zfZ P.zI N
 have hfl:=ze5 P.zI N
 have hm:∀t,t<N.length→wN N t≤600:=λt ht=>by
  have:=We (N:=N) (show t+1≤N.length by omega)
  rw[qe] at this
  omega
 have hnx:∀l∈ux N,l≠[]∧l.length≤600∧xH l (ux N).length=true:=λl hl=>by
  obtain⟨x,hx,rfl⟩:=List.mem_map.1 hl
  obtain⟨m,m1,m2⟩:=zjB hx
  obtain⟨x1,x2⟩:=zu4 hS m1 m2
  refine⟨λh=>?_,?_,wj λy hy=>?_⟩
  ·have h1:=UR N x.toNat
   have h2:=zq8 N x.toNat
   rw[h] at h1
   simp at h1
   omega
  ·rw[UR];exact hm _ x2
  ·rw[hnl];exact zny x2 hy
 have hst:xH (Xc N 0) (ux N).length=true:=wj λy hy=>by rw[hnl];exact zny hpos hy
 have hsl:(Xc N 0).length≤600:=by rw[UR];exact hm 0 hpos
 have hfr:∀l∈YS P.zI N,xH l (ux N).length=true∧l.length≤600:=λl hl=>by
  obtain⟨k,hk,rfl⟩:=List.mem_map.1 hl
  refine⟨wj λy hy=>?_,?_⟩
  ·rw[hnl];exact zbz hy
  ·have:=zdn N (wz N N.length) (k:Int) (x4 N N.length);omega
 refine⟨⟨?_,?_,?_,?_,?_,?_⟩,?_,?_,?_,?_⟩
 ·show(Xc N 0).length≤_;omega
 ·show(ux N).length≤_;omega
 ·show(Wd P.zI N).length≤_;omega
 ·show(YS P.zI N).length≤_;omega
 ·intro l hl;have:=hnx l hl;omega
 ·intro l hl;have:=hfr l hl;omega
 ·unfold zA.yJ
  dsimp only
  rw[if_neg zo,if_neg (by rw[hst];simp;omega),if_neg,if_neg]
  ·rw[Bool.not_eq_true,List.any_eq_false]
   intro l hl
   rw[(hfr l hl).1];decide
  ·rw[Bool.not_eq_true,List.any_eq_false]
   intro l hl
   obtain⟨h1,_,h2⟩:=hnx l hl
   rw[h2]
   simpa using h1
 ·intro x hx
  obtain⟨e,_,rfl⟩:=List.mem_map.1 hx
  exact hlab e.1
 ·show(Xc N 0).length≤_;omega
 ·intro l hl;have:=hnx l hl;omega
theorem zfG:∀{a b:List Int},zB a=zB b→a=b:=λ{a b} h=>by
 unfold zB at h
 injection h with _ h
 induction a generalizing b with
 | nil=>cases b with
  | nil=>rfl
  | cons y b=>simp at h
 | cons x a ih=>cases b with
  | nil=>simp at h
  | cons y b =>
   simp only[List.map_cons,List.cons.injEq,D.sc.injEq,Value.int.injEq,true_and,and_true] at h
   rw[h.1,ih h.2]
theorem zjX {W:zA} {A:yh} (hb:Ur W A) (ha:vM W A=true) {s l:List Int} (e:V2 W A (xc W A).1 (xc W A).2 (xh W A).2=.yO [.agg [zB s,zB l],.sc (.bool (vM W A)),.sc (.int .i64 0)]) :
  ¬pE (xc W A).2 (vn W A (xc W A).1)<0∧s=qK (xc W A).1 ((x3 (xc W A).2 (vn W A (xc W A).1) (xh W A).2).take ((x3 (xc W A).2 (vn W A (xc W A).1) (xh W A).2).length-1)) ∧
   l=qK (xc W A).1 (V9 (xc W A).2 (vn W A (xc W A).1) (yQ (x3 (xc W A).2 (vn W A (xc W A).1) (xh W A).2)).toNat):=by
 rw[ha] at e
 unfold V2 at e
 split at e
 ·simp at e
 ·rename_i hp
  simp only[D.yO.injEq,List.cons.injEq,D.agg.injEq,and_true,true_and] at e
  exact⟨hp,(zfG e.1).symm,(zfG e.2).symm⟩
theorem zgR {W:zA} {A:yh} (hb:Ur W A) {l:List Int} (h:xH l (xc W A).2.length=true):xH (qK (xc W A).1 l) W.next.length=true:=wj λx hx=>by
 obtain⟨hN,hg⟩:=Wj hb
 obtain⟨n,hn,rfl⟩:=List.mem_map.1 hx
 have h1:=zT h hn
 have:=hN.len
 exact(hg _ (xE (show n.toNat<(xc W A).1.length by omega))).1
theorem zsw {W:zA} {A:yh} (hb:Ur W A) (ha:vM W A=true) {s l:List Int} (e:V2 W A (xc W A).1 (xc W A).2 (xh W A).2=.yO [.agg [zB s,zB l],.sc (.bool (vM W A)),.sc (.int .i64 0)]) :
  xH s W.next.length=true∧xH l W.next.length=true∧s.length≤1000000000∧l.length≤1000000000:=by
 obtain⟨hp,rfl,rfl⟩:=zjX hb ha e
 obtain⟨h1,h2,h3,h4⟩:=zex hb hp
 obtain⟨h5,h6⟩:=zmu h4
 have hG:=(Wj hb).1.fits hb (Wj hb).2
 have hS:(vn W A (xc W A).1).length≤160:=by
  obtain⟨_,_,h80,_⟩:=vK W hb.two.cw
  obtain⟨_,_,_,h80',_⟩:=YG A hb.two.ca
  unfold vn
  rw[List.length_append,YJ (Nat.le_refl _),YJ (Nat.le_refl _)]
  omega
 refine⟨zgR hb (wj λx hx=>zT h1 (List.mem_of_mem_take hx)),zgR hb h5,?_,?_⟩
 ·unfold qK;rw[List.length_map,List.length_take];omega
 ·unfold qK;rw[List.length_map]
  have:=Nat.mul_le_mul hS (show(xc W A).2.length≤1228800 by omega)
  omega
end
section
def QL (g:List (List Int)):List Int→Prop
 | []=>True
 | [_]=>True
 | x::y::r=>y∈g.getD x.toNat []∧QL g (y::r)
theorem Js {g:List (List Int)} {y:Int}:∀{l:List Int} {x:Int},QL g (l++[x])→y∈g.getD x.toNat []→QL g (l++[x]++[y])
 | [],x,_,h=>⟨h,trivial⟩
 | [a],x,k,h=>⟨k.1,h,trivial⟩
 | a::b::r,x,k,h=>⟨k.1,Js (l:=b::r) k.2 h⟩
theorem zaM {g:List (List Int)}:∀{l m:List Int} {x:Int},QL g (l++[x])→QL g (x::m)→QL g (l++x::m)
 | [],m,x,_,h=>h
 | [a],m,x,k,h=>⟨k.1,h⟩
 | a::b::r,m,x,k,h=>⟨k.1,zaM (l:=b::r) k.2 h⟩
def JS (g:List (List Int)) (from_:List Int) (p:Pr):Prop:=(p.2=-1∧p.1∈from_)∨(0≤p.2∧p.1∈g.getD p.2.toNat [])
theorem ziP {g:List (List Int)} {from_:List Int}:∀(r:List Int) {M:List Pr},(∀p∈M,JS g from_ p)→(∀x∈r,x∈from_)→∀p∈wSt r M,JS g from_ p
 | [],M,h,_=>h
 | k::r,M,h,hr=>by
  rw[wSt]
  refine ziP r (λp hp=>?_) λx hx=>hr x (by simp[hx])
  split at hp
  ·rcases List.mem_append.1 hp with q|q
   ·exact h p q
   ·rw[List.mem_singleton] at q;subst q;exact .inl ⟨rfl,hr k zs⟩
  ·exact h p hp
theorem zge {g:List (List Int)} {from_:List Int} {ok:Nat→Bool} {n:Int} (hn:0≤n):∀(r:List Int) {M:List Pr},(∀p∈M,JS g from_ p)→(∀x∈r,x∈g.getD n.toNat [])→∀p∈WV ok n r M,JS g from_ p
 | [],M,h,_=>h
 | k::r,M,h,hr=>by
  rw[WV]
  refine zge hn r (λp hp=>?_) λx hx=>hr x (by simp[hx])
  split at hp
  ·rcases List.mem_append.1 hp with q|q
   ·exact h p q
   ·rw[List.mem_singleton] at q;subst q;exact .inr ⟨hn,hr k zs⟩
  ·exact h p hp
theorem zgz {g:List (List Int)} (xL:∀l∈g,xH l g.length=true) {to ok:Nat→Bool} {from_:List Int}:∀(f h:Nat) (M:List Pr),ZF g ok from_ M→(∀p∈M,JS g from_ p)→∀{M' h'},QD g to ok f h M=some (M',h')→∀p∈M',JS g from_ p
 | 0,h,M,_,_,M',h',e=>by cases e
 | f+1,h,M,hI,hJ,M',h',e=>by
  rw[QD] at e
  split at e
  ·rename_i q
   split at e
   ·cases e;exact hJ
   ·have hr:=hI.rng _ (xE q)
    refine zgz xL f (h+1) _ (zcV (i0:=h) _ hI q rfl λx hx=>zT (y3 xL _) hx).1 (zge ?_ _ hJ λx hx=>hx) e
    exact hr.1
  ·cases e
theorem zd7 {g:List (List Int)} {ok:Nat→Bool} {from_:List Int} {M:List Pr} (h:ZF g ok from_ M) (hJ:∀p∈M,JS g from_ p):∀(f t:Nat),t≤M.length→t≤f→0<t →
  ∃R,(uT M f (Y1 M t)).reverse=R++[Y1 M t]∧QL g (R++[Y1 M t])∧∃x,(R++[Y1 M t]).head? = some x∧x∈from_
 | 0,t,_,hf,h0=>zo
 | f+1,t,ht,hf,h0=>by
  obtain⟨t',k1,k2,k5,k3,k4⟩:=h.up h0 ht
  rw[uT,if_neg zo,k2,List.reverse_cons]
  have hp:=hJ _ (xE (show t-1<M.length by omega))
  have e1:(M.getD (t-1) (0,0)).1=Y1 M t:=by unfold Y1;rw[if_neg zo];rfl
  unfold JS at hp
  rw[k5,e1] at hp
  rcases Nat.eq_zero_or_pos t' with q|q
  ·subst q
   have ez:Y1 M 0=-1:=rfl
   have e0:uT M f (Y1 M 0)=[]:=by
    cases f with
    | zero=>rfl
    | succ f=>rw[uT,if_pos (by rw[ez];decide)]
   rw[e0]
   refine⟨[],rfl,trivial,_,rfl,?_⟩
   rcases hp with⟨_,hp⟩|⟨hp,_⟩
   ·exact hp
   ·rw[ez] at hp;omega
  ·obtain⟨R,r1,r2,x,r3,r4⟩:=zd7 h hJ f t' zo zo q
   rw[r1]
   have hpos:0≤Y1 M t':=by
    obtain⟨_,_,_,_,z,_⟩:=h.up q zo
    exact z
   refine⟨R++[Y1 M t'],rfl,Js r2 ?_,x,?_,r4⟩
   ·rcases hp with⟨hp,_⟩|⟨_,hp⟩
    ·omega
    ·exact hp
   ·cases R with
    | nil=>simpa using r3
    | cons a R=>simpa using r3
theorem zc0 {g:List (List Int)} (xL:∀l∈g,xH l g.length=true) (to ok:Nat→Bool) {from_:List Int} (hf:xH from_ g.length=true) (hne:XT g to ok from_≠[]) :
  ∃R y,XT g to ok from_=R++[y]∧to y.toNat=true∧QL g (R++[y])∧∃x,(R++[y]).head? = some x∧x∈from_:=by
 obtain⟨a,b,_⟩:=zhY (ok:=ok) (from_:=from_) from_ (ZF.none g ok from_) λx hx=>⟨hx,zT hf hx⟩
 have hR:=zig xL (to:=to) (ok:=ok) (g.length+1) 0 (wSt from_ []) a (Nat.zero_le _) zo b λi hi=>zo
 have hJ0:∀p∈wSt from_ [],JS g from_ p:=ziP from_ zs λx hx=>hx
 unfold XT at hne ⊢
 cases e:QD g to ok (g.length+1) 0 (wSt from_ []) with
 | none=>rw[e] at hne;exact absurd rfl hne
 | some q =>
  obtain⟨M,h⟩:=q
  rw[e] at hR
  obtain⟨hI,hh,ht⟩:=hR
  have hJ:=zgz xL _ _ _ a hJ0 e
  have en:yF M h=Y1 M (h+1):=by unfold Y1;rw[if_neg zo];rfl
  obtain⟨R,r1,r2,r3⟩:=zd7 hI hJ (M.length+1) (h+1) zo zo zo
  dsimp only
  rw[en]
  exact⟨R,_,r1,by rw[←en];exact ht,r2,r3⟩
theorem zkQ (R:List Int) (y:Int):yQ (R++[y])=y:=zaZ R y
theorem zmI {l:List Int} (h:l≠[]):∃R,l=R++[yQ l]:=by
 refine⟨l.dropLast,?_⟩
 conv=>lhs;rw[←List.dropLast_concat_getLast h]
 congr 2
 unfold yQ
 rw[List.getLast_eq_getElem,List.getD_eq_getElem?_getD,List.getElem?_eq_getElem (by have:=List.length_pos_iff.2 h;omega)]
 rfl
theorem zec {g:List (List Int)} {F:List (Nat→Bool)} {e:Nat} (H:RH g F e):∀k,k≤F.length→QL g (vO g F e k)∧(vO g F e k).head? = some (e:Int)∧∀j,j<k→∃x∈vO g F e k,(F.getD j noT) x.toNat=true
 | 0,_=>⟨trivial,rfl,λj hj=>zo⟩
 | k+1,hk=>by
  obtain⟨h1,h2,h3⟩:=zec H k zo
  obtain⟨o1,_⟩:=zdA H k zo
  rw[vO]
  split
  ·rename_i q
   refine⟨h1,h2,λj hj=>?_⟩
   by_cases ej:j=k
   ·subst ej
    obtain⟨x,hx,hx2⟩:=List.any_eq_true.1 q
    exact⟨x,hx,hx2⟩
   ·exact h3 j zo
  ·have hS:F.getD k noT∈F:=by rw[List.getD_eq_getElem?_getD,List.getElem?_eq_getElem (show k<F.length by omega)];simp
   obtain⟨_,w2,_⟩:=o1.way H hS
   have hl:=o1.lt
   obtain⟨R,y,r1,r2,r3,x,r4,r5⟩:=zc0 H.xL (F.getD k noT) (X7 g (zE g e)) (from_:=[yQ (vO g F e k)]) (wj λx hx=>by rw[List.mem_singleton] at hx;subst hx;exact hl) w2
   rw[List.mem_singleton] at r5
   subst r5
   obtain⟨B,hB⟩:=zmI o1.ne
   rw[r1]
   cases R with
   | nil =>
    have ey:y=yQ (vO g F e k):=by simpa using r4
    refine⟨by simpa using h1,by simpa using h2,λj hj=>?_⟩
    by_cases ej:j=k
    ·subst ej
     exact⟨y,by simp[ey,zbo o1.ne],r2⟩
    ·obtain⟨x,hx,hx2⟩:=h3 j zo
     exact⟨x,by simp[hx],hx2⟩
   | cons a R =>
    have ea:a=yQ (vO g F e k):=by simpa using r4
    subst ea
    rw[List.cons_append,List.drop_succ_cons,List.drop_zero]
    refine⟨?_,?_,λj hj=>?_⟩
    ·rw[hB,List.append_assoc,List.singleton_append]
     rw[hB] at h1
     have:=zaM h1 (by rw[←zkQ B (yQ (vO g F e k)),←hB];exact r3)
     exact this
    ·rw[List.head?_append,h2];rfl
    ·by_cases ej:j=k
     ·subst ej
      exact⟨y,zs,r2⟩
     ·obtain⟨x,hx,hx2⟩:=h3 j zo
      exact⟨x,by simp[hx],hx2⟩
theorem zla {g:List (List Int)} {F:List (Nat→Bool)} {e:Nat} (H:RH g F e):QL g (V9 g F e++[(e:Int)])∧(V9 g F e).head? = some (e:Int)∧∀j,j<F.length→∃x∈V9 g F e,(F.getD j noT) x.toNat=true:=by
 obtain⟨h1,h2,h3⟩:=zec H F.length (Nat.le_refl _)
 obtain⟨o1,_⟩:=zdA H F.length (Nat.le_refl _)
 obtain⟨t1,t2,_⟩:=o1.home H
 obtain⟨R,y,r1,r2,r3,x,r4,r5⟩:=zc0 H.xL (toE e) (X7 g (zE g e)) t1 t2
 have r1':Uk g (vO g F e F.length) e=R++[y]:=r1
 have hx:=List.mem_of_mem_take (List.mem_filter.1 r5).1
 have hy:y=(e:Int):=by
  have hr:=zT (o1.home H).2.2.1 (x:=y) (by rw[r1'];simp)
  unfold toE at r2
  rw[beq_iff_eq] at r2
  omega
 subst hy
 obtain⟨B,hB⟩:=zmI o1.ne
 have eR:V9 g F e=vO g F e F.length++R:=by unfold V9;rw[r1'];simp
 refine⟨?_,?_,λj hj=>?_⟩
 ·rw[eR,List.append_assoc]
  cases hRy:R++[(e:Int)] with
  | nil=>simp at hRy
  | cons a m =>
   rw[hRy] at r3 r4
   have ea:a=x:=by simpa using r4
   subst ea
   have hx':a∈g.getD (yQ (vO g F e F.length)).toNat []:=hx
   clear hx r5 eR r1' t1 t2 h2 h3 o1 r1
   generalize yQ (vO g F e F.length)=z at *
   generalize vO g F e F.length=o at *
   rw[hB] at h1 ⊢
   have:=zaM (Js h1 hx') (m:=m) r3
   simpa using this
 ·rw[eR,List.head?_append,h2];rfl
 ·obtain⟨x,hx,hx2⟩:=h3 j hj
  exact⟨x,by rw[eR];simp[hx],hx2⟩
end
section
open Go.RowKit
structure zrp (W:zA) (s:Nat→Int):Prop where
 start:s 0∈W.start
 next:∀i,s (i+1)∈W.next.getD (s i).toNat []
 fair:∀l∈W.fair,∀i,∃j,i≤j∧s j∈l
def Xv (W:zA) (s:Nat→Int) (i:Nat):Int:=W.label.getD (s i).toNat 0
theorem zhl {W:zA} (hW:zsu W) {t:Tree} (hw:t.wf zP) (h3:uI t=0):vM W (vC t)=true↔∃s,zrp W s∧¬xN (Xv W s) t 0:=by
 have hwn:(yS 4 t).wf zP:=zzw (.inl rfl) hw
 have hp:=znh _ hwn
 have hI:=zm6 hp (zjS h3)
 have hT:=Q5 (zix hp)
 have hS:=λw=>ztt hI hp hT w
 rw[zoR (zag hW.fits hW.yJ hW.start hW.rows h3),zm7 h3]
 have hn:∀w,xN w (yg (yS 4 t)) 0↔¬xN w t 0:=λw=>by rw[zow w _ hwn,zrW rfl rfl];rfl
 constructor
 ·rintro⟨s,r,⟨a1,a2⟩,⟨b1,b2⟩,c,d,e⟩
  exact⟨s,⟨a1,a2,d⟩,(hn _).1 ((hS (Xv W s)).1 ⟨r,b1,b2,c,e⟩)⟩
 ·rintro⟨s,⟨a1,a2,d⟩,h⟩
  obtain⟨r,b1,b2,c,e⟩:=(hS (Xv W s)).2 ((hn _).2 h)
  exact⟨s,r,⟨a1,a2⟩,⟨b1,b2⟩,c,d,e⟩
theorem zmj {W:zA} {A:yh} (hb:Ur W A) (ha:vM W A=true) {s l:List Int} (e:V2 W A (xc W A).1 (xc W A).2 (xh W A).2=.yO [.agg [zB s,zB l],.sc (.bool (vM W A)),.sc (.int .i64 0)]):l≠[]:=by
 obtain⟨hp,rfl,rfl⟩:=zjX hb ha e
 obtain⟨_,_,_,h4⟩:=zex hb hp
 obtain⟨_,h5,_⟩:=zla h4
 intro h
 unfold qK at h
 rw[List.map_eq_nil_iff] at h
 rw[h] at h5
 cases h5
end
section
def chr (s:ByteArray) (p:Nat):Nat:=match s[p]? with
 | some b=>b.toNat
 | none=>0
def one (b:UInt8):ByteArray:=⟨#[b]⟩
section
variable (T:Nat→ByteArray) (names:List ByteArray) (all:Bool)
variable {T names all}
end
end
section
def yW (c:Nat) (s:ByteArray) (p:Nat):Nat:=if p<s.size∧chr s p≠c then yW c s (p+1) else p
termination_by s.size-p
theorem zaN {c:Nat} {s:ByteArray} {p:Nat} (h:p<s.size) (k:chr s p≠c):yW c s p=yW c s (p+1):=by rw[yW,if_pos ⟨h,k⟩]
theorem Vh {c:Nat} {s:ByteArray} {p:Nat} (h:p<s.size→chr s p=c):yW c s p=p:=by rw[yW,if_neg λq=>q.2 (h q.1)]
theorem zg7 {c:Nat} {s:ByteArray}:∀(n p:Nat),s.size-p=n→p≤s.size→p≤yW c s p∧yW c s p≤s.size∧(yW c s p<s.size→chr s (yW c s p)=c)
 | 0,p,h,hp=>by rw[Vh λq=>zo];exact⟨zo,zo,λq=>zo⟩
 | n+1,p,h,hp=>by
  by_cases hc:chr s p=c
  ·rw[Vh λ_=>hc];exact⟨zo,zo,λ_=>hc⟩
  ·rw[zaN zo hc]
   have:=zg7 (c:=c) (s:=s) n (p+1) zo zo
   exact⟨zo,this.2.1,this.2.2⟩
theorem zdU {c:Nat} {s:ByteArray} {p:Nat} (h:s.size≤p):yW c s p=p:=Vh λq=>zo
theorem VW {c:Nat} {s:ByteArray} (p:Nat):p≤yW c s p:=by
 rcases Nat.lt_or_ge s.size p with h|h
 ·rw[zdU zo];omega
 ·exact(zg7 _ p rfl h).1
def Vo (s:ByteArray) (p:Nat):List ByteArray :=
 if h:yW 32 s p<s.size then s.extract p (yW 32 s p)::Vo s (yW 32 s p+1) else [s.extract p (yW 32 s p)]
termination_by s.size-p
decreasing_by have:=VW (c:=32) (s:=s) p;omega
theorem Yn {s:ByteArray} {p:Nat} (h:yW 32 s p<s.size):Vo s p=s.extract p (yW 32 s p)::Vo s (yW 32 s p+1):=by rw[Vo,dif_pos h]
theorem YI {s:ByteArray} {p:Nat} (h:¬yW 32 s p<s.size):Vo s p=[s.extract p (yW 32 s p)]:=by rw[Vo,dif_neg h]
theorem zg8 (s:ByteArray) (p:Nat):0<(Vo s p).length:=by
 by_cases h:yW 32 s p<s.size
 ·rw[Yn h];simp
 ·rw[YI h];simp
theorem zmG (s:ByteArray):∀(n p:Nat),s.size-p=n→p≤s.size→(Vo s p).length≤s.size-p+1
 | n,p,h,hp=>by
  by_cases hc:yW 32 s p<s.size
  ·rw[Yn hc]
   have h1:=VW (c:=32) (s:=s) p
   have:=zmG s (s.size-(yW 32 s p+1)) (yW 32 s p+1) rfl zo
   simp only[List.length_cons];omega
  ·rw[YI hc];simp
termination_by n=>n
theorem zeL (s:ByteArray):∀(n p:Nat),s.size-p=n→p≤s.size→∀x∈Vo s p,x.size≤s.size
 | n,p,h,hp,x,hx=>by
  by_cases hc:yW 32 s p<s.size
  ·rw[Yn hc] at hx
   rcases List.mem_cons.1 hx with rfl|hx
   ·rw[ByteArray.size_extract];omega
   ·have h1:=VW (c:=32) (s:=s) p
    exact zeL s (s.size-(yW 32 s p+1)) (yW 32 s p+1) rfl zo x hx
  ·rw[YI hc,List.mem_singleton] at hx
   subst hx
   rw[ByteArray.size_extract];omega
termination_by n=>n
def zkR:List ByteArray:=[⟨#[]⟩,⟨#[115,116,97,114,116]⟩,⟨#[101,110,100]⟩,⟨#[115,116,111,112]⟩,⟨#[116,97,115,107]⟩,⟨#[120,111,114]⟩,⟨#[97,110,100]⟩,⟨#[111,114]⟩]
def JC (k:Nat):ByteArray:=zkR.getD k ⟨#[]⟩
def zrC:ByteArray:=⟨#[102,108,111,119]⟩
def ZO (w:ByteArray):Nat→Nat
 | 0=>0
 | n+1=>if ZO w n≠0 then ZO w n else if ZR w (JC (n+1))=true then n+1 else 0
structure RdS where
 nodes:List (ByteArray × Int)
 zv:List (ByteArray × ByteArray × Int)
def w0 (w:List ByteArray) (i:Nat):ByteArray:=w.getD i ⟨#[]⟩
def zbD (st:RdS) (ln:ByteArray) (a:Int):Option RdS :=
 if ZR (w0 (Vo ln 0) 0) zrC=true then
  if (Vo ln 0).length=3∧xb (w0 (Vo ln 0) 1)=true∧xb (w0 (Vo ln 0) 2)=true then some { st with zv:=st.zv++[(w0 (Vo ln 0) 1,w0 (Vo ln 0) 2,a)] } else none
 else if ZO (w0 (Vo ln 0) 0) 7≠0 then
  if (Vo ln 0).length=2∧xb (w0 (Vo ln 0) 1)=true∧st.zv=[] then some { st with nodes:=st.nodes++[(w0 (Vo ln 0) 1,((ZO (w0 (Vo ln 0) 0) 7:Nat):Int))] } else none
 else none
inductive RdA (α:Type) where
 | done (x:α)
 | bad (a:Int)
def zaR (s:ByteArray):Nat→Nat→Int→RdS→RdA RdS
 | 0,_,a,_=>.bad a
 | f+1,p,a,st =>
  if p<s.size then
   if yW 10 s p<s.size then
    match zbD st (s.extract p (yW 10 s p)) a with
    | some st'=>zaR s f (yW 10 s p+1) (a+1) st'
    | none=>.bad a
   else .bad a
  else .done st
def zb5 (nodes:List (ByteArray × Int)) (x:ByteArray):Option Nat:=nodes.findIdx? λn=>ZR n.1 x
def Jp (nodes:List (ByteArray × Int)):List (ByteArray × ByteArray × Int)→List (Int × Int)→RdA (List (Int × Int))
 | [],out=>.done out
 | (x,y,a)::r,out=>match zb5 nodes x,zb5 nodes y with
  | some i,some j=>Jp nodes r (out++[((i:Int),(j:Int))])
  | _,_=>.bad a
noncomputable def ziu (s:ByteArray):zb × Int × Int :=
 match zaR s (s.size+1) 0 1 ⟨[],[]⟩ with
 | .bad a=>(⟨[],[]⟩,a,3)
 | .done st=>match Jp st.nodes st.zv [] with
  | .bad a=>(⟨[],[]⟩,a,4)
  | .done fl=>if (zb.mk st.nodes fl).yJ=0 then (⟨st.nodes,fl⟩,0,0) else (⟨[],[]⟩,0,(zb.mk st.nodes fl).yJ)
end
end Go.Proofs.YtoehflejhaakpaaGreatDoor
