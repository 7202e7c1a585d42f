/-
  Parts of a proof, joined. No statement is proved here.
-/
import Derived.Test.YthoklahpcibacaaGreatDoorZ1
import Derived.Test.YthoklahpcibacaaGreatDoorZ2
import Derived.Test.YthoklahpcibacaaGreatDoorProg
import Derived.Shelf.Sort.Plain
import Derived.ChangeKeysEq
import Derived.WalkKit
namespace Go.Proofs.YthoklahpcibacaaGreatDoor
set_option linter.unusedSimpArgs false
set_option linter.unusedVariables false
set_option maxRecDepth 100000
section
open Go.RowKit
def zye:PC:=.seq (OP [Bi 15 .lss 14 13]) (.seq (.cond 15 .skip (.exit 0)) (.seq (.block 1 (.seq (OP [Ia 16 3 12 14,LA 17 3 16,q 5 (.alloc [(.int .i64 0),(.int .i64 0),(.slice none 0 0)]),So 3 5 17]) (.ops [Fa 18 2 3,qd 19 (.zi 18) 1,LA 20 3 5,qd 21 (.call 162 [20]) 4,qd 22 (.wh 3 1 [21]) 12,qd 23 (.append 3 40 19 22) 31,qd 24 (.zv 2 3) 63,qk (.store 1 24 23) 127] true))) (OP [Bi 25 .add 14 (cI 1),qm 14 25])))
def c162:PC:=.seq (OP [Bx 1 0,q 2 (.alloc [(.int .i64 0),(.int .i64 0),(.slice none 0 0)])]) (.seq (OP [Fa 6 0 1,Lo 7 6,Fa 8 1 1,Lo 9 8,q 10 (.build [(.int .i64 0),(.int .i64 0),(.slice none 0 0)] [(0,1,7),(1,1,9)]),q 3 (.alloc [(.int .i64 0),(.int .i64 0),(.slice none 0 0)]),So 3 3 10]) (.seq (.seq (OP [Fa 11 2 1,Lo 12 11,Ln 13 12,Mv 14 (cI 0)]) (.block 0 (.loop zye))) (.seq (.seq (.stop (OP [Fa 26 0 1,Lo 27 26])) (.block 2 (.seq (OP [Bi 29 .eql 27 (cI 10),qm 28 29]) (.cond 28 (.seq (.ops [Ca 30 204 [(cI 1)],Fa 31 2 3,qd 32 (.zi 31) 2,qd 33 (.zM 3 32 (cI 0)) 6,qd 34 (.v7 3 33) 14,qd 35 (.call 203 [(cI 8),30,34]) 31,qk (.store 3 2 35) 63] true) .ret) (.seq (OP [Bi 37 .eql 27 (cI 11),qm 36 37]) (.cond 36 (.seq (.ops [Ca 38 204 [(cI 2)],Fa 39 2 3,qd 40 (.zi 39) 2,qd 41 (.zM 3 40 (cI 0)) 6,qd 42 (.v7 3 41) 14,qd 43 (.call 203 [(cI 9),38,42]) 31,qk (.store 3 2 43) 63] true) .ret) .skip)))))) (.seq (OP [LA 44 3 3,So 3 2 44]) .ret))))
theorem zsR:zz Tryz.prog 162 45 [.agg 2 3] c162:=fK Tryz.func162
def c161:PC:=.seq (OP [Bx 1 0,q 2 (.alloc [(.int .i64 0),(.int .i64 0),(.slice none 0 0)]),Mv 3 (cI 0)]) (.seq (.seq (OP [LA 5 3 1,Ca 6 49 [5],qm 4 6]) (.seq (OP [qm 7 4,Bi 8 .neq 7 (cI 0)]) (.cond 8 (.seq (OP [q 9 (.build [(.int .i64 0),(.int .i64 0),(.slice none 0 0)] []),qm 10 4,So 3 2 9,qm 3 10]) .ret) .skip))) (.seq (OP [LA 11 3 1,So 3 2 11,Mv 3 (cI 0)]) .ret))
theorem ztV:zz Tryz.prog 161 12 [.agg 2 3,.tmp 3] c161:=fK Tryz.func161
def c92:PC:=.seq (OP [Bx 1 0,q 2 (.alloc [(.int .i64 0),(.int .i64 0),(.slice none 0 0)]),Mv 3 (cI 0)]) (.seq (.seq (OP [LA 5 3 1,Ca 6 49 [5],qm 4 6]) (.seq (OP [qm 7 4,Bi 8 .neq 7 (cI 0)]) (.cond 8 (.seq (OP [q 9 (.build [(.int .i64 0),(.int .i64 0),(.slice none 0 0)] []),qm 10 4,So 3 2 9,qm 3 10]) .ret) .skip))) (.seq (OP [LA 11 3 1,Ca 12 162 [11],Ca 13 161 [12],Xt 14 0 13,Xt 15 1 13,So 3 2 14,qm 3 15]) .ret))
theorem zwS:zz Tryz.prog 92 16 [.agg 2 3,.tmp 3] c92:=fK Tryz.func92
mutual
def z1:Tree→Tree
 | .node k n ks=>if k=10 then uS 8 (xD 1 0) (zrj ks) else if k=11 then uS 9 (xD 2 0) (zrj ks) else .node k n (zev ks)
def zrj:List Tree→Tree
 | []=>default
 | t::_=>z1 t
def zev:List Tree→List Tree
 | []=>[]
 | t::r=>z1 t::zev r
end
theorem zdF:∀l,zev l=l.map z1
 | []=>by simp only[zev,List.map_nil]
 | t::r=>by simp only[zev,List.map_cons,zdF r]
theorem Uu (t:Tree) (hw:t.kind=10∨t.kind=11→0<t.width):z1 t=if t.kind=10 then uS 8 (xD 1 0) (z1 (t.xw 0)) else if t.kind=11 then uS 9 (xD 2 0) (z1 (t.xw 0)) else .node t.kind t.num (t.kids.map z1):=by
 cases t with
 | node k n ks =>
  rw[z1,zdF]
  rw[show(Tree.node k n ks).kind=k from rfl] at hw ⊢
  by_cases h:k=10
  ·rw[if_pos h,if_pos h]
   cases ks with
   | nil=>exact absurd (hw (.inl h)) (by simp[Tree.width,Tree.kids])
   | cons a r=>rfl
  ·rw[if_neg h,if_neg h]
   by_cases h':k=11
   ·rw[if_pos h',if_pos h']
    cases ks with
    | nil=>exact absurd (hw (.inr h')) (by simp[Tree.width,Tree.kids])
    | cons a r=>rfl
   ·rw[if_neg h',if_neg h'];rfl
theorem zco {k n:Int} {ks:List Tree} (h:¬yZ zS (.node k n ks)) (hk:∀u∈ks,u.wf zS):(Tree.node k n ks).wf zS:=(wY _ _).2 ⟨h,hk⟩
theorem zv2 {t:Tree} {k n:Int} {f:Tree→Tree} (hw:t.wf zS) (hk:zS k=zS t.kind) (h3:k≠3→n=0) (hn:0≤n∧n≤63) (hf:∀j,j<t.width→(f (t.xw j)).wf zS):(Tree.node k n (t.kids.map f)).wf zS:=by
 have h0:=((wY _ _).1 hw).1
 refine zco ?_ λu hu=>?_
 ·unfold yZ at *
  have e1:(Tree.node k n (t.kids.map f)).kind=k:=rfl
  have e2:(Tree.node k n (t.kids.map f)).num=n:=rfl
  have e3:(Tree.node k n (t.kids.map f)).width=t.width:=by simp[Tree.width,Tree.kids]
  rw[e1,e2,e3,hk]
  omega
 ·obtain⟨v,hv,rfl⟩:=List.mem_map.1 hu
  obtain⟨i,hi,rfl⟩:=List.mem_iff_getElem.1 hv
  have:=hf i hi
  rwa [Tree.uJ hi] at this
theorem zlR {t:Tree} (hw:t.wf zS):0≤t.num∧t.num≤63∧(t.kind≠3→t.num=0):=by
 have h0:=((wY _ _).1 hw).1
 unfold yZ at h0
 omega
theorem zrH {k n:Int} (h:k=1∨k=2∨k=3) (hn:0≤n∧n≤63) (h3:k≠3→n=0):(xD k n).wf zS:=zco (by
 unfold yZ
 have e1:(Tree.node k n []).kind=k:=rfl
 have e2:(Tree.node k n []).num=n:=rfl
 have e3:(Tree.node k n []).width=0:=rfl
 rw[e1,e2,e3]
 rcases h with rfl|rfl|rfl<;>simp[zS]<;>omega) zs
theorem zxr {k:Int} {a:Tree} (h:k=4∨k=7∨k=10∨k=11) (ha:a.wf zS):(xS k a).wf zS:=zco (by
 unfold yZ
 have e1:(Tree.node k 0 [a]).kind=k:=rfl
 have e2:(Tree.node k 0 [a]).num=0:=rfl
 have e3:(Tree.node k 0 [a]).width=1:=rfl
 rw[e1,e2,e3]
 rcases h with rfl|rfl|rfl|rfl<;>simp[zS]) (by simpa using ha)
theorem zpG {k:Int} {a b:Tree} (h:k=5∨k=6∨k=8∨k=9) (ha:a.wf zS) (hb:b.wf zS):(uS k a b).wf zS:=zco (by
 unfold yZ
 have e1:(Tree.node k 0 [a,b]).kind=k:=rfl
 have e2:(Tree.node k 0 [a,b]).num=0:=rfl
 have e3:(Tree.node k 0 [a,b]).width=2:=rfl
 rw[e1,e2,e3]
 rcases h with rfl|rfl|rfl|rfl<;>simp[zS]) (by simpa using ⟨ha,hb⟩)
theorem u4 {t:Tree} (hw:t.wf zS) (h:t.kind=4∨t.kind=7∨t.kind=10∨t.kind=11):0<t.width:=by
 have:=qe ((wY _ _).1 hw).1
 omega
theorem zpi:∀(t:Tree),t.wf zS→(z1 t).wf zS:=by
 intro t
 induction t using Tree.ind with
 | h t ih =>
  intro hw
  have hn:=zlR hw
  rw[Uu t λh=>u4 hw zo]
  by_cases h10:t.kind=10
  ·rw[if_pos h10]
   have h0:=u4 hw zo
   exact zpG zo (zrH zo zo zo) (ih 0 h0 (wV hw h0))
  ·rw[if_neg h10]
   by_cases h11:t.kind=11
   ·rw[if_pos h11]
    have h0:=u4 hw zo
    exact zpG zo (zrH zo zo zo) (ih 0 h0 (wV hw h0))
   ·rw[if_neg h11]
    exact zv2 hw rfl zo zo λj hj=>ih j hj (wV hw hj)
theorem zlm:∀t:Tree,t.wf zS→zu Tryz.prog 162 [yk t] (yk (z1 t)):=by
 intro t
 induction t using Tree.ind with
 | h t ih =>
  intro hwf
  have hs:=Q9 t hwf
  have hsz:=hs.width
  have har:=qe ((wY _ _).1 hwf).1
  refine zb zsR zs (by simp[ze,zA]) ?_ (zA _)
  have hE:=Uu t λh=>u4 hwf zo
  refine sR ?_
  refine UU (λk:Nat=>[(1,.loc 0 0),(2,.loc 1 0),(3,.loc 2 0),(12,.xj 3 (t.kids.map xe)),(13,.sc (.int .i64 (t.kids.map xe).length)),(14,.sc (.int .i64 k))])
   (λk=>[.row true (yS t),.row true [.sc (.int .i64 0),.sc (.int .i64 0),.sc (.slice none 0 0)],.row true [.sc (.int .i64 t.kind),.sc (.int .i64 t.num),.own 3 k 0 k],.vec true k 3 ((t.kids.take k).map λu=>yS (z1 u))])
   (λk=>k≤t.width) (λk=>t.width-k) 0 zo (wA (yP 2 2 3 zs rfl rfl) (zck ⟨rfl,rfl,rfl,rfl,rfl,rfl,trivial⟩)) ?_
  rintro k hk
  refine sR ?_
  refine sS (λh1=>?_) λh1=>?_
  ·have hk':k<t.width:=by simpa [Tree.width] using h1
   refine sL (wa hk') ?_
   refine sC (ih k hk' (wV hwf hk')) ?_
   refine⟨by unfold y5;simp only[List.drop_zero,List.take_succ_cons,List.take_zero,List.length_cons,List.length_nil];omega,?_⟩
   refine sW ?_
   refine .inl ⟨by unfold InR;rw[IntKind.wrap_i64];unfold Tree.width at *;omega,?_⟩
   refine sW ?_
   refine⟨k+1,zo,zd,zj 4 zs rfl ⟨.refl _,by simp[zp],.refl _,by simp[zp],.refl _,by simp[zp],.refl _,by simp only[zp];exact zg _ (xC t),.refl _,by simp[zp],.refl _,by simp[zp],trivial⟩
    ⟨⟨rfl,.refl _,zt _ (yj t)⟩,⟨rfl,.refl _,by simp[zl,zp]⟩,⟨rfl,.refl _,by simp[zl,zp]⟩,⟨rfl,rfl,rfl,zk (zol _ (kid_get? hk')),zg _ (zB _ (λu=>yj _) _)⟩,trivial⟩⟩
  ·have hk':k=t.width:=by have:¬k<t.width:=by simpa [Tree.width] using h1
                          omega
   subst hk'
   refine zE (qf (Yy 3) (env':=[(1,.loc 0 0),(2,.loc 1 0),(3,.loc 2 0)]) (H':=[.row true (yS t),.row true [.sc (.int .i64 0),.sc (.int .i64 0),.sc (.slice none 0 0)],.row true [.sc (.int .i64 t.kind),.sc (.int .i64 t.num),.xj 3 ((t.kids.map z1).map xe)],.vec false t.width 3 ((t.kids.take t.width).map λu=>yS (z1 u))])
    ⟨.refl _,.refl _,.refl _,trivial⟩ ⟨⟨.inl rfl,(λh=>by cases h),.refl _⟩,⟨.inl rfl,(λh=>by cases h),.refl _⟩,⟨.inl rfl,(λh=>by cases h),.cons _ _ _ _ (.refl _) (.cons _ _ _ _ (.refl _) (.cons _ _ _ _ (.own 3 _ _ _ _ _ _ _ rfl rfl (zk (by rw[List.drop_zero,List.take_of_length_le (by simp[Tree.width]),Tree.width,List.take_length,List.map_map];exact List.map_congr_left λu _=>(ZL _).symm))) (.refl _)))⟩,⟨.inr ⟨rfl,rfl⟩,λ_=>rfl,rfl,rfl,.refl _⟩,trivial⟩) ?_
   have k0:0<t.width→((t.kids.map z1).map xe)[0]? = some (yS (z1 (t.xw 0))):=λh=>by
    rw[List.getElem?_map,List.getElem?_map,kid_get? h];simp[ZL]
   refine sR ?_
   refine sS (λh10=>?_) λh10=>?_
   ·have h10:t.kind=10:=by simpa using h10
    rw[if_pos h10] at hE
    refine sC (zfz 1) ?_
    refine sL (k0 (u4 hwf zo)) ?_
    refine sC (zil 8 (xD 1 0) (z1 (t.xw 0))) ?_
    exact Zi hE (.refl _)
   have h10:¬t.kind=10:=by simpa using h10
   rw[if_neg h10] at hE
   refine sS (λh11=>?_) λh11=>?_
   ·have h11:t.kind=11:=by simpa using h11
    rw[if_pos h11] at hE
    refine sC (zfz 2) ?_
    refine sL (k0 (u4 hwf zo)) ?_
    refine sC (zil 9 (xD 2 0) (z1 (t.xw 0))) ?_
    exact Zi hE (.refl _)
   have h11:¬t.kind=11:=by simpa using h11
   rw[if_neg h11] at hE
   exact Zi hE (.refl _)
theorem zow (t:Tree) (hs:Small t):zu Tryz.prog 161 [yk t] (if xc zS t=0 then .yI [yk t,.sc (.int .i64 0)] else .yI [yk (xD 0 0),.sc (.int .i64 (xc zS t))]):=by
 refine zb ztV zs (by simp[ze,zA]) ?_ (by split<;>simp[Pure,ze,zA])
 refine sR ?_
 refine sC (Uz t hs) ?_
 refine sS (λh=>?_) λh=>?_
 ·have h':xc zS t≠0:=by simpa using h
  rw[if_neg h']
  exact sP
 ·have h':xc zS t=0:=by simpa using h
  rw[if_pos h']
  exact sP
noncomputable def Zs (t u:Tree):Tree × Int:=if xc zS t=0 then if xc zS u=0 then (u,0) else (xD 0 0,xc zS u) else (xD 0 0,xc zS t)
theorem zkr (t:Tree) (hs:Small t):zu Tryz.prog 92 [yk t] (.yI [yk (Zs t (z1 t)).1,.sc (.int .i64 (Zs t (z1 t)).2)]):=by
 refine zb zwS zs (by simp[ze,zA]) ?_ (by simp[Pure,ze,zA])
 refine sR ?_
 refine sC (Uz t hs) ?_
 refine sS (λh=>?_) λh=>?_
 ·have h':xc zS t≠0:=by simpa using h
  rw[show Zs t (z1 t)=(xD 0 0,xc zS t) by rw[Zs,if_neg h']]
  exact sP
 ·have h':xc zS t=0:=by simpa using h
  have hwf:=((Wx _ _).1 h').2.2
  refine sC (zlm t hwf) ?_
  have hT:=zow (z1 t) (Q9 _ (zpi t hwf))
  by_cases h2:xc zS (z1 t)=0
  ·rw[if_pos h2] at hT
   rw[show Zs t (z1 t)=(z1 t,0) by rw[Zs,if_pos h',if_pos h2]]
   refine sC hT ?_
   exact sP
  ·rw[if_neg h2] at hT
   rw[show Zs t (z1 t)=(xD 0 0,xc zS (z1 t)) by rw[Zs,if_pos h',if_neg h2]]
   refine sC hT ?_
   exact sP
end
section
open Go.RowKit
mutual
def zX:Tree→List Int
 | .node k n ks=>(if k=3 then [n] else [])++zQ ks
def zQ:List Tree→List Int
 | []=>[]
 | t::r=>zX t++zQ r
end
mutual
def partsOf:Tree→List Tree
 | .node k n ks=>(if k=7∨k=8∨k=9 then [.node k n ks] else [])++zO ks
def zO:List Tree→List Tree
 | []=>[]
 | t::r=>partsOf t++zO r
end
theorem Qu (t:Tree):zX t=(if t.kind=3 then [t.num] else [])++zQ t.kids:=by cases t;rw[zX];rfl
theorem QU (t:Tree):partsOf t=(if t.kind=7∨t.kind=8∨t.kind=9 then [t] else [])++zO t.kids:=by cases t;rw[partsOf];rfl
theorem qz:∀l,zQ l=l.flatMap zX
 | []=>rfl
 | t::r=>by rw[zQ,qz r,List.flatMap_cons]
theorem qJ:∀l,zO l=l.flatMap partsOf
 | []=>rfl
 | t::r=>by rw[zO,qJ r,List.flatMap_cons]
theorem zjn {t:Tree} {k:Nat} (h:k<t.width):t.kids.take (k+1)=t.kids.take k++[t.xw k]:=by
 rw[List.take_add_one,kid_get? h]
 rfl
theorem wu {t:Tree} {k:Nat} (h:k<t.width):zQ (t.kids.take (k+1))=zQ (t.kids.take k)++zX (t.xw k):=by
 rw[zjn h,qz,qz,List.flatMap_append]
 simp
theorem wz {t:Tree} {k:Nat} (h:k<t.width):zO (t.kids.take (k+1))=zO (t.kids.take k)++partsOf (t.xw k):=by
 rw[zjn h,qJ,qJ,List.flatMap_append]
 simp
def vo (A:List Int) (xs:List Int):List Int:=xs.foldl (λA x=>if A.contains x=true then A else A++[x]) A
noncomputable def xR (P:List Tree) (xs:List Tree):List Tree:=xs.foldl (λP f=>if P.any (U3 f)=true then P else P++[f]) P
theorem wM (A x y:List Int):vo A (x++y)=vo (vo A x) y:=List.foldl_append
theorem xQ (P x y:List Tree):xR P (x++y)=xR (xR P x) y:=List.foldl_append
theorem VT (A:List Int) (x:Int):vo A [x]=if A.contains x=true then A else A++[x]:=rfl
theorem Yc (P:List Tree) (x:Tree):xR P [x]=if P.any (U3 x)=true then P else P++[x]:=rfl
theorem uo (xs:List Int):∀A,(vo A xs).length≤A.length+xs.length:=by
 induction xs with
 | nil=>intro A;simp[vo]
 | cons x r ih =>
  intro A
  rw[show x::r=[x]++r from rfl,wM,VT]
  split
  ·have:=ih A;simp only[List.length_append,List.length_singleton];omega
  ·have:=ih (A++[x]);simp only[List.length_append,List.length_singleton] at *;omega
theorem uh (xs:List Tree):∀A,(xR A xs).length≤A.length+xs.length:=by
 induction xs with
 | nil=>intro A;simp[xR]
 | cons x r ih =>
  intro A
  rw[show x::r=[x]++r from rfl,xQ,Yc]
  split
  ·have:=ih A;simp only[List.length_append,List.length_singleton];omega
  ·have:=ih (A++[x]);simp only[List.length_append,List.length_singleton] at *;omega
theorem zl9 {P:List Tree} {x:Tree}:P.any (U3 x)=true↔x∈P:=by
 rw[List.any_eq_true]
 constructor
 ·rintro⟨y,hy,h⟩;rw[zcd] at h;exact h▸hy
 ·exact λh=>⟨x,h,zcd.2 rfl⟩
theorem zqy {x:Int} (xs:List Int):∀A,x∈vo A xs↔x∈A∨x∈xs:=by
 induction xs with
 | nil=>intro A;simp[vo]
 | cons y r ih =>
  intro A
  rw[show y::r=[y]++r from rfl,wM,VT,ih]
  split
  ·rename_i h
   rw[List.contains_iff_mem] at h
   simp only[List.mem_append,List.mem_singleton]
   constructor
   ·rintro(a|a)<;>simp[a]
   ·rintro(a|rfl|a)
    ·exact .inl a
    ·exact .inl h
    ·exact .inr a
  ·simp only[List.mem_append,List.mem_singleton]
   constructor
   ·rintro((a|a)|a)<;>simp[a]
   ·rintro(a|a|a)<;>simp[a]
theorem zcu {x:Tree} (xs:List Tree):∀A,x∈xR A xs↔x∈A∨x∈xs:=by
 induction xs with
 | nil=>intro A;simp[xR]
 | cons y r ih =>
  intro A
  rw[show y::r=[y]++r from rfl,xQ,Yc,ih]
  split
  ·rename_i h
   rw[zl9] at h
   simp only[List.mem_append,List.mem_singleton]
   constructor
   ·rintro(a|a)<;>simp[a]
   ·rintro(a|rfl|a)
    ·exact .inl a
    ·exact .inl h
    ·exact .inr a
  ·simp only[List.mem_append,List.mem_singleton]
   constructor
   ·rintro((a|a)|a)<;>simp[a]
   ·rintro(a|a|a)<;>simp[a]
theorem zlF (xs:List Int):∀A,A.Nodup→(vo A xs).Nodup:=by
 induction xs with
 | nil=>intro A h;exact h
 | cons y r ih =>
  intro A h
  rw[show y::r=[y]++r from rfl,wM,VT]
  split
  ·exact ih A h
  ·rename_i q
   rw[List.contains_iff_mem] at q
   refine ih _ (List.nodup_append.2 ⟨h,zs,λa ha b hb=>?_⟩)
   rw[List.mem_singleton] at hb
   subst hb
   exact λe=>q (e▸ha)
mutual
theorem ziX:∀t:Tree,(zX t).length≤t.size
 | .node k n ks=>by
  rw[zX,Tree.size,List.length_append]
  have:=zfO ks
  split<;>simp<;>omega
theorem zfO:∀l:List Tree,(zQ l).length≤Tree.Wc l
 | []=>by simp[zQ]
 | t::r=>by
  rw[zQ,Tree.Wc,List.length_append]
  have:=ziX t
  have:=zfO r
  omega
end
mutual
theorem zjd:∀t:Tree,(partsOf t).length≤t.size
 | .node k n ks=>by
  rw[partsOf,Tree.size,List.length_append]
  have:=zfk ks
  split<;>simp<;>omega
theorem zfk:∀l:List Tree,(zO l).length≤Tree.Wc l
 | []=>by simp[zO]
 | t::r=>by
  rw[zO,Tree.Wc,List.length_append]
  have:=zjd t
  have:=zfk r
  omega
end
def vv (k:Int):Int:=if k=10∨k=11 then -1 else zS k
theorem zjs {t:Tree}:t.wf vv→t.wf zS:=by
 induction t using Tree.ind with
 | h t ih =>
  intro h
  rw[wY] at h ⊢
  refine⟨?_,λu hu=>?_⟩
  ·have h1:=h.1
   unfold yZ vv at h1
   unfold yZ
   by_cases q:t.kind=10∨t.kind=11
   ·rw[if_pos q] at h1;omega
   ·rw[if_neg q] at h1;exact h1
  ·obtain⟨j,hj,rfl⟩:=List.mem_iff_getElem.1 hu
   rw[←Tree.uJ hj] at *
   exact ih j hj (h.2 _ (by rw[Tree.uJ hj];exact List.getElem_mem hj))
theorem zac {t:Tree} (h:t.wf vv):(t.kind=1∨t.kind=2∨t.kind=3)∧t.width=0∨(t.kind=4∨t.kind=7)∧t.width=1∨(t.kind=5∨t.kind=6∨t.kind=8∨t.kind=9)∧t.width=2:=by
 have h1:=((wY _ _).1 h).1
 have h2:=qe ((wY _ _).1 (zjs h)).1
 have h3:¬(t.kind=10∨t.kind=11):=λq=>by
  unfold yZ vv at h1
  rw[if_pos q] at h1
  omega
 omega
theorem zdA {k n:Int} {ks:List Tree} (h:¬yZ vv (.node k n ks)) (hk:∀u∈ks,u.wf vv):(Tree.node k n ks).wf vv:=(wY _ _).2 ⟨h,hk⟩
theorem zmr:∀(t:Tree),t.wf zS→(z1 t).wf vv:=by
 intro t
 induction t using Tree.ind with
 | h t ih =>
  intro hw
  have hn:=zlR hw
  have har:=qe ((wY _ _).1 hw).1
  have m2:∀{k c:Int} {b:Tree},k=8∨k=9→c=1∨c=2→b.wf vv→(uS k (xD c 0) b).wf vv:=λ{k c b} hk hc hb=>zdA (by
   unfold yZ
   have e1:(Tree.node k 0 [xD c 0,b]).kind=k:=rfl
   have e2:(Tree.node k 0 [xD c 0,b]).num=0:=rfl
   have e3:(Tree.node k 0 [xD c 0,b]).width=2:=rfl
   rw[e1,e2,e3]
   rcases hk with rfl|rfl<;>simp[vv,zS]) (by
   intro u hu
   rw[List.mem_cons,List.mem_singleton] at hu
   rcases hu with rfl|rfl
   ·refine zdA ?_ zs
    unfold yZ
    have e1:(Tree.node c 0 []).kind=c:=rfl
    have e2:(Tree.node c 0 []).num=0:=rfl
    have e3:(Tree.node c 0 []).width=0:=rfl
    rw[e1,e2,e3]
    rcases hc with rfl|rfl<;>simp[vv,zS]
   ·exact hb)
  rw[Uu t λh=>u4 hw zo]
  by_cases h10:t.kind=10
  ·rw[if_pos h10]
   have h0:=u4 hw zo
   exact m2 zo zo (ih 0 h0 (wV hw h0))
  ·rw[if_neg h10]
   by_cases h11:t.kind=11
   ·rw[if_pos h11]
    have h0:=u4 hw zo
    exact m2 zo zo (ih 0 h0 (wV hw h0))
   ·rw[if_neg h11]
    refine zdA ?_ λu hu=>?_
    ·unfold yZ vv
     have e1:(Tree.node t.kind t.num (t.kids.map z1)).kind=t.kind:=rfl
     have e2:(Tree.node t.kind t.num (t.kids.map z1)).num=t.num:=rfl
     have e3:(Tree.node t.kind t.num (t.kids.map z1)).width=t.width:=List.length_map ..
     rw[e1,e2,e3,if_neg zo]
     exact((wY _ _).1 hw).1
    ·obtain⟨v,hv,rfl⟩:=List.mem_map.1 hu
     obtain⟨j,hj,rfl⟩:=List.mem_iff_getElem.1 hv
     rw[←Tree.uJ hj]
     exact ih j hj (wV hw hj)
def qh (k:Int) (c:Bool) (h:List Bool):Bool :=
 if k=1 then true else if k=2 then false else if k=4 then !(h.getD 0 false) else if k=5 then h.getD 0 false&&h.getD 1 false else if k=6 then h.getD 0 false||h.getD 1 false
 else if k=8 then h.getD 1 false||(h.getD 0 false&&c) else if k=9 then h.getD 1 false&&(h.getD 0 false||c) else c
mutual
def yh (c:Tree→Bool):Tree→Bool
 | .node k n ks=>qh k (c (.node k n ks)) (zhV c ks)
def zhV (c:Tree→Bool):List Tree→List Bool
 | []=>[]
 | t::r=>yh c t::zhV c r
end
theorem zcT (c:Tree→Bool):∀l,zhV c l=l.map (yh c)
 | []=>rfl
 | t::r=>by rw[zhV,zcT c r,List.map_cons]
theorem uF (c:Tree→Bool) (t:Tree):yh c t=qh t.kind (c t) (t.kids.map (yh c)):=by cases t;rw[yh,zcT];rfl
theorem vM (c:Tree→Bool) {t:Tree} {j:Nat} (h:j<t.width):(t.kids.map (yh c)).getD j false=yh c (t.xw j):=by
 rw[List.getD_eq_getElem?_getD,List.getElem?_map,kid_get? h]
 rfl
noncomputable def zqq (A:List Int) (P:List Tree) (g:Tree):Nat:=if g.kind=3 then (wc (λa=>g.num==a) A).toNat else A.length+(wc (U3 g) P).toNat
noncomputable def XF (A:List Int) (P:List Tree) (s:Nat) (g:Tree):Bool:=s.testBit (zqq A P g)
def Told (A:List Int) (P:List Tree) (t:Tree):Prop:=(∀x∈zX t,x∈A)∧∀f∈partsOf t,f∈P
theorem zlI {l:List Tree} {t:Tree} {x:Int} (h:t∈l) (hx:x∈zX t):x∈zQ l:=by
 rw[qz];exact List.mem_flatMap.2 ⟨t,h,hx⟩
theorem zkA {l:List Tree} {t x:Tree} (h:t∈l) (hx:x∈partsOf t):x∈zO l:=by
 rw[qJ];exact List.mem_flatMap.2 ⟨t,h,hx⟩
theorem UT {t:Tree} {j:Nat} (h:j<t.width):t.xw j∈t.kids:=by rw[Tree.uJ h];exact List.getElem_mem h
theorem Told.xw {A:List Int} {P:List Tree} {t:Tree} (h:Told A P t) {j:Nat} (hj:j<t.width):Told A P (t.xw j) :=
 ⟨λx hx=>h.1 x (by rw[Qu];exact List.mem_append_right _ (zlI (UT hj) hx)),λx hx=>h.2 x (by rw[QU];exact List.mem_append_right _ (zkA (UT hj) hx))⟩
theorem Told.atom {A:List Int} {P:List Tree} {t:Tree} (h:Told A P t) (h3:t.kind=3):t.num∈A:=h.1 _ (by rw[Qu,if_pos h3];simp)
theorem Told.part {A:List Int} {P:List Tree} {t:Tree} (h:Told A P t) (h3:t.kind=7∨t.kind=8∨t.kind=9):t∈P:=h.2 _ (by rw[QU,if_pos h3];simp)
mutual
theorem zex:∀(t:Tree),∀f∈partsOf t,(∀x∈zX f,x∈zX t)∧(∀g∈partsOf f,g∈partsOf t)
 | .node k n ks=>λf hf=>by
  rw[partsOf,List.mem_append] at hf
  rcases hf with hf|hf
  ·split at hf
   ·rw[List.mem_singleton] at hf;subst hf;exact⟨λx h=>h,λx h=>h⟩
   ·cases hf
  ·obtain⟨h1,h2⟩:=zbE ks f hf
   exact⟨λx hx=>by rw[zX];exact List.mem_append_right _ (h1 x hx),λx hx=>by rw[partsOf];exact List.mem_append_right _ (h2 x hx)⟩
theorem zbE:∀(l:List Tree),∀f∈zO l,(∀x∈zX f,x∈zQ l)∧(∀g∈partsOf f,g∈zO l)
 | []=>λf hf=>by cases hf
 | t::r=>λf hf=>by
  rw[zO,List.mem_append] at hf
  rcases hf with hf|hf
  ·obtain⟨h1,h2⟩:=zex t f hf
   exact⟨λx hx=>by rw[zQ];exact List.mem_append_left _ (h1 x hx),λx hx=>by rw[zO];exact List.mem_append_left _ (h2 x hx)⟩
  ·obtain⟨h1,h2⟩:=zbE r f hf
   exact⟨λx hx=>by rw[zQ];exact List.mem_append_right _ (h1 x hx),λx hx=>by rw[zO];exact List.mem_append_right _ (h2 x hx)⟩
end
mutual
theorem zjw (kd:Int→Int):∀(t:Tree),t.wf kd→∀f∈partsOf t,f.wf kd∧(f.kind=7∨f.kind=8∨f.kind=9)
 | .node k n ks=>λhw f hf=>by
  rw[partsOf,List.mem_append] at hf
  rcases hf with hf|hf
  ·split at hf
   ·rename_i h
    rw[List.mem_singleton] at hf;subst hf;exact⟨hw,h⟩
   ·cases hf
  ·exact zgw kd ks (λu hu=>((wY _ _).1 hw).2 u hu) f hf
theorem zgw (kd:Int→Int):∀(l:List Tree),(∀u∈l,u.wf kd)→∀f∈zO l,f.wf kd∧(f.kind=7∨f.kind=8∨f.kind=9)
 | []=>λ_ f hf=>by cases hf
 | t::r=>λhw f hf=>by
  rw[zO,List.mem_append] at hf
  rcases hf with hf|hf
  ·exact zjw kd t (hw t zs) f hf
  ·exact zgw kd r (λu hu=>hw u (by simp[hu])) f hf
end
mutual
theorem Z7:∀(t:Tree),t.wf zS→∀x∈zX t,0≤x∧x≤63
 | .node k n ks=>λhw x hx=>by
  rw[zX,List.mem_append] at hx
  rcases hx with hx|hx
  ·split at hx
   ·rw[List.mem_singleton] at hx;subst hx;have:=zlR hw;exact⟨this.1,this.2.1⟩
   ·cases hx
  ·exact JX ks (λu hu=>((wY _ _).1 hw).2 u hu) x hx
theorem JX:∀(l:List Tree),(∀u∈l,u.wf zS)→∀x∈zQ l,0≤x∧x≤63
 | []=>λ_ f hf=>by cases hf
 | t::r=>λhw f hf=>by
  rw[zQ,List.mem_append] at hf
  rcases hf with hf|hf
  ·exact Z7 t (hw t zs) f hf
  ·exact JX r (λu hu=>hw u (by simp[hu])) f hf
end
theorem zjk (s k:Nat) (hk:k≤63):(s:Int).fdiv (2^min ((k:Int)).toNat 64)=((s/2^k:Nat):Int):=by
 rw[Int.toNat_natCast,Nat.min_eq_left zo,Int.fdiv_eq_ediv_of_nonneg _ (by exact Int.le_of_lt (Int.pow_pos zc))]
 rw[Int.natCast_ediv]
 simp
theorem zph (n:Nat):vj .and .i64 (n:Int) 1=((n%2:Nat):Int):=by
 have e:(BitVec.ofInt 64 (n:Int) &&& BitVec.ofInt 64 1).toNat=n%2:=by
  rw[BitVec.toNat_and]
  have e1:(BitVec.ofInt 64 (n:Int)).toNat=n%18446744073709551616:=by rw[BitVec.toNat_ofInt];omega
  have e2:(BitVec.ofInt 64 1).toNat=1:=zc
  rw[e1,e2,Nat.and_one_is_mod]
  omega
 show IntKind.i64.wrap ((BitVec.ofInt 64 (n:Int) &&& BitVec.ofInt 64 1).toNat:Int)=_
 rw[e,IntKind.wrap_i64]
 omega
theorem zrU (s k:Nat):s.testBit k=(((s/2^k%2:Nat):Int)==1):=by
 rw[Nat.testBit_eq_decide_div_mod_eq,Bool.eq_iff_iff,decide_eq_true_eq,beq_iff_eq]
 omega
theorem zpf (s k:Nat) (hk:k≤63):(vj .and .i64 ((s:Int).fdiv (2^min ((k:Int)).toNat 64)) 1==1)=s.testBit k:=by
 rw[zjk s k hk,zph,zrU]
theorem zwo (a i:Nat) (h:a<2^i) (hi:i≤40):vj .or .i64 (a:Int) ((2^i:Nat):Int)=((a+2^i:Nat):Int):=by
 have hp:2^i≤2^40:=Nat.pow_le_pow_right zo hi
 have h40:(2:Nat)^40=1099511627776:=zc
 have e:(BitVec.ofInt 64 (a:Int) ||| BitVec.ofInt 64 ((2^i:Nat):Int)).toNat=a+2^i:=by
  rw[BitVec.toNat_or]
  have e1:(BitVec.ofInt 64 (a:Int)).toNat=a:=by rw[BitVec.toNat_ofInt];omega
  have e2:(BitVec.ofInt 64 ((2^i:Nat):Int)).toNat=2^i:=by
   generalize 2^i=z at *
   rw[BitVec.toNat_ofInt];omega
  have:=Nat.two_pow_add_eq_or_of_lt h 1
  rw[Nat.mul_one] at this
  rw[e1,e2,Nat.or_comm,←this,Nat.add_comm]
 show IntKind.i64.wrap ((BitVec.ofInt 64 (a:Int) ||| BitVec.ofInt 64 ((2^i:Nat):Int)).toNat:Int)=_
 rw[e,IntKind.wrap_i64]
 omega
def Xr (h:Nat→Bool):Nat→Nat
 | 0=>0
 | i+1=>if h i=true then Xr h i+2^i else Xr h i
theorem Wk (h:Nat→Bool):∀n,Xr h n<2^n
 | 0=>by rw[Xr];exact Nat.one_pos
 | n+1=>by
  have:=Wk h n
  rw[Xr,Nat.pow_succ]
  split<;>omega
theorem Zy (h:Nat→Bool):∀n i,i<n→(Xr h n).testBit i=h i
 | 0,i,hi=>zo
 | n+1,i,hi=>by
  have hl:=Wk h n
  rw[Xr]
  by_cases e:i=n
  ·subst e
   cases q:h i
   ·rw[if_neg zc]
    exact Nat.testBit_lt_two_pow hl
   ·rw[if_pos rfl,Nat.add_comm]
    rw[Nat.testBit_two_pow_add_eq,Nat.testBit_lt_two_pow hl]
    rfl
  ·have:=Zy h n i zo
   split
   ·rw[Nat.add_comm,Nat.testBit_two_pow_add_gt zo]
    exact this
   ·exact this
def qM (g:Tree):Tree:=if g.kind=7 then g.xw 0 else g
noncomputable def hK (A:List Int) (P:List Tree) (s i:Nat):Bool:=yh (XF A P s) (qM (P.getD i default))
noncomputable def Wn (A:List Int) (P:List Tree) (s:Nat):Nat:=Xr (hK A P s) P.length
theorem ziM (A:List Int) (P:List Tree) (s t:Nat) (hs:s<2^(A.length+P.length)):(Wn A P t==s/2^A.length)=(List.range P.length).all λi=>hK A P t i==s.testBit (A.length+i):=by
 rw[Bool.eq_iff_iff,beq_iff_eq,List.all_eq_true]
 have hd:s/2^A.length<2^P.length:=by
  rw[Nat.div_lt_iff_lt_mul (Nat.two_pow_pos _),Nat.mul_comm,←Nat.pow_add]
  exact hs
 constructor
 ·intro h i hi
  have hi:=List.mem_range.1 hi
  rw[beq_iff_eq,←Zy (hK A P t) P.length i hi]
  have:Xr (hK A P t) P.length=s/2^A.length:=h
  rw[this,Nat.testBit_div_two_pow,Nat.add_comm]
 ·intro h
  apply Nat.eq_of_testBit_eq
  intro i
  by_cases hi:i<P.length
  ·have:=h i (List.mem_range.2 hi)
   rw[beq_iff_eq] at this
   rw[show(Wn A P t).testBit i=hK A P t i from Zy _ _ i hi,this,Nat.testBit_div_two_pow,Nat.add_comm]
  ·have hle:2^P.length≤2^i:=Nat.pow_le_pow_right zo zo
   exact(Nat.testBit_lt_two_pow (Nat.lt_of_lt_of_le (Wk (hK A P t) P.length) hle)).trans (Nat.testBit_lt_two_pow (Nat.lt_of_lt_of_le hd hle)).symm
def xr (A:List Int) (s:Nat) (is:Bool):Nat→Int
 | 0=>0
 | i+1=>if (s.testBit i==is)=true then vj .or .u64 (xr A s is i) (2^(A.getD i 0).toNat) else xr A s is i
def vu (p:Nat→Bool) (k:Nat):List Int:=((List.range k).filter p).map λi:Nat=>(i:Int)
theorem Qo (p:Nat→Bool) (k:Nat):vu p (k+1)=if p k=true then vu p k++[(k:Int)] else vu p k:=by
 unfold vu
 rw[List.range_succ,List.filter_append,List.map_append]
 simp only[List.filter_cons,List.filter_nil]
 split<;>simp
theorem ZG (p:Nat→Bool) (k:Nat):(vu p k).length≤k:=by
 unfold vu
 rw[List.length_map]
 exact Nat.le_trans (List.length_filter_le _ _) zs
noncomputable def Zn (A:List Int) (P:List Tree) (g:Tree) (s:Nat):Bool :=
 if g.kind=8 then !(yh (XF A P s) g)||yh (XF A P s) (g.xw 1) else yh (XF A P s) g||!(yh (XF A P s) (g.xw 1))
noncomputable def zj2 (A:List Int) (P:List Tree) (n:Nat) (g:Tree):List Int:=vu (Zn A P g) (2^n)
noncomputable def vT (A:List Int) (P:List Tree) (n k:Nat):List (List Int):=((P.take k).filter λg=>g.kind != 7).map (zj2 A P n)
theorem zjY (A:List Int) (P:List Tree) (n:Nat) {k:Nat} (h:k<P.length):vT A P n (k+1)=if (P.getD k default).kind=7 then vT A P n k else vT A P n k++[zj2 A P n (P.getD k default)]:=by
 unfold vT
 rw[List.take_add_one,List.getElem?_eq_getElem h,Option.toList_some,List.filter_append,List.map_append,List.getD_eq_getElem?_getD,List.getElem?_eq_getElem h]
 simp only[List.filter_cons,List.filter_nil,Option.getD_some]
 by_cases q:P[k].kind=7
 ·simp[q]
 ·simp[q]
theorem QM (A:List Int) (P:List Tree) (n k:Nat):(vT A P n k).length≤k:=by
 unfold vT
 rw[List.length_map]
 exact Nat.le_trans (List.length_filter_le _ _) (by simp;omega)
noncomputable def U9 (A:List Int) (P:List Tree) (n s:Nat):List Int:=vu (λt=>Wn A P t==s/2^A.length) (2^n)
noncomputable def qP (A:List Int) (P:List Tree) (f:Tree):z7 :=
 ⟨vu (λs=>yh (XF A P s) f) (2^(A.length+P.length)),(List.range (2^(A.length+P.length))).map (U9 A P (A.length+P.length)),
  (List.range (2^(A.length+P.length))).map λs=>xr A s true A.length,(List.range (2^(A.length+P.length))).map λs=>xr A s false A.length,vT A P (A.length+P.length) P.length⟩
def YC (xs:List Int):List Int:=vu (λn=>xs.contains (n:Int)) 64
noncomputable def zuX (f:Tree):D :=
 let A:=YC (zX f)
 let P:=xR [] (partsOf f)
 if 10<A.length+P.length then .yI [Vl ⟨[],[],[],[],[]⟩,.sc (.int .i64 2)] else .yI [Vl (qP A P f),.sc (.int .i64 0)]
theorem zaT {xs:List Int} (h:∀x∈xs,0≤x∧x≤63) {x:Int}:x∈YC xs↔x∈xs:=by
 unfold YC vu
 simp only[List.mem_map,List.mem_filter,List.mem_range,List.contains_iff_mem]
 constructor
 ·rintro⟨n,⟨_,h2⟩,rfl⟩;exact h2
 ·intro hx
  have:=h x hx
  exact⟨x.toNat,⟨zo,by rw[show((x.toNat:Nat):Int)=x by omega];exact hx⟩,zo⟩
theorem QJ {f:Tree} (hw:f.wf zS):Told (YC (zX f)) (xR [] (partsOf f)) f :=
 ⟨λx hx=>(zaT (Z7 f hw)).2 hx,λx hx=>(zcu _ _).2 (.inr hx)⟩
theorem zoE {f:Tree} (hw:f.wf zS) {g:Tree} (hg:g∈xR [] (partsOf f)):Told (YC (zX f)) (xR [] (partsOf f)) g:=by
 have hg:g∈partsOf f:=((zcu _ _).1 hg).resolve_left zs
 obtain⟨h1,h2⟩:=zex f g hg
 have h:=QJ hw
 exact⟨λx hx=>h.1 x (h1 x hx),λx hx=>h.2 x (h2 x hx)⟩
end
section
open Go.RowKit
def zxe:PC:=.seq (OP [Bi 31 .lss 30 29]) (.seq (.cond 31 .skip (.exit 0)) (.seq (.block 1 (.seq (OP [qm 32 30,qm 5 32]) (.seq (.ops [Fa 33 2 2,qd 34 (.zi 33) 1,qm 35 5,qd 36 (.zM 3 34 35) 7,qd 37 (.v7 3 36) 15,Fa 38 2 3,qd 39 (.zi 38) 32,qm 40 5,qd 41 (.zM 3 39 40) 224,qd 42 (.v7 3 41) 480,qd 43 (.call 207 [37,42]) 1023,qd 44 (.un .not 43) 2047] true) (.cond 44 (.seq (OP [Mv 4 cF]) .ret) .skip)))) (OP [Bi 45 .add 30 (cI 1),qm 30 45])))
def c207:PC:=.seq (OP [Bx 2 0,Bx 3 1,Mv 4 cF]) (.seq (.seq (OP [Fa 6 0 2,Lo 7 6,Fa 8 0 3,Lo 9 8,Bi 10 .neq 7 9,qm 11 10,GF 12 11 (.zv 1 2),GF 13 11 (.zi 12),GF 14 11 (.zv 1 3),GF 15 11 (.zi 14),GF 16 11 (.bin .neq 13 15),Pk 17 11 cT 16,qm 18 17,GF 19 18 (.zv 2 2),GF 20 18 (.zi 19),GF 21 18 (.len 20),GF 22 18 (.zv 2 3),GF 23 18 (.zi 22),GF 24 18 (.len 23),GF 25 18 (.bin .neq 21 24),Pk 26 18 cT 25]) (.cond 26 (.seq (OP [Mv 4 cF]) .ret) .skip)) (.seq (.seq (OP [Fa 27 2 2,Lo 28 27,Ln 29 28,Mv 30 (cI 0)]) (.block 0 (.loop zxe))) (.seq (OP [Mv 4 cT]) .ret)))
theorem zt8:zz Tryz.prog 207 46 [.tmp 4] c207:=fK Tryz.func207
theorem zou:∀a b:Tree,Small a→zu Tryz.prog 207 [yk a,yk b] (.sc (.bool (U3 a b))):=by
 intro a
 induction a using Tree.ind with
 | h a ih =>
  intro b hs
  refine zb zt8 zs (by simp[ze,zA]) ?_ (by simp[Pure])
  refine sR ?_
  have no:a.kind≠b.kind∨a.num≠b.num∨a.kids.length≠b.kids.length→false=U3 a b:=λh=>zf8 (by rintro rfl;simp at h)
  refine sS (λh1=>?_) λh1=>?_
  ·exact yu (congrArg (λx=>D.sc (.bool x)) (no (.inl (by simpa using h1))))
  refine sS (λh2=>?_) λh2=>?_
  ·exact yu (congrArg (λx=>D.sc (.bool x)) (no (.inr (.inl (by simpa using h2)))))
  refine sS (λh3=>?_) λh3=>?_
  ·exact yu (congrArg (λx=>D.sc (.bool x)) (no (.inr (.inr (by simp at h3;omega)))))
  simp at h1 h2 h3
  have hsz:=hs.width
  refine zc9 (λk:Nat=>[(2,.loc 0 0),(3,.loc 1 0),(29,.sc (.int .i64 (a.kids.map xe).length)),(30,.sc (.int .i64 k))]) (λ_=>[.row true (yS a),.row true (yS b)])
   (λk=>k≤a.width∧∀j,j<k→a.xw j=b.xw j) (λk=>a.width-k) 0 ⟨zo,λj h=>zo⟩ (zaH ⟨rfl,rfl,rfl,rfl,trivial⟩) ?_
  rintro k ⟨hk,hall⟩
  refine sR ?_
  refine sS (λh4=>?_) λh4=>?_
  ·have hk':k<a.width:=by simpa [Tree.width] using h4
   refine sL (wa hk') ?_
   refine sL (wa (t:=b) (by unfold Tree.width at *;omega)) ?_
   refine sC (ih k hk' (b.xw k) (hs.xw hk')) ?_
   refine sS (λh5=>?_) λh5=>?_
   ·exact yu (congrArg (λx=>D.sc (.bool x)) (zf8 (by rintro rfl;simp[U3] at h5)))
   ·simp[zcd] at h5
    refine .inl ⟨by unfold InR;rw[IntKind.wrap_i64];unfold Tree.width at *;omega,?_⟩
    refine sW ?_
    refine⟨k+1,⟨zo,λj hj=>?_⟩,zd,zaH ⟨rfl,rfl,rfl,rfl,trivial⟩⟩
    by_cases e:j=k
    ·subst e;exact h5
    ·exact hall j zo
  ·have hk':¬k<a.width:=by simpa [Tree.width] using h4
   exact yu (congrArg (λx=>D.sc (.bool x)) (zrm (Tree.zru h1 h2 (by unfold Tree.width;omega) λj hj=>hall j zo)))
end
section
open Go.RowKit
theorem zk6:Small (xD 0 0):=.mk _ (by simp[xD,Tree.width,Tree.kids]) λj hj=>by simp[xD,Tree.width,Tree.kids] at hj
theorem znY {H:List zf}:Deep H (.agg [.sc (.int .i64 0),.sc (.int .i64 0),.sc (.slice none 0 0)]) (yk (xD 0 0)):=by exact sP
end
section
open Go.RowKit
theorem Xm {H:List zf} {n:Nat} {l:List (List D)} (h:l.length≤n):uz H (List.drop 0 (List.take n l)) l:=by rw[zr h];exact zU _
def xz (P:List Tree):List (List D):=P.map yS
@[simp] theorem Wl (P:List Tree):(xz P).length=P.length:=List.length_map ..
theorem x0 (P:List Tree):yv (xz P):=zB _ (λt=>yj t) _
@[simp] theorem zrL {m:Nat} (P:List Tree):zD m (xz P)↔True:=⟨λ_=>trivial,λ_=>zg _ (x0 P)⟩
theorem ziA {P:List Tree} {z k:Nat} (hz:z=k) (h:k<P.length):(xz P)[z]? = some (yS (P.getD k default)):=by
 subst hz
 unfold xz
 rw[List.getElem?_map,List.getElem?_eq_getElem h,List.getD_eq_getElem?_getD,List.getElem?_eq_getElem h]
 rfl
theorem zem (P:List Tree) (z:List D):(List.drop 0 (List.take P.length (xz P))++List.drop 0 (List.take 1 [z]))[0+((P.length-0:Nat):Int).toNat]? = some z:=by
 rw[zr zs,List.getElem?_append_right zs]
 simp
theorem zaN (P:List Tree) (t:Tree) (z:List D):(List.drop 0 (List.take P.length (xz P))++List.drop 0 (List.take 1 [z])).set (0+((P.length-0:Nat):Int).toNat) [.sc (.int .i64 t.kind),.sc (.int .i64 t.num),.xj 3 (t.kids.map xe)]=xz (P++[t]):=by
 rw[zr zs,List.set_append_right _ _ zs]
 simp[xz,yS]
def XE (A:List Int) (P:List Tree):D:=.xk [zw A,.xj 3 (xz P)]
theorem qA (A:List Int) (P:List Tree):Pure (XE A P):=by simp[XE,Pure,ze,zh,x0]
def yn (A:List Int) (P:List Tree):List zf:=[.row true [.own 1 A.length 0 A.length,.own 2 P.length 0 P.length],.vec true A.length 1 (zI A),.vec true P.length 3 (xz P)]
theorem wx {A:List Int} {P:List Tree} {m:Nat} (hm:3≤m):∀o∈yn A P,o.under m:=by
 intro o ho
 simp only[yn,List.mem_cons,List.not_mem_nil,or_false] at ho
 rcases ho with rfl|rfl|rfl<;>simp[zf.under,zl,zp]<;>omega
theorem xK {A:List Int} {P:List Tree} {m:Nat} (hm:3≤m):wq m (yn A P):=by
 have:=wx (A:=A) (P:=P) hm
 unfold yn at *
 exact⟨this _ zs,this _ zs,this _ zs,trivial⟩
def zxq:PC:=.seq (OP [Bi 9 .lss 8 7]) (.seq (.cond 9 .skip (.exit 0)) (.seq (.block 1 (.seq (OP [qm 10 8,qm 5 10]) (.seq (OP [qm 11 1,qm 12 0,qm 13 5,Ia 14 3 12 13,LA 15 3 14,q 16 (.vI 11 [15])]) (.cond 16 (.seq (OP [qm 17 5,qm 4 17]) .ret) .skip)))) (OP [Bi 18 .add 8 (cI 1),qm 8 18])))
def c205:PC:=.seq (OP [Mv 4 (cI 0)]) (.seq (.seq (OP [qm 6 0,Ln 7 6,Mv 8 (cI 0)]) (.block 0 (.loop zxq))) (.seq (OP [Mv 4 (cI (-1))]) .ret))
theorem ztJ:zz Tryz.prog 205 19 [.tmp 4] c205:=fK Tryz.func205
theorem zkz (l:List Tree) (hl:l.length≤9223372036854775807) (p:Tree→Bool) (cl:FuncId) (cap:List D) (hp:ze cap) (hc:∀a∈l,zu Tryz.prog cl (yk a::cap) (.sc (.bool (p a)))) :
  zu Tryz.prog 205 [.xj 3 (xz l),.fn (.func cl) [] cap] (.sc (.int .i64 (wc p l))):=by
 refine zb ztJ zs (by simp[ze,Pure,hp,x0]) ?_ (by simp[Pure])
 refine sR ?_
 rw[Wl]
 have fin:∀{z:Int},z=wc p l→Deep [] (.sc (.int .i64 z)) (.sc (.int .i64 (wc p l))):=λh=>h▸.refl _
 refine zL [0,1,7] (λk:Nat=>[(8,.sc (.int .i64 k))]) (λ_=>[]) (λk=>k≤l.length∧∀j (hj:j<k) (hl:j<l.length),p l[j]=false) (λk=>l.length-k) 0 ?_
 refine sW ?_
 refine⟨⟨zo,λj hj=>zo⟩,by exact sK,rfl,?_⟩
 rintro k ⟨hk,hno⟩
 refine sW ?_
 refine sR ?_
 refine sS (λh=>?_) λh=>?_
 ·have hk':k<l.length:=sO
  refine⟨zo,yS l[k],by unfold xz;rw[List.getElem?_map,Int.toNat_natCast,List.getElem?_eq_getElem hk'];rfl,?_⟩
  refine sW ?_
  refine sC (hc _ (List.getElem_mem hk')) ?_
  refine sS (λh2=>?_) λh2=>?_
  ·exact fin (Xs hk' h2 λj hj=>hno j hj zo).symm
  ·refine sI ?_
   refine⟨k+1,⟨zo,λj hj hl=>?_⟩,zd,zC (by exact sK) rfl⟩
   by_cases e:j=k
   ·subst e;exact h2
   ·exact hno j zo hl
 ·have hk':¬k<l.length:=sO
  exact fin (ZF λj hj=>hno j zo hj).symm
def c206:PC:=.seq (OP [Bx 2 0,Mv 3 cF]) (.seq (OP [LA 4 3 1,LA 5 3 2,Ca 6 207 [4,5],qm 3 6]) .ret)
theorem zsL:zz Tryz.prog 206 7 [.tmp 3] c206:=fK Tryz.func206
def c163:PC:=.seq (OP [Bx 3 1,Mv 4 (cI 0)]) (.seq (OP [qm 5 0,q 6 (.zm 5),Fa 7 1 6,Lo 8 7,q 9 (.ZP (.func 206) [] [3]),Ca 10 205 [8,9],qm 4 10]) .ret)
theorem zuw:zz Tryz.prog 163 11 [.tmp 4] c163:=fK Tryz.func163
def zz0:PC:=.seq (OP [Bi 52 .lss 51 50]) (.seq (.cond 52 .skip (.exit 1)) (.seq (.block 2 (.seq (OP [Ia 53 3 49 51,LA 54 3 53,q 5 (.alloc [(.int .i64 0),(.int .i64 0),(.slice none 0 0)]),So 3 5 54]) (OP [qm 55 0,LA 56 3 5,Ca 57 93 [55,56]]))) (OP [Bi 58 .add 51 (cI 1),qm 51 58])))
def c93:PC:=.seq (OP [Bx 3 1]) (.seq (.seq (OP [Fa 6 0 3,Lo 7 6]) (.block 0 (.seq (OP [Bi 9 .eql 7 (cI 3),qm 8 9]) (.cond 8 (.seq (.ops [qm 10 0,qd 11 (.zm 10) 1,qd 12 (.zv 0 11) 3,qd 13 (.zi 12) 7,Fa 14 1 3,qd 15 (.zi 14) 16,qd 16 (.call 8 [13,15]) 63,qd 17 (.un .not 16) 127] true) (.cond 17 (.ops [qm 18 0,qm 19 0,qd 20 (.zm 19) 2,qd 21 (.zv 0 20) 6,qd 22 (.zi 21) 14,Fa 23 1 3,qd 24 (.zi 23) 32,qd 25 (.wh 1 1 [24]) 96,qd 26 (.append 1 8 22 25) 254,qd 27 (.zm 18) 511,qd 28 (.zv 0 27) 1023,qk (.store 1 28 26) 2047] true) .skip)) (.seq (.seq (OP [Bi 30 .eql 7 (cI 7),qm 29 30]) (.cond 29 .skip (.seq (OP [Bi 31 .eql 7 (cI 8),qm 29 31]) (.cond 29 .skip (OP [Bi 32 .eql 7 (cI 9),qm 29 32]))))) (.cond 29 (.seq (OP [qm 33 0,LA 34 3 3,Ca 35 163 [33,34],Bi 36 .lss 35 (cI 0)]) (.cond 36 (.ops [qm 37 0,qd 38 (.zm 37) 1,qd 39 (.zv 1 38) 3,qd 40 (.zi 39) 7,LA 41 3 3,qd 42 (.len 40) 15,q 43 (.wh 3 1 [(.const (.agg #[.int .i64 0,.int .i64 0,.slice none 0 0]))]),qd 44 (.append 3 40 40 43) 127,qd 45 (.zM 3 44 42) 255,qk (.store 3 45 41) 511,qd 46 (.zm 37) 255,qd 47 (.zv 1 46) 1279,qk (.store 1 47 44) 3327] true) .skip)) .skip)))))) (.seq (OP [Fa 48 2 3,Lo 49 48,Ln 50 49,Mv 51 (cI 0)]) (.block 1 (.loop zz0))))
theorem zyt:zz Tryz.prog 93 59 [] c93:=fK Tryz.func93
theorem zqO (f:Tree) (hf:Small f) (g:Tree):zu Tryz.prog 206 [yk g,.xk (yS f)] (.sc (.bool (U3 f g))):=by
 refine zb zsL zs (by simp[ze,Pure,zA,yj]) ?_ (by simp[Pure])
 refine sR ?_
 refine sC (zou f g hf) ?_
 exact .refl _
theorem zcn (A:List Int) (P:List Tree) (hP:P.length≤1000000) (f:Tree) (hf:Small f):zu Tryz.prog 163 [XE A P,yk f] (.sc (.int .i64 (wc (U3 f) P))):=by
 refine zb zuw zs (by simp[ze,qA,zA]) ?_ (by simp[Pure])
 unfold XE
 refine sR ?_
 refine sN (zkz P zo (U3 f) 206 [.xk (yS f)] (by simp[ze,Pure,yj]) λa _=>zqO f hf a) ?_
 exact .refl _
theorem wL {t:Tree} {k:Nat} (h:k<t.width):(zQ (t.kids.take k)).length+(zX (t.xw k)).length≤(zQ t.kids).length:=by
 rw[←List.length_append,←wu h]
 conv=>rhs;rw[←List.take_append_drop (k+1) t.kids,qz,List.flatMap_append,←qz]
 simp
theorem wT {t:Tree} {k:Nat} (h:k<t.width):(zO (t.kids.take k)).length+(partsOf (t.xw k)).length≤(zO t.kids).length:=by
 rw[←List.length_append,←wz h]
 conv=>rhs;rw[←List.take_append_drop (k+1) t.kids,qJ,List.flatMap_append,←qJ]
 simp
def zzK (t:Tree):Prop:=∀(A:List Int) (P:List Tree),A.length+(zX t).length≤1000→P.length+(partsOf t).length≤1000 →
  yB Tryz.prog 93 [.loc 0 0,yk t] (yn A P) (.yI []) (yn (vo A (zX t)) (xR P (partsOf t)))
theorem znW:∀t:Tree,t.wf zS→zzK t:=by
 intro t
 induction t using Tree.ind with
 | h t ih =>
  intro hwf A P hA hP
  have hs:=Q9 t hwf
  have hsz:=hs.width
  have har:=qe ((wY _ _).1 hwf).1
  refine wo zyt zs (by simp[yn]) ?_ trivial
  have eA:=Qu t
  have eP:=QU t
  have hlA:=uo (zX t) A
  unfold yn
  refine sR ?_
  refine sS (λk3=>?_) λk3=>?_
  ·have k3:t.kind=3:=by simpa using k3
   rw[if_pos k3] at eA
   rw[if_neg zo] at eP
   rw[eA,List.length_append,List.length_singleton] at hA
   refine sN (Jg A zo t.num) ?_
   cases r:A.contains t.num
   ·have hA1:vo A [t.num]=A++[t.num]:=by rw[VT,if_neg (by rw[r];decide)]
    refine sW ?_
    refine sJ ?_
    refine zE (zj 5 (env':=[(0,.loc 0 0),(49,.xj 3 (t.kids.map xe)),(50,.sc (.int .i64 (t.kids.map xe).length)),(51,.sc (.int .i64 0))]) (H':=[.row true [.own 1 (A.length+1) 0 (A.length+1),.own 2 P.length 0 P.length],.vec true (A.length+1) 1 (zI (A++[t.num])),.vec true P.length 3 (xz P),.row true (yS t),.vec true 0 1 [[.sc (.int .i64 t.num)]]]) zs rfl ?_ ?_) ?_
    ·(repeat' (first|exact trivial|exact rfl|exact ya.refl _|exact zP.refl _|exact zJ.refl _|refine And.intro ?_ ?_|(simp[zp,zl,zD,-List.map_take,-List.map_drop];done)))
     all_goals first|exact zg _ (xC t)|skip
    ·(repeat' (first|exact trivial|exact rfl|exact ya.refl _|exact zP.refl _|exact zJ.refl _|refine And.intro ?_ ?_|(simp[zp,zl,zD,-List.map_take,-List.map_drop];done)))
     all_goals first|exact zt _ (yj _)|exact zk (xB _ _)|skip
    rw[show A.length+1=(A++[t.num]).length by simp,←hA1]
    have hP1:P=xR P []:=rfl
    have lA1:(vo A [t.num]).length≤A.length+1:=by rw[hA1];simp
    have lP1:P.length≤P.length:=Nat.le_refl _
    have lA:A.length+1+(zQ t.kids).length≤1000:=zo
    have lP:P.length+(zO t.kids).length≤1000:=by rw[eP,List.nil_append] at hP;exact hP
    rw[eA,eP,wM,List.nil_append]
    generalize vo A [t.num]=A1 at *
    refine zZ [0,49,50] (λk:Nat=>[(51,.sc (.int .i64 k))]) (λk=>yn (vo A1 (zQ (t.kids.take k))) (xR P (zO (t.kids.take k)))++[.row true (yS t),.vec true 0 1 [[.sc (.int .i64 t.num)]]]) (λk=>k≤t.width) (λk=>t.width-k) 0 ?_
    refine sW ?_
    refine⟨zo,by exact sK,rfl,?_⟩
    rintro k hk
    have lak:=uo (zQ (t.kids.take k)) A1
    have lpk:=uh (zO (t.kids.take k)) P
    unfold yn
    refine sW ?_
    refine sR ?_
    refine sS (λq0=>?_) λq0=>?_
    ·have q0:k<t.width:=by simpa [Tree.width] using q0
     refine sL (wa q0) ?_
     have eA2:=wu q0
     have eP2:=wz q0
     have tA:(zQ (t.kids.take k)).length+(zX (t.xw k)).length≤(zQ t.kids).length:=wL q0
     have tP:(zO (t.kids.take k)).length+(partsOf (t.xw k)).length≤(zO t.kids).length:=wT q0
     have hG:=vf (ih k q0 (wV hwf q0) (vo A1 (zQ (t.kids.take k))) (xR P (zO (t.kids.take k))) zo zo) [.row true (yS t),.vec true 0 1 [[.sc (.int .i64 t.num)]],.row true (yS (t.xw k))] (by simp[yn]) (by simp[yn,zl,zp,zq _ (zA _)]) (xK (by simp[yn]))
     rw[←wM,←xQ,←eA2,←eP2] at hG
     unfold yn at hG
     refine sA hG ?_
     refine sI ?_
     refine⟨k+1,zo,zd,?_⟩
     dsimp only
     (refine zj 5 zs rfl ?_ ?_<;>(repeat' (first|exact trivial|exact rfl|exact ya.refl _|exact zP.refl _|exact zJ.refl _|refine And.intro ?_ ?_|(simp[zp,zl,zD,-List.map_take,-List.map_drop];done))))
     all_goals first|exact zt _ (yj _)|exact zg _ (xC t)|skip
    ·have q0:k=t.width:=by have:¬k<t.width:=by simpa [Tree.width] using q0
                           omega
     subst q0
     rw[show t.kids.take t.width=t.kids from List.take_length]
     exact⟨.refl _,yN _ _ (wx (Nat.le_refl _))⟩
   ·have hA1:vo A [t.num]=A:=by rw[VT,if_pos r]
    refine sW ?_
    have lA1:A.length≤A.length:=Nat.le_refl _
    have lP1:P.length≤P.length:=Nat.le_refl _
    have lA:A.length+(zQ t.kids).length≤1000:=zo
    have lP:P.length+(zO t.kids).length≤1000:=by rw[eP,List.nil_append] at hP;exact hP
    rw[eA,eP,wM,List.nil_append,hA1]
    refine zZ [0,49,50] (λk:Nat=>[(51,.sc (.int .i64 k))]) (λk=>yn (vo A (zQ (t.kids.take k))) (xR P (zO (t.kids.take k)))++[.row true (yS t)]) (λk=>k≤t.width) (λk=>t.width-k) 0 ?_
    refine sW ?_
    refine⟨zo,by exact sK,rfl,?_⟩
    rintro k hk
    have lak:=uo (zQ (t.kids.take k)) A
    have lpk:=uh (zO (t.kids.take k)) P
    unfold yn
    refine sW ?_
    refine sR ?_
    refine sS (λq0=>?_) λq0=>?_
    ·have q0:k<t.width:=by simpa [Tree.width] using q0
     refine sL (wa q0) ?_
     have eA2:=wu q0
     have eP2:=wz q0
     have tA:(zQ (t.kids.take k)).length+(zX (t.xw k)).length≤(zQ t.kids).length:=wL q0
     have tP:(zO (t.kids.take k)).length+(partsOf (t.xw k)).length≤(zO t.kids).length:=wT q0
     have hG:=vf (ih k q0 (wV hwf q0) (vo A (zQ (t.kids.take k))) (xR P (zO (t.kids.take k))) zo zo) [.row true (yS t),.row true (yS (t.xw k))] (by simp[yn]) (by simp[yn,zl,zp,zq _ (zA _)]) (xK (by simp[yn]))
     rw[←wM,←xQ,←eA2,←eP2] at hG
     unfold yn at hG
     refine sA hG ?_
     refine sI ?_
     refine⟨k+1,zo,zd,?_⟩
     dsimp only
     (refine zj 4 zs rfl ?_ ?_<;>(repeat' (first|exact trivial|exact rfl|exact ya.refl _|exact zP.refl _|exact zJ.refl _|refine And.intro ?_ ?_|(simp[zp,zl,zD,-List.map_take,-List.map_drop];done))))
     all_goals first|exact zt _ (yj _)|exact zg _ (xC t)|skip
    ·have q0:k=t.width:=by have:¬k<t.width:=by simpa [Tree.width] using q0
                           omega
     subst q0
     rw[show t.kids.take t.width=t.kids from List.take_length]
     exact⟨.refl _,yN _ _ (wx (Nat.le_refl _))⟩
  have k3:¬t.kind=3:=by simpa using k3
  rw[if_neg k3,List.nil_append] at eA
  rw[eA] at hA
  have arm:(t.kind=7∨t.kind=8∨t.kind=9)→t.kind=7∨t.kind=8∨t.kind=9:=id
  have lA1:A.length≤A.length:=Nat.le_refl _
  have lP1:P.length≤P.length:=Nat.le_refl _
  refine sS (λk7=>?_) λk7=>?_
  ·have k7:t.kind=7∨t.kind=8∨t.kind=9:=.inl (by simpa using k7)
   rw[if_pos k7] at eP
   rw[eP,List.length_append,List.length_singleton] at hP
   refine sN (zcn A P zo t hs) ?_
   have hany:=um (U3 t) P
   cases r:P.any (U3 t)
   ·have hlt:(wc (U3 t) P<0):=by rw[r,decide_eq_false_iff_not] at hany;omega
    have hP1:xR P [t]=P++[t]:=by rw[Yc,if_neg (by rw[r];decide)]
    rw[decide_eq_true hlt]
    refine sW ?_
    refine sJ ?_
    refine sB ?_
    refine⟨_,zem P _,?_⟩
    refine sW ?_
    refine zE (zj 5 (env':=[(0,.loc 0 0),(49,.xj 3 (t.kids.map xe)),(50,.sc (.int .i64 (t.kids.map xe).length)),(51,.sc (.int .i64 0))]) (H':=[.row true [.own 1 A.length 0 A.length,.own 2 (P.length+1) 0 (P.length+1)],.vec true A.length 1 (zI A),.vec true (P.length+1) 3 (xz (P++[t])),.row true (yS t),.vec true 0 3 [[.sc (.int .i64 0),.sc (.int .i64 0),.sc (.slice none 0 0)]]]) zs rfl ?_ ?_) ?_
    ·(repeat' (first|exact trivial|exact rfl|exact ya.refl _|exact zP.refl _|exact zJ.refl _|refine And.intro ?_ ?_|(simp[zp,zl,zD,-List.map_take,-List.map_drop];done)))
     all_goals first|exact zg _ (xC t)|skip
    ·(repeat' (first|exact trivial|exact rfl|exact ya.refl _|exact zP.refl _|exact zJ.refl _|refine And.intro ?_ ?_|(simp[zp,zl,zD,-List.map_take,-List.map_drop];done)))
     all_goals first|exact zt _ (yj _)|exact zk (zaN P t _)|skip
    rw[show P.length+1=(P++[t]).length by simp,←hP1]
    have lP1':(xR P [t]).length≤P.length+1:=by rw[hP1];simp
    have lA:A.length+(zQ t.kids).length≤1000:=hA
    have lP:P.length+1+(zO t.kids).length≤1000:=zo
    rw[eA,eP,xQ]
    generalize xR P [t]=P1 at *
    refine zZ [0,49,50] (λk:Nat=>[(51,.sc (.int .i64 k))]) (λk=>yn (vo A (zQ (t.kids.take k))) (xR P1 (zO (t.kids.take k)))++[.row true (yS t),.vec true 0 3 [[.sc (.int .i64 0),.sc (.int .i64 0),.sc (.slice none 0 0)]]]) (λk=>k≤t.width) (λk=>t.width-k) 0 ?_
    refine sW ?_
    refine⟨zo,by exact sK,rfl,?_⟩
    rintro k hk
    have lak:=uo (zQ (t.kids.take k)) A
    have lpk:=uh (zO (t.kids.take k)) P1
    unfold yn
    refine sW ?_
    refine sR ?_
    refine sS (λq0=>?_) λq0=>?_
    ·have q0:k<t.width:=by simpa [Tree.width] using q0
     refine sL (wa q0) ?_
     have eA2:=wu q0
     have eP2:=wz q0
     have tA:(zQ (t.kids.take k)).length+(zX (t.xw k)).length≤(zQ t.kids).length:=wL q0
     have tP:(zO (t.kids.take k)).length+(partsOf (t.xw k)).length≤(zO t.kids).length:=wT q0
     have hG:=vf (ih k q0 (wV hwf q0) (vo A (zQ (t.kids.take k))) (xR P1 (zO (t.kids.take k))) zo zo) [.row true (yS t),.vec true 0 3 [[.sc (.int .i64 0),.sc (.int .i64 0),.sc (.slice none 0 0)]],.row true (yS (t.xw k))] (by simp[yn]) (by simp[yn,zl,zp,zq _ (zA _)]) (xK (by simp[yn]))
     rw[←wM,←xQ,←eA2,←eP2] at hG
     unfold yn at hG
     refine sA hG ?_
     refine sI ?_
     refine⟨k+1,zo,zd,?_⟩
     dsimp only
     (refine zj 5 zs rfl ?_ ?_<;>(repeat' (first|exact trivial|exact rfl|exact ya.refl _|exact zP.refl _|exact zJ.refl _|refine And.intro ?_ ?_|(simp[zp,zl,zD,-List.map_take,-List.map_drop];done))))
     all_goals first|exact zt _ (yj _)|exact zg _ (xC t)|skip
    ·have q0:k=t.width:=by have:¬k<t.width:=by simpa [Tree.width] using q0
                           omega
     subst q0
     rw[show t.kids.take t.width=t.kids from List.take_length]
     exact⟨.refl _,yN _ _ (wx (Nat.le_refl _))⟩
   ·have hlt:¬(wc (U3 t) P<0):=by rw[r,decide_eq_true_eq] at hany;omega
    have hP1:xR P [t]=P:=by rw[Yc,if_pos r]
    rw[decide_eq_false hlt]
    refine sW ?_
    have lA:A.length+(zQ t.kids).length≤1000:=hA
    have lP:P.length+(zO t.kids).length≤1000:=zo
    rw[eA,eP,xQ,hP1]
    refine zZ [0,49,50] (λk:Nat=>[(51,.sc (.int .i64 k))]) (λk=>yn (vo A (zQ (t.kids.take k))) (xR P (zO (t.kids.take k)))++[.row true (yS t)]) (λk=>k≤t.width) (λk=>t.width-k) 0 ?_
    refine sW ?_
    refine⟨zo,by exact sK,rfl,?_⟩
    rintro k hk
    have lak:=uo (zQ (t.kids.take k)) A
    have lpk:=uh (zO (t.kids.take k)) P
    unfold yn
    refine sW ?_
    refine sR ?_
    refine sS (λq0=>?_) λq0=>?_
    ·have q0:k<t.width:=by simpa [Tree.width] using q0
     refine sL (wa q0) ?_
     have eA2:=wu q0
     have eP2:=wz q0
     have tA:(zQ (t.kids.take k)).length+(zX (t.xw k)).length≤(zQ t.kids).length:=wL q0
     have tP:(zO (t.kids.take k)).length+(partsOf (t.xw k)).length≤(zO t.kids).length:=wT q0
     have hG:=vf (ih k q0 (wV hwf q0) (vo A (zQ (t.kids.take k))) (xR P (zO (t.kids.take k))) zo zo) [.row true (yS t),.row true (yS (t.xw k))] (by simp[yn]) (by simp[yn,zl,zp,zq _ (zA _)]) (xK (by simp[yn]))
     rw[←wM,←xQ,←eA2,←eP2] at hG
     unfold yn at hG
     refine sA hG ?_
     refine sI ?_
     refine⟨k+1,zo,zd,?_⟩
     dsimp only
     (refine zj 4 zs rfl ?_ ?_<;>(repeat' (first|exact trivial|exact rfl|exact ya.refl _|exact zP.refl _|exact zJ.refl _|refine And.intro ?_ ?_|(simp[zp,zl,zD,-List.map_take,-List.map_drop];done))))
     all_goals first|exact zt _ (yj _)|exact zg _ (xC t)|skip
    ·have q0:k=t.width:=by have:¬k<t.width:=by simpa [Tree.width] using q0
                           omega
     subst q0
     rw[show t.kids.take t.width=t.kids from List.take_length]
     exact⟨.refl _,yN _ _ (wx (Nat.le_refl _))⟩
  refine sS (λk8=>?_) λk8=>?_
  ·have k7:t.kind=7∨t.kind=8∨t.kind=9:=.inr (.inl (by simpa using k8))
   rw[if_pos k7] at eP
   rw[eP,List.length_append,List.length_singleton] at hP
   refine sN (zcn A P zo t hs) ?_
   have hany:=um (U3 t) P
   cases r:P.any (U3 t)
   ·have hlt:(wc (U3 t) P<0):=by rw[r,decide_eq_false_iff_not] at hany;omega
    have hP1:xR P [t]=P++[t]:=by rw[Yc,if_neg (by rw[r];decide)]
    rw[decide_eq_true hlt]
    refine sW ?_
    refine sJ ?_
    refine sB ?_
    refine⟨_,zem P _,?_⟩
    refine sW ?_
    refine zE (zj 5 (env':=[(0,.loc 0 0),(49,.xj 3 (t.kids.map xe)),(50,.sc (.int .i64 (t.kids.map xe).length)),(51,.sc (.int .i64 0))]) (H':=[.row true [.own 1 A.length 0 A.length,.own 2 (P.length+1) 0 (P.length+1)],.vec true A.length 1 (zI A),.vec true (P.length+1) 3 (xz (P++[t])),.row true (yS t),.vec true 0 3 [[.sc (.int .i64 0),.sc (.int .i64 0),.sc (.slice none 0 0)]]]) zs rfl ?_ ?_) ?_
    ·(repeat' (first|exact trivial|exact rfl|exact ya.refl _|exact zP.refl _|exact zJ.refl _|refine And.intro ?_ ?_|(simp[zp,zl,zD,-List.map_take,-List.map_drop];done)))
     all_goals first|exact zg _ (xC t)|skip
    ·(repeat' (first|exact trivial|exact rfl|exact ya.refl _|exact zP.refl _|exact zJ.refl _|refine And.intro ?_ ?_|(simp[zp,zl,zD,-List.map_take,-List.map_drop];done)))
     all_goals first|exact zt _ (yj _)|exact zk (zaN P t _)|skip
    rw[show P.length+1=(P++[t]).length by simp,←hP1]
    have lP1':(xR P [t]).length≤P.length+1:=by rw[hP1];simp
    have lA:A.length+(zQ t.kids).length≤1000:=hA
    have lP:P.length+1+(zO t.kids).length≤1000:=zo
    rw[eA,eP,xQ]
    generalize xR P [t]=P1 at *
    refine zZ [0,49,50] (λk:Nat=>[(51,.sc (.int .i64 k))]) (λk=>yn (vo A (zQ (t.kids.take k))) (xR P1 (zO (t.kids.take k)))++[.row true (yS t),.vec true 0 3 [[.sc (.int .i64 0),.sc (.int .i64 0),.sc (.slice none 0 0)]]]) (λk=>k≤t.width) (λk=>t.width-k) 0 ?_
    refine sW ?_
    refine⟨zo,by exact sK,rfl,?_⟩
    rintro k hk
    have lak:=uo (zQ (t.kids.take k)) A
    have lpk:=uh (zO (t.kids.take k)) P1
    unfold yn
    refine sW ?_
    refine sR ?_
    refine sS (λq0=>?_) λq0=>?_
    ·have q0:k<t.width:=by simpa [Tree.width] using q0
     refine sL (wa q0) ?_
     have eA2:=wu q0
     have eP2:=wz q0
     have tA:(zQ (t.kids.take k)).length+(zX (t.xw k)).length≤(zQ t.kids).length:=wL q0
     have tP:(zO (t.kids.take k)).length+(partsOf (t.xw k)).length≤(zO t.kids).length:=wT q0
     have hG:=vf (ih k q0 (wV hwf q0) (vo A (zQ (t.kids.take k))) (xR P1 (zO (t.kids.take k))) zo zo) [.row true (yS t),.vec true 0 3 [[.sc (.int .i64 0),.sc (.int .i64 0),.sc (.slice none 0 0)]],.row true (yS (t.xw k))] (by simp[yn]) (by simp[yn,zl,zp,zq _ (zA _)]) (xK (by simp[yn]))
     rw[←wM,←xQ,←eA2,←eP2] at hG
     unfold yn at hG
     refine sA hG ?_
     refine sI ?_
     refine⟨k+1,zo,zd,?_⟩
     dsimp only
     (refine zj 5 zs rfl ?_ ?_<;>(repeat' (first|exact trivial|exact rfl|exact ya.refl _|exact zP.refl _|exact zJ.refl _|refine And.intro ?_ ?_|(simp[zp,zl,zD,-List.map_take,-List.map_drop];done))))
     all_goals first|exact zt _ (yj _)|exact zg _ (xC t)|skip
    ·have q0:k=t.width:=by have:¬k<t.width:=by simpa [Tree.width] using q0
                           omega
     subst q0
     rw[show t.kids.take t.width=t.kids from List.take_length]
     exact⟨.refl _,yN _ _ (wx (Nat.le_refl _))⟩
   ·have hlt:¬(wc (U3 t) P<0):=by rw[r,decide_eq_true_eq] at hany;omega
    have hP1:xR P [t]=P:=by rw[Yc,if_pos r]
    rw[decide_eq_false hlt]
    refine sW ?_
    have lA:A.length+(zQ t.kids).length≤1000:=hA
    have lP:P.length+(zO t.kids).length≤1000:=zo
    rw[eA,eP,xQ,hP1]
    refine zZ [0,49,50] (λk:Nat=>[(51,.sc (.int .i64 k))]) (λk=>yn (vo A (zQ (t.kids.take k))) (xR P (zO (t.kids.take k)))++[.row true (yS t)]) (λk=>k≤t.width) (λk=>t.width-k) 0 ?_
    refine sW ?_
    refine⟨zo,by exact sK,rfl,?_⟩
    rintro k hk
    have lak:=uo (zQ (t.kids.take k)) A
    have lpk:=uh (zO (t.kids.take k)) P
    unfold yn
    refine sW ?_
    refine sR ?_
    refine sS (λq0=>?_) λq0=>?_
    ·have q0:k<t.width:=by simpa [Tree.width] using q0
     refine sL (wa q0) ?_
     have eA2:=wu q0
     have eP2:=wz q0
     have tA:(zQ (t.kids.take k)).length+(zX (t.xw k)).length≤(zQ t.kids).length:=wL q0
     have tP:(zO (t.kids.take k)).length+(partsOf (t.xw k)).length≤(zO t.kids).length:=wT q0
     have hG:=vf (ih k q0 (wV hwf q0) (vo A (zQ (t.kids.take k))) (xR P (zO (t.kids.take k))) zo zo) [.row true (yS t),.row true (yS (t.xw k))] (by simp[yn]) (by simp[yn,zl,zp,zq _ (zA _)]) (xK (by simp[yn]))
     rw[←wM,←xQ,←eA2,←eP2] at hG
     unfold yn at hG
     refine sA hG ?_
     refine sI ?_
     refine⟨k+1,zo,zd,?_⟩
     dsimp only
     (refine zj 4 zs rfl ?_ ?_<;>(repeat' (first|exact trivial|exact rfl|exact ya.refl _|exact zP.refl _|exact zJ.refl _|refine And.intro ?_ ?_|(simp[zp,zl,zD,-List.map_take,-List.map_drop];done))))
     all_goals first|exact zt _ (yj _)|exact zg _ (xC t)|skip
    ·have q0:k=t.width:=by have:¬k<t.width:=by simpa [Tree.width] using q0
                           omega
     subst q0
     rw[show t.kids.take t.width=t.kids from List.take_length]
     exact⟨.refl _,yN _ _ (wx (Nat.le_refl _))⟩
  refine sS (λk9=>?_) λk9=>?_
  ·have k7:t.kind=7∨t.kind=8∨t.kind=9:=.inr (.inr (by simpa using k9))
   rw[if_pos k7] at eP
   rw[eP,List.length_append,List.length_singleton] at hP
   refine sN (zcn A P zo t hs) ?_
   have hany:=um (U3 t) P
   cases r:P.any (U3 t)
   ·have hlt:(wc (U3 t) P<0):=by rw[r,decide_eq_false_iff_not] at hany;omega
    have hP1:xR P [t]=P++[t]:=by rw[Yc,if_neg (by rw[r];decide)]
    rw[decide_eq_true hlt]
    refine sW ?_
    refine sJ ?_
    refine sB ?_
    refine⟨_,zem P _,?_⟩
    refine sW ?_
    refine zE (zj 5 (env':=[(0,.loc 0 0),(49,.xj 3 (t.kids.map xe)),(50,.sc (.int .i64 (t.kids.map xe).length)),(51,.sc (.int .i64 0))]) (H':=[.row true [.own 1 A.length 0 A.length,.own 2 (P.length+1) 0 (P.length+1)],.vec true A.length 1 (zI A),.vec true (P.length+1) 3 (xz (P++[t])),.row true (yS t),.vec true 0 3 [[.sc (.int .i64 0),.sc (.int .i64 0),.sc (.slice none 0 0)]]]) zs rfl ?_ ?_) ?_
    ·(repeat' (first|exact trivial|exact rfl|exact ya.refl _|exact zP.refl _|exact zJ.refl _|refine And.intro ?_ ?_|(simp[zp,zl,zD,-List.map_take,-List.map_drop];done)))
     all_goals first|exact zg _ (xC t)|skip
    ·(repeat' (first|exact trivial|exact rfl|exact ya.refl _|exact zP.refl _|exact zJ.refl _|refine And.intro ?_ ?_|(simp[zp,zl,zD,-List.map_take,-List.map_drop];done)))
     all_goals first|exact zt _ (yj _)|exact zk (zaN P t _)|skip
    rw[show P.length+1=(P++[t]).length by simp,←hP1]
    have lP1':(xR P [t]).length≤P.length+1:=by rw[hP1];simp
    have lA:A.length+(zQ t.kids).length≤1000:=hA
    have lP:P.length+1+(zO t.kids).length≤1000:=zo
    rw[eA,eP,xQ]
    generalize xR P [t]=P1 at *
    refine zZ [0,49,50] (λk:Nat=>[(51,.sc (.int .i64 k))]) (λk=>yn (vo A (zQ (t.kids.take k))) (xR P1 (zO (t.kids.take k)))++[.row true (yS t),.vec true 0 3 [[.sc (.int .i64 0),.sc (.int .i64 0),.sc (.slice none 0 0)]]]) (λk=>k≤t.width) (λk=>t.width-k) 0 ?_
    refine sW ?_
    refine⟨zo,by exact sK,rfl,?_⟩
    rintro k hk
    have lak:=uo (zQ (t.kids.take k)) A
    have lpk:=uh (zO (t.kids.take k)) P1
    unfold yn
    refine sW ?_
    refine sR ?_
    refine sS (λq0=>?_) λq0=>?_
    ·have q0:k<t.width:=by simpa [Tree.width] using q0
     refine sL (wa q0) ?_
     have eA2:=wu q0
     have eP2:=wz q0
     have tA:(zQ (t.kids.take k)).length+(zX (t.xw k)).length≤(zQ t.kids).length:=wL q0
     have tP:(zO (t.kids.take k)).length+(partsOf (t.xw k)).length≤(zO t.kids).length:=wT q0
     have hG:=vf (ih k q0 (wV hwf q0) (vo A (zQ (t.kids.take k))) (xR P1 (zO (t.kids.take k))) zo zo) [.row true (yS t),.vec true 0 3 [[.sc (.int .i64 0),.sc (.int .i64 0),.sc (.slice none 0 0)]],.row true (yS (t.xw k))] (by simp[yn]) (by simp[yn,zl,zp,zq _ (zA _)]) (xK (by simp[yn]))
     rw[←wM,←xQ,←eA2,←eP2] at hG
     unfold yn at hG
     refine sA hG ?_
     refine sI ?_
     refine⟨k+1,zo,zd,?_⟩
     dsimp only
     (refine zj 5 zs rfl ?_ ?_<;>(repeat' (first|exact trivial|exact rfl|exact ya.refl _|exact zP.refl _|exact zJ.refl _|refine And.intro ?_ ?_|(simp[zp,zl,zD,-List.map_take,-List.map_drop];done))))
     all_goals first|exact zt _ (yj _)|exact zg _ (xC t)|skip
    ·have q0:k=t.width:=by have:¬k<t.width:=by simpa [Tree.width] using q0
                           omega
     subst q0
     rw[show t.kids.take t.width=t.kids from List.take_length]
     exact⟨.refl _,yN _ _ (wx (Nat.le_refl _))⟩
   ·have hlt:¬(wc (U3 t) P<0):=by rw[r,decide_eq_true_eq] at hany;omega
    have hP1:xR P [t]=P:=by rw[Yc,if_pos r]
    rw[decide_eq_false hlt]
    refine sW ?_
    have lA:A.length+(zQ t.kids).length≤1000:=hA
    have lP:P.length+(zO t.kids).length≤1000:=zo
    rw[eA,eP,xQ,hP1]
    refine zZ [0,49,50] (λk:Nat=>[(51,.sc (.int .i64 k))]) (λk=>yn (vo A (zQ (t.kids.take k))) (xR P (zO (t.kids.take k)))++[.row true (yS t)]) (λk=>k≤t.width) (λk=>t.width-k) 0 ?_
    refine sW ?_
    refine⟨zo,by exact sK,rfl,?_⟩
    rintro k hk
    have lak:=uo (zQ (t.kids.take k)) A
    have lpk:=uh (zO (t.kids.take k)) P
    unfold yn
    refine sW ?_
    refine sR ?_
    refine sS (λq0=>?_) λq0=>?_
    ·have q0:k<t.width:=by simpa [Tree.width] using q0
     refine sL (wa q0) ?_
     have eA2:=wu q0
     have eP2:=wz q0
     have tA:(zQ (t.kids.take k)).length+(zX (t.xw k)).length≤(zQ t.kids).length:=wL q0
     have tP:(zO (t.kids.take k)).length+(partsOf (t.xw k)).length≤(zO t.kids).length:=wT q0
     have hG:=vf (ih k q0 (wV hwf q0) (vo A (zQ (t.kids.take k))) (xR P (zO (t.kids.take k))) zo zo) [.row true (yS t),.row true (yS (t.xw k))] (by simp[yn]) (by simp[yn,zl,zp,zq _ (zA _)]) (xK (by simp[yn]))
     rw[←wM,←xQ,←eA2,←eP2] at hG
     unfold yn at hG
     refine sA hG ?_
     refine sI ?_
     refine⟨k+1,zo,zd,?_⟩
     dsimp only
     (refine zj 4 zs rfl ?_ ?_<;>(repeat' (first|exact trivial|exact rfl|exact ya.refl _|exact zP.refl _|exact zJ.refl _|refine And.intro ?_ ?_|(simp[zp,zl,zD,-List.map_take,-List.map_drop];done))))
     all_goals first|exact zt _ (yj _)|exact zg _ (xC t)|skip
    ·have q0:k=t.width:=by have:¬k<t.width:=by simpa [Tree.width] using q0
                           omega
     subst q0
     rw[show t.kids.take t.width=t.kids from List.take_length]
     exact⟨.refl _,yN _ _ (wx (Nat.le_refl _))⟩
  have k7:¬(t.kind=7∨t.kind=8∨t.kind=9):=by
   simp only[beq_eq_false_iff_ne] at k7 k8 k9
   omega
  rw[if_neg k7,List.nil_append] at eP
  rw[eP] at hP
  rw[eA,eP]
  have lA:A.length+(zQ t.kids).length≤1000:=hA
  have lP:P.length+(zO t.kids).length≤1000:=hP
  refine zZ [0,49,50] (λk:Nat=>[(51,.sc (.int .i64 k))]) (λk=>yn (vo A (zQ (t.kids.take k))) (xR P (zO (t.kids.take k)))++[.row true (yS t)]) (λk=>k≤t.width) (λk=>t.width-k) 0 ?_
  refine sW ?_
  refine⟨zo,by exact sK,rfl,?_⟩
  rintro k hk
  have lak:=uo (zQ (t.kids.take k)) A
  have lpk:=uh (zO (t.kids.take k)) P
  unfold yn
  refine sW ?_
  refine sR ?_
  refine sS (λq0=>?_) λq0=>?_
  ·have q0:k<t.width:=by simpa [Tree.width] using q0
   refine sL (wa q0) ?_
   have eA2:=wu q0
   have eP2:=wz q0
   have tA:(zQ (t.kids.take k)).length+(zX (t.xw k)).length≤(zQ t.kids).length:=wL q0
   have tP:(zO (t.kids.take k)).length+(partsOf (t.xw k)).length≤(zO t.kids).length:=wT q0
   have hG:=vf (ih k q0 (wV hwf q0) (vo A (zQ (t.kids.take k))) (xR P (zO (t.kids.take k))) zo zo) [.row true (yS t),.row true (yS (t.xw k))] (by simp[yn]) (by simp[yn,zl,zp,zq _ (zA _)]) (xK (by simp[yn]))
   rw[←wM,←xQ,←eA2,←eP2] at hG
   unfold yn at hG
   refine sA hG ?_
   refine sI ?_
   refine⟨k+1,zo,zd,?_⟩
   dsimp only
   (refine zj 4 zs rfl ?_ ?_<;>(repeat' (first|exact trivial|exact rfl|exact ya.refl _|exact zP.refl _|exact zJ.refl _|refine And.intro ?_ ?_|(simp[zp,zl,zD,-List.map_take,-List.map_drop];done))))
   all_goals first|exact zt _ (yj _)|exact zg _ (xC t)|skip
  ·have q0:k=t.width:=by have:¬k<t.width:=by simpa [Tree.width] using q0
                         omega
   subst q0
   rw[show t.kids.take t.width=t.kids from List.take_length]
   exact⟨.refl _,yN _ _ (wx (Nat.le_refl _))⟩
end
section
open Go.RowKit
theorem zmY {A:List Int} {x:Int} (h:x∈A):∃k:Nat,k<A.length∧wc (λa=>x==a) A=(k:Int):=by
 have h1:0≤wc (λa=>x==a) A:=by
  have:=um (λa=>x==a) A
  rw[show A.any (λa=>x==a)=true from List.any_eq_true.2 ⟨x,h,zs⟩] at this
  simpa using this
 obtain⟨k,e,hk,_⟩:=JI h1
 exact⟨k,hk,e⟩
theorem ziJ {P:List Tree} {x:Tree} (h:x∈P):∃k:Nat,k<P.length∧wc (U3 x) P=(k:Int):=by
 have h1:0≤wc (U3 x) P:=by
  have:=um (U3 x) P
  rw[zl9.2 h] at this
  simpa using this
 obtain⟨k,e,hk,_⟩:=JI h1
 exact⟨k,hk,e⟩
structure ziu (A:List Int) (P:List Tree):Prop where
 few:A.length+P.length≤10
 atoms:∀x∈A,0≤x∧x≤63
 told:∀g∈P,Told A P g
 wf:∀g∈P,g.wf vv∧(g.kind=7∨g.kind=8∨g.kind=9)
theorem Wm {n:Nat} (h:n≤10):2^n≤1024:=Nat.le_trans (Nat.pow_le_pow_right zo h) zc
theorem zd6 (n:Nat):(2:Int)^n=((2^n:Nat):Int):=zs
theorem zhQ (k:Nat) (hk:k≤10):(1:Int)*2^min ((k:Int)).toNat 64=((2^k:Nat):Int):=by
 rw[Int.toNat_natCast,Nat.min_eq_left zo,Int.one_mul,zd6]
def c166:PC:=.seq (OP [Bx 4 1,Mv 6 cF]) (.seq (.seq (OP [Fa 7 0 4,Lo 8 7,Bi 9 .eql 8 (cI 3)]) (.cond 9 (.seq (.ops [qm 10 2,qm 11 0,qd 12 (.zm 11) 2,qd 13 (.zv 0 12) 6,qd 14 (.zi 13) 14,Fa 15 1 4,qd 16 (.zi 15) 32,qd 17 (.call 24 [14,16]) 126,qd 18 (.bin .shr 10 17) 255,qd 19 (.bin .and 18 (cI 1)) 511,qd 20 (.bin .eql 19 (cI 1)) 1023,qw 6 20 2047] true) .ret) .skip)) (.seq (.ops [qm 21 2,qm 22 0,qd 23 (.zm 22) 2,qd 24 (.zv 0 23) 6,qd 25 (.zi 24) 14,qd 26 (.len 25) 30,qm 27 0,LA 28 3 4,qd 29 (.call 163 [27,28]) 192,qd 30 (.bin .add 26 29) 510,qd 31 (.bin .shr 21 30) 1023,qd 32 (.bin .and 31 (cI 1)) 2047,qd 33 (.bin .eql 32 (cI 1)) 4095,qw 6 33 8191] true) .ret))
theorem ztr:zz Tryz.prog 166 34 [.tmp 6] c166:=fK Tryz.func166
def c96:PC:=.seq (OP [Bx 4 1,Mv 6 cF]) (.seq (.seq (OP [Fa 7 0 4,Lo 8 7]) (.block 0 (.seq (OP [Bi 10 .eql 8 (cI 1),qm 9 10]) (.cond 9 (.seq (OP [Mv 6 cT]) .ret) (.seq (OP [Bi 12 .eql 8 (cI 2),qm 11 12]) (.cond 11 (.seq (OP [Mv 6 cF]) .ret) (.seq (OP [Bi 14 .eql 8 (cI 4),qm 13 14]) (.cond 13 (.seq (OP [qm 15 0,Fa 16 2 4,Lo 17 16,Ia 18 3 17 (cI 0),LA 19 3 18,qm 20 2,Ca 21 96 [15,19,20],Nt 22 21,qm 6 22]) .ret) (.seq (OP [Bi 24 .eql 8 (cI 5),qm 23 24]) (.cond 23 (.seq (OP [qm 25 0,Fa 26 2 4,Lo 27 26,Ia 28 3 27 (cI 0),LA 29 3 28,qm 30 2,Ca 31 96 [25,29,30],qm 32 31,GT 33 32 (.move 0),GT 34 32 (.zv 2 4),GT 35 32 (.zi 34),GT 36 32 (.zM 3 35 (cI 1)),GT 37 32 (.v7 3 36),GT 38 32 (.move 2),GT 39 32 (.call 96 [33,37,38]),Pk 40 32 39 cF,qm 6 40]) .ret) (.seq (OP [Bi 42 .eql 8 (cI 6),qm 41 42]) (.cond 41 (.seq (OP [qm 43 0,Fa 44 2 4,Lo 45 44,Ia 46 3 45 (cI 0),LA 47 3 46,qm 48 2,Ca 49 96 [43,47,48],qm 50 49,GF 51 50 (.move 0),GF 52 50 (.zv 2 4),GF 53 50 (.zi 52),GF 54 50 (.zM 3 53 (cI 1)),GF 55 50 (.v7 3 54),GF 56 50 (.move 2),GF 57 50 (.call 96 [51,55,56]),Pk 58 50 cT 57,qm 6 58]) .ret) (.seq (OP [Bi 60 .eql 8 (cI 8),qm 59 60]) (.cond 59 (.seq (OP [qm 61 0,Fa 62 2 4,Lo 63 62,Ia 64 3 63 (cI 1),LA 65 3 64,qm 66 2,Ca 67 96 [61,65,66],qm 68 67,GF 69 68 (.move 0),GF 70 68 (.zv 2 4),GF 71 68 (.zi 70),GF 72 68 (.zM 3 71 (cI 0)),GF 73 68 (.v7 3 72),GF 74 68 (.move 2),GF 75 68 (.call 96 [69,73,74]),GF 76 68 (.move 75),GT 77 76 (.move 0),GT 78 76 (.v7 3 4),GT 79 76 (.move 2),GT 80 76 (.call 166 [77,78,79]),GF 81 68 (.pick 76 80 cF),Pk 82 68 cT 81,qm 6 82]) .ret) (.seq (OP [Bi 84 .eql 8 (cI 9),qm 83 84]) (.cond 83 (.seq (OP [qm 85 0,Fa 86 2 4,Lo 87 86,Ia 88 3 87 (cI 1),LA 89 3 88,qm 90 2,Ca 91 96 [85,89,90],qm 92 91,GT 93 92 (.move 0),GT 94 92 (.zv 2 4),GT 95 92 (.zi 94),GT 96 92 (.zM 3 95 (cI 0)),GT 97 92 (.v7 3 96),GT 98 92 (.move 2),GT 99 92 (.call 96 [93,97,98]),GT 100 92 (.move 99),GF 101 100 (.move 0),GF 102 100 (.v7 3 4),GF 103 100 (.move 2),GF 104 100 (.call 166 [101,102,103]),GT 105 92 (.pick 100 cT 104),Pk 106 92 105 cF,qm 6 106]) .ret) .skip)))))))))))))))) (.seq (OP [qm 107 0,LA 108 3 4,qm 109 2,Ca 110 166 [107,108,109],qm 6 110]) .ret))
theorem zwl:zz Tryz.prog 96 111 [.tmp 6] c96:=fK Tryz.func96
def c97:PC:=.seq (OP [Mv 4 (cI 0)]) (.seq (OP [qm 5 1,qm 6 0,q 7 (.zm 6),Fa 8 0 7,Lo 9 8,Ln 10 9,Bi 11 .shr 5 10,qm 4 11]) .ret)
theorem zxA:zz Tryz.prog 97 12 [.tmp 4] c97:=fK Tryz.func97
def zyU:PC:=.seq (OP [Bi 15 .lss 14 13]) (.seq (.cond 15 .skip (.exit 0)) (.seq (.block 1 (.seq (OP [qm 16 14,Ia 17 3 12 14,LA 18 3 17,q 7 (.alloc [(.int .i64 0),(.int .i64 0),(.slice none 0 0)]),qm 6 16,So 3 7 18]) (.seq (OP [LA 19 3 7,q 8 (.alloc [(.int .i64 0),(.int .i64 0),(.slice none 0 0)]),So 3 8 19]) (.seq (.seq (OP [Fa 20 0 7,Lo 21 20,Bi 22 .eql 21 (cI 7)]) (.cond 22 (OP [Fa 23 2 7,Lo 24 23,Ia 25 3 24 (cI 0),LA 26 3 25,So 3 8 26]) .skip)) (.seq (OP [qm 27 0,LA 28 3 8,qm 29 1,Ca 30 96 [27,28,29]]) (.cond 30 (OP [qm 31 5,qm 32 6,Bi 33 .shl (cI 1) 32,Bi 34 .or 31 33,qm 5 34]) .skip)))))) (OP [Bi 35 .add 14 (cI 1),qm 14 35])))
def c95:PC:=.seq (OP [Mv 4 (cI 0)]) (.seq (OP [Mv 5 (cI 0)]) (.seq (.seq (OP [qm 9 0,q 10 (.zm 9),Fa 11 1 10,Lo 12 11,Ln 13 12,Mv 14 (cI 0)]) (.block 0 (.loop zyU))) (.seq (OP [qm 36 5,qm 4 36]) .ret)))
theorem zwf:zz Tryz.prog 95 37 [.tmp 4] c95:=fK Tryz.func95
def zAn:PC:=.seq (OP [Bi 16 .lss 15 14]) (.seq (.cond 16 .skip (.exit 0)) (.seq (.block 1 (.seq (OP [qm 17 15,Ia 18 1 13 15,Lo 19 18,qm 8 17,qm 9 19]) (.seq (OP [qm 20 1,qm 21 8,Bi 22 .shr 20 21,Bi 23 .and 22 (cI 1),Bi 24 .eql 23 (cI 1),qm 25 2,q 26 (.eqb false 24 25)]) (.cond 26 (OP [qm 27 7,qm 28 9,q 29 (.bin .shl (.const (.int .u64 1)) 28),Bi 30 .or 27 29,qm 7 30]) .skip)))) (OP [Bi 31 .add 15 (cI 1),qm 15 31])))
def c98:PC:=.seq (OP [q 6 (.move (.const (.int .u64 0)))]) (.seq (OP [q 7 (.move (.const (.int .u64 0)))]) (.seq (.seq (OP [qm 10 0,q 11 (.zm 10),Fa 12 0 11,Lo 13 12,Ln 14 13,Mv 15 (cI 0)]) (.block 0 (.loop zAn))) (.seq (OP [qm 32 7,qm 6 32]) .ret)))
theorem zxZ:zz Tryz.prog 98 33 [.tmp 6] c98:=fK Tryz.func98
def c99:PC:=.seq (OP [Bx 4 1,Mv 6 cF]) (.seq (.seq (OP [Fa 7 0 4,Lo 8 7,Bi 9 .eql 8 (cI 8)]) (.cond 9 (.seq (OP [qm 10 0,LA 11 3 4,qm 12 2,Ca 13 96 [10,11,12],Nt 14 13,qm 15 14,GF 16 15 (.move 0),GF 17 15 (.zv 2 4),GF 18 15 (.zi 17),GF 19 15 (.zM 3 18 (cI 1)),GF 20 15 (.v7 3 19),GF 21 15 (.move 2),GF 22 15 (.call 96 [16,20,21]),Pk 23 15 cT 22,qm 6 23]) .ret) .skip)) (.seq (OP [qm 24 0,LA 25 3 4,qm 26 2,Ca 27 96 [24,25,26],qm 28 27,GF 29 28 (.move 0),GF 30 28 (.zv 2 4),GF 31 28 (.zi 30),GF 32 28 (.zM 3 31 (cI 1)),GF 33 28 (.v7 3 32),GF 34 28 (.move 2),GF 35 28 (.call 96 [29,33,34]),GF 36 28 (.un .not 35),Pk 37 28 cT 36,qm 6 37]) .ret))
theorem zwv:zz Tryz.prog 99 38 [.tmp 6] c99:=fK Tryz.func99
theorem znQ (A:List Int) (P:List Tree) (hI:ziu A P) (f:Tree) (hs:Small f) (hT:Told A P f) (hk:f.kind=3∨f.kind=7∨f.kind=8∨f.kind=9) (s:Nat) :
  zu Tryz.prog 166 [XE A P,yk f,.sc (.int .i64 s)] (.sc (.bool (XF A P s f))):=by
 have hf:=hI.few
 refine zb ztr zs (by simp[ze,Pure,qA,zA]) ?_ (by simp[Pure])
 unfold XE
 refine sR ?_
 refine sS (λk3=>?_) λk3=>?_
 ·have k3:f.kind=3:=by simpa using k3
  obtain⟨k,h1,h2⟩:=zmY (hT.atom k3)
  have e:XF A P s f=s.testBit k:=by unfold XF zqq;rw[if_pos k3,h2];rfl
  have hi:=zfI A zo f.num
  rw[h2] at hi
  rw[e,←zpf s k zo]
  refine sN hi ?_
  refine⟨zo,?_⟩
  refine sW ?_
  exact .refl _
 ·have k3:¬f.kind=3:=by simpa using k3
  obtain⟨k,h1,h2⟩:=ziJ (hT.part zo)
  have e:XF A P s f=s.testBit (A.length+k):=by unfold XF zqq;rw[if_neg k3,h2];rfl
  have hi:=zcn A P zo f hs
  rw[h2] at hi
  unfold XE at hi
  rw[e,←zpf s (A.length+k) zo]
  refine sN hi ?_
  rw[List.length_map]
  refine sI ?_
  refine⟨zo,?_⟩
  refine sW ?_
  exact .refl _
theorem Q8 (A:List Int) (P:List Tree) (hI:ziu A P) (s:Nat):∀f:Tree,f.wf vv→Told A P f →
  zu Tryz.prog 96 [XE A P,yk f,.sc (.int .i64 s)] (.sc (.bool (yh (XF A P s) f))):=by
 intro f
 induction f using Tree.ind with
 | h f ih =>
  intro hwf hT
  have hs:=Q9 f (zjs hwf)
  have hsz:=hs.width
  have hK:=zac hwf
  have hE:=uF (XF A P s) f
  have hch:=λhk=>znQ A P hI f hs hT hk s
  refine zb zwl zs (by simp[ze,Pure,qA,zA]) ?_ (by simp[Pure])
  have fin:∀{H:List zf} {b:Bool},b=qh f.kind (XF A P s f) (f.kids.map (yh (XF A P s)))→Deep H (.sc (.bool b)) (.sc (.bool (yh (XF A P s) f))):=λh=>by rw[hE,h];exact .refl _
  have ha:∀j,j<f.width→(f.kids.map (yh (XF A P s))).getD j false=yh (XF A P s) (f.xw j):=λj hj=>vM _ hj
  have hI2:∀j,(hj:j<f.width)→zu Tryz.prog 96 [XE A P,yk (f.xw j),.sc (.int .i64 s)] (.sc (.bool (yh (XF A P s) (f.xw j)))):=λj hj=>ih j hj (wV hwf hj) (hT.xw hj)
  unfold XE at *
  refine sR ?_
  refine sS (λh1=>?_) λh1=>?_
  ·have h1:f.kind=1:=by simpa using h1
   refine fin ?_;rw[h1];rfl
  refine sS (λh2=>?_) λh2=>?_
  ·have h2:f.kind=2:=by simpa using h2
   refine fin ?_;rw[h2];rfl
  refine sS (λh4=>?_) λh4=>?_
  ·have h4:f.kind=4:=by simpa using h4
   have w0:0<f.width:=zo
   have e0:=ha 0 w0
   refine⟨zo,_,wa w0,?_⟩;refine sW ?_
   refine sC (hI2 0 w0) ?_
   refine fin ?_;rw[h4,←e0];rfl
  refine sS (λh5=>?_) λh5=>?_
  ·have h5:f.kind=5:=by simpa using h5
   have w0:0<f.width:=zo
   have w1:1<f.width:=zo
   have e0:=ha 0 w0
   have e1:=ha 1 w1
   refine⟨zo,_,wa w0,?_⟩;refine sW ?_
   refine sC (hI2 0 w0) ?_
   rw[h5] at fin
   unfold qh at fin
   rw[←e0]
   refine sS (λq0=>?_) λq0=>?_
   ·refine⟨zo,_,wa w1,?_⟩;refine sW ?_
    refine sC (hI2 1 w1) ?_
    refine fin ?_;(try simp only[←e1,q0]);simp
   ·refine fin ?_;(try simp only[q0]);simp
  refine sS (λh6=>?_) λh6=>?_
  ·have h6:f.kind=6:=by simpa using h6
   have w0:0<f.width:=zo
   have w1:1<f.width:=zo
   have e0:=ha 0 w0
   have e1:=ha 1 w1
   refine⟨zo,_,wa w0,?_⟩;refine sW ?_
   refine sC (hI2 0 w0) ?_
   rw[h6] at fin
   unfold qh at fin
   rw[←e0]
   refine sS (λq0=>?_) λq0=>?_
   ·refine fin ?_;(try simp only[q0]);simp
   ·refine⟨zo,_,wa w1,?_⟩;refine sW ?_
    refine sC (hI2 1 w1) ?_
    refine fin ?_;(try simp only[←e1,q0]);simp
  refine sS (λh8=>?_) λh8=>?_
  ·have h8:f.kind=8:=by simpa using h8
   have w0:0<f.width:=zo
   have w1:1<f.width:=zo
   have e0:=ha 0 w0
   have e1:=ha 1 w1
   refine⟨zo,_,wa w1,?_⟩;refine sW ?_
   refine sC (hI2 1 w1) ?_
   rw[h8] at fin
   unfold qh at fin
   rw[←e1]
   refine sS (λq1=>?_) λq1=>?_
   ·refine fin ?_;(try simp only[q1]);simp
   ·refine⟨zo,_,wa w0,?_⟩;refine sW ?_
    refine sC (hI2 0 w0) ?_
    rw[←e0]
    refine sS (λq0=>?_) λq0=>?_
    ·refine sC (hch zo) ?_
     refine fin ?_;(try simp only[q0,q1]);simp
    ·refine fin ?_;(try simp only[q0,q1]);simp
  refine sS (λh9=>?_) λh9=>?_
  ·have h9:f.kind=9:=by simpa using h9
   have w0:0<f.width:=zo
   have w1:1<f.width:=zo
   have e0:=ha 0 w0
   have e1:=ha 1 w1
   refine⟨zo,_,wa w1,?_⟩;refine sW ?_
   refine sC (hI2 1 w1) ?_
   rw[h9] at fin
   unfold qh at fin
   rw[←e1]
   refine sS (λq1=>?_) λq1=>?_
   ·refine⟨zo,_,wa w0,?_⟩;refine sW ?_
    refine sC (hI2 0 w0) ?_
    rw[←e0]
    refine sS (λq0=>?_) λq0=>?_
    ·refine fin ?_;(try simp only[q0,q1]);simp
    ·refine sC (hch zo) ?_
     refine fin ?_;(try simp only[q0,q1]);simp
   ·refine fin ?_;(try simp only[q1]);simp
  have h3:f.kind=3∨f.kind=7:=by
   simp only[beq_eq_false_iff_ne] at h1 h2 h4 h5 h6 h8 h9
   omega
  refine sC (hch zo) ?_
  refine fin ?_;rcases h3 with h3|h3<;>rw[h3]<;>rfl
theorem zsk (A:List Int) (P:List Tree) (hA:A.length≤60) (s:Nat):zu Tryz.prog 97 [XE A P,.sc (.int .i64 s)] (.sc (.int .i64 ((s/2^A.length:Nat):Int))):=by
 refine zb zxA zs (by simp[ze,Pure,qA]) ?_ (by simp[Pure])
 unfold XE
 refine sR ?_
 rw[List.length_map]
 refine⟨zo,?_⟩
 refine sW ?_
 exact yu (congrArg (λx=>D.sc (.int .i64 x)) (zjk s A.length zo))
theorem zgJ {A:List Int} {P:List Tree} (hI:ziu A P) {g:Tree} (hg:g∈P):(qM g).wf vv∧Told A P (qM g):=by
 obtain⟨h1,h2⟩:=hI.wf g hg
 have hT:=hI.told g hg
 unfold qM
 split
 ·have w0:0<g.width:=u4 (zjs h1) zo
  exact⟨wV h1 w0,hT.xw w0⟩
 ·exact⟨h1,hT⟩
theorem zgg {P:List Tree} {k:Nat} (h:k<P.length):P.getD k default∈P:=by
 rw[List.getD_eq_getElem?_getD,List.getElem?_eq_getElem h];simp
theorem zuZ (A:List Int) (P:List Tree) (hI:ziu A P) (s:Nat):zu Tryz.prog 95 [XE A P,.sc (.int .i64 s)] (.sc (.int .i64 (Wn A P s))):=by
 have hf:=hI.few
 refine zb zwf zs (by simp[ze,Pure,qA]) ?_ (by simp[Pure])
 have hH:=λg (hg:g∈P)=>Q8 A P hI s (qM g) (zgJ hI hg).1 (zgJ hI hg).2
 unfold XE at *
 refine sR ?_
 rw[Wl]
 refine zL [0,1,12,13] (λk:Nat=>[(5,.sc (.int .i64 (Xr (hK A P s) k))),(14,.sc (.int .i64 k))]) (λ_=>[]) (λk=>k≤P.length) (λk=>P.length-k) 0 ?_
 refine sW ?_
 refine⟨zo,by exact sK,rfl,?_⟩
 rintro k hk
 refine sW ?_
 refine sR ?_
 refine sS (λq0=>?_) λq0=>?_
 ·have q0:k<P.length:=sO
  refine sL (ziA (k:=k) zo q0) ?_
  have hg:=zgg q0
  obtain⟨hw,hk7⟩:=hI.wf _ hg
  have hB:=hH _ hg
  have hb:hK A P s k=yh (XF A P s) (qM (P.getD k default)):=rfl
  have hS:Xr (hK A P s) (k+1)=if hK A P s k=true then Xr (hK A P s) k+2^k else Xr (hK A P s) k:=rfl
  have hlt:=Wk (hK A P s) k
  have hp10:=Wm (n:=k) zo
  have e1:(1:Int)*2^min ((k:Int)).toNat IntKind.i64.bits=((2^k:Nat):Int):=zhQ k zo
  have e2:=zwo (Xr (hK A P s) k) k hlt zo
  rw[←hb] at hB
  generalize hK A P s k=b at *
  generalize P.getD k default=g at *
  refine sS (λg7=>?_) λg7=>?_
  ·have g7:g.kind=7:=by simpa using g7
   have w0:0<g.width:=u4 (zjs hw) zo
   rw[show qM g=g.xw 0 from if_pos g7] at hB
   refine sL (wa w0) ?_
   refine sC hB ?_
   cases b
   ·rw[if_neg zc] at hS
    refine sW ?_
    refine sI ?_
    refine⟨k+1,zo,zd,?_⟩
    dsimp only
    rw[hS]
    (refine zj 0 zs rfl ?_ ?_<;>(repeat' (first|exact trivial|exact rfl|exact ya.refl _|exact zP.refl _|exact zJ.refl _|refine And.intro ?_ ?_|(simp[zp,zl,zD,-List.map_take,-List.map_drop];done))))
    all_goals first|exact zg _ (x0 _)|exact zq _ (zh _)|skip
   ·rw[if_pos rfl] at hS
    refine sW ?_
    refine⟨zo,?_⟩
    rw[e1]
    generalize 2^k=z at *
    refine sI ?_
    rw[e2]
    refine sI ?_
    refine⟨k+1,zo,zd,?_⟩
    dsimp only
    rw[hS]
    (refine zj 0 zs rfl ?_ ?_<;>(repeat' (first|exact trivial|exact rfl|exact ya.refl _|exact zP.refl _|exact zJ.refl _|refine And.intro ?_ ?_|(simp[zp,zl,zD,-List.map_take,-List.map_drop];done))))
    all_goals first|exact zg _ (x0 _)|exact zq _ (zh _)|skip
  ·have g7:¬g.kind=7:=by simpa using g7
   rw[show qM g=g from if_neg g7] at hB
   refine sC hB ?_
   cases b
   ·rw[if_neg zc] at hS
    refine sW ?_
    refine sI ?_
    refine⟨k+1,zo,zd,?_⟩
    dsimp only
    rw[hS]
    (refine zj 0 zs rfl ?_ ?_<;>(repeat' (first|exact trivial|exact rfl|exact ya.refl _|exact zP.refl _|exact zJ.refl _|refine And.intro ?_ ?_|(simp[zp,zl,zD,-List.map_take,-List.map_drop];done))))
    all_goals first|exact zg _ (x0 _)|exact zq _ (zh _)|skip
   ·rw[if_pos rfl] at hS
    refine sW ?_
    refine⟨zo,?_⟩
    rw[e1]
    generalize 2^k=z at *
    refine sI ?_
    rw[e2]
    refine sI ?_
    refine⟨k+1,zo,zd,?_⟩
    dsimp only
    rw[hS]
    (refine zj 0 zs rfl ?_ ?_<;>(repeat' (first|exact trivial|exact rfl|exact ya.refl _|exact zP.refl _|exact zJ.refl _|refine And.intro ?_ ?_|(simp[zp,zl,zD,-List.map_take,-List.map_drop];done))))
    all_goals first|exact zg _ (x0 _)|exact zq _ (zh _)|skip
 ·have q0:k=P.length:=by have:¬k<P.length:=sO
                         omega
  subst q0
  exact .refl _
theorem zmG (A:List Int) (P:List Tree) (hA:A.length≤60) (hr:∀x∈A,0≤x∧x≤63) (s:Nat) (is:Bool):zu Tryz.prog 98 [XE A P,.sc (.int .i64 s),.sc (.bool is)] (.sc (.int .u64 (xr A s is A.length))):=by
 refine zb zxZ zs (by simp[ze,Pure,qA]) ?_ (by simp[Pure])
 unfold XE
 refine sR ?_
 rw[List.length_map]
 refine zL [1,2,13,14] (λk:Nat=>[(7,.sc (.int .u64 (xr A s is k))),(15,.sc (.int .i64 k))]) (λ_=>[]) (λk=>k≤A.length) (λk=>A.length-k) 0 ?_
 refine sW ?_
 refine⟨zo,by exact sK,rfl,?_⟩
 rintro k hk
 refine sW ?_
 refine sR ?_
 refine sS (λq0=>?_) λq0=>?_
 ·have q0:k<A.length:=sO
  refine sL (yb (l:=A) (k:=k) zo q0) ?_
  have hx:=hr _ (yr q0)
  have hS:xr A s is (k+1)=if (s.testBit k==is)=true then vj .or .u64 (xr A s is k) (2^(A.getD k 0).toNat) else xr A s is k:=rfl
  generalize A.getD k 0=x at *
  refine⟨zo,?_⟩
  refine sW ?_
  have eb:(vj .and .i64 ((s:Int).fdiv (2^min ((k:Int)).toNat IntKind.i64.bits)) 1==1)=s.testBit k:=zpf s k zo
  have e1:(1:Int)*2^min x.toNat IntKind.u64.bits=2^x.toNat:=by
   rw[show IntKind.u64.bits=64 from rfl,Nat.min_eq_left zo,Int.one_mul]
  have hb2:(0:Int)≤2^x.toNat∧(2:Int)^x.toNat<18446744073709551616:=by
   have h1:2^x.toNat≤2^63:=Nat.pow_le_pow_right zo zo
   have h2:(2:Nat)^63=9223372036854775808:=zc
   rw[zd6]
   generalize 2^x.toNat=z at *
   omega
  rw[eb]
  cases r:(s.testBit k==is)
  ·rw[r,if_neg zc] at hS
   refine sW ?_
   refine sI ?_
   refine⟨k+1,zo,zd,?_⟩
   dsimp only
   rw[hS]
   exact zC (by exact sK) rfl
  ·rw[r,if_pos rfl] at hS
   refine sW ?_
   refine⟨zo,?_⟩
   rw[e1]
   refine .inl ⟨by unfold InR;rw[IntKind.wrap_u64];omega,?_⟩
   refine sW ?_
   refine sI ?_
   refine⟨k+1,zo,zd,?_⟩
   dsimp only
   rw[hS]
   exact zC (by exact sK) rfl
 ·have q0:k=A.length:=by have:¬k<A.length:=sO
                         omega
  subst q0
  exact .refl _
theorem zsS (A:List Int) (P:List Tree) (hI:ziu A P) (s:Nat) (g:Tree) (hw:g.wf vv) (hT:Told A P g) (hk:g.kind=8∨g.kind=9):zu Tryz.prog 99 [XE A P,yk g,.sc (.int .i64 s)] (.sc (.bool (Zn A P g s))):=by
 have hf:=hI.few
 have w1:1<g.width:=by have:=zac hw;omega
 have h0:=Q8 A P hI s g hw hT
 have h1:=Q8 A P hI s (g.xw 1) (wV hw w1) (hT.xw w1)
 have hE:Zn A P g s=if g.kind=8 then !(yh (XF A P s) g)||yh (XF A P s) (g.xw 1) else yh (XF A P s) g||!(yh (XF A P s) (g.xw 1)):=rfl
 refine zb zwv zs (by simp[ze,Pure,qA,zA]) ?_ (by simp[Pure])
 generalize yh (XF A P s) g=b0 at *
 generalize yh (XF A P s) (g.xw 1)=b1 at *
 rw[hE]
 unfold XE at *
 refine sR ?_
 refine sS (λg8=>?_) λg8=>?_
 ·have g8:g.kind=8:=by simpa using g8
  rw[if_pos g8]
  refine sC h0 ?_
  cases b0
  ·refine sW ?_
   exact .refl _
  ·refine sW ?_
   refine sL (wa w1) ?_
   refine sC h1 ?_
   exact .refl _
 ·have g8:¬g.kind=8:=by simpa using g8
  rw[if_neg g8]
  refine sC h0 ?_
  cases b0
  ·refine sW ?_
   refine sL (wa w1) ?_
   refine sC h1 ?_
   exact .refl _
  ·refine sW ?_
   exact .refl _
end
section
open Go.RowKit Go.Shelf Go.Sort
def zjy:Go.Shelf.Ren:=⟨λ| 189=>94|125=>165|257=>164|128=>217|129=>218|294=>208|295=>209|296=>210|297=>211|298=>212|299=>213|216=>214|300=>215|301=>216|328=>236|329=>237|330=>238|331=>239|332=>240|215=>241|343=>248|n=>n,λ| 28=>27|3=>3|46=>244|0=>0|51=>278|53=>121|4=>4|183=>271|182=>270|131=>212|5=>5|9=>9|218=>289|222=>180|228=>299|229=>300|n=>n,λ| n=>n⟩
theorem zmn:Go.Proofs.Lays.n189 Tryz.prog zjy:={
 mixed:=by kernel_rfl,
 f125:=Tryz.func165.trans (congrArg some (by kernel_rfl)),
 f128:=Tryz.func217.trans (congrArg some (by kernel_rfl)),
 f129:=Tryz.func218.trans (congrArg some (by kernel_rfl)),
 f189:=Tryz.func94.trans (congrArg some (by kernel_rfl)),
 f215:=Tryz.func241.trans (congrArg some (by kernel_rfl)),
 f216:=Tryz.func214.trans (congrArg some (by kernel_rfl)),
 f257:=Tryz.func164.trans (congrArg some (by kernel_rfl)),
 f294:=Tryz.func208.trans (congrArg some (by kernel_rfl)),
 f295:=Tryz.func209.trans (congrArg some (by kernel_rfl)),
 f296:=Tryz.func210.trans (congrArg some (by kernel_rfl)),
 f297:=Tryz.func211.trans (congrArg some (by kernel_rfl)),
 f298:=Tryz.func212.trans (congrArg some (by kernel_rfl)),
 f299:=Tryz.func213.trans (congrArg some (by kernel_rfl)),
 f300:=Tryz.func215.trans (congrArg some (by kernel_rfl)),
 f301:=Tryz.func216.trans (congrArg some (by kernel_rfl)),
 f328:=Tryz.func236.trans (congrArg some (by kernel_rfl)),
 f329:=Tryz.func237.trans (congrArg some (by kernel_rfl)),
 f330:=Tryz.func238.trans (congrArg some (by kernel_rfl)),
 f331:=Tryz.func239.trans (congrArg some (by kernel_rfl)),
 f332:=Tryz.func240.trans (congrArg some (by kernel_rfl)),
 f343:=Tryz.func248.trans (congrArg some (by kernel_rfl)),
 t0:=Tryz.underlying0,
 a0:=Tryz.isAgg0,
 z0:=Tryz.sizeOf0,
 v0:=Tryz.zeroValue0,
 t3:=Tryz.underlying3,
 a3:=Tryz.isAgg3,
 z3:=Tryz.sizeOf3,
 v3:=Tryz.zeroValue3,
 t4:=Tryz.underlying4,
 a4:=Tryz.isAgg4,
 z4:=Tryz.sizeOf4,
 v4:=Tryz.zeroValue4,
 t5:=Tryz.underlying5,
 a5:=Tryz.isAgg5,
 z5:=Tryz.sizeOf5,
 v5:=Tryz.zeroValue5,
 t9:=Tryz.underlying9,
 a9:=Tryz.isAgg9,
 z9:=Tryz.sizeOf9,
 v9:=Tryz.zeroValue9,
 t28:=Tryz.underlying27,
 a28:=Tryz.isAgg27,
 z28:=Tryz.sizeOf27,
 v28:=Tryz.zeroValue27,
 t46:=Tryz.underlying244,
 a46:=Tryz.isAgg244,
 z46:=Tryz.sizeOf244,
 v46:=Tryz.zeroValue244,
 t51:=Tryz.underlying278,
 a51:=Tryz.isAgg278,
 z51:=Tryz.sizeOf278,
 v51:=Tryz.zeroValue278,
 t53:=Tryz.underlying121,
 a53:=Tryz.isAgg121,
 z53:=Tryz.sizeOf121,
 v53:=Tryz.zeroValue121,
 t131:=Tryz.underlying212,
 a131:=Tryz.isAgg212,
 z131:=Tryz.sizeOf212,
 v131:=Tryz.zeroValue212,
 t182:=Tryz.underlying270,
 a182:=Tryz.isAgg270,
 z182:=Tryz.sizeOf270,
 v182:=Tryz.zeroValue270,
 t183:=Tryz.underlying271,
 a183:=Tryz.isAgg271,
 z183:=Tryz.sizeOf271,
 v183:=Tryz.zeroValue271,
 t218:=Tryz.underlying289,
 a218:=Tryz.isAgg289,
 z218:=Tryz.sizeOf289,
 v218:=Tryz.zeroValue289,
 t222:=Tryz.underlying180,
 a222:=Tryz.isAgg180,
 z222:=Tryz.sizeOf180,
 v222:=Tryz.zeroValue180,
 t228:=Tryz.underlying299,
 a228:=Tryz.isAgg299,
 z228:=Tryz.sizeOf299,
 v228:=Tryz.zeroValue299,
 t229:=Tryz.underlying300,
 a229:=Tryz.isAgg300,
 z229:=Tryz.sizeOf300,
 v229:=Tryz.zeroValue300 }
def XS (l:List Int):List Int:=l.mergeSort λx y=>decide (x≤y)
@[simp] theorem zm8 (l:List Int):(XS l).length=l.length:=by unfold XS;exact List.length_mergeSort _
theorem zpQ {w:World} {b o:Nat} {vals:Array Value} {te:TypeId} {fr:Nat × Nat} {n:Nat} {os:Array Obj} (d:Array Int) (hb:w.heap[b]? = some (.cells vals te fr)) :
  (grow (putRow (Value.int .i64) (Sort.ahead w n) b o d) os).heap[b]? = some (.cells (putCells (Value.int .i64) o d vals) te fr):=by
 have hg:b<w.heap.size:=(Array.getElem?_eq_some_iff.1 hb).1
 rw[heap_grow_old _ _ (by simpa using hg)]
 simp[putRow,mapBlock,Sort.ahead,Array.getElem?_modify,hb,onCells]
theorem zkQ {w:World} {b o:Nat} {n:Nat} {os:Array Obj} (d:Array Int) {k:Nat} (hk:k<w.heap.size) (hne:k≠b):(grow (putRow (Value.int .i64) (Sort.ahead w n) b o d) os).heap[k]? = w.heap[k]?:=by
 rw[heap_grow_old _ _ (by simpa using hk)]
 have:b≠k:=λe=>hne e.symm
 simp[putRow,mapBlock,Sort.ahead,Array.getElem?_modify,this]
theorem zqs (zW:Nat) (l:List Int) (h0:0<l.length) (hl:l.length<4611686018427387904) :
  yB Tryz.prog 94 [.own 0 zW 0 l.length] [.vec true zW 1 (zI l)] (.yI []) [.vec true zW 1 (zI (XS l))] where
 ok:=⟨_,Tryz.func94,by kernel_rfl,by kernel_rfl⟩
 len:=zs
 run J F w vs hst hdom hR:=by
  simp only[zY,rep] at hR
  obtain⟨v,us,rfl,⟨s,A,n,c,hJ,rfl,_,hq⟩,rfl⟩:=hR
  obtain⟨ob,ho,hO⟩:=hst.obj 0 s hJ
  have ho:zf.vec true zW 1 (zI l)=ob:=Option.some.inj ho
  subst ho
  simp only[Yl] at hO
  obtain⟨hrow,hver,hesz,hlen,hcap,hmem⟩:=hO
  obtain⟨_,_,hhi,hn,hc,hA⟩:=hq hver.symm
  have hsl:s.len=l.length:=by rw[hlen];simp[zI]
  have hc0:¬s.cap=0:=zo
  obtain⟨b,o,had,hAv⟩:=hA.resolve_left hc0
  obtain⟨b',o',vals,te,had',hb,hsz,hrr,_⟩:=hmem.resolve_left hc0
  rw[had] at had'
  obtain⟨rfl,rfl⟩:b=b'∧o=o':=by
   have:=Option.some.inj had'
   injection this with h1 h2 h3
   exact⟨h1,h2⟩
  rw[Nat.zero_mul,Nat.add_zero] at hAv
  subst hAv
  have hnl:n=l.length:=zo
  subst hnl
  have hbs:b<w.heap.size:=(Array.getElem?_eq_some_iff.1 hb).1
  have hH:Holds (Value.int .i64) w b o l.toArray:=λj hj=>by
   have hj':j<l.length:=by simpa using hj
   obtain⟨_,hcell⟩:=wy (zI l) o j [.sc (.int .i64 l[j])] (by simp[zI,hj']) hrr
   simp only[zN,rep] at hcell
   obtain⟨⟨u,hu,_,rfl⟩,_⟩:=hcell
   rw[Nat.mul_one] at hu
   refine⟨by rw[hu];simp[hj'],by simp[World.frozen?,hb]⟩
  have hblk:s.uB=some b:=by unfold Site.uB;rw[if_neg (by simp[hc0]),had];rfl
  have hnF:¬F b:=hst.apart 0 s b _ hJ hblk rfl rfl
  refine(Any.slices_Sort_int zmn b o c l w hH hbs hl).mono λe w' ⟨he,nd,os,hw'⟩=>?_
  have hrow':w'.heap[b]? = some (.cells (putCells (Value.int .i64) o (XS l).toArray vals) te (0,0)):=by rw[hw'];exact zpQ _ hb
  have hoth:∀k,k<w.heap.size→k≠b→w'.heap[k]? = w.heap[k]?:=λk h1 h2=>by rw[hw'];exact zkQ _ h1 h2
  have hsize:w.heap.size≤w'.heap.size:=by rw[hw'];simp[Sort.ahead]
  have hfr:∀k,F k→w'.heap[k]? = w.heap[k]?:=λk hk=>hoth k (hst.lt k hk) λe=>hnF (e▸hk)
  have hos:w'.os=w.os∧w'.tape=w.tape∧w'.output=w.output:=by rw[hw'];exact⟨rfl,rfl,rfl⟩
  refine⟨_,J,F,he,?_,hdom,by simp[rep,zY],?_⟩
  ·refine hst.update 0 s (.vec true zW 1 (zI (XS l))) (λi=>?_) (λi=>?_) (yK.le_refl J) hfr hsize ?_ (λb2 h2=>.inr ⟨s,hJ,h2⟩) (λi s2 b2 h1 h2=>hst.xd h1 h2) ?_ ?_
   ·by_cases e:i=0
    ·subst e;rw[if_pos rfl,hJ]
    ·rw[if_neg e]
   ·by_cases e:i=0
    ·subst e;rfl
    ·rw[if_neg e]
     cases i with
     | zero=>exact absurd rfl e
     | succ i=>rfl
   ·intro i s2 b2 hi h1 h2
    refine hoth b2 (hst.xd h1 h2) λe=>hi ?_
    subst e
    exact hst.one i 0 s2 s b2 h1 hJ h2 hblk
   ·intro b2 h1 _
    rw[hblk] at h1
    cases h1
    exact hnF
   ·simp only[Yl]
    refine⟨hrow,hver,hesz,by rw[hlen];simp[zI],hcap,.inr ⟨b,o,_,te,had,hrow',by simp[putCells];omega,?_,λh=>by cases h⟩⟩
    refine wX _ _ λj x hx=>?_
    have hj:j<(XS l).length:=by
     have:=(List.getElem?_eq_some_iff.1 hx).1
     simpa [zI] using this
    have hx':x=[.sc (.int .i64 (XS l)[j])]:=by
     have:(zI (XS l))[j]? = some [.sc (.int .i64 (XS l)[j])]:=by simp[zI,hj]
     rw[hx] at this
     exact Option.some.inj this
    subst hx'
    refine⟨rfl,?_⟩
    simp only[zN,rep]
    refine⟨⟨_,?_,rfl,rfl⟩,trivial⟩
    have hjv:o+j<vals.size:=by
     rw[zm8] at hj
     rw[Nat.mul_one] at hsz
     omega
    simp only[World.cell?,hrow',Nat.mul_one]
    simp only[Option.isSome_none,Bool.false_eq_true,if_false]
    have hjl:j<l.length:=by simpa using hj
    simp[putCells,hjv,hjl,List.getElem?_eq_getElem hj]
  ·exact⟨hos.1,hos.2.1,hos.2.2,hsize,λk hk ho=>hoth k hk λe=>ho ⟨0,s,hJ,e▸hblk⟩,hfr,yK.le_refl J,λ_ h=>h,λ_ h=>.inl h,λ_ h=>.inl h⟩
def c94:PC:=.seq (OP [qm 3 0,Ln 4 3,qm 2 4]) (OP [qm 5 0,qm 6 2,qm 7 2,q 8 (.conv .u64 7),Ca 9 165 [8],Ca 10 164 [5,(cI 0),6,9]])
theorem zxd:zz Tryz.prog 94 11 [] c94:=fK Tryz.func94
def zv8:PC:=.block 1 (.seq (OP [qm 19 2,qm 20 1,Bi 21 .sub 19 20,qm 10 21]) (.seq (.seq (OP [qm 22 10,Bi 23 .leq 22 (cI 12)]) (.cond 23 (.seq (OP [qm 24 0,qm 25 1,qm 26 2,Ca 27 208 [24,25,26]]) .ret) .skip)) (.seq (.seq (OP [qm 28 3,Bi 29 .eql 28 (cI 0)]) (.cond 29 (.seq (OP [qm 30 0,qm 31 1,qm 32 2,Ca 33 209 [30,31,32]]) .ret) .skip)) (.seq (.seq (OP [qm 34 8,Nt 35 34]) (.cond 35 (.seq (OP [qm 36 0,qm 37 1,qm 38 2,Ca 39 210 [36,37,38]]) (OP [qm 40 3,Bi 41 .sub 40 (cI 1),qm 3 41])) .skip)) (.seq (OP [qm 43 0,qm 44 1,qm 45 2,Ca 46 211 [43,44,45],qm 42 46,Xt 47 0 42,Xt 48 1 42,qm 11 47,qm 12 48]) (.seq (.seq (OP [qm 49 12,Bi 50 .eql 49 (cI 2)]) (.cond 50 (.seq (OP [qm 51 0,qm 52 1,qm 53 2,Ca 54 212 [51,52,53]]) (.seq (OP [qm 55 2,Bi 56 .sub 55 (cI 1),qm 57 11,qm 58 1,Bi 59 .sub 57 58,Bi 60 .sub 56 59,qm 11 60]) (OP [Mv 12 (cI 1)]))) .skip)) (.seq (.seq (OP [qm 61 8,qm 62 61,GT 63 62 (.move 9),Pk 64 62 63 cF,qm 65 64,GT 66 65 (.move 12),GT 67 65 (.bin .eql 66 (cI 1)),Pk 68 65 67 cF]) (.cond 68 (.seq (OP [qm 69 0,qm 70 1,qm 71 2,Ca 72 213 [69,70,71]]) (.cond 72 .ret .skip)) .skip)) (.seq (.seq (.ops [qm 73 1,qd 74 (.bin .gtr 73 (cI 0)) 1,qw 75 74 3,⟨some 76,.move 0,some (75,true),7⟩,⟨some 77,.move 1,some (75,true),7⟩,⟨some 78,.bin .sub 77 (cI 1),some (75,true),23⟩,⟨some 79,.zM 1 76 78,some (75,true),63⟩,⟨some 80,.zi 79,some (75,true),127⟩,⟨some 81,.move 0,some (75,true),7⟩,⟨some 82,.move 11,some (75,true),7⟩,⟨some 83,.zM 1 81 82,some (75,true),775⟩,⟨some 84,.zi 83,some (75,true),1799⟩,⟨some 85,.call 214 [80,84],some (75,true),4095⟩,⟨some 86,.un .not 85,some (75,true),8191⟩,qd 87 (.pick 75 86 cF) 16383] true) (.cond 87 (.seq (OP [qm 88 0,qm 89 1,qm 90 2,qm 91 11,Ca 92 215 [88,89,90,91],qm 13 92]) (.seq (OP [qm 93 13,qm 1 93]) (.exit 1))) .skip)) (.seq (OP [qm 95 0,qm 96 1,qm 97 2,qm 98 11,Ca 99 216 [95,96,97,98],qm 94 99,Xt 100 0 94,Xt 101 1 94,qm 14 100,qm 15 101]) (.seq (OP [qm 102 15,qm 9 102]) (.seq (OP [qm 103 14,qm 104 1,Bi 105 .sub 103 104,qm 106 2,qm 107 14,Bi 108 .sub 106 107,qm 16 105,qm 17 108]) (.seq (OP [qm 109 10,Bi 110 .quo 109 (cI 8),qm 18 110]) (.seq (OP [qm 111 16,qm 112 17,Bi 113 .lss 111 112]) (.cond 113 (.seq (OP [qm 114 16,qm 115 18,Bi 116 .geq 114 115,qm 8 116]) (.seq (OP [qm 117 0,qm 118 1,qm 119 14,qm 120 3,Ca 121 164 [117,118,119,120]]) (OP [qm 122 14,Bi 123 .add 122 (cI 1),qm 1 123]))) (.seq (OP [qm 124 17,qm 125 18,Bi 126 .geq 124 125,qm 8 126]) (.seq (OP [qm 127 0,qm 128 14,Bi 129 .add 128 (cI 1),qm 130 2,qm 131 3,Ca 132 164 [127,129,130,131]]) (OP [qm 133 14,qm 2 133])))))))))))))))))
def c164:PC:=.seq (OP [Mv 8 cT]) (.seq (OP [Mv 9 cT]) (.block 0 (.loop zv8)))
theorem ztu:zz Tryz.prog 164 134 [] c164:=fK Tryz.func164
def zya:PC:=.seq (.seq (.ops [qm 16 7,qm 17 1,qd 18 (.bin .gtr 16 17) 3,qw 19 18 7,⟨some 20,.move 0,some (19,true),15⟩,⟨some 21,.move 7,some (19,true),15⟩,⟨some 22,.zM 1 20 21,some (19,true),63⟩,⟨some 23,.zi 22,some (19,true),127⟩,⟨some 24,.move 0,some (19,true),15⟩,⟨some 25,.move 7,some (19,true),15⟩,⟨some 26,.bin .sub 25 (cI 1),some (19,true),527⟩,⟨some 27,.zM 1 24 26,some (19,true),1807⟩,⟨some 28,.zi 27,some (19,true),3855⟩,⟨some 29,.call 214 [23,28],some (19,true),8191⟩,qd 30 (.pick 19 29 cF) 16383] true) (.cond 30 .skip (.exit 2))) (.seq (.block 3 (.ops [qm 33 0,qm 34 7,qm 35 0,qm 36 7,qd 37 (.bin .sub 36 (cI 1)) 8,qm 38 0,qm 39 7,qd 40 (.bin .sub 39 (cI 1)) 64,qd 41 (.zM 1 38 40) 224,qd 42 (.zi 41) 480,qm 43 0,qm 44 7,qd 45 (.zM 1 43 44) 3072,qd 46 (.zi 45) 7168,qd 47 (.zM 1 33 34) 16355,qk (.store 1 47 42) 32739,qd 48 (.zM 1 35 37) 65535,qk (.store 1 48 46) 131071] true)) (OP [qm 31 7,Bi 32 .sub 31 (cI 1),qm 7 32]))
def zwy:PC:=.seq (.seq (OP [qm 10 6,qm 11 2,Bi 12 .lss 10 11]) (.cond 12 .skip (.exit 0))) (.seq (.block 1 (.seq (OP [qm 15 6,qm 7 15]) (.block 2 (.loop zya)))) (OP [qm 13 6,Bi 14 .add 13 (cI 1),qm 6 14]))
def c208:PC:=.seq (OP [qm 8 1,Bi 9 .add 8 (cI 1),qm 6 9]) (.block 0 (.loop zwy))
theorem zte:zz Tryz.prog 208 49 [] c208:=fK Tryz.func208
theorem zkI:zu Tryz.prog 165 [.sc (.int .u64 0)] (.sc (.int .i64 0)) where
 ok:=⟨_,Tryz.func165,by kernel_rfl,by kernel_rfl⟩
 run J F w vs hF hR:=by
  simp only[zY,rep] at hR
  obtain⟨v,us,rfl,rfl,rfl⟩:=hR
  refine(calls_of_every_depth λD=>AnyS.bits_LenIn { zmn with } D 0 w zo zo).mono λe w' ⟨he,hw⟩=>?_
  subst hw
  exact⟨_,F,he,hF.lt,rfl,Ext.refl _ _ _⟩
theorem zji:zu Tryz.prog 208 [.xj 1 [],.sc (.int .i64 0),.sc (.int .i64 0)] (.yI []):=by
 refine zb zte zs (by simp[ze,Pure,yv]) ?_ (by simp[Pure,ze])
 refine sR ?_
 refine sI ?_
 refine zL [0,1,2] (λ_:Nat=>[(6,.sc (.int .i64 1))]) (λ_=>[]) (λ_=>True) (λ_=>0) 0 ?_
 refine sW ?_
 refine⟨trivial,by exact sK,rfl,?_⟩
 rintro k -
 refine sW ?_
 refine sR ?_
 exact .refl _
theorem zoP (n:Int):zu Tryz.prog 164 [.xj 1 [],.sc (.int .i64 0),.sc (.int .i64 0),.sc (.int .i64 n)] (.yI []):=by
 refine zb ztu zs (by simp[ze,Pure,yv]) ?_ (by simp[Pure,ze])
 refine sR ?_
 refine zL [0] (λ_:Nat=>[(1,.sc (.int .i64 0)),(2,.sc (.int .i64 0)),(3,.sc (.int .i64 n)),(8,.sc (.bool true)),(9,.sc (.bool true))]) (λ_=>[]) (λ_=>True) (λ_=>0) 0 ?_
 refine sW ?_
 refine⟨trivial,by exact sK,rfl,?_⟩
 rintro k -
 refine sW ?_
 refine sR ?_
 refine sI ?_
 refine sC zji ?_
 exact .refl _
theorem zqi:zu Tryz.prog 94 [.xj 1 []] (.yI []):=by
 refine zb zxd zs (by simp[ze,Pure,yv]) ?_ (by simp[Pure,ze])
 refine sR ?_
 rw[show(([]:List (List D)).length:Int)=0 from rfl]
 refine .inl ⟨by unfold InR;rw[IntKind.wrap_u64];omega,?_⟩
 refine sW ?_
 refine sC zkI ?_
 refine sC (zoP 0) ?_
 exact .refl _
theorem zrI (zW:Nat) (l:List Int) (hl:l.length<4611686018427387904) :
  yB Tryz.prog 94 [.own 0 zW 0 l.length] [.vec true zW 1 (zI l)] (.yI []) [.vec true zW 1 (zI (XS l))]:=by
 rcases Nat.eq_zero_or_pos l.length with h0|h0
 ·have h0:=List.length_eq_zero_iff.1 h0
  subst h0
  refine⟨zqi.1,zs,λJ F w vs hst hdom hR=>?_⟩
  simp only[zY,rep] at hR
  obtain⟨v,us,rfl,⟨s,A,n,c,hJ,rfl,_,hq⟩,rfl⟩:=hR
  obtain⟨ob,ho,hO⟩:=hst.obj 0 s hJ
  have ho:zf.vec true zW 1 (zI [])=ob:=Option.some.inj ho
  subst ho
  simp only[Yl] at hO
  obtain⟨hrow,hver,hesz,hlen,hcap,hmem⟩:=hO
  obtain⟨_,_,hhi,hn,hc,hA⟩:=hq hver.symm
  have hn0:n=0:=by simpa using hn
  subst hn0
  refine(zqi.run J F w [.slice A 0 c] hst.lt (by simp only[zY,rep];exact⟨_,_,rfl,⟨_,_,_,rfl,rfl,zo,.inl rfl⟩,rfl⟩)).mono λe w' ⟨v,F',he,h1,h2,h3⟩=>?_
  refine⟨v,J,F',he,?_,hdom,yE (JS J) (λ_ h=>h) (λ_ _=>rfl) _ _ h2,Ext.zpL hst h3⟩
  rw[show XS []=[] by simp[XS]]
  exact hst.za6 (λb hb=>h3.block b hb (Ze b)) h3.size h3.grow (λb hb=>(h3.we b hb).imp_right λq=>q.resolve_left (Ze b)) h1
 ·exact zqs zW l h0 hl
end
section
open Go.RowKit
theorem zgd:∀(a b:List Int),a.Pairwise (·<·)→b.Pairwise (·<·)→(∀x,x∈a↔x∈b)→a=b
 | [],[],_,_,_=>rfl
 | [],y::b,_,_,h=>by have:=(h y).2 zs;cases this
 | x::a,[],_,_,h=>by have:=(h x).1 zs;cases this
 | x::a,y::b,ha,hb,h=>by
  rw[List.pairwise_cons] at ha hb
  have hxy:x=y:=by
   have h1:=(h x).1 zs
   have h2:=(h y).2 zs
   rcases List.mem_cons.1 h1 with e|e
   ·exact e
   ·rcases List.mem_cons.1 h2 with e2|e2
    ·exact e2.symm
    ·have:=ha.1 y e2;have:=hb.1 x e;omega
  subst hxy
  refine congrArg _ (zgd a b ha.2 hb.2 λz=>⟨λhz=>?_,λhz=>?_⟩)
  ·have:=ha.1 z hz
   rcases List.mem_cons.1 ((h z).1 (by simp[hz])) with e|e
   ·omega
   ·exact e
  ·have:=hb.1 z hz
   rcases List.mem_cons.1 ((h z).2 (by simp[hz])) with e|e
   ·omega
   ·exact e
theorem zg0 (p:Nat→Bool) (k:Nat):(vu p k).Pairwise (·<·):=by
 unfold vu
 rw[List.pairwise_map]
 refine List.Pairwise.imp (R:=λa b:Nat=>a<b) (λh=>zo) ?_
 exact List.Pairwise.filter _ (List.pairwise_lt_range ..)
theorem zny {l:List Int} (h:l.Pairwise (λa b=>a≤b)) (hn:l.Nodup):l.Pairwise (·<·):=by
 have:=List.Pairwise.and h hn
 exact this.imp λ⟨h1,h2⟩=>zo
theorem zez {f:Tree} (hw:f.wf zS):XS (vo [] (zX f))=YC (zX f):=by
 have hp:(XS (vo [] (zX f))).Perm (vo [] (zX f)):=List.mergeSort_perm _ _
 refine zgd _ _ (zny ?_ (hp.nodup_iff.2 (zlF _ _ zs))) (zg0 _ _) λx=>?_
 ·have:=List.pairwise_mergeSort (le:=λx y:Int=>decide (x≤y)) (λa b c h1 h2=>by simp only[decide_eq_true_eq] at *;omega) (λa b=>by simp only[Bool.or_eq_true,decide_eq_true_eq];omega) (vo [] (zX f))
  exact this.imp λh=>by simpa using h
 ·rw[hp.mem_iff,zqy,zaT (Z7 f hw)]
  simp
theorem zmX {f:Tree} (hw:f.wf vv) (h10:(YC (zX f)).length+(xR [] (partsOf f)).length≤10):ziu (YC (zX f)) (xR [] (partsOf f)) where
 few:=h10
 atoms x hx:=Z7 f (zjs hw) x ((zaT (Z7 f (zjs hw))).1 hx)
 told g hg:=zoE (zjs hw) hg
 wf g hg:=zjw vv f hw g (((zcu _ _).1 hg).resolve_left zs)
noncomputable def zbM (A:List Int) (P:List Tree) (k r:Nat):List Int:=vu (λt=>Wn A P t==r) k
noncomputable def vZ (A:List Int) (P:List Tree) (k:Nat):List (List Int):=(List.range (2^P.length)).map (zbM A P k)
@[simp] theorem zn7 (A:List Int) (P:List Tree) (k:Nat):(vZ A P k).length=2^P.length:=by simp[vZ]
theorem Ju {A:List Int} {P:List Tree} {k r:Nat} (h:r<2^P.length):(vZ A P k).getD r []=zbM A P k r:=by
 unfold vZ
 rw[List.getD_eq_getElem?_getD,List.getElem?_map,List.getElem?_range h]
 rfl
theorem zn2 (A:List Int) (P:List Tree) (k r:Nat):(zbM A P k r).length≤k:=ZG _ _
theorem zlQ (A:List Int) (P:List Tree):vZ A P 0=List.replicate (2^P.length) []:=by
 unfold vZ
 rw[List.eq_replicate_iff]
 refine⟨zs,λb hb=>?_⟩
 obtain⟨r,_,rfl⟩:=List.mem_map.1 hb
 rfl
theorem zl7 (A:List Int) (P:List Tree) (s:Nat):Wn A P s<2^P.length:=Wk _ _
theorem zoN (A:List Int) (P:List Tree) (k:Nat):(vZ A P k).set (Wn A P k) (zbM A P k (Wn A P k)++[(k:Int)])=vZ A P (k+1):=by
 apply List.ext_getElem?
 intro j
 rw[List.getElem?_set]
 by_cases hj:j<2^P.length
 ·rw[Vb (L:=vZ A P (k+1)) (by simpa using hj),Ju hj]
  have hS:zbM A P (k+1) j=if (Wn A P k==j)=true then zbM A P k j++[(k:Int)] else zbM A P k j:=Qo _ _
  rw[hS]
  by_cases e:Wn A P k=j
  ·rw[if_pos e,e,if_pos (by simpa using hj),if_pos zs]
  ·rw[if_neg e,Vb (L:=vZ A P k) (by simpa using hj),Ju hj,if_neg (by simpa using e)]
 ·rw[List.getElem?_eq_none (by simpa using hj),if_neg (λe:Wn A P k=j=>hj (e▸zl7 A P k)),List.getElem?_eq_none (by simpa using hj)]
theorem zmC {a p s:Nat} (h:s<2^(a+p)):s/2^a<2^p:=by
 rw[Nat.div_lt_iff_lt_mul (Nat.two_pow_pos _),Nat.mul_comm,←Nat.pow_add]
 exact h
theorem zk9 {A:List Int} {P:List Tree} {s:Nat} (h:s<2^(A.length+P.length)):(vZ A P (2^(A.length+P.length))).getD (s/2^A.length) []=U9 A P (A.length+P.length) s:=Ju (zmC h)
noncomputable def stE (A:List Int) (P:List Tree) (f:Tree) (k:Nat):List Int:=vu (λs=>yh (XF A P s) f) k
noncomputable def zgS (A:List Int) (P:List Tree) (k:Nat):List (List Int):=(List.range k).map (U9 A P (A.length+P.length))
noncomputable def leE (A:List Int) (is:Bool) (k:Nat):List Int:=(List.range k).map λs=>xr A s is A.length
theorem zpw (A:List Int) (P:List Tree) (f:Tree) (k:Nat):stE A P f (k+1)=if yh (XF A P k) f=true then stE A P f k++[(k:Int)] else stE A P f k:=Qo _ _
theorem zoQ (A:List Int) (P:List Tree) (k:Nat):zgS A P (k+1)=zgS A P k++[U9 A P (A.length+P.length) k]:=by simp[zgS,List.range_succ]
theorem zj6 (A:List Int) (is:Bool) (k:Nat):leE A is (k+1)=leE A is k++[xr A k is A.length]:=by simp[leE,List.range_succ]
@[simp] theorem zzT (A:List Int) (P:List Tree) (k:Nat):(zgS A P k).length=k:=by simp[zgS]
@[simp] theorem zAC (A:List Int) (is:Bool) (k:Nat):(leE A is k).length=k:=by simp[leE]
theorem zuf (A:List Int) (P:List Tree) (f:Tree) (k:Nat):(stE A P f k).length≤k:=ZG _ _
theorem ztl (A:List Int) (P:List Tree) (f:Tree):qP A P f=⟨stE A P f (2^(A.length+P.length)),zgS A P (2^(A.length+P.length)),leE A true (2^(A.length+P.length)),leE A false (2^(A.length+P.length)),vT A P (A.length+P.length) P.length⟩:=rfl
theorem zjL {A:List Int} {P:List Tree} {k z i:Nat} {R:List Int} (hz:z=i) (hi:i<2^P.length) (hR:(vZ A P k).getD i []=R):((vZ A P k).map λl=>[zw l])[z]? = some [zw R]:=by
 subst hz
 rw[List.getElem?_map,Vb (L:=vZ A P k) (by simpa using hi),hR]
 rfl
theorem JW {S:Nat→Bool} {H:List zf} {x y:List D} (h:zP S H x y):∀a:List (List D),zJ S H (a++[x]) (a++[y])
 | []=>.cons _ _ _ _ h (.refl _)
 | z::a=>.cons _ _ _ _ (.refl _) (JW h a)
theorem Xl {S:Nat→Bool} {H:List zf} {L:List (List Int)} {c id zW n:Nat} {m:Bool} {R:List Int} (hc:c=L.length) (hn:n=R.length) (hS:S id=true) (hH:H[id]? = some (.vec m zW 1 (zI R))) :
  zJ S H (List.drop 0 (List.take c (vd L))++List.drop 0 (List.take 1 [[D.own id zW 0 n]])) (vd (L++[R])):=by
 subst hc hn
 rw[zr zs,show vd (L++[R])=vd L++[[zw R]] by simp[vd]]
 exact JW (.cons _ _ _ _ (.own _ _ _ _ _ _ _ _ hS hH (zk (zr (by simp[zI])))) (.refl _)) _
theorem Qt (ρ:Nat→Nat) (l:List Int):vw ρ (zI l)=zI l:=yo _ (zB _ (λl=>by simp[ze,Pure]) l)
theorem zkj (ρ:Nat→Nat) (l:List Tree):vw ρ (xz l)=xz l:=yo _ (x0 l)
def zbV (l:List Int):List (List D):=l.map λn=>[.sc (.int .u64 n)]
@[simp] theorem zzS (l:List Int):(zbV l).length=l.length:=List.length_map ..
theorem YV (l:List Int):yv (zbV l):=zB _ (λl=>by simp[ze,Pure]) l
@[simp] theorem zsv {m:Nat} (l:List Int):zD m (zbV l)↔True:=⟨λ_=>trivial,λ_=>zg _ (YV l)⟩
theorem Wo {l:List Int} {c:Nat} {x:Int} (h:c=l.length):List.drop 0 (List.take c (zbV l))++[[.sc (.int .u64 x)]]=zbV (l++[x]):=by
 subst h
 rw[zr zs]
 simp[zbV]
end
section
open Go.RowKit
noncomputable def zfX (t:Tree):D :=
 if (Zs t (z1 t)).2=0 then zuX (z1 t) else .yI [Vl zq3,.sc (.int .i64 (Zs t (z1 t)).2)]
theorem zlb {t:Tree} (h:(Zs t (z1 t)).2=0):(Zs t (z1 t)).1=z1 t∧xc zS t=0∧xc zS (z1 t)=0:=by
 unfold Zs at *
 split at h
 ·rename_i h1
  split at h
  ·rename_i h2
   rw[if_pos h1,if_pos h2]
   exact⟨rfl,h1,h2⟩
  ·rename_i h2;exact absurd h h2
 ·rename_i h1;exact absurd h h1
def zzq:PC:=.seq (OP [Bi 59 .lss 58 57]) (.seq (.cond 59 .skip (.exit 0)) (.seq (.block 1 (.seq (OP [qm 60 58,qm 9 60]) (.seq (OP [qm 61 5,qm 62 9,Ca 63 95 [61,62],qm 10 63]) (OP [qm 64 8,qm 65 10,qm 66 8,qm 67 10,Ia 68 1 66 67,Lo 69 68,qm 70 9,Bs 71 1 1 [70],Ap 72 1 8 69 71,Ia 73 1 64 65,So 1 73 72])))) (OP [Bi 74 .add 58 (cI 1),qm 58 74])))
def zz5:PC:=.seq (OP [Bi 78 .lss 77 76]) (.seq (.cond 78 .skip (.exit 2)) (.seq (.block 3 (.seq (OP [qm 79 77,qm 11 79]) (.seq (.seq (OP [qm 80 5,LA 81 3 1,qm 82 11,Ca 83 96 [80,81,82]]) (.cond 83 (OP [Fa 84 0 7,Lo 85 84,qm 86 11,Bs 87 1 1 [86],Ap 88 1 8 85 87,Fa 89 0 7,So 1 89 88]) .skip)) (.seq (.ops [Fa 90 1 7,qd 91 (.zi 90) 1,qm 92 8,qm 93 5,qm 94 11,qd 95 (.call 97 [93,94]) 24,qd 96 (.zM 1 92 95) 60,qd 97 (.zi 96) 124,qd 98 (.call 63 [97]) 252,qd 99 (.wh 1 1 [98]) 508,qd 100 (.append 1 24 91 99) 1023,qd 101 (.zv 1 7) 2047,qk (.store 1 101 100) 4095] true) (.seq (.ops [Fa 102 2 7,qd 103 (.zi 102) 1,qm 104 5,qm 105 11,qd 106 (.call 98 [104,105,cT]) 12,qd 107 (.wh 1 1 [106]) 28,qd 108 (.append 1 8 103 107) 63,qd 109 (.zv 2 7) 127,qk (.store 1 109 108) 255] true) (.ops [Fa 110 3 7,qd 111 (.zi 110) 1,qm 112 5,qm 113 11,qd 114 (.call 98 [112,113,cF]) 12,qd 115 (.wh 1 1 [114]) 28,qd 116 (.append 1 8 111 115) 63,qd 117 (.zv 3 7) 127,qk (.store 1 117 116) 255] true)))))) (OP [Bi 118 .add 77 (cI 1),qm 77 118])))
def zzl:PC:=.seq (OP [Bi 134 .lss 133 132]) (.seq (.cond 134 .skip (.exit 6)) (.seq (.block 7 (.seq (OP [qm 135 133,qm 15 135]) (.seq (OP [qm 136 5,LA 137 3 13,qm 138 15,Ca 139 99 [136,137,138]]) (.cond 139 (OP [qm 140 14,qm 141 15,Bs 142 1 1 [141],Ap 143 1 8 140 142,qm 14 143]) .skip)))) (OP [Bi 144 .add 133 (cI 1),qm 133 144])))
def zy4:PC:=.seq (OP [Bi 125 .lss 124 123]) (.seq (.cond 125 .skip (.exit 4)) (.seq (.block 5 (.seq (OP [Ia 126 3 122 124,LA 127 3 126,q 13 (.alloc [(.int .i64 0),(.int .i64 0),(.slice none 0 0)]),So 3 13 127]) (.seq (.seq (OP [Fa 128 0 13,Lo 129 128,Bi 130 .eql 129 (cI 7)]) (.cond 130 (.exit 5) .skip)) (.seq (OP [Mv 14 cN]) (.seq (.seq (OP [qm 131 6,Bi 132 .shl (cI 1) 131,Mv 133 (cI 0)]) (.block 6 (.loop zzl))) (OP [Fa 145 4 7,Lo 146 145,qm 147 14,Bs 148 1 1 [147],Ap 149 1 24 146 148,Fa 150 4 7,So 1 150 149])))))) (OP [Bi 151 .add 124 (cI 1),qm 124 151])))
def c52:PC:=.seq (OP [Bx 1 0,q 2 (.alloc [(.slice none 0 0),(.slice none 0 0),(.slice none 0 0),(.slice none 0 0),(.slice none 0 0)]),Mv 3 (cI 0)]) (.seq (OP [LA 17 3 1,Ca 18 92 [17],qm 16 18,Xt 19 0 16,Xt 20 1 16,So 3 1 19,qm 4 20]) (.seq (.seq (OP [qm 21 4,Bi 22 .neq 21 (cI 0)]) (.cond 22 (.seq (OP [q 23 (.build [(.slice none 0 0),(.slice none 0 0),(.slice none 0 0),(.slice none 0 0),(.slice none 0 0)] []),qm 24 4,So 5 2 23,qm 3 24]) .ret) .skip)) (.seq (OP [q 25 (.build [(.slice none 0 0),(.slice none 0 0)] []),Bx 26 25,qm 5 26]) (.seq (.stop (OP [qm 27 5,LA 28 3 1,Ca 29 93 [27,28]])) (.seq (OP [qm 30 5,q 31 (.zm 30),Fa 32 0 31,Lo 33 32,Ca 34 94 [33]]) (.seq (.stop (.ops [qm 35 5,qd 36 (.zm 35) 1,qd 37 (.zv 0 36) 3,qd 38 (.zi 37) 7,qd 39 (.len 38) 15,qm 40 5,qd 41 (.zm 40) 32,qd 42 (.zv 1 41) 96,qd 43 (.zi 42) 224,qd 44 (.len 43) 480,qd 45 (.bin .add 39 44) 1023,qw 6 45 2047] true)) (.seq (.seq (OP [qm 46 6,Bi 47 .gtr 46 (cI 10)]) (.cond 47 (.seq (OP [q 48 (.build [(.slice none 0 0),(.slice none 0 0),(.slice none 0 0),(.slice none 0 0),(.slice none 0 0)] []),So 5 2 48,Mv 3 (cI 2)]) .ret) .skip)) (.seq (OP [q 7 (.alloc [(.slice none 0 0),(.slice none 0 0),(.slice none 0 0),(.slice none 0 0),(.slice none 0 0)])]) (.seq (OP [qm 49 5,q 50 (.zm 49),Fa 51 1 50,Lo 52 51,Ln 53 52,Bi 54 .shl (cI 1) 53,q 55 (.x5 1 24 [(.slice none 0 0)] 54 54),qm 8 55]) (.seq (.seq (OP [qm 56 6,Bi 57 .shl (cI 1) 56,Mv 58 (cI 0)]) (.stop (.block 0 (.loop zzq)))) (.seq (.seq (OP [qm 75 6,Bi 76 .shl (cI 1) 75,Mv 77 (cI 0)]) (.stop (.block 2 (.loop zz5)))) (.seq (.seq (OP [qm 119 5,q 120 (.zm 119),Fa 121 1 120,Lo 122 121,Ln 123 122,Mv 124 (cI 0)]) (.stop (.block 4 (.loop zy4)))) (.seq (OP [LA 152 5 7,So 5 2 152,Mv 3 (cI 0)]) .ret)))))))))))))
theorem zyu:zz Tryz.prog 52 153 [.agg 2 5,.tmp 3] c52:=fK Tryz.func52
theorem zuI (t:Tree) (hs:Small t):zu Tryz.prog 52 [yk t] (zfX t):=by
 have hP:=zkr t hs
 have hpm:Pure (zfX t):=by
  unfold zfX zuX
  split
  ·dsimp only;split<;>simp[Pure,ze,qp]
  ·simp[Pure,ze,qp]
 refine zb zyu zs (by simp[ze,zA]) ?_ hpm
 refine sR ?_
 refine sC hP ?_
 unfold zfX
 refine sS (λh0=>?_) λh0=>?_
 ·have h0:¬(Zs t (z1 t)).2=0:=by simpa using h0
  rw[if_neg h0]
  exact sP
 have h0:(Zs t (z1 t)).2=0:=by simpa using h0
 obtain⟨e1,hc,hc2⟩:=zlb h0
 rw[if_pos h0,e1]
 have hwl:=((Wx _ _).1 hc2).2.2
 have hsz:=((Wx _ _).1 hc2).1
 have hwp:=zmr t ((Wx _ _).1 hc).2.2
 clear hP hpm h0 e1 hc hc2
 generalize z1 t=f at *
 have hla:=ziX f
 have hlp:=zjd f
 have hG:=znW f hwl [] [] (by simp;omega) (by simp;omega)
 have hlA:=uo (zX f) []
 have hlP:=uh (partsOf f) []
 have hSo:=zrI (vo [] (zX f)).length (vo [] (zX f)) (by simp at *;omega)
 rw[zez hwl] at hSo
 have hAn:(YC (zX f)).length=(vo [] (zX f)).length:=by rw[←zez hwl];simp
 have hT:=zmX hwp
 have hTf:=QJ hwl
 unfold zuX
 dsimp only
 generalize hA0:vo [] (zX f)=A0 at *
 generalize hA1:YC (zX f)=A at *
 generalize hP1:xR [] (partsOf f)=P at *
 obtain⟨N5,hN5⟩:∃N5:List D,N5=[.sc (.slice none 0 0),.sc (.slice none 0 0),.sc (.slice none 0 0),.sc (.slice none 0 0),.sc (.slice none 0 0)]:=⟨_,rfl⟩
 refine zE (zj 3 (env':=[(1,.loc 0 0),(2,.loc 1 0),(3,.sc (.int .i64 0)),(5,.loc 2 0)]) (H':=[.row true (yS f),.row true N5,.row true [.sc (.slice none 0 0),.sc (.slice none 0 0)]]) zs rfl (by exact sQ) ⟨⟨rfl,.refl _,zt _ (yj _)⟩,⟨rfl,by rw[hN5];exact .refl _,by rw[hN5];simp[zl,zp]⟩,⟨rfl,.refl _,by simp[zl,zp]⟩,trivial⟩) ?_
 refine zE (wA (yP 2 0 1 zs rfl rfl) (yP 2 1 3 zs rfl rfl)) ?_
 refine sR ?_
 have hG2:yB Tryz.prog 93 [.loc 2 0,yk f] [.row true (yS f),.row true N5,.row true [.own 3 0 0 0,.own 4 0 0 0],.vec true 0 1 [],.vec true 0 3 []] (.yI [])
   [.row true (yS f),.row true N5,.row true [.own 3 A0.length 0 A0.length,.own 4 P.length 0 P.length],.vec true A0.length 1 (zI A0),.vec true P.length 3 (xz P)]:=by
  refine vg hG [.row true (yS f),.row true N5] [] rfl (by simp[yn,zl,zp,zq _ (zA _)]) (xK (by simp[yn])) (by simp[yG,D.yy]) (by simp[D.yy,yG]) ?_ ?_
  ·simp[yn,zf.yy,yG,D.yy,vw,zI,xz]
  ·simp only[yn,List.map_cons,List.map_nil,zf.yy,yG,D.yy,List.length_cons,List.length_nil,Qt,zkj]
   rfl
 refine sA hG2 ?_
 have hS2:yB Tryz.prog 94 [.own 3 A0.length 0 A0.length] [.row true (yS f),.row true N5,.row true [.own 3 A0.length 0 A0.length,.own 4 P.length 0 P.length],.vec true A0.length 1 (zI A0),.vec true P.length 3 (xz P)] (.yI [])
   [.row true (yS f),.row true N5,.row true [.own 3 A0.length 0 A0.length,.own 4 P.length 0 P.length],.vec true A0.length 1 (zI A),.vec true P.length 3 (xz P)]:=by
  refine vg hSo [.row true (yS f),.row true N5,.row true [.own 3 A0.length 0 A0.length,.own 4 P.length 0 P.length]] [.vec true P.length 3 (xz P)] rfl (by simp[zl,zp]) ⟨zg _ (zB _ (λl=>by simp[ze,Pure]) A0),trivial⟩ (by simp[yG,D.yy]) (by simp[D.yy,yG]) ?_ ?_
  ·simp only[List.map_cons,List.map_nil,zf.yy,Qt]
   rfl
  ·simp only[List.map_cons,List.map_nil,zf.yy,Qt]
   rfl
 refine sA hS2 ?_
 have hmd:=qA A P
 refine zE (qf (Yy 2) (env':=[(1,.loc 0 0),(2,.loc 1 0),(3,.sc (.int .i64 0)),(5,XE A P)]) (H':=[.row true (yS f),.row true N5,.row false [zw A,.xj 3 (xz P)],.vec false A0.length 1 (zI A),.vec false P.length 3 (xz P)]) ?_ ?_) ?_
 ·refine⟨.refl _,.refl _,.refl _,ya.loc _ _ _ _ _ rfl rfl (.cons _ _ _ _ (.own _ _ _ _ _ _ _ _ rfl rfl ?_) (.cons _ _ _ _ (.own _ _ _ _ _ _ _ _ rfl rfl ?_) (.refl _))),trivial⟩
  ·rw[←hAn];exact zk (zr (by simp[zI]))
  ·exact zk (zr zs)
 ·refine⟨⟨.inl rfl,(λh=>by cases h),.refl _⟩,⟨.inl rfl,(λh=>by cases h),.refl _⟩,⟨.inr ⟨rfl,rfl⟩,λ_=>rfl,.cons _ _ _ _ (.own _ _ _ _ _ _ _ _ rfl rfl ?_) (.cons _ _ _ _ (.own _ _ _ _ _ _ _ _ rfl rfl ?_) (.refl _))⟩,⟨.inr ⟨rfl,rfl⟩,λ_=>rfl,rfl,rfl,.refl _⟩,⟨.inr ⟨rfl,rfl⟩,λ_=>rfl,rfl,rfl,.refl _⟩,trivial⟩
  ·rw[←hAn];exact zk (zr (by simp[zI]))
  ·exact zk (zr zs)
 have hA60:A.length≤60:=by simp at hlA;omega
 have hP60:P.length≤60:=by simp at hlP;omega
 subst hN5
 clear hG hSo hG2 hS2 hlA hlP hA0 hAn
 unfold XE
 refine sR ?_
 rw[List.length_map,Wl]
 refine sI ?_
 refine sS (λh10=>?_) λh10=>?_
 ·have h10:10<A.length+P.length:=sO
  rw[if_pos h10]
  exact sP
 have h10:¬10<A.length+P.length:=sO
 rw[if_neg h10]
 have hI:=hT zo
 have hp2:=Wm (n:=P.length) zo
 have hn2:=Wm (n:=A.length+P.length) zo
 have s1:(1:Int)*2^min ((P.length:Nat):Int).toNat IntKind.i64.bits=((2^P.length:Nat):Int):=zhQ P.length zo
 have s2:(1:Int)*2^min ((A.length+P.length:Nat):Int).toNat IntKind.i64.bits=((2^(A.length+P.length):Nat):Int):=zhQ _ zo
 rw[Wl]
 refine⟨zo,?_⟩
 rw[s1]
 generalize h2P:2^P.length=NP at *
 generalize h2N:2^(A.length+P.length)=N at *
 refine sI ?_
 refine⟨zo,zo,zo,?_⟩
 rw[Int.toNat_natCast]
 refine sW ?_
 rw[←Int.natCast_add]
 simp only[Nat.sub_zero]
 refine⟨zo,?_⟩
 rw[s2]
 refine sI ?_
 have hK:=zuZ A P hI
 have hmd2:D.xk [zw A,.xj 3 (xz P)]=XE A P:=rfl
 have hbl:∀k,(vZ A P k).length=NP:=λk=>by rw[zn7,h2P]
 refine zgR (λ_:Unit=>[(1,.loc 0 0),(2,.loc 1 0),(5,XE A P),(6,.sc (.int .i64 ((A.length+P.length:Nat):Int))),(7,.loc 5 0),(8,.own 6 0 0 NP)])
  (λ_=>[.row true (yS f),.row true [.sc (.slice none 0 0),.sc (.slice none 0 0),.sc (.slice none 0 0),.sc (.slice none 0 0),.sc (.slice none 0 0)],.row false [zw A,.xj 3 (xz P)],.vec false A0.length 1 (zI A),.vec false P.length 3 (xz P),.row true [.sc (.slice none 0 0),.sc (.slice none 0 0),.sc (.slice none 0 0),.sc (.slice none 0 0),.sc (.slice none 0 0)],.vec true 0 1 ((vZ A P N).map λl=>[zw l])]) (λ_=>True) ?_ ?_
 ·refine sR ?_
  refine zE (Js 6 1 NP 0 zs rfl) ?_
  refine zZ [1,2,5,6,7,8,57] (λk:Nat=>[(58,.sc (.int .i64 k))]) (λk=>.row true (yS f)::.row true [.sc (.slice none 0 0),.sc (.slice none 0 0),.sc (.slice none 0 0),.sc (.slice none 0 0),.sc (.slice none 0 0)]::.row false [zw A,.xj 3 (xz P)]::.vec false A0.length 1 (zI A)::.vec false P.length 3 (xz P)::.row true [.sc (.slice none 0 0),.sc (.slice none 0 0),.sc (.slice none 0 0),.sc (.slice none 0 0),.sc (.slice none 0 0)]::.vec true 0 1 (wJ 7 (vZ A P k))::yR 1 zfN (vZ A P k)) (λk=>k≤N) (λk=>N-k) 0 ?_
  refine sW ?_
  refine⟨zo,by exact sK,?_,?_⟩
  ·rw[zlQ,h2P]
   show _::_::_::_::_::_::_::_=_::_::_::_::_::_::_::_
   rw[XT 1 _ zfN]
   exact congrArg (λx=>_::_::_::_::_::_::zf.vec true 0 1 x::_) (XP (α:=Int) 7 _)
  rintro k hk
  refine sW ?_
  refine sR ?_
  refine sS (λq0=>?_) λq0=>?_
  ·have q0:k<N:=sO
   have hkl:=zl7 A P k
   have hlen:=hbl k
   have hset:=zoN A P k
   have hat:=Ju (A:=A) (P:=P) (k:=k) hkl
   have hrl:=zn2 A P k (Wn A P k)
   rw[h2P] at hkl
   refine sC (hK k) ?_
   generalize Wn A P k=v at *
   generalize zbM A P k v=C at *
   generalize hR2:vZ A P (k+1)=R2 at *
   generalize vZ A P k=R at *
   refine sB ?_
   refine⟨_,xX (i:=v) zo zo,?_⟩
   refine sW ?_
   refine Jf ?_
   refine sW ?_
   (repeat (first|(refine y7 0 rfl ?_;((conv=>whnf);repeat(refine⟨rfl,?_⟩;conv=>whnf)))|(refine y4 0 rfl ?_;((conv=>whnf);repeat(refine⟨rfl,?_⟩;conv=>whnf)))|(refine y7 1 rfl ?_;((conv=>whnf);repeat(refine⟨rfl,?_⟩;conv=>whnf)))|(refine y4 1 rfl ?_;((conv=>whnf);repeat(refine⟨rfl,?_⟩;conv=>whnf)))))
   refine J5 zo ?_
   refine sW ?_
   rw[hat]
   refine⟨by unfold y5;simp only[List.length_drop,List.length_take,List.length_cons,List.length_nil];omega,?_⟩
   refine sW ?_
   refine zb5 (C++[(k:Int)]) zo ?_ ?_
   ·exact zeG
   refine sW ?_
   refine sB ?_
   refine⟨_,xX (i:=v) zo zo,?_⟩
   refine sW ?_
   refine sI ?_
   refine⟨k+1,zo,zd,?_⟩
   dsimp only
   rw[hR2]
   have hl2:R2.length=NP:=by rw[←hset,List.length_set,hlen]
   refine zj (NP+7) zs (by simp[hl2]) (by exact sQ) ⟨⟨rfl,.refl _,zt _ (yj _)⟩,⟨rfl,.refl _,by simp[zl,zp]⟩,⟨rfl,.refl _,by simp[zl,zq _ (zh A),zp,zg _ (x0 P)]⟩,⟨rfl,rfl,rfl,.refl _,zg _ (zB _ (λl=>by simp[ze,Pure]) A)⟩,⟨rfl,rfl,rfl,.refl _,zg _ (x0 P)⟩,⟨rfl,.refl _,by simp[zl,zp]⟩,⟨rfl,rfl,rfl,zk ?_,ur (by rw[←hset,List.length_set];omega)⟩,by rw[←hset];exact X6 zjV⟩
   rw[←hset]
   exact(Xc zo zo (C++[(k:Int)]) zs)
  ·have q0:k=N:=by have:¬k<N:=sO
                   omega
   subst q0
   refine⟨(),trivial,zj 7 zs rfl (by exact sQ) ⟨⟨rfl,.refl _,zt _ (yj _)⟩,⟨rfl,.refl _,by simp[zl,zp]⟩,⟨rfl,.refl _,by simp[zl,zq _ (zh A),zp,zg _ (x0 P)]⟩,⟨rfl,rfl,rfl,.refl _,zg _ (zB _ (λl=>by simp[ze,Pure]) A)⟩,⟨rfl,rfl,rfl,.refl _,zg _ (x0 P)⟩,⟨rfl,.refl _,by simp[zl,zp]⟩,⟨rfl,rfl,rfl,Jm (c:=zfN) (λi hi=>by simp[Yy]) (λi hi=>?_),zg _ (ZO _)⟩,zeF _⟩⟩
   show(yR 1 zfN (vZ A P k))[i]? = _
   exact YT hi
 ·intro _ _
  refine sW ?_
  refine⟨zo,?_⟩
  rw[s2]
  refine sI ?_
  refine sR ?_
  refine zE (wA (yP 5 0 1 zs rfl rfl) (wA (yP 5 1 1 zs rfl rfl) (wA (yP 5 2 1 zs rfl rfl) (yP 5 3 1 zs rfl rfl)))) ?_
  refine zZ [1,2,5,6,7,8,76] (λk:Nat=>[(77,.sc (.int .i64 k))]) (λk=>[.row true (yS f),.row true [.sc (.slice none 0 0),.sc (.slice none 0 0),.sc (.slice none 0 0),.sc (.slice none 0 0),.sc (.slice none 0 0)],.row false [zw A,.xj 3 (xz P)],.vec false A0.length 1 (zI A),.vec false P.length 3 (xz P),.row true [.own 7 (stE A P f k).length 0 (stE A P f k).length,.own 8 k 0 k,.own 9 k 0 k,.own 10 k 0 k,.sc (.slice none 0 0)],.vec true 0 1 ((vZ A P N).map λl=>[zw l]),.vec true (stE A P f k).length 1 (zI (stE A P f k)),.vec true k 1 (vd (zgS A P k)),.vec true k 1 (zbV (leE A true k)),.vec true k 1 (zbV (leE A false k))]) (λk=>k≤N) (λk=>N-k) 0 ?_
  refine sW ?_
  refine⟨zo,by exact sK,rfl,?_⟩
  rintro k hk
  have hsl:=zuf A P f k
  refine sW ?_
  refine sR ?_
  refine sS (λq0=>?_) λq0=>?_
  ·have q0:k<N:=sO
   have hH:=Q8 A P hI k f hwp hTf
   have eS:=zpw A P f k
   have hO:=zsk A P hA60 k
   have hOl:k/2^A.length<NP:=by rw[←h2P];exact zmC (by rw[h2N];exact q0)
   have hrow:=zk9 (A:=A) (P:=P) (s:=k) (by rw[h2N];exact q0)
   rw[h2N] at hrow
   have eN:=zoQ A P k
   rw[←h2P] at hOl
   have eT:=zj6 A true k
   have eF:=zj6 A false k
   have hbT:=zmG A P hA60 hI.atoms k true
   have hbF:=zmG A P hA60 hI.atoms k false
   have hnl:(U9 A P (A.length+P.length) k).length≤1024:=by have h:(U9 A P (A.length+P.length) k).length≤2^(A.length+P.length):=ZG _ _;rw[h2N] at h;exact Nat.le_trans h hn2
   generalize U9 A P (A.length+P.length) k=R at *
   generalize xr A k true A.length=xT at *
   generalize xr A k false A.length=xF at *
   generalize k/2^A.length=v at *
   have hCl:=QL R zo
   refine sC hH ?_
   cases r:yh (XF A P k) f
   ·rw[r,if_neg zc] at eS
    refine sW ?_
    refine sC hO ?_
    refine sB ?_
    refine⟨_,zjL (i:=v) zo (by simpa using hOl) hrow,?_⟩
    refine sW ?_
    refine sE (vq hCl (by simp[ze,Pure,zh]) (d:=.own 11 1 0 R.length) [11] rfl rfl (by simp[zf.yy,yG,D.yy];rfl)) ?_
    refine sJ ?_
    refine sC hbT ?_
    refine sJ ?_
    refine sC hbF ?_
    refine sJ ?_
    refine sI ?_
    refine⟨k+1,zo,zd,?_⟩
    dsimp only
    rw[eS,eN,eT,eF]
    try rw[show(stE A P f k++[(k:Int)]).length=(stE A P f k).length+1 by simp]
    (refine zj 11 zs rfl ?_ ?_<;>(repeat' (first|exact trivial|exact rfl|exact ya.refl _|exact zP.refl _|exact zJ.refl _|refine And.intro ?_ ?_|(simp[zp,zl,zD,-List.map_take,-List.map_drop];done))))
    all_goals
     first|exact zt _ (yj _)|exact zq _ (zh _)|exact zq _ hmd|exact zg _ (ZO _)|exact zg _ (YV _)|exact zg _ (ui _)|exact zg _ (zB _ (λl=>by simp[ze,Pure]) _)|exact zk (Wo zs)|exact Xl zs rfl rfl rfl|exact zk (xB _ _)|skip
   ·rw[r,if_pos rfl] at eS
    refine sW ?_
    refine sJ ?_
    refine sC hO ?_
    refine sB ?_
    refine⟨_,zjL (i:=v) zo (by simpa using hOl) hrow,?_⟩
    refine sW ?_
    refine sE (vq hCl (by simp[ze,Pure,zh]) (d:=.own 12 1 0 R.length) [12] rfl rfl (by simp[zf.yy,yG,D.yy];rfl)) ?_
    refine sJ ?_
    refine sC hbT ?_
    refine sJ ?_
    refine sC hbF ?_
    refine sJ ?_
    refine sI ?_
    refine⟨k+1,zo,zd,?_⟩
    dsimp only
    rw[eS,eN,eT,eF]
    try rw[show(stE A P f k++[(k:Int)]).length=(stE A P f k).length+1 by simp]
    (refine zj 11 zs rfl ?_ ?_<;>(repeat' (first|exact trivial|exact rfl|exact ya.refl _|exact zP.refl _|exact zJ.refl _|refine And.intro ?_ ?_|(simp[zp,zl,zD,-List.map_take,-List.map_drop];done))))
    all_goals
     first|exact zt _ (yj _)|exact zq _ (zh _)|exact zq _ hmd|exact zg _ (ZO _)|exact zg _ (YV _)|exact zg _ (ui _)|exact zg _ (zB _ (λl=>by simp[ze,Pure]) _)|exact zk (Wo zs)|exact Xl zs rfl rfl rfl|exact zk (xB _ _)|skip
  ·have q0:k=N:=by have:¬k<N:=sO
                   omega
   obtain rfl:N=k:=q0.symm
   refine sR ?_
   refine zE (yP 5 4 1 zs rfl rfl) ?_
   refine zZ [2,5,6,7,122,123] (λk:Nat=>[(124,.sc (.int .i64 k))]) (λk=>[.row true (yS f),.row true [.sc (.slice none 0 0),.sc (.slice none 0 0),.sc (.slice none 0 0),.sc (.slice none 0 0),.sc (.slice none 0 0)],.row false [zw A,.xj 3 (xz P)],.vec false A0.length 1 (zI A),.vec false P.length 3 (xz P),.row true [.own 7 (stE A P f N).length 0 (stE A P f N).length,.own 8 N 0 N,.own 9 N 0 N,.own 10 N 0 N,.own 11 (vT A P (A.length+P.length) k).length 0 (vT A P (A.length+P.length) k).length],.vec true 0 1 ((vZ A P N).map λl=>[zw l]),.vec true (stE A P f N).length 1 (zI (stE A P f N)),.vec true N 1 (vd (zgS A P N)),.vec true N 1 (zbV (leE A true N)),.vec true N 1 (zbV (leE A false N)),.vec true (vT A P (A.length+P.length) k).length 1 (vd (vT A P (A.length+P.length) k))]) (λk=>k≤P.length) (λk=>P.length-k) 0 ?_
   refine sW ?_
   rw[Wl]
   refine⟨zo,by exact sK,rfl,?_⟩
   rintro k hk
   have hfl:=QM A P (A.length+P.length) k
   refine sW ?_
   refine sR ?_
   refine sS (λq0=>?_) λq0=>?_
   ·have q0:k<P.length:=sO
    have hg:=zgg q0
    obtain⟨hw,hk7⟩:=hI.wf _ hg
    have hTg:=hI.told _ hg
    have eFa:=zjY A P (A.length+P.length) q0
    have hsE:zj2 A P (A.length+P.length) (P.getD k default)=vu (Zn A P (P.getD k default)) N:=by unfold zj2;rw[h2N]
    refine sL (ziA (k:=k) zo q0) ?_
    generalize P.getD k default=g at *
    refine sS (λg7=>?_) λg7=>?_
    ·have g7:g.kind=7:=by simpa using g7
     rw[if_pos g7] at eFa
     refine sW ?_
     refine sI ?_
     refine⟨k+1,zo,zd,?_⟩
     dsimp only
     rw[eFa]
     (refine zj 12 zs rfl ?_ ?_<;>(repeat' (first|exact trivial|exact rfl|exact ya.refl _|exact zP.refl _|exact zJ.refl _|refine And.intro ?_ ?_|(simp[zp,zl,zD,-List.map_take,-List.map_drop];done))))
     all_goals
      first|exact zt _ (yj _)|exact zq _ (zh _)|exact zq _ hmd|exact zg _ (ZO _)|exact zg _ (YV _)|exact zg _ (ui _)|exact zg _ (zB _ (λl=>by simp[ze,Pure]) _)|exact zk (Wo zs)|exact Xl zs rfl rfl rfl|exact zk (xB _ _)|skip
    ·have g7:¬g.kind=7:=by simpa using g7
     rw[if_neg g7,hsE] at eFa
     have hFa:=λs=>zsS A P hI s g hw hTg zo
     refine⟨zo,?_⟩
     rw[s2]
     refine sI ?_
     refine zE (y8 14 1 zs rfl) ?_
     refine zZ [2,5,6,7,13,122,123,124,132] (λs:Nat=>[(14,.own 13 (vu (Zn A P g) s).length 0 (vu (Zn A P g) s).length),(133,.sc (.int .i64 s))]) (λs=>[.row true (yS f),.row true [.sc (.slice none 0 0),.sc (.slice none 0 0),.sc (.slice none 0 0),.sc (.slice none 0 0),.sc (.slice none 0 0)],.row false [zw A,.xj 3 (xz P)],.vec false A0.length 1 (zI A),.vec false P.length 3 (xz P),.row true [.own 7 (stE A P f N).length 0 (stE A P f N).length,.own 8 N 0 N,.own 9 N 0 N,.own 10 N 0 N,.own 11 (vT A P (A.length+P.length) k).length 0 (vT A P (A.length+P.length) k).length],.vec true 0 1 ((vZ A P N).map λl=>[zw l]),.vec true (stE A P f N).length 1 (zI (stE A P f N)),.vec true N 1 (vd (zgS A P N)),.vec true N 1 (zbV (leE A true N)),.vec true N 1 (zbV (leE A false N)),.vec true (vT A P (A.length+P.length) k).length 1 (vd (vT A P (A.length+P.length) k)),.row true (yS g),.vec true (vu (Zn A P g) s).length 1 (zI (vu (Zn A P g) s))]) (λs=>s≤N) (λs=>N-s) 0 ?_
     refine sW ?_
     refine⟨zo,by exact sK,rfl,?_⟩
     rintro s hs
     have hsl2:=ZG (Zn A P g) s
     refine sW ?_
     refine sR ?_
     refine sS (λq1=>?_) λq1=>?_
     ·have q1:s<N:=sO
      have eG:=Qo (Zn A P g) s
      refine sC (hFa s) ?_
      cases r:Zn A P g s
      ·rw[r,if_neg zc] at eG
       refine sW ?_
       refine sI ?_
       refine⟨s+1,zo,zd,?_⟩
       dsimp only
       rw[eG]
       exact zC (by exact sK) rfl
      ·rw[r,if_pos rfl] at eG
       refine sW ?_
       refine sJ ?_
       refine sI ?_
       refine⟨s+1,zo,zd,?_⟩
       dsimp only
       rw[eG]
       rw[show(vu (Zn A P g) s++[(s:Int)]).length=(vu (Zn A P g) s).length+1 by simp]
       (refine zj 14 zs rfl ?_ ?_<;>(repeat' (first|exact trivial|exact rfl|exact ya.refl _|exact zP.refl _|exact zJ.refl _|refine And.intro ?_ ?_|(simp[zp,zl,zD,-List.map_take,-List.map_drop];done))))
       all_goals
        first|exact zt _ (yj _)|exact zq _ (zh _)|exact zq _ hmd|exact zg _ (ZO _)|exact zg _ (YV _)|exact zg _ (ui _)|exact zg _ (zB _ (λl=>by simp[ze,Pure]) _)|exact zk (Wo zs)|exact Xl zs rfl rfl rfl|exact zk (xB _ _)|skip
     ·have q1:s=N:=by have:¬s<N:=sO
                      omega
      obtain rfl:N=s:=q1.symm
      refine sJ ?_
      refine sI ?_
      refine⟨k+1,zo,zd,?_⟩
      dsimp only
      rw[eFa]
      rw[show(vT A P (A.length+P.length) k++[vu (Zn A P g) N]).length=(vT A P (A.length+P.length) k).length+1 by simp]
      (refine zj 12 zs rfl ?_ ?_<;>(repeat' (first|exact trivial|exact rfl|exact ya.refl _|exact zP.refl _|exact zJ.refl _|refine And.intro ?_ ?_|(simp[zp,zl,zD,-List.map_take,-List.map_drop];done))))
      all_goals
       first|exact zt _ (yj _)|exact zq _ (zh _)|exact zq _ hmd|exact zg _ (ZO _)|exact zg _ (YV _)|exact zg _ (ui _)|exact zg _ (zB _ (λl=>by simp[ze,Pure]) _)|exact zk (Wo zs)|exact Xl zs rfl rfl rfl|exact zk (xB _ _)|skip
   ·have q0:k=P.length:=by have:¬k<P.length:=sO
                           omega
    subst q0
    have hE:=ztl A P f
    rw[h2N] at hE
    rw[hE]
    refine .yI _ _ (.cons _ _ _ _ (.agg _ _ (.cons _ _ _ _ (.own _ _ _ _ _ _ _ _ rfl ?_) (.cons _ _ _ _ (.own _ _ _ _ _ _ _ _ rfl ?_) (.cons _ _ _ _ (.own _ _ _ _ _ _ _ _ rfl ?_) (.cons _ _ _ _ (.own _ _ _ _ _ _ _ _ rfl ?_) (.cons _ _ _ _ (.own _ _ _ _ _ _ _ _ rfl ?_) .nil)))))) (.cons _ _ _ _ (.refl _) .nil))
    ·exact Xm (by simp[zI])
    ·exact Xm zs
    ·exact Xm zs
    ·exact Xm zs
    ·exact Xm zs
end
section
open Go.RowKit
theorem zdq {p:Nat→Bool} {n:Nat}:xv (vu p n) n=true:=xN λx hx=>by
 obtain⟨k,hk,rfl⟩:=List.mem_map.1 hx
 have:=List.mem_range.1 (List.mem_filter.1 hk).1
 omega
theorem U8 (A:List Int) (P:List Tree) (f:Tree):(qP A P f).next.length=2^(A.length+P.length):=by simp[qP]
theorem zq2 {A:List Int} {P:List Tree} (h:A.length+P.length≤10) (f:Tree):(qP A P f).xc=0:=by
 have h2:=Wm h
 have hn:=U8 A P f
 have hf:(qP A P f).fair.length≤P.length:=QM _ _ _ _
 unfold z7.xc
 rw[if_neg zo,if_neg ?_,if_neg ?_,if_neg ?_]
 ·rw[Bool.not_eq_true,List.any_eq_false]
  intro l hl
  obtain⟨g,_,rfl⟩:=List.mem_map.1 hl
  rw[hn,show xv (zj2 A P (A.length+P.length) g) (2^(A.length+P.length))=true from zdq]
  decide
 ·rw[Bool.not_eq_true,List.any_eq_false]
  intro l hl
  obtain⟨s,_,rfl⟩:=List.mem_map.1 hl
  rw[hn,show xv (U9 A P (A.length+P.length) s) (2^(A.length+P.length))=true from zdq]
  decide
 ·rw[hn]
  simp only[qP,List.length_map,List.length_range,ne_eq,not_true_eq_false,false_or]
  rw[zdq]
  decide
theorem zbt (A:List Int) (s:Nat) (is:Bool):∀k,0≤xr A s is k∧xr A s is k<18446744073709551616
 | 0=>by simp[xr]
 | k+1=>by
  rw[xr]
  split
  ·have e:vj .or .u64 (xr A s is k) (2^(A.getD k 0).toNat)=(((BitVec.ofInt 64 (xr A s is k) ||| BitVec.ofInt 64 (2^(A.getD k 0).toNat)).toNat:Nat):Int):=UH _
   rw[e]
   have:=(BitVec.ofInt 64 (xr A s is k) ||| BitVec.ofInt 64 (2^(A.getD k 0).toNat)).isLt
   omega
  ·exact zbt A s is k
theorem znL {A:List Int} {P:List Tree} (h:A.length+P.length≤10) (f:Tree):(qP A P f).Fits∧(qP A P f).start.length≤1048576∧∀l∈(qP A P f).next,l.length≤1048576:=by
 have h2:=Wm h
 have s1:(qP A P f).start.length≤2^(A.length+P.length):=ZG _ _
 have s2:∀l∈(qP A P f).next,l.length≤2^(A.length+P.length):=λl hl=>by
  obtain⟨s,_,rfl⟩:=List.mem_map.1 hl
  exact ZG _ _
 have s3:∀l∈(qP A P f).fair,l.length≤2^(A.length+P.length):=λl hl=>by
  obtain⟨s,_,rfl⟩:=List.mem_map.1 hl
  exact ZG _ _
 have hf:(qP A P f).fair.length≤P.length:=QM _ _ _ _
 have hn:=U8 A P f
 have hm:(qP A P f).YJ.length=2^(A.length+P.length):=by simp[qP]
 have hm2:(qP A P f).WA.length=2^(A.length+P.length):=by simp[qP]
 exact⟨⟨zo,zo,zo,zo,zo,λl hl=>by have:=s2 l hl;omega,λl hl=>by have:=s3 l hl;omega⟩,zo,λl hl=>by have:=s2 l hl;omega⟩
noncomputable def qO (t:Tree):Int:=if (Zs (xS 4 t) (z1 (xS 4 t))).2=0 then if 10<(YC (zX (z1 (xS 4 t)))).length+(xR [] (partsOf (z1 (xS 4 t)))).length then 2 else 0 else (Zs (xS 4 t) (z1 (xS 4 t))).2
noncomputable def vU (t:Tree):z7:=if qO t=0 then qP (YC (zX (z1 (xS 4 t)))) (xR [] (partsOf (z1 (xS 4 t)))) (z1 (xS 4 t)) else zq3
theorem zm3 (t:Tree):zfX (xS 4 t)=.yI [Vl (vU t),.sc (.int .i64 (qO t))]:=by
 unfold zfX vU qO zuX
 by_cases h:(Zs (xS 4 t) (z1 (xS 4 t))).2=0
 ·simp only[if_pos h]
  by_cases q:10<(YC (zX (z1 (xS 4 t)))).length+(xR [] (partsOf (z1 (xS 4 t)))).length
  ·simp only[if_pos q]
   rw[if_neg zc];rfl
  ·simp only[if_neg q]
   rfl
 ·simp only[if_neg h]
theorem ziO {t:Tree} (h:qO t=0):(YC (zX (z1 (xS 4 t)))).length+(xR [] (partsOf (z1 (xS 4 t)))).length≤10:=by
 unfold qO at h
 split at h
 ·split at h
  ·exact absurd h zc
  ·omega
 ·rename_i q;exact absurd h q
theorem zmx {t:Tree} (h:qO t=0):vU t=qP (YC (zX (z1 (xS 4 t)))) (xR [] (partsOf (z1 (xS 4 t)))) (z1 (xS 4 t)):=if_pos h
theorem J6 {W:zK} (hW:W.Fits) (hc:W.xc=0) (s1:W.start.length≤1048576) (r1:∀l∈W.next,l.length≤1048576) {t:Tree} (h:qO t=0):Ui W (vU t):=by
 have hf:=ziO h
 rw[zmx h]
 obtain⟨h1,h2,h3⟩:=znL hf (z1 (xS 4 t))
 exact⟨⟨hW,h1,hc,zq2 hf _⟩,s1,h2,r1,h3⟩
end
section
open Go.RowKit
def zc5 (x n:Int):Bool:=(BitVec.ofInt 64 x).getLsbD n.toNat
def V3 (w:Nat→Int) (k n:Int) (h:List (Nat→Prop)) (i:Nat):Prop :=
 if k=1 then True else if k=2 then False else if k=3 then zc5 (w i) n=true else if k=4 then ¬h.getD 0 (λ_=>False) i
 else if k=5 then h.getD 0 (λ_=>False) i∧h.getD 1 (λ_=>False) i else if k=6 then h.getD 0 (λ_=>False) i∨h.getD 1 (λ_=>False) i
 else if k=7 then h.getD 0 (λ_=>False) (i+1)
 else if k=8 then ∃j,i≤j∧h.getD 1 (λ_=>False) j∧∀m,i≤m→m<j→h.getD 0 (λ_=>False) m
 else if k=9 then ∀j,i≤j→h.getD 1 (λ_=>False) j∨∃m,i≤m∧m<j∧h.getD 0 (λ_=>False) m
 else if k=10 then ∃j,i≤j∧h.getD 0 (λ_=>False) j else if k=11 then ∀j,i≤j→h.getD 0 (λ_=>False) j else False
mutual
def xJ (w:Nat→Int):Tree→Nat→Prop
 | .node k n ks=>V3 w k n (zrC w ks)
def zrC (w:Nat→Int):List Tree→List (Nat→Prop)
 | []=>[]
 | t::r=>xJ w t::zrC w r
end
theorem zj5 (w:Nat→Int):∀l,zrC w l=l.map (xJ w)
 | []=>by rw[zrC];rfl
 | t::r=>by rw[zrC,zj5 w r,List.map_cons]
theorem vY (w:Nat→Int) (t:Tree) (i:Nat):xJ w t i↔V3 w t.kind t.num (t.kids.map (xJ w)) i:=by
 cases t;rw[xJ,zj5];rfl
theorem uZ (w:Nat→Int) {t:Tree} {j:Nat} (h:j<t.width):(t.kids.map (xJ w)).getD j (λ_=>False)=xJ w (t.xw j):=by
 rw[List.getD_eq_getElem?_getD,List.getElem?_map,kid_get? h]
 rfl
section
variable {w:Nat→Int} {t:Tree} {i:Nat}
theorem zxc (h:t.kind=1):xJ w t i:=by rw[vY,V3,if_pos h];trivial
theorem zwD (h:t.kind=2):¬xJ w t i:=by rw[vY,V3,h];simp
theorem znn (h:t.kind=3):xJ w t i↔zc5 (w i) t.num=true:=by rw[vY,V3,h];simp
theorem zp9 (h:t.kind=4) (hw:t.width=1):xJ w t i↔¬xJ w (t.xw 0) i:=by rw[vY,V3,h,uZ w zo];simp
theorem sat5 (h:t.kind=5) (hw:t.width=2):xJ w t i↔xJ w (t.xw 0) i∧xJ w (t.xw 1) i:=by rw[vY,V3,h,uZ w zo,uZ w zo];simp
theorem zxn (h:t.kind=6) (hw:t.width=2):xJ w t i↔xJ w (t.xw 0) i∨xJ w (t.xw 1) i:=by rw[vY,V3,h,uZ w zo,uZ w zo];simp
theorem sat7 (h:t.kind=7) (hw:t.width=1):xJ w t i↔xJ w (t.xw 0) (i+1):=by rw[vY,V3,h,uZ w zo];simp
theorem zpH (h:t.kind=8) (hw:t.width=2):xJ w t i↔∃j,i≤j∧xJ w (t.xw 1) j∧∀m,i≤m→m<j→xJ w (t.xw 0) m:=by rw[vY,V3,h,uZ w zo,uZ w zo];simp
theorem ztn (h:t.kind=9) (hw:t.width=2):xJ w t i↔∀j,i≤j→xJ w (t.xw 1) j∨∃m,i≤m∧m<j∧xJ w (t.xw 0) m:=by rw[vY,V3,h,uZ w zo,uZ w zo];simp
theorem zvq (h:t.kind=10) (hw:t.width=1):xJ w t i↔∃j,i≤j∧xJ w (t.xw 0) j:=by rw[vY,V3,h,uZ w zo];simp
theorem zva (h:t.kind=11) (hw:t.width=1):xJ w t i↔∀j,i≤j→xJ w (t.xw 0) j:=by rw[vY,V3,h,uZ w zo];simp
end
theorem zd0 {p q:Nat→Prop} {i:Nat}:(∃j,i≤j∧q j∧∀m,i≤m→m<j→p m)↔q i∨(p i∧∃j,i+1≤j∧q j∧∀m,i+1≤m→m<j→p m):=by
 constructor
 ·rintro⟨j,h1,h2,h3⟩
  by_cases e:j=i
  ·subst e;exact .inl h2
  ·exact .inr ⟨h3 i (Nat.le_refl _) zo,j,zo,h2,λm a b=>h3 m zo b⟩
 ·rintro(h|⟨h,j,h1,h2,h3⟩)
  ·exact⟨i,Nat.le_refl _,h,λm a b=>zo⟩
  ·exact⟨j,zo,h2,λm a b=>by by_cases e:m=i;subst e;exact h;exact h3 m zo b⟩
theorem Vc {p q:Nat→Prop} {i:Nat}:(∀j,i≤j→q j∨∃m,i≤m∧m<j∧p m)↔q i∧(p i∨∀j,i+1≤j→q j∨∃m,i+1≤m∧m<j∧p m):=by
 constructor
 ·intro h
  refine⟨(h i (Nat.le_refl _)).resolve_right λ⟨m,a,b,_⟩=>zo,?_⟩
  by_cases hp:p i
  ·exact .inl hp
  ·refine .inr λj hj=>(h j zo).imp_right λ⟨m,a,b,c⟩=>⟨m,?_,b,c⟩
   by_cases e:m=i
   ·subst e;exact absurd c hp
   ·omega
 ·rintro⟨h1,h2⟩ j hj
  by_cases e:j=i
  ·subst e;exact .inl h1
  ·rcases h2 with h|h
   ·exact .inr ⟨i,Nat.le_refl _,zo,h⟩
   ·exact(h j zo).imp_right λ⟨m,a,b,c⟩=>⟨m,zo,b,c⟩
theorem zmN (w:Nat→Int) (k:Int) (a b:Tree) (i:Nat):xJ w (uS k a b) i↔V3 w k 0 [xJ w a,xJ w b] i:=by rw[vY];rfl
theorem zoJ (w:Nat→Int):∀t:Tree,t.wf zS→∀i,xJ w (z1 t) i↔xJ w t i:=by
 intro t
 induction t using Tree.ind with
 | h t ih =>
  intro hw i
  have har:=qe ((wY _ _).1 hw).1
  have hk:=λj hj=>ih j hj (wV hw hj)
  rw[Uu t λh=>u4 hw zo]
  by_cases h10:t.kind=10
  ·have hw1:t.width=1:=zo
   rw[if_pos h10,zmN,zvq h10 hw1]
   simp only[V3]
   simp[hk 0 zo,zxc (w:=w) (t:=xD 1 0) rfl]
  ·rw[if_neg h10]
   by_cases h11:t.kind=11
   ·have hw1:t.width=1:=zo
    rw[if_pos h11,zmN,zva h11 hw1]
    simp only[V3]
    simp[hk 0 zo,zwD (w:=w) (t:=xD 2 0) rfl]
   ·rw[if_neg h11,vY,vY w t]
    show V3 w t.kind t.num ((t.kids.map z1).map (xJ w)) i↔_
    rw[List.map_map]
    have:t.kids.map (xJ w∘z1)=t.kids.map (xJ w):=by
     refine List.map_congr_left λu hu=>?_
     obtain⟨j,hj,rfl⟩:=List.mem_iff_getElem.1 hu
     rw[←Tree.uJ hj]
     exact funext λi=>propext (hk j hj i)
    rw[this]
theorem zeH (A:List Int) (s:Nat) (is:Bool) (m:Nat) (hA:∀x∈A,0≤x∧x≤63):∀k,k≤A.length→((BitVec.ofInt 64 (xr A s is k)).getLsbD m=true↔∃i,i<k∧s.testBit i=is∧(A.getD i 0).toNat=m)
 | 0,_=>by simp[xr]
 | k+1,hk=>by
  have ih:=zeH A s is m hA k zo
  have hx:=hA (A.getD k 0) (by rw[List.getD_eq_getElem?_getD,List.getElem?_eq_getElem (show k<A.length by omega)];simp)
  have hor:∀a b:Int,(BitVec.ofInt 64 (vj .or .u64 a b))=BitVec.ofInt 64 a ||| BitVec.ofInt 64 b:=λa b=>by
   show BitVec.ofInt 64 (IntKind.wrap .u64 ((BitVec.ofInt 64 a ||| BitVec.ofInt 64 b).toNat:Int))=_
   rw[UH]
   generalize BitVec.ofInt 64 a ||| BitVec.ofInt 64 b=y
   have:=y.isLt
   apply BitVec.eq_of_toNat_eq
   rw[BitVec.toNat_ofInt]
   omega
  have hone:(BitVec.ofInt 64 (2^(A.getD k 0).toNat)).getLsbD m=true↔(A.getD k 0).toNat=m:=by
   have e:BitVec.ofInt 64 (2^(A.getD k 0).toNat)=BitVec.ofNat 64 (2^(A.getD k 0).toNat):=by
    rw[←BitVec.ofInt_natCast,Int.natCast_pow];rfl
   rw[e,BitVec.getLsbD_ofNat,Nat.testBit_two_pow,Bool.and_eq_true,decide_eq_true_eq,decide_eq_true_eq]
   omega
  rw[xr]
  by_cases q:s.testBit k=is
  ·rw[if_pos (by simpa using q),hor,BitVec.getLsbD_or,Bool.or_eq_true,ih,hone]
   constructor
   ·rintro(⟨i,a,b,c⟩|h)
    ·exact⟨i,zo,b,c⟩
    ·exact⟨k,zo,q,h⟩
   ·rintro⟨i,a,b,c⟩
    by_cases e:i=k
    ·subst e;exact .inr c
    ·exact .inl ⟨i,zo,b,c⟩
  ·rw[if_neg (by simpa using q),ih]
   constructor
   ·rintro⟨i,a,b,c⟩;exact⟨i,zo,b,c⟩
   ·rintro⟨i,a,b,c⟩
    by_cases e:i=k
    ·subst e;exact absurd b q
    ·exact⟨i,zo,b,c⟩
theorem zkc {A:List Int} {P:List Tree} (hA:∀x∈A,0≤x∧x≤63) (f:Tree) {s:Nat} (hs:s<2^(A.length+P.length)) (x:Int) :
  Jo (qP A P f) s x=true↔∀i,i<A.length→zc5 x (A.getD i 0)=s.testBit i:=by
 have e1:(qP A P f).YJ.getD s 0=xr A s true A.length:=by
  show((List.range _).map λs=>xr A s true A.length).getD s 0=_
  rw[List.getD_eq_getElem?_getD,List.getElem?_map,List.getElem?_range hs];rfl
 have e2:(qP A P f).WA.getD s 0=xr A s false A.length:=by
  show((List.range _).map λs=>xr A s false A.length).getD s 0=_
  rw[List.getD_eq_getElem?_getD,List.getElem?_map,List.getElem?_range hs];rfl
 have hT:=λm=>zeH A s true m hA A.length (Nat.le_refl _)
 have hF:=λm=>zeH A s false m hA A.length (Nat.le_refl _)
 have hr:=zbt A s true A.length
 unfold Jo
 rw[e1,e2,znq hr]
 rw[Bool.and_eq_true,beq_iff_eq,beq_iff_eq]
 have k1:vj .andNot .u64 (xr A s true A.length) x=0↔∀m,(BitVec.ofInt 64 (xr A s true A.length)).getLsbD m=true→(BitVec.ofInt 64 x).getLsbD m=true:=by
  show IntKind.wrap .u64 ((BitVec.ofInt 64 (xr A s true A.length) &&& ~~~(BitVec.ofInt 64 x)).toNat:Int)=0↔_
  rw[UH]
  constructor
  ·intro h m hm
   have h0:BitVec.ofInt 64 (xr A s true A.length) &&& ~~~(BitVec.ofInt 64 x)=0#64:=BitVec.eq_of_toNat_eq (by simpa using h)
   have:=congrArg (λz:BitVec 64=>z.getLsbD m) h0
   have hlt:=BitVec.lt_of_getLsbD hm
   simp[hm,hlt] at this
   exact this
  ·intro h
   have h0:BitVec.ofInt 64 (xr A s true A.length) &&& ~~~(BitVec.ofInt 64 x)=0#64:=by
    apply BitVec.eq_of_getLsbD_eq
    intro m hm
    have:=h m
    simp[hm]
    exact this
   rw[h0];rfl
 have k2:vj .and .u64 x (xr A s false A.length)=0↔∀m,(BitVec.ofInt 64 (xr A s false A.length)).getLsbD m=true→(BitVec.ofInt 64 x).getLsbD m=false:=by
  show IntKind.wrap .u64 ((BitVec.ofInt 64 x &&& BitVec.ofInt 64 (xr A s false A.length)).toNat:Int)=0↔_
  rw[UH]
  constructor
  ·intro h m hm
   have h0:BitVec.ofInt 64 x &&& BitVec.ofInt 64 (xr A s false A.length)=0#64:=BitVec.eq_of_toNat_eq (by simpa using h)
   have:=congrArg (λz:BitVec 64=>z.getLsbD m) h0
   simp[hm] at this
   exact this
  ·intro h
   have h0:BitVec.ofInt 64 x &&& BitVec.ofInt 64 (xr A s false A.length)=0#64:=by
    apply BitVec.eq_of_getLsbD_eq
    intro m hm
    rw[BitVec.getLsbD_and]
    cases q:(BitVec.ofInt 64 (xr A s false A.length)).getLsbD m
    ·simp
    ·rw[h m q];simp
   rw[h0];rfl
 rw[k1,k2]
 constructor
 ·rintro⟨h1,h2⟩ i hi
  unfold zc5
  cases q:s.testBit i
  ·exact h2 _ ((hF _).2 ⟨i,hi,q,rfl⟩)
  ·exact h1 _ ((hT _).2 ⟨i,hi,q,rfl⟩)
 ·intro h
  refine⟨λm hm=>?_,λm hm=>?_⟩
  ·obtain⟨i,hi,q,rfl⟩:=(hT m).1 hm
   exact(h i hi).trans q
  ·obtain⟨i,hi,q,rfl⟩:=(hF m).1 hm
   exact(h i hi).trans q
end
section
open Go.RowKit
section
variable {c:Tree→Bool} {t:Tree}
theorem hol1 (h:t.kind=1):yh c t=true:=by rw[uF,qh,h];simp
theorem hol2 (h:t.kind=2):yh c t=false:=by rw[uF,qh,h];simp
theorem zt9 (h:t.kind=3∨t.kind=7):yh c t=c t:=by rw[uF,qh];rcases h with h|h<;>rw[h]<;>simp
theorem hol4 (h:t.kind=4) (hw:t.width=1):yh c t=!(yh c (t.xw 0)):=by rw[uF,qh,h,vM c zo];simp
theorem hol5 (h:t.kind=5) (hw:t.width=2):yh c t=(yh c (t.xw 0)&&yh c (t.xw 1)):=by rw[uF,qh,h,vM c zo,vM c zo];simp
theorem hol6 (h:t.kind=6) (hw:t.width=2):yh c t=(yh c (t.xw 0)||yh c (t.xw 1)):=by rw[uF,qh,h,vM c zo,vM c zo];simp
theorem hol8 (h:t.kind=8) (hw:t.width=2):yh c t=(yh c (t.xw 1)||(yh c (t.xw 0)&&c t)):=by rw[uF,qh,h,vM c zo,vM c zo];simp
theorem hol9 (h:t.kind=9) (hw:t.width=2):yh c t=(yh c (t.xw 1)&&(yh c (t.xw 0)||c t)):=by rw[uF,qh,h,vM c zo,vM c zo];simp
end
theorem qI {p:Nat→Bool} {k:Nat} {x:Int}:x∈vu p k↔∃s:Nat,s<k∧p s=true∧x=(s:Int):=by
 unfold vu
 simp only[List.mem_map,List.mem_filter,List.mem_range]
 constructor
 ·rintro⟨s,⟨h1,h2⟩,rfl⟩;exact⟨s,h1,h2,rfl⟩
 ·rintro⟨s,h1,h2,rfl⟩;exact⟨s,⟨h1,h2⟩,rfl⟩
theorem zih {A:List Int} (P:List Tree) {g:Tree} (h:g.num∈A) (h3:g.kind=3):∃k,k<A.length∧A.getD k 0=g.num∧∀s,XF A P s g=s.testBit k:=by
 obtain⟨k,hk,e⟩:=zmY h
 obtain⟨k',e',hk',e2,_⟩:=JI (p:=λa=>g.num==a) (l:=A) zo
 have:k'=k:=zo
 subst this
 refine⟨k',hk,?_,λs=>?_⟩
 ·rw[List.getD_eq_getElem?_getD,List.getElem?_eq_getElem hk]
  exact(beq_iff_eq.1 e2).symm
 ·unfold XF zqq
  rw[if_pos h3,e];rfl
theorem zjc {P:List Tree} (A:List Int) {g:Tree} (h:g∈P) (h3:g.kind≠3):∃k,k<P.length∧P.getD k default=g∧∀s,XF A P s g=s.testBit (A.length+k):=by
 obtain⟨k,hk,e⟩:=ziJ h
 obtain⟨k',e',hk',e2,_⟩:=JI (p:=U3 g) (l:=P) zo
 have:k'=k:=zo
 subst this
 refine⟨k',hk,?_,λs=>?_⟩
 ·rw[List.getD_eq_getElem?_getD,List.getElem?_eq_getElem hk]
  exact(zcd.1 e2).symm
 ·unfold XF zqq
  rw[if_neg h3,e];rfl
structure zqc (A:List Int) (P:List Tree) (w:Nat→Int) (r:Nat→Nat):Prop where
 zui:∀i k,k<A.length→zc5 (w i) (A.getD k 0)=(r i).testBit k
 za6:∀i p,p<P.length→hK A P (r (i+1)) p=(r i).testBit (A.length+p)
 fair:∀g∈P,g.kind≠7→∀i,∃j,i≤j∧Zn A P g (r j)=true
theorem zqc.zlv {A:List Int} {P:List Tree} {w:Nat→Int} {r:Nat→Nat} (h:zqc A P w r) {g:Tree} (hg:g∈P) (h3:g.kind≠3) (i:Nat):XF A P (r i) g=yh (XF A P (r (i+1))) (qM g):=by
 obtain⟨k,hk,e,hc⟩:=zjc A hg h3
 rw[hc,←h.za6 i k hk]
 unfold hK
 rw[e]
theorem zoB {A:List Int} {P:List Tree} {w:Nat→Int} {r:Nat→Nat} (h:zqc A P w r):∀t:Tree,t.wf vv→Told A P t→∀i,yh (XF A P (r i)) t=true↔xJ w t i:=by
 intro t
 induction t using Tree.ind with
 | h t ih =>
  intro hw hT
  have hk:=zac hw
  have hwk:∀j,j<t.width→(t.xw j).wf vv:=λj hj=>((wY _ _).1 hw).2 _ (UT hj)
  have ihk:=λj hj=>ih j hj (hwk j hj) (hT.xw hj)
  rcases hk with⟨hk|hk|hk,hwd⟩|⟨hk|hk,hwd⟩|⟨hk|hk|hk|hk,hwd⟩
  ·intro i;rw[hol1 hk];exact⟨λ_=>zxc hk,λ_=>rfl⟩
  ·intro i;rw[hol2 hk];exact⟨λh=>(by cases h),λq=>absurd q (zwD hk)⟩
  ·intro i
   rw[zt9 (.inl hk),znn hk]
   obtain⟨k,k1,k2,k3⟩:=zih P (hT.atom hk) hk
   rw[k3,←h.zui i k k1,k2]
  ·intro i
   rw[hol4 hk hwd,zp9 hk hwd,←ihk 0 zo i]
   cases yh (XF A P (r i)) (t.xw 0)<;>simp
  ·intro i
   rw[zt9 (.inr hk),sat7 hk hwd,h.zlv (hT.part (.inl hk)) zo,←ihk 0 zo (i+1),qM,if_pos hk]
  ·intro i;rw[hol5 hk hwd,sat5 hk hwd,Bool.and_eq_true,ihk 0 zo,ihk 1 zo]
  ·intro i;rw[hol6 hk hwd,zxn hk hwd,Bool.or_eq_true,ihk 0 zo,ihk 1 zo]
  ·have hP:=hT.part (.inr (.inl hk))
   have hs:∀i,yh (XF A P (r i)) t=true↔xJ w (t.xw 1) i∨(xJ w (t.xw 0) i∧yh (XF A P (r (i+1))) t=true):=λi=>by
    rw[hol8 hk hwd,Bool.or_eq_true,Bool.and_eq_true,ihk 0 zo,ihk 1 zo,h.zlv hP zo,qM,if_neg zo]
   intro i
   rw[zpH hk hwd]
   constructor
   ·intro q
    obtain⟨j,hj,hf⟩:=h.fair t hP zo i
    unfold Zn at hf
    rw[if_pos hk,Bool.or_eq_true,Bool.not_eq_true',ihk 1 zo] at hf
    obtain⟨d,rfl⟩:=Nat.exists_eq_add_of_le hj
    clear hj
    induction d generalizing i with
    | zero =>
     rcases hf with hf|hf
     ·rw[Nat.add_zero] at hf;rw[hf] at q;cases q
     ·exact⟨i,Nat.le_refl _,hf,λm a b=>zo⟩
    | succ d ihd =>
     rcases (hs i).1 q with k|⟨k1,k2⟩
     ·exact⟨i,Nat.le_refl _,k,λm a b=>zo⟩
     ·exact zd0.2 (.inr ⟨k1,ihd (i+1) k2 (by rw[show i+1+d=i+(d+1) by omega];exact hf)⟩)
   ·rintro⟨j,hj,q1,q2⟩
    obtain⟨d,rfl⟩:=Nat.exists_eq_add_of_le hj
    clear hj
    induction d generalizing i with
    | zero=>exact(hs i).2 (.inl q1)
    | succ d ihd=>exact(hs i).2 (.inr ⟨q2 i (Nat.le_refl _) zo,ihd (i+1) (by rw[show i+1+d=i+(d+1) by omega];exact q1) λm a b=>q2 m zo zo⟩)
  ·have hP:=hT.part (.inr (.inr hk))
   have hs:∀i,yh (XF A P (r i)) t=true↔xJ w (t.xw 1) i∧(xJ w (t.xw 0) i∨yh (XF A P (r (i+1))) t=true):=λi=>by
    rw[hol9 hk hwd,Bool.and_eq_true,Bool.or_eq_true,ihk 0 zo,ihk 1 zo,h.zlv hP zo,qM,if_neg zo]
   intro i
   rw[ztn hk hwd]
   constructor
   ·intro q j hj
    obtain⟨d,rfl⟩:=Nat.exists_eq_add_of_le hj
    clear hj
    induction d generalizing i with
    | zero=>exact .inl ((hs i).1 q).1
    | succ d ihd =>
     rcases ((hs i).1 q).2 with k|k
     ·exact .inr ⟨i,Nat.le_refl _,zo,k⟩
     ·rcases ihd (i+1) k with a|⟨m,a,b,e⟩
      ·rw[show i+1+d=i+(d+1) by omega] at a;exact .inl a
      ·exact .inr ⟨m,zo,zo,e⟩
   ·intro q
    obtain⟨j,hj,hf⟩:=h.fair t hP zo i
    unfold Zn at hf
    rw[if_neg zo,Bool.or_eq_true,Bool.not_eq_true',Bool.eq_false_iff,ne_eq,ihk 1 zo] at hf
    obtain⟨d,rfl⟩:=Nat.exists_eq_add_of_le hj
    clear hj
    induction d generalizing i with
    | zero =>
     rcases hf with hf|hf
     ·exact hf
     ·exact absurd (Vc.1 q).1 hf
    | succ d ihd =>
     obtain⟨k1,k2⟩:=Vc.1 q
     refine(hs i).2 ⟨k1,k2.imp_right λk=>?_⟩
     exact ihd (i+1) k (by rw[show i+1+d=i+(d+1) by omega];exact hf)
open Classical in
noncomputable def zrt (A:List Int) (P:List Tree) (w:Nat→Int) (i k:Nat):Bool:=if k<A.length then zc5 (w i) (A.getD k 0) else decide (xJ w (qM (P.getD (k-A.length) default)) (i+1))
noncomputable def zb1 (A:List Int) (P:List Tree) (w:Nat→Int) (i:Nat):Nat:=Xr (zrt A P w i) (A.length+P.length)
theorem zcR {A:List Int} {P:List Tree} (w:Nat→Int) {g:Tree} (hg:g∈P) (h3:g.kind≠3) (i:Nat):XF A P (zb1 A P w i) g=true↔xJ w (qM g) (i+1):=by
 obtain⟨k,hk,e,hc⟩:=zjc A hg h3
 rw[hc]
 unfold zb1
 rw[Zy _ _ _ zo]
 unfold zrt
 rw[if_neg zo,Nat.add_sub_cancel_left,e]
 simp only[decide_eq_true_eq]
theorem Ur {A:List Int} {P:List Tree} (w:Nat→Int):∀t:Tree,t.wf vv→Told A P t→∀i,yh (XF A P (zb1 A P w i)) t=true↔xJ w t i:=by
 intro t
 induction t using Tree.ind with
 | h t ih =>
  intro hw hT i
  have hk:=zac hw
  have hwk:∀j,j<t.width→(t.xw j).wf vv:=λj hj=>((wY _ _).1 hw).2 _ (UT hj)
  have ihk:=λj hj=>ih j hj (hwk j hj) (hT.xw hj)
  rcases hk with⟨hk|hk|hk,hwd⟩|⟨hk|hk,hwd⟩|⟨hk|hk|hk|hk,hwd⟩
  ·rw[hol1 hk];exact⟨λ_=>zxc hk,λ_=>rfl⟩
  ·rw[hol2 hk];exact⟨λh=>(by cases h),λq=>absurd q (zwD hk)⟩
  ·rw[zt9 (.inl hk),znn hk]
   obtain⟨k,k1,k2,k3⟩:=zih P (hT.atom hk) hk
   rw[k3]
   unfold zb1
   rw[Zy _ _ _ zo]
   unfold zrt
   rw[if_pos k1,k2]
  ·rw[hol4 hk hwd,zp9 hk hwd,←ihk 0 zo i]
   cases yh (XF A P (zb1 A P w i)) (t.xw 0)<;>simp
  ·rw[zt9 (.inr hk),sat7 hk hwd,zcR w (hT.part (.inl hk)) zo,qM,if_pos hk]
  ·rw[hol5 hk hwd,sat5 hk hwd,Bool.and_eq_true,ihk 0 zo,ihk 1 zo]
  ·rw[hol6 hk hwd,zxn hk hwd,Bool.or_eq_true,ihk 0 zo,ihk 1 zo]
  ·rw[hol8 hk hwd,Bool.or_eq_true,Bool.and_eq_true,ihk 0 zo,ihk 1 zo,zcR w (hT.part (.inr (.inl hk))) zo,qM,if_neg zo,zpH hk hwd,zpH hk hwd]
   exact zd0.symm
  ·rw[hol9 hk hwd,Bool.and_eq_true,Bool.or_eq_true,ihk 0 zo,ihk 1 zo,zcR w (hT.part (.inr (.inr hk))) zo,qM,if_neg zo,ztn hk hwd,ztn hk hwd]
   exact Vc.symm
theorem zty {A:List Int} {P:List Tree} (hI:ziu A P) (w:Nat→Int):zqc A P w (zb1 A P w) where
 zui i k hk:=by
  unfold zb1
  rw[Zy _ _ _ zo]
  unfold zrt
  rw[if_pos hk]
 za6 i p hp:=by
  have hg:P.getD p default∈P:=by rw[List.getD_eq_getElem?_getD,List.getElem?_eq_getElem hp];simp
  obtain⟨hw,hk⟩:=hI.wf _ hg
  have hT:=hI.told _ hg
  have hb:(qM (P.getD p default)).wf vv∧Told A P (qM (P.getD p default)):=by
   unfold qM
   split
   ·have h1:0<(P.getD p default).width:=by have:=zac hw;omega
    exact⟨((wY _ _).1 hw).2 _ (UT h1),hT.xw h1⟩
   ·exact⟨hw,hT⟩
  rw[Bool.eq_iff_iff]
  unfold hK
  rw[Ur w _ hb.1 hb.2]
  unfold zb1
  rw[Zy _ _ _ zo]
  unfold zrt
  rw[if_neg zo,Nat.add_sub_cancel_left]
  simp only[decide_eq_true_eq]
 fair g hg h7 i:=by
  obtain⟨hw,hk⟩:=hI.wf _ hg
  have hT:=hI.told _ hg
  have hwk:∀j,j<g.width→(g.xw j).wf vv:=λj hj=>((wY _ _).1 hw).2 _ (UT hj)
  have hwd:g.width=2:=by have:=zac hw;omega
  have h1:=λj=>Ur (A:=A) (P:=P) w (g.xw 1) (hwk 1 zo) (hT.xw zo) j
  have h0:=λj=>Ur (A:=A) (P:=P) w g hw hT j
  unfold Zn
  by_cases q:xJ w g i
  ·rcases hk with hk|hk|hk
   ·exact absurd hk h7
   ·obtain⟨j,j1,j2,_⟩:=(zpH hk hwd).1 q
    exact⟨j,j1,by rw[if_pos hk,Bool.or_eq_true];exact .inr ((h1 j).2 j2)⟩
   ·exact⟨i,Nat.le_refl _,by rw[if_neg zo,Bool.or_eq_true];exact .inl ((h0 i).2 q)⟩
  ·rcases hk with hk|hk|hk
   ·exact absurd hk h7
   ·refine⟨i,Nat.le_refl _,?_⟩
    rw[if_pos hk,Bool.or_eq_true,Bool.not_eq_true',Bool.eq_false_iff,ne_eq,h0]
    exact .inl q
   ·rw[ztn hk hwd] at q
    obtain⟨j,hj⟩:=Classical.not_forall.1 q
    obtain⟨j1,j2⟩:=Classical.not_imp.1 hj
    refine⟨j,j1,?_⟩
    rw[if_neg zo,Bool.or_eq_true,Bool.not_eq_true',Bool.eq_false_iff,ne_eq,h1]
    exact .inr λk=>j2 (.inl k)
theorem ztO {A:List Int} {P:List Tree} (hI:ziu A P) {f:Tree} (hw:f.wf vv) (hT:Told A P f) (w:Nat→Int) :
  (∃r:Nat→Int,r 0∈(qP A P f).start∧(∀i,r (i+1)∈(qP A P f).next.getD (r i).toNat [])∧(∀i,Jo (qP A P f) (r i).toNat (w i)=true)∧∀l∈(qP A P f).fair,∀i,∃j,i≤j∧r j∈l)↔xJ w f 0:=by
 have hrow:∀s,s<2^(A.length+P.length)→(qP A P f).next.getD s []=U9 A P (A.length+P.length) s:=λs hs=>by
  show((List.range _).map (U9 A P (A.length+P.length))).getD s []=_
  rw[List.getD_eq_getElem?_getD,List.getElem?_map,List.getElem?_range hs];rfl
 constructor
 ·rintro⟨r,h1,h2,h3,h4⟩
  have hr:∀i,∃s:Nat,s<2^(A.length+P.length)∧r i=(s:Int):=by
   intro i
   induction i with
   | zero =>
    obtain⟨s,a,b,e⟩:=qI.1 h1
    exact⟨s,a,e⟩
   | succ i ih =>
    obtain⟨s,a,e⟩:=ih
    have:=h2 i
    rw[e,Int.toNat_natCast,hrow s a] at this
    obtain⟨s',a',_,e'⟩:=qI.1 this
    exact⟨s',a',e'⟩
  have hlt:∀i,(r i).toNat<2^(A.length+P.length):=λi=>by obtain⟨s,a,e⟩:=hr i;omega
  have hN:zqc A P w (λi=>(r i).toNat):=by
   refine⟨λi k hk=>(zkc hI.atoms f (hlt i) (w i)).1 (h3 i) k hk,λi p hp=>?_,λg hg h7 i=>?_⟩
   ·have:=h2 i
    rw[hrow _ (hlt i)] at this
    obtain⟨s',a',b',e'⟩:=qI.1 this
    rw[ziM A P _ _ (hlt i),List.all_eq_true] at b'
    have:=b' p (List.mem_range.2 hp)
    rw[beq_iff_eq] at this
    show hK A P (r (i+1)).toNat p=_
    rw[e',Int.toNat_natCast,this]
   ·have hl:zj2 A P (A.length+P.length) g∈(qP A P f).fair:=by
     show _∈((P.take P.length).filter λg=>g.kind != 7).map (zj2 A P (A.length+P.length))
     rw[List.take_length]
     exact List.mem_map.2 ⟨g,List.mem_filter.2 ⟨hg,by simpa using h7⟩,rfl⟩
    obtain⟨j,j1,j2⟩:=h4 _ hl i
    obtain⟨s,a,b,e⟩:=qI.1 j2
    exact⟨j,j1,by show Zn A P g (r j).toNat=true;rw[e,Int.toNat_natCast];exact b⟩
  refine(zoB hN f hw hT 0).1 ?_
  obtain⟨s,a,b,e⟩:=qI.1 h1
  show yh (XF A P (r 0).toNat) f=true
  rw[e,Int.toNat_natCast];exact b
 ·intro h
  have hN:=zty hI w
  have hlt:∀i,zb1 A P w i<2^(A.length+P.length):=λi=>Wk _ _
  refine⟨λi=>(zb1 A P w i:Int),?_,λi=>?_,λi=>?_,λl hl i=>?_⟩
  ·exact qI.2 ⟨_,hlt 0,(Ur w f hw hT 0).2 h,rfl⟩
  ·show _∈(qP A P f).next.getD ((zb1 A P w i:Nat):Int).toNat []
   rw[Int.toNat_natCast,hrow _ (hlt i)]
   refine qI.2 ⟨_,hlt (i+1),?_,rfl⟩
   rw[ziM A P _ _ (hlt i),List.all_eq_true]
   intro p hp
   rw[beq_iff_eq]
   exact hN.za6 i p (List.mem_range.1 hp)
  ·show Jo _ ((zb1 A P w i:Nat):Int).toNat _=true
   rw[Int.toNat_natCast]
   exact(zkc hI.atoms f (hlt i) (w i)).2 λk hk=>hN.zui i k hk
  ·obtain⟨g,hg,rfl⟩:=List.mem_map.1 (show l∈((P.take P.length).filter λg=>g.kind != 7).map (zj2 A P (A.length+P.length)) from hl)
   rw[List.take_length,List.mem_filter] at hg
   obtain⟨j,j1,j2⟩:=hN.fair g hg.1 (by simpa using hg.2) i
   exact⟨j,j1,qI.2 ⟨_,hlt j,j2,rfl⟩⟩
end
section
open Go.RowKit
open Classical in
noncomputable def uc (W:zK) (A:z7):Bool:=decide (∃v,v<(yW W A).2.length∧Fw (yW W A).2 (wQ W A (yW W A).1) v)
theorem zqW {W:zK} {A:z7} (hb:Ui W A):∃s l,Vk W A (yW W A).1 (yW W A).2 (yY W A).2=.yI [.agg [zw s,zw l],.sc (.bool (uc W A)),.sc (.int .i64 0)]∧(uc W A=false→s=[]∧l=[]):=by
 obtain⟨hN,hg⟩:=XN hb
 have hp:=zvO (F:=wQ W A (yW W A).1) hN.inG
 have hA:uc W A=true↔∃v,v<(yW W A).2.length∧Fw (yW W A).2 (wQ W A (yW W A).1) v:=by unfold uc;simp only[decide_eq_true_eq]
 rw[←hA] at hp
 unfold Vk
 by_cases h:pE (yW W A).2 (wQ W A (yW W A).1)<0
 ·rw[if_pos h]
  have:uc W A=false:=by
   cases e:uc W A
   ·rfl
   ·exact absurd h (hp.2 e)
  exact⟨[],[],by rw[this],λ_=>⟨rfl,rfl⟩⟩
 ·rw[if_neg h,hp.1 h]
  exact⟨_,_,rfl,λq=>by cases q⟩
end
section
open Go.RowKit
def Seg (g:List (List Int)):Nat→List Nat→Nat→Prop
 | u,[],v=>u=v
 | u,x::l,v=>(∃y∈g.getD u [],y.toNat=x)∧Seg g x l v
theorem zb2 {g:List (List Int)}:∀{l m:List Nat} {u v z:Nat},Seg g u l v→Seg g v m z→Seg g u (l++m) z
 | [],m,u,v,z,h,k=>by cases h;exact k
 | x::l,m,u,v,z,h,k=>⟨h.1,zb2 h.2 k⟩
theorem zgW {g:List (List Int)} {u v:Nat} (h:To g u v):∃l,Seg g u l v:=by
 unfold To at h
 induction h with
 | base m=>simp only[List.mem_singleton] at m;subst m;exact⟨[],by simp[Seg]⟩
 | step q m ih =>
  obtain⟨l,hl⟩:=ih
  exact⟨l++[_],zb2 hl ⟨⟨_,m,rfl⟩,rfl⟩⟩
theorem zdT {g:List (List Int)}:∀{l:List Nat} {u v:Nat},Seg g u l v→u≠v→v∈l
 | [],u,v,h,hn=>absurd h hn
 | x::l,u,v,h,hn=>by
  by_cases e:x=v
  ·subst e;simp
  ·exact List.mem_cons_of_mem _ (zdT h.2 e)
def zyr (g:List (List Int)) (π:Nat→Nat):Prop:=∀i,∃y∈g.getD (π i) [],y.toNat=π (i+1)
theorem zpl {g:List (List Int)} {sets:List (Nat→Bool)} {c:Nat} (hn:Uo g c) (h:∀S∈sets,∃d,S d=true∧To g c d∧To g d c) :
  ∃l,l≠[]∧Seg g c l c∧∀S∈sets,∃d∈l,S d=true:=by
 induction sets with
 | nil =>
  obtain⟨x,hx,k⟩:=hn
  obtain⟨l,hl⟩:=zgW k
  exact⟨x.toNat::l,zs,⟨⟨x,hx,rfl⟩,hl⟩,λS hS=>by cases hS⟩
 | cons S r ih =>
  obtain⟨l,l1,l2,l3⟩:=ih λS hS=>h S (List.mem_cons_of_mem _ hS)
  obtain⟨d,d1,d2,d3⟩:=h S zs
  obtain⟨a,ha⟩:=zgW d2
  obtain⟨b,hb⟩:=zgW d3
  refine⟨l++(a++b),by simp[l1],zb2 l2 (zb2 ha hb),λS' hS'=>?_⟩
  rcases List.mem_cons.1 hS' with rfl|hS'
  ·by_cases e:c=d
   ·subst e
    refine⟨c,?_,d1⟩
    cases l with
    | nil=>exact absurd rfl l1
    | cons x l =>
     -- the last of a Vi round is its beginning
     have:∀{l:List Nat} {x v:Nat},Seg g x l v→v∈x::l:=λ{l x v} q=>by
      by_cases e:x=v
      ·subst e;simp
      ·exact List.mem_cons_of_mem _ (zdT q e)
     exact List.mem_append_left _ (this l2.2)
   ·exact⟨d,by simp[zdT ha e],d1⟩
  ·obtain⟨d,q1,q2⟩:=l3 S' hS'
   exact⟨d,by simp[q1],q2⟩
def goS (l:List Nat):Nat × List Nat→Nat × List Nat
 | (_,x::r)=>(x,r)
 | (_,[])=>match l with
  | x::r=>(x,r)
  | []=>(0,[])
def goN (l:List Nat) (s:Nat × List Nat):Nat→Nat × List Nat
 | 0=>s
 | i+1=>goS l (goN l s i)
theorem UW (l:List Nat) (s:Nat × List Nat) (i:Nat):∀j,goN l s (i+j)=goN l (goN l s i) j
 | 0=>rfl
 | j+1=>by show goS l (goN l s (i+j))=_;rw[UW l s i j];rfl
theorem zmL (l:List Nat):∀(r:List Nat) (u:Nat),(goN l (u,r) r.length).2=[]
 | [],u=>rfl
 | x::r,u=>by
  have:goN l (u,x::r) (r.length+1)=goN l (x,r) r.length:=by rw[Nat.add_comm,UW];rfl
  rw[List.length_cons,this];exact zmL l r x
theorem zmD (l:List Nat):∀(r:List Nat) (u d:Nat),d∈r→∃j,(goN l (u,r) j).1=d
 | x::r,u,d,h=>by
  rcases List.mem_cons.1 h with rfl|h
  ·exact⟨1,rfl⟩
  ·obtain⟨j,hj⟩:=zmD l r x d h
   exact⟨1+j,by rw[UW];exact hj⟩
theorem zmK {g:List (List Int)} {c:Nat} {l:List Nat} (hne:l≠[]) (hl:Seg g c l c) {s:Nat × List Nat} (h:Seg g s.1 s.2 c):∀i,Seg g (goN l s i).1 (goN l s i).2 c
 | 0=>h
 | i+1=>by
  have ih:=zmK hne hl h i
  show Seg g (goS l (goN l s i)).1 (goS l (goN l s i)).2 c
  generalize goN l s i=t at ih
  obtain⟨u,r⟩:=t
  cases r with
  | cons x r=>exact ih.2
  | nil =>
   cases l with
   | nil=>exact absurd rfl hne
   | cons x l=>exact hl.2
theorem zpm {g:List (List Int)} {sets:List (Nat→Bool)} {v:Nat} (h:Fw g sets v):∃π:Nat→Nat,π 0=v∧zyr g π∧∀S∈sets,∀i,∃j,i≤j∧S (π j)=true:=by
 obtain⟨c,h1,h2,h3⟩:=h
 obtain⟨l0,hl0⟩:=zgW h1
 obtain⟨l,l1,l2,l3⟩:=zpl h2 h3
 have hS:=zmK l1 l2 (s:=(v,l0)) hl0
 refine⟨λi=>(goN l (v,l0) i).1,rfl,λi=>?_,λS hSm i=>?_⟩
 ·have hi:=hS i
  show ∃y∈g.getD (goN l (v,l0) i).1 [],y.toNat=(goS l (goN l (v,l0) i)).1
  generalize goN l (v,l0) i=t at hi
  obtain⟨u,r⟩:=t
  cases r with
  | cons x r=>exact hi.1
  | nil =>
   have e:u=c:=hi
   subst e
   cases l with
   | nil=>exact absurd rfl l1
   | cons x l=>exact l2.1
 ·obtain⟨d,d1,d2⟩:=l3 S hSm
  -- to the end of what is left,then round once
  have e1:=zmL l (goN l (v,l0) i).2 (goN l (v,l0) i).1
  cases l with
  | nil=>exact absurd rfl l1
  | cons x l =>
   have key:∀t:Nat × List Nat,t.2=[]→∃j,(goN (x::l) t j).1=d:=λt ht=>by
    rcases List.mem_cons.1 d1 with e|e
    ·refine⟨1,?_⟩
     obtain⟨u,r⟩:=t
     cases ht
     exact e.symm
    ·obtain⟨j,hj⟩:=zmD (x::l) l x d e
     refine⟨1+j,?_⟩
     rw[UW]
     obtain⟨u,r⟩:=t
     cases ht
     exact hj
   obtain⟨j,hj⟩:=key _ e1
   refine⟨i+((goN (x::l) (v,l0) i).2.length+j),zo,?_⟩
   show S (goN (x::l) (v,l0) (i+((goN (x::l) (v,l0) i).2.length+j))).1=true
   rw[UW,UW]
   rw[hj]
   exact d2
theorem again {n:Nat} (f:Nat→Nat) (h:∀i,f i<n):∃c,∀i,∃j,i≤j∧f j=c:=by
 induction n generalizing f with
 | zero=>exact absurd (h 0) zo
 | succ n ih =>
  by_cases q:∀i,∃j,i≤j∧f j=n
  ·exact⟨n,q⟩
  ·obtain⟨i0,hi⟩:=Classical.not_forall.1 q
   have hno:∀j,i0≤j→f j≠n:=λj hj e=>hi ⟨j,hj,e⟩
   obtain⟨c,hc⟩:=ih (λi=>f (i0+i)) λi=>by have:=h (i0+i);have:=hno (i0+i) zo;omega
   refine⟨c,λi=>?_⟩
   obtain⟨j,j1,j2⟩:=hc i
   exact⟨i0+j,zo,j2⟩
theorem zpY {g:List (List Int)} {π:Nat→Nat} (h:zyr g π) (i:Nat):∀d,To g (π i) (π (i+d))
 | 0=>wO g _
 | d+1=>by
  obtain⟨y,hy,e⟩:=h (i+d)
  refine xO (zpY h i d) ?_
  rw[←Nat.add_assoc,←e]
  exact u5 hy
theorem zw5 {g:List (List Int)} {n:Nat} {sets:List (Nat→Bool)} {π:Nat→Nat} (hlt:∀i,π i<n) (h:zyr g π) (hS:∀S∈sets,∀i,∃j,i≤j∧S (π j)=true):Fw g sets (π 0):=by
 obtain⟨c,hc⟩:=again π hlt
 have hto:∀{i j},i≤j→To g (π i) (π j):=λ{i j} hij=>by
  obtain⟨d,rfl⟩:=Nat.exists_eq_add_of_le hij
  exact zpY h i d
 obtain⟨i0,_,e0⟩:=hc 0
 have hc1:∀j,i0≤j→To g c (π j):=λj hj=>e0▸hto hj
 have hc2:∀j,To g (π j) c:=λj=>by
  obtain⟨k,k1,k2⟩:=hc j
  exact k2▸hto k1
 refine⟨c,hc2 0,?_,λS hSm=>?_⟩
 ·obtain⟨y,hy,e⟩:=h i0
  exact⟨y,e0▸hy,by rw[e];exact hc2 _⟩
 ·obtain⟨j,j1,j2⟩:=hS S hSm i0
  exact⟨_,j2,hc1 j j1,hc2 j⟩
theorem Xh {W:zK} {A:z7} {l k:List Int} {p:Pr}:p∈xP W A l k↔p.1∈l∧p.2∈k∧zjl W A p=true:=by
 obtain⟨x,y⟩:=p
 unfold xP ze6
 simp only[List.mem_flatMap,List.mem_map,List.mem_filter]
 constructor
 ·rintro⟨a,ha,b,⟨hb,hf⟩,e⟩
  cases e
  exact⟨ha,hb,hf⟩
 ·rintro⟨h1,h2,h3⟩
  exact⟨x,h1,y,⟨h2,h3⟩,rfl⟩
theorem Xn {l:List Int} {v:Nat}:Qs l v=true↔(v:Int)∈l:=by unfold Qs;exact List.contains_iff_mem ..
theorem znm {W:zK} {A:z7} (hb:Ui W A):uc W A=true↔∃s r:Nat→Int,(s 0∈W.start∧∀i,s (i+1)∈W.next.getD (s i).toNat [])∧(r 0∈A.start∧∀i,r (i+1)∈A.next.getD (r i).toNat [])∧(∀i,Jo A (r i).toNat (W.label.getD (s i).toNat 0)=true) ∧
  (∀l∈W.fair,∀i,∃j,i≤j∧s j∈l)∧∀l∈A.fair,∀i,∃j,i≤j∧r j∈l:=by
 obtain⟨hN,hg⟩:=XN hb
 have hA:uc W A=true↔∃v,v<(yW W A).2.length∧Fw (yW W A).2 (wQ W A (yW W A).1) v:=by unfold uc;simp only[decide_eq_true_eq]
 rw[hA]
 have hset:wQ W A (yW W A).1=(W.fair.map λl v=>Qs l ((yW W A).1.getD v (0,0)).1.toNat)++A.fair.map λl v=>Qs l ((yW W A).1.getD v (0,0)).2.toNat:=by
  unfold wQ XH
  rw[List.take_length,List.take_length]
  rfl
 rw[hset]
 generalize yW W A=FE at *
 obtain⟨L,G⟩:=FE
 dsimp only at *
 constructor
 ·rintro⟨v,hv,hF⟩
  have hv':v<L.length:=by have:=hN.len;omega
  obtain⟨p,hp,hT⟩:=hN.come v hv'
  obtain⟨π,p0,p1,p2⟩:=zpm (hF.back hT)
  have hlt:∀i,π i<L.length:=by
   intro i
   cases i with
   | zero=>rw[p0];exact VO (hN.st p hp)
   | succ i =>
    obtain⟨y,hy,e⟩:=p1 i
    obtain⟨_,q,_,_,rfl,k⟩:=hN.zkF hy
    rw[←e,Int.toNat_natCast];exact k
  have hgood:=λi=>hg _ (xo (hlt i))
  have h0:L.getD (π 0) (0,0)=p:=by rw[p0];exact Xo (hN.st p hp)
  have hstep:∀i,L.getD (π (i+1)) (0,0)∈nxE W A (L.getD (π i) (0,0)):=λi=>by
   obtain⟨y,hy,e⟩:=p1 i
   obtain⟨_,q,q1,q2,rfl,k⟩:=hN.zkF hy
   rw[←e,Int.toNat_natCast,Xo q2];exact q1
  have hst:=Xh.1 (h0▸hp:L.getD (π 0) (0,0)∈xP W A W.start A.start)
  have hnx:=λi=>Xh.1 (hstep i)
  refine⟨λi=>(L.getD (π i) (0,0)).1,λi=>(L.getD (π i) (0,0)).2,⟨hst.1,λi=>(hnx i).1⟩,⟨hst.2.1,λi=>(hnx i).2.1⟩,λi=>?_,λl hl i=>?_,λl hl i=>?_⟩
  ·cases i with
   | zero=>exact hst.2.2
   | succ i=>exact(hnx i).2.2
  ·obtain⟨j,j1,j2⟩:=p2 _ (List.mem_append_left _ (List.mem_map.2 ⟨l,hl,rfl⟩)) i
   refine⟨j,j1,?_⟩
   have:=Xn.1 j2
   have hp:=(hgood j).1.1
   rwa [Int.toNat_of_nonneg hp] at this
  ·obtain⟨j,j1,j2⟩:=p2 _ (List.mem_append_right _ (List.mem_map.2 ⟨l,hl,rfl⟩)) i
   refine⟨j,j1,?_⟩
   have:=Xn.1 j2
   have hp:=(hgood j).2.1
   rwa [Int.toNat_of_nonneg hp] at this
 ·rintro⟨s,r,⟨s0,s1⟩,⟨r0,r1⟩,hf,hsW,hsA⟩
  have hmem:∀i,(s i,r i)∈L:=by
   intro i
   induction i with
   | zero=>exact hN.st _ (Xh.2 ⟨s0,r0,hf 0⟩)
   | succ i ih =>
    have hl:=VO ih
    refine hN.cl _ hl _ ?_
    rw[Xo ih]
    exact Xh.2 ⟨s1 i,r1 i,hf (i+1)⟩
  have hidx:=λi=>VO (hmem i)
  refine⟨wR L (s 0,r 0),by have:=hidx 0;have:=hN.len;omega,?_⟩
  refine zw5 (n:=L.length) (π:=λi=>wR L (s i,r i)) hidx (λi=>?_) λS hS i=>?_
  ·have hm:(s (i+1),r (i+1))∈nxE W A (s i,r i):=Xh.2 ⟨s1 i,r1 i,hf (i+1)⟩
   refine⟨(wR L (s (i+1),r (i+1)):Int),?_,Int.toNat_natCast _⟩
   show _∈G.getD (wR L (s i,r i)) []
   rw[hN.row _ (hidx i),Xo (hmem i)]
   exact List.mem_map.2 ⟨_,hm,rfl⟩
  ·rcases List.mem_append.1 hS with hS|hS
   ·obtain⟨l,hl,rfl⟩:=List.mem_map.1 hS
    obtain⟨j,j1,j2⟩:=hsW l hl i
    refine⟨j,j1,?_⟩
    show Qs l (L.getD (wR L (s j,r j)) (0,0)).1.toNat=true
    rw[Xo (hmem j),Xn,Int.toNat_of_nonneg (hg _ (hmem j)).1.1]
    exact j2
   ·obtain⟨l,hl,rfl⟩:=List.mem_map.1 hS
    obtain⟨j,j1,j2⟩:=hsA l hl i
    refine⟨j,j1,?_⟩
    show Qs l (L.getD (wR L (s j,r j)) (0,0)).2.toNat=true
    rw[Xo (hmem j),Xn,Int.toNat_of_nonneg (hg _ (hmem j)).2.1]
    exact j2
end
section
def Yz (a b:ByteArray):Bool:=a.toList==b.toList
theorem zj0 (a b:ByteArray):Yz a b=Yz b a:=by
 unfold Yz
 exact BEq.comm
@[simp] theorem zzv (a:ByteArray):Yz a a=true:=by simp[Yz]
theorem zfY (a:ByteArray):Yz a ⟨#[]⟩=true↔a.size=0:=by
 unfold Yz
 rw[beq_iff_eq,ByteArray.toList_eq,ByteArray.toList_eq]
 show a.data.toList=[]↔a.data.size=0
 rw[List.eq_nil_iff_length_eq_zero,Array.length_toList]
def zpB:ByteArray:=⟨#[116,114,117,101]⟩
def zks:ByteArray:=⟨#[102,97,108,115,101]⟩
def W5:ByteArray:=⟨#[115,105,108,101,110,116]⟩
def zdh (s:ByteArray) (i:Nat):Bool:=match s[i]? with
 | some b=>decide (97≤b.toNat)&&decide (b.toNat≤122)
 | none=>true
def zoY (s:ByteArray):Bool:=(List.range s.size).all (zdh s)
theorem zo1 {s:ByteArray} (h:∀i,i<s.size→zdh s i=true):zoY s=true:=by
 unfold zoY
 rw[List.all_eq_true]
 exact λi hi=>h i (List.mem_range.1 hi)
theorem zdk {s:ByteArray} {i:Nat} (hi:i<s.size) (h:zdh s i=false):zoY s=false:=by
 unfold zoY
 rw[List.all_eq_false]
 exact⟨i,List.mem_range.2 hi,by simp[h]⟩
def x7 (s:ByteArray):Bool:=!(Yz s ⟨#[]⟩)&&decide (s.size≤8)&&!(Yz s zpB)&&!(Yz s zks)&&!(Yz s W5)&&zoY s
def zeP (names:List ByteArray) (n:Nat) (s:ByteArray):Bool:=(List.range n).any λi=>Yz (names.getD i ⟨#[]⟩) s
theorem zor {names:List ByteArray} {n i:Nat} {s:ByteArray} (hi:i<n) (h:Yz (names.getD i ⟨#[]⟩) s=true):zeP names n s=true:=by
 unfold zeP
 rw[List.any_eq_true]
 exact⟨i,List.mem_range.2 hi,h⟩
def nm (names:List ByteArray) (n:Int):ByteArray :=
 if n=63 then W5
 else if (names.length:Int)≤n then ⟨#[]⟩
 else if x7 (names.getD n.toNat ⟨#[]⟩)=false then ⟨#[]⟩
 else if zeP names n.toNat (names.getD n.toNat ⟨#[]⟩)=true then ⟨#[]⟩
 else names.getD n.toNat ⟨#[]⟩
def zwK (names:List ByteArray) (k n:Int):Bool:=k != 3||!(Yz (nm names n) ⟨#[]⟩)
mutual
def okN (names:List ByteArray):Tree→Bool
 | .node k n ks=>zwK names k n&&oksN names ks
def oksN (names:List ByteArray):List Tree→Bool
 | []=>true
 | t::r=>okN names t&&oksN names r
end
end
section
open Go.RowKit
def qK (l:List ByteArray):D:=.xj 1 (l.map λs=>[.sc (.string s)])
theorem wE (l:List ByteArray):Pure (qK l):=by
 simp only[qK,Pure];exact zB _ (λs=>by simp[ze,Pure]) l
def QG (l:List ByteArray):Prop:=l.length≤9223372036854775807∧∀s∈l,s.size≤9223372036854775807
theorem zhk {l:List ByteArray} {k:Nat} (h:k<l.length):(l.map λs=>[D.sc (.string s)])[k]? = some [.sc (.string (l.getD k ⟨#[]⟩))]:=by
 rw[List.getElem?_map,List.getElem?_eq_getElem h,List.getD_eq_getElem?_getD,List.getElem?_eq_getElem h];rfl
theorem QG.at {l:List ByteArray} (h:QG l) {k:Nat} (hk:k<l.length):(l.getD k ⟨#[]⟩).size≤9223372036854775807:=by
 rw[List.getD_eq_getElem?_getD,List.getElem?_eq_getElem hk]
 exact h.2 _ (List.getElem_mem _)
theorem ztf {s:ByteArray} {k:Nat} (h:k<s.size):∃b,s[k]? = some b:=⟨s[k],by simp[getElem?_pos,h]⟩
def zz9:PC:=.seq (OP [Bi 26 .lss 25 24]) (.seq (.cond 26 .skip (.exit 0)) (.seq (.block 1 (.seq (OP [qm 27 25,qm 3 27]) (.seq (OP [qm 28 0,qm 29 3,q 30 (.zqf 28 29),q 31 (.bin .lss 30 (.const (.int .u8 97))),qm 32 31,GF 33 32 (.move 0),GF 34 32 (.move 3),GF 35 32 (.zqf 33 34),GF 36 32 (.bin .gtr 35 (.const (.int .u8 122))),Pk 37 32 cT 36]) (.cond 37 (.seq (OP [Mv 2 cF]) .ret) .skip)))) (OP [Bi 38 .add 25 (cI 1),qm 25 38])))
def c42:PC:=.seq (OP [Mv 2 cF]) (.seq (.seq (OP [qm 4 0,Bi 5 .eql 4 (cS #[]),qm 6 5,GF 7 6 (.move 0),GF 8 6 (.zhF 7),GF 9 6 (.bin .gtr 8 (cI 8)),Pk 10 6 cT 9,qm 11 10,GF 12 11 (.move 0),GF 13 11 (.bin .eql 12 (cS #[116,114,117,101])),Pk 14 11 cT 13,qm 15 14,GF 16 15 (.move 0),GF 17 15 (.bin .eql 16 (cS #[102,97,108,115,101])),Pk 18 15 cT 17,qm 19 18,GF 20 19 (.move 0),GF 21 19 (.bin .eql 20 (cS #[115,105,108,101,110,116])),Pk 22 19 cT 21]) (.cond 22 (.seq (OP [Mv 2 cF]) .ret) .skip)) (.seq (.seq (OP [qm 23 0,q 24 (.zhF 23),Mv 25 (cI 0)]) (.block 0 (.loop zz9))) (.seq (OP [Mv 2 cT]) .ret)))
theorem zxB:zz Tryz.prog 42 39 [.tmp 2] c42:=fK Tryz.func42
theorem W4 (s:ByteArray) (hs:s.size≤9223372036854775807):zu Tryz.prog 42 [.sc (.string s)] (.sc (.bool (x7 s))):=by
 refine zb zxB zs (by simp[ze,Pure]) ?_ (by simp[Pure])
 refine sR ?_
 refine sS (λh1=>?_) λh1=>?_
 ·exact yu (congrArg (λb=>D.sc (.bool b)) (by have:Yz s ⟨#[]⟩=true:=h1;simp[x7,this]))
 refine sS (λh2=>?_) λh2=>?_
 ·exact yu (congrArg (λb=>D.sc (.bool b)) (by have:¬s.size≤8:=sO
                                              simp[x7,this]))
 refine sS (λh3=>?_) λh3=>?_
 ·exact yu (congrArg (λb=>D.sc (.bool b)) (by have:Yz s zpB=true:=h3;simp[x7,this]))
 refine sS (λh4=>?_) λh4=>?_
 ·exact yu (congrArg (λb=>D.sc (.bool b)) (by have:Yz s zks=true:=h4;simp[x7,this]))
 refine sS (λh5=>?_) λh5=>?_
 ·exact yu (congrArg (λb=>D.sc (.bool b)) (by have:Yz s W5=true:=h5;simp[x7,this]))
 have hn:x7 s=zoY s:=by
  have g1:Yz s ⟨#[]⟩=false:=h1
  have g2:s.size≤8:=sO
  have g3:Yz s zpB=false:=h3
  have g4:Yz s zks=false:=h4
  have g5:Yz s W5=false:=h5
  simp[x7,g1,g2,g3,g4,g5]
 rw[hn]
 clear hn h1 h2 h3 h4 h5
 refine zc9 (λk:Nat=>[(0,.sc (.string s)),(24,.sc (.int .i64 s.size)),(25,.sc (.int .i64 k))]) (λ_=>[])
  (λk=>k≤s.size∧∀j,j<k→zdh s j=true) (λk=>s.size-k) 0 ⟨zo,λj h=>zo⟩ (zaH ⟨rfl,rfl,rfl,trivial⟩) ?_
 rintro k ⟨hk,hall⟩
 refine sR ?_
 refine sS (λh1=>?_) λh1=>?_
 ·have hk':k<s.size:=sO
  obtain⟨b,hb⟩:=ztf hk'
  refine⟨zo,b,hb,?_⟩
  refine sW ?_
  refine sS (λh2=>?_) λh2=>?_
  ·exact yu (congrArg (λb=>D.sc (.bool b)) (zdk hk' (by simp only[zdh,hb];simp only[decide_eq_true_eq] at h2;simp;omega)).symm)
  refine⟨zo,b,hb,?_⟩
  refine sW ?_
  refine sS (λh3=>?_) λh3=>?_
  ·exact yu (congrArg (λb=>D.sc (.bool b)) (zdk hk' (by simp only[zdh,hb];simp only[decide_eq_true_eq] at h3;simp;omega)).symm)
  refine .inl ⟨by unfold InR;rw[IntKind.wrap_i64];omega,?_⟩
  refine sW ?_
  refine⟨k+1,⟨zo,λj hj=>?_⟩,zd,zaH ⟨rfl,rfl,rfl,trivial⟩⟩
  by_cases e:j=k
  ·subst e;simp only[zdh,hb];simp only[decide_eq_false_iff_not] at h2 h3;simp;omega
  ·exact hall j zo
 ·have hk':¬k<s.size:=sO
  exact yu (congrArg (λb=>D.sc (.bool b)) (zo1 λi hi=>hall i zo).symm)
def zxi:PC:=.seq (OP [Bi 9 .lss 8 7]) (.seq (.cond 9 .skip (.exit 0)) (.seq (.block 1 (.seq (OP [qm 10 8,qm 5 10]) (.seq (OP [qm 11 1,qm 12 0,qm 13 5,Ia 14 1 12 13,Lo 15 14,Bi 16 .eql 11 15]) (.cond 16 (.seq (OP [qm 17 5,qm 4 17]) .ret) .skip)))) (OP [Bi 18 .add 8 (cI 1),qm 8 18])))
def c129:PC:=.seq (OP [Mv 4 (cI 0)]) (.seq (.seq (OP [qm 6 0,Ln 7 6,Mv 8 (cI 0)]) (.block 0 (.loop zxi))) (.seq (OP [Mv 4 (cI (-1))]) .ret))
theorem zsz:zz Tryz.prog 129 19 [.tmp 4] c129:=fK Tryz.func129
theorem zn1 (l:List ByteArray) (s:ByteArray) (hl:l.length≤9223372036854775807):zu Tryz.prog 129 [qK l,.sc (.string s)] (.sc (.int .i64 (match l.findIdx? (Yz s) with|some i=>(i:Int)|none=>-1))):=by
 refine zb zsz zs (by simp[ze,Pure,wE]) ?_ (by simp[Pure])
 unfold qK
 refine sR ?_
 rw[List.length_map]
 refine zc9 (λk:Nat=>[(0,qK l),(1,.sc (.string s)),(7,.sc (.int .i64 l.length)),(8,.sc (.int .i64 k))]) (λ_=>[]) (λk=>k≤l.length∧∀j (h:j<k) (h2:j<l.length),Yz s l[j]=false) (λk=>l.length-k) 0 ⟨zo,λ_ h=>zo⟩
  (zaH ⟨rfl,rfl,rfl,rfl,trivial⟩) ?_
 rintro k ⟨hk,hno⟩
 unfold qK
 refine sR ?_
 refine sS (λh=>?_) λh=>?_
 ·have hk':k<l.length:=sO
  refine sL (zhk hk') ?_
  have hg:l.getD k ⟨#[]⟩=l[k]:=by rw[List.getD_eq_getElem?_getD,List.getElem?_eq_getElem hk'];rfl
  refine sS (λh2=>?_) λh2=>?_
  ·have:l.findIdx? (Yz s)=some k:=by
    rw[List.findIdx?_eq_some_iff_getElem]
    exact⟨zo,by rw[←hg];exact h2,λj hj=>by simp[hno j hj zo]⟩
   rw[this]
   exact Deep.refl _
  ·refine .inl ⟨by unfold InR;rw[IntKind.wrap_i64];omega,?_⟩
   refine sW ?_
   refine⟨k+1,⟨zo,λj hj hl=>?_⟩,zd,zaH ⟨rfl,rfl,rfl,rfl,trivial⟩⟩
   by_cases e:j=k
   ·subst e;rw[←hg];exact h2
   ·exact hno j zo hl
 ·have:l.findIdx? (Yz s)=none:=by
   have hk':¬k<l.length:=sO
   rw[List.findIdx?_eq_none_iff]
   intro x hx
   obtain⟨j,hj,rfl⟩:=List.mem_iff_getElem.1 hx
   simp[hno j zo hj]
  rw[this]
  exact Deep.refl _
theorem zsT {l:List ByteArray} {n:Nat} (hn:n<l.length):((match l.findIdx? (Yz (l.getD n ⟨#[]⟩)) with|some i=>(i:Int)|none=>-1):Int)≠(n:Int)↔zeP l n (l.getD n ⟨#[]⟩)=true:=by
 have hg:∀j (h:j<l.length),l.getD j ⟨#[]⟩=l[j]:=λj h=>by rw[List.getD_eq_getElem?_getD,List.getElem?_eq_getElem h];rfl
 cases h:l.findIdx? (Yz (l.getD n ⟨#[]⟩)) with
 | none =>
  rw[List.findIdx?_eq_none_iff] at h
  have:=h l[n] (List.getElem_mem _)
  rw[hg n hn] at this
  simp at this
 | some i =>
  rw[List.findIdx?_eq_some_iff_getElem] at h
  obtain⟨h1,h2,h3⟩:=h
  constructor
  ·intro hne
   have hne:(i:Int)≠n:=hne
   have:i<n:=by
    rcases Nat.lt_trichotomy i n with q|q|q
    ·exact q
    ·omega
    ·have:=h3 n q
     rw[hg n hn] at this
     simp at this
   exact zor this (by rw[zj0,hg i h1];exact h2)
  ·intro hd
   show(i:Int)≠n
   unfold zeP at hd
   rw[List.any_eq_true] at hd
   obtain⟨j,hj,hd⟩:=hd
   rw[List.mem_range] at hj
   rintro e
   have:=h3 j zo
   rw[←hg j zo,zj0,hd] at this
   simp at this
end
section
section
structure za where
 nodes:List (ByteArray × Int)
 zn:List (Int × Int)
namespace za
def name (P:za) (i:Nat):ByteArray:=(P.nodes.getD i (⟨#[]⟩,0)).1
def kind (P:za) (i:Nat):Int:=(P.nodes.getD i (⟨#[]⟩,0)).2
def src (P:za) (i:Nat):Int:=(P.zn.getD i (0,0)).1
def dst (P:za) (i:Nat):Int:=(P.zn.getD i (0,0)).2
def Qb (P:za) (i:Nat):Int :=
 if x7 (P.name i)=false∨P.kind i<1∨7<P.kind i then 1
 else if (List.range i).any (λk=>Yz (P.name k) (P.name i))=true then 4 else 0
def VF (f:Nat→Int):Nat→Int
 | 0=>0
 | n+1=>if VF f n≠0 then VF f n else f n
theorem Yf {f:Nat→Int}:∀{n:Nat},VF f n=0↔∀i,i<n→f i=0
 | 0=>⟨λ_ i h=>zo,λ_=>rfl⟩
 | n+1=>by
  simp only[VF]
  constructor
  ·intro h
   split at h
   ·exact absurd h (by assumption)
   ·rename_i q
    have q:=Classical.not_not.1 q
    intro i hi
    by_cases e:i=n
    ·subst e;exact h
    ·exact Yf.1 q i zo
  ·intro h
   have:VF f n=0:=Yf.2 λi hi=>h i zo
   rw[if_neg (by simp[this])]
   exact h n zo
theorem zcI {f:Nat→Int} {k:Nat}:∀{n:Nat},k<n→(∀i,i<k→f i=0)→f k≠0→VF f n=f k
 | 0,h,_,_=>zo
 | n+1,h,h1,h2=>by
  simp only[VF]
  by_cases e:k=n
  ·subst e
   rw[if_neg (by simp[Yf.2 h1])]
  ·rw[zcI (n:=n) zo h1 h2,if_pos h2]
def XB (P:za):Int:=VF P.Qb P.nodes.length
def pick (p:Nat→Bool):Nat→List Int
 | 0=>[]
 | n+1=>if p n then pick p n++[(n:Int)] else pick p n
theorem Wh {p:Nat→Bool} {x:Int}:∀{n:Nat},x∈pick p n↔∃i,i<n∧p i=true∧x=(i:Int)
 | 0=>by simp[pick]
 | n+1=>by
  simp only[pick]
  split
  ·rename_i h
   rw[List.mem_append,Wh,List.mem_singleton]
   constructor
   ·rintro(⟨i,h1,h2,h3⟩|h1)
    ·exact⟨i,zo,h2,h3⟩
    ·exact⟨n,zo,h,h1⟩
   ·rintro⟨i,h1,h2,h3⟩
    by_cases e:i=n
    ·subst e;exact .inr h3
    ·exact .inl ⟨i,zo,h2,h3⟩
  ·rename_i h
   rw[Wh]
   constructor
   ·rintro⟨i,h1,h2,h3⟩;exact⟨i,zo,h2,h3⟩
   ·rintro⟨i,h1,h2,h3⟩
    refine⟨i,?_,h2,h3⟩
    by_cases e:i=n
    ·subst e;exact absurd h2 h
    ·omega
theorem zeu (p:Nat→Bool):∀n,(pick p n).length≤n
 | 0=>by simp[pick]
 | n+1=>by simp only[pick];have:=zeu p n;split<;>simp<;>omega
def vF (P:za) (v:Int):List Int:=pick (λi=>P.dst i==v) P.zn.length
def ue (P:za) (v:Int):List Int:=pick (λi=>P.src i==v) P.zn.length
theorem zaa (P:za) (v:Int):(P.vF v).length≤P.zn.length:=zeu _ _
theorem VG (P:za) (v:Int):(P.ue v).length≤P.zn.length:=zeu _ _
def Zj (P:za) (i:Nat):Bool:=decide (0≤P.src i)&&decide (P.src i<P.nodes.length)&&decide (0≤P.dst i)&&decide (P.dst i<P.nodes.length)
def uk (P:za):Nat→Int
 | 0=>0
 | n+1=>if P.kind n=1 then P.uk n+1 else P.uk n
def Yu (P:za):Nat→Int
 | 0=>-1
 | n+1=>if P.kind n=1 then (n:Int) else P.Yu n
theorem zfF (P:za):∀n,0≤P.uk n∧P.uk n≤n
 | 0=>by simp[uk]
 | n+1=>by simp only[uk];have:=zfF P n;split<;>omega
theorem zdp (P:za):∀n,0<P.uk n→0≤P.Yu n∧P.Yu n<n
 | 0,h=>by simp[uk] at h
 | n+1,h=>by
  simp only[uk,Yu] at h ⊢
  split
  ·omega
  ·rename_i e
   rw[if_neg e] at h
   have:=zdp P n h
   omega
def zb9 (k i o:Int):Bool :=
 if k=1 then i==0&&o==1
 else if k=2∨k=3 then decide (i>0)&&o==0
 else if k=4 then decide (i>0)&&o==1
 else if k=7 then decide (o≤4)&&(decide (i>0)&&decide (o>0))
 else if k=5∨k=6 then decide (i>0)&&decide (o>0)
 else false
def Y9 (P:za) (i:Nat):Bool:=zb9 (P.kind i) (P.vF i).length (P.ue i).length
def graph (P:za):Nat→List (List Int)
 | 0=>List.replicate P.nodes.length []
 | k+1=>(P.graph k).set (P.src k).toNat ((P.graph k).getD (P.src k).toNat []++[P.dst k])
theorem ZM (P:za):∀k,(P.graph k).length=P.nodes.length
 | 0=>by simp[graph]
 | k+1=>by simp only[graph,List.length_set];exact ZM P k
theorem zfT {α:Type} {L:List α} {i j:Nat} {d l:α} (h:i<L.length):(L.set i l).getD j d=if j=i then l else L.getD j d:=by
 rw[List.getD_eq_getElem?_getD,List.getElem?_set]
 by_cases e:i=j
 ·subst e;simp[h]
 ·rw[if_neg e,if_neg (λq=>e q.symm),List.getD_eq_getElem?_getD]
theorem qx {P:za} {i:Nat}:P.Zj i=true↔0≤P.src i∧P.src i<P.nodes.length∧0≤P.dst i∧P.dst i<P.nodes.length:=by
 unfold Zj
 simp only[Bool.and_eq_true,decide_eq_true_eq]
 omega
theorem zfG {P:za} {u:Nat} {x:Int}:∀{k:Nat},(∀i,i<k→P.Zj i=true)→(x∈(P.graph k).getD u []↔∃i,i<k∧P.src i=u∧P.dst i=x)
 | 0,_=>by
  simp only[graph]
  rw[List.getD_eq_getElem?_getD,List.getElem?_replicate]
  constructor
  ·intro h;split at h<;>simp at h
  ·rintro⟨i,h,_⟩;omega
 | k+1,hf=>by
  have ih:=zfG (P:=P) (u:=u) (x:=x) (k:=k) λi hi=>hf i zo
  have hk:=qx.1 (hf k zo)
  simp only[graph]
  rw[zfT (by rw[ZM];omega)]
  split
  ·rename_i e
   subst e
   rw[List.mem_append,ih,List.mem_singleton]
   constructor
   ·rintro(⟨i,h1,h2,h3⟩|h)
    ·exact⟨i,zo,h2,h3⟩
    ·exact⟨k,zo,zo,h.symm⟩
   ·rintro⟨i,h1,h2,h3⟩
    by_cases e:i=k
    ·subst e;exact .inr h3.symm
    ·exact .inl ⟨i,zo,h2,h3⟩
  ·rename_i e
   rw[ih]
   constructor
   ·rintro⟨i,h1,h2,h3⟩;exact⟨i,zo,h2,h3⟩
   ·rintro⟨i,h1,h2,h3⟩
    refine⟨i,?_,h2,h3⟩
    by_cases q:i=k
    ·subst q;omega
    ·omega
theorem Wf (P:za):∀(k u:Nat),(P.graph k).getD u []=(P.graph k).getD u []∧((P.graph k).getD u []).length≤k
 | 0,u=>⟨rfl,by
  simp only[graph]
  rw[List.getD_eq_getElem?_getD,List.getElem?_replicate]
  split<;>simp⟩
 | k+1,u=>⟨rfl,by
  have h1:=(Wf P k u).2
  have h2:=(Wf P k (P.src k).toNat).2
  simp only[graph]
  by_cases q:(P.src k).toNat<(P.graph k).length
  ·rw[zfT q]
   split
   ·rw[List.length_append,List.length_singleton];omega
   ·omega
  ·rw[List.set_eq_of_length_le zo];omega⟩
def zsb (P:za) (v:Nat):Prop:=Rch (P.graph P.zn.length) [P.Yu P.nodes.length] v
open Classical in
noncomputable def xc (P:za):Int :=
 if 20<P.nodes.length∨30<P.zn.length then 2
 else if P.XB≠0 then P.XB
 else if ¬∀i,i<P.zn.length→P.Zj i=true then 1
 else if P.uk P.nodes.length≠1 then 1
 else if ¬∀i,i<P.nodes.length→P.Y9 i=true then 1
 else if ¬∀v,v<P.nodes.length→P.zsb v then 6
 else 0
end za
end
section
open Go.RowKit
def vX (x:ByteArray × Int):List D:=[.sc (.string x.1),.sc (.int .i64 x.2)]
def YO (x:Int × Int):List D:=[.sc (.int .i64 x.1),.sc (.int .i64 x.2)]
def za.cells (P:za):List D:=[.xj 2 (P.nodes.map vX),.xj 2 (P.zn.map YO)]
def yQ (P:za):D:=.agg P.cells
theorem wB (x:ByteArray × Int):ze (vX x):=by simp[vX,ze,Pure]
theorem YY (x:Int × Int):ze (YO x):=by simp[YO,ze,Pure]
theorem JC (P:za):ze P.cells:=by simp[za.cells,ze,Pure,wB,YY]
theorem z6 (P:za):Pure (yQ P):=by simp[yQ,Pure,JC]
@[simp] theorem zvK {m:Nat} (P:za):zl m P.cells↔True:=⟨λ_=>trivial,λ_=>zt _ (JC P)⟩
@[simp] theorem zvs {m:Nat} (x:ByteArray × Int):zl m (vX x)↔True:=⟨λ_=>trivial,λ_=>zt _ (wB x)⟩
@[simp] theorem zu6 {m:Nat} (x:Int × Int):zl m (YO x)↔True:=⟨λ_=>trivial,λ_=>zt _ (YY x)⟩
theorem ZZ (P:za) {z k:Nat} (hz:z=k) (h:k<P.nodes.length):(P.nodes.map vX)[z]? = some [.sc (.string (P.name k)),.sc (.int .i64 (P.kind k))]:=by
 subst hz
 rw[List.getElem?_map,List.getElem?_eq_getElem h]
 unfold za.name za.kind
 rw[List.getD_eq_getElem?_getD,List.getElem?_eq_getElem h]
 rfl
theorem WH (P:za) {z k:Nat} (hz:z=k) (h:k<P.zn.length):(P.zn.map YO)[z]? = some [.sc (.int .i64 (P.src k)),.sc (.int .i64 (P.dst k))]:=by
 subst hz
 rw[List.getElem?_map,List.getElem?_eq_getElem h]
 unfold za.src za.dst
 rw[List.getD_eq_getElem?_getD,List.getElem?_eq_getElem h]
 rfl
structure za.Fits (P:za):Prop where
 nodes:P.nodes.length≤9223372036854775807
 zn:P.zn.length≤9223372036854775807
 name:∀x∈P.nodes,x.1.size≤9223372036854775807
theorem za.Fits.at {P:za} (h:P.Fits) {i:Nat} (hi:i<P.nodes.length):(P.name i).size≤9223372036854775807:=by
 unfold za.name
 rw[List.getD_eq_getElem?_getD,List.getElem?_eq_getElem hi]
 exact h.name _ (List.getElem_mem hi)
theorem xV {l:List Int} {c:Nat} {x:Int} (h:c=l.length):List.drop 0 (List.take c (zI l))++[[D.sc (.int .i64 x)]]=zI (l++[x]):=by
 subst h
 rw[zr (by simp[zI])]
 simp[zI]
theorem Wp {H:List zf} {id v n:Nat} {q:Bool} {l:List Int} (hn:n=l.length) (h:H[id]? = some (.vec q v 1 (zI l))):Deep H (.own id v 0 n) (zw l):=by
 subst hn
 exact .own _ _ _ _ _ _ _ _ h (by rw[zr (by simp[zI])];exact zU _)
def zwI:PC:=.seq (OP [Bi 12 .lss 11 10]) (.seq (.cond 12 .skip (.exit 0)) (.seq (.block 1 (.seq (OP [qm 13 11,Ia 14 2 9 11,LA 15 2 14,q 7 (.alloc [(.int .i64 0),(.int .i64 0)]),qm 6 13,So 2 7 15]) (.seq (OP [Fa 16 1 7,Lo 17 16,qm 18 1,Bi 19 .eql 17 18]) (.cond 19 (OP [qm 20 5,qm 21 6,Bs 22 1 1 [21],Ap 23 1 8 20 22,qm 5 23]) .skip)))) (OP [Bi 24 .add 11 (cI 1),qm 11 24])))
def c116:PC:=.seq (OP [Bx 2 0,Mv 4 cN]) (.seq (OP [Mv 5 cN]) (.seq (.seq (OP [Fa 8 1 2,Lo 9 8,Ln 10 9,Mv 11 (cI 0)]) (.block 0 (.loop zwI))) (.seq (OP [qm 25 5,qm 4 25]) .ret)))
theorem zs0:zz Tryz.prog 116 26 [.tmp 4] c116:=fK Tryz.func116
theorem zjx (P:za) (hP:P.Fits) (hf:P.zn.length≤1000) (v:Int):zu Tryz.prog 116 [yQ P,.sc (.int .i64 v)] (zw (P.vF v)):=by
 have b:=hP.zn
 refine zb zs0 zs (by simp[ze,Pure,z6]) ?_ (zh _)
 refine sR ?_
 rw[List.length_map]
 refine zE (y8 5 1 zs rfl) ?_
 refine zL [1,9,10] (λ((k,c,l):Nat × Nat × List Int)=>[(5,.own 1 c 0 c),(11,.sc (.int .i64 k))]) (λ(k,c,l)=>[(1,.vec true c 1 (zI l))]) (λ(k,c,l)=>k≤P.zn.length∧c=l.length∧c≤k∧l=za.pick (λi=>P.dst i==v) k) (λ(k,c,l)=>P.zn.length-k) (0,0,[]) ?_
 refine sW ?_
 refine⟨⟨zo,rfl,zo,rfl⟩,by exact sK,rfl,?_⟩
 rintro⟨k,c,l⟩ ⟨hk,hc,hck,hl⟩
 refine sW ?_
 refine sR ?_
 refine sS (λh=>?_) λh=>?_
 ·have hk':k<P.zn.length:=sO
  refine sL (WH P (k:=k) zo hk') ?_
  refine sS (λh2=>?_) λh2=>?_
  ·refine sJ ?_
   refine sI ?_
   refine⟨(k+1,c+1,l++[(k:Int)]),⟨zo,by simp[hc],zo,by rw[hl];simp[za.pick,h2]⟩,zd,?_⟩
   refine zj 2 zs rfl sQ (sU ?_)
   exact zk (xV hc)
  ·refine sI ?_
   refine⟨(k+1,c,l),⟨zo,hc,zo,by rw[hl];simp[za.pick,h2]⟩,zd,?_⟩
   exact zj 2 zs rfl sQ sQ
 ·have hk':k=P.zn.length:=by have:¬k<P.zn.length:=sO
                             omega
  subst hk'
  subst hl
  exact Wp hc rfl
def zvY:PC:=.seq (OP [Bi 12 .lss 11 10]) (.seq (.cond 12 .skip (.exit 0)) (.seq (.block 1 (.seq (OP [qm 13 11,Ia 14 2 9 11,LA 15 2 14,q 7 (.alloc [(.int .i64 0),(.int .i64 0)]),qm 6 13,So 2 7 15]) (.seq (OP [Fa 16 0 7,Lo 17 16,qm 18 1,Bi 19 .eql 17 18]) (.cond 19 (OP [qm 20 5,qm 21 6,Bs 22 1 1 [21],Ap 23 1 8 20 22,qm 5 23]) .skip)))) (OP [Bi 24 .add 11 (cI 1),qm 11 24])))
def c117:PC:=.seq (OP [Bx 2 0,Mv 4 cN]) (.seq (OP [Mv 5 cN]) (.seq (.seq (OP [Fa 8 1 2,Lo 9 8,Ln 10 9,Mv 11 (cI 0)]) (.block 0 (.loop zvY))) (.seq (OP [qm 25 5,qm 4 25]) .ret)))
theorem ztp:zz Tryz.prog 117 26 [.tmp 4] c117:=fK Tryz.func117
theorem zgh (P:za) (hP:P.Fits) (hf:P.zn.length≤1000) (v:Int):zu Tryz.prog 117 [yQ P,.sc (.int .i64 v)] (zw (P.ue v)):=by
 have b:=hP.zn
 refine zb ztp zs (by simp[ze,Pure,z6]) ?_ (zh _)
 refine sR ?_
 rw[List.length_map]
 refine zE (y8 5 1 zs rfl) ?_
 refine zL [1,9,10] (λ((k,c,l):Nat × Nat × List Int)=>[(5,.own 1 c 0 c),(11,.sc (.int .i64 k))]) (λ(k,c,l)=>[(1,.vec true c 1 (zI l))]) (λ(k,c,l)=>k≤P.zn.length∧c=l.length∧c≤k∧l=za.pick (λi=>P.src i==v) k) (λ(k,c,l)=>P.zn.length-k) (0,0,[]) ?_
 refine sW ?_
 refine⟨⟨zo,rfl,zo,rfl⟩,by exact sK,rfl,?_⟩
 rintro⟨k,c,l⟩ ⟨hk,hc,hck,hl⟩
 refine sW ?_
 refine sR ?_
 refine sS (λh=>?_) λh=>?_
 ·have hk':k<P.zn.length:=sO
  refine sL (WH P (k:=k) zo hk') ?_
  refine sS (λh2=>?_) λh2=>?_
  ·refine sJ ?_
   refine sI ?_
   refine⟨(k+1,c+1,l++[(k:Int)]),⟨zo,by simp[hc],zo,by rw[hl];simp[za.pick,h2]⟩,zd,?_⟩
   refine zj 2 zs rfl sQ (sU ?_)
   exact zk (xV hc)
  ·refine sI ?_
   refine⟨(k+1,c,l),⟨zo,hc,zo,by rw[hl];simp[za.pick,h2]⟩,zd,?_⟩
   exact zj 2 zs rfl sQ sQ
 ·have hk':k=P.zn.length:=by have:¬k<P.zn.length:=sO
                             omega
  subst hk'
  subst hl
  exact Wp hc rfl
def c115:PC:=.seq (OP [Mv 6 cF]) (.seq (.seq (OP [qm 7 0]) (.block 0 (.seq (.block 5 (.seq (.block 4 (.seq (.block 3 (.seq (.block 2 (.seq (.block 1 (.seq (.seq (.seq (OP [Bi 9 .eql 7 (cI 1),qm 8 9]) (.cond 8 (.exit 1) .skip)) (.seq (.seq (.seq (OP [Bi 11 .eql 7 (cI 2),qm 10 11]) (.cond 10 .skip (OP [Bi 12 .eql 7 (cI 3),qm 10 12]))) (.cond 10 (.exit 2) .skip)) (.seq (.seq (OP [Bi 14 .eql 7 (cI 4),qm 13 14]) (.cond 13 (.exit 3) .skip)) (.seq (.seq (OP [Bi 16 .eql 7 (cI 7),qm 15 16]) (.cond 15 (.exit 4) .skip)) (.seq (.seq (OP [Bi 18 .eql 7 (cI 5),qm 17 18]) (.cond 17 .skip (OP [Bi 19 .eql 7 (cI 6),qm 17 19]))) (.cond 17 (.exit 5) .skip)))))) (.exit 0))) (.seq (.seq (OP [qm 20 1,Bi 21 .eql 20 (cI 0),qm 22 21,GT 23 22 (.move 2),GT 24 22 (.bin .eql 23 (cI 1)),Pk 25 22 24 cF,qm 6 25]) .ret) (.exit 0)))) (.seq (.seq (OP [qm 26 1,Bi 27 .gtr 26 (cI 0),qm 28 27,GT 29 28 (.move 2),GT 30 28 (.bin .eql 29 (cI 0)),Pk 31 28 30 cF,qm 6 31]) .ret) (.exit 0)))) (.seq (.seq (OP [qm 32 1,Bi 33 .gtr 32 (cI 0),qm 34 33,GT 35 34 (.move 2),GT 36 34 (.bin .eql 35 (cI 1)),Pk 37 34 36 cF,qm 6 37]) .ret) (.exit 0)))) (.seq (OP [qm 38 2,Bi 39 .gtr 38 (cI 4)]) (.cond 39 (.seq (OP [Mv 6 cF]) .ret) .skip)))) (.seq (.seq (OP [qm 40 1,Bi 41 .gtr 40 (cI 0),qm 42 41,GT 43 42 (.move 2),GT 44 42 (.bin .gtr 43 (cI 0)),Pk 45 42 44 cF,qm 6 45]) .ret) (.exit 0))))) (.seq (OP [Mv 6 cF]) .ret))
theorem zsj:zz Tryz.prog 115 46 [.tmp 6] c115:=fK Tryz.func115
theorem zjW (k i o:Int):zu Tryz.prog 115 [.sc (.int .i64 k),.sc (.int .i64 i),.sc (.int .i64 o)] (.sc (.bool (za.zb9 k i o))):=by
 refine zb zsj zs (by simp[ze,Pure]) ?_ (by simp[Pure])
 refine sR ?_
 repeat' (first|refine sS (λh=>?_) λh=>?_|exact yu (by unfold za.zb9;simp_all;try omega))
def zww:PC:=.seq (OP [Bi 9 .lss 8 7]) (.seq (.cond 9 .skip (.exit 0)) (.seq (.block 1 (.seq (OP [qm 10 8,qm 5 10]) (.seq (OP [qm 11 1,qm 12 0,qm 13 5,Ia 14 2 12 13,LA 15 2 14,q 16 (.vI 11 [15])]) (.cond 16 (.seq (OP [qm 17 5,qm 4 17]) .ret) .skip)))) (OP [Bi 18 .add 8 (cI 1),qm 8 18])))
def c112:PC:=.seq (OP [Mv 4 (cI 0)]) (.seq (.seq (OP [qm 6 0,Ln 7 6,Mv 8 (cI 0)]) (.block 0 (.loop zww))) (.seq (OP [Mv 4 (cI (-1))]) .ret))
theorem zsU:zz Tryz.prog 112 19 [.tmp 4] c112:=fK Tryz.func112
def c182:PC:=.seq (OP [Mv 4 cF]) (.seq (OP [qm 5 0,qm 6 1,Ca 7 112 [5,6],Bi 8 .geq 7 (cI 0),qm 4 8]) .ret)
theorem zs6:zz Tryz.prog 182 9 [.tmp 4] c182:=fK Tryz.func182
theorem zbz (l:List (ByteArray × Int)) (hl:l.length≤9223372036854775807) (p:ByteArray × Int→Bool) (cl:FuncId) (cap:List D) (hp:ze cap) (hc:∀a∈l,zu Tryz.prog cl (.agg (vX a)::cap) (.sc (.bool (p a)))) :
  zu Tryz.prog 112 [.xj 2 (l.map vX),.fn (.func cl) [] cap] (.sc (.int .i64 (wc p l))):=by
 refine zb zsU zs (by simp[ze,Pure,hp,wB]) ?_ (by simp[Pure])
 refine sR ?_
 rw[List.length_map]
 have fin:∀{z:Int},z=wc p l→Deep [] (.sc (.int .i64 z)) (.sc (.int .i64 (wc p l))):=λh=>h▸.refl _
 refine zL [0,1,7] (λk:Nat=>[(8,.sc (.int .i64 k))]) (λ_=>[]) (λk=>k≤l.length∧∀j (hj:j<k) (hl:j<l.length),p l[j]=false) (λk=>l.length-k) 0 ?_
 refine sW ?_
 refine⟨⟨zo,λj hj=>zo⟩,by exact sK,rfl,?_⟩
 rintro k ⟨hk,hno⟩
 refine sW ?_
 refine sR ?_
 refine sS (λh=>?_) λh=>?_
 ·have hk':k<l.length:=sO
  refine⟨zo,vX l[k],by rw[List.getElem?_map,Int.toNat_natCast,List.getElem?_eq_getElem hk'];rfl,?_⟩
  refine sW ?_
  refine sC (hc _ (List.getElem_mem hk')) ?_
  refine sS (λh2=>?_) λh2=>?_
  ·exact fin (Xs hk' h2 λj hj=>hno j hj zo).symm
  ·refine sI ?_
   refine⟨k+1,⟨zo,λj hj hl=>?_⟩,zd,zC (by exact sK) rfl⟩
   by_cases e:j=k
   ·subst e;exact h2
   ·exact hno j zo hl
 ·have hk':¬k<l.length:=sO
  exact fin (ZF λj hj=>hno j zo hj).symm
theorem zdB (l:List (ByteArray × Int)) (hl:l.length≤9223372036854775807) (p:ByteArray × Int→Bool) (cl:FuncId) (cap:List D) (hp:ze cap) (hc:∀a∈l,zu Tryz.prog cl (.agg (vX a)::cap) (.sc (.bool (p a)))) :
  zu Tryz.prog 182 [.xj 2 (l.map vX),.fn (.func cl) [] cap] (.sc (.bool (l.any p))):=by
 refine zb zs6 zs (by simp[ze,Pure,hp,wB]) ?_ (by simp[Pure])
 refine sR ?_
 refine sC (zbz l hl p cl cap hp hc) ?_
 rw[um]
 exact .refl _
theorem ziT (P:za) (f:ByteArray→Bool):∀i,i≤P.nodes.length→((P.nodes.take i).any λm=>f m.1)=(List.range i).any λk=>f (P.name k)
 | 0,_=>rfl
 | i+1,h=>by
  rw[List.take_succ_eq_append_getElem zo,List.any_append,ziT P f i zo,List.range_succ,List.any_append]
  congr 1
  simp only[List.any_cons,List.any_nil,Bool.or_false]
  unfold za.name
  rw[List.getD_eq_getElem?_getD,List.getElem?_eq_getElem zo]
  rfl
def c183:PC:=.seq (OP [Bx 2 0,Mv 3 cF]) (.seq (OP [Fa 4 0 2,Lo 5 4,Fa 6 0 1,Lo 7 6,Bi 8 .eql 5 7,qm 3 8]) .ret)
theorem zrV:zz Tryz.prog 183 9 [.tmp 3] c183:=fK Tryz.func183
def zyd:PC:=.seq (OP [Bi 9 .lss 8 7]) (.seq (.cond 9 .skip (.exit 0)) (.seq (.block 1 (.seq (OP [qm 10 8,Ia 11 2 6 8,LA 12 2 11,q 4 (.alloc [(.string ⟨#[]⟩),(.int .i64 0)]),qm 3 10,So 2 4 12]) (.seq (.seq (OP [Fa 13 0 4,Lo 14 13,Ca 15 42 [14],Nt 16 15,qm 17 16,GF 18 17 (.zv 1 4),GF 19 17 (.zi 18),GF 20 17 (.bin .lss 19 (cI 1)),Pk 21 17 cT 20,qm 22 21,GF 23 22 (.zv 1 4),GF 24 22 (.zi 23),GF 25 22 (.bin .gtr 24 (cI 7)),Pk 26 22 cT 25]) (.cond 26 (.seq (OP [Mv 2 (cI 1)]) .ret) .skip)) (.seq (OP [Fa 27 0 1,Lo 28 27,qm 29 3,q 30 (.slc 2 28 none (some 29) none),q 31 (.ZP (.func 183) [] [4]),Ca 32 182 [30,31]]) (.cond 32 (.seq (OP [Mv 2 (cI 4)]) .ret) .skip))))) (OP [Bi 33 .add 8 (cI 1),qm 8 33])))
def c114:PC:=.seq (OP [Bx 1 0,Mv 2 (cI 0)]) (.seq (.seq (OP [Fa 5 0 1,Lo 6 5,Ln 7 6,Mv 8 (cI 0)]) (.block 0 (.loop zyd))) (.seq (OP [Mv 2 (cI 0)]) .ret))
theorem zt1:zz Tryz.prog 114 34 [.tmp 2] c114:=fK Tryz.func114
theorem zi0 (m n:ByteArray × Int):zu Tryz.prog 183 [.agg (vX m),.xk (vX n)] (.sc (.bool (Yz m.1 n.1))):=by
 refine zb zrV zs (by simp[ze,Pure,wB]) ?_ (by simp[Pure])
 refine sR ?_
 exact .refl _
theorem zlj (P:za) (hP:P.Fits):zu Tryz.prog 114 [yQ P] (.sc (.int .i64 P.XB)):=by
 have b:=hP.nodes
 refine zb zt1 zs (by simp[ze,Pure,z6]) ?_ (by simp[Pure])
 refine sR ?_
 rw[List.length_map]
 have hit:∀{H:List zf} {z:Int} (k:Nat),k<P.nodes.length→(∀j,j<k→P.Qb j=0)→P.Qb k=z→z≠0→Deep H (.sc (.int .i64 z)) (.sc (.int .i64 P.XB)):=λk h1 h2 h3 h4=>by
  unfold za.XB
  rw[za.zcI h1 h2 (by rw[h3];exact h4),h3]
  exact .refl _
 refine zL [1,6,7] (λk:Nat=>[(8,.sc (.int .i64 k))]) (λ_=>[]) (λk=>k≤P.nodes.length∧∀j,j<k→P.Qb j=0) (λk=>P.nodes.length-k) 0 ?_
 refine sW ?_
 refine⟨⟨zo,λj hj=>zo⟩,by exact sK,rfl,?_⟩
 rintro k ⟨hk,hall⟩
 refine sW ?_
 refine sR ?_
 refine sS (λh=>?_) λh=>?_
 ·have hk':k<P.nodes.length:=sO
  refine sL (ZZ P (k:=k) zo hk') ?_
  refine sC (W4 (P.name k) (hP.at hk')) ?_
  refine sS (λh1=>?_) λh1=>?_
  ·exact hit k hk' hall (by unfold za.Qb;rw[if_pos (.inl (by simpa using h1))]) zc
  have h1:x7 (P.name k)=true:=by simpa using h1
  refine sS (λh2=>?_) λh2=>?_
  ·exact hit k hk' hall (by unfold za.Qb;rw[if_pos (.inr (.inl (sO)))]) zc
  refine sS (λh3=>?_) λh3=>?_
  ·exact hit k hk' hall (by unfold za.Qb;rw[if_pos (.inr (.inr (sO)))]) zc
  have c1:¬(x7 (P.name k)=false∨P.kind k<1∨7<P.kind k):=by
   rintro(q|q|q)
   ·rw[h1] at q;cases q
   ·exact sO
   ·exact sO
  refine⟨zo,zo,by rw[List.length_map];omega,?_⟩
  refine sW ?_
  rw[List.drop_zero,Int.toNat_natCast,←List.map_take]
  refine sN (zdB (P.nodes.take k) (by rw[List.length_take];omega) (λm=>Yz m.1 (P.name k)) 183 [.xk (vX (P.name k,P.kind k))] (by simp[ze,Pure,wB]) λa _=>zi0 a _) ?_
  rw[ziT P (λs=>Yz s (P.name k)) k zo]
  refine sS (λh4=>?_) λh4=>?_
  ·exact hit k hk' hall (by unfold za.Qb;rw[if_neg c1,if_pos h4]) zc
  ·refine sI ?_
   refine⟨k+1,⟨zo,λj hj=>?_⟩,zd,?_⟩
   ·by_cases e:j=k
    ·subst e;unfold za.Qb;rw[if_neg c1,if_neg (by rw[h4];simp)]
    ·exact hall j zo
   ·exact zj 1 zs rfl sQ sQ
 ·have hk':k=P.nodes.length:=by have:¬k<P.nodes.length:=sO
                                omega
  subst hk'
  have e:P.XB=0:=za.Yf.2 hall
  rw[e]
  exact .refl _
end
section
open Go.RowKit
def zf2 (n:Int):List D:=[.sc (.int .i64 n)]
theorem ziP {m:Nat} (n:Int):zl m (zf2 n):=by simp[zf2,zl,zp]
theorem V4 {f:Nat→Nat} {c:Nat}:∀n,(∀j,j<n→f j≤c)→vr f n≤n*c
 | 0,_=>by simp[vr]
 | n+1,h=>by
  simp only[vr]
  have h1:=V4 n λj hj=>h j zo
  have h2:=h n zo
  rw[Nat.add_mul]
  omega
theorem zuu {α:Type} {zF:Nat} {c:α→List D} {L:List (List α)} {T:List zf} {a b:zf} {K:List zf→Prop} {i:Nat} {o:zf} (l:List α) (h:i<L.length) (ho:o=.vec true l.length zF (l.map c)) (k:K (a::b::(yR zF c (L.set i l)++T))):XA (a::b::(yR zF c L++T)) (i+2) o K:=by
 subst ho
 rw[vP]
 refine⟨by simp;omega,?_⟩
 rw[List.set_cons_succ,List.set_cons_succ,List.set_append_left _ _ (by simpa using h),zew]
 exact k
theorem zkP (P:za) (h1:P.nodes.length≤20) (h2:P.zn.length≤30) (hf:∀i,i<P.zn.length→P.Zj i=true) :
  Vv (P.graph P.zn.length)=0∧qV (P.graph P.zn.length)∧zbU (P.graph P.zn.length) (λ_=>false)≤600:=by
 have hl:=P.ZM P.zn.length
 have row:∀l∈P.graph P.zn.length,∃u,l=(P.graph P.zn.length).getD u []:=λl hl=>by
  obtain⟨u,hu,rfl⟩:=List.mem_iff_getElem.1 hl
  exact⟨u,by rw[List.getD_eq_getElem?_getD,List.getElem?_eq_getElem hu];rfl⟩
 refine⟨uK.2 ⟨zo,λl h=>?_⟩,⟨zo,λl h=>?_⟩,?_⟩
 ·obtain⟨u,rfl⟩:=row l h
  refine xN λx hx=>?_
  obtain⟨i,q1,_,q3⟩:=(za.zfG hf).1 hx
  have:=za.qx.1 (hf i q1)
  rw[hl]
  omega
 ·obtain⟨u,rfl⟩:=row l h
  have:=(P.Wf P.zn.length u).2
  omega
 ·have:=V4 (f:=λv=>if false=true then 0 else ((P.graph P.zn.length).getD v []).length) (c:=30) (P.graph P.zn.length).length λj _=>by
   have:=(P.Wf P.zn.length j).2
   simp only[Bool.false_eq_true,if_false]
   omega
  unfold zbU
  refine Nat.le_trans this ?_
  rw[hl]
  omega
theorem zkE {H:List zf} {id v n:Nat} {q:Bool} {L:List (List Int)} (h:H[id]? = some (.vec q v 1 (L.map λl=>[zw l]))) (hn:n=L.length):Deep H (.own id v 0 n) (z8 L):=by
 subst hn
 exact .own _ _ _ _ _ _ _ _ h (by rw[zr zs];exact zU _)
def zzY:PC:=.seq (OP [Bi 38 .lss 37 36]) (.seq (.cond 38 .skip (.exit 0)) (.seq (.block 1 (.seq (OP [Ia 39 2 35 37,LA 40 2 39,q 6 (.alloc [(.int .i64 0),(.int .i64 0)]),So 2 6 40]) (.seq (.seq (OP [Fa 41 0 6,Lo 42 41,Bi 43 .lss 42 (cI 0),qm 44 43,GF 45 44 (.zv 0 6),GF 46 44 (.zi 45),GF 47 44 (.move 4),GF 48 44 (.len 47),GF 49 44 (.bin .geq 46 48),Pk 50 44 cT 49,qm 51 50,GF 52 51 (.zv 1 6),GF 53 51 (.zi 52),GF 54 51 (.bin .lss 53 (cI 0)),Pk 55 51 cT 54,qm 56 55,GF 57 56 (.zv 1 6),GF 58 56 (.zi 57),GF 59 56 (.move 4),GF 60 56 (.len 59),GF 61 56 (.bin .geq 58 60),Pk 62 56 cT 61]) (.cond 62 (.seq (OP [Mv 2 (cI 1)]) .ret) .skip)) (.ops [qm 63 4,Fa 64 0 6,qd 65 (.zi 64) 2,qm 66 4,Fa 67 0 6,qd 68 (.zi 67) 16,qd 69 (.zM 1 66 68) 56,qd 70 (.zi 69) 120,Fa 71 1 6,qd 72 (.zi 71) 256,qd 73 (.wh 1 1 [72]) 768,qd 74 (.append 1 8 70 73) 2040,qd 75 (.zM 1 63 65) 4095,qk (.store 1 75 74) 8191] true)))) (OP [Bi 76 .add 37 (cI 1),qm 37 76])))
def zAr:PC:=.seq (OP [Bi 81 .lss 80 79]) (.seq (.cond 81 .skip (.exit 2)) (.seq (.block 3 (.seq (OP [qm 82 80,Ia 83 2 78 80,LA 84 2 83,q 10 (.alloc [(.string ⟨#[]⟩),(.int .i64 0)]),qm 9 82,So 2 10 84]) (.seq (OP [Fa 85 1 10,Lo 86 85,Bi 87 .eql 86 (cI 1)]) (.cond 87 (.seq (OP [qm 88 9,qm 7 88]) (OP [qm 89 8,Bi 90 .add 89 (cI 1),qm 8 90])) .skip)))) (OP [Bi 91 .add 80 (cI 1),qm 80 91])))
def zy5:PC:=.seq (OP [Bi 98 .lss 97 96]) (.seq (.cond 98 .skip (.exit 4)) (.seq (.block 5 (.seq (OP [qm 99 97,Ia 100 2 95 97,LA 101 2 100,q 12 (.alloc [(.string ⟨#[]⟩),(.int .i64 0)]),qm 11 99,So 2 12 101]) (.seq (.ops [Fa 102 1 12,qd 103 (.zi 102) 1,LA 104 2 1,qm 105 11,qd 106 (.call 116 [104,105]) 12,qd 107 (.len 106) 28,LA 108 2 1,qm 109 11,qd 110 (.call 117 [108,109]) 220,qd 111 (.len 110) 476,qd 112 (.call 115 [103,107,111]) 1023,qd 113 (.un .not 112) 2047] true) (.cond 113 (.seq (OP [Mv 2 (cI 1)]) .ret) .skip)))) (OP [Bi 114 .add 97 (cI 1),qm 97 114])))
def c57:PC:=.seq (OP [Bx 1 0,Mv 2 (cI 0)]) (.seq (.seq (OP [Fa 15 0 1,Lo 16 15,Ln 17 16,Bi 18 .gtr 17 (cI 20),qm 19 18,GF 20 19 (.zv 1 1),GF 21 19 (.zi 20),GF 22 19 (.len 21),GF 23 19 (.bin .gtr 22 (cI 30)),Pk 24 19 cT 23]) (.cond 24 (.seq (OP [Mv 2 (cI 2)]) .ret) .skip)) (.seq (.seq (OP [LA 25 2 1,Ca 26 114 [25],qm 3 26]) (.seq (OP [qm 27 3,Bi 28 .neq 27 (cI 0)]) (.cond 28 (.seq (OP [qm 29 3,qm 2 29]) .ret) .skip))) (.seq (OP [Fa 30 0 1,Lo 31 30,Ln 32 31,q 33 (.x5 1 24 [(.slice none 0 0)] 32 32),qm 4 33]) (.seq (.seq (OP [Fa 34 1 1,Lo 35 34,Ln 36 35,Mv 37 (cI 0)]) (.stop (.block 0 (.loop zzY)))) (.seq (OP [Mv 7 (cI (-1)),Mv 8 (cI 0)]) (.seq (.seq (OP [Fa 77 0 1,Lo 78 77,Ln 79 78,Mv 80 (cI 0)]) (.block 2 (.loop zAr))) (.seq (.seq (OP [qm 92 8,Bi 93 .neq 92 (cI 1)]) (.cond 93 (.seq (OP [Mv 2 (cI 1)]) .ret) .skip)) (.seq (.seq (OP [Fa 94 0 1,Lo 95 94,Ln 96 95,Mv 97 (cI 0)]) (.block 4 (.loop zy5))) (.seq (.seq (OP [qm 116 4,qm 117 7,Bs 118 1 1 [117],Ca 119 14 [116,118],qm 115 119,Xt 120 0 115,Xt 121 1 115,qm 13 120,qm 14 121]) (.seq (OP [qm 122 13,Ca 123 118 [122,cF]]) (.cond 123 (.seq (OP [Mv 2 (cI 6)]) .ret) .skip))) (.seq (OP [Mv 2 (cI 0)]) .ret))))))))))
theorem zyw:zz Tryz.prog 57 124 [.tmp 2] c57:=fK Tryz.func57
theorem Qw (P:za) (hP:P.Fits):zu Tryz.prog 57 [yQ P] (.sc (.int .i64 P.xc)):=by
 have b1:=hP.nodes
 have b2:=hP.zn
 refine zb zyw zs (by simp[ze,Pure,z6]) ?_ (by simp[Pure])
 refine sR ?_
 rw[List.length_map]
 have fin:∀{H:List zf} {z:Int},z=P.xc→Deep H (.sc (.int .i64 z)) (.sc (.int .i64 P.xc)):=λh=>h▸.refl _
 refine sS (λh1=>?_) λh1=>?_
 ·exact fin (by unfold za.xc;rw[if_pos (.inl (sO))])
 rw[List.length_map]
 refine sS (λh2=>?_) λh2=>?_
 ·exact fin (by unfold za.xc;rw[if_pos (.inr (sO))])
 have c1:¬(20<P.nodes.length∨30<P.zn.length):=sO
 refine sC (zlj P hP) ?_
 refine sS (λh3=>?_) λh3=>?_
 ·have h3:P.XB≠0:=sO
  exact fin (by unfold za.xc;rw[if_neg c1,if_pos h3])
 have c2:¬P.XB≠0:=sO
 rw[List.length_map]
 refine⟨zo,zo,zo,?_⟩
 rw[Int.toNat_natCast]
 refine sW ?_
 rw[List.length_map]
 refine zgR (λ_:Unit=>[(1,.loc 0 0),(4,.own 1 0 0 P.nodes.length)]) (λ_=>[.row true P.cells,.vec true 0 1 ((P.graph P.zn.length).map λl=>[zw l])]) (λ_=>∀i,i<P.zn.length→P.Zj i=true) ?_ ?_
 ·refine sR ?_
  refine zE (Js 1 1 P.nodes.length 0 zs rfl) ?_
  refine zZ [1,4,35,36] (λk:Nat=>[(37,.sc (.int .i64 k))]) (λk=>.row true P.cells::.vec true 0 1 (wJ 2 (P.graph k))::yR 1 zf2 (P.graph k)) (λk=>k≤P.zn.length∧∀i,i<k→P.Zj i=true) (λk=>P.zn.length-k) 0 ?_
  refine sW ?_
  refine⟨⟨zo,λi hi=>zo⟩,by exact sK,?_,?_⟩
  ·show _::_::_=_::_::_
   rw[XT 1 _ zf2]
   exact congrArg (λx=>zf.row true P.cells::zf.vec true 0 1 x::_) (XP (α:=Int) 2 _)
  rintro k ⟨hk,hall⟩
  have hgl:=P.ZM k
  refine sW ?_
  refine sR ?_
  refine sS (λh=>?_) λh=>?_
  ·have hk':k<P.zn.length:=sO
   refine sL (WH P (k:=k) zo hk') ?_
   refine Jf ?_
   refine sW ?_
   (repeat (first|(refine y7 0 rfl ?_;((conv=>whnf);repeat(refine⟨rfl,?_⟩;conv=>whnf)))|(refine y4 0 rfl ?_;((conv=>whnf);repeat(refine⟨rfl,?_⟩;conv=>whnf)))|(refine y7 1 rfl ?_;((conv=>whnf);repeat(refine⟨rfl,?_⟩;conv=>whnf)))|(refine y4 1 rfl ?_;((conv=>whnf);repeat(refine⟨rfl,?_⟩;conv=>whnf)))))
   have bad:∀{H:List zf},P.Zj k=false→Deep H (.sc (.int .i64 1)) (.sc (.int .i64 P.xc)):=λh=>fin (by
    unfold za.xc
    rw[if_neg c1,if_neg c2,if_pos]
    intro q
    rw[q k hk'] at h;cases h)
   have nok:¬(0≤P.src k∧P.src k<P.nodes.length∧0≤P.dst k∧P.dst k<P.nodes.length)→P.Zj k=false:=λh=>by rw[←Bool.not_eq_true,za.qx];exact h
   refine sS (λh4=>?_) λh4=>?_
   ·exact bad (nok (sO))
   (repeat (first|(refine y7 0 rfl ?_;((conv=>whnf);repeat(refine⟨rfl,?_⟩;conv=>whnf)))|(refine y4 0 rfl ?_;((conv=>whnf);repeat(refine⟨rfl,?_⟩;conv=>whnf)))|(refine y7 1 rfl ?_;((conv=>whnf);repeat(refine⟨rfl,?_⟩;conv=>whnf)))|(refine y4 1 rfl ?_;((conv=>whnf);repeat(refine⟨rfl,?_⟩;conv=>whnf)))))
   refine sS (λh5=>?_) λh5=>?_
   ·exact bad (nok (sO))
   (repeat (first|(refine y7 0 rfl ?_;((conv=>whnf);repeat(refine⟨rfl,?_⟩;conv=>whnf)))|(refine y4 0 rfl ?_;((conv=>whnf);repeat(refine⟨rfl,?_⟩;conv=>whnf)))|(refine y7 1 rfl ?_;((conv=>whnf);repeat(refine⟨rfl,?_⟩;conv=>whnf)))|(refine y4 1 rfl ?_;((conv=>whnf);repeat(refine⟨rfl,?_⟩;conv=>whnf)))))
   refine sS (λh6=>?_) λh6=>?_
   ·exact bad (nok (sO))
   (repeat (first|(refine y7 0 rfl ?_;((conv=>whnf);repeat(refine⟨rfl,?_⟩;conv=>whnf)))|(refine y4 0 rfl ?_;((conv=>whnf);repeat(refine⟨rfl,?_⟩;conv=>whnf)))|(refine y7 1 rfl ?_;((conv=>whnf);repeat(refine⟨rfl,?_⟩;conv=>whnf)))|(refine y4 1 rfl ?_;((conv=>whnf);repeat(refine⟨rfl,?_⟩;conv=>whnf)))))
   refine sS (λh7=>?_) λh7=>?_
   ·exact bad (nok (sO))
   have hok:P.Zj k=true:=za.qx.2 (sO)
   have ho:=za.qx.1 hok
   have hrow:=(P.Wf k (P.src k).toNat).2
   (repeat (first|(refine y7 0 rfl ?_;((conv=>whnf);repeat(refine⟨rfl,?_⟩;conv=>whnf)))|(refine y4 0 rfl ?_;((conv=>whnf);repeat(refine⟨rfl,?_⟩;conv=>whnf)))|(refine y7 1 rfl ?_;((conv=>whnf);repeat(refine⟨rfl,?_⟩;conv=>whnf)))|(refine y4 1 rfl ?_;((conv=>whnf);repeat(refine⟨rfl,?_⟩;conv=>whnf)))))
   refine sB ?_
   refine⟨_,xX (i:=(P.src k).toNat) zo zo,?_⟩
   refine sW ?_
   (repeat (first|(refine y7 0 rfl ?_;((conv=>whnf);repeat(refine⟨rfl,?_⟩;conv=>whnf)))|(refine y4 0 rfl ?_;((conv=>whnf);repeat(refine⟨rfl,?_⟩;conv=>whnf)))|(refine y7 1 rfl ?_;((conv=>whnf);repeat(refine⟨rfl,?_⟩;conv=>whnf)))|(refine y4 1 rfl ?_;((conv=>whnf);repeat(refine⟨rfl,?_⟩;conv=>whnf)))))
   refine zir ?_
   refine sW ?_
   (repeat (first|(refine y7 0 rfl ?_;((conv=>whnf);repeat(refine⟨rfl,?_⟩;conv=>whnf)))|(refine y4 0 rfl ?_;((conv=>whnf);repeat(refine⟨rfl,?_⟩;conv=>whnf)))|(refine y7 1 rfl ?_;((conv=>whnf);repeat(refine⟨rfl,?_⟩;conv=>whnf)))|(refine y4 1 rfl ?_;((conv=>whnf);repeat(refine⟨rfl,?_⟩;conv=>whnf)))))
   refine J5 zo ?_
   refine sW ?_
   refine⟨by unfold y5;simp only[List.length_drop,List.length_take,List.length_cons,List.length_nil];omega,?_⟩
   refine zuu (((P.graph k).getD (P.src k).toNat [])++[P.dst k]) zo ?_ ?_
   ·exact zeG
   refine sW ?_
   refine sB ?_
   refine⟨_,xX (i:=(P.src k).toNat) zo zo,?_⟩
   refine sW ?_
   have hne:(P.src k).toNat≠(P.graph k).length:=zo
   (refine zxH (by dsimp only[q,qm,qw,qd,qn,qk];simp[zf3,UC,V6,zk2,znk,zm2,zqn,Qc,zwr,hne]) ?_;((conv=>whnf);repeat(refine⟨rfl,?_⟩;conv=>whnf)))
   refine sI ?_
   refine⟨k+1,⟨zo,λi hi=>?_⟩,zd,?_⟩
   ·by_cases e:i=k
    ·subst e;exact hok
    ·exact hall i zo
   refine zj (P.nodes.length+2) zs (by simp[hgl,za.ZM]) (by exact sQ) ⟨⟨rfl,.refl _,zs⟩,⟨rfl,rfl,rfl,zk ?_,ur (by rw[za.ZM];omega)⟩,X6 ziP⟩
   exact Xc zo zo _ zs
  have hkn:k=P.zn.length:=by have:¬k<P.zn.length:=sO
                             omega
  subst hkn
  refine⟨(),hall,zj 2 zs rfl (by exact sQ) ⟨⟨rfl,.refl _,zs⟩,⟨rfl,rfl,rfl,Jm (c:=zf2) (λi hi=>by simp[Yy]) (λi hi=>?_),by simp[zl]⟩,zeF _⟩⟩
  show(yR 1 zf2 (P.graph P.zn.length))[i]? = _
  exact YT hi
 rintro _ hall
 refine sW ?_
 rw[List.length_map]
 have c3:¬¬∀i,i<P.zn.length→P.Zj i=true:=λq=>q hall
 refine zL [1,4,78,79] (λ((k,s,m):Nat × Int × Int)=>[(7,.sc (.int .i64 s)),(8,.sc (.int .i64 m)),(80,.sc (.int .i64 k))]) (λ_=>[]) (λ(k,s,m)=>k≤P.nodes.length∧s=P.Yu k∧m=P.uk k) (λ(k,s,m)=>P.nodes.length-k) (0,-1,0) ?_
 refine sW ?_
 refine⟨⟨zo,rfl,rfl⟩,by exact sK,rfl,?_⟩
 rintro⟨k,s,m⟩ ⟨hk,hs,hm⟩
 refine sW ?_
 refine sR ?_
 refine sS (λh=>?_) λh=>?_
 ·have hk':k<P.nodes.length:=sO
  have hle:=P.zfF k
  refine sL (ZZ P (k:=k) zo hk') ?_
  refine sS (λh4=>?_) λh4=>?_
  ·have h4:P.kind k=1:=sO
   refine sI ?_
   refine sI ?_
   refine⟨(k+1,k,m+1),⟨zo,by simp[za.Yu,h4],by simp[za.uk,h4,hm]⟩,zd,?_⟩
   exact zj 2 zs rfl sQ sQ
  ·have h4:P.kind k≠1:=sO
   refine sI ?_
   refine⟨(k+1,s,m),⟨zo,by simp[za.Yu,h4,hs],by simp[za.uk,h4,hm]⟩,zd,?_⟩
   exact zj 2 zs rfl sQ sQ
 have hkn:k=P.nodes.length:=by have:¬k<P.nodes.length:=sO
                               omega
 subst hs hm
 subst hkn
 clear h hk
 refine sS (λh4=>?_) λh4=>?_
 ·have h4:P.uk P.nodes.length≠1:=sO
  exact fin (by unfold za.xc;rw[if_neg c1,if_neg c2,if_neg c3,if_pos h4])
 have h4:P.uk P.nodes.length=1:=sO
 have hst:=P.zdp P.nodes.length zo
 have c4:¬P.uk P.nodes.length≠1:=λq=>q h4
 rw[List.length_map]
 refine zL [1,4,7,95,96] (λk:Nat=>[(97,.sc (.int .i64 k))]) (λ_=>[]) (λk=>k≤P.nodes.length∧∀i,i<k→P.Y9 i=true) (λk=>P.nodes.length-k) 0 ?_
 refine sW ?_
 refine⟨⟨zo,λi hi=>zo⟩,by exact sK,rfl,?_⟩
 rintro k ⟨hk,hok⟩
 refine sW ?_
 refine sR ?_
 refine sS (λh=>?_) λh=>?_
 ·have hk':k<P.nodes.length:=sO
  refine sL (ZZ P (k:=k) zo hk') ?_
  refine sC (zjx P hP zo k) ?_
  refine sC (zgh P hP zo k) ?_
  rw[List.length_map,List.length_map]
  refine sC (zjW (P.kind k) (P.vF k).length (P.ue k).length) ?_
  refine sS (λh5=>?_) λh5=>?_
  ·exact fin (by
    unfold za.xc
    rw[if_neg c1,if_neg c2,if_neg c3,if_neg c4,if_pos]
    intro q
    have:=q k hk'
    unfold za.Y9 at this
    rw[this] at h5;cases h5)
  ·refine sI ?_
   refine⟨k+1,⟨zo,λi hi=>?_⟩,zd,?_⟩
   ·by_cases e:i=k
    ·subst e;unfold za.Y9;simpa using h5
    ·exact hok i zo
   exact zj 2 zs rfl sQ sQ
 have hkn:k=P.nodes.length:=by have:¬k<P.nodes.length:=sO
                               omega
 subst hkn
 have c5:¬¬∀i,i<P.nodes.length→P.Y9 i=true:=λq=>q hok
 obtain⟨g1,g2,g3⟩:=zkP P zo zo hall
 have hlen:=P.ZM P.zn.length
 refine .inr (.inr (.inr (.inr (.inr (.inl ⟨rfl,_,_,.cons _ _ _ _ (zkE rfl hlen.symm) (.cons _ _ _ _ (Wp (l:=[P.Yu P.nodes.length]) rfl rfl) .nil),
  zf5 (P.graph P.zn.length) g1 g2 [P.Yu P.nodes.length] (xN λx hx=>by rw[List.mem_singleton] at hx;subst hx;omega) (by simp;omega),?_⟩)))))
 refine sW ?_
 refine sC (zer _ (Vq (P.graph P.zn.length) [P.Yu P.nodes.length]) zo false) ?_
 rw[hlen]
 refine sS (λh6=>?_) λh6=>?_
 ·obtain⟨v,q1,q2⟩:=Xq.1 h6
  exact fin (by
   unfold za.xc
   rw[if_neg c1,if_neg c2,if_neg c3,if_neg c4,if_neg c5,if_pos]
   intro q
   rw[uP.2 (q v q1)] at q2;cases q2)
 ·exact fin (by
   unfold za.xc
   rw[if_neg c1,if_neg c2,if_neg c3,if_neg c4,if_neg c5,if_neg]
   intro q
   refine q λv hv=>?_
   unfold za.zsb
   rw[←uP,←Bool.not_eq_false]
   intro q2
   rw[Xq.2 ⟨v,hv,q2⟩] at h6;cases h6)
end
section
open Go.RowKit
end
section
open Go.RowKit
noncomputable def za.uV (P:za) (n:Int):Int:=if P.xc≠0 then P.xc else if n<0∨(P.nodes.length:Int)≤n then 1 else 0
theorem yM {P:za} (h:P.xc=0):P.nodes.length≤20∧P.zn.length≤30:=by
 unfold za.xc at h
 split at h
 ·exact absurd h zc
 ·omega
def c187:PC:=.seq (OP [Bx 3 0,Mv 6 cN,Mv 7 (cI 0)]) (.seq (.seq (OP [LA 9 2 3,Ca 10 57 [9],qm 8 10]) (.seq (OP [qm 11 8,Bi 12 .neq 11 (cI 0)]) (.cond 12 (.seq (OP [qm 13 8,Mv 6 cN,qm 7 13]) .ret) .skip))) (.seq (.seq (OP [qm 14 1,Bi 15 .lss 14 (cI 0),qm 16 15,GF 17 16 (.move 1),GF 18 16 (.zv 0 3),GF 19 16 (.zi 18),GF 20 16 (.len 19),GF 21 16 (.bin .geq 17 20),Pk 22 16 cT 21]) (.cond 22 (.seq (OP [Mv 6 cN,Mv 7 (cI 1)]) .ret) .skip)) (.seq (OP [qm 23 2,LA 24 2 3,qm 25 1,q 26 (.vI 23 [24,25]),qm 6 26,Mv 7 (cI 0)]) .ret)))
theorem zs2:zz Tryz.prog 187 27 [.tmp 6,.tmp 7] c187:=fK Tryz.func187
theorem zgx (P:za) (hP:P.Fits) (n:Int) (f:FuncId) (l:List Int) (hl:P.uV n=0→zu Tryz.prog f [yQ P,.sc (.int .i64 n)] (zw l)) (hb:P.uV n≠0→l=[]) :
  zu Tryz.prog 187 [yQ P,.sc (.int .i64 n),.fn (.func f) [] []] (.yI [zw l,.sc (.int .i64 (P.uV n))]):=by
 have b1:=hP.nodes
 refine zb zs2 zs (by simp[ze,Pure,z6]) ?_ (by simp[Pure,ze,zh])
 have bad:∀{H:List zf} {e:Int},e≠0→P.uV n=e→Deep H (.yI [.sc (.slice none 0 0),.sc (.int .i64 e)]) (.yI [zw l,.sc (.int .i64 (P.uV n))]):=λh k=>by
  rw[k,hb (by rw[k];exact h)]
  exact .yI _ _ (.cons _ _ _ _ (.none _) (.cons _ _ _ _ (.refl _) .nil))
 refine sR ?_
 refine sC (Qw P hP) ?_
 refine sS (λh1=>?_) λh1=>?_
 ·have h1:P.xc≠0:=sO
  exact bad h1 (by unfold za.uV;rw[if_pos h1])
 have h1:P.xc=0:=sO
 refine sS (λh2=>?_) λh2=>?_
 ·exact bad zc (by unfold za.uV;rw[if_neg zo,if_pos (.inl (sO))])
 rw[List.length_map]
 refine sS (λh3=>?_) λh3=>?_
 ·exact bad zc (by unfold za.uV;rw[if_neg zo,if_pos (.inr (sO))])
 ·have e:P.uV n=0:=by unfold za.uV;rw[if_neg zo,if_neg (sO)]
  refine sC (hl e) ?_
  rw[e]
  exact .refl _
noncomputable def za.zhZ (P:za) (n:Int):List Int:=if P.uV n=0 then P.vF n else []
noncomputable def za.zbj (P:za) (n:Int):List Int:=if P.uV n=0 then P.ue n else []
def c123:PC:=.seq (OP [Bx 2 0,Mv 4 cN,Mv 5 (cI 0)]) (.seq (OP [LA 6 2 2,qm 7 1,Ca 8 187 [6,7,(.func 116)],Xt 9 0 8,Xt 10 1 8,qm 4 9,qm 5 10]) .ret)
theorem zuE:zz Tryz.prog 123 11 [.tmp 4,.tmp 5] c123:=fK Tryz.func123
theorem Ji (P:za) (hP:P.Fits) (n:Int):zu Tryz.prog 123 [yQ P,.sc (.int .i64 n)] (.yI [zw (P.zhZ n),.sc (.int .i64 (P.uV n))]):=by
 refine zb zuE zs (by simp[ze,Pure,z6]) ?_ (by simp[Pure,ze,zh])
 refine sR ?_
 refine sC (zgx P hP n 116 (P.zhZ n) (λh=>by
  unfold za.zhZ
  rw[if_pos h]
  refine zjx P hP ?_ n
  unfold za.uV at h
  split at h
  ·rename_i q;exact absurd h q
  ·rename_i q
   have:=yM (Classical.not_not.1 q)
   omega) (λh=>by unfold za.zhZ;rw[if_neg h])) ?_
 exact .refl _
def c124:PC:=.seq (OP [Bx 2 0,Mv 4 cN,Mv 5 (cI 0)]) (.seq (OP [LA 6 2 2,qm 7 1,Ca 8 187 [6,7,(.func 117)],Xt 9 0 8,Xt 10 1 8,qm 4 9,qm 5 10]) .ret)
theorem zs7:zz Tryz.prog 124 11 [.tmp 4,.tmp 5] c124:=fK Tryz.func124
theorem zfm (P:za) (hP:P.Fits) (n:Int):zu Tryz.prog 124 [yQ P,.sc (.int .i64 n)] (.yI [zw (P.zbj n),.sc (.int .i64 (P.uV n))]):=by
 refine zb zs7 zs (by simp[ze,Pure,z6]) ?_ (by simp[Pure,ze,zh])
 refine sR ?_
 refine sC (zgx P hP n 117 (P.zbj n) (λh=>by
  unfold za.zbj
  rw[if_pos h]
  refine zgh P hP ?_ n
  unfold za.uV at h
  split at h
  ·rename_i q;exact absurd h q
  ·rename_i q
   have:=yM (Classical.not_not.1 q)
   omega) (λh=>by unfold za.zbj;rw[if_neg h])) ?_
 exact .refl _
end
end
section
section
abbrev zR:=Int × Int × Int
def zeN:Nat→Int
 | 0=>0
 | k+1=>zeN k*2+1
theorem JP:∀k,zeN k+1=2^k
 | 0=>rfl
 | k+1=>by have:=JP k;simp only[zeN];rw[Int.pow_succ];omega
theorem zd1 {k n:Nat} (h:k≤n):(2:Int)^k≤2^n:=by
 have:=Nat.pow_le_pow_right (n:=2) zc h
 have h1:((2^k:Nat):Int)=2^k:=zs
 have h2:((2^n:Nat):Int)=2^n:=zs
 rw[←h1,←h2]
 exact_mod_cast this
theorem JJ (k:Nat):(1:Int)≤2^k:=zd1 (Nat.zero_le k)
theorem zhx {k n:Nat} (h:k≤n):0≤zeN k∧zeN k≤zeN n:=by
 have h1:=JP k
 have h2:=JP n
 have h3:=zd1 h
 have h4:=JJ k
 omega
def orS (n:Int):Nat→List zR
 | 0=>[]
 | k+1=>orS n k++[(n,-1,(k:Int)+1)]
def zhP (n i:Int):Nat→List zR
 | 0=>[]
 | k+1=>zhP n i k++[(n,i,2^k)]
theorem zmp (n:Int):∀k,(orS n k).length=k
 | 0=>rfl
 | k+1=>by simp[orS,zmp n k]
theorem zkh (n i:Int):∀k,(zhP n i k).length=k
 | 0=>rfl
 | k+1=>by simp[zhP,zkh n i k]
namespace za
def Xj (P:za) (n:Int):Int:=zeN (P.ue n).length
def zad (P:za) (k:Int) (n i:Int):List zR:=if k=5 then zhP n i (P.ue n).length else [(n,i,P.Xj n)]
def Z8 (P:za) (k:Int) (n:Int):Nat→List zR
 | 0=>[]
 | j+1=>P.Z8 k n j++P.zad k n ((P.vF n).getD j 0)
def qR (P:za) (n:Nat):List zR :=
 if P.kind n=4∨P.kind n=5∨P.kind n=2∨P.kind n=3 then P.Z8 (P.kind n) n (P.vF n).length
 else if P.kind n=6 then [((n:Int),-1,P.Xj n)]
 else if P.kind n=7 then orS n (P.Xj n).toNat
 else []
def wH (P:za):Nat→List zR
 | 0=>[]
 | n+1=>P.wH n++P.qR n
theorem zam (P:za) (k n:Int) (ho:(P.ue n).length≤30):∀j,(P.Z8 k n j).length≤30*j
 | 0=>by simp[Z8]
 | j+1=>by
  have:=zam P k n ho j
  simp only[Z8,zad,List.length_append]
  split
  ·rw[zkh];omega
  ·simp;omega
theorem zpV {P:za} {n:Nat} (h:P.Y9 n=true) (hk:P.kind n=7):(P.Xj n).toNat≤15:=by
 unfold Y9 zb9 at h
 rw[hk] at h
 simp only[if_false,if_true,Bool.and_eq_true,decide_eq_true_eq,(by decide:¬(7:Int)=1),(by decide:¬((7:Int)=2∨(7:Int)=3)),(by decide:¬(7:Int)=4)] at h
 have:=(zhx (k:=(P.ue n).length) (n:=4) zo).2
 have e:zeN 4=15:=rfl
 unfold Xj
 omega
theorem zbb {P:za} {n:Nat} (h:P.Y9 n=true) (hf:P.zn.length≤30):(P.qR n).length≤900:=by
 have l1:=P.zaa n
 have l2:=P.VG n
 unfold qR
 split
 ·have:=P.zam (P.kind n) n zo (P.vF n).length
  omega
 ·split
  ·simp
  ·split
   ·rw[zmp]
    have:=zpV h (by assumption)
    omega
   ·simp
theorem zbO {P:za} (hf:P.zn.length≤30):∀n,(∀i,i<n→P.Y9 i=true)→(P.wH n).length≤900*n
 | 0,_=>by simp[wH]
 | n+1,h=>by
  have:=zbO hf n λi hi=>h i zo
  have:=zbb (h n zo) hf
  simp only[wH,List.length_append]
  omega
theorem zgi {P:za} (h:P.xc=0):∀i,i<P.nodes.length→P.Y9 i=true:=by
 unfold xc at h
 repeat' (split at h)
 all_goals first|(exact absurd h zc)|(exact absurd h (by assumption))|skip
 all_goals exact Classical.not_not.1 (by assumption)
noncomputable def yz (P:za):Int:=if P.xc≠0 then P.xc else if 60<(P.wH P.nodes.length).length then 2 else 0
noncomputable def zx (P:za):List zR:=if P.yz=0 then P.wH P.nodes.length else []
end za
end
section
open Go.RowKit
def zis (x:zR):List D:=[.sc (.int .i64 x.1),.sc (.int .i64 x.2.1),.sc (.int .i64 x.2.2)]
def vm (l:List zR):List (List D):=l.map zis
def qW (l:List zR):D:=.xj 3 (vm l)
theorem zaw (x:zR):ze (zis x):=by simp[zis,ze,Pure]
theorem zeE (l:List zR):yv (vm l):=zB _ zaw l
theorem uq (l:List zR):Pure (qW l):=by simp[qW,Pure,zeE]
theorem Wr (l:List zR):(vm l).length=l.length:=by simp[vm]
@[simp] theorem zrN {m:Nat} (l:List zR):zD m (vm l)↔True:=⟨λ_=>trivial,λ_=>zg _ (zeE l)⟩
theorem Wy {l:List zR} {c:Nat} {x y z:Int} (h:c=l.length):List.drop 0 (List.take c (vm l))++[[D.sc (.int .i64 x),D.sc (.int .i64 y),D.sc (.int .i64 z)]]=vm (l++[(x,y,z)]):=by
 subst h
 rw[zr (by simp[vm])]
 simp[vm,zis]
theorem zqg {l r:List zR} {c:Nat} (h:c=l.length):List.drop 0 (List.take c (vm l))++vm r=vm (l++r):=by
 subst h
 rw[zr (by simp[vm])]
 simp[vm]
theorem qo {H:List zf} {id v n:Nat} {q:Bool} {l:List zR} (hn:n=l.length) (h:H[id]? = some (.vec q v 3 (vm l))):Deep H (.own id v 0 n) (qW l):=by
 subst hn
 exact .own _ _ _ _ _ _ _ _ h (by rw[zr (by simp[vm])];exact zU _)
theorem zmF {z:Int} {k:Nat} (hk:z=k) (h:k≤30):(1:Int)*2^min z.toNat IntKind.i64.bits=2^k:=by
 subst hk
 show(1:Int)*2^min (k:Int).toNat 64=2^k
 rw[Int.one_mul,Int.toNat_natCast,Nat.min_eq_left zo]
theorem zve {k:Nat} (h:k≤30):(1:Int)≤2^k∧(2:Int)^k≤1073741824:=⟨JJ k,zd1 (n:=30) h⟩
def zAq:PC:=.seq (OP [Bi 46 .lss 45 44]) (.seq (.cond 46 .skip (.exit 1)) (.seq (.block 2 (.seq (OP [Ia 47 1 43 45,Lo 48 47,qm 12 48]) (OP [qm 49 10,qm 50 1,qm 51 12,qm 52 9,q 53 (.build [(.int .i64 0),(.int .i64 0),(.int .i64 0)] [(0,1,50),(1,1,51),(2,1,52)]),Bs 54 3 1 [53],Ap 55 3 24 49 54,qm 10 55]))) (OP [Bi 56 .add 45 (cI 1),qm 45 56])))
def zzh:PC:=.seq (OP [Bi 68 .lss 67 66]) (.seq (.cond 68 .skip (.exit 5)) (.seq (.block 6 (.seq (OP [qm 69 67,qm 15 69]) (OP [qm 70 10,qm 71 1,qm 72 14,qm 73 15,Bi 74 .shl (cI 1) 73,q 75 (.build [(.int .i64 0),(.int .i64 0),(.int .i64 0)] [(0,1,71),(1,1,72),(2,1,74)]),Bs 76 3 1 [75],Ap 77 3 24 70 76,qm 10 77]))) (OP [Bi 78 .add 67 (cI 1),qm 67 78])))
def zz7:PC:=.seq (OP [Bi 62 .lss 61 60]) (.seq (.cond 62 .skip (.exit 3)) (.seq (.block 4 (.seq (OP [Ia 63 1 59 61,Lo 64 63,qm 14 64]) (.seq (OP [qm 65 7,Ln 66 65,Mv 67 (cI 0)]) (.block 5 (.loop zzh))))) (OP [Bi 79 .add 61 (cI 1),qm 61 79])))
def zzs:PC:=.seq (.seq (OP [qm 90 16,qm 91 9,Bi 92 .leq 90 91]) (.cond 92 .skip (.exit 7))) (.seq (.block 8 (OP [qm 95 10,qm 96 1,qm 97 16,q 98 (.build [(.int .i64 0),(.int .i64 0),(.int .i64 0)] [(0,1,96),(1,1,(cI (-1))),(2,1,97)]),Bs 99 3 1 [98],Ap 100 3 24 95 99,qm 10 100])) (OP [qm 93 16,Bi 94 .add 93 (cI 1),qm 16 94]))
def c64:PC:=.seq (OP [Bx 2 0,Mv 4 cN]) (.seq (OP [LA 18 2 2,qm 19 1,Ca 20 123 [18,19],qm 17 20,Xt 21 0 17,Xt 22 1 17,qm 5 21,qm 6 22]) (.seq (OP [LA 24 2 2,qm 25 1,Ca 26 124 [24,25],qm 23 26,Xt 27 0 23,Xt 28 1 23,qm 7 27,qm 8 28]) (.seq (OP [qm 29 7,Ln 30 29,Bi 31 .shl (cI 1) 30,Bi 32 .sub 31 (cI 1),qm 9 32]) (.seq (OP [Mv 10 cN]) (.seq (.seq (OP [Fa 33 0 2,Lo 34 33,qm 35 1,Ia 36 2 34 35,Fa 37 1 36,Lo 38 37]) (.block 0 (.seq (.seq (OP [Bi 40 .eql 38 (cI 4),qm 39 40]) (.cond 39 .skip (.seq (OP [Bi 41 .eql 38 (cI 2),qm 39 41]) (.cond 39 .skip (OP [Bi 42 .eql 38 (cI 3),qm 39 42]))))) (.cond 39 (.seq (OP [qm 43 5,Ln 44 43,Mv 45 (cI 0)]) (.block 1 (.loop zAq))) (.seq (OP [Bi 58 .eql 38 (cI 5),qm 57 58]) (.cond 57 (.seq (OP [qm 59 5,Ln 60 59,Mv 61 (cI 0)]) (.block 3 (.loop zz7))) (.seq (OP [Bi 81 .eql 38 (cI 6),qm 80 81]) (.cond 80 (OP [qm 82 10,qm 83 1,qm 84 9,q 85 (.build [(.int .i64 0),(.int .i64 0),(.int .i64 0)] [(0,1,83),(1,1,(cI (-1))),(2,1,84)]),Bs 86 3 1 [85],Ap 87 3 24 82 86,qm 10 87]) (.seq (OP [Bi 89 .eql 38 (cI 7),qm 88 89]) (.cond 88 (.seq (OP [Mv 16 (cI 1)]) (.block 7 (.loop zzs))) .skip)))))))))) (.seq (OP [qm 101 10,qm 4 101]) .ret))))))
theorem zxE:zz Tryz.prog 64 102 [.tmp 4] c64:=fK Tryz.func64
theorem zqJ (P:za) (hP:P.Fits) (h0:P.xc=0) (n:Nat) (hn:n<P.nodes.length):zu Tryz.prog 64 [yQ P,.sc (.int .i64 n)] (qW (P.qR n)):=by
 obtain⟨hs1,hs2⟩:=yM h0
 have l1:=P.zaa n
 have l2:=P.VG n
 have hE:P.uV n=0:=by unfold za.uV;rw[if_neg zo,if_neg zo]
 have hI:=Ji P hP n
 have hO:=zfm P hP n
 rw[show P.zhZ n=P.vF n from by unfold za.zhZ;rw[if_pos hE],hE] at hI
 rw[show P.zbj n=P.ue n from by unfold za.zbj;rw[if_pos hE],hE] at hO
 have hok:=za.zgi h0 n hn
 refine zb zxE zs (by simp[ze,Pure,z6]) ?_ (uq _)
 refine sR ?_
 refine sC hI ?_
 refine sC hO ?_
 have e2:=JP (P.ue n).length
 have e3:=zve (k:=(P.ue n).length) zo
 have ea:zeN (P.ue n).length=P.Xj n:=rfl
 have ei:∀k,P.Z8 (P.kind n) n (k+1)=P.Z8 (P.kind n) n k++P.zad (P.kind n) n ((P.vF n).getD k 0):=λk=>rfl
 rw[ea] at e2
 refine⟨zo,?_⟩
 rw[List.length_map,zmF (k:=(P.ue n).length) rfl zo]
 refine sI ?_
 refine sI ?_
 rw[←e2,Int.add_sub_cancel]
 refine sL (ZZ P (k:=n) zo hn) ?_
 have eS:P.qR n=if P.kind n=4∨P.kind n=5∨P.kind n=2∨P.kind n=3 then P.Z8 (P.kind n) n (P.vF n).length
  else if P.kind n=6 then [((n:Int),-1,P.Xj n)] else if P.kind n=7 then orS n (P.Xj n).toNat else []:=rfl
 refine sS (λh4=>?_) λh4=>?_
 ·have h4:P.kind n=4:=sO
  rw[if_pos zo] at eS
  have e5:∀i:Int,P.zad (P.kind n) n i=[((n:Int),i,P.Xj n)]:=λi=>by unfold za.zad;rw[if_neg zo]
  refine sW ?_
  rw[List.length_map]
  refine zE (y8 10 3 zs rfl) ?_
  refine zL [1,9,43,44] (λ((k,c,l):Nat × Nat × List zR)=>[(10,.own 1 c 0 c),(45,.sc (.int .i64 k))]) (λ(k,c,l)=>[(1,.vec true c 3 (vm l))]) (λ(k,c,l)=>k≤(P.vF n).length∧c=l.length∧c=k∧l=P.Z8 (P.kind n) n k) (λ(k,c,l)=>(P.vF n).length-k) (0,0,[]) ?_
  refine sW ?_
  refine⟨⟨zo,rfl,rfl,rfl⟩,by exact sK,rfl,?_⟩
  rintro⟨k,c,l⟩ ⟨hk,hc,hck,hl⟩
  refine sW ?_
  refine sR ?_
  refine sS (λh1=>?_) λh1=>?_
  ·have hk':k<(P.vF n).length:=sO
   refine sL (yb (k:=k) zo hk') ?_
   refine sJ ?_
   refine sI ?_
   refine⟨(k+1,c+1,l++[((n:Int),(P.vF n).getD k 0,P.Xj n)]),⟨zo,by simp[hc],zo,by rw[ei,e5,hl]⟩,zd,?_⟩
   refine zj 2 zs rfl sQ (sU ?_)
   exact zk (Wy hc)
  ·have hk':k=(P.vF n).length:=by have:¬k<(P.vF n).length:=sO
                                  omega
   subst hk'
   rw[eS,←hl]
   exact qo hc rfl
 have h4:P.kind n≠4:=sO
 refine sS (λh2=>?_) λh2=>?_
 ·have h2:P.kind n=2:=sO
  rw[if_pos zo] at eS
  have e5:∀i:Int,P.zad (P.kind n) n i=[((n:Int),i,P.Xj n)]:=λi=>by unfold za.zad;rw[if_neg zo]
  refine sW ?_
  rw[List.length_map]
  refine zE (y8 10 3 zs rfl) ?_
  refine zL [1,9,43,44] (λ((k,c,l):Nat × Nat × List zR)=>[(10,.own 1 c 0 c),(45,.sc (.int .i64 k))]) (λ(k,c,l)=>[(1,.vec true c 3 (vm l))]) (λ(k,c,l)=>k≤(P.vF n).length∧c=l.length∧c=k∧l=P.Z8 (P.kind n) n k) (λ(k,c,l)=>(P.vF n).length-k) (0,0,[]) ?_
  refine sW ?_
  refine⟨⟨zo,rfl,rfl,rfl⟩,by exact sK,rfl,?_⟩
  rintro⟨k,c,l⟩ ⟨hk,hc,hck,hl⟩
  refine sW ?_
  refine sR ?_
  refine sS (λh1=>?_) λh1=>?_
  ·have hk':k<(P.vF n).length:=sO
   refine sL (yb (k:=k) zo hk') ?_
   refine sJ ?_
   refine sI ?_
   refine⟨(k+1,c+1,l++[((n:Int),(P.vF n).getD k 0,P.Xj n)]),⟨zo,by simp[hc],zo,by rw[ei,e5,hl]⟩,zd,?_⟩
   refine zj 2 zs rfl sQ (sU ?_)
   exact zk (Wy hc)
  ·have hk':k=(P.vF n).length:=by have:¬k<(P.vF n).length:=sO
                                  omega
   subst hk'
   rw[eS,←hl]
   exact qo hc rfl
 have h2:P.kind n≠2:=sO
 refine sS (λh3=>?_) λh3=>?_
 ·have h3:P.kind n=3:=sO
  rw[if_pos zo] at eS
  have e5:∀i:Int,P.zad (P.kind n) n i=[((n:Int),i,P.Xj n)]:=λi=>by unfold za.zad;rw[if_neg zo]
  refine sW ?_
  rw[List.length_map]
  refine zE (y8 10 3 zs rfl) ?_
  refine zL [1,9,43,44] (λ((k,c,l):Nat × Nat × List zR)=>[(10,.own 1 c 0 c),(45,.sc (.int .i64 k))]) (λ(k,c,l)=>[(1,.vec true c 3 (vm l))]) (λ(k,c,l)=>k≤(P.vF n).length∧c=l.length∧c=k∧l=P.Z8 (P.kind n) n k) (λ(k,c,l)=>(P.vF n).length-k) (0,0,[]) ?_
  refine sW ?_
  refine⟨⟨zo,rfl,rfl,rfl⟩,by exact sK,rfl,?_⟩
  rintro⟨k,c,l⟩ ⟨hk,hc,hck,hl⟩
  refine sW ?_
  refine sR ?_
  refine sS (λh1=>?_) λh1=>?_
  ·have hk':k<(P.vF n).length:=sO
   refine sL (yb (k:=k) zo hk') ?_
   refine sJ ?_
   refine sI ?_
   refine⟨(k+1,c+1,l++[((n:Int),(P.vF n).getD k 0,P.Xj n)]),⟨zo,by simp[hc],zo,by rw[ei,e5,hl]⟩,zd,?_⟩
   refine zj 2 zs rfl sQ (sU ?_)
   exact zk (Wy hc)
  ·have hk':k=(P.vF n).length:=by have:¬k<(P.vF n).length:=sO
                                  omega
   subst hk'
   rw[eS,←hl]
   exact qo hc rfl
 have h3:P.kind n≠3:=sO
 refine sS (λh5=>?_) λh5=>?_
 ·have h5:P.kind n=5:=sO
  rw[if_pos zo] at eS
  have e5:∀i:Int,P.zad (P.kind n) n i=zhP n i (P.ue n).length:=λi=>by unfold za.zad;rw[if_pos h5]
  refine sW ?_
  rw[List.length_map]
  refine zE (y8 10 3 zs rfl) ?_
  refine zL [1,7,59,60] (λ((k,c,l):Nat × Nat × List zR)=>[(10,.own 1 c 0 c),(61,.sc (.int .i64 k))]) (λ(k,c,l)=>[(1,.vec true c 3 (vm l))]) (λ(k,c,l)=>k≤(P.vF n).length∧c=l.length∧l=P.Z8 (P.kind n) n k) (λ(k,c,l)=>(P.vF n).length-k) (0,0,[]) ?_
  refine sW ?_
  refine⟨⟨zo,rfl,rfl⟩,by exact sK,rfl,?_⟩
  rintro⟨k,c,l⟩ ⟨hk,hc,hl⟩
  refine sW ?_
  refine sR ?_
  refine sS (λh1=>?_) λh1=>?_
  ·have hk':k<(P.vF n).length:=sO
   refine sL (yb (k:=k) zo hk') ?_
   rw[List.length_map]
   have b1:=P.zam (P.kind n) n zo k
   have b2:l.length=(P.Z8 (P.kind n) n k).length:=by rw[hl]
   refine zL [1,7,14,59,60,61,66] (λ((j,c',m):Nat × Nat × List zR)=>[(10,.own 1 c' 0 c'),(67,.sc (.int .i64 j))]) (λ(j,c',m)=>[(1,.vec true c' 3 (vm m))]) (λ(j,c',m)=>j≤(P.ue n).length∧c'=m.length∧c'=l.length+j∧m=l++zhP n ((P.vF n).getD k 0) j) (λ(j,c',m)=>(P.ue n).length-j) (0,c,l) ?_
   refine sW ?_
   refine⟨⟨zo,hc,hc,(List.append_nil l).symm⟩,by exact sK,rfl,?_⟩
   rintro⟨j,c',m⟩ ⟨hj,hc',hcj,hm⟩
   refine sW ?_
   refine sR ?_
   refine sS (λh6=>?_) λh6=>?_
   ·have hj':j<(P.ue n).length:=sO
    refine⟨zo,?_⟩
    rw[zmF (k:=j) rfl zo]
    have e4:=zve (k:=j) zo
    refine sI ?_
    refine sJ ?_
    refine sI ?_
    refine⟨(j+1,c'+1,m++[((n:Int),(P.vF n).getD k 0,2^j)]),⟨zo,by simp[hc'],zo,by rw[hm,List.append_assoc];rfl⟩,zd,?_⟩
    refine zj 2 zs rfl sQ (sU ?_)
    exact zk (Wy hc')
   ·have hj':j=(P.ue n).length:=by have:¬j<(P.ue n).length:=sO
                                   omega
    subst hj'
    refine sI ?_
    refine⟨(k+1,c',m),⟨zo,hc',by rw[ei,e5,hm,hl]⟩,zd,?_⟩
    exact zj 2 zs rfl sQ sQ
  ·have hk':k=(P.vF n).length:=by have:¬k<(P.vF n).length:=sO
                                  omega
   subst hk'
   rw[eS,←hl]
   exact qo hc rfl
 have h5:P.kind n≠5:=sO
 rw[if_neg zo] at eS
 refine sS (λh6=>?_) λh6=>?_
 ·have h6:P.kind n=6:=sO
  rw[if_pos h6] at eS
  refine sJ ?_
  rw[eS]
  exact qo (l:=[((n:Int),-1,P.Xj n)]) rfl rfl
 rw[if_neg (sO)] at eS
 refine sS (λh7=>?_) λh7=>?_
 ·have h7:P.kind n=7:=sO
  rw[if_pos h7] at eS
  have b3:=za.zpV hok h7
  have b4:=(zhx (Nat.le_refl (P.ue n).length)).1
  rw[ea] at b4
  refine zE (y8 10 3 zs rfl) ?_
  refine zL [1,9] (λ((k,c,l):Nat × Nat × List zR)=>[(10,.own 1 c 0 c),(16,.sc (.int .i64 ((k:Int)+1)))]) (λ(k,c,l)=>[(1,.vec true c 3 (vm l))]) (λ(k,c,l)=>k≤(P.Xj n).toNat∧c=l.length∧c=k∧l=orS n k) (λ(k,c,l)=>(P.Xj n).toNat-k) (0,0,[]) ?_
  refine sW ?_
  refine⟨⟨zo,rfl,rfl,rfl⟩,by exact sK,rfl,?_⟩
  rintro⟨k,c,l⟩ ⟨hk,hc,hck,hl⟩
  refine sW ?_
  refine sR ?_
  refine sS (λh1=>?_) λh1=>?_
  ·have hk':k<(P.Xj n).toNat:=sO
   refine sJ ?_
   refine sI ?_
   refine⟨(k+1,c+1,l++[((n:Int),-1,(k:Int)+1)]),⟨zo,by simp[hc],zo,by rw[hl];rfl⟩,zd,?_⟩
   refine zj 2 zs rfl sQ (sU ?_)
   exact zk (Wy hc)
  ·have hk':k=(P.Xj n).toNat:=by have:¬k<(P.Xj n).toNat:=sO
                                 omega
   subst hk'
   rw[eS,←hl]
   exact qo hc rfl
 ·rw[if_neg (sO)] at eS
  rw[eS]
  exact .none _
end
section
open Go.RowKit
theorem zsM {l:List zR} {z k:Nat} (hz:z=k) (h:k<l.length):(vm l)[z]? = some (zis l[k]):=by
 subst hz
 unfold vm
 rw[List.getElem?_map,List.getElem?_eq_getElem h]
 rfl
def zzz:PC:=.seq (OP [Bi 16 .lss 15 14]) (.seq (.cond 16 .skip (.exit 0)) (.seq (.block 1 (.seq (OP [qm 17 15,qm 6 17]) (OP [qm 18 5,LA 19 2 1,qm 20 6,Ca 21 64 [19,20],Ap 22 3 24 18 21,qm 5 22]))) (OP [Bi 23 .add 15 (cI 1),qm 15 23])))
def c33:PC:=.seq (OP [Bx 1 0,Mv 2 cN,Mv 3 (cI 0)]) (.seq (.seq (OP [LA 7 2 1,Ca 8 57 [7],qm 4 8]) (.seq (OP [qm 9 4,Bi 10 .neq 9 (cI 0)]) (.cond 10 (.seq (OP [qm 11 4,Mv 2 cN,qm 3 11]) .ret) .skip))) (.seq (OP [Mv 5 cN]) (.seq (.seq (OP [Fa 12 0 1,Lo 13 12,Ln 14 13,Mv 15 (cI 0)]) (.block 0 (.loop zzz))) (.seq (.seq (OP [qm 24 5,Ln 25 24,Bi 26 .gtr 25 (cI 60)]) (.cond 26 (.seq (OP [Mv 2 cN,Mv 3 (cI 2)]) .ret) .skip)) (.seq (OP [qm 27 5,qm 2 27,Mv 3 (cI 0)]) .ret)))))
theorem zwU:zz Tryz.prog 33 28 [.tmp 2,.tmp 3] c33:=fK Tryz.func33
theorem Y6 (P:za) (hP:P.Fits):zu Tryz.prog 33 [yQ P] (.yI [qW P.zx,.sc (.int .i64 P.yz)]):=by
 refine zb zwU zs (by simp[ze,Pure,z6]) ?_ (by simp[Pure,ze,uq])
 have bad:∀{H:List zf} {e:Int},e≠0→P.yz=e→Deep H (.yI [.sc (.slice none 0 0),.sc (.int .i64 e)]) (.yI [qW P.zx,.sc (.int .i64 P.yz)]):=λh k=>by
  have:P.zx=[]:=by unfold za.zx;rw[if_neg (by rw[k];exact h)]
  rw[k,this]
  exact .yI _ _ (.cons _ _ _ _ (.none _) (.cons _ _ _ _ (.refl _) .nil))
 refine sR ?_
 refine sC (Qw P hP) ?_
 refine sS (λh1=>?_) λh1=>?_
 ·have h1:P.xc≠0:=sO
  exact bad h1 (by unfold za.yz;rw[if_pos h1])
 have h0:P.xc=0:=sO
 obtain⟨hs1,hs2⟩:=yM h0
 have hall:=za.zgi h0
 have e1:P.yz=if 60<(P.wH P.nodes.length).length then 2 else 0:=by unfold za.yz;rw[if_neg zo]
 rw[List.length_map]
 refine zE (y8 5 3 zs rfl) ?_
 refine zL [1,14] (λ((k,c,l):Nat × Nat × List zR)=>[(5,.own 1 k 0 c),(15,.sc (.int .i64 k))]) (λ(k,c,l)=>[(1,.vec true k 3 (vm l))]) (λ(k,c,l)=>k≤P.nodes.length∧c=l.length∧l=P.wH k) (λ(k,c,l)=>P.nodes.length-k) (0,0,[]) ?_
 refine sW ?_
 refine⟨⟨zo,rfl,rfl⟩,by exact sK,rfl,?_⟩
 rintro⟨k,c,l⟩ ⟨hk,hc,hl⟩
 refine sW ?_
 refine sR ?_
 refine sS (λh2=>?_) λh2=>?_
 ·have hk':k<P.nodes.length:=sO
  have b1:=za.zbO hs2 k λi hi=>hall i zo
  have b2:=za.zbb (hall k hk') hs2
  have b3:l.length=(P.wH k).length:=by rw[hl]
  refine sC (zqJ P hP h0 k hk') ?_
  refine⟨(by unfold y5;rw[Wr];omega),?_⟩
  refine sW ?_
  refine sI ?_
  refine⟨(k+1,c+(vm (P.qR k)).length,l++P.qR k),⟨zo,by simp[hc,Wr],by rw[hl];rfl⟩,zd,?_⟩
  refine zj 2 zs rfl sQ (sU ?_)
  exact zk (zqg hc)
 ·have hk':k=P.nodes.length:=by have:¬k<P.nodes.length:=sO
                                omega
  subst hk'
  have b3:l.length=(P.wH P.nodes.length).length:=by rw[hl]
  refine sS (λh3=>?_) λh3=>?_
  ·exact bad zc (by rw[e1,if_pos (sO)])
  ·have e2:P.yz=0:=by rw[e1,if_neg (sO)]
   have e3:P.zx=l:=by unfold za.zx;rw[if_pos e2,hl]
   rw[e2,e3]
   exact .yI _ _ (.cons _ _ _ _ (qo hc rfl) (.cons _ _ _ _ (.refl _) .nil))
end
section
open Go.RowKit
end
end
section
def zs3 (x n:Int):Bool:=(x.fdiv (2^min n.toNat 64)).tmod 2==1
end
section
open Go.RowKit
end
end Go.Proofs.YthoklahpcibacaaGreatDoor
