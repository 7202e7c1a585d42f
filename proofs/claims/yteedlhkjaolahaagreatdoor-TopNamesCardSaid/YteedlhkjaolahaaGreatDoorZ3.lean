/-
  Parts of a proof, joined. No statement is proved here.
-/
import Derived.Test.YteedlhkjaolahaaGreatDoorZ1
import Derived.Test.YteedlhkjaolahaaGreatDoorZ2
import Derived.Test.YteedlhkjaolahaaGreatDoorProg
import Derived.Shelf.Sort.Plain
import Derived.ChangeKeysEq
import Derived.WalkKit
namespace Go.Proofs.YteedlhkjaolahaaGreatDoor
set_option linter.unusedSimpArgs false
set_option linter.unusedVariables false
set_option maxRecDepth 100000
section
open Go.RowKit
def zzR:PC:=.seq (OP [Bi 15 .lss 14 13]) (.seq (.cond 15 .skip (.exit 0)) (.seq (.block 1 (.seq (OP [Ia 16 3 12 14,LA 17 3 16,q 5 (.alloc [(.int .i64 0),(.int .i64 0),(.slice none 0 0)]),So 3 5 17]) (.ops [Fa 18 2 3,qd 19 (.zg 18) 1,LA 20 3 5,qd 21 (.call 149 [20]) 4,qd 22 (.wz 3 1 [21]) 12,qd 23 (.append 3 40 19 22) 31,qd 24 (.zy 2 3) 63,qk (.store 1 24 23) 127] true))) (OP [Bi 25 .add 14 (cI 1),qm 14 25])))
def c149:PC:=.seq (OP [Bx 1 0,q 2 (.alloc [(.int .i64 0),(.int .i64 0),(.slice none 0 0)])]) (.seq (OP [Fa 6 0 1,Lo 7 6,Fa 8 1 1,Lo 9 8,q 10 (.build [(.int .i64 0),(.int .i64 0),(.slice none 0 0)] [(0,1,7),(1,1,9)]),q 3 (.alloc [(.int .i64 0),(.int .i64 0),(.slice none 0 0)]),So 3 3 10]) (.seq (.seq (OP [Fa 11 2 1,Lo 12 11,Ln 13 12,Mv 14 (cI 0)]) (.block 0 (.loop zzR))) (.seq (.seq (.stop (OP [Fa 26 0 1,Lo 27 26])) (.block 2 (.seq (OP [Bi 29 .eql 27 (cI 10),qm 28 29]) (.cond 28 (.seq (.ops [Ca 30 191 [(cI 1)],Fa 31 2 3,qd 32 (.zg 31) 2,qd 33 (.zM 3 32 (cI 0)) 6,qd 34 (.vC 3 33) 14,qd 35 (.call 190 [(cI 8),30,34]) 31,qk (.store 3 2 35) 63] true) .ret) (.seq (OP [Bi 37 .eql 27 (cI 11),qm 36 37]) (.cond 36 (.seq (.ops [Ca 38 191 [(cI 2)],Fa 39 2 3,qd 40 (.zg 39) 2,qd 41 (.zM 3 40 (cI 0)) 6,qd 42 (.vC 3 41) 14,qd 43 (.call 190 [(cI 9),38,42]) 31,qk (.store 3 2 43) 63] true) .ret) .skip)))))) (.seq (OP [LA 44 3 3,So 3 2 44]) .ret))))
theorem zvX:zv Tryz.prog 149 45 [.agg 2 3] c149:=fK Tryz.func149
def c148:PC:=.seq (OP [Bx 1 0,q 2 (.alloc [(.int .i64 0),(.int .i64 0),(.slice none 0 0)]),Mv 3 (cI 0)]) (.seq (.seq (OP [LA 5 3 1,Ca 6 43 [5],qm 4 6]) (.seq (OP [qm 7 4,Bi 8 .neq 7 (cI 0)]) (.cond 8 (.seq (OP [q 9 (.build [(.int .i64 0),(.int .i64 0),(.slice none 0 0)] []),qm 10 4,So 3 2 9,qm 3 10]) .ret) .skip))) (.seq (OP [LA 11 3 1,So 3 2 11,Mv 3 (cI 0)]) .ret))
theorem zuS:zv Tryz.prog 148 12 [.agg 2 3,.tmp 3] c148:=fK Tryz.func148
def c84:PC:=.seq (OP [Bx 1 0,q 2 (.alloc [(.int .i64 0),(.int .i64 0),(.slice none 0 0)]),Mv 3 (cI 0)]) (.seq (.seq (OP [LA 5 3 1,Ca 6 43 [5],qm 4 6]) (.seq (OP [qm 7 4,Bi 8 .neq 7 (cI 0)]) (.cond 8 (.seq (OP [q 9 (.build [(.int .i64 0),(.int .i64 0),(.slice none 0 0)] []),qm 10 4,So 3 2 9,qm 3 10]) .ret) .skip))) (.seq (OP [LA 11 3 1,Ca 12 149 [11],Ca 13 148 [12],Xt 14 0 13,Xt 15 1 13,So 3 2 14,qm 3 15]) .ret))
theorem zzS:zv Tryz.prog 84 16 [.agg 2 3,.tmp 3] c84:=fK Tryz.func84
mutual
def UJ:Tree→Bool→Tree
 | .node k n ks,b=>if k=4 then zCS ks (!b) else if b=false then .node k n (zex ks b) else if k=3 then x6 4 (.node k n (zex ks b)) else .node (zhW k) n (zex ks b)
def zCS:List Tree→Bool→Tree
 | [],_=>default
 | t::_,b=>UJ t b
def zex:List Tree→Bool→List Tree
 | [],_=>[]
 | t::r,b=>UJ t b::zex r b
end
theorem zgU (b:Bool):∀l,zex l b=l.map λt=>UJ t b
 | []=>by simp only[zex,List.map_nil]
 | t::r=>by simp only[zex,List.map_cons,zgU b r]
theorem zsd (t:Tree) (b:Bool) (hw:t.kind=4→0<t.width):UJ t b=if t.kind=4 then UJ (t.yK 0) (!b) else if b=false then .node t.kind t.num (t.kids.map λu=>UJ u b) else if t.kind=3 then x6 4 (.node t.kind t.num (t.kids.map λu=>UJ u b)) else .node (zhW t.kind) t.num (t.kids.map λu=>UJ u b):=by
 cases t with
 | node k n ks =>
  rw[UJ,zgU]
  rw[show(Tree.node k n ks).kind=k from rfl] at hw ⊢
  by_cases h:k=4
  ·rw[if_pos h,if_pos h]
   cases ks with
   | nil=>exact absurd (hw h) (by simp[Tree.width,Tree.kids])
   | cons a r=>rfl
  ·rw[if_neg h,if_neg h];rfl
mutual
def yj:Tree→Tree
 | .node k n ks=>if k=10 then u9 8 (vE 1 0) (zsA ks) else if k=11 then u9 9 (vE 2 0) (zsA ks) else .node k n (zdA ks)
def zsA:List Tree→Tree
 | []=>default
 | t::_=>yj t
def zdA:List Tree→List Tree
 | []=>[]
 | t::r=>yj t::zdA r
end
theorem zeY:∀l,zdA l=l.map yj
 | []=>by simp only[zdA,List.map_nil]
 | t::r=>by simp only[zdA,List.map_cons,zeY r]
theorem QV (t:Tree) (hw:t.kind=10∨t.kind=11→0<t.width):yj t=if t.kind=10 then u9 8 (vE 1 0) (yj (t.yK 0)) else if t.kind=11 then u9 9 (vE 2 0) (yj (t.yK 0)) else .node t.kind t.num (t.kids.map yj):=by
 cases t with
 | node k n ks =>
  rw[yj,zeY]
  rw[show(Tree.node k n ks).kind=k from rfl] at hw ⊢
  by_cases h:k=10
  ·rw[if_pos h,if_pos h]
   cases ks with
   | nil=>exact absurd (hw (.inl h)) (by simp[Tree.width,Tree.kids])
   | cons a r=>rfl
  ·rw[if_neg h,if_neg h]
   by_cases h':k=11
   ·rw[if_pos h',if_pos h']
    cases ks with
    | nil=>exact absurd (hw (.inr h')) (by simp[Tree.width,Tree.kids])
    | cons a r=>rfl
   ·rw[if_neg h',if_neg h'];rfl
theorem zdf {k n:Int} {ks:List Tree} (h:¬yI zU (.node k n ks)) (hk:∀u∈ks,u.wf zU):(Tree.node k n ks).wf zU:=(xO _ _).2 ⟨h,hk⟩
theorem zjM (k:Int):zU (zhW k)=zU k:=by
 unfold zhW
 (repeat' split)<;>simp_all [zU]
theorem zml {t:Tree} {k n:Int} {f:Tree→Tree} (hw:t.wf zU) (hk:zU k=zU t.kind) (h3:k≠3→n=0) (hn:0≤n∧n≤63) (hf:∀j,j<t.width→(f (t.yK j)).wf zU):(Tree.node k n (t.kids.map f)).wf zU:=by
 have h0:=((xO _ _).1 hw).1
 refine zdf ?_ λu hu=>?_
 ·unfold yI at *
  have e1:(Tree.node k n (t.kids.map f)).kind=k:=rfl
  have e2:(Tree.node k n (t.kids.map f)).num=n:=rfl
  have e3:(Tree.node k n (t.kids.map f)).width=t.width:=by simp[Tree.width,Tree.kids]
  rw[e1,e2,e3,hk]
  omega
 ·obtain⟨v,hv,rfl⟩:=List.mem_map.1 hu
  obtain⟨i,hi,rfl⟩:=List.mem_iff_getElem.1 hv
  have:=hf i hi
  rwa [Tree.vF hi] at this
theorem zhS {t:Tree} (hw:t.wf zU):0≤t.num∧t.num≤63∧(t.kind≠3→t.num=0):=by
 have h0:=((xO _ _).1 hw).1
 unfold yI at h0
 omega
theorem zrV {k n:Int} (h:k=1∨k=2∨k=3) (hn:0≤n∧n≤63) (h3:k≠3→n=0):(vE k n).wf zU:=zdf (by
 unfold yI
 have e1:(Tree.node k n []).kind=k:=rfl
 have e2:(Tree.node k n []).num=n:=rfl
 have e3:(Tree.node k n []).width=0:=rfl
 rw[e1,e2,e3]
 rcases h with rfl|rfl|rfl<;>simp[zU]<;>omega) zs
theorem zsW {k:Int} {a:Tree} (h:k=4∨k=7∨k=10∨k=11) (ha:a.wf zU):(x6 k a).wf zU:=zdf (by
 unfold yI
 have e1:(Tree.node k 0 [a]).kind=k:=rfl
 have e2:(Tree.node k 0 [a]).num=0:=rfl
 have e3:(Tree.node k 0 [a]).width=1:=rfl
 rw[e1,e2,e3]
 rcases h with rfl|rfl|rfl|rfl<;>simp[zU]) (by simpa using ha)
theorem zsJ {k:Int} {a b:Tree} (h:k=5∨k=6∨k=8∨k=9) (ha:a.wf zU) (hb:b.wf zU):(u9 k a b).wf zU:=zdf (by
 unfold yI
 have e1:(Tree.node k 0 [a,b]).kind=k:=rfl
 have e2:(Tree.node k 0 [a,b]).num=0:=rfl
 have e3:(Tree.node k 0 [a,b]).width=2:=rfl
 rw[e1,e2,e3]
 rcases h with rfl|rfl|rfl|rfl<;>simp[zU]) (by simpa using ⟨ha,hb⟩)
theorem uN {t:Tree} (hw:t.wf zU) (h:t.kind=4∨t.kind=7∨t.kind=10∨t.kind=11):0<t.width:=by
 have:=uk ((xO _ _).1 hw).1
 omega
theorem zDP:∀(t:Tree) (b:Bool),t.wf zU→(UJ t b).wf zU:=by
 intro t
 induction t using Tree.ind with
 | h t ih =>
  intro b hw
  have hn:=zhS hw
  rw[zsd t b λh=>uN hw (.inl h)]
  by_cases h4:t.kind=4
  ·rw[if_pos h4]
   have h0:=uN hw (.inl h4)
   exact ih 0 h0 _ (xG hw h0)
  ·rw[if_neg h4]
   have base:(Tree.node t.kind t.num (t.kids.map λu=>UJ u b)).wf zU:=zml hw rfl zo zo λj hj=>ih j hj b (xG hw hj)
   by_cases hb:b=false
   ·rw[if_pos hb];exact base
   ·rw[if_neg hb]
    by_cases h3:t.kind=3
    ·rw[if_pos h3];exact zsW zo base
    ·rw[if_neg h3]
     exact zml hw (zjM _) (by intro _;omega) zo λj hj=>ih j hj b (xG hw hj)
theorem zts:∀(t:Tree),t.wf zU→(yj t).wf zU:=by
 intro t
 induction t using Tree.ind with
 | h t ih =>
  intro hw
  have hn:=zhS hw
  rw[QV t λh=>uN hw zo]
  by_cases h10:t.kind=10
  ·rw[if_pos h10]
   have h0:=uN hw zo
   exact zsJ zo (zrV zo zo zo) (ih 0 h0 (xG hw h0))
  ·rw[if_neg h10]
   by_cases h11:t.kind=11
   ·rw[if_pos h11]
    have h0:=uN hw zo
    exact zsJ zo (zrV zo zo zo) (ih 0 h0 (xG hw h0))
   ·rw[if_neg h11]
    exact zml hw rfl zo zo λj hj=>ih j hj (xG hw hj)
theorem zlB:∀t:Tree,t.wf zU→zn Tryz.prog 149 [zQ t] (zQ (yj t)):=by
 intro t
 induction t using Tree.ind with
 | h t ih =>
  intro hwf
  have hs:=W5 t hwf
  have hsz:=hs.width
  have har:=uk ((xO _ _).1 hwf).1
  refine za zvX zs (by simp[zb,zh]) ?_ (zh _)
  have hE:=QV t λh=>uN hwf zo
  refine sR ?_
  refine Ve (λk:Nat=>[(1,.loc 0 0),(2,.loc 1 0),(3,.loc 2 0),(12,.xl 3 (t.kids.map y6)),(13,.sc (.int .i64 (t.kids.map y6).length)),(14,.sc (.int .i64 k))])
   (λk=>[.row true (yy t),.row true [.sc (.int .i64 0),.sc (.int .i64 0),.sc (.slice none 0 0)],.row true [.sc (.int .i64 t.kind),.sc (.int .i64 t.num),.own 3 k 0 k],.vec true k 3 ((t.kids.take k).map λu=>yy (yj u))])
   (λk=>k≤t.width) (λk=>t.width-k) 0 zo (wZ (yZ 2 2 3 zs rfl rfl) (za1 ⟨rfl,rfl,rfl,rfl,rfl,rfl,trivial⟩)) ?_
  rintro k hk
  refine sR ?_
  refine sS (λh1=>?_) λh1=>?_
  ·have hk':k<t.width:=by simpa [Tree.width] using h1
   refine sL (xb hk') ?_
   refine sC (ih k hk' (xG hwf hk')) ?_
   refine⟨by unfold xg;simp only[List.drop_zero,List.take_succ_cons,List.take_zero,List.length_cons,List.length_nil];omega,?_⟩
   refine sW ?_
   refine .inl ⟨by unfold JL;rw[IntKind.wrap_i64];unfold Tree.width at *;omega,?_⟩
   refine sW ?_
   refine⟨k+1,zo,zd,zm 4 zs rfl ⟨.refl _,by simp[zt],.refl _,by simp[zt],.refl _,by simp[zt],.refl _,by simp only[zt];exact zi _ (xI t),.refl _,by simp[zt],.refl _,by simp[zt],trivial⟩
    ⟨⟨rfl,.refl _,zr _ (yq t)⟩,⟨rfl,.refl _,by simp[zl,zt]⟩,⟨rfl,.refl _,by simp[zl,zt]⟩,⟨rfl,rfl,rfl,zp (zg6 _ (kid_get? hk')),zi _ (zC _ (λu=>yq _) _)⟩,trivial⟩⟩
  ·have hk':k=t.width:=by have:¬k<t.width:=by simpa [Tree.width] using h1
                          omega
   subst hk'
   refine zH (Yj (X8 3) (env':=[(1,.loc 0 0),(2,.loc 1 0),(3,.loc 2 0)]) (H':=[.row true (yy t),.row true [.sc (.int .i64 0),.sc (.int .i64 0),.sc (.slice none 0 0)],.row true [.sc (.int .i64 t.kind),.sc (.int .i64 t.num),.xl 3 ((t.kids.map yj).map y6)],.vec false t.width 3 ((t.kids.take t.width).map λu=>yy (yj u))])
    ⟨.refl _,.refl _,.refl _,trivial⟩ ⟨⟨.inl rfl,(λh=>by cases h),.refl _⟩,⟨.inl rfl,(λh=>by cases h),.refl _⟩,⟨.inl rfl,(λh=>by cases h),.cons _ _ _ _ (.refl _) (.cons _ _ _ _ (.refl _) (.cons _ _ _ _ (.own 3 _ _ _ _ _ _ _ rfl rfl (zp (by rw[List.drop_zero,List.take_of_length_le (by simp[Tree.width]),Tree.width,List.take_length,List.map_map];exact List.map_congr_left λu _=>(qp _).symm))) (.refl _)))⟩,⟨.inr ⟨rfl,rfl⟩,λ_=>rfl,rfl,rfl,.refl _⟩,trivial⟩) ?_
   have k0:0<t.width→((t.kids.map yj).map y6)[0]? = some (yy (yj (t.yK 0))):=λh=>by
    rw[List.getElem?_map,List.getElem?_map,kid_get? h];simp[qp]
   refine sR ?_
   refine sS (λh10=>?_) λh10=>?_
   ·have h10:t.kind=10:=by simpa using h10
    rw[if_pos h10] at hE
    refine sC (zho 1) ?_
    refine sL (k0 (uN hwf zo)) ?_
    refine sC (ziW 8 (vE 1 0) (yj (t.yK 0))) ?_
    exact qq hE (.refl _)
   have h10:¬t.kind=10:=by simpa using h10
   rw[if_neg h10] at hE
   refine sS (λh11=>?_) λh11=>?_
   ·have h11:t.kind=11:=by simpa using h11
    rw[if_pos h11] at hE
    refine sC (zho 2) ?_
    refine sL (k0 (uN hwf zo)) ?_
    refine sC (ziW 9 (vE 2 0) (yj (t.yK 0))) ?_
    exact qq hE (.refl _)
   have h11:¬t.kind=11:=by simpa using h11
   rw[if_neg h11] at hE
   exact qq hE (.refl _)
theorem zpH (t:Tree) (hs:Small t):zn Tryz.prog 148 [zQ t] (if yF zU t=0 then .yP [zQ t,.sc (.int .i64 0)] else .yP [zQ (vE 0 0),.sc (.int .i64 (yF zU t))]):=by
 refine za zuS zs (by simp[zb,zh]) ?_ (by split<;>simp[Pure,zb,zh])
 refine sR ?_
 refine sC (Ys t hs) ?_
 refine sS (λh=>?_) λh=>?_
 ·have h':yF zU t≠0:=by simpa using h
  rw[if_neg h']
  exact sP
 ·have h':yF zU t=0:=by simpa using h
  rw[if_pos h']
  exact sP
noncomputable def Z7 (t u:Tree):Tree × Int:=if yF zU t=0 then if yF zU u=0 then (u,0) else (vE 0 0,yF zU u) else (vE 0 0,yF zU t)
theorem zlx (t:Tree) (hs:Small t):zn Tryz.prog 84 [zQ t] (.yP [zQ (Z7 t (yj t)).1,.sc (.int .i64 (Z7 t (yj t)).2)]):=by
 refine za zzS zs (by simp[zb,zh]) ?_ (by simp[Pure,zb,zh])
 refine sR ?_
 refine sC (Ys t hs) ?_
 refine sS (λh=>?_) λh=>?_
 ·have h':yF zU t≠0:=by simpa using h
  rw[show Z7 t (yj t)=(vE 0 0,yF zU t) by rw[Z7,if_neg h']]
  exact sP
 ·have h':yF zU t=0:=by simpa using h
  have hwf:=((ZU _ _).1 h').2.2
  refine sC (zlB t hwf) ?_
  have hT:=zpH (yj t) (W5 _ (zts t hwf))
  by_cases h2:yF zU (yj t)=0
  ·rw[if_pos h2] at hT
   rw[show Z7 t (yj t)=(yj t,0) by rw[Z7,if_pos h',if_pos h2]]
   refine sC hT ?_
   exact sP
  ·rw[if_neg h2] at hT
   rw[show Z7 t (yj t)=(vE 0 0,yF zU (yj t)) by rw[Z7,if_pos h',if_neg h2]]
   refine sC hT ?_
   exact sP
end
section
open Go.RowKit
mutual
def yg:Tree→List Int
 | .node k n ks=>(if k=3 then [n] else [])++zZ ks
def zZ:List Tree→List Int
 | []=>[]
 | t::r=>yg t++zZ r
end
mutual
def partsOf:Tree→List Tree
 | .node k n ks=>(if k=7∨k=8∨k=9 then [.node k n ks] else [])++zW ks
def zW:List Tree→List Tree
 | []=>[]
 | t::r=>partsOf t++zW r
end
theorem Js (t:Tree):yg t=(if t.kind=3 then [t.num] else [])++zZ t.kids:=by cases t;rw[yg];rfl
theorem JT (t:Tree):partsOf t=(if t.kind=7∨t.kind=8∨t.kind=9 then [t] else [])++zW t.kids:=by cases t;rw[partsOf];rfl
theorem Zz:∀l,zZ l=l.flatMap yg
 | []=>rfl
 | t::r=>by rw[zZ,Zz r,List.flatMap_cons]
theorem Zr:∀l,zW l=l.flatMap partsOf
 | []=>rfl
 | t::r=>by rw[zW,Zr r,List.flatMap_cons]
theorem zjw {t:Tree} {k:Nat} (h:k<t.width):t.kids.take (k+1)=t.kids.take k++[t.yK k]:=by
 rw[List.take_add_one,kid_get? h]
 rfl
theorem wY {t:Tree} {k:Nat} (h:k<t.width):zZ (t.kids.take (k+1))=zZ (t.kids.take k)++yg (t.yK k):=by
 rw[zjw h,Zz,Zz,List.flatMap_append]
 simp
theorem wU {t:Tree} {k:Nat} (h:k<t.width):zW (t.kids.take (k+1))=zW (t.kids.take k)++partsOf (t.yK k):=by
 rw[zjw h,Zr,Zr,List.flatMap_append]
 simp
def vX (A:List Int) (xs:List Int):List Int:=xs.foldl (λA x=>if A.contains x=true then A else A++[x]) A
noncomputable def wi (P:List Tree) (xs:List Tree):List Tree:=xs.foldl (λP f=>if P.any (Jc f)=true then P else P++[f]) P
theorem vn (A x y:List Int):vX A (x++y)=vX (vX A x) y:=List.foldl_append
theorem wc (P x y:List Tree):wi P (x++y)=wi (wi P x) y:=List.foldl_append
theorem Uu (A:List Int) (x:Int):vX A [x]=if A.contains x=true then A else A++[x]:=rfl
theorem YK (P:List Tree) (x:Tree):wi P [x]=if P.any (Jc x)=true then P else P++[x]:=rfl
theorem u6 (xs:List Int):∀A,(vX A xs).length≤A.length+xs.length:=by
 induction xs with
 | nil=>intro A;simp[vX]
 | cons x r ih =>
  intro A
  rw[show x::r=[x]++r from rfl,vn,Uu]
  split
  ·have:=ih A;simp only[List.length_append,List.length_singleton];omega
  ·have:=ih (A++[x]);simp only[List.length_append,List.length_singleton] at *;omega
theorem u7 (xs:List Tree):∀A,(wi A xs).length≤A.length+xs.length:=by
 induction xs with
 | nil=>intro A;simp[wi]
 | cons x r ih =>
  intro A
  rw[show x::r=[x]++r from rfl,wc,YK]
  split
  ·have:=ih A;simp only[List.length_append,List.length_singleton];omega
  ·have:=ih (A++[x]);simp only[List.length_append,List.length_singleton] at *;omega
theorem zm5 {P:List Tree} {x:Tree}:P.any (Jc x)=true↔x∈P:=by
 rw[List.any_eq_true]
 constructor
 ·rintro⟨y,hy,h⟩;rw[zdj] at h;exact h▸hy
 ·exact λh=>⟨x,h,zdj.2 rfl⟩
theorem zrU {x:Int} (xs:List Int):∀A,x∈vX A xs↔x∈A∨x∈xs:=by
 induction xs with
 | nil=>intro A;simp[vX]
 | cons y r ih =>
  intro A
  rw[show y::r=[y]++r from rfl,vn,Uu,ih]
  split
  ·rename_i h
   rw[List.contains_iff_mem] at h
   simp only[List.mem_append,List.mem_singleton]
   constructor
   ·rintro(a|a)<;>simp[a]
   ·rintro(a|rfl|a)
    ·exact .inl a
    ·exact .inl h
    ·exact .inr a
  ·simp only[List.mem_append,List.mem_singleton]
   constructor
   ·rintro((a|a)|a)<;>simp[a]
   ·rintro(a|a|a)<;>simp[a]
theorem zdX {x:Tree} (xs:List Tree):∀A,x∈wi A xs↔x∈A∨x∈xs:=by
 induction xs with
 | nil=>intro A;simp[wi]
 | cons y r ih =>
  intro A
  rw[show y::r=[y]++r from rfl,wc,YK,ih]
  split
  ·rename_i h
   rw[zm5] at h
   simp only[List.mem_append,List.mem_singleton]
   constructor
   ·rintro(a|a)<;>simp[a]
   ·rintro(a|rfl|a)
    ·exact .inl a
    ·exact .inl h
    ·exact .inr a
  ·simp only[List.mem_append,List.mem_singleton]
   constructor
   ·rintro((a|a)|a)<;>simp[a]
   ·rintro(a|a|a)<;>simp[a]
theorem zlr (xs:List Int):∀A,A.Nodup→(vX A xs).Nodup:=by
 induction xs with
 | nil=>intro A h;exact h
 | cons y r ih =>
  intro A h
  rw[show y::r=[y]++r from rfl,vn,Uu]
  split
  ·exact ih A h
  ·rename_i q
   rw[List.contains_iff_mem] at q
   refine ih _ (List.nodup_append.2 ⟨h,zs,λa ha b hb=>?_⟩)
   rw[List.mem_singleton] at hb
   subst hb
   exact λe=>q (e▸ha)
mutual
theorem zkt:∀t:Tree,(yg t).length≤t.size
 | .node k n ks=>by
  rw[yg,Tree.size,List.length_append]
  have:=zgi ks
  split<;>simp<;>omega
theorem zgi:∀l:List Tree,(zZ l).length≤Tree.ZK l
 | []=>by simp[zZ]
 | t::r=>by
  rw[zZ,Tree.ZK,List.length_append]
  have:=zkt t
  have:=zgi r
  omega
end
mutual
theorem zku:∀t:Tree,(partsOf t).length≤t.size
 | .node k n ks=>by
  rw[partsOf,Tree.size,List.length_append]
  have:=zgl ks
  split<;>simp<;>omega
theorem zgl:∀l:List Tree,(zW l).length≤Tree.ZK l
 | []=>by simp[zW]
 | t::r=>by
  rw[zW,Tree.ZK,List.length_append]
  have:=zku t
  have:=zgl r
  omega
end
def uf (k:Int):Int:=if k=10∨k=11 then -1 else zU k
theorem zjW {t:Tree}:t.wf uf→t.wf zU:=by
 induction t using Tree.ind with
 | h t ih =>
  intro h
  rw[xO] at h ⊢
  refine⟨?_,λu hu=>?_⟩
  ·have h1:=h.1
   unfold yI uf at h1
   unfold yI
   by_cases q:t.kind=10∨t.kind=11
   ·rw[if_pos q] at h1;omega
   ·rw[if_neg q] at h1;exact h1
  ·obtain⟨j,hj,rfl⟩:=List.mem_iff_getElem.1 hu
   rw[←Tree.vF hj] at *
   exact ih j hj (h.2 _ (by rw[Tree.vF hj];exact List.getElem_mem hj))
theorem zbj {t:Tree} (h:t.wf uf):(t.kind=1∨t.kind=2∨t.kind=3)∧t.width=0∨(t.kind=4∨t.kind=7)∧t.width=1∨(t.kind=5∨t.kind=6∨t.kind=8∨t.kind=9)∧t.width=2:=by
 have h1:=((xO _ _).1 h).1
 have h2:=uk ((xO _ _).1 (zjW h)).1
 have h3:¬(t.kind=10∨t.kind=11):=λq=>by
  unfold yI uf at h1
  rw[if_pos q] at h1
  omega
 omega
theorem zdr {k n:Int} {ks:List Tree} (h:¬yI uf (.node k n ks)) (hk:∀u∈ks,u.wf uf):(Tree.node k n ks).wf uf:=(xO _ _).2 ⟨h,hk⟩
theorem zoj:∀(t:Tree),t.wf zU→(yj t).wf uf:=by
 intro t
 induction t using Tree.ind with
 | h t ih =>
  intro hw
  have hn:=zhS hw
  have har:=uk ((xO _ _).1 hw).1
  have m2:∀{k c:Int} {b:Tree},k=8∨k=9→c=1∨c=2→b.wf uf→(u9 k (vE c 0) b).wf uf:=λ{k c b} hk hc hb=>zdr (by
   unfold yI
   have e1:(Tree.node k 0 [vE c 0,b]).kind=k:=rfl
   have e2:(Tree.node k 0 [vE c 0,b]).num=0:=rfl
   have e3:(Tree.node k 0 [vE c 0,b]).width=2:=rfl
   rw[e1,e2,e3]
   rcases hk with rfl|rfl<;>simp[uf,zU]) (by
   intro u hu
   rw[List.mem_cons,List.mem_singleton] at hu
   rcases hu with rfl|rfl
   ·refine zdr ?_ zs
    unfold yI
    have e1:(Tree.node c 0 []).kind=c:=rfl
    have e2:(Tree.node c 0 []).num=0:=rfl
    have e3:(Tree.node c 0 []).width=0:=rfl
    rw[e1,e2,e3]
    rcases hc with rfl|rfl<;>simp[uf,zU]
   ·exact hb)
  rw[QV t λh=>uN hw zo]
  by_cases h10:t.kind=10
  ·rw[if_pos h10]
   have h0:=uN hw zo
   exact m2 zo zo (ih 0 h0 (xG hw h0))
  ·rw[if_neg h10]
   by_cases h11:t.kind=11
   ·rw[if_pos h11]
    have h0:=uN hw zo
    exact m2 zo zo (ih 0 h0 (xG hw h0))
   ·rw[if_neg h11]
    refine zdr ?_ λu hu=>?_
    ·unfold yI uf
     have e1:(Tree.node t.kind t.num (t.kids.map yj)).kind=t.kind:=rfl
     have e2:(Tree.node t.kind t.num (t.kids.map yj)).num=t.num:=rfl
     have e3:(Tree.node t.kind t.num (t.kids.map yj)).width=t.width:=List.length_map ..
     rw[e1,e2,e3,if_neg zo]
     exact((xO _ _).1 hw).1
    ·obtain⟨v,hv,rfl⟩:=List.mem_map.1 hu
     obtain⟨j,hj,rfl⟩:=List.mem_iff_getElem.1 hv
     rw[←Tree.vF hj]
     exact ih j hj (xG hw hj)
def Zl (k:Int) (c:Bool) (h:List Bool):Bool :=
 if k=1 then true else if k=2 then false else if k=4 then !(h.getD 0 false) else if k=5 then h.getD 0 false&&h.getD 1 false else if k=6 then h.getD 0 false||h.getD 1 false
 else if k=8 then h.getD 1 false||(h.getD 0 false&&c) else if k=9 then h.getD 1 false&&(h.getD 0 false||c) else c
mutual
def yw (c:Tree→Bool):Tree→Bool
 | .node k n ks=>Zl k (c (.node k n ks)) (ziF c ks)
def ziF (c:Tree→Bool):List Tree→List Bool
 | []=>[]
 | t::r=>yw c t::ziF c r
end
theorem zeZ (c:Tree→Bool):∀l,ziF c l=l.map (yw c)
 | []=>rfl
 | t::r=>by rw[ziF,zeZ c r,List.map_cons]
theorem qy (c:Tree→Bool) (t:Tree):yw c t=Zl t.kind (c t) (t.kids.map (yw c)):=by cases t;rw[yw,zeZ];rfl
theorem uB (c:Tree→Bool) {t:Tree} {j:Nat} (h:j<t.width):(t.kids.map (yw c)).getD j false=yw c (t.yK j):=by
 rw[List.getD_eq_getElem?_getD,List.getElem?_map,kid_get? h]
 rfl
noncomputable def ztU (A:List Int) (P:List Tree) (g:Tree):Nat:=if g.kind=3 then (wQ (λa=>g.num==a) A).toNat else A.length+(wQ (Jc g) P).toNat
noncomputable def Wi (A:List Int) (P:List Tree) (s:Nat) (g:Tree):Bool:=s.testBit (ztU A P g)
def Told (A:List Int) (P:List Tree) (t:Tree):Prop:=(∀x∈yg t,x∈A)∧∀f∈partsOf t,f∈P
theorem zlv {l:List Tree} {t:Tree} {x:Int} (h:t∈l) (hx:x∈yg t):x∈zZ l:=by
 rw[Zz];exact List.mem_flatMap.2 ⟨t,h,hx⟩
theorem zmP {l:List Tree} {t x:Tree} (h:t∈l) (hx:x∈partsOf t):x∈zW l:=by
 rw[Zr];exact List.mem_flatMap.2 ⟨t,h,hx⟩
theorem QM {t:Tree} {j:Nat} (h:j<t.width):t.yK j∈t.kids:=by rw[Tree.vF h];exact List.getElem_mem h
theorem Told.yK {A:List Int} {P:List Tree} {t:Tree} (h:Told A P t) {j:Nat} (hj:j<t.width):Told A P (t.yK j) :=
 ⟨λx hx=>h.1 x (by rw[Js];exact List.mem_append_right _ (zlv (QM hj) hx)),λx hx=>h.2 x (by rw[JT];exact List.mem_append_right _ (zmP (QM hj) hx))⟩
theorem Told.atom {A:List Int} {P:List Tree} {t:Tree} (h:Told A P t) (h3:t.kind=3):t.num∈A:=h.1 _ (by rw[Js,if_pos h3];simp)
theorem Told.part {A:List Int} {P:List Tree} {t:Tree} (h:Told A P t) (h3:t.kind=7∨t.kind=8∨t.kind=9):t∈P:=h.2 _ (by rw[JT,if_pos h3];simp)
mutual
theorem zfr:∀(t:Tree),∀f∈partsOf t,(∀x∈yg f,x∈yg t)∧(∀g∈partsOf f,g∈partsOf t)
 | .node k n ks=>λf hf=>by
  rw[partsOf,List.mem_append] at hf
  rcases hf with hf|hf
  ·split at hf
   ·rw[List.mem_singleton] at hf;subst hf;exact⟨λx h=>h,λx h=>h⟩
   ·cases hf
  ·obtain⟨h1,h2⟩:=zcv ks f hf
   exact⟨λx hx=>by rw[yg];exact List.mem_append_right _ (h1 x hx),λx hx=>by rw[partsOf];exact List.mem_append_right _ (h2 x hx)⟩
theorem zcv:∀(l:List Tree),∀f∈zW l,(∀x∈yg f,x∈zZ l)∧(∀g∈partsOf f,g∈zW l)
 | []=>λf hf=>by cases hf
 | t::r=>λf hf=>by
  rw[zW,List.mem_append] at hf
  rcases hf with hf|hf
  ·obtain⟨h1,h2⟩:=zfr t f hf
   exact⟨λx hx=>by rw[zZ];exact List.mem_append_left _ (h1 x hx),λx hx=>by rw[zW];exact List.mem_append_left _ (h2 x hx)⟩
  ·obtain⟨h1,h2⟩:=zcv r f hf
   exact⟨λx hx=>by rw[zZ];exact List.mem_append_right _ (h1 x hx),λx hx=>by rw[zW];exact List.mem_append_right _ (h2 x hx)⟩
end
mutual
theorem zjA (kd:Int→Int):∀(t:Tree),t.wf kd→∀f∈partsOf t,f.wf kd∧(f.kind=7∨f.kind=8∨f.kind=9)
 | .node k n ks=>λhw f hf=>by
  rw[partsOf,List.mem_append] at hf
  rcases hf with hf|hf
  ·split at hf
   ·rename_i h
    rw[List.mem_singleton] at hf;subst hf;exact⟨hw,h⟩
   ·cases hf
  ·exact zgf kd ks (λu hu=>((xO _ _).1 hw).2 u hu) f hf
theorem zgf (kd:Int→Int):∀(l:List Tree),(∀u∈l,u.wf kd)→∀f∈zW l,f.wf kd∧(f.kind=7∨f.kind=8∨f.kind=9)
 | []=>λ_ f hf=>by cases hf
 | t::r=>λhw f hf=>by
  rw[zW,List.mem_append] at hf
  rcases hf with hf|hf
  ·exact zjA kd t (hw t zs) f hf
  ·exact zgf kd r (λu hu=>hw u (by simp[hu])) f hf
end
mutual
theorem YL:∀(t:Tree),t.wf zU→∀x∈yg t,0≤x∧x≤63
 | .node k n ks=>λhw x hx=>by
  rw[yg,List.mem_append] at hx
  rcases hx with hx|hx
  ·split at hx
   ·rw[List.mem_singleton] at hx;subst hx;have:=zhS hw;exact⟨this.1,this.2.1⟩
   ·cases hx
  ·exact zaf ks (λu hu=>((xO _ _).1 hw).2 u hu) x hx
theorem zaf:∀(l:List Tree),(∀u∈l,u.wf zU)→∀x∈zZ l,0≤x∧x≤63
 | []=>λ_ f hf=>by cases hf
 | t::r=>λhw f hf=>by
  rw[zZ,List.mem_append] at hf
  rcases hf with hf|hf
  ·exact YL t (hw t zs) f hf
  ·exact zaf r (λu hu=>hw u (by simp[hu])) f hf
end
theorem zjC (s k:Nat) (hk:k≤63):(s:Int).fdiv (2^min ((k:Int)).toNat 64)=((s/2^k:Nat):Int):=by
 rw[Int.toNat_natCast,Nat.min_eq_left zo,Int.fdiv_eq_ediv_of_nonneg _ (by exact Int.le_of_lt (Int.pow_pos zc))]
 rw[Int.natCast_ediv]
 simp
theorem ztv (n:Nat):vl .and .i64 (n:Int) 1=((n%2:Nat):Int):=by
 have e:(BitVec.ofInt 64 (n:Int) &&& BitVec.ofInt 64 1).toNat=n%2:=by
  rw[BitVec.toNat_and]
  have e1:(BitVec.ofInt 64 (n:Int)).toNat=n%18446744073709551616:=by rw[BitVec.toNat_ofInt];omega
  have e2:(BitVec.ofInt 64 1).toNat=1:=zc
  rw[e1,e2,Nat.and_one_is_mod]
  omega
 show IntKind.i64.wrap ((BitVec.ofInt 64 (n:Int) &&& BitVec.ofInt 64 1).toNat:Int)=_
 rw[e,IntKind.wrap_i64]
 omega
theorem zw7 (s k:Nat):s.testBit k=(((s/2^k%2:Nat):Int)==1):=by
 rw[Nat.testBit_eq_decide_div_mod_eq,Bool.eq_iff_iff,decide_eq_true_eq,beq_iff_eq]
 omega
theorem zrk (s k:Nat) (hk:k≤63):(vl .and .i64 ((s:Int).fdiv (2^min ((k:Int)).toNat 64)) 1==1)=s.testBit k:=by
 rw[zjC s k hk,ztv,zw7]
theorem zyF (a i:Nat) (h:a<2^i) (hi:i≤40):vl .or .i64 (a:Int) ((2^i:Nat):Int)=((a+2^i:Nat):Int):=by
 have hp:2^i≤2^40:=Nat.pow_le_pow_right zo hi
 have h40:(2:Nat)^40=1099511627776:=zc
 have e:(BitVec.ofInt 64 (a:Int) ||| BitVec.ofInt 64 ((2^i:Nat):Int)).toNat=a+2^i:=by
  rw[BitVec.toNat_or]
  have e1:(BitVec.ofInt 64 (a:Int)).toNat=a:=by rw[BitVec.toNat_ofInt];omega
  have e2:(BitVec.ofInt 64 ((2^i:Nat):Int)).toNat=2^i:=by
   generalize 2^i=z at *
   rw[BitVec.toNat_ofInt];omega
  have:=Nat.two_pow_add_eq_or_of_lt h 1
  rw[Nat.mul_one] at this
  rw[e1,e2,Nat.or_comm,←this,Nat.add_comm]
 show IntKind.i64.wrap ((BitVec.ofInt 64 (a:Int) ||| BitVec.ofInt 64 ((2^i:Nat):Int)).toNat:Int)=_
 rw[e,IntKind.wrap_i64]
 omega
def X7 (h:Nat→Bool):Nat→Nat
 | 0=>0
 | i+1=>if h i=true then X7 h i+2^i else X7 h i
theorem Vl (h:Nat→Bool):∀n,X7 h n<2^n
 | 0=>by rw[X7];exact Nat.one_pos
 | n+1=>by
  have:=Vl h n
  rw[X7,Nat.pow_succ]
  split<;>omega
theorem Yv (h:Nat→Bool):∀n i,i<n→(X7 h n).testBit i=h i
 | 0,i,hi=>zo
 | n+1,i,hi=>by
  have hl:=Vl h n
  rw[X7]
  by_cases e:i=n
  ·subst e
   cases q:h i
   ·rw[if_neg zc]
    exact Nat.testBit_lt_two_pow hl
   ·rw[if_pos rfl,Nat.add_comm]
    rw[Nat.testBit_two_pow_add_eq,Nat.testBit_lt_two_pow hl]
    rfl
  ·have:=Yv h n i zo
   split
   ·rw[Nat.add_comm,Nat.testBit_two_pow_add_gt zo]
    exact this
   ·exact this
def Zv (g:Tree):Tree:=if g.kind=7 then g.yK 0 else g
noncomputable def hK (A:List Int) (P:List Tree) (s i:Nat):Bool:=yw (Wi A P s) (Zv (P.getD i default))
noncomputable def Vw (A:List Int) (P:List Tree) (s:Nat):Nat:=X7 (hK A P s) P.length
theorem zjh (A:List Int) (P:List Tree) (s t:Nat) (hs:s<2^(A.length+P.length)):(Vw A P t==s/2^A.length)=(List.range P.length).all λi=>hK A P t i==s.testBit (A.length+i):=by
 rw[Bool.eq_iff_iff,beq_iff_eq,List.all_eq_true]
 have hd:s/2^A.length<2^P.length:=by
  rw[Nat.div_lt_iff_lt_mul (Nat.two_pow_pos _),Nat.mul_comm,←Nat.pow_add]
  exact hs
 constructor
 ·intro h i hi
  have hi:=List.mem_range.1 hi
  rw[beq_iff_eq,←Yv (hK A P t) P.length i hi]
  have:X7 (hK A P t) P.length=s/2^A.length:=h
  rw[this,Nat.testBit_div_two_pow,Nat.add_comm]
 ·intro h
  apply Nat.eq_of_testBit_eq
  intro i
  by_cases hi:i<P.length
  ·have:=h i (List.mem_range.2 hi)
   rw[beq_iff_eq] at this
   rw[show(Vw A P t).testBit i=hK A P t i from Yv _ _ i hi,this,Nat.testBit_div_two_pow,Nat.add_comm]
  ·have hle:2^P.length≤2^i:=Nat.pow_le_pow_right zo zo
   exact(Nat.testBit_lt_two_pow (Nat.lt_of_lt_of_le (Vl (hK A P t) P.length) hle)).trans (Nat.testBit_lt_two_pow (Nat.lt_of_lt_of_le hd hle)).symm
def xM (A:List Int) (s:Nat) (is:Bool):Nat→Int
 | 0=>0
 | i+1=>if (s.testBit i==is)=true then vl .or .u64 (xM A s is i) (2^(A.getD i 0).toNat) else xM A s is i
def ub (p:Nat→Bool) (k:Nat):List Int:=((List.range k).filter p).map λi:Nat=>(i:Int)
theorem JV (p:Nat→Bool) (k:Nat):ub p (k+1)=if p k=true then ub p k++[(k:Int)] else ub p k:=by
 unfold ub
 rw[List.range_succ,List.filter_append,List.map_append]
 simp only[List.filter_cons,List.filter_nil]
 split<;>simp
theorem Yl (p:Nat→Bool) (k:Nat):(ub p k).length≤k:=by
 unfold ub
 rw[List.length_map]
 exact Nat.le_trans (List.length_filter_le _ _) zs
noncomputable def ZF (A:List Int) (P:List Tree) (g:Tree) (s:Nat):Bool :=
 if g.kind=8 then !(yw (Wi A P s) g)||yw (Wi A P s) (g.yK 1) else yw (Wi A P s) g||!(yw (Wi A P s) (g.yK 1))
noncomputable def zj1 (A:List Int) (P:List Tree) (n:Nat) (g:Tree):List Int:=ub (ZF A P g) (2^n)
noncomputable def uI (A:List Int) (P:List Tree) (n k:Nat):List (List Int):=((P.take k).filter λg=>g.kind != 7).map (zj1 A P n)
theorem zkk (A:List Int) (P:List Tree) (n:Nat) {k:Nat} (h:k<P.length):uI A P n (k+1)=if (P.getD k default).kind=7 then uI A P n k else uI A P n k++[zj1 A P n (P.getD k default)]:=by
 unfold uI
 rw[List.take_add_one,List.getElem?_eq_getElem h,Option.toList_some,List.filter_append,List.map_append,List.getD_eq_getElem?_getD,List.getElem?_eq_getElem h]
 simp only[List.filter_cons,List.filter_nil,Option.getD_some]
 by_cases q:P[k].kind=7
 ·simp[q]
 ·simp[q]
theorem JM (A:List Int) (P:List Tree) (n k:Nat):(uI A P n k).length≤k:=by
 unfold uI
 rw[List.length_map]
 exact Nat.le_trans (List.length_filter_le _ _) (by simp;omega)
noncomputable def Jh (A:List Int) (P:List Tree) (n s:Nat):List Int:=ub (λt=>Vw A P t==s/2^A.length) (2^n)
noncomputable def ZC (A:List Int) (P:List Tree) (f:Tree):yl :=
 ⟨ub (λs=>yw (Wi A P s) f) (2^(A.length+P.length)),(List.range (2^(A.length+P.length))).map (Jh A P (A.length+P.length)),
  (List.range (2^(A.length+P.length))).map λs=>xM A s true A.length,(List.range (2^(A.length+P.length))).map λs=>xM A s false A.length,uI A P (A.length+P.length) P.length⟩
def Xi (xs:List Int):List Int:=ub (λn=>xs.contains (n:Int)) 64
noncomputable def zve (f:Tree):D :=
 let A:=Xi (yg f)
 let P:=wi [] (partsOf f)
 if 10<A.length+P.length then .yP [Ui ⟨[],[],[],[],[]⟩,.sc (.int .i64 2)] else .yP [Ui (ZC A P f),.sc (.int .i64 0)]
theorem zbY {xs:List Int} (h:∀x∈xs,0≤x∧x≤63) {x:Int}:x∈Xi xs↔x∈xs:=by
 unfold Xi ub
 simp only[List.mem_map,List.mem_filter,List.mem_range,List.contains_iff_mem]
 constructor
 ·rintro⟨n,⟨_,h2⟩,rfl⟩;exact h2
 ·intro hx
  have:=h x hx
  exact⟨x.toNat,⟨zo,by rw[show((x.toNat:Nat):Int)=x by omega];exact hx⟩,zo⟩
theorem JH {f:Tree} (hw:f.wf zU):Told (Xi (yg f)) (wi [] (partsOf f)) f :=
 ⟨λx hx=>(zbY (YL f hw)).2 hx,λx hx=>(zdX _ _).2 (.inr hx)⟩
theorem zqr {f:Tree} (hw:f.wf zU) {g:Tree} (hg:g∈wi [] (partsOf f)):Told (Xi (yg f)) (wi [] (partsOf f)) g:=by
 have hg:g∈partsOf f:=((zdX _ _).1 hg).resolve_left zs
 obtain⟨h1,h2⟩:=zfr f g hg
 have h:=JH hw
 exact⟨λx hx=>h.1 x (h1 x hx),λx hx=>h.2 x (h2 x hx)⟩
end
section
open Go.RowKit
def zzd:PC:=.seq (OP [Bi 31 .lss 30 29]) (.seq (.cond 31 .skip (.exit 0)) (.seq (.block 1 (.seq (OP [qm 32 30,qm 5 32]) (.seq (.ops [Fa 33 2 2,qd 34 (.zg 33) 1,qm 35 5,qd 36 (.zM 3 34 35) 7,qd 37 (.vC 3 36) 15,Fa 38 2 3,qd 39 (.zg 38) 32,qm 40 5,qd 41 (.zM 3 39 40) 224,qd 42 (.vC 3 41) 480,qd 43 (.call 195 [37,42]) 1023,qd 44 (.un .not 43) 2047] true) (.cond 44 (.seq (OP [Mv 4 cF]) .ret) .skip)))) (OP [Bi 45 .add 30 (cI 1),qm 30 45])))
def c195:PC:=.seq (OP [Bx 2 0,Bx 3 1,Mv 4 cF]) (.seq (.seq (OP [Fa 6 0 2,Lo 7 6,Fa 8 0 3,Lo 9 8,Bi 10 .neq 7 9,qm 11 10,GF 12 11 (.zy 1 2),GF 13 11 (.zg 12),GF 14 11 (.zy 1 3),GF 15 11 (.zg 14),GF 16 11 (.bin .neq 13 15),Pk 17 11 cT 16,qm 18 17,GF 19 18 (.zy 2 2),GF 20 18 (.zg 19),GF 21 18 (.len 20),GF 22 18 (.zy 2 3),GF 23 18 (.zg 22),GF 24 18 (.len 23),GF 25 18 (.bin .neq 21 24),Pk 26 18 cT 25]) (.cond 26 (.seq (OP [Mv 4 cF]) .ret) .skip)) (.seq (.seq (OP [Fa 27 2 2,Lo 28 27,Ln 29 28,Mv 30 (cI 0)]) (.block 0 (.loop zzd))) (.seq (OP [Mv 4 cT]) .ret)))
theorem zvs:zv Tryz.prog 195 46 [.tmp 4] c195:=fK Tryz.func195
theorem zps:∀a b:Tree,Small a→zn Tryz.prog 195 [zQ a,zQ b] (.sc (.bool (Jc a b))):=by
 intro a
 induction a using Tree.ind with
 | h a ih =>
  intro b hs
  refine za zvs zs (by simp[zb,zh]) ?_ (by simp[Pure])
  refine sR ?_
  have no:a.kind≠b.kind∨a.num≠b.num∨a.kids.length≠b.kids.length→false=Jc a b:=λh=>zgE (by rintro rfl;simp at h)
  refine sS (λh1=>?_) λh1=>?_
  ·exact zR (congrArg (λx=>D.sc (.bool x)) (no (.inl (by simpa using h1))))
  refine sS (λh2=>?_) λh2=>?_
  ·exact zR (congrArg (λx=>D.sc (.bool x)) (no (.inr (.inl (by simpa using h2)))))
  refine sS (λh3=>?_) λh3=>?_
  ·exact zR (congrArg (λx=>D.sc (.bool x)) (no (.inr (.inr (by simp at h3;omega)))))
  simp at h1 h2 h3
  have hsz:=hs.width
  refine zet (λk:Nat=>[(2,.loc 0 0),(3,.loc 1 0),(29,.sc (.int .i64 (a.kids.map y6).length)),(30,.sc (.int .i64 k))]) (λ_=>[.row true (yy a),.row true (yy b)])
   (λk=>k≤a.width∧∀j,j<k→a.yK j=b.yK j) (λk=>a.width-k) 0 ⟨zo,λj h=>zo⟩ (zbH ⟨rfl,rfl,rfl,rfl,trivial⟩) ?_
  rintro k ⟨hk,hall⟩
  refine sR ?_
  refine sS (λh4=>?_) λh4=>?_
  ·have hk':k<a.width:=by simpa [Tree.width] using h4
   refine sL (xb hk') ?_
   refine sL (xb (t:=b) (by unfold Tree.width at *;omega)) ?_
   refine sC (ih k hk' (b.yK k) (hs.yK hk')) ?_
   refine sS (λh5=>?_) λh5=>?_
   ·exact zR (congrArg (λx=>D.sc (.bool x)) (zgE (by rintro rfl;simp[Jc] at h5)))
   ·simp[zdj] at h5
    refine .inl ⟨by unfold JL;rw[IntKind.wrap_i64];unfold Tree.width at *;omega,?_⟩
    refine sW ?_
    refine⟨k+1,⟨zo,λj hj=>?_⟩,zd,zbH ⟨rfl,rfl,rfl,rfl,trivial⟩⟩
    by_cases e:j=k
    ·subst e;exact h5
    ·exact hall j zo
  ·have hk':¬k<a.width:=by simpa [Tree.width] using h4
   exact zR (congrArg (λx=>D.sc (.bool x)) (zq9 (Tree.ztL h1 h2 (by unfold Tree.width;omega) λj hj=>hall j zo)))
end
section
open Go.RowKit
theorem zlz:Small (vE 0 0):=.mk _ (by simp[vE,Tree.width,Tree.kids]) λj hj=>by simp[vE,Tree.width,Tree.kids] at hj
theorem zqy {H:List zf}:Deep H (.agg [.sc (.int .i64 0),.sc (.int .i64 0),.sc (.slice none 0 0)]) (zQ (vE 0 0)):=by exact sP
end
section
open Go.RowKit
theorem Wf {H:List zf} {n:Nat} {l:List (List D)} (h:l.length≤n):vH H (List.drop 0 (List.take n l)) l:=by rw[zw h];exact z8 _
def xV (P:List Tree):List (List D):=P.map yy
@[simp] theorem Vv (P:List Tree):(xV P).length=P.length:=List.length_map ..
theorem wF (P:List Tree):yJ (xV P):=zC _ (λt=>yq t) _
@[simp] theorem zt9 {m:Nat} (P:List Tree):zF m (xV P)↔True:=⟨λ_=>trivial,λ_=>zi _ (wF P)⟩
theorem zkF {P:List Tree} {z k:Nat} (hz:z=k) (h:k<P.length):(xV P)[z]? = some (yy (P.getD k default)):=by
 subst hz
 unfold xV
 rw[List.getElem?_map,List.getElem?_eq_getElem h,List.getD_eq_getElem?_getD,List.getElem?_eq_getElem h]
 rfl
theorem zdU (P:List Tree) (z:List D):(List.drop 0 (List.take P.length (xV P))++List.drop 0 (List.take 1 [z]))[0+((P.length-0:Nat):Int).toNat]? = some z:=by
 rw[zw zs,List.getElem?_append_right zs]
 simp
theorem zbF (P:List Tree) (t:Tree) (z:List D):(List.drop 0 (List.take P.length (xV P))++List.drop 0 (List.take 1 [z])).set (0+((P.length-0:Nat):Int).toNat) [.sc (.int .i64 t.kind),.sc (.int .i64 t.num),.xl 3 (t.kids.map y6)]=xV (P++[t]):=by
 rw[zw zs,List.set_append_right _ _ zs]
 simp[xV,yy]
def Wk (A:List Int) (P:List Tree):D:=.yO [zB A,.xl 3 (xV P)]
theorem Zn (A:List Int) (P:List Tree):Pure (Wk A P):=by simp[Wk,Pure,zb,zj,wF]
def yD (A:List Int) (P:List Tree):List zf:=[.row true [.own 1 A.length 0 A.length,.own 2 P.length 0 P.length],.vec true A.length 1 (zI A),.vec true P.length 3 (xV P)]
theorem wS {A:List Int} {P:List Tree} {m:Nat} (hm:3≤m):∀o∈yD A P,o.under m:=by
 intro o ho
 simp only[yD,List.mem_cons,List.not_mem_nil,or_false] at ho
 rcases ho with rfl|rfl|rfl<;>simp[zf.under,zl,zt]<;>omega
theorem x8 {A:List Int} {P:List Tree} {m:Nat} (hm:3≤m):wJ m (yD A P):=by
 have:=wS (A:=A) (P:=P) hm
 unfold yD at *
 exact⟨this _ zs,this _ zs,this _ zs,trivial⟩
def zzC:PC:=.seq (OP [Bi 9 .lss 8 7]) (.seq (.cond 9 .skip (.exit 0)) (.seq (.block 1 (.seq (OP [qm 10 8,qm 5 10]) (.seq (OP [qm 11 1,qm 12 0,qm 13 5,Ia 14 3 12 13,LA 15 3 14,q 16 (.y0 11 [15])]) (.cond 16 (.seq (OP [qm 17 5,qm 4 17]) .ret) .skip)))) (OP [Bi 18 .add 8 (cI 1),qm 8 18])))
def c193:PC:=.seq (OP [Mv 4 (cI 0)]) (.seq (.seq (OP [qm 6 0,Ln 7 6,Mv 8 (cI 0)]) (.block 0 (.loop zzC))) (.seq (OP [Mv 4 (cI (-1))]) .ret))
theorem zwS:zv Tryz.prog 193 19 [.tmp 4] c193:=fK Tryz.func193
theorem zmj (l:List Tree) (hl:l.length≤9223372036854775807) (p:Tree→Bool) (cl:FuncId) (cap:List D) (hp:zb cap) (hc:∀a∈l,zn Tryz.prog cl (zQ a::cap) (.sc (.bool (p a)))) :
  zn Tryz.prog 193 [.xl 3 (xV l),.fn (.func cl) [] cap] (.sc (.int .i64 (wQ p l))):=by
 refine za zwS zs (by simp[zb,Pure,hp,wF]) ?_ (by simp[Pure])
 refine sR ?_
 rw[Vv]
 have fin:∀{z:Int},z=wQ p l→Deep [] (.sc (.int .i64 z)) (.sc (.int .i64 (wQ p l))):=λh=>h▸.refl _
 refine zP [0,1,7] (λk:Nat=>[(8,.sc (.int .i64 k))]) (λ_=>[]) (λk=>k≤l.length∧∀j (hj:j<k) (hl:j<l.length),p l[j]=false) (λk=>l.length-k) 0 ?_
 refine sW ?_
 refine⟨⟨zo,λj hj=>zo⟩,by exact sK,rfl,?_⟩
 rintro k ⟨hk,hno⟩
 refine sW ?_
 refine sR ?_
 refine sS (λh=>?_) λh=>?_
 ·have hk':k<l.length:=sO
  refine⟨zo,yy l[k],by unfold xV;rw[List.getElem?_map,Int.toNat_natCast,List.getElem?_eq_getElem hk'];rfl,?_⟩
  refine sW ?_
  refine sC (hc _ (List.getElem_mem hk')) ?_
  refine sS (λh2=>?_) λh2=>?_
  ·exact fin (Vg hk' h2 λj hj=>hno j hj zo).symm
  ·refine sI ?_
   refine⟨k+1,⟨zo,λj hj hl=>?_⟩,zd,zD (by exact sK) rfl⟩
   by_cases e:j=k
   ·subst e;exact h2
   ·exact hno j zo hl
 ·have hk':¬k<l.length:=sO
  exact fin (Xw λj hj=>hno j zo hj).symm
def c194:PC:=.seq (OP [Bx 2 0,Mv 3 cF]) (.seq (OP [LA 4 3 1,LA 5 3 2,Ca 6 195 [4,5],qm 3 6]) .ret)
theorem zvp:zv Tryz.prog 194 7 [.tmp 3] c194:=fK Tryz.func194
def c151:PC:=.seq (OP [Bx 3 1,Mv 4 (cI 0)]) (.seq (OP [qm 5 0,q 6 (.zq 5),Fa 7 1 6,Lo 8 7,q 9 (.uG (.func 194) [] [3]),Ca 10 193 [8,9],qm 4 10]) .ret)
theorem zxo:zv Tryz.prog 151 11 [.tmp 4] c151:=fK Tryz.func151
def zCz:PC:=.seq (OP [Bi 52 .lss 51 50]) (.seq (.cond 52 .skip (.exit 1)) (.seq (.block 2 (.seq (OP [Ia 53 3 49 51,LA 54 3 53,q 5 (.alloc [(.int .i64 0),(.int .i64 0),(.slice none 0 0)]),So 3 5 54]) (OP [qm 55 0,LA 56 3 5,Ca 57 85 [55,56]]))) (OP [Bi 58 .add 51 (cI 1),qm 51 58])))
def c85:PC:=.seq (OP [Bx 3 1]) (.seq (.seq (OP [Fa 6 0 3,Lo 7 6]) (.block 0 (.seq (OP [Bi 9 .eql 7 (cI 3),qm 8 9]) (.cond 8 (.seq (.ops [qm 10 0,qd 11 (.zq 10) 1,qd 12 (.zy 0 11) 3,qd 13 (.zg 12) 7,Fa 14 1 3,qd 15 (.zg 14) 16,qd 16 (.call 150 [13,15]) 63,qd 17 (.un .not 16) 127] true) (.cond 17 (.ops [qm 18 0,qm 19 0,qd 20 (.zq 19) 2,qd 21 (.zy 0 20) 6,qd 22 (.zg 21) 14,Fa 23 1 3,qd 24 (.zg 23) 32,qd 25 (.wz 1 1 [24]) 96,qd 26 (.append 1 8 22 25) 254,qd 27 (.zq 18) 511,qd 28 (.zy 0 27) 1023,qk (.store 1 28 26) 2047] true) .skip)) (.seq (.seq (OP [Bi 30 .eql 7 (cI 7),qm 29 30]) (.cond 29 .skip (.seq (OP [Bi 31 .eql 7 (cI 8),qm 29 31]) (.cond 29 .skip (OP [Bi 32 .eql 7 (cI 9),qm 29 32]))))) (.cond 29 (.seq (OP [qm 33 0,LA 34 3 3,Ca 35 151 [33,34],Bi 36 .lss 35 (cI 0)]) (.cond 36 (.ops [qm 37 0,qd 38 (.zq 37) 1,qd 39 (.zy 1 38) 3,qd 40 (.zg 39) 7,LA 41 3 3,qd 42 (.len 40) 15,q 43 (.wz 3 1 [(.const (.agg #[.int .i64 0,.int .i64 0,.slice none 0 0]))]),qd 44 (.append 3 40 40 43) 127,qd 45 (.zM 3 44 42) 255,qk (.store 3 45 41) 511,qd 46 (.zq 37) 255,qd 47 (.zy 1 46) 1279,qk (.store 1 47 44) 3327] true) .skip)) .skip)))))) (.seq (OP [Fa 48 2 3,Lo 49 48,Ln 50 49,Mv 51 (cI 0)]) (.block 1 (.loop zCz))))
theorem zBw:zv Tryz.prog 85 59 [] c85:=fK Tryz.func85
theorem zrY (f:Tree) (hf:Small f) (g:Tree):zn Tryz.prog 194 [zQ g,.yO (yy f)] (.sc (.bool (Jc f g))):=by
 refine za zvp zs (by simp[zb,Pure,zh,yq]) ?_ (by simp[Pure])
 refine sR ?_
 refine sC (zps f g hf) ?_
 exact .refl _
theorem zcW (A:List Int) (P:List Tree) (hP:P.length≤1000000) (f:Tree) (hf:Small f):zn Tryz.prog 151 [Wk A P,zQ f] (.sc (.int .i64 (wQ (Jc f) P))):=by
 refine za zxo zs (by simp[zb,Zn,zh]) ?_ (by simp[Pure])
 unfold Wk
 refine sR ?_
 refine sN (zmj P zo (Jc f) 194 [.yO (yy f)] (by simp[zb,Pure,yq]) λa _=>zrY f hf a) ?_
 exact .refl _
theorem vm {t:Tree} {k:Nat} (h:k<t.width):(zZ (t.kids.take k)).length+(yg (t.yK k)).length≤(zZ t.kids).length:=by
 rw[←List.length_append,←wY h]
 conv=>rhs;rw[←List.take_append_drop (k+1) t.kids,Zz,List.flatMap_append,←Zz]
 simp
theorem vu {t:Tree} {k:Nat} (h:k<t.width):(zW (t.kids.take k)).length+(partsOf (t.yK k)).length≤(zW t.kids).length:=by
 rw[←List.length_append,←wU h]
 conv=>rhs;rw[←List.take_append_drop (k+1) t.kids,Zr,List.flatMap_append,←Zr]
 simp
def zDA (t:Tree):Prop:=∀(A:List Int) (P:List Tree),A.length+(yg t).length≤1000→P.length+(partsOf t).length≤1000 →
  yr Tryz.prog 85 [.loc 0 0,zQ t] (yD A P) (.yP []) (yD (vX A (yg t)) (wi P (partsOf t)))
theorem zpV:∀t:Tree,t.wf zU→zDA t:=by
 intro t
 induction t using Tree.ind with
 | h t ih =>
  intro hwf A P hA hP
  have hs:=W5 t hwf
  have hsz:=hs.width
  have har:=uk ((xO _ _).1 hwf).1
  refine wR zBw zs (by simp[yD]) ?_ trivial
  have eA:=Js t
  have eP:=JT t
  have hlA:=u6 (yg t) A
  unfold yD
  refine sR ?_
  refine sS (λk3=>?_) λk3=>?_
  ·have k3:t.kind=3:=by simpa using k3
   rw[if_pos k3] at eA
   rw[if_neg zo] at eP
   rw[eA,List.length_append,List.length_singleton] at hA
   refine sN (zh7 A zo t.num) ?_
   cases r:A.contains t.num
   ·have hA1:vX A [t.num]=A++[t.num]:=by rw[Uu,if_neg (by rw[r];decide)]
    refine sW ?_
    refine sJ ?_
    refine zH (zm 5 (env':=[(0,.loc 0 0),(49,.xl 3 (t.kids.map y6)),(50,.sc (.int .i64 (t.kids.map y6).length)),(51,.sc (.int .i64 0))]) (H':=[.row true [.own 1 (A.length+1) 0 (A.length+1),.own 2 P.length 0 P.length],.vec true (A.length+1) 1 (zI (A++[t.num])),.vec true P.length 3 (xV P),.row true (yy t),.vec true 0 1 [[.sc (.int .i64 t.num)]]]) zs rfl ?_ ?_) ?_
    ·(repeat' (first|exact trivial|exact rfl|exact ym.refl _|exact zX.refl _|exact zN.refl _|refine And.intro ?_ ?_|(simp[zt,zl,zF,-List.map_take,-List.map_drop];done)))
     all_goals first|exact zi _ (xI t)|skip
    ·(repeat' (first|exact trivial|exact rfl|exact ym.refl _|exact zX.refl _|exact zN.refl _|refine And.intro ?_ ?_|(simp[zt,zl,zF,-List.map_take,-List.map_drop];done)))
     all_goals first|exact zr _ (yq _)|exact zp (x5 _ _)|skip
    rw[show A.length+1=(A++[t.num]).length by simp,←hA1]
    have hP1:P=wi P []:=rfl
    have lA1:(vX A [t.num]).length≤A.length+1:=by rw[hA1];simp
    have lP1:P.length≤P.length:=Nat.le_refl _
    have lA:A.length+1+(zZ t.kids).length≤1000:=zo
    have lP:P.length+(zW t.kids).length≤1000:=by rw[eP,List.nil_append] at hP;exact hP
    rw[eA,eP,vn,List.nil_append]
    generalize vX A [t.num]=A1 at *
    refine ye [0,49,50] (λk:Nat=>[(51,.sc (.int .i64 k))]) (λk=>yD (vX A1 (zZ (t.kids.take k))) (wi P (zW (t.kids.take k)))++[.row true (yy t),.vec true 0 1 [[.sc (.int .i64 t.num)]]]) (λk=>k≤t.width) (λk=>t.width-k) 0 ?_
    refine sW ?_
    refine⟨zo,by exact sK,rfl,?_⟩
    rintro k hk
    have lak:=u6 (zZ (t.kids.take k)) A1
    have lpk:=u7 (zW (t.kids.take k)) P
    unfold yD
    refine sW ?_
    refine sR ?_
    refine sS (λq0=>?_) λq0=>?_
    ·have q0:k<t.width:=by simpa [Tree.width] using q0
     refine sL (xb q0) ?_
     have eA2:=wY q0
     have eP2:=wU q0
     have tA:(zZ (t.kids.take k)).length+(yg (t.yK k)).length≤(zZ t.kids).length:=vm q0
     have tP:(zW (t.kids.take k)).length+(partsOf (t.yK k)).length≤(zW t.kids).length:=vu q0
     have hG:=vT (ih k q0 (xG hwf q0) (vX A1 (zZ (t.kids.take k))) (wi P (zW (t.kids.take k))) zo zo) [.row true (yy t),.vec true 0 1 [[.sc (.int .i64 t.num)]],.row true (yy (t.yK k))] (by simp[yD]) (by simp[yD,zl,zt,zz _ (zh _)]) (x8 (by simp[yD]))
     rw[←vn,←wc,←eA2,←eP2] at hG
     unfold yD at hG
     refine sA hG ?_
     refine sI ?_
     refine⟨k+1,zo,zd,?_⟩
     dsimp only
     (refine zm 5 zs rfl ?_ ?_<;>(repeat' (first|exact trivial|exact rfl|exact ym.refl _|exact zX.refl _|exact zN.refl _|refine And.intro ?_ ?_|(simp[zt,zl,zF,-List.map_take,-List.map_drop];done))))
     all_goals first|exact zr _ (yq _)|exact zi _ (xI t)|skip
    ·have q0:k=t.width:=by have:¬k<t.width:=by simpa [Tree.width] using q0
                           omega
     subst q0
     rw[show t.kids.take t.width=t.kids from List.take_length]
     exact⟨.refl _,y7 _ _ (wS (Nat.le_refl _))⟩
   ·have hA1:vX A [t.num]=A:=by rw[Uu,if_pos r]
    refine sW ?_
    have lA1:A.length≤A.length:=Nat.le_refl _
    have lP1:P.length≤P.length:=Nat.le_refl _
    have lA:A.length+(zZ t.kids).length≤1000:=zo
    have lP:P.length+(zW t.kids).length≤1000:=by rw[eP,List.nil_append] at hP;exact hP
    rw[eA,eP,vn,List.nil_append,hA1]
    refine ye [0,49,50] (λk:Nat=>[(51,.sc (.int .i64 k))]) (λk=>yD (vX A (zZ (t.kids.take k))) (wi P (zW (t.kids.take k)))++[.row true (yy t)]) (λk=>k≤t.width) (λk=>t.width-k) 0 ?_
    refine sW ?_
    refine⟨zo,by exact sK,rfl,?_⟩
    rintro k hk
    have lak:=u6 (zZ (t.kids.take k)) A
    have lpk:=u7 (zW (t.kids.take k)) P
    unfold yD
    refine sW ?_
    refine sR ?_
    refine sS (λq0=>?_) λq0=>?_
    ·have q0:k<t.width:=by simpa [Tree.width] using q0
     refine sL (xb q0) ?_
     have eA2:=wY q0
     have eP2:=wU q0
     have tA:(zZ (t.kids.take k)).length+(yg (t.yK k)).length≤(zZ t.kids).length:=vm q0
     have tP:(zW (t.kids.take k)).length+(partsOf (t.yK k)).length≤(zW t.kids).length:=vu q0
     have hG:=vT (ih k q0 (xG hwf q0) (vX A (zZ (t.kids.take k))) (wi P (zW (t.kids.take k))) zo zo) [.row true (yy t),.row true (yy (t.yK k))] (by simp[yD]) (by simp[yD,zl,zt,zz _ (zh _)]) (x8 (by simp[yD]))
     rw[←vn,←wc,←eA2,←eP2] at hG
     unfold yD at hG
     refine sA hG ?_
     refine sI ?_
     refine⟨k+1,zo,zd,?_⟩
     dsimp only
     (refine zm 4 zs rfl ?_ ?_<;>(repeat' (first|exact trivial|exact rfl|exact ym.refl _|exact zX.refl _|exact zN.refl _|refine And.intro ?_ ?_|(simp[zt,zl,zF,-List.map_take,-List.map_drop];done))))
     all_goals first|exact zr _ (yq _)|exact zi _ (xI t)|skip
    ·have q0:k=t.width:=by have:¬k<t.width:=by simpa [Tree.width] using q0
                           omega
     subst q0
     rw[show t.kids.take t.width=t.kids from List.take_length]
     exact⟨.refl _,y7 _ _ (wS (Nat.le_refl _))⟩
  have k3:¬t.kind=3:=by simpa using k3
  rw[if_neg k3,List.nil_append] at eA
  rw[eA] at hA
  have arm:(t.kind=7∨t.kind=8∨t.kind=9)→t.kind=7∨t.kind=8∨t.kind=9:=id
  have lA1:A.length≤A.length:=Nat.le_refl _
  have lP1:P.length≤P.length:=Nat.le_refl _
  refine sS (λk7=>?_) λk7=>?_
  ·have k7:t.kind=7∨t.kind=8∨t.kind=9:=.inl (by simpa using k7)
   rw[if_pos k7] at eP
   rw[eP,List.length_append,List.length_singleton] at hP
   refine sN (zcW A P zo t hs) ?_
   have hany:=uR (Jc t) P
   cases r:P.any (Jc t)
   ·have hlt:(wQ (Jc t) P<0):=by rw[r,decide_eq_false_iff_not] at hany;omega
    have hP1:wi P [t]=P++[t]:=by rw[YK,if_neg (by rw[r];decide)]
    rw[decide_eq_true hlt]
    refine sW ?_
    refine sJ ?_
    refine sB ?_
    refine⟨_,zdU P _,?_⟩
    refine sW ?_
    refine zH (zm 5 (env':=[(0,.loc 0 0),(49,.xl 3 (t.kids.map y6)),(50,.sc (.int .i64 (t.kids.map y6).length)),(51,.sc (.int .i64 0))]) (H':=[.row true [.own 1 A.length 0 A.length,.own 2 (P.length+1) 0 (P.length+1)],.vec true A.length 1 (zI A),.vec true (P.length+1) 3 (xV (P++[t])),.row true (yy t),.vec true 0 3 [[.sc (.int .i64 0),.sc (.int .i64 0),.sc (.slice none 0 0)]]]) zs rfl ?_ ?_) ?_
    ·(repeat' (first|exact trivial|exact rfl|exact ym.refl _|exact zX.refl _|exact zN.refl _|refine And.intro ?_ ?_|(simp[zt,zl,zF,-List.map_take,-List.map_drop];done)))
     all_goals first|exact zi _ (xI t)|skip
    ·(repeat' (first|exact trivial|exact rfl|exact ym.refl _|exact zX.refl _|exact zN.refl _|refine And.intro ?_ ?_|(simp[zt,zl,zF,-List.map_take,-List.map_drop];done)))
     all_goals first|exact zr _ (yq _)|exact zp (zbF P t _)|skip
    rw[show P.length+1=(P++[t]).length by simp,←hP1]
    have lP1':(wi P [t]).length≤P.length+1:=by rw[hP1];simp
    have lA:A.length+(zZ t.kids).length≤1000:=hA
    have lP:P.length+1+(zW t.kids).length≤1000:=zo
    rw[eA,eP,wc]
    generalize wi P [t]=P1 at *
    refine ye [0,49,50] (λk:Nat=>[(51,.sc (.int .i64 k))]) (λk=>yD (vX A (zZ (t.kids.take k))) (wi P1 (zW (t.kids.take k)))++[.row true (yy t),.vec true 0 3 [[.sc (.int .i64 0),.sc (.int .i64 0),.sc (.slice none 0 0)]]]) (λk=>k≤t.width) (λk=>t.width-k) 0 ?_
    refine sW ?_
    refine⟨zo,by exact sK,rfl,?_⟩
    rintro k hk
    have lak:=u6 (zZ (t.kids.take k)) A
    have lpk:=u7 (zW (t.kids.take k)) P1
    unfold yD
    refine sW ?_
    refine sR ?_
    refine sS (λq0=>?_) λq0=>?_
    ·have q0:k<t.width:=by simpa [Tree.width] using q0
     refine sL (xb q0) ?_
     have eA2:=wY q0
     have eP2:=wU q0
     have tA:(zZ (t.kids.take k)).length+(yg (t.yK k)).length≤(zZ t.kids).length:=vm q0
     have tP:(zW (t.kids.take k)).length+(partsOf (t.yK k)).length≤(zW t.kids).length:=vu q0
     have hG:=vT (ih k q0 (xG hwf q0) (vX A (zZ (t.kids.take k))) (wi P1 (zW (t.kids.take k))) zo zo) [.row true (yy t),.vec true 0 3 [[.sc (.int .i64 0),.sc (.int .i64 0),.sc (.slice none 0 0)]],.row true (yy (t.yK k))] (by simp[yD]) (by simp[yD,zl,zt,zz _ (zh _)]) (x8 (by simp[yD]))
     rw[←vn,←wc,←eA2,←eP2] at hG
     unfold yD at hG
     refine sA hG ?_
     refine sI ?_
     refine⟨k+1,zo,zd,?_⟩
     dsimp only
     (refine zm 5 zs rfl ?_ ?_<;>(repeat' (first|exact trivial|exact rfl|exact ym.refl _|exact zX.refl _|exact zN.refl _|refine And.intro ?_ ?_|(simp[zt,zl,zF,-List.map_take,-List.map_drop];done))))
     all_goals first|exact zr _ (yq _)|exact zi _ (xI t)|skip
    ·have q0:k=t.width:=by have:¬k<t.width:=by simpa [Tree.width] using q0
                           omega
     subst q0
     rw[show t.kids.take t.width=t.kids from List.take_length]
     exact⟨.refl _,y7 _ _ (wS (Nat.le_refl _))⟩
   ·have hlt:¬(wQ (Jc t) P<0):=by rw[r,decide_eq_true_eq] at hany;omega
    have hP1:wi P [t]=P:=by rw[YK,if_pos r]
    rw[decide_eq_false hlt]
    refine sW ?_
    have lA:A.length+(zZ t.kids).length≤1000:=hA
    have lP:P.length+(zW t.kids).length≤1000:=zo
    rw[eA,eP,wc,hP1]
    refine ye [0,49,50] (λk:Nat=>[(51,.sc (.int .i64 k))]) (λk=>yD (vX A (zZ (t.kids.take k))) (wi P (zW (t.kids.take k)))++[.row true (yy t)]) (λk=>k≤t.width) (λk=>t.width-k) 0 ?_
    refine sW ?_
    refine⟨zo,by exact sK,rfl,?_⟩
    rintro k hk
    have lak:=u6 (zZ (t.kids.take k)) A
    have lpk:=u7 (zW (t.kids.take k)) P
    unfold yD
    refine sW ?_
    refine sR ?_
    refine sS (λq0=>?_) λq0=>?_
    ·have q0:k<t.width:=by simpa [Tree.width] using q0
     refine sL (xb q0) ?_
     have eA2:=wY q0
     have eP2:=wU q0
     have tA:(zZ (t.kids.take k)).length+(yg (t.yK k)).length≤(zZ t.kids).length:=vm q0
     have tP:(zW (t.kids.take k)).length+(partsOf (t.yK k)).length≤(zW t.kids).length:=vu q0
     have hG:=vT (ih k q0 (xG hwf q0) (vX A (zZ (t.kids.take k))) (wi P (zW (t.kids.take k))) zo zo) [.row true (yy t),.row true (yy (t.yK k))] (by simp[yD]) (by simp[yD,zl,zt,zz _ (zh _)]) (x8 (by simp[yD]))
     rw[←vn,←wc,←eA2,←eP2] at hG
     unfold yD at hG
     refine sA hG ?_
     refine sI ?_
     refine⟨k+1,zo,zd,?_⟩
     dsimp only
     (refine zm 4 zs rfl ?_ ?_<;>(repeat' (first|exact trivial|exact rfl|exact ym.refl _|exact zX.refl _|exact zN.refl _|refine And.intro ?_ ?_|(simp[zt,zl,zF,-List.map_take,-List.map_drop];done))))
     all_goals first|exact zr _ (yq _)|exact zi _ (xI t)|skip
    ·have q0:k=t.width:=by have:¬k<t.width:=by simpa [Tree.width] using q0
                           omega
     subst q0
     rw[show t.kids.take t.width=t.kids from List.take_length]
     exact⟨.refl _,y7 _ _ (wS (Nat.le_refl _))⟩
  refine sS (λk8=>?_) λk8=>?_
  ·have k7:t.kind=7∨t.kind=8∨t.kind=9:=.inr (.inl (by simpa using k8))
   rw[if_pos k7] at eP
   rw[eP,List.length_append,List.length_singleton] at hP
   refine sN (zcW A P zo t hs) ?_
   have hany:=uR (Jc t) P
   cases r:P.any (Jc t)
   ·have hlt:(wQ (Jc t) P<0):=by rw[r,decide_eq_false_iff_not] at hany;omega
    have hP1:wi P [t]=P++[t]:=by rw[YK,if_neg (by rw[r];decide)]
    rw[decide_eq_true hlt]
    refine sW ?_
    refine sJ ?_
    refine sB ?_
    refine⟨_,zdU P _,?_⟩
    refine sW ?_
    refine zH (zm 5 (env':=[(0,.loc 0 0),(49,.xl 3 (t.kids.map y6)),(50,.sc (.int .i64 (t.kids.map y6).length)),(51,.sc (.int .i64 0))]) (H':=[.row true [.own 1 A.length 0 A.length,.own 2 (P.length+1) 0 (P.length+1)],.vec true A.length 1 (zI A),.vec true (P.length+1) 3 (xV (P++[t])),.row true (yy t),.vec true 0 3 [[.sc (.int .i64 0),.sc (.int .i64 0),.sc (.slice none 0 0)]]]) zs rfl ?_ ?_) ?_
    ·(repeat' (first|exact trivial|exact rfl|exact ym.refl _|exact zX.refl _|exact zN.refl _|refine And.intro ?_ ?_|(simp[zt,zl,zF,-List.map_take,-List.map_drop];done)))
     all_goals first|exact zi _ (xI t)|skip
    ·(repeat' (first|exact trivial|exact rfl|exact ym.refl _|exact zX.refl _|exact zN.refl _|refine And.intro ?_ ?_|(simp[zt,zl,zF,-List.map_take,-List.map_drop];done)))
     all_goals first|exact zr _ (yq _)|exact zp (zbF P t _)|skip
    rw[show P.length+1=(P++[t]).length by simp,←hP1]
    have lP1':(wi P [t]).length≤P.length+1:=by rw[hP1];simp
    have lA:A.length+(zZ t.kids).length≤1000:=hA
    have lP:P.length+1+(zW t.kids).length≤1000:=zo
    rw[eA,eP,wc]
    generalize wi P [t]=P1 at *
    refine ye [0,49,50] (λk:Nat=>[(51,.sc (.int .i64 k))]) (λk=>yD (vX A (zZ (t.kids.take k))) (wi P1 (zW (t.kids.take k)))++[.row true (yy t),.vec true 0 3 [[.sc (.int .i64 0),.sc (.int .i64 0),.sc (.slice none 0 0)]]]) (λk=>k≤t.width) (λk=>t.width-k) 0 ?_
    refine sW ?_
    refine⟨zo,by exact sK,rfl,?_⟩
    rintro k hk
    have lak:=u6 (zZ (t.kids.take k)) A
    have lpk:=u7 (zW (t.kids.take k)) P1
    unfold yD
    refine sW ?_
    refine sR ?_
    refine sS (λq0=>?_) λq0=>?_
    ·have q0:k<t.width:=by simpa [Tree.width] using q0
     refine sL (xb q0) ?_
     have eA2:=wY q0
     have eP2:=wU q0
     have tA:(zZ (t.kids.take k)).length+(yg (t.yK k)).length≤(zZ t.kids).length:=vm q0
     have tP:(zW (t.kids.take k)).length+(partsOf (t.yK k)).length≤(zW t.kids).length:=vu q0
     have hG:=vT (ih k q0 (xG hwf q0) (vX A (zZ (t.kids.take k))) (wi P1 (zW (t.kids.take k))) zo zo) [.row true (yy t),.vec true 0 3 [[.sc (.int .i64 0),.sc (.int .i64 0),.sc (.slice none 0 0)]],.row true (yy (t.yK k))] (by simp[yD]) (by simp[yD,zl,zt,zz _ (zh _)]) (x8 (by simp[yD]))
     rw[←vn,←wc,←eA2,←eP2] at hG
     unfold yD at hG
     refine sA hG ?_
     refine sI ?_
     refine⟨k+1,zo,zd,?_⟩
     dsimp only
     (refine zm 5 zs rfl ?_ ?_<;>(repeat' (first|exact trivial|exact rfl|exact ym.refl _|exact zX.refl _|exact zN.refl _|refine And.intro ?_ ?_|(simp[zt,zl,zF,-List.map_take,-List.map_drop];done))))
     all_goals first|exact zr _ (yq _)|exact zi _ (xI t)|skip
    ·have q0:k=t.width:=by have:¬k<t.width:=by simpa [Tree.width] using q0
                           omega
     subst q0
     rw[show t.kids.take t.width=t.kids from List.take_length]
     exact⟨.refl _,y7 _ _ (wS (Nat.le_refl _))⟩
   ·have hlt:¬(wQ (Jc t) P<0):=by rw[r,decide_eq_true_eq] at hany;omega
    have hP1:wi P [t]=P:=by rw[YK,if_pos r]
    rw[decide_eq_false hlt]
    refine sW ?_
    have lA:A.length+(zZ t.kids).length≤1000:=hA
    have lP:P.length+(zW t.kids).length≤1000:=zo
    rw[eA,eP,wc,hP1]
    refine ye [0,49,50] (λk:Nat=>[(51,.sc (.int .i64 k))]) (λk=>yD (vX A (zZ (t.kids.take k))) (wi P (zW (t.kids.take k)))++[.row true (yy t)]) (λk=>k≤t.width) (λk=>t.width-k) 0 ?_
    refine sW ?_
    refine⟨zo,by exact sK,rfl,?_⟩
    rintro k hk
    have lak:=u6 (zZ (t.kids.take k)) A
    have lpk:=u7 (zW (t.kids.take k)) P
    unfold yD
    refine sW ?_
    refine sR ?_
    refine sS (λq0=>?_) λq0=>?_
    ·have q0:k<t.width:=by simpa [Tree.width] using q0
     refine sL (xb q0) ?_
     have eA2:=wY q0
     have eP2:=wU q0
     have tA:(zZ (t.kids.take k)).length+(yg (t.yK k)).length≤(zZ t.kids).length:=vm q0
     have tP:(zW (t.kids.take k)).length+(partsOf (t.yK k)).length≤(zW t.kids).length:=vu q0
     have hG:=vT (ih k q0 (xG hwf q0) (vX A (zZ (t.kids.take k))) (wi P (zW (t.kids.take k))) zo zo) [.row true (yy t),.row true (yy (t.yK k))] (by simp[yD]) (by simp[yD,zl,zt,zz _ (zh _)]) (x8 (by simp[yD]))
     rw[←vn,←wc,←eA2,←eP2] at hG
     unfold yD at hG
     refine sA hG ?_
     refine sI ?_
     refine⟨k+1,zo,zd,?_⟩
     dsimp only
     (refine zm 4 zs rfl ?_ ?_<;>(repeat' (first|exact trivial|exact rfl|exact ym.refl _|exact zX.refl _|exact zN.refl _|refine And.intro ?_ ?_|(simp[zt,zl,zF,-List.map_take,-List.map_drop];done))))
     all_goals first|exact zr _ (yq _)|exact zi _ (xI t)|skip
    ·have q0:k=t.width:=by have:¬k<t.width:=by simpa [Tree.width] using q0
                           omega
     subst q0
     rw[show t.kids.take t.width=t.kids from List.take_length]
     exact⟨.refl _,y7 _ _ (wS (Nat.le_refl _))⟩
  refine sS (λk9=>?_) λk9=>?_
  ·have k7:t.kind=7∨t.kind=8∨t.kind=9:=.inr (.inr (by simpa using k9))
   rw[if_pos k7] at eP
   rw[eP,List.length_append,List.length_singleton] at hP
   refine sN (zcW A P zo t hs) ?_
   have hany:=uR (Jc t) P
   cases r:P.any (Jc t)
   ·have hlt:(wQ (Jc t) P<0):=by rw[r,decide_eq_false_iff_not] at hany;omega
    have hP1:wi P [t]=P++[t]:=by rw[YK,if_neg (by rw[r];decide)]
    rw[decide_eq_true hlt]
    refine sW ?_
    refine sJ ?_
    refine sB ?_
    refine⟨_,zdU P _,?_⟩
    refine sW ?_
    refine zH (zm 5 (env':=[(0,.loc 0 0),(49,.xl 3 (t.kids.map y6)),(50,.sc (.int .i64 (t.kids.map y6).length)),(51,.sc (.int .i64 0))]) (H':=[.row true [.own 1 A.length 0 A.length,.own 2 (P.length+1) 0 (P.length+1)],.vec true A.length 1 (zI A),.vec true (P.length+1) 3 (xV (P++[t])),.row true (yy t),.vec true 0 3 [[.sc (.int .i64 0),.sc (.int .i64 0),.sc (.slice none 0 0)]]]) zs rfl ?_ ?_) ?_
    ·(repeat' (first|exact trivial|exact rfl|exact ym.refl _|exact zX.refl _|exact zN.refl _|refine And.intro ?_ ?_|(simp[zt,zl,zF,-List.map_take,-List.map_drop];done)))
     all_goals first|exact zi _ (xI t)|skip
    ·(repeat' (first|exact trivial|exact rfl|exact ym.refl _|exact zX.refl _|exact zN.refl _|refine And.intro ?_ ?_|(simp[zt,zl,zF,-List.map_take,-List.map_drop];done)))
     all_goals first|exact zr _ (yq _)|exact zp (zbF P t _)|skip
    rw[show P.length+1=(P++[t]).length by simp,←hP1]
    have lP1':(wi P [t]).length≤P.length+1:=by rw[hP1];simp
    have lA:A.length+(zZ t.kids).length≤1000:=hA
    have lP:P.length+1+(zW t.kids).length≤1000:=zo
    rw[eA,eP,wc]
    generalize wi P [t]=P1 at *
    refine ye [0,49,50] (λk:Nat=>[(51,.sc (.int .i64 k))]) (λk=>yD (vX A (zZ (t.kids.take k))) (wi P1 (zW (t.kids.take k)))++[.row true (yy t),.vec true 0 3 [[.sc (.int .i64 0),.sc (.int .i64 0),.sc (.slice none 0 0)]]]) (λk=>k≤t.width) (λk=>t.width-k) 0 ?_
    refine sW ?_
    refine⟨zo,by exact sK,rfl,?_⟩
    rintro k hk
    have lak:=u6 (zZ (t.kids.take k)) A
    have lpk:=u7 (zW (t.kids.take k)) P1
    unfold yD
    refine sW ?_
    refine sR ?_
    refine sS (λq0=>?_) λq0=>?_
    ·have q0:k<t.width:=by simpa [Tree.width] using q0
     refine sL (xb q0) ?_
     have eA2:=wY q0
     have eP2:=wU q0
     have tA:(zZ (t.kids.take k)).length+(yg (t.yK k)).length≤(zZ t.kids).length:=vm q0
     have tP:(zW (t.kids.take k)).length+(partsOf (t.yK k)).length≤(zW t.kids).length:=vu q0
     have hG:=vT (ih k q0 (xG hwf q0) (vX A (zZ (t.kids.take k))) (wi P1 (zW (t.kids.take k))) zo zo) [.row true (yy t),.vec true 0 3 [[.sc (.int .i64 0),.sc (.int .i64 0),.sc (.slice none 0 0)]],.row true (yy (t.yK k))] (by simp[yD]) (by simp[yD,zl,zt,zz _ (zh _)]) (x8 (by simp[yD]))
     rw[←vn,←wc,←eA2,←eP2] at hG
     unfold yD at hG
     refine sA hG ?_
     refine sI ?_
     refine⟨k+1,zo,zd,?_⟩
     dsimp only
     (refine zm 5 zs rfl ?_ ?_<;>(repeat' (first|exact trivial|exact rfl|exact ym.refl _|exact zX.refl _|exact zN.refl _|refine And.intro ?_ ?_|(simp[zt,zl,zF,-List.map_take,-List.map_drop];done))))
     all_goals first|exact zr _ (yq _)|exact zi _ (xI t)|skip
    ·have q0:k=t.width:=by have:¬k<t.width:=by simpa [Tree.width] using q0
                           omega
     subst q0
     rw[show t.kids.take t.width=t.kids from List.take_length]
     exact⟨.refl _,y7 _ _ (wS (Nat.le_refl _))⟩
   ·have hlt:¬(wQ (Jc t) P<0):=by rw[r,decide_eq_true_eq] at hany;omega
    have hP1:wi P [t]=P:=by rw[YK,if_pos r]
    rw[decide_eq_false hlt]
    refine sW ?_
    have lA:A.length+(zZ t.kids).length≤1000:=hA
    have lP:P.length+(zW t.kids).length≤1000:=zo
    rw[eA,eP,wc,hP1]
    refine ye [0,49,50] (λk:Nat=>[(51,.sc (.int .i64 k))]) (λk=>yD (vX A (zZ (t.kids.take k))) (wi P (zW (t.kids.take k)))++[.row true (yy t)]) (λk=>k≤t.width) (λk=>t.width-k) 0 ?_
    refine sW ?_
    refine⟨zo,by exact sK,rfl,?_⟩
    rintro k hk
    have lak:=u6 (zZ (t.kids.take k)) A
    have lpk:=u7 (zW (t.kids.take k)) P
    unfold yD
    refine sW ?_
    refine sR ?_
    refine sS (λq0=>?_) λq0=>?_
    ·have q0:k<t.width:=by simpa [Tree.width] using q0
     refine sL (xb q0) ?_
     have eA2:=wY q0
     have eP2:=wU q0
     have tA:(zZ (t.kids.take k)).length+(yg (t.yK k)).length≤(zZ t.kids).length:=vm q0
     have tP:(zW (t.kids.take k)).length+(partsOf (t.yK k)).length≤(zW t.kids).length:=vu q0
     have hG:=vT (ih k q0 (xG hwf q0) (vX A (zZ (t.kids.take k))) (wi P (zW (t.kids.take k))) zo zo) [.row true (yy t),.row true (yy (t.yK k))] (by simp[yD]) (by simp[yD,zl,zt,zz _ (zh _)]) (x8 (by simp[yD]))
     rw[←vn,←wc,←eA2,←eP2] at hG
     unfold yD at hG
     refine sA hG ?_
     refine sI ?_
     refine⟨k+1,zo,zd,?_⟩
     dsimp only
     (refine zm 4 zs rfl ?_ ?_<;>(repeat' (first|exact trivial|exact rfl|exact ym.refl _|exact zX.refl _|exact zN.refl _|refine And.intro ?_ ?_|(simp[zt,zl,zF,-List.map_take,-List.map_drop];done))))
     all_goals first|exact zr _ (yq _)|exact zi _ (xI t)|skip
    ·have q0:k=t.width:=by have:¬k<t.width:=by simpa [Tree.width] using q0
                           omega
     subst q0
     rw[show t.kids.take t.width=t.kids from List.take_length]
     exact⟨.refl _,y7 _ _ (wS (Nat.le_refl _))⟩
  have k7:¬(t.kind=7∨t.kind=8∨t.kind=9):=by
   simp only[beq_eq_false_iff_ne] at k7 k8 k9
   omega
  rw[if_neg k7,List.nil_append] at eP
  rw[eP] at hP
  rw[eA,eP]
  have lA:A.length+(zZ t.kids).length≤1000:=hA
  have lP:P.length+(zW t.kids).length≤1000:=hP
  refine ye [0,49,50] (λk:Nat=>[(51,.sc (.int .i64 k))]) (λk=>yD (vX A (zZ (t.kids.take k))) (wi P (zW (t.kids.take k)))++[.row true (yy t)]) (λk=>k≤t.width) (λk=>t.width-k) 0 ?_
  refine sW ?_
  refine⟨zo,by exact sK,rfl,?_⟩
  rintro k hk
  have lak:=u6 (zZ (t.kids.take k)) A
  have lpk:=u7 (zW (t.kids.take k)) P
  unfold yD
  refine sW ?_
  refine sR ?_
  refine sS (λq0=>?_) λq0=>?_
  ·have q0:k<t.width:=by simpa [Tree.width] using q0
   refine sL (xb q0) ?_
   have eA2:=wY q0
   have eP2:=wU q0
   have tA:(zZ (t.kids.take k)).length+(yg (t.yK k)).length≤(zZ t.kids).length:=vm q0
   have tP:(zW (t.kids.take k)).length+(partsOf (t.yK k)).length≤(zW t.kids).length:=vu q0
   have hG:=vT (ih k q0 (xG hwf q0) (vX A (zZ (t.kids.take k))) (wi P (zW (t.kids.take k))) zo zo) [.row true (yy t),.row true (yy (t.yK k))] (by simp[yD]) (by simp[yD,zl,zt,zz _ (zh _)]) (x8 (by simp[yD]))
   rw[←vn,←wc,←eA2,←eP2] at hG
   unfold yD at hG
   refine sA hG ?_
   refine sI ?_
   refine⟨k+1,zo,zd,?_⟩
   dsimp only
   (refine zm 4 zs rfl ?_ ?_<;>(repeat' (first|exact trivial|exact rfl|exact ym.refl _|exact zX.refl _|exact zN.refl _|refine And.intro ?_ ?_|(simp[zt,zl,zF,-List.map_take,-List.map_drop];done))))
   all_goals first|exact zr _ (yq _)|exact zi _ (xI t)|skip
  ·have q0:k=t.width:=by have:¬k<t.width:=by simpa [Tree.width] using q0
                         omega
   subst q0
   rw[show t.kids.take t.width=t.kids from List.take_length]
   exact⟨.refl _,y7 _ _ (wS (Nat.le_refl _))⟩
end
section
open Go.RowKit
theorem znB {A:List Int} {x:Int} (h:x∈A):∃k:Nat,k<A.length∧wQ (λa=>x==a) A=(k:Int):=by
 have h1:0≤wQ (λa=>x==a) A:=by
  have:=uR (λa=>x==a) A
  rw[show A.any (λa=>x==a)=true from List.any_eq_true.2 ⟨x,h,zs⟩] at this
  simpa using this
 obtain⟨k,e,hk,_⟩:=za5 h1
 exact⟨k,hk,e⟩
theorem zi2 {P:List Tree} {x:Tree} (h:x∈P):∃k:Nat,k<P.length∧wQ (Jc x) P=(k:Int):=by
 have h1:0≤wQ (Jc x) P:=by
  have:=uR (Jc x) P
  rw[zm5.2 h] at this
  simpa using this
 obtain⟨k,e,hk,_⟩:=za5 h1
 exact⟨k,hk,e⟩
structure zkv (A:List Int) (P:List Tree):Prop where
 few:A.length+P.length≤10
 atoms:∀x∈A,0≤x∧x≤63
 told:∀g∈P,Told A P g
 wf:∀g∈P,g.wf uf∧(g.kind=7∨g.kind=8∨g.kind=9)
theorem W7 {n:Nat} (h:n≤10):2^n≤1024:=Nat.le_trans (Nat.pow_le_pow_right zo h) zc
theorem zeo (n:Nat):(2:Int)^n=((2^n:Nat):Int):=zs
theorem zie (k:Nat) (hk:k≤10):(1:Int)*2^min ((k:Int)).toNat 64=((2^k:Nat):Int):=by
 rw[Int.toNat_natCast,Nat.min_eq_left zo,Int.one_mul,zeo]
def c154:PC:=.seq (OP [Bx 4 1,Mv 6 cF]) (.seq (.seq (OP [Fa 7 0 4,Lo 8 7,Bi 9 .eql 8 (cI 3)]) (.cond 9 (.seq (.ops [qm 10 2,qm 11 0,qd 12 (.zq 11) 2,qd 13 (.zy 0 12) 6,qd 14 (.zg 13) 14,Fa 15 1 4,qd 16 (.zg 15) 32,qd 17 (.call 192 [14,16]) 126,qd 18 (.bin .shr 10 17) 255,qd 19 (.bin .and 18 (cI 1)) 511,qd 20 (.bin .eql 19 (cI 1)) 1023,qw 6 20 2047] true) .ret) .skip)) (.seq (.ops [qm 21 2,qm 22 0,qd 23 (.zq 22) 2,qd 24 (.zy 0 23) 6,qd 25 (.zg 24) 14,qd 26 (.len 25) 30,qm 27 0,LA 28 3 4,qd 29 (.call 151 [27,28]) 192,qd 30 (.bin .add 26 29) 510,qd 31 (.bin .shr 21 30) 1023,qd 32 (.bin .and 31 (cI 1)) 2047,qd 33 (.bin .eql 32 (cI 1)) 4095,qw 6 33 8191] true) .ret))
theorem zva:zv Tryz.prog 154 34 [.tmp 6] c154:=fK Tryz.func154
def c88:PC:=.seq (OP [Bx 4 1,Mv 6 cF]) (.seq (.seq (OP [Fa 7 0 4,Lo 8 7]) (.block 0 (.seq (OP [Bi 10 .eql 8 (cI 1),qm 9 10]) (.cond 9 (.seq (OP [Mv 6 cT]) .ret) (.seq (OP [Bi 12 .eql 8 (cI 2),qm 11 12]) (.cond 11 (.seq (OP [Mv 6 cF]) .ret) (.seq (OP [Bi 14 .eql 8 (cI 4),qm 13 14]) (.cond 13 (.seq (OP [qm 15 0,Fa 16 2 4,Lo 17 16,Ia 18 3 17 (cI 0),LA 19 3 18,qm 20 2,Ca 21 88 [15,19,20],Nt 22 21,qm 6 22]) .ret) (.seq (OP [Bi 24 .eql 8 (cI 5),qm 23 24]) (.cond 23 (.seq (OP [qm 25 0,Fa 26 2 4,Lo 27 26,Ia 28 3 27 (cI 0),LA 29 3 28,qm 30 2,Ca 31 88 [25,29,30],qm 32 31,GT 33 32 (.move 0),GT 34 32 (.zy 2 4),GT 35 32 (.zg 34),GT 36 32 (.zM 3 35 (cI 1)),GT 37 32 (.vC 3 36),GT 38 32 (.move 2),GT 39 32 (.call 88 [33,37,38]),Pk 40 32 39 cF,qm 6 40]) .ret) (.seq (OP [Bi 42 .eql 8 (cI 6),qm 41 42]) (.cond 41 (.seq (OP [qm 43 0,Fa 44 2 4,Lo 45 44,Ia 46 3 45 (cI 0),LA 47 3 46,qm 48 2,Ca 49 88 [43,47,48],qm 50 49,GF 51 50 (.move 0),GF 52 50 (.zy 2 4),GF 53 50 (.zg 52),GF 54 50 (.zM 3 53 (cI 1)),GF 55 50 (.vC 3 54),GF 56 50 (.move 2),GF 57 50 (.call 88 [51,55,56]),Pk 58 50 cT 57,qm 6 58]) .ret) (.seq (OP [Bi 60 .eql 8 (cI 8),qm 59 60]) (.cond 59 (.seq (OP [qm 61 0,Fa 62 2 4,Lo 63 62,Ia 64 3 63 (cI 1),LA 65 3 64,qm 66 2,Ca 67 88 [61,65,66],qm 68 67,GF 69 68 (.move 0),GF 70 68 (.zy 2 4),GF 71 68 (.zg 70),GF 72 68 (.zM 3 71 (cI 0)),GF 73 68 (.vC 3 72),GF 74 68 (.move 2),GF 75 68 (.call 88 [69,73,74]),GF 76 68 (.move 75),GT 77 76 (.move 0),GT 78 76 (.vC 3 4),GT 79 76 (.move 2),GT 80 76 (.call 154 [77,78,79]),GF 81 68 (.pick 76 80 cF),Pk 82 68 cT 81,qm 6 82]) .ret) (.seq (OP [Bi 84 .eql 8 (cI 9),qm 83 84]) (.cond 83 (.seq (OP [qm 85 0,Fa 86 2 4,Lo 87 86,Ia 88 3 87 (cI 1),LA 89 3 88,qm 90 2,Ca 91 88 [85,89,90],qm 92 91,GT 93 92 (.move 0),GT 94 92 (.zy 2 4),GT 95 92 (.zg 94),GT 96 92 (.zM 3 95 (cI 0)),GT 97 92 (.vC 3 96),GT 98 92 (.move 2),GT 99 92 (.call 88 [93,97,98]),GT 100 92 (.move 99),GF 101 100 (.move 0),GF 102 100 (.vC 3 4),GF 103 100 (.move 2),GF 104 100 (.call 154 [101,102,103]),GT 105 92 (.pick 100 cT 104),Pk 106 92 105 cF,qm 6 106]) .ret) .skip)))))))))))))))) (.seq (OP [qm 107 0,LA 108 3 4,qm 109 2,Ca 110 154 [107,108,109],qm 6 110]) .ret))
theorem zBI:zv Tryz.prog 88 111 [.tmp 6] c88:=fK Tryz.func88
def c89:PC:=.seq (OP [Mv 4 (cI 0)]) (.seq (OP [qm 5 1,qm 6 0,q 7 (.zq 6),Fa 8 0 7,Lo 9 8,Ln 10 9,Bi 11 .shr 5 10,qm 4 11]) .ret)
theorem zBc:zv Tryz.prog 89 12 [.tmp 4] c89:=fK Tryz.func89
def zDw:PC:=.seq (OP [Bi 15 .lss 14 13]) (.seq (.cond 15 .skip (.exit 0)) (.seq (.block 1 (.seq (OP [qm 16 14,Ia 17 3 12 14,LA 18 3 17,q 7 (.alloc [(.int .i64 0),(.int .i64 0),(.slice none 0 0)]),qm 6 16,So 3 7 18]) (.seq (OP [LA 19 3 7,q 8 (.alloc [(.int .i64 0),(.int .i64 0),(.slice none 0 0)]),So 3 8 19]) (.seq (.seq (OP [Fa 20 0 7,Lo 21 20,Bi 22 .eql 21 (cI 7)]) (.cond 22 (OP [Fa 23 2 7,Lo 24 23,Ia 25 3 24 (cI 0),LA 26 3 25,So 3 8 26]) .skip)) (.seq (OP [qm 27 0,LA 28 3 8,qm 29 1,Ca 30 88 [27,28,29]]) (.cond 30 (OP [qm 31 5,qm 32 6,Bi 33 .shl (cI 1) 32,Bi 34 .or 31 33,qm 5 34]) .skip)))))) (OP [Bi 35 .add 14 (cI 1),qm 14 35])))
def c87:PC:=.seq (OP [Mv 4 (cI 0)]) (.seq (OP [Mv 5 (cI 0)]) (.seq (.seq (OP [qm 9 0,q 10 (.zq 9),Fa 11 1 10,Lo 12 11,Ln 13 12,Mv 14 (cI 0)]) (.block 0 (.loop zDw))) (.seq (OP [qm 36 5,qm 4 36]) .ret)))
theorem zAt:zv Tryz.prog 87 37 [.tmp 4] c87:=fK Tryz.func87
def zDr:PC:=.seq (OP [Bi 16 .lss 15 14]) (.seq (.cond 16 .skip (.exit 0)) (.seq (.block 1 (.seq (OP [qm 17 15,Ia 18 1 13 15,Lo 19 18,qm 8 17,qm 9 19]) (.seq (OP [qm 20 1,qm 21 8,Bi 22 .shr 20 21,Bi 23 .and 22 (cI 1),Bi 24 .eql 23 (cI 1),qm 25 2,q 26 (.eqb false 24 25)]) (.cond 26 (OP [qm 27 7,qm 28 9,q 29 (.bin .shl (.const (.int .u64 1)) 28),Bi 30 .or 27 29,qm 7 30]) .skip)))) (OP [Bi 31 .add 15 (cI 1),qm 15 31])))
def c90:PC:=.seq (OP [q 6 (.move (.const (.int .u64 0)))]) (.seq (OP [q 7 (.move (.const (.int .u64 0)))]) (.seq (.seq (OP [qm 10 0,q 11 (.zq 10),Fa 12 0 11,Lo 13 12,Ln 14 13,Mv 15 (cI 0)]) (.block 0 (.loop zDr))) (.seq (OP [qm 32 7,qm 6 32]) .ret)))
theorem zBd:zv Tryz.prog 90 33 [.tmp 6] c90:=fK Tryz.func90
def c91:PC:=.seq (OP [Bx 4 1,Mv 6 cF]) (.seq (.seq (OP [Fa 7 0 4,Lo 8 7,Bi 9 .eql 8 (cI 8)]) (.cond 9 (.seq (OP [qm 10 0,LA 11 3 4,qm 12 2,Ca 13 88 [10,11,12],Nt 14 13,qm 15 14,GF 16 15 (.move 0),GF 17 15 (.zy 2 4),GF 18 15 (.zg 17),GF 19 15 (.zM 3 18 (cI 1)),GF 20 15 (.vC 3 19),GF 21 15 (.move 2),GF 22 15 (.call 88 [16,20,21]),Pk 23 15 cT 22,qm 6 23]) .ret) .skip)) (.seq (OP [qm 24 0,LA 25 3 4,qm 26 2,Ca 27 88 [24,25,26],qm 28 27,GF 29 28 (.move 0),GF 30 28 (.zy 2 4),GF 31 28 (.zg 30),GF 32 28 (.zM 3 31 (cI 1)),GF 33 28 (.vC 3 32),GF 34 28 (.move 2),GF 35 28 (.call 88 [29,33,34]),GF 36 28 (.un .not 35),Pk 37 28 cT 36,qm 6 37]) .ret))
theorem zBy:zv Tryz.prog 91 38 [.tmp 6] c91:=fK Tryz.func91
theorem zpS (A:List Int) (P:List Tree) (hI:zkv A P) (f:Tree) (hs:Small f) (hT:Told A P f) (hk:f.kind=3∨f.kind=7∨f.kind=8∨f.kind=9) (s:Nat) :
  zn Tryz.prog 154 [Wk A P,zQ f,.sc (.int .i64 s)] (.sc (.bool (Wi A P s f))):=by
 have hf:=hI.few
 refine za zva zs (by simp[zb,Pure,Zn,zh]) ?_ (by simp[Pure])
 unfold Wk
 refine sR ?_
 refine sS (λk3=>?_) λk3=>?_
 ·have k3:f.kind=3:=by simpa using k3
  obtain⟨k,h1,h2⟩:=znB (hT.atom k3)
  have e:Wi A P s f=s.testBit k:=by unfold Wi ztU;rw[if_pos k3,h2];rfl
  have hi:=zgy A zo f.num
  rw[h2] at hi
  rw[e,←zrk s k zo]
  refine sN hi ?_
  refine⟨zo,?_⟩
  refine sW ?_
  exact .refl _
 ·have k3:¬f.kind=3:=by simpa using k3
  obtain⟨k,h1,h2⟩:=zi2 (hT.part zo)
  have e:Wi A P s f=s.testBit (A.length+k):=by unfold Wi ztU;rw[if_neg k3,h2];rfl
  have hi:=zcW A P zo f hs
  rw[h2] at hi
  unfold Wk at hi
  rw[e,←zrk s (A.length+k) zo]
  refine sN hi ?_
  rw[List.length_map]
  refine sI ?_
  refine⟨zo,?_⟩
  refine sW ?_
  exact .refl _
theorem zaR (A:List Int) (P:List Tree) (hI:zkv A P) (s:Nat):∀f:Tree,f.wf uf→Told A P f →
  zn Tryz.prog 88 [Wk A P,zQ f,.sc (.int .i64 s)] (.sc (.bool (yw (Wi A P s) f))):=by
 intro f
 induction f using Tree.ind with
 | h f ih =>
  intro hwf hT
  have hs:=W5 f (zjW hwf)
  have hsz:=hs.width
  have hK:=zbj hwf
  have hE:=qy (Wi A P s) f
  have hch:=λhk=>zpS A P hI f hs hT hk s
  refine za zBI zs (by simp[zb,Pure,Zn,zh]) ?_ (by simp[Pure])
  have fin:∀{H:List zf} {b:Bool},b=Zl f.kind (Wi A P s f) (f.kids.map (yw (Wi A P s)))→Deep H (.sc (.bool b)) (.sc (.bool (yw (Wi A P s) f))):=λh=>by rw[hE,h];exact .refl _
  have ha:∀j,j<f.width→(f.kids.map (yw (Wi A P s))).getD j false=yw (Wi A P s) (f.yK j):=λj hj=>uB _ hj
  have hI2:∀j,(hj:j<f.width)→zn Tryz.prog 88 [Wk A P,zQ (f.yK j),.sc (.int .i64 s)] (.sc (.bool (yw (Wi A P s) (f.yK j)))):=λj hj=>ih j hj (xG hwf hj) (hT.yK hj)
  unfold Wk at *
  refine sR ?_
  refine sS (λh1=>?_) λh1=>?_
  ·have h1:f.kind=1:=by simpa using h1
   refine fin ?_;rw[h1];rfl
  refine sS (λh2=>?_) λh2=>?_
  ·have h2:f.kind=2:=by simpa using h2
   refine fin ?_;rw[h2];rfl
  refine sS (λh4=>?_) λh4=>?_
  ·have h4:f.kind=4:=by simpa using h4
   have w0:0<f.width:=zo
   have e0:=ha 0 w0
   refine⟨zo,_,xb w0,?_⟩;refine sW ?_
   refine sC (hI2 0 w0) ?_
   refine fin ?_;rw[h4,←e0];rfl
  refine sS (λh5=>?_) λh5=>?_
  ·have h5:f.kind=5:=by simpa using h5
   have w0:0<f.width:=zo
   have w1:1<f.width:=zo
   have e0:=ha 0 w0
   have e1:=ha 1 w1
   refine⟨zo,_,xb w0,?_⟩;refine sW ?_
   refine sC (hI2 0 w0) ?_
   rw[h5] at fin
   unfold Zl at fin
   rw[←e0]
   refine sS (λq0=>?_) λq0=>?_
   ·refine⟨zo,_,xb w1,?_⟩;refine sW ?_
    refine sC (hI2 1 w1) ?_
    refine fin ?_;(try simp only[←e1,q0]);simp
   ·refine fin ?_;(try simp only[q0]);simp
  refine sS (λh6=>?_) λh6=>?_
  ·have h6:f.kind=6:=by simpa using h6
   have w0:0<f.width:=zo
   have w1:1<f.width:=zo
   have e0:=ha 0 w0
   have e1:=ha 1 w1
   refine⟨zo,_,xb w0,?_⟩;refine sW ?_
   refine sC (hI2 0 w0) ?_
   rw[h6] at fin
   unfold Zl at fin
   rw[←e0]
   refine sS (λq0=>?_) λq0=>?_
   ·refine fin ?_;(try simp only[q0]);simp
   ·refine⟨zo,_,xb w1,?_⟩;refine sW ?_
    refine sC (hI2 1 w1) ?_
    refine fin ?_;(try simp only[←e1,q0]);simp
  refine sS (λh8=>?_) λh8=>?_
  ·have h8:f.kind=8:=by simpa using h8
   have w0:0<f.width:=zo
   have w1:1<f.width:=zo
   have e0:=ha 0 w0
   have e1:=ha 1 w1
   refine⟨zo,_,xb w1,?_⟩;refine sW ?_
   refine sC (hI2 1 w1) ?_
   rw[h8] at fin
   unfold Zl at fin
   rw[←e1]
   refine sS (λq1=>?_) λq1=>?_
   ·refine fin ?_;(try simp only[q1]);simp
   ·refine⟨zo,_,xb w0,?_⟩;refine sW ?_
    refine sC (hI2 0 w0) ?_
    rw[←e0]
    refine sS (λq0=>?_) λq0=>?_
    ·refine sC (hch zo) ?_
     refine fin ?_;(try simp only[q0,q1]);simp
    ·refine fin ?_;(try simp only[q0,q1]);simp
  refine sS (λh9=>?_) λh9=>?_
  ·have h9:f.kind=9:=by simpa using h9
   have w0:0<f.width:=zo
   have w1:1<f.width:=zo
   have e0:=ha 0 w0
   have e1:=ha 1 w1
   refine⟨zo,_,xb w1,?_⟩;refine sW ?_
   refine sC (hI2 1 w1) ?_
   rw[h9] at fin
   unfold Zl at fin
   rw[←e1]
   refine sS (λq1=>?_) λq1=>?_
   ·refine⟨zo,_,xb w0,?_⟩;refine sW ?_
    refine sC (hI2 0 w0) ?_
    rw[←e0]
    refine sS (λq0=>?_) λq0=>?_
    ·refine fin ?_;(try simp only[q0,q1]);simp
    ·refine sC (hch zo) ?_
     refine fin ?_;(try simp only[q0,q1]);simp
   ·refine fin ?_;(try simp only[q1]);simp
  have h3:f.kind=3∨f.kind=7:=by
   simp only[beq_eq_false_iff_ne] at h1 h2 h4 h5 h6 h8 h9
   omega
  refine sC (hch zo) ?_
  refine fin ?_;rcases h3 with h3|h3<;>rw[h3]<;>rfl
theorem zun (A:List Int) (P:List Tree) (hA:A.length≤60) (s:Nat):zn Tryz.prog 89 [Wk A P,.sc (.int .i64 s)] (.sc (.int .i64 ((s/2^A.length:Nat):Int))):=by
 refine za zBc zs (by simp[zb,Pure,Zn]) ?_ (by simp[Pure])
 unfold Wk
 refine sR ?_
 rw[List.length_map]
 refine⟨zo,?_⟩
 refine sW ?_
 exact zR (congrArg (λx=>D.sc (.int .i64 x)) (zjC s A.length zo))
theorem zgt {A:List Int} {P:List Tree} (hI:zkv A P) {g:Tree} (hg:g∈P):(Zv g).wf uf∧Told A P (Zv g):=by
 obtain⟨h1,h2⟩:=hI.wf g hg
 have hT:=hI.told g hg
 unfold Zv
 split
 ·have w0:0<g.width:=uN (zjW h1) zo
  exact⟨xG h1 w0,hT.yK w0⟩
 ·exact⟨h1,hT⟩
theorem zfZ {P:List Tree} {k:Nat} (h:k<P.length):P.getD k default∈P:=by
 rw[List.getD_eq_getElem?_getD,List.getElem?_eq_getElem h];simp
theorem zus (A:List Int) (P:List Tree) (hI:zkv A P) (s:Nat):zn Tryz.prog 87 [Wk A P,.sc (.int .i64 s)] (.sc (.int .i64 (Vw A P s))):=by
 have hf:=hI.few
 refine za zAt zs (by simp[zb,Pure,Zn]) ?_ (by simp[Pure])
 have hH:=λg (hg:g∈P)=>zaR A P hI s (Zv g) (zgt hI hg).1 (zgt hI hg).2
 unfold Wk at *
 refine sR ?_
 rw[Vv]
 refine zP [0,1,12,13] (λk:Nat=>[(5,.sc (.int .i64 (X7 (hK A P s) k))),(14,.sc (.int .i64 k))]) (λ_=>[]) (λk=>k≤P.length) (λk=>P.length-k) 0 ?_
 refine sW ?_
 refine⟨zo,by exact sK,rfl,?_⟩
 rintro k hk
 refine sW ?_
 refine sR ?_
 refine sS (λq0=>?_) λq0=>?_
 ·have q0:k<P.length:=sO
  refine sL (zkF (k:=k) zo q0) ?_
  have hg:=zfZ q0
  obtain⟨hw,hk7⟩:=hI.wf _ hg
  have hB:=hH _ hg
  have hb:hK A P s k=yw (Wi A P s) (Zv (P.getD k default)):=rfl
  have hS:X7 (hK A P s) (k+1)=if hK A P s k=true then X7 (hK A P s) k+2^k else X7 (hK A P s) k:=rfl
  have hlt:=Vl (hK A P s) k
  have hp10:=W7 (n:=k) zo
  have e1:(1:Int)*2^min ((k:Int)).toNat IntKind.i64.bits=((2^k:Nat):Int):=zie k zo
  have e2:=zyF (X7 (hK A P s) k) k hlt zo
  rw[←hb] at hB
  generalize hK A P s k=b at *
  generalize P.getD k default=g at *
  refine sS (λg7=>?_) λg7=>?_
  ·have g7:g.kind=7:=by simpa using g7
   have w0:0<g.width:=uN (zjW hw) zo
   rw[show Zv g=g.yK 0 from if_pos g7] at hB
   refine sL (xb w0) ?_
   refine sC hB ?_
   cases b
   ·rw[if_neg zc] at hS
    refine sW ?_
    refine sI ?_
    refine⟨k+1,zo,zd,?_⟩
    dsimp only
    rw[hS]
    (refine zm 0 zs rfl ?_ ?_<;>(repeat' (first|exact trivial|exact rfl|exact ym.refl _|exact zX.refl _|exact zN.refl _|refine And.intro ?_ ?_|(simp[zt,zl,zF,-List.map_take,-List.map_drop];done))))
    all_goals first|exact zi _ (wF _)|exact zz _ (zj _)|skip
   ·rw[if_pos rfl] at hS
    refine sW ?_
    refine⟨zo,?_⟩
    rw[e1]
    generalize 2^k=z at *
    refine sI ?_
    rw[e2]
    refine sI ?_
    refine⟨k+1,zo,zd,?_⟩
    dsimp only
    rw[hS]
    (refine zm 0 zs rfl ?_ ?_<;>(repeat' (first|exact trivial|exact rfl|exact ym.refl _|exact zX.refl _|exact zN.refl _|refine And.intro ?_ ?_|(simp[zt,zl,zF,-List.map_take,-List.map_drop];done))))
    all_goals first|exact zi _ (wF _)|exact zz _ (zj _)|skip
  ·have g7:¬g.kind=7:=by simpa using g7
   rw[show Zv g=g from if_neg g7] at hB
   refine sC hB ?_
   cases b
   ·rw[if_neg zc] at hS
    refine sW ?_
    refine sI ?_
    refine⟨k+1,zo,zd,?_⟩
    dsimp only
    rw[hS]
    (refine zm 0 zs rfl ?_ ?_<;>(repeat' (first|exact trivial|exact rfl|exact ym.refl _|exact zX.refl _|exact zN.refl _|refine And.intro ?_ ?_|(simp[zt,zl,zF,-List.map_take,-List.map_drop];done))))
    all_goals first|exact zi _ (wF _)|exact zz _ (zj _)|skip
   ·rw[if_pos rfl] at hS
    refine sW ?_
    refine⟨zo,?_⟩
    rw[e1]
    generalize 2^k=z at *
    refine sI ?_
    rw[e2]
    refine sI ?_
    refine⟨k+1,zo,zd,?_⟩
    dsimp only
    rw[hS]
    (refine zm 0 zs rfl ?_ ?_<;>(repeat' (first|exact trivial|exact rfl|exact ym.refl _|exact zX.refl _|exact zN.refl _|refine And.intro ?_ ?_|(simp[zt,zl,zF,-List.map_take,-List.map_drop];done))))
    all_goals first|exact zi _ (wF _)|exact zz _ (zj _)|skip
 ·have q0:k=P.length:=by have:¬k<P.length:=sO
                         omega
  subst q0
  exact .refl _
theorem zns (A:List Int) (P:List Tree) (hA:A.length≤60) (hr:∀x∈A,0≤x∧x≤63) (s:Nat) (is:Bool):zn Tryz.prog 90 [Wk A P,.sc (.int .i64 s),.sc (.bool is)] (.sc (.int .u64 (xM A s is A.length))):=by
 refine za zBd zs (by simp[zb,Pure,Zn]) ?_ (by simp[Pure])
 unfold Wk
 refine sR ?_
 rw[List.length_map]
 refine zP [1,2,13,14] (λk:Nat=>[(7,.sc (.int .u64 (xM A s is k))),(15,.sc (.int .i64 k))]) (λ_=>[]) (λk=>k≤A.length) (λk=>A.length-k) 0 ?_
 refine sW ?_
 refine⟨zo,by exact sK,rfl,?_⟩
 rintro k hk
 refine sW ?_
 refine sR ?_
 refine sS (λq0=>?_) λq0=>?_
 ·have q0:k<A.length:=sO
  refine sL (yc (l:=A) (k:=k) zo q0) ?_
  have hx:=hr _ (yz q0)
  have hS:xM A s is (k+1)=if (s.testBit k==is)=true then vl .or .u64 (xM A s is k) (2^(A.getD k 0).toNat) else xM A s is k:=rfl
  generalize A.getD k 0=x at *
  refine⟨zo,?_⟩
  refine sW ?_
  have eb:(vl .and .i64 ((s:Int).fdiv (2^min ((k:Int)).toNat IntKind.i64.bits)) 1==1)=s.testBit k:=zrk s k zo
  have e1:(1:Int)*2^min x.toNat IntKind.u64.bits=2^x.toNat:=by
   rw[show IntKind.u64.bits=64 from rfl,Nat.min_eq_left zo,Int.one_mul]
  have hb2:(0:Int)≤2^x.toNat∧(2:Int)^x.toNat<18446744073709551616:=by
   have h1:2^x.toNat≤2^63:=Nat.pow_le_pow_right zo zo
   have h2:(2:Nat)^63=9223372036854775808:=zc
   rw[zeo]
   generalize 2^x.toNat=z at *
   omega
  rw[eb]
  cases r:(s.testBit k==is)
  ·rw[r,if_neg zc] at hS
   refine sW ?_
   refine sI ?_
   refine⟨k+1,zo,zd,?_⟩
   dsimp only
   rw[hS]
   exact zD (by exact sK) rfl
  ·rw[r,if_pos rfl] at hS
   refine sW ?_
   refine⟨zo,?_⟩
   rw[e1]
   refine .inl ⟨by unfold JL;rw[IntKind.wrap_u64];omega,?_⟩
   refine sW ?_
   refine sI ?_
   refine⟨k+1,zo,zd,?_⟩
   dsimp only
   rw[hS]
   exact zD (by exact sK) rfl
 ·have q0:k=A.length:=by have:¬k<A.length:=sO
                         omega
  subst q0
  exact .refl _
theorem zvM (A:List Int) (P:List Tree) (hI:zkv A P) (s:Nat) (g:Tree) (hw:g.wf uf) (hT:Told A P g) (hk:g.kind=8∨g.kind=9):zn Tryz.prog 91 [Wk A P,zQ g,.sc (.int .i64 s)] (.sc (.bool (ZF A P g s))):=by
 have hf:=hI.few
 have w1:1<g.width:=by have:=zbj hw;omega
 have h0:=zaR A P hI s g hw hT
 have h1:=zaR A P hI s (g.yK 1) (xG hw w1) (hT.yK w1)
 have hE:ZF A P g s=if g.kind=8 then !(yw (Wi A P s) g)||yw (Wi A P s) (g.yK 1) else yw (Wi A P s) g||!(yw (Wi A P s) (g.yK 1)):=rfl
 refine za zBy zs (by simp[zb,Pure,Zn,zh]) ?_ (by simp[Pure])
 generalize yw (Wi A P s) g=b0 at *
 generalize yw (Wi A P s) (g.yK 1)=b1 at *
 rw[hE]
 unfold Wk at *
 refine sR ?_
 refine sS (λg8=>?_) λg8=>?_
 ·have g8:g.kind=8:=by simpa using g8
  rw[if_pos g8]
  refine sC h0 ?_
  cases b0
  ·refine sW ?_
   exact .refl _
  ·refine sW ?_
   refine sL (xb w1) ?_
   refine sC h1 ?_
   exact .refl _
 ·have g8:¬g.kind=8:=by simpa using g8
  rw[if_neg g8]
  refine sC h0 ?_
  cases b0
  ·refine sW ?_
   refine sL (xb w1) ?_
   refine sC h1 ?_
   exact .refl _
  ·refine sW ?_
   exact .refl _
end
section
open Go.RowKit Go.Shelf Go.Sort
def zkd:Go.Shelf.Ren:=⟨λ| 189=>86|125=>153|257=>152|128=>205|129=>206|294=>196|295=>197|296=>198|297=>199|298=>200|299=>201|216=>202|300=>203|301=>204|328=>224|329=>225|330=>226|331=>227|332=>228|215=>229|343=>238|n=>n,λ| 28=>44|3=>3|46=>226|0=>0|51=>264|53=>99|4=>4|183=>257|182=>256|131=>234|5=>5|9=>9|218=>277|222=>164|228=>287|229=>288|n=>n,λ| n=>n⟩
theorem zn7:Go.Proofs.Lays.n189 Tryz.prog zkd:={
 mixed:=by kernel_rfl,
 f125:=Tryz.func153.trans (congrArg some (by kernel_rfl)),
 f128:=Tryz.func205.trans (congrArg some (by kernel_rfl)),
 f129:=Tryz.func206.trans (congrArg some (by kernel_rfl)),
 f189:=Tryz.func86.trans (congrArg some (by kernel_rfl)),
 f215:=Tryz.func229.trans (congrArg some (by kernel_rfl)),
 f216:=Tryz.func202.trans (congrArg some (by kernel_rfl)),
 f257:=Tryz.func152.trans (congrArg some (by kernel_rfl)),
 f294:=Tryz.func196.trans (congrArg some (by kernel_rfl)),
 f295:=Tryz.func197.trans (congrArg some (by kernel_rfl)),
 f296:=Tryz.func198.trans (congrArg some (by kernel_rfl)),
 f297:=Tryz.func199.trans (congrArg some (by kernel_rfl)),
 f298:=Tryz.func200.trans (congrArg some (by kernel_rfl)),
 f299:=Tryz.func201.trans (congrArg some (by kernel_rfl)),
 f300:=Tryz.func203.trans (congrArg some (by kernel_rfl)),
 f301:=Tryz.func204.trans (congrArg some (by kernel_rfl)),
 f328:=Tryz.func224.trans (congrArg some (by kernel_rfl)),
 f329:=Tryz.func225.trans (congrArg some (by kernel_rfl)),
 f330:=Tryz.func226.trans (congrArg some (by kernel_rfl)),
 f331:=Tryz.func227.trans (congrArg some (by kernel_rfl)),
 f332:=Tryz.func228.trans (congrArg some (by kernel_rfl)),
 f343:=Tryz.func238.trans (congrArg some (by kernel_rfl)),
 t0:=Tryz.underlying0,
 a0:=Tryz.isAgg0,
 z0:=Tryz.sizeOf0,
 v0:=Tryz.zeroValue0,
 t3:=Tryz.underlying3,
 a3:=Tryz.isAgg3,
 z3:=Tryz.sizeOf3,
 v3:=Tryz.zeroValue3,
 t4:=Tryz.underlying4,
 a4:=Tryz.isAgg4,
 z4:=Tryz.sizeOf4,
 v4:=Tryz.zeroValue4,
 t5:=Tryz.underlying5,
 a5:=Tryz.isAgg5,
 z5:=Tryz.sizeOf5,
 v5:=Tryz.zeroValue5,
 t9:=Tryz.underlying9,
 a9:=Tryz.isAgg9,
 z9:=Tryz.sizeOf9,
 v9:=Tryz.zeroValue9,
 t28:=Tryz.underlying44,
 a28:=Tryz.isAgg44,
 z28:=Tryz.sizeOf44,
 v28:=Tryz.zeroValue44,
 t46:=Tryz.underlying226,
 a46:=Tryz.isAgg226,
 z46:=Tryz.sizeOf226,
 v46:=Tryz.zeroValue226,
 t51:=Tryz.underlying264,
 a51:=Tryz.isAgg264,
 z51:=Tryz.sizeOf264,
 v51:=Tryz.zeroValue264,
 t53:=Tryz.underlying99,
 a53:=Tryz.isAgg99,
 z53:=Tryz.sizeOf99,
 v53:=Tryz.zeroValue99,
 t131:=Tryz.underlying234,
 a131:=Tryz.isAgg234,
 z131:=Tryz.sizeOf234,
 v131:=Tryz.zeroValue234,
 t182:=Tryz.underlying256,
 a182:=Tryz.isAgg256,
 z182:=Tryz.sizeOf256,
 v182:=Tryz.zeroValue256,
 t183:=Tryz.underlying257,
 a183:=Tryz.isAgg257,
 z183:=Tryz.sizeOf257,
 v183:=Tryz.zeroValue257,
 t218:=Tryz.underlying277,
 a218:=Tryz.isAgg277,
 z218:=Tryz.sizeOf277,
 v218:=Tryz.zeroValue277,
 t222:=Tryz.underlying164,
 a222:=Tryz.isAgg164,
 z222:=Tryz.sizeOf164,
 v222:=Tryz.zeroValue164,
 t228:=Tryz.underlying287,
 a228:=Tryz.isAgg287,
 z228:=Tryz.sizeOf287,
 v228:=Tryz.zeroValue287,
 t229:=Tryz.underlying288,
 a229:=Tryz.isAgg288,
 z229:=Tryz.sizeOf288,
 v229:=Tryz.zeroValue288 }
def Wm (l:List Int):List Int:=l.mergeSort λx y=>decide (x≤y)
@[simp] theorem zov (l:List Int):(Wm l).length=l.length:=by unfold Wm;exact List.length_mergeSort _
theorem zsy {w:World} {b o:Nat} {vals:Array Value} {te:TypeId} {fr:Nat × Nat} {n:Nat} {os:Array Obj} (d:Array Int) (hb:w.heap[b]? = some (.cells vals te fr)) :
  (grow (putRow (Value.int .i64) (Sort.ahead w n) b o d) os).heap[b]? = some (.cells (putCells (Value.int .i64) o d vals) te fr):=by
 have hg:b<w.heap.size:=(Array.getElem?_eq_some_iff.1 hb).1
 rw[heap_grow_old _ _ (by simpa using hg)]
 simp[putRow,mapBlock,Sort.ahead,Array.getElem?_modify,hb,onCells]
theorem zmu {w:World} {b o:Nat} {n:Nat} {os:Array Obj} (d:Array Int) {k:Nat} (hk:k<w.heap.size) (hne:k≠b):(grow (putRow (Value.int .i64) (Sort.ahead w n) b o d) os).heap[k]? = w.heap[k]?:=by
 rw[heap_grow_old _ _ (by simpa using hk)]
 have:b≠k:=λe=>hne e.symm
 simp[putRow,mapBlock,Sort.ahead,Array.getElem?_modify,this]
theorem zr9 (z7:Nat) (l:List Int) (h0:0<l.length) (hl:l.length<4611686018427387904) :
  yr Tryz.prog 86 [.own 0 z7 0 l.length] [.vec true z7 1 (zI l)] (.yP []) [.vec true z7 1 (zI (Wm l))] where
 ok:=⟨_,Tryz.func86,by kernel_rfl,by kernel_rfl⟩
 len:=zs
 run J F w vs hst hdom hR:=by
  simp only[yi,rep] at hR
  obtain⟨v,us,rfl,⟨s,A,n,c,hJ,rfl,_,hq⟩,rfl⟩:=hR
  obtain⟨ob,ho,hO⟩:=hst.obj 0 s hJ
  have ho:zf.vec true z7 1 (zI l)=ob:=Option.some.inj ho
  subst ho
  simp only[YV] at hO
  obtain⟨hrow,hver,hesz,hlen,hcap,hmem⟩:=hO
  obtain⟨_,_,hhi,hn,hc,hA⟩:=hq hver.symm
  have hsl:s.len=l.length:=by rw[hlen];simp[zI]
  have hc0:¬s.cap=0:=zo
  obtain⟨b,o,had,hAv⟩:=hA.resolve_left hc0
  obtain⟨b',o',vals,te,had',hb,hsz,hrr,_⟩:=hmem.resolve_left hc0
  rw[had] at had'
  obtain⟨rfl,rfl⟩:b=b'∧o=o':=by
   have:=Option.some.inj had'
   injection this with h1 h2 h3
   exact⟨h1,h2⟩
  rw[Nat.zero_mul,Nat.add_zero] at hAv
  subst hAv
  have hnl:n=l.length:=zo
  subst hnl
  have hbs:b<w.heap.size:=(Array.getElem?_eq_some_iff.1 hb).1
  have hH:Holds (Value.int .i64) w b o l.toArray:=λj hj=>by
   have hj':j<l.length:=by simpa using hj
   obtain⟨_,hcell⟩:=wV (zI l) o j [.sc (.int .i64 l[j])] (by simp[zI,hj']) hrr
   simp only[zV,rep] at hcell
   obtain⟨⟨u,hu,_,rfl⟩,_⟩:=hcell
   rw[Nat.mul_one] at hu
   refine⟨by rw[hu];simp[hj'],by simp[World.frozen?,hb]⟩
  have hblk:s.qa=some b:=by unfold Site.qa;rw[if_neg (by simp[hc0]),had];rfl
  have hnF:¬F b:=hst.apart 0 s b _ hJ hblk rfl rfl
  refine(Any.slices_Sort_int zn7 b o c l w hH hbs hl).mono λe w' ⟨he,nd,os,hw'⟩=>?_
  have hrow':w'.heap[b]? = some (.cells (putCells (Value.int .i64) o (Wm l).toArray vals) te (0,0)):=by rw[hw'];exact zsy _ hb
  have hoth:∀k,k<w.heap.size→k≠b→w'.heap[k]? = w.heap[k]?:=λk h1 h2=>by rw[hw'];exact zmu _ h1 h2
  have hsize:w.heap.size≤w'.heap.size:=by rw[hw'];simp[Sort.ahead]
  have hfr:∀k,F k→w'.heap[k]? = w.heap[k]?:=λk hk=>hoth k (hst.lt k hk) λe=>hnF (e▸hk)
  have hos:w'.os=w.os∧w'.tape=w.tape∧w'.output=w.output:=by rw[hw'];exact⟨rfl,rfl,rfl⟩
  refine⟨_,J,F,he,?_,hdom,by simp[rep,yi],?_⟩
  ·refine hst.update 0 s (.vec true z7 1 (zI (Wm l))) (λi=>?_) (λi=>?_) (y4.le_refl J) hfr hsize ?_ (λb2 h2=>.inr ⟨s,hJ,h2⟩) (λi s2 b2 h1 h2=>hst.xx h1 h2) ?_ ?_
   ·by_cases e:i=0
    ·subst e;rw[if_pos rfl,hJ]
    ·rw[if_neg e]
   ·by_cases e:i=0
    ·subst e;rfl
    ·rw[if_neg e]
     cases i with
     | zero=>exact absurd rfl e
     | succ i=>rfl
   ·intro i s2 b2 hi h1 h2
    refine hoth b2 (hst.xx h1 h2) λe=>hi ?_
    subst e
    exact hst.one i 0 s2 s b2 h1 hJ h2 hblk
   ·intro b2 h1 _
    rw[hblk] at h1
    cases h1
    exact hnF
   ·simp only[YV]
    refine⟨hrow,hver,hesz,by rw[hlen];simp[zI],hcap,.inr ⟨b,o,_,te,had,hrow',by simp[putCells];omega,?_,λh=>by cases h⟩⟩
    refine vz _ _ λj x hx=>?_
    have hj:j<(Wm l).length:=by
     have:=(List.getElem?_eq_some_iff.1 hx).1
     simpa [zI] using this
    have hx':x=[.sc (.int .i64 (Wm l)[j])]:=by
     have:(zI (Wm l))[j]? = some [.sc (.int .i64 (Wm l)[j])]:=by simp[zI,hj]
     rw[hx] at this
     exact Option.some.inj this
    subst hx'
    refine⟨rfl,?_⟩
    simp only[zV,rep]
    refine⟨⟨_,?_,rfl,rfl⟩,trivial⟩
    have hjv:o+j<vals.size:=by
     rw[zov] at hj
     rw[Nat.mul_one] at hsz
     omega
    simp only[World.cell?,hrow',Nat.mul_one]
    simp only[Option.isSome_none,Bool.false_eq_true,if_false]
    have hjl:j<l.length:=by simpa using hj
    simp[putCells,hjv,hjl,List.getElem?_eq_getElem hj]
  ·exact⟨hos.1,hos.2.1,hos.2.2,hsize,λk hk ho=>hoth k hk λe=>ho ⟨0,s,hJ,e▸hblk⟩,hfr,y4.le_refl J,λ_ h=>h,λ_ h=>.inl h,λ_ h=>.inl h⟩
def c86:PC:=.seq (OP [qm 3 0,Ln 4 3,qm 2 4]) (OP [qm 5 0,qm 6 2,qm 7 2,q 8 (.conv .u64 7),Ca 9 153 [8],Ca 10 152 [5,(cI 0),6,9]])
theorem zAc:zv Tryz.prog 86 11 [] c86:=fK Tryz.func86
def zBb:PC:=.block 1 (.seq (OP [qm 19 2,qm 20 1,Bi 21 .sub 19 20,qm 10 21]) (.seq (.seq (OP [qm 22 10,Bi 23 .leq 22 (cI 12)]) (.cond 23 (.seq (OP [qm 24 0,qm 25 1,qm 26 2,Ca 27 196 [24,25,26]]) .ret) .skip)) (.seq (.seq (OP [qm 28 3,Bi 29 .eql 28 (cI 0)]) (.cond 29 (.seq (OP [qm 30 0,qm 31 1,qm 32 2,Ca 33 197 [30,31,32]]) .ret) .skip)) (.seq (.seq (OP [qm 34 8,Nt 35 34]) (.cond 35 (.seq (OP [qm 36 0,qm 37 1,qm 38 2,Ca 39 198 [36,37,38]]) (OP [qm 40 3,Bi 41 .sub 40 (cI 1),qm 3 41])) .skip)) (.seq (OP [qm 43 0,qm 44 1,qm 45 2,Ca 46 199 [43,44,45],qm 42 46,Xt 47 0 42,Xt 48 1 42,qm 11 47,qm 12 48]) (.seq (.seq (OP [qm 49 12,Bi 50 .eql 49 (cI 2)]) (.cond 50 (.seq (OP [qm 51 0,qm 52 1,qm 53 2,Ca 54 200 [51,52,53]]) (.seq (OP [qm 55 2,Bi 56 .sub 55 (cI 1),qm 57 11,qm 58 1,Bi 59 .sub 57 58,Bi 60 .sub 56 59,qm 11 60]) (OP [Mv 12 (cI 1)]))) .skip)) (.seq (.seq (OP [qm 61 8,qm 62 61,GT 63 62 (.move 9),Pk 64 62 63 cF,qm 65 64,GT 66 65 (.move 12),GT 67 65 (.bin .eql 66 (cI 1)),Pk 68 65 67 cF]) (.cond 68 (.seq (OP [qm 69 0,qm 70 1,qm 71 2,Ca 72 201 [69,70,71]]) (.cond 72 .ret .skip)) .skip)) (.seq (.seq (.ops [qm 73 1,qd 74 (.bin .gtr 73 (cI 0)) 1,qw 75 74 3,⟨some 76,.move 0,some (75,true),7⟩,⟨some 77,.move 1,some (75,true),7⟩,⟨some 78,.bin .sub 77 (cI 1),some (75,true),23⟩,⟨some 79,.zM 1 76 78,some (75,true),63⟩,⟨some 80,.zg 79,some (75,true),127⟩,⟨some 81,.move 0,some (75,true),7⟩,⟨some 82,.move 11,some (75,true),7⟩,⟨some 83,.zM 1 81 82,some (75,true),775⟩,⟨some 84,.zg 83,some (75,true),1799⟩,⟨some 85,.call 202 [80,84],some (75,true),4095⟩,⟨some 86,.un .not 85,some (75,true),8191⟩,qd 87 (.pick 75 86 cF) 16383] true) (.cond 87 (.seq (OP [qm 88 0,qm 89 1,qm 90 2,qm 91 11,Ca 92 203 [88,89,90,91],qm 13 92]) (.seq (OP [qm 93 13,qm 1 93]) (.exit 1))) .skip)) (.seq (OP [qm 95 0,qm 96 1,qm 97 2,qm 98 11,Ca 99 204 [95,96,97,98],qm 94 99,Xt 100 0 94,Xt 101 1 94,qm 14 100,qm 15 101]) (.seq (OP [qm 102 15,qm 9 102]) (.seq (OP [qm 103 14,qm 104 1,Bi 105 .sub 103 104,qm 106 2,qm 107 14,Bi 108 .sub 106 107,qm 16 105,qm 17 108]) (.seq (OP [qm 109 10,Bi 110 .quo 109 (cI 8),qm 18 110]) (.seq (OP [qm 111 16,qm 112 17,Bi 113 .lss 111 112]) (.cond 113 (.seq (OP [qm 114 16,qm 115 18,Bi 116 .geq 114 115,qm 8 116]) (.seq (OP [qm 117 0,qm 118 1,qm 119 14,qm 120 3,Ca 121 152 [117,118,119,120]]) (OP [qm 122 14,Bi 123 .add 122 (cI 1),qm 1 123]))) (.seq (OP [qm 124 17,qm 125 18,Bi 126 .geq 124 125,qm 8 126]) (.seq (OP [qm 127 0,qm 128 14,Bi 129 .add 128 (cI 1),qm 130 2,qm 131 3,Ca 132 152 [127,129,130,131]]) (OP [qm 133 14,qm 2 133])))))))))))))))))
def c152:PC:=.seq (OP [Mv 8 cT]) (.seq (OP [Mv 9 cT]) (.block 0 (.loop zBb)))
theorem zuL:zv Tryz.prog 152 134 [] c152:=fK Tryz.func152
def zBv:PC:=.seq (.seq (.ops [qm 16 7,qm 17 1,qd 18 (.bin .gtr 16 17) 3,qw 19 18 7,⟨some 20,.move 0,some (19,true),15⟩,⟨some 21,.move 7,some (19,true),15⟩,⟨some 22,.zM 1 20 21,some (19,true),63⟩,⟨some 23,.zg 22,some (19,true),127⟩,⟨some 24,.move 0,some (19,true),15⟩,⟨some 25,.move 7,some (19,true),15⟩,⟨some 26,.bin .sub 25 (cI 1),some (19,true),527⟩,⟨some 27,.zM 1 24 26,some (19,true),1807⟩,⟨some 28,.zg 27,some (19,true),3855⟩,⟨some 29,.call 202 [23,28],some (19,true),8191⟩,qd 30 (.pick 19 29 cF) 16383] true) (.cond 30 .skip (.exit 2))) (.seq (.block 3 (.ops [qm 33 0,qm 34 7,qm 35 0,qm 36 7,qd 37 (.bin .sub 36 (cI 1)) 8,qm 38 0,qm 39 7,qd 40 (.bin .sub 39 (cI 1)) 64,qd 41 (.zM 1 38 40) 224,qd 42 (.zg 41) 480,qm 43 0,qm 44 7,qd 45 (.zM 1 43 44) 3072,qd 46 (.zg 45) 7168,qd 47 (.zM 1 33 34) 16355,qk (.store 1 47 42) 32739,qd 48 (.zM 1 35 37) 65535,qk (.store 1 48 46) 131071] true)) (OP [qm 31 7,Bi 32 .sub 31 (cI 1),qm 7 32]))
def zyV:PC:=.seq (.seq (OP [qm 10 6,qm 11 2,Bi 12 .lss 10 11]) (.cond 12 .skip (.exit 0))) (.seq (.block 1 (.seq (OP [qm 15 6,qm 7 15]) (.block 2 (.loop zBv)))) (OP [qm 13 6,Bi 14 .add 13 (cI 1),qm 6 14]))
def c196:PC:=.seq (OP [qm 8 1,Bi 9 .add 8 (cI 1),qm 6 9]) (.block 0 (.loop zyV))
theorem zuC:zv Tryz.prog 196 49 [] c196:=fK Tryz.func196
theorem zmC:zn Tryz.prog 153 [.sc (.int .u64 0)] (.sc (.int .i64 0)) where
 ok:=⟨_,Tryz.func153,by kernel_rfl,by kernel_rfl⟩
 run J F w vs hF hR:=by
  simp only[yi,rep] at hR
  obtain⟨v,us,rfl,rfl,rfl⟩:=hR
  refine(calls_of_every_depth λD=>AnyS.bits_LenIn { zn7 with } D 0 w zo zo).mono λe w' ⟨he,hw⟩=>?_
  subst hw
  exact⟨_,F,he,hF.lt,rfl,Ext.refl _ _ _⟩
theorem zkG:zn Tryz.prog 196 [.xl 1 [],.sc (.int .i64 0),.sc (.int .i64 0)] (.yP []):=by
 refine za zuC zs (by simp[zb,Pure,yJ]) ?_ (by simp[Pure,zb])
 refine sR ?_
 refine sI ?_
 refine zP [0,1,2] (λ_:Nat=>[(6,.sc (.int .i64 1))]) (λ_=>[]) (λ_=>True) (λ_=>0) 0 ?_
 refine sW ?_
 refine⟨trivial,by exact sK,rfl,?_⟩
 rintro k -
 refine sW ?_
 refine sR ?_
 exact .refl _
theorem zpW (n:Int):zn Tryz.prog 152 [.xl 1 [],.sc (.int .i64 0),.sc (.int .i64 0),.sc (.int .i64 n)] (.yP []):=by
 refine za zuL zs (by simp[zb,Pure,yJ]) ?_ (by simp[Pure,zb])
 refine sR ?_
 refine zP [0] (λ_:Nat=>[(1,.sc (.int .i64 0)),(2,.sc (.int .i64 0)),(3,.sc (.int .i64 n)),(8,.sc (.bool true)),(9,.sc (.bool true))]) (λ_=>[]) (λ_=>True) (λ_=>0) 0 ?_
 refine sW ?_
 refine⟨trivial,by exact sK,rfl,?_⟩
 rintro k -
 refine sW ?_
 refine sR ?_
 refine sI ?_
 refine sC zkG ?_
 exact .refl _
theorem zrL:zn Tryz.prog 86 [.xl 1 []] (.yP []):=by
 refine za zAc zs (by simp[zb,Pure,yJ]) ?_ (by simp[Pure,zb])
 refine sR ?_
 rw[show(([]:List (List D)).length:Int)=0 from rfl]
 refine .inl ⟨by unfold JL;rw[IntKind.wrap_u64];omega,?_⟩
 refine sW ?_
 refine sC zmC ?_
 refine sC (zpW 0) ?_
 exact .refl _
theorem zta (z7:Nat) (l:List Int) (hl:l.length<4611686018427387904) :
  yr Tryz.prog 86 [.own 0 z7 0 l.length] [.vec true z7 1 (zI l)] (.yP []) [.vec true z7 1 (zI (Wm l))]:=by
 rcases Nat.eq_zero_or_pos l.length with h0|h0
 ·have h0:=List.length_eq_zero_iff.1 h0
  subst h0
  refine⟨zrL.1,zs,λJ F w vs hst hdom hR=>?_⟩
  simp only[yi,rep] at hR
  obtain⟨v,us,rfl,⟨s,A,n,c,hJ,rfl,_,hq⟩,rfl⟩:=hR
  obtain⟨ob,ho,hO⟩:=hst.obj 0 s hJ
  have ho:zf.vec true z7 1 (zI [])=ob:=Option.some.inj ho
  subst ho
  simp only[YV] at hO
  obtain⟨hrow,hver,hesz,hlen,hcap,hmem⟩:=hO
  obtain⟨_,_,hhi,hn,hc,hA⟩:=hq hver.symm
  have hn0:n=0:=by simpa using hn
  subst hn0
  refine(zrL.run J F w [.slice A 0 c] hst.lt (by simp only[yi,rep];exact⟨_,_,rfl,⟨_,_,_,rfl,rfl,zo,.inl rfl⟩,rfl⟩)).mono λe w' ⟨v,F',he,h1,h2,h3⟩=>?_
  refine⟨v,J,F',he,?_,hdom,yX (zak J) (λ_ h=>h) (λ_ _=>rfl) _ _ h2,Ext.zrZ hst h3⟩
  rw[show Wm []=[] by simp[Wm]]
  exact hst.zbQ (λb hb=>h3.block b hb (ZR b)) h3.size h3.grow (λb hb=>(h3.wG b hb).imp_right λq=>q.resolve_left (ZR b)) h1
 ·exact zr9 z7 l h0 hl
end
section
open Go.RowKit
theorem zg5:∀(a b:List Int),a.Pairwise (·<·)→b.Pairwise (·<·)→(∀x,x∈a↔x∈b)→a=b
 | [],[],_,_,_=>rfl
 | [],y::b,_,_,h=>by have:=(h y).2 zs;cases this
 | x::a,[],_,_,h=>by have:=(h x).1 zs;cases this
 | x::a,y::b,ha,hb,h=>by
  rw[List.pairwise_cons] at ha hb
  have hxy:x=y:=by
   have h1:=(h x).1 zs
   have h2:=(h y).2 zs
   rcases List.mem_cons.1 h1 with e|e
   ·exact e
   ·rcases List.mem_cons.1 h2 with e2|e2
    ·exact e2.symm
    ·have:=ha.1 y e2;have:=hb.1 x e;omega
  subst hxy
  refine congrArg _ (zg5 a b ha.2 hb.2 λz=>⟨λhz=>?_,λhz=>?_⟩)
  ·have:=ha.1 z hz
   rcases List.mem_cons.1 ((h z).1 (by simp[hz])) with e|e
   ·omega
   ·exact e
  ·have:=hb.1 z hz
   rcases List.mem_cons.1 ((h z).2 (by simp[hz])) with e|e
   ·omega
   ·exact e
theorem zis (p:Nat→Bool) (k:Nat):(ub p k).Pairwise (·<·):=by
 unfold ub
 rw[List.pairwise_map]
 refine List.Pairwise.imp (R:=λa b:Nat=>a<b) (λh=>zo) ?_
 exact List.Pairwise.filter _ (List.pairwise_lt_range ..)
theorem zoV {l:List Int} (h:l.Pairwise (λa b=>a≤b)) (hn:l.Nodup):l.Pairwise (·<·):=by
 have:=List.Pairwise.and h hn
 exact this.imp λ⟨h1,h2⟩=>zo
theorem zdt {f:Tree} (hw:f.wf zU):Wm (vX [] (yg f))=Xi (yg f):=by
 have hp:(Wm (vX [] (yg f))).Perm (vX [] (yg f)):=List.mergeSort_perm _ _
 refine zg5 _ _ (zoV ?_ (hp.nodup_iff.2 (zlr _ _ zs))) (zis _ _) λx=>?_
 ·have:=List.pairwise_mergeSort (le:=λx y:Int=>decide (x≤y)) (λa b c h1 h2=>by simp only[decide_eq_true_eq] at *;omega) (λa b=>by simp only[Bool.or_eq_true,decide_eq_true_eq];omega) (vX [] (yg f))
  exact this.imp λh=>by simpa using h
 ·rw[hp.mem_iff,zrU,zbY (YL f hw)]
  simp
theorem znb {f:Tree} (hw:f.wf uf) (h10:(Xi (yg f)).length+(wi [] (partsOf f)).length≤10):zkv (Xi (yg f)) (wi [] (partsOf f)) where
 few:=h10
 atoms x hx:=YL f (zjW hw) x ((zbY (YL f (zjW hw))).1 hx)
 told g hg:=zqr (zjW hw) hg
 wf g hg:=zjA uf f hw g (((zdX _ _).1 hg).resolve_left zs)
noncomputable def zcs (A:List Int) (P:List Tree) (k r:Nat):List Int:=ub (λt=>Vw A P t==r) k
noncomputable def uM (A:List Int) (P:List Tree) (k:Nat):List (List Int):=(List.range (2^P.length)).map (zcs A P k)
@[simp] theorem zqe (A:List Int) (P:List Tree) (k:Nat):(uM A P k).length=2^P.length:=by simp[uM]
theorem zaT {A:List Int} {P:List Tree} {k r:Nat} (h:r<2^P.length):(uM A P k).getD r []=zcs A P k r:=by
 unfold uM
 rw[List.getD_eq_getElem?_getD,List.getElem?_map,List.getElem?_range h]
 rfl
theorem zoS (A:List Int) (P:List Tree) (k r:Nat):(zcs A P k r).length≤k:=Yl _ _
theorem zlI (A:List Int) (P:List Tree):uM A P 0=List.replicate (2^P.length) []:=by
 unfold uM
 rw[List.eq_replicate_iff]
 refine⟨zs,λb hb=>?_⟩
 obtain⟨r,_,rfl⟩:=List.mem_map.1 hb
 rfl
theorem zm1 (A:List Int) (P:List Tree) (s:Nat):Vw A P s<2^P.length:=Vl _ _
theorem zp2 (A:List Int) (P:List Tree) (k:Nat):(uM A P k).set (Vw A P k) (zcs A P k (Vw A P k)++[(k:Int)])=uM A P (k+1):=by
 apply List.ext_getElem?
 intro j
 rw[List.getElem?_set]
 by_cases hj:j<2^P.length
 ·rw[VT (L:=uM A P (k+1)) (by simpa using hj),zaT hj]
  have hS:zcs A P (k+1) j=if (Vw A P k==j)=true then zcs A P k j++[(k:Int)] else zcs A P k j:=JV _ _
  rw[hS]
  by_cases e:Vw A P k=j
  ·rw[if_pos e,e,if_pos (by simpa using hj),if_pos zs]
  ·rw[if_neg e,VT (L:=uM A P k) (by simpa using hj),zaT hj,if_neg (by simpa using e)]
 ·rw[List.getElem?_eq_none (by simpa using hj),if_neg (λe:Vw A P k=j=>hj (e▸zm1 A P k)),List.getElem?_eq_none (by simpa using hj)]
theorem znJ {a p s:Nat} (h:s<2^(a+p)):s/2^a<2^p:=by
 rw[Nat.div_lt_iff_lt_mul (Nat.two_pow_pos _),Nat.mul_comm,←Nat.pow_add]
 exact h
theorem zmD {A:List Int} {P:List Tree} {s:Nat} (h:s<2^(A.length+P.length)):(uM A P (2^(A.length+P.length))).getD (s/2^A.length) []=Jh A P (A.length+P.length) s:=zaT (znJ h)
noncomputable def stE (A:List Int) (P:List Tree) (f:Tree) (k:Nat):List Int:=ub (λs=>yw (Wi A P s) f) k
noncomputable def zhA (A:List Int) (P:List Tree) (k:Nat):List (List Int):=(List.range k).map (Jh A P (A.length+P.length))
noncomputable def leE (A:List Int) (is:Bool) (k:Nat):List Int:=(List.range k).map λs=>xM A s is A.length
theorem zsE (A:List Int) (P:List Tree) (f:Tree) (k:Nat):stE A P f (k+1)=if yw (Wi A P k) f=true then stE A P f k++[(k:Int)] else stE A P f k:=JV _ _
theorem zoX (A:List Int) (P:List Tree) (k:Nat):zhA A P (k+1)=zhA A P k++[Jh A P (A.length+P.length) k]:=by simp[zhA,List.range_succ]
theorem zkg (A:List Int) (is:Bool) (k:Nat):leE A is (k+1)=leE A is k++[xM A k is A.length]:=by simp[leE,List.range_succ]
@[simp] theorem zDv (A:List Int) (P:List Tree) (k:Nat):(zhA A P k).length=k:=by simp[zhA]
@[simp] theorem zDT (A:List Int) (is:Bool) (k:Nat):(leE A is k).length=k:=by simp[leE]
theorem zxB (A:List Int) (P:List Tree) (f:Tree) (k:Nat):(stE A P f k).length≤k:=Yl _ _
theorem zwY (A:List Int) (P:List Tree) (f:Tree):ZC A P f=⟨stE A P f (2^(A.length+P.length)),zhA A P (2^(A.length+P.length)),leE A true (2^(A.length+P.length)),leE A false (2^(A.length+P.length)),uI A P (A.length+P.length) P.length⟩:=rfl
theorem zji {A:List Int} {P:List Tree} {k z i:Nat} {R:List Int} (hz:z=i) (hi:i<2^P.length) (hR:(uM A P k).getD i []=R):((uM A P k).map λl=>[zB l])[z]? = some [zB R]:=by
 subst hz
 rw[List.getElem?_map,VT (L:=uM A P k) (by simpa using hi),hR]
 rfl
theorem zaA {S:Nat→Bool} {H:List zf} {x y:List D} (h:zX S H x y):∀a:List (List D),zN S H (a++[x]) (a++[y])
 | []=>.cons _ _ _ _ h (.refl _)
 | z::a=>.cons _ _ _ _ (.refl _) (zaA h a)
theorem XL {S:Nat→Bool} {H:List zf} {L:List (List Int)} {c id z7 n:Nat} {m:Bool} {R:List Int} (hc:c=L.length) (hn:n=R.length) (hS:S id=true) (hH:H[id]? = some (.vec m z7 1 (zI R))) :
  zN S H (List.drop 0 (List.take c (vV L))++List.drop 0 (List.take 1 [[D.own id z7 0 n]])) (vV (L++[R])):=by
 subst hc hn
 rw[zw zs,show vV (L++[R])=vV L++[[zB R]] by simp[vV]]
 exact zaA (.cons _ _ _ _ (.own _ _ _ _ _ _ _ _ hS hH (zp (zw (by simp[zI])))) (.refl _)) _
theorem Jj (ρ:Nat→Nat) (l:List Int):ue ρ (zI l)=zI l:=yA _ (zC _ (λl=>by simp[zb,Pure]) l)
theorem zk7 (ρ:Nat→Nat) (l:List Tree):ue ρ (xV l)=xV l:=yA _ (wF l)
def zcR (l:List Int):List (List D):=l.map λn=>[.sc (.int .u64 n)]
@[simp] theorem zDy (l:List Int):(zcR l).length=l.length:=List.length_map ..
theorem XF (l:List Int):yJ (zcR l):=zC _ (λl=>by simp[zb,Pure]) l
@[simp] theorem zw0 {m:Nat} (l:List Int):zF m (zcR l)↔True:=⟨λ_=>trivial,λ_=>zi _ (XF l)⟩
theorem W4 {l:List Int} {c:Nat} {x:Int} (h:c=l.length):List.drop 0 (List.take c (zcR l))++[[.sc (.int .u64 x)]]=zcR (l++[x]):=by
 subst h
 rw[zw zs]
 simp[zcR]
end
section
open Go.RowKit
noncomputable def zgs (t:Tree):D :=
 if (Z7 t (yj t)).2=0 then zve (yj t) else .yP [Ui zso,.sc (.int .i64 (Z7 t (yj t)).2)]
theorem zlA {t:Tree} (h:(Z7 t (yj t)).2=0):(Z7 t (yj t)).1=yj t∧yF zU t=0∧yF zU (yj t)=0:=by
 unfold Z7 at *
 split at h
 ·rename_i h1
  split at h
  ·rename_i h2
   rw[if_pos h1,if_pos h2]
   exact⟨rfl,h1,h2⟩
  ·rename_i h2;exact absurd h h2
 ·rename_i h1;exact absurd h h1
def zC0:PC:=.seq (OP [Bi 59 .lss 58 57]) (.seq (.cond 59 .skip (.exit 0)) (.seq (.block 1 (.seq (OP [qm 60 58,qm 9 60]) (.seq (OP [qm 61 5,qm 62 9,Ca 63 87 [61,62],qm 10 63]) (OP [qm 64 8,qm 65 10,qm 66 8,qm 67 10,Ia 68 1 66 67,Lo 69 68,qm 70 9,Bs 71 1 1 [70],Ap 72 1 8 69 71,Ia 73 1 64 65,So 1 73 72])))) (OP [Bi 74 .add 58 (cI 1),qm 58 74])))
def zCs:PC:=.seq (OP [Bi 78 .lss 77 76]) (.seq (.cond 78 .skip (.exit 2)) (.seq (.block 3 (.seq (OP [qm 79 77,qm 11 79]) (.seq (.seq (OP [qm 80 5,LA 81 3 1,qm 82 11,Ca 83 88 [80,81,82]]) (.cond 83 (OP [Fa 84 0 7,Lo 85 84,qm 86 11,Bs 87 1 1 [86],Ap 88 1 8 85 87,Fa 89 0 7,So 1 89 88]) .skip)) (.seq (.ops [Fa 90 1 7,qd 91 (.zg 90) 1,qm 92 8,qm 93 5,qm 94 11,qd 95 (.call 89 [93,94]) 24,qd 96 (.zM 1 92 95) 60,qd 97 (.zg 96) 124,qd 98 (.call 54 [97]) 252,qd 99 (.wz 1 1 [98]) 508,qd 100 (.append 1 24 91 99) 1023,qd 101 (.zy 1 7) 2047,qk (.store 1 101 100) 4095] true) (.seq (.ops [Fa 102 2 7,qd 103 (.zg 102) 1,qm 104 5,qm 105 11,qd 106 (.call 90 [104,105,cT]) 12,qd 107 (.wz 1 1 [106]) 28,qd 108 (.append 1 8 103 107) 63,qd 109 (.zy 2 7) 127,qk (.store 1 109 108) 255] true) (.ops [Fa 110 3 7,qd 111 (.zg 110) 1,qm 112 5,qm 113 11,qd 114 (.call 90 [112,113,cF]) 12,qd 115 (.wz 1 1 [114]) 28,qd 116 (.append 1 8 111 115) 63,qd 117 (.zy 3 7) 127,qk (.store 1 117 116) 255] true)))))) (OP [Bi 118 .add 77 (cI 1),qm 77 118])))
def zB4:PC:=.seq (OP [Bi 134 .lss 133 132]) (.seq (.cond 134 .skip (.exit 6)) (.seq (.block 7 (.seq (OP [qm 135 133,qm 15 135]) (.seq (OP [qm 136 5,LA 137 3 13,qm 138 15,Ca 139 91 [136,137,138]]) (.cond 139 (OP [qm 140 14,qm 141 15,Bs 142 1 1 [141],Ap 143 1 8 140 142,qm 14 143]) .skip)))) (OP [Bi 144 .add 133 (cI 1),qm 133 144])))
def zCU:PC:=.seq (OP [Bi 125 .lss 124 123]) (.seq (.cond 125 .skip (.exit 4)) (.seq (.block 5 (.seq (OP [Ia 126 3 122 124,LA 127 3 126,q 13 (.alloc [(.int .i64 0),(.int .i64 0),(.slice none 0 0)]),So 3 13 127]) (.seq (.seq (OP [Fa 128 0 13,Lo 129 128,Bi 130 .eql 129 (cI 7)]) (.cond 130 (.exit 5) .skip)) (.seq (OP [Mv 14 cN]) (.seq (.seq (OP [qm 131 6,Bi 132 .shl (cI 1) 131,Mv 133 (cI 0)]) (.block 6 (.loop zB4))) (OP [Fa 145 4 7,Lo 146 145,qm 147 14,Bs 148 1 1 [147],Ap 149 1 24 146 148,Fa 150 4 7,So 1 150 149])))))) (OP [Bi 151 .add 124 (cI 1),qm 124 151])))
def c46:PC:=.seq (OP [Bx 1 0,q 2 (.alloc [(.slice none 0 0),(.slice none 0 0),(.slice none 0 0),(.slice none 0 0),(.slice none 0 0)]),Mv 3 (cI 0)]) (.seq (OP [LA 17 3 1,Ca 18 84 [17],qm 16 18,Xt 19 0 16,Xt 20 1 16,So 3 1 19,qm 4 20]) (.seq (.seq (OP [qm 21 4,Bi 22 .neq 21 (cI 0)]) (.cond 22 (.seq (OP [q 23 (.build [(.slice none 0 0),(.slice none 0 0),(.slice none 0 0),(.slice none 0 0),(.slice none 0 0)] []),qm 24 4,So 5 2 23,qm 3 24]) .ret) .skip)) (.seq (OP [q 25 (.build [(.slice none 0 0),(.slice none 0 0)] []),Bx 26 25,qm 5 26]) (.seq (.stop (OP [qm 27 5,LA 28 3 1,Ca 29 85 [27,28]])) (.seq (OP [qm 30 5,q 31 (.zq 30),Fa 32 0 31,Lo 33 32,Ca 34 86 [33]]) (.seq (.stop (.ops [qm 35 5,qd 36 (.zq 35) 1,qd 37 (.zy 0 36) 3,qd 38 (.zg 37) 7,qd 39 (.len 38) 15,qm 40 5,qd 41 (.zq 40) 32,qd 42 (.zy 1 41) 96,qd 43 (.zg 42) 224,qd 44 (.len 43) 480,qd 45 (.bin .add 39 44) 1023,qw 6 45 2047] true)) (.seq (.seq (OP [qm 46 6,Bi 47 .gtr 46 (cI 10)]) (.cond 47 (.seq (OP [q 48 (.build [(.slice none 0 0),(.slice none 0 0),(.slice none 0 0),(.slice none 0 0),(.slice none 0 0)] []),So 5 2 48,Mv 3 (cI 2)]) .ret) .skip)) (.seq (OP [q 7 (.alloc [(.slice none 0 0),(.slice none 0 0),(.slice none 0 0),(.slice none 0 0),(.slice none 0 0)])]) (.seq (OP [qm 49 5,q 50 (.zq 49),Fa 51 1 50,Lo 52 51,Ln 53 52,Bi 54 .shl (cI 1) 53,q 55 (.wP 1 24 [(.slice none 0 0)] 54 54),qm 8 55]) (.seq (.seq (OP [qm 56 6,Bi 57 .shl (cI 1) 56,Mv 58 (cI 0)]) (.stop (.block 0 (.loop zC0)))) (.seq (.seq (OP [qm 75 6,Bi 76 .shl (cI 1) 75,Mv 77 (cI 0)]) (.stop (.block 2 (.loop zCs)))) (.seq (.seq (OP [qm 119 5,q 120 (.zq 119),Fa 121 1 120,Lo 122 121,Ln 123 122,Mv 124 (cI 0)]) (.stop (.block 4 (.loop zCU)))) (.seq (OP [LA 152 5 7,So 5 2 152,Mv 3 (cI 0)]) .ret)))))))))))))
theorem zzo:zv Tryz.prog 46 153 [.agg 2 5,.tmp 3] c46:=fK Tryz.func46
theorem zvO (t:Tree) (hs:Small t):zn Tryz.prog 46 [zQ t] (zgs t):=by
 have hP:=zlx t hs
 have hpm:Pure (zgs t):=by
  unfold zgs zve
  split
  ·dsimp only;split<;>simp[Pure,zb,qX]
  ·simp[Pure,zb,qX]
 refine za zzo zs (by simp[zb,zh]) ?_ hpm
 refine sR ?_
 refine sC hP ?_
 unfold zgs
 refine sS (λh0=>?_) λh0=>?_
 ·have h0:¬(Z7 t (yj t)).2=0:=by simpa using h0
  rw[if_neg h0]
  exact sP
 have h0:(Z7 t (yj t)).2=0:=by simpa using h0
 obtain⟨e1,hc,hc2⟩:=zlA h0
 rw[if_pos h0,e1]
 have hwl:=((ZU _ _).1 hc2).2.2
 have hsz:=((ZU _ _).1 hc2).1
 have hwp:=zoj t ((ZU _ _).1 hc).2.2
 clear hP hpm h0 e1 hc hc2
 generalize yj t=f at *
 have hla:=zkt f
 have hlp:=zku f
 have hG:=zpV f hwl [] [] (by simp;omega) (by simp;omega)
 have hlA:=u6 (yg f) []
 have hlP:=u7 (partsOf f) []
 have hSo:=zta (vX [] (yg f)).length (vX [] (yg f)) (by simp at *;omega)
 rw[zdt hwl] at hSo
 have hAn:(Xi (yg f)).length=(vX [] (yg f)).length:=by rw[←zdt hwl];simp
 have hT:=znb hwp
 have hTf:=JH hwl
 unfold zve
 dsimp only
 generalize hA0:vX [] (yg f)=A0 at *
 generalize hA1:Xi (yg f)=A at *
 generalize hP1:wi [] (partsOf f)=P at *
 obtain⟨N5,hN5⟩:∃N5:List D,N5=[.sc (.slice none 0 0),.sc (.slice none 0 0),.sc (.slice none 0 0),.sc (.slice none 0 0),.sc (.slice none 0 0)]:=⟨_,rfl⟩
 refine zH (zm 3 (env':=[(1,.loc 0 0),(2,.loc 1 0),(3,.sc (.int .i64 0)),(5,.loc 2 0)]) (H':=[.row true (yy f),.row true N5,.row true [.sc (.slice none 0 0),.sc (.slice none 0 0)]]) zs rfl (by exact sQ) ⟨⟨rfl,.refl _,zr _ (yq _)⟩,⟨rfl,by rw[hN5];exact .refl _,by rw[hN5];simp[zl,zt]⟩,⟨rfl,.refl _,by simp[zl,zt]⟩,trivial⟩) ?_
 refine zH (wZ (yZ 2 0 1 zs rfl rfl) (yZ 2 1 3 zs rfl rfl)) ?_
 refine sR ?_
 have hG2:yr Tryz.prog 85 [.loc 2 0,zQ f] [.row true (yy f),.row true N5,.row true [.own 3 0 0 0,.own 4 0 0 0],.vec true 0 1 [],.vec true 0 3 []] (.yP [])
   [.row true (yy f),.row true N5,.row true [.own 3 A0.length 0 A0.length,.own 4 P.length 0 P.length],.vec true A0.length 1 (zI A0),.vec true P.length 3 (xV P)]:=by
  refine vI hG [.row true (yy f),.row true N5] [] rfl (by simp[yD,zl,zt,zz _ (zh _)]) (x8 (by simp[yD])) (by simp[yE,D.yG]) (by simp[D.yG,yE]) ?_ ?_
  ·simp[yD,zf.yG,yE,D.yG,ue,zI,xV]
  ·simp only[yD,List.map_cons,List.map_nil,zf.yG,yE,D.yG,List.length_cons,List.length_nil,Jj,zk7]
   rfl
 refine sA hG2 ?_
 have hS2:yr Tryz.prog 86 [.own 3 A0.length 0 A0.length] [.row true (yy f),.row true N5,.row true [.own 3 A0.length 0 A0.length,.own 4 P.length 0 P.length],.vec true A0.length 1 (zI A0),.vec true P.length 3 (xV P)] (.yP [])
   [.row true (yy f),.row true N5,.row true [.own 3 A0.length 0 A0.length,.own 4 P.length 0 P.length],.vec true A0.length 1 (zI A),.vec true P.length 3 (xV P)]:=by
  refine vI hSo [.row true (yy f),.row true N5,.row true [.own 3 A0.length 0 A0.length,.own 4 P.length 0 P.length]] [.vec true P.length 3 (xV P)] rfl (by simp[zl,zt]) ⟨zi _ (zC _ (λl=>by simp[zb,Pure]) A0),trivial⟩ (by simp[yE,D.yG]) (by simp[D.yG,yE]) ?_ ?_
  ·simp only[List.map_cons,List.map_nil,zf.yG,Jj]
   rfl
  ·simp only[List.map_cons,List.map_nil,zf.yG,Jj]
   rfl
 refine sA hS2 ?_
 have hmd:=Zn A P
 refine zH (Yj (X8 2) (env':=[(1,.loc 0 0),(2,.loc 1 0),(3,.sc (.int .i64 0)),(5,Wk A P)]) (H':=[.row true (yy f),.row true N5,.row false [zB A,.xl 3 (xV P)],.vec false A0.length 1 (zI A),.vec false P.length 3 (xV P)]) ?_ ?_) ?_
 ·refine⟨.refl _,.refl _,.refl _,ym.loc _ _ _ _ _ rfl rfl (.cons _ _ _ _ (.own _ _ _ _ _ _ _ _ rfl rfl ?_) (.cons _ _ _ _ (.own _ _ _ _ _ _ _ _ rfl rfl ?_) (.refl _))),trivial⟩
  ·rw[←hAn];exact zp (zw (by simp[zI]))
  ·exact zp (zw zs)
 ·refine⟨⟨.inl rfl,(λh=>by cases h),.refl _⟩,⟨.inl rfl,(λh=>by cases h),.refl _⟩,⟨.inr ⟨rfl,rfl⟩,λ_=>rfl,.cons _ _ _ _ (.own _ _ _ _ _ _ _ _ rfl rfl ?_) (.cons _ _ _ _ (.own _ _ _ _ _ _ _ _ rfl rfl ?_) (.refl _))⟩,⟨.inr ⟨rfl,rfl⟩,λ_=>rfl,rfl,rfl,.refl _⟩,⟨.inr ⟨rfl,rfl⟩,λ_=>rfl,rfl,rfl,.refl _⟩,trivial⟩
  ·rw[←hAn];exact zp (zw (by simp[zI]))
  ·exact zp (zw zs)
 have hA60:A.length≤60:=by simp at hlA;omega
 have hP60:P.length≤60:=by simp at hlP;omega
 subst hN5
 clear hG hSo hG2 hS2 hlA hlP hA0 hAn
 unfold Wk
 refine sR ?_
 rw[List.length_map,Vv]
 refine sI ?_
 refine sS (λh10=>?_) λh10=>?_
 ·have h10:10<A.length+P.length:=sO
  rw[if_pos h10]
  exact sP
 have h10:¬10<A.length+P.length:=sO
 rw[if_neg h10]
 have hI:=hT zo
 have hp2:=W7 (n:=P.length) zo
 have hn2:=W7 (n:=A.length+P.length) zo
 have s1:(1:Int)*2^min ((P.length:Nat):Int).toNat IntKind.i64.bits=((2^P.length:Nat):Int):=zie P.length zo
 have s2:(1:Int)*2^min ((A.length+P.length:Nat):Int).toNat IntKind.i64.bits=((2^(A.length+P.length):Nat):Int):=zie _ zo
 rw[Vv]
 refine⟨zo,?_⟩
 rw[s1]
 generalize h2P:2^P.length=NP at *
 generalize h2N:2^(A.length+P.length)=N at *
 refine sI ?_
 refine⟨zo,zo,zo,?_⟩
 rw[Int.toNat_natCast]
 refine sW ?_
 rw[←Int.natCast_add]
 simp only[Nat.sub_zero]
 refine⟨zo,?_⟩
 rw[s2]
 refine sI ?_
 have hK:=zus A P hI
 have hmd2:D.yO [zB A,.xl 3 (xV P)]=Wk A P:=rfl
 have hbl:∀k,(uM A P k).length=NP:=λk=>by rw[zqe,h2P]
 refine zde (λ_:Unit=>[(1,.loc 0 0),(2,.loc 1 0),(5,Wk A P),(6,.sc (.int .i64 ((A.length+P.length:Nat):Int))),(7,.loc 5 0),(8,.own 6 0 0 NP)])
  (λ_=>[.row true (yy f),.row true [.sc (.slice none 0 0),.sc (.slice none 0 0),.sc (.slice none 0 0),.sc (.slice none 0 0),.sc (.slice none 0 0)],.row false [zB A,.xl 3 (xV P)],.vec false A0.length 1 (zI A),.vec false P.length 3 (xV P),.row true [.sc (.slice none 0 0),.sc (.slice none 0 0),.sc (.slice none 0 0),.sc (.slice none 0 0),.sc (.slice none 0 0)],.vec true 0 1 ((uM A P N).map λl=>[zB l])]) (λ_=>True) ?_ ?_
 ·refine sR ?_
  refine zH (zaB 6 1 NP 0 zs rfl) ?_
  refine ye [1,2,5,6,7,8,57] (λk:Nat=>[(58,.sc (.int .i64 k))]) (λk=>.row true (yy f)::.row true [.sc (.slice none 0 0),.sc (.slice none 0 0),.sc (.slice none 0 0),.sc (.slice none 0 0),.sc (.slice none 0 0)]::.row false [zB A,.xl 3 (xV P)]::.vec false A0.length 1 (zI A)::.vec false P.length 3 (xV P)::.row true [.sc (.slice none 0 0),.sc (.slice none 0 0),.sc (.slice none 0 0),.sc (.slice none 0 0),.sc (.slice none 0 0)]::.vec true 0 1 (vB 7 (uM A P k))::xc 1 U7 (uM A P k)) (λk=>k≤N) (λk=>N-k) 0 ?_
  refine sW ?_
  refine⟨zo,by exact sK,?_,?_⟩
  ·rw[zlI,h2P]
   show _::_::_::_::_::_::_::_=_::_::_::_::_::_::_::_
   rw[Wn 1 _ U7]
   exact congrArg (λx=>_::_::_::_::_::_::zf.vec true 0 1 x::_) (Wy (α:=Int) 7 _)
  rintro k hk
  refine sW ?_
  refine sR ?_
  refine sS (λq0=>?_) λq0=>?_
  ·have q0:k<N:=sO
   have hkl:=zm1 A P k
   have hlen:=hbl k
   have hset:=zp2 A P k
   have hat:=zaT (A:=A) (P:=P) (k:=k) hkl
   have hrl:=zoS A P k (Vw A P k)
   rw[h2P] at hkl
   refine sC (hK k) ?_
   generalize Vw A P k=v at *
   generalize zcs A P k v=C at *
   generalize hR2:uM A P (k+1)=R2 at *
   generalize uM A P k=R at *
   refine sB ?_
   refine⟨_,wj (i:=v) zo zo,?_⟩
   refine sW ?_
   refine zba ?_
   refine sW ?_
   (repeat (first|(refine xS 0 rfl ?_;((conv=>whnf);repeat(refine⟨rfl,?_⟩;conv=>whnf)))|(refine xU 0 rfl ?_;((conv=>whnf);repeat(refine⟨rfl,?_⟩;conv=>whnf)))|(refine xS 1 rfl ?_;((conv=>whnf);repeat(refine⟨rfl,?_⟩;conv=>whnf)))|(refine xU 1 rfl ?_;((conv=>whnf);repeat(refine⟨rfl,?_⟩;conv=>whnf)))))
   refine zaX zo ?_
   refine sW ?_
   rw[hat]
   refine⟨by unfold xg;simp only[List.length_drop,List.length_take,List.length_cons,List.length_nil];omega,?_⟩
   refine sW ?_
   refine zc2 (C++[(k:Int)]) zo ?_ ?_
   ·exact zd2
   refine sW ?_
   refine sB ?_
   refine⟨_,wj (i:=v) zo zo,?_⟩
   refine sW ?_
   refine sI ?_
   refine⟨k+1,zo,zd,?_⟩
   dsimp only
   rw[hR2]
   have hl2:R2.length=NP:=by rw[←hset,List.length_set,hlen]
   refine zm (NP+7) zs (by simp[hl2]) (by exact sQ) ⟨⟨rfl,.refl _,zr _ (yq _)⟩,⟨rfl,.refl _,by simp[zl,zt]⟩,⟨rfl,.refl _,by simp[zl,zz _ (zj A),zt,zi _ (wF P)]⟩,⟨rfl,rfl,rfl,.refl _,zi _ (zC _ (λl=>by simp[zb,Pure]) A)⟩,⟨rfl,rfl,rfl,.refl _,zi _ (wF P)⟩,⟨rfl,.refl _,by simp[zl,zt]⟩,⟨rfl,rfl,rfl,zp ?_,uY (by rw[←hset,List.length_set];omega)⟩,by rw[←hset];exact Vp zcF⟩
   rw[←hset]
   exact(Wd zo zo (C++[(k:Int)]) zs)
  ·have q0:k=N:=by have:¬k<N:=sO
                   omega
   subst q0
   refine⟨(),trivial,zm 7 zs rfl (by exact sQ) ⟨⟨rfl,.refl _,zr _ (yq _)⟩,⟨rfl,.refl _,by simp[zl,zt]⟩,⟨rfl,.refl _,by simp[zl,zz _ (zj A),zt,zi _ (wF P)]⟩,⟨rfl,rfl,rfl,.refl _,zi _ (zC _ (λl=>by simp[zb,Pure]) A)⟩,⟨rfl,rfl,rfl,.refl _,zi _ (wF P)⟩,⟨rfl,.refl _,by simp[zl,zt]⟩,⟨rfl,rfl,rfl,VB (c:=U7) (λi hi=>by simp[X8]) (λi hi=>?_),zi _ (vy _)⟩,J3 _⟩⟩
   show(xc 1 U7 (uM A P k))[i]? = _
   exact XG hi
 ·intro _ _
  refine sW ?_
  refine⟨zo,?_⟩
  rw[s2]
  refine sI ?_
  refine sR ?_
  refine zH (wZ (yZ 5 0 1 zs rfl rfl) (wZ (yZ 5 1 1 zs rfl rfl) (wZ (yZ 5 2 1 zs rfl rfl) (yZ 5 3 1 zs rfl rfl)))) ?_
  refine ye [1,2,5,6,7,8,76] (λk:Nat=>[(77,.sc (.int .i64 k))]) (λk=>[.row true (yy f),.row true [.sc (.slice none 0 0),.sc (.slice none 0 0),.sc (.slice none 0 0),.sc (.slice none 0 0),.sc (.slice none 0 0)],.row false [zB A,.xl 3 (xV P)],.vec false A0.length 1 (zI A),.vec false P.length 3 (xV P),.row true [.own 7 (stE A P f k).length 0 (stE A P f k).length,.own 8 k 0 k,.own 9 k 0 k,.own 10 k 0 k,.sc (.slice none 0 0)],.vec true 0 1 ((uM A P N).map λl=>[zB l]),.vec true (stE A P f k).length 1 (zI (stE A P f k)),.vec true k 1 (vV (zhA A P k)),.vec true k 1 (zcR (leE A true k)),.vec true k 1 (zcR (leE A false k))]) (λk=>k≤N) (λk=>N-k) 0 ?_
  refine sW ?_
  refine⟨zo,by exact sK,rfl,?_⟩
  rintro k hk
  have hsl:=zxB A P f k
  refine sW ?_
  refine sR ?_
  refine sS (λq0=>?_) λq0=>?_
  ·have q0:k<N:=sO
   have hH:=zaR A P hI k f hwp hTf
   have eS:=zsE A P f k
   have hO:=zun A P hA60 k
   have hOl:k/2^A.length<NP:=by rw[←h2P];exact znJ (by rw[h2N];exact q0)
   have hrow:=zmD (A:=A) (P:=P) (s:=k) (by rw[h2N];exact q0)
   rw[h2N] at hrow
   have eN:=zoX A P k
   rw[←h2P] at hOl
   have eT:=zkg A true k
   have eF:=zkg A false k
   have hbT:=zns A P hA60 hI.atoms k true
   have hbF:=zns A P hA60 hI.atoms k false
   have hnl:(Jh A P (A.length+P.length) k).length≤1024:=by have h:(Jh A P (A.length+P.length) k).length≤2^(A.length+P.length):=Yl _ _;rw[h2N] at h;exact Nat.le_trans h hn2
   generalize Jh A P (A.length+P.length) k=R at *
   generalize xM A k true A.length=xT at *
   generalize xM A k false A.length=xF at *
   generalize k/2^A.length=v at *
   have hCl:=JA R zo
   refine sC hH ?_
   cases r:yw (Wi A P k) f
   ·rw[r,if_neg zc] at eS
    refine sW ?_
    refine sC hO ?_
    refine sB ?_
    refine⟨_,zji (i:=v) zo (by simpa using hOl) hrow,?_⟩
    refine sW ?_
    refine sE (xo hCl (by simp[zb,Pure,zj]) (d:=.own 11 1 0 R.length) [11] rfl rfl (by simp[zf.yG,yE,D.yG];rfl)) ?_
    refine sJ ?_
    refine sC hbT ?_
    refine sJ ?_
    refine sC hbF ?_
    refine sJ ?_
    refine sI ?_
    refine⟨k+1,zo,zd,?_⟩
    dsimp only
    rw[eS,eN,eT,eF]
    try rw[show(stE A P f k++[(k:Int)]).length=(stE A P f k).length+1 by simp]
    (refine zm 11 zs rfl ?_ ?_<;>(repeat' (first|exact trivial|exact rfl|exact ym.refl _|exact zX.refl _|exact zN.refl _|refine And.intro ?_ ?_|(simp[zt,zl,zF,-List.map_take,-List.map_drop];done))))
    all_goals
     first|exact zr _ (yq _)|exact zz _ (zj _)|exact zz _ hmd|exact zi _ (vy _)|exact zi _ (XF _)|exact zi _ (uT _)|exact zi _ (zC _ (λl=>by simp[zb,Pure]) _)|exact zp (W4 zs)|exact XL zs rfl rfl rfl|exact zp (x5 _ _)|skip
   ·rw[r,if_pos rfl] at eS
    refine sW ?_
    refine sJ ?_
    refine sC hO ?_
    refine sB ?_
    refine⟨_,zji (i:=v) zo (by simpa using hOl) hrow,?_⟩
    refine sW ?_
    refine sE (xo hCl (by simp[zb,Pure,zj]) (d:=.own 12 1 0 R.length) [12] rfl rfl (by simp[zf.yG,yE,D.yG];rfl)) ?_
    refine sJ ?_
    refine sC hbT ?_
    refine sJ ?_
    refine sC hbF ?_
    refine sJ ?_
    refine sI ?_
    refine⟨k+1,zo,zd,?_⟩
    dsimp only
    rw[eS,eN,eT,eF]
    try rw[show(stE A P f k++[(k:Int)]).length=(stE A P f k).length+1 by simp]
    (refine zm 11 zs rfl ?_ ?_<;>(repeat' (first|exact trivial|exact rfl|exact ym.refl _|exact zX.refl _|exact zN.refl _|refine And.intro ?_ ?_|(simp[zt,zl,zF,-List.map_take,-List.map_drop];done))))
    all_goals
     first|exact zr _ (yq _)|exact zz _ (zj _)|exact zz _ hmd|exact zi _ (vy _)|exact zi _ (XF _)|exact zi _ (uT _)|exact zi _ (zC _ (λl=>by simp[zb,Pure]) _)|exact zp (W4 zs)|exact XL zs rfl rfl rfl|exact zp (x5 _ _)|skip
  ·have q0:k=N:=by have:¬k<N:=sO
                   omega
   obtain rfl:N=k:=q0.symm
   refine sR ?_
   refine zH (yZ 5 4 1 zs rfl rfl) ?_
   refine ye [2,5,6,7,122,123] (λk:Nat=>[(124,.sc (.int .i64 k))]) (λk=>[.row true (yy f),.row true [.sc (.slice none 0 0),.sc (.slice none 0 0),.sc (.slice none 0 0),.sc (.slice none 0 0),.sc (.slice none 0 0)],.row false [zB A,.xl 3 (xV P)],.vec false A0.length 1 (zI A),.vec false P.length 3 (xV P),.row true [.own 7 (stE A P f N).length 0 (stE A P f N).length,.own 8 N 0 N,.own 9 N 0 N,.own 10 N 0 N,.own 11 (uI A P (A.length+P.length) k).length 0 (uI A P (A.length+P.length) k).length],.vec true 0 1 ((uM A P N).map λl=>[zB l]),.vec true (stE A P f N).length 1 (zI (stE A P f N)),.vec true N 1 (vV (zhA A P N)),.vec true N 1 (zcR (leE A true N)),.vec true N 1 (zcR (leE A false N)),.vec true (uI A P (A.length+P.length) k).length 1 (vV (uI A P (A.length+P.length) k))]) (λk=>k≤P.length) (λk=>P.length-k) 0 ?_
   refine sW ?_
   rw[Vv]
   refine⟨zo,by exact sK,rfl,?_⟩
   rintro k hk
   have hfl:=JM A P (A.length+P.length) k
   refine sW ?_
   refine sR ?_
   refine sS (λq0=>?_) λq0=>?_
   ·have q0:k<P.length:=sO
    have hg:=zfZ q0
    obtain⟨hw,hk7⟩:=hI.wf _ hg
    have hTg:=hI.told _ hg
    have eFa:=zkk A P (A.length+P.length) q0
    have hsE:zj1 A P (A.length+P.length) (P.getD k default)=ub (ZF A P (P.getD k default)) N:=by unfold zj1;rw[h2N]
    refine sL (zkF (k:=k) zo q0) ?_
    generalize P.getD k default=g at *
    refine sS (λg7=>?_) λg7=>?_
    ·have g7:g.kind=7:=by simpa using g7
     rw[if_pos g7] at eFa
     refine sW ?_
     refine sI ?_
     refine⟨k+1,zo,zd,?_⟩
     dsimp only
     rw[eFa]
     (refine zm 12 zs rfl ?_ ?_<;>(repeat' (first|exact trivial|exact rfl|exact ym.refl _|exact zX.refl _|exact zN.refl _|refine And.intro ?_ ?_|(simp[zt,zl,zF,-List.map_take,-List.map_drop];done))))
     all_goals
      first|exact zr _ (yq _)|exact zz _ (zj _)|exact zz _ hmd|exact zi _ (vy _)|exact zi _ (XF _)|exact zi _ (uT _)|exact zi _ (zC _ (λl=>by simp[zb,Pure]) _)|exact zp (W4 zs)|exact XL zs rfl rfl rfl|exact zp (x5 _ _)|skip
    ·have g7:¬g.kind=7:=by simpa using g7
     rw[if_neg g7,hsE] at eFa
     have hFa:=λs=>zvM A P hI s g hw hTg zo
     refine⟨zo,?_⟩
     rw[s2]
     refine sI ?_
     refine zH (xw 14 1 zs rfl) ?_
     refine ye [2,5,6,7,13,122,123,124,132] (λs:Nat=>[(14,.own 13 (ub (ZF A P g) s).length 0 (ub (ZF A P g) s).length),(133,.sc (.int .i64 s))]) (λs=>[.row true (yy f),.row true [.sc (.slice none 0 0),.sc (.slice none 0 0),.sc (.slice none 0 0),.sc (.slice none 0 0),.sc (.slice none 0 0)],.row false [zB A,.xl 3 (xV P)],.vec false A0.length 1 (zI A),.vec false P.length 3 (xV P),.row true [.own 7 (stE A P f N).length 0 (stE A P f N).length,.own 8 N 0 N,.own 9 N 0 N,.own 10 N 0 N,.own 11 (uI A P (A.length+P.length) k).length 0 (uI A P (A.length+P.length) k).length],.vec true 0 1 ((uM A P N).map λl=>[zB l]),.vec true (stE A P f N).length 1 (zI (stE A P f N)),.vec true N 1 (vV (zhA A P N)),.vec true N 1 (zcR (leE A true N)),.vec true N 1 (zcR (leE A false N)),.vec true (uI A P (A.length+P.length) k).length 1 (vV (uI A P (A.length+P.length) k)),.row true (yy g),.vec true (ub (ZF A P g) s).length 1 (zI (ub (ZF A P g) s))]) (λs=>s≤N) (λs=>N-s) 0 ?_
     refine sW ?_
     refine⟨zo,by exact sK,rfl,?_⟩
     rintro s hs
     have hsl2:=Yl (ZF A P g) s
     refine sW ?_
     refine sR ?_
     refine sS (λq1=>?_) λq1=>?_
     ·have q1:s<N:=sO
      have eG:=JV (ZF A P g) s
      refine sC (hFa s) ?_
      cases r:ZF A P g s
      ·rw[r,if_neg zc] at eG
       refine sW ?_
       refine sI ?_
       refine⟨s+1,zo,zd,?_⟩
       dsimp only
       rw[eG]
       exact zD (by exact sK) rfl
      ·rw[r,if_pos rfl] at eG
       refine sW ?_
       refine sJ ?_
       refine sI ?_
       refine⟨s+1,zo,zd,?_⟩
       dsimp only
       rw[eG]
       rw[show(ub (ZF A P g) s++[(s:Int)]).length=(ub (ZF A P g) s).length+1 by simp]
       (refine zm 14 zs rfl ?_ ?_<;>(repeat' (first|exact trivial|exact rfl|exact ym.refl _|exact zX.refl _|exact zN.refl _|refine And.intro ?_ ?_|(simp[zt,zl,zF,-List.map_take,-List.map_drop];done))))
       all_goals
        first|exact zr _ (yq _)|exact zz _ (zj _)|exact zz _ hmd|exact zi _ (vy _)|exact zi _ (XF _)|exact zi _ (uT _)|exact zi _ (zC _ (λl=>by simp[zb,Pure]) _)|exact zp (W4 zs)|exact XL zs rfl rfl rfl|exact zp (x5 _ _)|skip
     ·have q1:s=N:=by have:¬s<N:=sO
                      omega
      obtain rfl:N=s:=q1.symm
      refine sJ ?_
      refine sI ?_
      refine⟨k+1,zo,zd,?_⟩
      dsimp only
      rw[eFa]
      rw[show(uI A P (A.length+P.length) k++[ub (ZF A P g) N]).length=(uI A P (A.length+P.length) k).length+1 by simp]
      (refine zm 12 zs rfl ?_ ?_<;>(repeat' (first|exact trivial|exact rfl|exact ym.refl _|exact zX.refl _|exact zN.refl _|refine And.intro ?_ ?_|(simp[zt,zl,zF,-List.map_take,-List.map_drop];done))))
      all_goals
       first|exact zr _ (yq _)|exact zz _ (zj _)|exact zz _ hmd|exact zi _ (vy _)|exact zi _ (XF _)|exact zi _ (uT _)|exact zi _ (zC _ (λl=>by simp[zb,Pure]) _)|exact zp (W4 zs)|exact XL zs rfl rfl rfl|exact zp (x5 _ _)|skip
   ·have q0:k=P.length:=by have:¬k<P.length:=sO
                           omega
    subst q0
    have hE:=zwY A P f
    rw[h2N] at hE
    rw[hE]
    refine .yP _ _ (.cons _ _ _ _ (.agg _ _ (.cons _ _ _ _ (.own _ _ _ _ _ _ _ _ rfl ?_) (.cons _ _ _ _ (.own _ _ _ _ _ _ _ _ rfl ?_) (.cons _ _ _ _ (.own _ _ _ _ _ _ _ _ rfl ?_) (.cons _ _ _ _ (.own _ _ _ _ _ _ _ _ rfl ?_) (.cons _ _ _ _ (.own _ _ _ _ _ _ _ _ rfl ?_) .nil)))))) (.cons _ _ _ _ (.refl _) .nil))
    ·exact Wf (by simp[zI])
    ·exact Wf zs
    ·exact Wf zs
    ·exact Wf zs
    ·exact Wf zs
end
section
open Go.RowKit
theorem zdC {p:Nat→Bool} {n:Nat}:xJ (ub p n) n=true:=wA λx hx=>by
 obtain⟨k,hk,rfl⟩:=List.mem_map.1 hx
 have:=List.mem_range.1 (List.mem_filter.1 hk).1
 omega
theorem Jf (A:List Int) (P:List Tree) (f:Tree):(ZC A P f).next.length=2^(A.length+P.length):=by simp[ZC]
theorem zsp {A:List Int} {P:List Tree} (h:A.length+P.length≤10) (f:Tree):(ZC A P f).yF=0:=by
 have h2:=W7 h
 have hn:=Jf A P f
 have hf:(ZC A P f).fair.length≤P.length:=JM _ _ _ _
 unfold yl.yF
 rw[if_neg zo,if_neg ?_,if_neg ?_,if_neg ?_]
 ·rw[Bool.not_eq_true,List.any_eq_false]
  intro l hl
  obtain⟨g,_,rfl⟩:=List.mem_map.1 hl
  rw[hn,show xJ (zj1 A P (A.length+P.length) g) (2^(A.length+P.length))=true from zdC]
  decide
 ·rw[Bool.not_eq_true,List.any_eq_false]
  intro l hl
  obtain⟨s,_,rfl⟩:=List.mem_map.1 hl
  rw[hn,show xJ (Jh A P (A.length+P.length) s) (2^(A.length+P.length))=true from zdC]
  decide
 ·rw[hn]
  simp only[ZC,List.length_map,List.length_range,ne_eq,not_true_eq_false,false_or]
  rw[zdC]
  decide
theorem zcH (A:List Int) (s:Nat) (is:Bool):∀k,0≤xM A s is k∧xM A s is k<18446744073709551616
 | 0=>by simp[xM]
 | k+1=>by
  rw[xM]
  split
  ·have e:vl .or .u64 (xM A s is k) (2^(A.getD k 0).toNat)=(((BitVec.ofInt 64 (xM A s is k) ||| BitVec.ofInt 64 (2^(A.getD k 0).toNat)).toNat:Nat):Int):=QS _
   rw[e]
   have:=(BitVec.ofInt 64 (xM A s is k) ||| BitVec.ofInt 64 (2^(A.getD k 0).toNat)).isLt
   omega
  ·exact zcH A s is k
theorem zpz {A:List Int} {P:List Tree} (h:A.length+P.length≤10) (f:Tree):(ZC A P f).Fits∧(ZC A P f).start.length≤1048576∧∀l∈(ZC A P f).next,l.length≤1048576:=by
 have h2:=W7 h
 have s1:(ZC A P f).start.length≤2^(A.length+P.length):=Yl _ _
 have s2:∀l∈(ZC A P f).next,l.length≤2^(A.length+P.length):=λl hl=>by
  obtain⟨s,_,rfl⟩:=List.mem_map.1 hl
  exact Yl _ _
 have s3:∀l∈(ZC A P f).fair,l.length≤2^(A.length+P.length):=λl hl=>by
  obtain⟨s,_,rfl⟩:=List.mem_map.1 hl
  exact Yl _ _
 have hf:(ZC A P f).fair.length≤P.length:=JM _ _ _ _
 have hn:=Jf A P f
 have hm:(ZC A P f).Xo.length=2^(A.length+P.length):=by simp[ZC]
 have hm2:(ZC A P f).WR.length=2^(A.length+P.length):=by simp[ZC]
 exact⟨⟨zo,zo,zo,zo,zo,λl hl=>by have:=s2 l hl;omega,λl hl=>by have:=s3 l hl;omega⟩,zo,λl hl=>by have:=s2 l hl;omega⟩
noncomputable def ZA (t:Tree):Int:=if (Z7 (x6 4 t) (yj (x6 4 t))).2=0 then if 10<(Xi (yg (yj (x6 4 t)))).length+(wi [] (partsOf (yj (x6 4 t)))).length then 2 else 0 else (Z7 (x6 4 t) (yj (x6 4 t))).2
noncomputable def qY (t:Tree):yl:=if ZA t=0 then ZC (Xi (yg (yj (x6 4 t)))) (wi [] (partsOf (yj (x6 4 t)))) (yj (x6 4 t)) else zso
theorem zpR (t:Tree):zgs (x6 4 t)=.yP [Ui (qY t),.sc (.int .i64 (ZA t))]:=by
 unfold zgs qY ZA zve
 by_cases h:(Z7 (x6 4 t) (yj (x6 4 t))).2=0
 ·simp only[if_pos h]
  by_cases q:10<(Xi (yg (yj (x6 4 t)))).length+(wi [] (partsOf (yj (x6 4 t)))).length
  ·simp only[if_pos q]
   rw[if_neg zc];rfl
  ·simp only[if_neg q]
   rfl
 ·simp only[if_neg h]
theorem zkW {t:Tree} (h:ZA t=0):(Xi (yg (yj (x6 4 t)))).length+(wi [] (partsOf (yj (x6 4 t)))).length≤10:=by
 unfold ZA at h
 split at h
 ·split at h
  ·exact absurd h zc
  ·omega
 ·rename_i q;exact absurd h q
theorem zm3 {t:Tree} (h:ZA t=0):qY t=ZC (Xi (yg (yj (x6 4 t)))) (wi [] (partsOf (yj (x6 4 t)))) (yj (x6 4 t)):=if_pos h
theorem zai {W:zA} (hW:W.Fits) (hc:W.yF=0) (s1:W.start.length≤1048576) (r1:∀l∈W.next,l.length≤1048576) {t:Tree} (h:ZA t=0):UD W (qY t):=by
 have hf:=zkW h
 rw[zm3 h]
 obtain⟨h1,h2,h3⟩:=zpz hf (yj (x6 4 t))
 exact⟨⟨hW,h1,hc,zsp hf _⟩,s1,h2,r1,h3⟩
end
section
open Go.RowKit
def zqu (x n:Int):Bool:=(BitVec.ofInt 64 x).getLsbD n.toNat
def Qa (w:Nat→Int) (k n:Int) (h:List (Nat→Prop)) (i:Nat):Prop :=
 if k=1 then True else if k=2 then False else if k=3 then zqu (w i) n=true else if k=4 then ¬h.getD 0 (λ_=>False) i
 else if k=5 then h.getD 0 (λ_=>False) i∧h.getD 1 (λ_=>False) i else if k=6 then h.getD 0 (λ_=>False) i∨h.getD 1 (λ_=>False) i
 else if k=7 then h.getD 0 (λ_=>False) (i+1)
 else if k=8 then ∃j,i≤j∧h.getD 1 (λ_=>False) j∧∀m,i≤m→m<j→h.getD 0 (λ_=>False) m
 else if k=9 then ∀j,i≤j→h.getD 1 (λ_=>False) j∨∃m,i≤m∧m<j∧h.getD 0 (λ_=>False) m
 else if k=10 then ∃j,i≤j∧h.getD 0 (λ_=>False) j else if k=11 then ∀j,i≤j→h.getD 0 (λ_=>False) j else False
mutual
def wx (w:Nat→Int):Tree→Nat→Prop
 | .node k n ks=>Qa w k n (zr2 w ks)
def zr2 (w:Nat→Int):List Tree→List (Nat→Prop)
 | []=>[]
 | t::r=>wx w t::zr2 w r
end
theorem zjQ (w:Nat→Int):∀l,zr2 w l=l.map (wx w)
 | []=>by rw[zr2];rfl
 | t::r=>by rw[zr2,zjQ w r,List.map_cons]
theorem uL (w:Nat→Int) (t:Tree) (i:Nat):wx w t i↔Qa w t.kind t.num (t.kids.map (wx w)) i:=by
 cases t;rw[wx,zjQ];rfl
theorem qR (w:Nat→Int) {t:Tree} {j:Nat} (h:j<t.width):(t.kids.map (wx w)).getD j (λ_=>False)=wx w (t.yK j):=by
 rw[List.getD_eq_getElem?_getD,List.getElem?_map,kid_get? h]
 rfl
section
variable {w:Nat→Int} {t:Tree} {i:Nat}
theorem zyz (h:t.kind=1):wx w t i:=by rw[uL,Qa,if_pos h];trivial
theorem zA1 (h:t.kind=2):¬wx w t i:=by rw[uL,Qa,h];simp
theorem zvK (h:t.kind=3):wx w t i↔zqu (w i) t.num=true:=by rw[uL,Qa,h];simp
theorem zBE (h:t.kind=4) (hw:t.width=1):wx w t i↔¬wx w (t.yK 0) i:=by rw[uL,Qa,h,qR w zo];simp
theorem sat5 (h:t.kind=5) (hw:t.width=2):wx w t i↔wx w (t.yK 0) i∧wx w (t.yK 1) i:=by rw[uL,Qa,h,qR w zo,qR w zo];simp
theorem zyA (h:t.kind=6) (hw:t.width=2):wx w t i↔wx w (t.yK 0) i∨wx w (t.yK 1) i:=by rw[uL,Qa,h,qR w zo,qR w zo];simp
theorem sat7 (h:t.kind=7) (hw:t.width=1):wx w t i↔wx w (t.yK 0) (i+1):=by rw[uL,Qa,h,qR w zo];simp
theorem zqY (h:t.kind=8) (hw:t.width=2):wx w t i↔∃j,i≤j∧wx w (t.yK 1) j∧∀m,i≤m→m<j→wx w (t.yK 0) m:=by rw[uL,Qa,h,qR w zo,qR w zo];simp
theorem zwE (h:t.kind=9) (hw:t.width=2):wx w t i↔∀j,i≤j→wx w (t.yK 1) j∨∃m,i≤m∧m<j∧wx w (t.yK 0) m:=by rw[uL,Qa,h,qR w zo,qR w zo];simp
theorem zxX (h:t.kind=10) (hw:t.width=1):wx w t i↔∃j,i≤j∧wx w (t.yK 0) j:=by rw[uL,Qa,h,qR w zo];simp
theorem zCn (h:t.kind=11) (hw:t.width=1):wx w t i↔∀j,i≤j→wx w (t.yK 0) j:=by rw[uL,Qa,h,qR w zo];simp
end
theorem ze2 {p q:Nat→Prop} {i:Nat}:(∃j,i≤j∧q j∧∀m,i≤m→m<j→p m)↔q i∨(p i∧∃j,i+1≤j∧q j∧∀m,i+1≤m→m<j→p m):=by
 constructor
 ·rintro⟨j,h1,h2,h3⟩
  by_cases e:j=i
  ·subst e;exact .inl h2
  ·exact .inr ⟨h3 i (Nat.le_refl _) zo,j,zo,h2,λm a b=>h3 m zo b⟩
 ·rintro(h|⟨h,j,h1,h2,h3⟩)
  ·exact⟨i,Nat.le_refl _,h,λm a b=>zo⟩
  ·exact⟨j,zo,h2,λm a b=>by by_cases e:m=i;subst e;exact h;exact h3 m zo b⟩
theorem V2 {p q:Nat→Prop} {i:Nat}:(∀j,i≤j→q j∨∃m,i≤m∧m<j∧p m)↔q i∧(p i∨∀j,i+1≤j→q j∨∃m,i+1≤m∧m<j∧p m):=by
 constructor
 ·intro h
  refine⟨(h i (Nat.le_refl _)).resolve_right λ⟨m,a,b,_⟩=>zo,?_⟩
  by_cases hp:p i
  ·exact .inl hp
  ·refine .inr λj hj=>(h j zo).imp_right λ⟨m,a,b,c⟩=>⟨m,?_,b,c⟩
   by_cases e:m=i
   ·subst e;exact absurd c hp
   ·omega
 ·rintro⟨h1,h2⟩ j hj
  by_cases e:j=i
  ·subst e;exact .inl h1
  ·rcases h2 with h|h
   ·exact .inr ⟨i,Nat.le_refl _,zo,h⟩
   ·exact(h j zo).imp_right λ⟨m,a,b,c⟩=>⟨m,zo,b,c⟩
theorem znu (w:Nat→Int) (k:Int) (a b:Tree) (i:Nat):wx w (u9 k a b) i↔Qa w k 0 [wx w a,wx w b] i:=by rw[uL];rfl
theorem zpe (w:Nat→Int):∀t:Tree,t.wf zU→∀i,wx w (yj t) i↔wx w t i:=by
 intro t
 induction t using Tree.ind with
 | h t ih =>
  intro hw i
  have har:=uk ((xO _ _).1 hw).1
  have hk:=λj hj=>ih j hj (xG hw hj)
  rw[QV t λh=>uN hw zo]
  by_cases h10:t.kind=10
  ·have hw1:t.width=1:=zo
   rw[if_pos h10,znu,zxX h10 hw1]
   simp only[Qa]
   simp[hk 0 zo,zyz (w:=w) (t:=vE 1 0) rfl]
  ·rw[if_neg h10]
   by_cases h11:t.kind=11
   ·have hw1:t.width=1:=zo
    rw[if_pos h11,znu,zCn h11 hw1]
    simp only[Qa]
    simp[hk 0 zo,zA1 (w:=w) (t:=vE 2 0) rfl]
   ·rw[if_neg h11,uL,uL w t]
    show Qa w t.kind t.num ((t.kids.map yj).map (wx w)) i↔_
    rw[List.map_map]
    have:t.kids.map (wx w∘yj)=t.kids.map (wx w):=by
     refine List.map_congr_left λu hu=>?_
     obtain⟨j,hj,rfl⟩:=List.mem_iff_getElem.1 hu
     rw[←Tree.vF hj]
     exact funext λi=>propext (hk j hj i)
    rw[this]
theorem zfa (A:List Int) (s:Nat) (is:Bool) (m:Nat) (hA:∀x∈A,0≤x∧x≤63):∀k,k≤A.length→((BitVec.ofInt 64 (xM A s is k)).getLsbD m=true↔∃i,i<k∧s.testBit i=is∧(A.getD i 0).toNat=m)
 | 0,_=>by simp[xM]
 | k+1,hk=>by
  have ih:=zfa A s is m hA k zo
  have hx:=hA (A.getD k 0) (by rw[List.getD_eq_getElem?_getD,List.getElem?_eq_getElem (show k<A.length by omega)];simp)
  have hor:∀a b:Int,(BitVec.ofInt 64 (vl .or .u64 a b))=BitVec.ofInt 64 a ||| BitVec.ofInt 64 b:=λa b=>by
   show BitVec.ofInt 64 (IntKind.wrap .u64 ((BitVec.ofInt 64 a ||| BitVec.ofInt 64 b).toNat:Int))=_
   rw[QS]
   generalize BitVec.ofInt 64 a ||| BitVec.ofInt 64 b=y
   have:=y.isLt
   apply BitVec.eq_of_toNat_eq
   rw[BitVec.toNat_ofInt]
   omega
  have hone:(BitVec.ofInt 64 (2^(A.getD k 0).toNat)).getLsbD m=true↔(A.getD k 0).toNat=m:=by
   have e:BitVec.ofInt 64 (2^(A.getD k 0).toNat)=BitVec.ofNat 64 (2^(A.getD k 0).toNat):=by
    rw[←BitVec.ofInt_natCast,Int.natCast_pow];rfl
   rw[e,BitVec.getLsbD_ofNat,Nat.testBit_two_pow,Bool.and_eq_true,decide_eq_true_eq,decide_eq_true_eq]
   omega
  rw[xM]
  by_cases q:s.testBit k=is
  ·rw[if_pos (by simpa using q),hor,BitVec.getLsbD_or,Bool.or_eq_true,ih,hone]
   constructor
   ·rintro(⟨i,a,b,c⟩|h)
    ·exact⟨i,zo,b,c⟩
    ·exact⟨k,zo,q,h⟩
   ·rintro⟨i,a,b,c⟩
    by_cases e:i=k
    ·subst e;exact .inr c
    ·exact .inl ⟨i,zo,b,c⟩
  ·rw[if_neg (by simpa using q),ih]
   constructor
   ·rintro⟨i,a,b,c⟩;exact⟨i,zo,b,c⟩
   ·rintro⟨i,a,b,c⟩
    by_cases e:i=k
    ·subst e;exact absurd b q
    ·exact⟨i,zo,b,c⟩
theorem zk4 {A:List Int} {P:List Tree} (hA:∀x∈A,0≤x∧x≤63) (f:Tree) {s:Nat} (hs:s<2^(A.length+P.length)) (x:Int) :
  zav (ZC A P f) s x=true↔∀i,i<A.length→zqu x (A.getD i 0)=s.testBit i:=by
 have e1:(ZC A P f).Xo.getD s 0=xM A s true A.length:=by
  show((List.range _).map λs=>xM A s true A.length).getD s 0=_
  rw[List.getD_eq_getElem?_getD,List.getElem?_map,List.getElem?_range hs];rfl
 have e2:(ZC A P f).WR.getD s 0=xM A s false A.length:=by
  show((List.range _).map λs=>xM A s false A.length).getD s 0=_
  rw[List.getD_eq_getElem?_getD,List.getElem?_map,List.getElem?_range hs];rfl
 have hT:=λm=>zfa A s true m hA A.length (Nat.le_refl _)
 have hF:=λm=>zfa A s false m hA A.length (Nat.le_refl _)
 have hr:=zcH A s true A.length
 unfold zav
 rw[e1,e2,zoP hr]
 rw[Bool.and_eq_true,beq_iff_eq,beq_iff_eq]
 have k1:vl .andNot .u64 (xM A s true A.length) x=0↔∀m,(BitVec.ofInt 64 (xM A s true A.length)).getLsbD m=true→(BitVec.ofInt 64 x).getLsbD m=true:=by
  show IntKind.wrap .u64 ((BitVec.ofInt 64 (xM A s true A.length) &&& ~~~(BitVec.ofInt 64 x)).toNat:Int)=0↔_
  rw[QS]
  constructor
  ·intro h m hm
   have h0:BitVec.ofInt 64 (xM A s true A.length) &&& ~~~(BitVec.ofInt 64 x)=0#64:=BitVec.eq_of_toNat_eq (by simpa using h)
   have:=congrArg (λz:BitVec 64=>z.getLsbD m) h0
   have hlt:=BitVec.lt_of_getLsbD hm
   simp[hm,hlt] at this
   exact this
  ·intro h
   have h0:BitVec.ofInt 64 (xM A s true A.length) &&& ~~~(BitVec.ofInt 64 x)=0#64:=by
    apply BitVec.eq_of_getLsbD_eq
    intro m hm
    have:=h m
    simp[hm]
    exact this
   rw[h0];rfl
 have k2:vl .and .u64 x (xM A s false A.length)=0↔∀m,(BitVec.ofInt 64 (xM A s false A.length)).getLsbD m=true→(BitVec.ofInt 64 x).getLsbD m=false:=by
  show IntKind.wrap .u64 ((BitVec.ofInt 64 x &&& BitVec.ofInt 64 (xM A s false A.length)).toNat:Int)=0↔_
  rw[QS]
  constructor
  ·intro h m hm
   have h0:BitVec.ofInt 64 x &&& BitVec.ofInt 64 (xM A s false A.length)=0#64:=BitVec.eq_of_toNat_eq (by simpa using h)
   have:=congrArg (λz:BitVec 64=>z.getLsbD m) h0
   simp[hm] at this
   exact this
  ·intro h
   have h0:BitVec.ofInt 64 x &&& BitVec.ofInt 64 (xM A s false A.length)=0#64:=by
    apply BitVec.eq_of_getLsbD_eq
    intro m hm
    rw[BitVec.getLsbD_and]
    cases q:(BitVec.ofInt 64 (xM A s false A.length)).getLsbD m
    ·simp
    ·rw[h m q];simp
   rw[h0];rfl
 rw[k1,k2]
 constructor
 ·rintro⟨h1,h2⟩ i hi
  unfold zqu
  cases q:s.testBit i
  ·exact h2 _ ((hF _).2 ⟨i,hi,q,rfl⟩)
  ·exact h1 _ ((hT _).2 ⟨i,hi,q,rfl⟩)
 ·intro h
  refine⟨λm hm=>?_,λm hm=>?_⟩
  ·obtain⟨i,hi,q,rfl⟩:=(hT m).1 hm
   exact(h i hi).trans q
  ·obtain⟨i,hi,q,rfl⟩:=(hF m).1 hm
   exact(h i hi).trans q
end
section
open Go.RowKit
section
variable {c:Tree→Bool} {t:Tree}
theorem hol1 (h:t.kind=1):yw c t=true:=by rw[qy,Zl,h];simp
theorem hol2 (h:t.kind=2):yw c t=false:=by rw[qy,Zl,h];simp
theorem zvi (h:t.kind=3∨t.kind=7):yw c t=c t:=by rw[qy,Zl];rcases h with h|h<;>rw[h]<;>simp
theorem hol4 (h:t.kind=4) (hw:t.width=1):yw c t=!(yw c (t.yK 0)):=by rw[qy,Zl,h,uB c zo];simp
theorem hol5 (h:t.kind=5) (hw:t.width=2):yw c t=(yw c (t.yK 0)&&yw c (t.yK 1)):=by rw[qy,Zl,h,uB c zo,uB c zo];simp
theorem hol6 (h:t.kind=6) (hw:t.width=2):yw c t=(yw c (t.yK 0)||yw c (t.yK 1)):=by rw[qy,Zl,h,uB c zo,uB c zo];simp
theorem hol8 (h:t.kind=8) (hw:t.width=2):yw c t=(yw c (t.yK 1)||(yw c (t.yK 0)&&c t)):=by rw[qy,Zl,h,uB c zo,uB c zo];simp
theorem hol9 (h:t.kind=9) (hw:t.width=2):yw c t=(yw c (t.yK 1)&&(yw c (t.yK 0)||c t)):=by rw[qy,Zl,h,uB c zo,uB c zo];simp
end
theorem Zt {p:Nat→Bool} {k:Nat} {x:Int}:x∈ub p k↔∃s:Nat,s<k∧p s=true∧x=(s:Int):=by
 unfold ub
 simp only[List.mem_map,List.mem_filter,List.mem_range]
 constructor
 ·rintro⟨s,⟨h1,h2⟩,rfl⟩;exact⟨s,h1,h2,rfl⟩
 ·rintro⟨s,h1,h2,rfl⟩;exact⟨s,⟨h1,h2⟩,rfl⟩
theorem zjy {A:List Int} (P:List Tree) {g:Tree} (h:g.num∈A) (h3:g.kind=3):∃k,k<A.length∧A.getD k 0=g.num∧∀s,Wi A P s g=s.testBit k:=by
 obtain⟨k,hk,e⟩:=znB h
 obtain⟨k',e',hk',e2,_⟩:=za5 (p:=λa=>g.num==a) (l:=A) zo
 have:k'=k:=zo
 subst this
 refine⟨k',hk,?_,λs=>?_⟩
 ·rw[List.getD_eq_getElem?_getD,List.getElem?_eq_getElem hk]
  exact(beq_iff_eq.1 e2).symm
 ·unfold Wi ztU
  rw[if_pos h3,e];rfl
theorem zkM {P:List Tree} (A:List Int) {g:Tree} (h:g∈P) (h3:g.kind≠3):∃k,k<P.length∧P.getD k default=g∧∀s,Wi A P s g=s.testBit (A.length+k):=by
 obtain⟨k,hk,e⟩:=zi2 h
 obtain⟨k',e',hk',e2,_⟩:=za5 (p:=Jc g) (l:=P) zo
 have:k'=k:=zo
 subst this
 refine⟨k',hk,?_,λs=>?_⟩
 ·rw[List.getD_eq_getElem?_getD,List.getElem?_eq_getElem hk]
  exact(zdj.1 e2).symm
 ·unfold Wi ztU
  rw[if_neg h3,e];rfl
structure ztH (A:List Int) (P:List Tree) (w:Nat→Int) (r:Nat→Nat):Prop where
 zs1:∀i k,k<A.length→zqu (w i) (A.getD k 0)=(r i).testBit k
 zbQ:∀i p,p<P.length→hK A P (r (i+1)) p=(r i).testBit (A.length+p)
 fair:∀g∈P,g.kind≠7→∀i,∃j,i≤j∧ZF A P g (r j)=true
theorem ztH.zlE {A:List Int} {P:List Tree} {w:Nat→Int} {r:Nat→Nat} (h:ztH A P w r) {g:Tree} (hg:g∈P) (h3:g.kind≠3) (i:Nat):Wi A P (r i) g=yw (Wi A P (r (i+1))) (Zv g):=by
 obtain⟨k,hk,e,hc⟩:=zkM A hg h3
 rw[hc,←h.zbQ i k hk]
 unfold hK
 rw[e]
theorem zoo {A:List Int} {P:List Tree} {w:Nat→Int} {r:Nat→Nat} (h:ztH A P w r):∀t:Tree,t.wf uf→Told A P t→∀i,yw (Wi A P (r i)) t=true↔wx w t i:=by
 intro t
 induction t using Tree.ind with
 | h t ih =>
  intro hw hT
  have hk:=zbj hw
  have hwk:∀j,j<t.width→(t.yK j).wf uf:=λj hj=>((xO _ _).1 hw).2 _ (QM hj)
  have ihk:=λj hj=>ih j hj (hwk j hj) (hT.yK hj)
  rcases hk with⟨hk|hk|hk,hwd⟩|⟨hk|hk,hwd⟩|⟨hk|hk|hk|hk,hwd⟩
  ·intro i;rw[hol1 hk];exact⟨λ_=>zyz hk,λ_=>rfl⟩
  ·intro i;rw[hol2 hk];exact⟨λh=>(by cases h),λq=>absurd q (zA1 hk)⟩
  ·intro i
   rw[zvi (.inl hk),zvK hk]
   obtain⟨k,k1,k2,k3⟩:=zjy P (hT.atom hk) hk
   rw[k3,←h.zs1 i k k1,k2]
  ·intro i
   rw[hol4 hk hwd,zBE hk hwd,←ihk 0 zo i]
   cases yw (Wi A P (r i)) (t.yK 0)<;>simp
  ·intro i
   rw[zvi (.inr hk),sat7 hk hwd,h.zlE (hT.part (.inl hk)) zo,←ihk 0 zo (i+1),Zv,if_pos hk]
  ·intro i;rw[hol5 hk hwd,sat5 hk hwd,Bool.and_eq_true,ihk 0 zo,ihk 1 zo]
  ·intro i;rw[hol6 hk hwd,zyA hk hwd,Bool.or_eq_true,ihk 0 zo,ihk 1 zo]
  ·have hP:=hT.part (.inr (.inl hk))
   have hs:∀i,yw (Wi A P (r i)) t=true↔wx w (t.yK 1) i∨(wx w (t.yK 0) i∧yw (Wi A P (r (i+1))) t=true):=λi=>by
    rw[hol8 hk hwd,Bool.or_eq_true,Bool.and_eq_true,ihk 0 zo,ihk 1 zo,h.zlE hP zo,Zv,if_neg zo]
   intro i
   rw[zqY hk hwd]
   constructor
   ·intro q
    obtain⟨j,hj,hf⟩:=h.fair t hP zo i
    unfold ZF at hf
    rw[if_pos hk,Bool.or_eq_true,Bool.not_eq_true',ihk 1 zo] at hf
    obtain⟨d,rfl⟩:=Nat.exists_eq_add_of_le hj
    clear hj
    induction d generalizing i with
    | zero =>
     rcases hf with hf|hf
     ·rw[Nat.add_zero] at hf;rw[hf] at q;cases q
     ·exact⟨i,Nat.le_refl _,hf,λm a b=>zo⟩
    | succ d ihd =>
     rcases (hs i).1 q with k|⟨k1,k2⟩
     ·exact⟨i,Nat.le_refl _,k,λm a b=>zo⟩
     ·exact ze2.2 (.inr ⟨k1,ihd (i+1) k2 (by rw[show i+1+d=i+(d+1) by omega];exact hf)⟩)
   ·rintro⟨j,hj,q1,q2⟩
    obtain⟨d,rfl⟩:=Nat.exists_eq_add_of_le hj
    clear hj
    induction d generalizing i with
    | zero=>exact(hs i).2 (.inl q1)
    | succ d ihd=>exact(hs i).2 (.inr ⟨q2 i (Nat.le_refl _) zo,ihd (i+1) (by rw[show i+1+d=i+(d+1) by omega];exact q1) λm a b=>q2 m zo zo⟩)
  ·have hP:=hT.part (.inr (.inr hk))
   have hs:∀i,yw (Wi A P (r i)) t=true↔wx w (t.yK 1) i∧(wx w (t.yK 0) i∨yw (Wi A P (r (i+1))) t=true):=λi=>by
    rw[hol9 hk hwd,Bool.and_eq_true,Bool.or_eq_true,ihk 0 zo,ihk 1 zo,h.zlE hP zo,Zv,if_neg zo]
   intro i
   rw[zwE hk hwd]
   constructor
   ·intro q j hj
    obtain⟨d,rfl⟩:=Nat.exists_eq_add_of_le hj
    clear hj
    induction d generalizing i with
    | zero=>exact .inl ((hs i).1 q).1
    | succ d ihd =>
     rcases ((hs i).1 q).2 with k|k
     ·exact .inr ⟨i,Nat.le_refl _,zo,k⟩
     ·rcases ihd (i+1) k with a|⟨m,a,b,e⟩
      ·rw[show i+1+d=i+(d+1) by omega] at a;exact .inl a
      ·exact .inr ⟨m,zo,zo,e⟩
   ·intro q
    obtain⟨j,hj,hf⟩:=h.fair t hP zo i
    unfold ZF at hf
    rw[if_neg zo,Bool.or_eq_true,Bool.not_eq_true',Bool.eq_false_iff,ne_eq,ihk 1 zo] at hf
    obtain⟨d,rfl⟩:=Nat.exists_eq_add_of_le hj
    clear hj
    induction d generalizing i with
    | zero =>
     rcases hf with hf|hf
     ·exact hf
     ·exact absurd (V2.1 q).1 hf
    | succ d ihd =>
     obtain⟨k1,k2⟩:=V2.1 q
     refine(hs i).2 ⟨k1,k2.imp_right λk=>?_⟩
     exact ihd (i+1) k (by rw[show i+1+d=i+(d+1) by omega];exact hf)
open Classical in
noncomputable def ztz (A:List Int) (P:List Tree) (w:Nat→Int) (i k:Nat):Bool:=if k<A.length then zqu (w i) (A.getD k 0) else decide (wx w (Zv (P.getD (k-A.length) default)) (i+1))
noncomputable def zcS (A:List Int) (P:List Tree) (w:Nat→Int) (i:Nat):Nat:=X7 (ztz A P w i) (A.length+P.length)
theorem zey {A:List Int} {P:List Tree} (w:Nat→Int) {g:Tree} (hg:g∈P) (h3:g.kind≠3) (i:Nat):Wi A P (zcS A P w i) g=true↔wx w (Zv g) (i+1):=by
 obtain⟨k,hk,e,hc⟩:=zkM A hg h3
 rw[hc]
 unfold zcS
 rw[Yv _ _ _ zo]
 unfold ztz
 rw[if_neg zo,Nat.add_sub_cancel_left,e]
 simp only[decide_eq_true_eq]
theorem QL {A:List Int} {P:List Tree} (w:Nat→Int):∀t:Tree,t.wf uf→Told A P t→∀i,yw (Wi A P (zcS A P w i)) t=true↔wx w t i:=by
 intro t
 induction t using Tree.ind with
 | h t ih =>
  intro hw hT i
  have hk:=zbj hw
  have hwk:∀j,j<t.width→(t.yK j).wf uf:=λj hj=>((xO _ _).1 hw).2 _ (QM hj)
  have ihk:=λj hj=>ih j hj (hwk j hj) (hT.yK hj)
  rcases hk with⟨hk|hk|hk,hwd⟩|⟨hk|hk,hwd⟩|⟨hk|hk|hk|hk,hwd⟩
  ·rw[hol1 hk];exact⟨λ_=>zyz hk,λ_=>rfl⟩
  ·rw[hol2 hk];exact⟨λh=>(by cases h),λq=>absurd q (zA1 hk)⟩
  ·rw[zvi (.inl hk),zvK hk]
   obtain⟨k,k1,k2,k3⟩:=zjy P (hT.atom hk) hk
   rw[k3]
   unfold zcS
   rw[Yv _ _ _ zo]
   unfold ztz
   rw[if_pos k1,k2]
  ·rw[hol4 hk hwd,zBE hk hwd,←ihk 0 zo i]
   cases yw (Wi A P (zcS A P w i)) (t.yK 0)<;>simp
  ·rw[zvi (.inr hk),sat7 hk hwd,zey w (hT.part (.inl hk)) zo,Zv,if_pos hk]
  ·rw[hol5 hk hwd,sat5 hk hwd,Bool.and_eq_true,ihk 0 zo,ihk 1 zo]
  ·rw[hol6 hk hwd,zyA hk hwd,Bool.or_eq_true,ihk 0 zo,ihk 1 zo]
  ·rw[hol8 hk hwd,Bool.or_eq_true,Bool.and_eq_true,ihk 0 zo,ihk 1 zo,zey w (hT.part (.inr (.inl hk))) zo,Zv,if_neg zo,zqY hk hwd,zqY hk hwd]
   exact ze2.symm
  ·rw[hol9 hk hwd,Bool.and_eq_true,Bool.or_eq_true,ihk 0 zo,ihk 1 zo,zey w (hT.part (.inr (.inr hk))) zo,Zv,if_neg zo,zwE hk hwd,zwE hk hwd]
   exact V2.symm
theorem zxa {A:List Int} {P:List Tree} (hI:zkv A P) (w:Nat→Int):ztH A P w (zcS A P w) where
 zs1 i k hk:=by
  unfold zcS
  rw[Yv _ _ _ zo]
  unfold ztz
  rw[if_pos hk]
 zbQ i p hp:=by
  have hg:P.getD p default∈P:=by rw[List.getD_eq_getElem?_getD,List.getElem?_eq_getElem hp];simp
  obtain⟨hw,hk⟩:=hI.wf _ hg
  have hT:=hI.told _ hg
  have hb:(Zv (P.getD p default)).wf uf∧Told A P (Zv (P.getD p default)):=by
   unfold Zv
   split
   ·have h1:0<(P.getD p default).width:=by have:=zbj hw;omega
    exact⟨((xO _ _).1 hw).2 _ (QM h1),hT.yK h1⟩
   ·exact⟨hw,hT⟩
  rw[Bool.eq_iff_iff]
  unfold hK
  rw[QL w _ hb.1 hb.2]
  unfold zcS
  rw[Yv _ _ _ zo]
  unfold ztz
  rw[if_neg zo,Nat.add_sub_cancel_left]
  simp only[decide_eq_true_eq]
 fair g hg h7 i:=by
  obtain⟨hw,hk⟩:=hI.wf _ hg
  have hT:=hI.told _ hg
  have hwk:∀j,j<g.width→(g.yK j).wf uf:=λj hj=>((xO _ _).1 hw).2 _ (QM hj)
  have hwd:g.width=2:=by have:=zbj hw;omega
  have h1:=λj=>QL (A:=A) (P:=P) w (g.yK 1) (hwk 1 zo) (hT.yK zo) j
  have h0:=λj=>QL (A:=A) (P:=P) w g hw hT j
  unfold ZF
  by_cases q:wx w g i
  ·rcases hk with hk|hk|hk
   ·exact absurd hk h7
   ·obtain⟨j,j1,j2,_⟩:=(zqY hk hwd).1 q
    exact⟨j,j1,by rw[if_pos hk,Bool.or_eq_true];exact .inr ((h1 j).2 j2)⟩
   ·exact⟨i,Nat.le_refl _,by rw[if_neg zo,Bool.or_eq_true];exact .inl ((h0 i).2 q)⟩
  ·rcases hk with hk|hk|hk
   ·exact absurd hk h7
   ·refine⟨i,Nat.le_refl _,?_⟩
    rw[if_pos hk,Bool.or_eq_true,Bool.not_eq_true',Bool.eq_false_iff,ne_eq,h0]
    exact .inl q
   ·rw[zwE hk hwd] at q
    obtain⟨j,hj⟩:=Classical.not_forall.1 q
    obtain⟨j1,j2⟩:=Classical.not_imp.1 hj
    refine⟨j,j1,?_⟩
    rw[if_neg zo,Bool.or_eq_true,Bool.not_eq_true',Bool.eq_false_iff,ne_eq,h1]
    exact .inr λk=>j2 (.inl k)
theorem zxk {A:List Int} {P:List Tree} (hI:zkv A P) {f:Tree} (hw:f.wf uf) (hT:Told A P f) (w:Nat→Int) :
  (∃r:Nat→Int,r 0∈(ZC A P f).start∧(∀i,r (i+1)∈(ZC A P f).next.getD (r i).toNat [])∧(∀i,zav (ZC A P f) (r i).toNat (w i)=true)∧∀l∈(ZC A P f).fair,∀i,∃j,i≤j∧r j∈l)↔wx w f 0:=by
 have hrow:∀s,s<2^(A.length+P.length)→(ZC A P f).next.getD s []=Jh A P (A.length+P.length) s:=λs hs=>by
  show((List.range _).map (Jh A P (A.length+P.length))).getD s []=_
  rw[List.getD_eq_getElem?_getD,List.getElem?_map,List.getElem?_range hs];rfl
 constructor
 ·rintro⟨r,h1,h2,h3,h4⟩
  have hr:∀i,∃s:Nat,s<2^(A.length+P.length)∧r i=(s:Int):=by
   intro i
   induction i with
   | zero =>
    obtain⟨s,a,b,e⟩:=Zt.1 h1
    exact⟨s,a,e⟩
   | succ i ih =>
    obtain⟨s,a,e⟩:=ih
    have:=h2 i
    rw[e,Int.toNat_natCast,hrow s a] at this
    obtain⟨s',a',_,e'⟩:=Zt.1 this
    exact⟨s',a',e'⟩
  have hlt:∀i,(r i).toNat<2^(A.length+P.length):=λi=>by obtain⟨s,a,e⟩:=hr i;omega
  have hN:ztH A P w (λi=>(r i).toNat):=by
   refine⟨λi k hk=>(zk4 hI.atoms f (hlt i) (w i)).1 (h3 i) k hk,λi p hp=>?_,λg hg h7 i=>?_⟩
   ·have:=h2 i
    rw[hrow _ (hlt i)] at this
    obtain⟨s',a',b',e'⟩:=Zt.1 this
    rw[zjh A P _ _ (hlt i),List.all_eq_true] at b'
    have:=b' p (List.mem_range.2 hp)
    rw[beq_iff_eq] at this
    show hK A P (r (i+1)).toNat p=_
    rw[e',Int.toNat_natCast,this]
   ·have hl:zj1 A P (A.length+P.length) g∈(ZC A P f).fair:=by
     show _∈((P.take P.length).filter λg=>g.kind != 7).map (zj1 A P (A.length+P.length))
     rw[List.take_length]
     exact List.mem_map.2 ⟨g,List.mem_filter.2 ⟨hg,by simpa using h7⟩,rfl⟩
    obtain⟨j,j1,j2⟩:=h4 _ hl i
    obtain⟨s,a,b,e⟩:=Zt.1 j2
    exact⟨j,j1,by show ZF A P g (r j).toNat=true;rw[e,Int.toNat_natCast];exact b⟩
  refine(zoo hN f hw hT 0).1 ?_
  obtain⟨s,a,b,e⟩:=Zt.1 h1
  show yw (Wi A P (r 0).toNat) f=true
  rw[e,Int.toNat_natCast];exact b
 ·intro h
  have hN:=zxa hI w
  have hlt:∀i,zcS A P w i<2^(A.length+P.length):=λi=>Vl _ _
  refine⟨λi=>(zcS A P w i:Int),?_,λi=>?_,λi=>?_,λl hl i=>?_⟩
  ·exact Zt.2 ⟨_,hlt 0,(QL w f hw hT 0).2 h,rfl⟩
  ·show _∈(ZC A P f).next.getD ((zcS A P w i:Nat):Int).toNat []
   rw[Int.toNat_natCast,hrow _ (hlt i)]
   refine Zt.2 ⟨_,hlt (i+1),?_,rfl⟩
   rw[zjh A P _ _ (hlt i),List.all_eq_true]
   intro p hp
   rw[beq_iff_eq]
   exact hN.zbQ i p (List.mem_range.1 hp)
  ·show zav _ ((zcS A P w i:Nat):Int).toNat _=true
   rw[Int.toNat_natCast]
   exact(zk4 hI.atoms f (hlt i) (w i)).2 λk hk=>hN.zs1 i k hk
  ·obtain⟨g,hg,rfl⟩:=List.mem_map.1 (show l∈((P.take P.length).filter λg=>g.kind != 7).map (zj1 A P (A.length+P.length)) from hl)
   rw[List.take_length,List.mem_filter] at hg
   obtain⟨j,j1,j2⟩:=hN.fair g hg.1 (by simpa using hg.2) i
   exact⟨j,j1,Zt.2 ⟨_,hlt j,j2,rfl⟩⟩
end
section
open Go.RowKit
open Classical in
noncomputable def qt (W:zA) (A:yl):Bool:=decide (∃v,v<(xj W A).2.length∧Fw (xj W A).2 (vk W A (xj W A).1) v)
theorem ztC {W:zA} {A:yl} (hb:UD W A):∃s l,U6 W A (xj W A).1 (xj W A).2 (xn W A).2=.yP [.agg [zB s,zB l],.sc (.bool (qt W A)),.sc (.int .i64 0)]∧(qt W A=false→s=[]∧l=[]):=by
 obtain⟨hN,hg⟩:=Wr hb
 have hp:=zBK (F:=vk W A (xj W A).1) hN.inG
 have hA:qt W A=true↔∃v,v<(xj W A).2.length∧Fw (xj W A).2 (vk W A (xj W A).1) v:=by unfold qt;simp only[decide_eq_true_eq]
 rw[←hA] at hp
 unfold U6
 by_cases h:pE (xj W A).2 (vk W A (xj W A).1)<0
 ·rw[if_pos h]
  have:qt W A=false:=by
   cases e:qt W A
   ·rfl
   ·exact absurd h (hp.2 e)
  exact⟨[],[],by rw[this],λ_=>⟨rfl,rfl⟩⟩
 ·rw[if_neg h,hp.1 h]
  exact⟨_,_,rfl,λq=>by cases q⟩
end
section
open Go.RowKit
def Seg (g:List (List Int)):Nat→List Nat→Nat→Prop
 | u,[],v=>u=v
 | u,x::l,v=>(∃y∈g.getD u [],y.toNat=x)∧Seg g x l v
theorem zcX {g:List (List Int)}:∀{l m:List Nat} {u v z:Nat},Seg g u l v→Seg g v m z→Seg g u (l++m) z
 | [],m,u,v,z,h,k=>by cases h;exact k
 | x::l,m,u,v,z,h,k=>⟨h.1,zcX h.2 k⟩
theorem zh0 {g:List (List Int)} {u v:Nat} (h:To g u v):∃l,Seg g u l v:=by
 unfold To at h
 induction h with
 | base m=>simp only[List.mem_singleton] at m;subst m;exact⟨[],by simp[Seg]⟩
 | step q m ih =>
  obtain⟨l,hl⟩:=ih
  exact⟨l++[_],zcX hl ⟨⟨_,m,rfl⟩,rfl⟩⟩
theorem zdR {g:List (List Int)}:∀{l:List Nat} {u v:Nat},Seg g u l v→u≠v→v∈l
 | [],u,v,h,hn=>absurd h hn
 | x::l,u,v,h,hn=>by
  by_cases e:x=v
  ·subst e;simp
  ·exact List.mem_cons_of_mem _ (zdR h.2 e)
def zyW (g:List (List Int)) (π:Nat→Nat):Prop:=∀i,∃y∈g.getD (π i) [],y.toNat=π (i+1)
theorem zrI {g:List (List Int)} {sets:List (Nat→Bool)} {c:Nat} (hn:Wl g c) (h:∀S∈sets,∃d,S d=true∧To g c d∧To g d c) :
  ∃l,l≠[]∧Seg g c l c∧∀S∈sets,∃d∈l,S d=true:=by
 induction sets with
 | nil =>
  obtain⟨x,hx,k⟩:=hn
  obtain⟨l,hl⟩:=zh0 k
  exact⟨x.toNat::l,zs,⟨⟨x,hx,rfl⟩,hl⟩,λS hS=>by cases hS⟩
 | cons S r ih =>
  obtain⟨l,l1,l2,l3⟩:=ih λS hS=>h S (List.mem_cons_of_mem _ hS)
  obtain⟨d,d1,d2,d3⟩:=h S zs
  obtain⟨a,ha⟩:=zh0 d2
  obtain⟨b,hb⟩:=zh0 d3
  refine⟨l++(a++b),by simp[l1],zcX l2 (zcX ha hb),λS' hS'=>?_⟩
  rcases List.mem_cons.1 hS' with rfl|hS'
  ·by_cases e:c=d
   ·subst e
    refine⟨c,?_,d1⟩
    cases l with
    | nil=>exact absurd rfl l1
    | cons x l =>
     -- the last of a way round is its beginning
     have:∀{l:List Nat} {x v:Nat},Seg g x l v→v∈x::l:=λ{l x v} q=>by
      by_cases e:x=v
      ·subst e;simp
      ·exact List.mem_cons_of_mem _ (zdR q e)
     exact List.mem_append_left _ (this l2.2)
   ·exact⟨d,by simp[zdR ha e],d1⟩
  ·obtain⟨d,q1,q2⟩:=l3 S' hS'
   exact⟨d,by simp[q1],q2⟩
def goS (l:List Nat):Nat × List Nat→Nat × List Nat
 | (_,x::r)=>(x,r)
 | (_,[])=>match l with
  | x::r=>(x,r)
  | []=>(0,[])
def goN (l:List Nat) (s:Nat × List Nat):Nat→Nat × List Nat
 | 0=>s
 | i+1=>goS l (goN l s i)
theorem Qw (l:List Nat) (s:Nat × List Nat) (i:Nat):∀j,goN l s (i+j)=goN l (goN l s i) j
 | 0=>rfl
 | j+1=>by show goS l (goN l s (i+j))=_;rw[Qw l s i j];rfl
theorem zn9 (l:List Nat):∀(r:List Nat) (u:Nat),(goN l (u,r) r.length).2=[]
 | [],u=>rfl
 | x::r,u=>by
  have:goN l (u,x::r) (r.length+1)=goN l (x,r) r.length:=by rw[Nat.add_comm,Qw];rfl
  rw[List.length_cons,this];exact zn9 l r x
theorem znt (l:List Nat):∀(r:List Nat) (u d:Nat),d∈r→∃j,(goN l (u,r) j).1=d
 | x::r,u,d,h=>by
  rcases List.mem_cons.1 h with rfl|h
  ·exact⟨1,rfl⟩
  ·obtain⟨j,hj⟩:=znt l r x d h
   exact⟨1+j,by rw[Qw];exact hj⟩
theorem znQ {g:List (List Int)} {c:Nat} {l:List Nat} (hne:l≠[]) (hl:Seg g c l c) {s:Nat × List Nat} (h:Seg g s.1 s.2 c):∀i,Seg g (goN l s i).1 (goN l s i).2 c
 | 0=>h
 | i+1=>by
  have ih:=znQ hne hl h i
  show Seg g (goS l (goN l s i)).1 (goS l (goN l s i)).2 c
  generalize goN l s i=t at ih
  obtain⟨u,r⟩:=t
  cases r with
  | cons x r=>exact ih.2
  | nil =>
   cases l with
   | nil=>exact absurd rfl hne
   | cons x l=>exact hl.2
theorem zz5 {g:List (List Int)} {sets:List (Nat→Bool)} {v:Nat} (h:Fw g sets v):∃π:Nat→Nat,π 0=v∧zyW g π∧∀S∈sets,∀i,∃j,i≤j∧S (π j)=true:=by
 obtain⟨c,h1,h2,h3⟩:=h
 obtain⟨l0,hl0⟩:=zh0 h1
 obtain⟨l,l1,l2,l3⟩:=zrI h2 h3
 have hS:=znQ l1 l2 (s:=(v,l0)) hl0
 refine⟨λi=>(goN l (v,l0) i).1,rfl,λi=>?_,λS hSm i=>?_⟩
 ·have hi:=hS i
  show ∃y∈g.getD (goN l (v,l0) i).1 [],y.toNat=(goS l (goN l (v,l0) i)).1
  generalize goN l (v,l0) i=t at hi
  obtain⟨u,r⟩:=t
  cases r with
  | cons x r=>exact hi.1
  | nil =>
   have e:u=c:=hi
   subst e
   cases l with
   | nil=>exact absurd rfl l1
   | cons x l=>exact l2.1
 ·obtain⟨d,d1,d2⟩:=l3 S hSm
  -- to the end of what is left,then round once
  have e1:=zn9 l (goN l (v,l0) i).2 (goN l (v,l0) i).1
  cases l with
  | nil=>exact absurd rfl l1
  | cons x l =>
   have key:∀t:Nat × List Nat,t.2=[]→∃j,(goN (x::l) t j).1=d:=λt ht=>by
    rcases List.mem_cons.1 d1 with e|e
    ·refine⟨1,?_⟩
     obtain⟨u,r⟩:=t
     cases ht
     exact e.symm
    ·obtain⟨j,hj⟩:=znt (x::l) l x d e
     refine⟨1+j,?_⟩
     rw[Qw]
     obtain⟨u,r⟩:=t
     cases ht
     exact hj
   obtain⟨j,hj⟩:=key _ e1
   refine⟨i+((goN (x::l) (v,l0) i).2.length+j),zo,?_⟩
   show S (goN (x::l) (v,l0) (i+((goN (x::l) (v,l0) i).2.length+j))).1=true
   rw[Qw,Qw]
   rw[hj]
   exact d2
theorem again {n:Nat} (f:Nat→Nat) (h:∀i,f i<n):∃c,∀i,∃j,i≤j∧f j=c:=by
 induction n generalizing f with
 | zero=>exact absurd (h 0) zo
 | succ n ih =>
  by_cases q:∀i,∃j,i≤j∧f j=n
  ·exact⟨n,q⟩
  ·obtain⟨i0,hi⟩:=Classical.not_forall.1 q
   have hno:∀j,i0≤j→f j≠n:=λj hj e=>hi ⟨j,hj,e⟩
   obtain⟨c,hc⟩:=ih (λi=>f (i0+i)) λi=>by have:=h (i0+i);have:=hno (i0+i) zo;omega
   refine⟨c,λi=>?_⟩
   obtain⟨j,j1,j2⟩:=hc i
   exact⟨i0+j,zo,j2⟩
theorem zss {g:List (List Int)} {π:Nat→Nat} (h:zyW g π) (i:Nat):∀d,To g (π i) (π (i+d))
 | 0=>YC g _
 | d+1=>by
  obtain⟨y,hy,e⟩:=h (i+d)
  refine uq (zss h i d) ?_
  rw[←Nat.add_assoc,←e]
  exact VH hy
theorem zyL {g:List (List Int)} {n:Nat} {sets:List (Nat→Bool)} {π:Nat→Nat} (hlt:∀i,π i<n) (h:zyW g π) (hS:∀S∈sets,∀i,∃j,i≤j∧S (π j)=true):Fw g sets (π 0):=by
 obtain⟨c,hc⟩:=again π hlt
 have hto:∀{i j},i≤j→To g (π i) (π j):=λ{i j} hij=>by
  obtain⟨d,rfl⟩:=Nat.exists_eq_add_of_le hij
  exact zss h i d
 obtain⟨i0,_,e0⟩:=hc 0
 have hc1:∀j,i0≤j→To g c (π j):=λj hj=>e0▸hto hj
 have hc2:∀j,To g (π j) c:=λj=>by
  obtain⟨k,k1,k2⟩:=hc j
  exact k2▸hto k1
 refine⟨c,hc2 0,?_,λS hSm=>?_⟩
 ·obtain⟨y,hy,e⟩:=h i0
  exact⟨y,e0▸hy,by rw[e];exact hc2 _⟩
 ·obtain⟨j,j1,j2⟩:=hS S hSm i0
  exact⟨_,j2,hc1 j j1,hc2 j⟩
theorem Wa {W:zA} {A:yl} {l k:List Int} {p:Pr}:p∈wa W A l k↔p.1∈l∧p.2∈k∧zjH W A p=true:=by
 obtain⟨x,y⟩:=p
 unfold wa zfK
 simp only[List.mem_flatMap,List.mem_map,List.mem_filter]
 constructor
 ·rintro⟨a,ha,b,⟨hb,hf⟩,e⟩
  cases e
  exact⟨ha,hb,hf⟩
 ·rintro⟨h1,h2,h3⟩
  exact⟨x,h1,y,⟨h2,h3⟩,rfl⟩
theorem zad {l:List Int} {v:Nat}:We l v=true↔(v:Int)∈l:=by unfold We;exact List.contains_iff_mem ..
theorem zoG {W:zA} {A:yl} (hb:UD W A):qt W A=true↔∃s r:Nat→Int,(s 0∈W.start∧∀i,s (i+1)∈W.next.getD (s i).toNat [])∧(r 0∈A.start∧∀i,r (i+1)∈A.next.getD (r i).toNat [])∧(∀i,zav A (r i).toNat (W.label.getD (s i).toNat 0)=true) ∧
  (∀l∈W.fair,∀i,∃j,i≤j∧s j∈l)∧∀l∈A.fair,∀i,∃j,i≤j∧r j∈l:=by
 obtain⟨hN,hg⟩:=Wr hb
 have hA:qt W A=true↔∃v,v<(xj W A).2.length∧Fw (xj W A).2 (vk W A (xj W A).1) v:=by unfold qt;simp only[decide_eq_true_eq]
 rw[hA]
 have hset:vk W A (xj W A).1=(W.fair.map λl v=>We l ((xj W A).1.getD v (0,0)).1.toNat)++A.fair.map λl v=>We l ((xj W A).1.getD v (0,0)).2.toNat:=by
  unfold vk Wh
  rw[List.take_length,List.take_length]
  rfl
 rw[hset]
 generalize xj W A=FE at *
 obtain⟨L,G⟩:=FE
 dsimp only at *
 constructor
 ·rintro⟨v,hv,hF⟩
  have hv':v<L.length:=by have:=hN.len;omega
  obtain⟨p,hp,hT⟩:=hN.come v hv'
  obtain⟨π,p0,p1,p2⟩:=zz5 (hF.back hT)
  have hlt:∀i,π i<L.length:=by
   intro i
   cases i with
   | zero=>rw[p0];exact UG (hN.st p hp)
   | succ i =>
    obtain⟨y,hy,e⟩:=p1 i
    obtain⟨_,q,_,_,rfl,k⟩:=hN.zlW hy
    rw[←e,Int.toNat_natCast];exact k
  have hgood:=λi=>hg _ (xH (hlt i))
  have h0:L.getD (π 0) (0,0)=p:=by rw[p0];exact XX (hN.st p hp)
  have hstep:∀i,L.getD (π (i+1)) (0,0)∈nxE W A (L.getD (π i) (0,0)):=λi=>by
   obtain⟨y,hy,e⟩:=p1 i
   obtain⟨_,q,q1,q2,rfl,k⟩:=hN.zlW hy
   rw[←e,Int.toNat_natCast,XX q2];exact q1
  have hst:=Wa.1 (h0▸hp:L.getD (π 0) (0,0)∈wa W A W.start A.start)
  have hnx:=λi=>Wa.1 (hstep i)
  refine⟨λi=>(L.getD (π i) (0,0)).1,λi=>(L.getD (π i) (0,0)).2,⟨hst.1,λi=>(hnx i).1⟩,⟨hst.2.1,λi=>(hnx i).2.1⟩,λi=>?_,λl hl i=>?_,λl hl i=>?_⟩
  ·cases i with
   | zero=>exact hst.2.2
   | succ i=>exact(hnx i).2.2
  ·obtain⟨j,j1,j2⟩:=p2 _ (List.mem_append_left _ (List.mem_map.2 ⟨l,hl,rfl⟩)) i
   refine⟨j,j1,?_⟩
   have:=zad.1 j2
   have hp:=(hgood j).1.1
   rwa [Int.toNat_of_nonneg hp] at this
  ·obtain⟨j,j1,j2⟩:=p2 _ (List.mem_append_right _ (List.mem_map.2 ⟨l,hl,rfl⟩)) i
   refine⟨j,j1,?_⟩
   have:=zad.1 j2
   have hp:=(hgood j).2.1
   rwa [Int.toNat_of_nonneg hp] at this
 ·rintro⟨s,r,⟨s0,s1⟩,⟨r0,r1⟩,hf,hsW,hsA⟩
  have hmem:∀i,(s i,r i)∈L:=by
   intro i
   induction i with
   | zero=>exact hN.st _ (Wa.2 ⟨s0,r0,hf 0⟩)
   | succ i ih =>
    have hl:=UG ih
    refine hN.cl _ hl _ ?_
    rw[XX ih]
    exact Wa.2 ⟨s1 i,r1 i,hf (i+1)⟩
  have hidx:=λi=>UG (hmem i)
  refine⟨vt L (s 0,r 0),by have:=hidx 0;have:=hN.len;omega,?_⟩
  refine zyL (n:=L.length) (π:=λi=>vt L (s i,r i)) hidx (λi=>?_) λS hS i=>?_
  ·have hm:(s (i+1),r (i+1))∈nxE W A (s i,r i):=Wa.2 ⟨s1 i,r1 i,hf (i+1)⟩
   refine⟨(vt L (s (i+1),r (i+1)):Int),?_,Int.toNat_natCast _⟩
   show _∈G.getD (vt L (s i,r i)) []
   rw[hN.row _ (hidx i),XX (hmem i)]
   exact List.mem_map.2 ⟨_,hm,rfl⟩
  ·rcases List.mem_append.1 hS with hS|hS
   ·obtain⟨l,hl,rfl⟩:=List.mem_map.1 hS
    obtain⟨j,j1,j2⟩:=hsW l hl i
    refine⟨j,j1,?_⟩
    show We l (L.getD (vt L (s j,r j)) (0,0)).1.toNat=true
    rw[XX (hmem j),zad,Int.toNat_of_nonneg (hg _ (hmem j)).1.1]
    exact j2
   ·obtain⟨l,hl,rfl⟩:=List.mem_map.1 hS
    obtain⟨j,j1,j2⟩:=hsA l hl i
    refine⟨j,j1,?_⟩
    show We l (L.getD (vt L (s j,r j)) (0,0)).2.toNat=true
    rw[XX (hmem j),zad,Int.toNat_of_nonneg (hg _ (hmem j)).2.1]
    exact j2
end
section
def ZQ (a b:ByteArray):Bool:=a.toList==b.toList
theorem ziZ (a b:ByteArray):ZQ a b=ZQ b a:=by
 unfold ZQ
 exact BEq.comm
@[simp] theorem zDh (a:ByteArray):ZQ a a=true:=by simp[ZQ]
theorem zbx (a:ByteArray):ZQ a ⟨#[]⟩=true↔a.size=0:=by
 unfold ZQ
 rw[beq_iff_eq,ByteArray.toList_eq,ByteArray.toList_eq]
 show a.data.toList=[]↔a.data.size=0
 rw[List.eq_nil_iff_length_eq_zero,Array.length_toList]
theorem yW (l:Array UInt8):(⟨l⟩:ByteArray).size=l.size:=rfl
def zeB:ByteArray:=⟨#[116,114,117,101]⟩
def Jp:ByteArray:=⟨#[102,97,108,115,101]⟩
def Xk:ByteArray:=⟨#[115,105,108,101,110,116]⟩
def zep (s:ByteArray) (i:Nat):Bool:=match s[i]? with
 | some b=>decide (97≤b.toNat)&&decide (b.toNat≤122)
 | none=>true
def zp6 (s:ByteArray):Bool:=(List.range s.size).all (zep s)
theorem zqa {s:ByteArray} (h:∀i,i<s.size→zep s i=true):zp6 s=true:=by
 unfold zp6
 rw[List.all_eq_true]
 exact λi hi=>h i (List.mem_range.1 hi)
theorem zfo {s:ByteArray} {i:Nat} (hi:i<s.size) (h:zep s i=false):zp6 s=false:=by
 unfold zp6
 rw[List.all_eq_false]
 exact⟨i,List.mem_range.2 hi,by simp[h]⟩
def xd (s:ByteArray):Bool:=!(ZQ s ⟨#[]⟩)&&decide (s.size≤8)&&!(ZQ s zeB)&&!(ZQ s Jp)&&!(ZQ s Xk)&&zp6 s
def J6 (names:List ByteArray) (n:Nat) (s:ByteArray):Bool:=(List.range n).any λi=>ZQ (names.getD i ⟨#[]⟩) s
theorem zph {names:List ByteArray} {n i:Nat} {s:ByteArray} (hi:i<n) (h:ZQ (names.getD i ⟨#[]⟩) s=true):J6 names n s=true:=by
 unfold J6
 rw[List.any_eq_true]
 exact⟨i,List.mem_range.2 hi,h⟩
def nm (names:List ByteArray) (n:Int):ByteArray :=
 if n=63 then Xk
 else if (names.length:Int)≤n then ⟨#[]⟩
 else if xd (names.getD n.toNat ⟨#[]⟩)=false then ⟨#[]⟩
 else if J6 names n.toNat (names.getD n.toNat ⟨#[]⟩)=true then ⟨#[]⟩
 else names.getD n.toNat ⟨#[]⟩
theorem znk (names:List ByteArray) (n:Int):(nm names n).size≤8:=by
 unfold nm
 split
 ·decide
 split
 ·decide
 split
 ·decide
 split
 ·decide
 ·rename_i h _
  have:xd (names.getD n.toNat ⟨#[]⟩)=true:=by simpa using h
  unfold xd at this
  simp only[Bool.and_eq_true,decide_eq_true_eq] at this
  exact this.1.1.1.1.2
def YZ (b:Bool) (s:ByteArray):ByteArray:=if b then s else ⟨#[40]⟩++s++⟨#[41]⟩
theorem Zq (b:Bool) (s:ByteArray):(YZ b s).size≤s.size+2:=by
 unfold YZ
 split
 ·omega
 ·simp only[ByteArray.size_append]
  have:(⟨#[40]⟩:ByteArray).size=1:=rfl
  have:(⟨#[41]⟩:ByteArray).size=1:=rfl
  omega
def zaq (k i c:Int):Bool:=if c=5 then k==6||(k==5&&i==0) else if c=6 then k==6&&i==0 else if c=8∨c=9 then k==c&&i==1 else true
def zhP (k i c:Int):Bool:=if c=5 then k==6||(k==5&&i==0) else if c=6 then k==6&&i==0 else true
def Ud (k i c:Int):Bool:=if k=10∨k=14 then true else zhP k i c
def Q3 (names:List ByteArray) (k n:Int) (a b:ByteArray):ByteArray :=
 if k=1 then zeB else if k=2 then Jp else if k=3 then nm names n
 else if k=4 then ⟨#[33]⟩++a else if k=7 then ⟨#[88,32]⟩++a else if k=10 then ⟨#[70,32]⟩++a else if k=11 then ⟨#[71,32]⟩++a
 else if k=5 then a++⟨#[32,38,32]⟩++b else if k=6 then a++⟨#[32,47,32]⟩++b else if k=8 then a++⟨#[32,85,32]⟩++b else a++⟨#[32,82,32]⟩++b
def zaC (names:List ByteArray) (k n:Int) (a b:ByteArray):ByteArray :=
 if k=1 then zeB else if k=2 then Jp else if k=3 then nm names n
 else if k=5 then a++⟨#[32,38,32]⟩++b else if k=6 then a++⟨#[32,47,32]⟩++b
 else if k=10 then ⟨#[69,32,91]⟩++a++⟨#[32,85,32]⟩++b++⟨#[93]⟩ else if k=14 then ⟨#[65,32,91]⟩++a++⟨#[32,85,32]⟩++b++⟨#[93]⟩
 else if k=4 then ⟨#[33]⟩++a else if k=7 then ⟨#[69,88,32]⟩++a else if k=8 then ⟨#[69,70,32]⟩++a else if k=9 then ⟨#[69,71,32]⟩++a
 else if k=11 then ⟨#[65,88,32]⟩++a else if k=12 then ⟨#[65,70,32]⟩++a else ⟨#[65,71,32]⟩++a
theorem zjR {p:Prop} [Decidable p] {a b:ByteArray} {n:Nat} (h:p→a.size≤n) (k:¬p→b.size≤n):(if p then a else b).size≤n:=by
 split
 ·exact h ‹_›
 ·exact k ‹_›
theorem Qk (k n:Int) (ks:List Tree):(Tree.node k n ks).kind=k:=rfl
theorem XH (k n:Int) (ks:List Tree):(Tree.node k n ks).kids=ks:=rfl
theorem zl3 (names:List ByteArray) (k n:Int) (a b:ByteArray):(Q3 names k n a b).size≤a.size+b.size+8:=by
 have:=znk names n
 unfold Q3 zeB Jp
 generalize nm names n=z at this ⊢
 repeat' (refine zjR (λ_=>?_) (λ_=>?_))
 all_goals ((try simp only[ByteArray.size_append]);(try simp only[yW,List.size_toArray,List.length_cons,List.length_nil]);omega)
theorem zmS (names:List ByteArray) (k n:Int) (a b:ByteArray):(zaC names k n a b).size≤a.size+b.size+8:=by
 have:=znk names n
 unfold zaC zeB Jp
 generalize nm names n=z at this ⊢
 repeat' (refine zjR (λ_=>?_) (λ_=>?_))
 all_goals ((try simp only[ByteArray.size_append]);(try simp only[yW,List.size_toArray,List.length_cons,List.length_nil]);omega)
mutual
def XW (names:List ByteArray):Tree→ByteArray
 | .node k n ks=>Q3 names k n ((Xh names k 0 ks).getD 0 ⟨#[]⟩) ((Xh names k 0 ks).getD 1 ⟨#[]⟩)
def Xh (names:List ByteArray) (k i:Int):List Tree→List ByteArray
 | []=>[]
 | t::r=>YZ (zaq k i t.kind) (XW names t)::Xh names k (i+1) r
end
def Z6 (names:List ByteArray) (t:Tree) (j:Nat):ByteArray:=YZ (zaq t.kind j (t.yK j).kind) (XW names (t.yK j))
theorem QI (names:List ByteArray) (k:Int):∀(ks:List Tree) (i:Int) (j:Nat),j<ks.length→(Xh names k i ks).getD j ⟨#[]⟩=YZ (zaq k (i+j) (ks.getD j default).kind) (XW names (ks.getD j default))
 | [],_,_,h=>by simp at h
 | t::r,i,0,_=>by simp[Xh]
 | t::r,i,j+1,h=>by
  have:=QI names k r (i+1) j (by simpa using h)
  simp only[Xh,List.getD_cons_succ]
  rw[this,show i+1+(j:Int)=i+((j+1:Nat):Int) by omega]
theorem VZ (names:List ByteArray) (k:Int):∀(ks:List Tree) (i:Int) (j:Nat),ks.length≤j→(Xh names k i ks).getD j ⟨#[]⟩=⟨#[]⟩
 | [],_,_,_=>by simp[Xh]
 | t::r,i,0,h=>by simp at h
 | t::r,i,j+1,h=>by
  simp only[Xh,List.getD_cons_succ]
  exact VZ names k r (i+1) j (by simpa using h)
theorem zc4 (names:List ByteArray) (t:Tree):XW names t=Q3 names t.kind t.num ((Xh names t.kind 0 t.kids).getD 0 ⟨#[]⟩) ((Xh names t.kind 0 t.kids).getD 1 ⟨#[]⟩):=by
 cases t;simp only[XW];rfl
theorem zyM (names:List ByteArray) {t:Tree} (h:t.width=0):XW names t=Q3 names t.kind t.num ⟨#[]⟩ ⟨#[]⟩:=by
 rw[zc4,VZ _ _ _ _ _ (by unfold Tree.width at h;omega),VZ _ _ _ _ _ (by unfold Tree.width at h;omega)]
theorem zy2 (names:List ByteArray) {t:Tree} (h:t.width=1):XW names t=Q3 names t.kind t.num (Z6 names t 0) ⟨#[]⟩:=by
 rw[zc4,QI _ _ _ _ _ (by unfold Tree.width at h;omega),VZ _ _ _ _ _ (by unfold Tree.width at h;omega)]
 simp[Z6,Tree.yK]
theorem zAm (names:List ByteArray) {t:Tree} (h:t.width=2):XW names t=Q3 names t.kind t.num (Z6 names t 0) (Z6 names t 1):=by
 rw[zc4,QI _ _ _ _ _ (by unfold Tree.width at h;omega),QI _ _ _ _ _ (by unfold Tree.width at h;omega)]
 simp[Z6,Tree.yK]
theorem zqj (names:List ByteArray) (t:Tree):(XW names t).size≤12*t.size:=by
 induction t using Tree.ind with
 | h t ih =>
  rw[zc4]
  have hj:=zl3 names t.kind t.num ((Xh names t.kind 0 t.kids).getD 0 ⟨#[]⟩) ((Xh names t.kind 0 t.kids).getD 1 ⟨#[]⟩)
  refine Nat.le_trans hj ?_
  have e0:(⟨#[]⟩:ByteArray).size=0:=rfl
  obtain⟨k,n,ks⟩:=t
  match ks with
  | []=>simp only[XH,Xh,List.getD_nil,e0,Tree.size];omega
  | [a] =>
   have h0:=ih 0 (by simp[Tree.width,Tree.kids])
   have w0:=Zq (zaq k 0 a.kind) (XW names a)
   simp only[XH,Qk,Xh,List.getD_cons_zero,List.getD_cons_succ,List.getD_nil,e0,Tree.size,Tree.ZK,Tree.yK] at h0 ⊢
   omega
  | a::b::r =>
   have h0:=ih 0 (by simp[Tree.width,Tree.kids])
   have h1:=ih 1 (by simp[Tree.width,Tree.kids])
   have w0:=Zq (zaq k 0 a.kind) (XW names a)
   have w1:=Zq (zaq k (0+1) b.kind) (XW names b)
   simp only[XH,Qk,Xh,List.getD_cons_zero,List.getD_cons_succ,Tree.size,Tree.ZK,Tree.yK] at h0 h1 ⊢
   omega
mutual
def Z4 (names:List ByteArray):Tree→ByteArray
 | .node k n ks=>zaC names k n ((Xc names k 0 ks).getD 0 ⟨#[]⟩) ((Xc names k 0 ks).getD 1 ⟨#[]⟩)
def Xc (names:List ByteArray) (k i:Int):List Tree→List ByteArray
 | []=>[]
 | t::r=>YZ (Ud k i t.kind) (Z4 names t)::Xc names k (i+1) r
end
def ZT (names:List ByteArray) (t:Tree) (j:Nat):ByteArray:=YZ (Ud t.kind j (t.yK j).kind) (Z4 names (t.yK j))
theorem QK (names:List ByteArray) (k:Int):∀(ks:List Tree) (i:Int) (j:Nat),j<ks.length→(Xc names k i ks).getD j ⟨#[]⟩=YZ (Ud k (i+j) (ks.getD j default).kind) (Z4 names (ks.getD j default))
 | [],_,_,h=>by simp at h
 | t::r,i,0,_=>by simp[Xc]
 | t::r,i,j+1,h=>by
  have:=QK names k r (i+1) j (by simpa using h)
  simp only[Xc,List.getD_cons_succ]
  rw[this,show i+1+(j:Int)=i+((j+1:Nat):Int) by omega]
theorem VU (names:List ByteArray) (k:Int):∀(ks:List Tree) (i:Int) (j:Nat),ks.length≤j→(Xc names k i ks).getD j ⟨#[]⟩=⟨#[]⟩
 | [],_,_,_=>by simp[Xc]
 | t::r,i,0,h=>by simp at h
 | t::r,i,j+1,h=>by
  simp only[Xc,List.getD_cons_succ]
  exact VU names k r (i+1) j (by simpa using h)
theorem zdh (names:List ByteArray) (t:Tree):Z4 names t=zaC names t.kind t.num ((Xc names t.kind 0 t.kids).getD 0 ⟨#[]⟩) ((Xc names t.kind 0 t.kids).getD 1 ⟨#[]⟩):=by
 cases t;simp only[Z4];rfl
theorem zAC (names:List ByteArray) {t:Tree} (h:t.width=0):Z4 names t=zaC names t.kind t.num ⟨#[]⟩ ⟨#[]⟩:=by
 rw[zdh,VU _ _ _ _ _ (by unfold Tree.width at h;omega),VU _ _ _ _ _ (by unfold Tree.width at h;omega)]
theorem zAO (names:List ByteArray) {t:Tree} (h:t.width=1):Z4 names t=zaC names t.kind t.num (ZT names t 0) ⟨#[]⟩:=by
 rw[zdh,QK _ _ _ _ _ (by unfold Tree.width at h;omega),VU _ _ _ _ _ (by unfold Tree.width at h;omega)]
 simp[ZT,Tree.yK]
theorem zyB (names:List ByteArray) {t:Tree} (h:t.width=2):Z4 names t=zaC names t.kind t.num (ZT names t 0) (ZT names t 1):=by
 rw[zdh,QK _ _ _ _ _ (by unfold Tree.width at h;omega),QK _ _ _ _ _ (by unfold Tree.width at h;omega)]
 simp[ZT,Tree.yK]
theorem zpd (names:List ByteArray) (t:Tree):(Z4 names t).size≤12*t.size:=by
 induction t using Tree.ind with
 | h t ih =>
  rw[zdh]
  have hj:=zmS names t.kind t.num ((Xc names t.kind 0 t.kids).getD 0 ⟨#[]⟩) ((Xc names t.kind 0 t.kids).getD 1 ⟨#[]⟩)
  refine Nat.le_trans hj ?_
  have e0:(⟨#[]⟩:ByteArray).size=0:=rfl
  obtain⟨k,n,ks⟩:=t
  match ks with
  | []=>simp only[XH,Xc,List.getD_nil,e0,Tree.size];omega
  | [a] =>
   have h0:=ih 0 (by simp[Tree.width,Tree.kids])
   have w0:=Zq (Ud k 0 a.kind) (Z4 names a)
   simp only[XH,Qk,Xc,List.getD_cons_zero,List.getD_cons_succ,List.getD_nil,e0,Tree.size,Tree.ZK,Tree.yK] at h0 ⊢
   omega
  | a::b::r =>
   have h0:=ih 0 (by simp[Tree.width,Tree.kids])
   have h1:=ih 1 (by simp[Tree.width,Tree.kids])
   have w0:=Zq (Ud k 0 a.kind) (Z4 names a)
   have w1:=Zq (Ud k (0+1) b.kind) (Z4 names b)
   simp only[XH,Qk,Xc,List.getD_cons_zero,List.getD_cons_succ,Tree.size,Tree.ZK,Tree.yK] at h0 h1 ⊢
   omega
def qD (names:List ByteArray) (k n:Int):Bool:=k != 3||!(ZQ (nm names n) ⟨#[]⟩)
mutual
def Z3 (names:List ByteArray):Tree→Bool
 | .node k n ks=>qD names k n&&zrK names ks
def zrK (names:List ByteArray):List Tree→Bool
 | []=>true
 | t::r=>Z3 names t&&zrK names r
end
theorem zkE (names:List ByteArray):∀ks,zrK names ks=ks.all (Z3 names)
 | []=>by simp only[zrK,List.all_nil]
 | t::r=>by simp only[zrK,List.all_cons,zkE names r]
theorem zdI (names:List ByteArray) (t:Tree):Z3 names t=(qD names t.kind t.num&&t.kids.all (Z3 names)):=by
 cases t;simp only[Z3,zkE];rfl
theorem zA6 {t:Tree} (h:t.width=1):t.kids=[t.yK 0]:=by
 unfold Tree.width at h
 unfold Tree.yK
 match e:t.kids,h with
 | [a],_=>rfl
theorem zyT {t:Tree} (h:t.width=2):t.kids=[t.yK 0,t.yK 1]:=by
 unfold Tree.width at h
 unfold Tree.yK
 match e:t.kids,h with
 | [a,b],_=>rfl
theorem zx1 (names:List ByteArray) {t:Tree} (h:t.width=0):Z3 names t=qD names t.kind t.num:=by
 rw[zdI,List.length_eq_zero_iff.1 h];simp
theorem zx2 (names:List ByteArray) {t:Tree} (h:t.width=1) (hk:t.kind≠3):Z3 names t=Z3 names (t.yK 0):=by
 rw[zdI,zA6 h];simp[hk,qD]
theorem zx0 (names:List ByteArray) {t:Tree} (h:t.width=2) (hk:t.kind≠3):Z3 names t=(Z3 names (t.yK 0)&&Z3 names (t.yK 1)):=by
 rw[zdI,zyT h];simp[hk,qD]
end
section
open Go.RowKit
def xf (l:List ByteArray):D:=.xl 1 (l.map λs=>[.sc (.string s)])
theorem z6 (l:List ByteArray):Pure (xf l):=by
 simp only[xf,Pure];exact zC _ (λs=>by simp[zb,Pure]) l
def qG (l:List ByteArray):Prop:=l.length≤9223372036854775807∧∀s∈l,s.size≤9223372036854775807
theorem WH {l:List ByteArray} {k:Nat} (h:k<l.length):(l.map λs=>[D.sc (.string s)])[k]? = some [.sc (.string (l.getD k ⟨#[]⟩))]:=by
 rw[List.getElem?_map,List.getElem?_eq_getElem h,List.getD_eq_getElem?_getD,List.getElem?_eq_getElem h];rfl
theorem qG.at {l:List ByteArray} (h:qG l) {k:Nat} (hk:k<l.length):(l.getD k ⟨#[]⟩).size≤9223372036854775807:=by
 rw[List.getD_eq_getElem?_getD,List.getElem?_eq_getElem hk]
 exact h.2 _ (List.getElem_mem _)
theorem zxx {s:ByteArray} {k:Nat} (h:k<s.size):∃b,s[k]? = some b:=⟨s[k],by simp[getElem?_pos,h]⟩
def zCD:PC:=.seq (OP [Bi 26 .lss 25 24]) (.seq (.cond 26 .skip (.exit 0)) (.seq (.block 1 (.seq (OP [qm 27 25,qm 3 27]) (.seq (OP [qm 28 0,qm 29 3,q 30 (.zrG 28 29),q 31 (.bin .lss 30 (.const (.int .u8 97))),qm 32 31,GF 33 32 (.move 0),GF 34 32 (.move 3),GF 35 32 (.zrG 33 34),GF 36 32 (.bin .gtr 35 (.const (.int .u8 122))),Pk 37 32 cT 36]) (.cond 37 (.seq (OP [Mv 2 cF]) .ret) .skip)))) (OP [Bi 38 .add 25 (cI 1),qm 25 38])))
def c23:PC:=.seq (OP [Mv 2 cF]) (.seq (.seq (OP [qm 4 0,Bi 5 .eql 4 (cS #[]),qm 6 5,GF 7 6 (.move 0),GF 8 6 (.zir 7),GF 9 6 (.bin .gtr 8 (cI 8)),Pk 10 6 cT 9,qm 11 10,GF 12 11 (.move 0),GF 13 11 (.bin .eql 12 (cS #[116,114,117,101])),Pk 14 11 cT 13,qm 15 14,GF 16 15 (.move 0),GF 17 15 (.bin .eql 16 (cS #[102,97,108,115,101])),Pk 18 15 cT 17,qm 19 18,GF 20 19 (.move 0),GF 21 19 (.bin .eql 20 (cS #[115,105,108,101,110,116])),Pk 22 19 cT 21]) (.cond 22 (.seq (OP [Mv 2 cF]) .ret) .skip)) (.seq (.seq (OP [qm 23 0,q 24 (.zir 23),Mv 25 (cI 0)]) (.block 0 (.loop zCD))) (.seq (OP [Mv 2 cT]) .ret)))
theorem zzH:zv Tryz.prog 23 39 [.tmp 2] c23:=fK Tryz.func23
theorem Yg (s:ByteArray) (hs:s.size≤9223372036854775807):zn Tryz.prog 23 [.sc (.string s)] (.sc (.bool (xd s))):=by
 refine za zzH zs (by simp[zb,Pure]) ?_ (by simp[Pure])
 refine sR ?_
 refine sS (λh1=>?_) λh1=>?_
 ·exact zR (congrArg (λb=>D.sc (.bool b)) (by have:ZQ s ⟨#[]⟩=true:=h1;simp[xd,this]))
 refine sS (λh2=>?_) λh2=>?_
 ·exact zR (congrArg (λb=>D.sc (.bool b)) (by have:¬s.size≤8:=sO
                                              simp[xd,this]))
 refine sS (λh3=>?_) λh3=>?_
 ·exact zR (congrArg (λb=>D.sc (.bool b)) (by have:ZQ s zeB=true:=h3;simp[xd,this]))
 refine sS (λh4=>?_) λh4=>?_
 ·exact zR (congrArg (λb=>D.sc (.bool b)) (by have:ZQ s Jp=true:=h4;simp[xd,this]))
 refine sS (λh5=>?_) λh5=>?_
 ·exact zR (congrArg (λb=>D.sc (.bool b)) (by have:ZQ s Xk=true:=h5;simp[xd,this]))
 have hn:xd s=zp6 s:=by
  have g1:ZQ s ⟨#[]⟩=false:=h1
  have g2:s.size≤8:=sO
  have g3:ZQ s zeB=false:=h3
  have g4:ZQ s Jp=false:=h4
  have g5:ZQ s Xk=false:=h5
  simp[xd,g1,g2,g3,g4,g5]
 rw[hn]
 clear hn h1 h2 h3 h4 h5
 refine zet (λk:Nat=>[(0,.sc (.string s)),(24,.sc (.int .i64 s.size)),(25,.sc (.int .i64 k))]) (λ_=>[])
  (λk=>k≤s.size∧∀j,j<k→zep s j=true) (λk=>s.size-k) 0 ⟨zo,λj h=>zo⟩ (zbH ⟨rfl,rfl,rfl,trivial⟩) ?_
 rintro k ⟨hk,hall⟩
 refine sR ?_
 refine sS (λh1=>?_) λh1=>?_
 ·have hk':k<s.size:=sO
  obtain⟨b,hb⟩:=zxx hk'
  refine⟨zo,b,hb,?_⟩
  refine sW ?_
  refine sS (λh2=>?_) λh2=>?_
  ·exact zR (congrArg (λb=>D.sc (.bool b)) (zfo hk' (by simp only[zep,hb];simp only[decide_eq_true_eq] at h2;simp;omega)).symm)
  refine⟨zo,b,hb,?_⟩
  refine sW ?_
  refine sS (λh3=>?_) λh3=>?_
  ·exact zR (congrArg (λb=>D.sc (.bool b)) (zfo hk' (by simp only[zep,hb];simp only[decide_eq_true_eq] at h3;simp;omega)).symm)
  refine .inl ⟨by unfold JL;rw[IntKind.wrap_i64];omega,?_⟩
  refine sW ?_
  refine⟨k+1,⟨zo,λj hj=>?_⟩,zd,zbH ⟨rfl,rfl,rfl,trivial⟩⟩
  by_cases e:j=k
  ·subst e;simp only[zep,hb];simp only[decide_eq_false_iff_not] at h2 h3;simp;omega
  ·exact hall j zo
 ·have hk':¬k<s.size:=sO
  exact zR (congrArg (λb=>D.sc (.bool b)) (zqa λi hi=>hall i zo).symm)
def zyy:PC:=.seq (OP [Bi 9 .lss 8 7]) (.seq (.cond 9 .skip (.exit 0)) (.seq (.block 1 (.seq (OP [qm 10 8,qm 5 10]) (.seq (OP [qm 11 1,qm 12 0,qm 13 5,Ia 14 1 12 13,Lo 15 14,Bi 16 .eql 11 15]) (.cond 16 (.seq (OP [qm 17 5,qm 4 17]) .ret) .skip)))) (OP [Bi 18 .add 8 (cI 1),qm 8 18])))
def c115:PC:=.seq (OP [Mv 4 (cI 0)]) (.seq (.seq (OP [qm 6 0,Ln 7 6,Mv 8 (cI 0)]) (.block 0 (.loop zyy))) (.seq (OP [Mv 4 (cI (-1))]) .ret))
theorem zw8:zv Tryz.prog 115 19 [.tmp 4] c115:=fK Tryz.func115
theorem zbu (l:List ByteArray) (s:ByteArray) (hl:l.length≤9223372036854775807):zn Tryz.prog 115 [xf l,.sc (.string s)] (.sc (.int .i64 (match l.findIdx? (ZQ s) with|some i=>(i:Int)|none=>-1))):=by
 refine za zw8 zs (by simp[zb,Pure,z6]) ?_ (by simp[Pure])
 unfold xf
 refine sR ?_
 rw[List.length_map]
 refine zet (λk:Nat=>[(0,xf l),(1,.sc (.string s)),(7,.sc (.int .i64 l.length)),(8,.sc (.int .i64 k))]) (λ_=>[]) (λk=>k≤l.length∧∀j (h:j<k) (h2:j<l.length),ZQ s l[j]=false) (λk=>l.length-k) 0 ⟨zo,λ_ h=>zo⟩
  (zbH ⟨rfl,rfl,rfl,rfl,trivial⟩) ?_
 rintro k ⟨hk,hno⟩
 unfold xf
 refine sR ?_
 refine sS (λh=>?_) λh=>?_
 ·have hk':k<l.length:=sO
  refine sL (WH hk') ?_
  have hg:l.getD k ⟨#[]⟩=l[k]:=by rw[List.getD_eq_getElem?_getD,List.getElem?_eq_getElem hk'];rfl
  refine sS (λh2=>?_) λh2=>?_
  ·have:l.findIdx? (ZQ s)=some k:=by
    rw[List.findIdx?_eq_some_iff_getElem]
    exact⟨zo,by rw[←hg];exact h2,λj hj=>by simp[hno j hj zo]⟩
   rw[this]
   exact Deep.refl _
  ·refine .inl ⟨by unfold JL;rw[IntKind.wrap_i64];omega,?_⟩
   refine sW ?_
   refine⟨k+1,⟨zo,λj hj hl=>?_⟩,zd,zbH ⟨rfl,rfl,rfl,rfl,trivial⟩⟩
   by_cases e:j=k
   ·subst e;rw[←hg];exact h2
   ·exact hno j zo hl
 ·have:l.findIdx? (ZQ s)=none:=by
   have hk':¬k<l.length:=sO
   rw[List.findIdx?_eq_none_iff]
   intro x hx
   obtain⟨j,hj,rfl⟩:=List.mem_iff_getElem.1 hx
   simp[hno j zo hj]
  rw[this]
  exact Deep.refl _
theorem zia {l:List ByteArray} {n:Nat} (hn:n<l.length):((match l.findIdx? (ZQ (l.getD n ⟨#[]⟩)) with|some i=>(i:Int)|none=>-1):Int)≠(n:Int)↔J6 l n (l.getD n ⟨#[]⟩)=true:=by
 have hg:∀j (h:j<l.length),l.getD j ⟨#[]⟩=l[j]:=λj h=>by rw[List.getD_eq_getElem?_getD,List.getElem?_eq_getElem h];rfl
 cases h:l.findIdx? (ZQ (l.getD n ⟨#[]⟩)) with
 | none =>
  rw[List.findIdx?_eq_none_iff] at h
  have:=h l[n] (List.getElem_mem _)
  rw[hg n hn] at this
  simp at this
 | some i =>
  rw[List.findIdx?_eq_some_iff_getElem] at h
  obtain⟨h1,h2,h3⟩:=h
  constructor
  ·intro hne
   have hne:(i:Int)≠n:=hne
   have:i<n:=by
    rcases Nat.lt_trichotomy i n with q|q|q
    ·exact q
    ·omega
    ·have:=h3 n q
     rw[hg n hn] at this
     simp at this
   exact zph this (by rw[ziZ,hg i h1];exact h2)
  ·intro hd
   show(i:Int)≠n
   unfold J6 at hd
   rw[List.any_eq_true] at hd
   obtain⟨j,hj,hd⟩:=hd
   rw[List.mem_range] at hj
   rintro e
   have:=h3 j zo
   rw[←hg j zo,ziZ,hd] at this
   simp at this
def c175:PC:=.seq (OP [Mv 4 (cS #[])]) (.seq (.seq (OP [qm 5 0,Bi 6 .eql 5 (cI 63)]) (.cond 6 (.seq (OP [Mv 4 (cS #[115,105,108,101,110,116])]) .ret) .skip)) (.seq (.seq (OP [qm 7 0,qm 8 1,Ln 9 8,Bi 10 .geq 7 9,qm 11 10,GF 12 11 (.move 1),GF 13 11 (.move 0),GF 14 11 (.zM 1 12 13),GF 15 11 (.zg 14),GF 16 11 (.call 23 [15]),GF 17 11 (.un .not 16),Pk 18 11 cT 17,qm 19 18,GF 20 19 (.move 1),GF 21 19 (.move 1),GF 22 19 (.move 0),GF 23 19 (.zM 1 21 22),GF 24 19 (.zg 23),GF 25 19 (.call 115 [20,24]),GF 26 19 (.move 0),GF 27 19 (.bin .neq 25 26),Pk 28 19 cT 27]) (.cond 28 (.seq (OP [Mv 4 (cS #[])]) .ret) .skip)) (.seq (OP [qm 29 1,qm 30 0,Ia 31 1 29 30,Lo 32 31,qm 4 32]) .ret)))
theorem zwZ:zv Tryz.prog 175 33 [.tmp 4] c175:=fK Tryz.func175
theorem zsc (names:List ByteArray) (hs:qG names) (n:Int) (hn:0≤n):zn Tryz.prog 175 [.sc (.int .i64 n),xf names] (.sc (.string (nm names n))):=by
 refine za zwZ zs (by simp[zb,Pure,z6]) ?_ (by simp[Pure])
 unfold xf
 refine sR ?_
 have eq:∀{s:ByteArray},s=nm names n→Deep [] (D.sc (.string s)) (.sc (.string (nm names n))):=λh=>h▸.refl _
 refine sS (λh1=>?_) λh1=>?_
 ·exact eq (by simp only[beq_iff_eq] at h1;simp[nm,h1,Xk])
 have h1:n≠63:=sO
 rw[List.length_map]
 refine sS (λh2=>?_) λh2=>?_
 ·exact eq (by have:(names.length:Int)≤n:=sO
               simp[nm,h1,this])
 have h2:¬(names.length:Int)≤n:=sO
 have hk:n.toNat<names.length:=zo
 refine⟨hn,_,WH hk,?_⟩
 refine sW ?_
 refine sC (Yg _ (hs.at hk)) ?_
 refine sS (λh3=>?_) λh3=>?_
 ·exact eq (by have:xd (names.getD n.toNat ⟨#[]⟩)=false:=by simpa using h3
               unfold nm;rw[if_neg h1,if_neg h2,if_pos this])
 have h3:¬xd (names.getD n.toNat ⟨#[]⟩)=false:=by simpa using h3
 refine⟨hn,_,WH hk,?_⟩
 refine sW ?_
 refine sC (zbu names _ hs.1) ?_
 have hd:=zia hk
 rw[show(n.toNat:Int)=n by omega] at hd
 refine sS (λh4=>?_) λh4=>?_
 ·exact eq (by have:J6 names n.toNat (names.getD n.toNat ⟨#[]⟩)=true:=hd.1 (by simpa using h4)
               unfold nm;rw[if_neg h1,if_neg h2,if_neg h3,if_pos this])
 ·refine⟨hn,_,WH hk,?_⟩
  refine sW ?_
  exact eq (by have:¬J6 names n.toNat (names.getD n.toNat ⟨#[]⟩)=true:=λh=>hd.2 h (by simpa using h4)
               unfold nm;rw[if_neg h1,if_neg h2,if_neg h3,if_neg this])
end
section
section
structure ze where
 nodes:List (ByteArray × Int)
 zu:List (Int × Int)
namespace ze
def name (P:ze) (i:Nat):ByteArray:=(P.nodes.getD i (⟨#[]⟩,0)).1
def kind (P:ze) (i:Nat):Int:=(P.nodes.getD i (⟨#[]⟩,0)).2
def src (P:ze) (i:Nat):Int:=(P.zu.getD i (0,0)).1
def dst (P:ze) (i:Nat):Int:=(P.zu.getD i (0,0)).2
def UT (P:ze) (i:Nat):Int :=
 if xd (P.name i)=false∨P.kind i<1∨7<P.kind i then 1
 else if (List.range i).any (λk=>ZQ (P.name k) (P.name i))=true then 4 else 0
def U5 (f:Nat→Int):Nat→Int
 | 0=>0
 | n+1=>if U5 f n≠0 then U5 f n else f n
theorem uS {f:Nat→Int}:∀{n:Nat},U5 f n=0↔∀i,i<n→f i=0
 | 0=>⟨λ_ i h=>zo,λ_=>rfl⟩
 | n+1=>by
  simp only[U5]
  constructor
  ·intro h
   split at h
   ·exact absurd h (by assumption)
   ·rename_i q
    have q:=Classical.not_not.1 q
    intro i hi
    by_cases e:i=n
    ·subst e;exact h
    ·exact uS.1 q i zo
  ·intro h
   have:U5 f n=0:=uS.2 λi hi=>h i zo
   rw[if_neg (by simp[this])]
   exact h n zo
theorem zdW {f:Nat→Int} {k:Nat}:∀{n:Nat},k<n→(∀i,i<k→f i=0)→f k≠0→U5 f n=f k
 | 0,h,_,_=>zo
 | n+1,h,h1,h2=>by
  simp only[U5]
  by_cases e:k=n
  ·subst e
   rw[if_neg (by simp[uS.2 h1])]
  ·rw[zdW (n:=n) zo h1 h2,if_pos h2]
def qF (P:ze):Int:=U5 P.UT P.nodes.length
def pick (p:Nat→Bool):Nat→List Int
 | 0=>[]
 | n+1=>if p n then pick p n++[(n:Int)] else pick p n
theorem Vk {p:Nat→Bool} {x:Int}:∀{n:Nat},x∈pick p n↔∃i,i<n∧p i=true∧x=(i:Int)
 | 0=>by simp[pick]
 | n+1=>by
  simp only[pick]
  split
  ·rename_i h
   rw[List.mem_append,Vk,List.mem_singleton]
   constructor
   ·rintro(⟨i,h1,h2,h3⟩|h1)
    ·exact⟨i,zo,h2,h3⟩
    ·exact⟨n,zo,h,h1⟩
   ·rintro⟨i,h1,h2,h3⟩
    by_cases e:i=n
    ·subst e;exact .inr h3
    ·exact .inl ⟨i,zo,h2,h3⟩
  ·rename_i h
   rw[Vk]
   constructor
   ·rintro⟨i,h1,h2,h3⟩;exact⟨i,zo,h2,h3⟩
   ·rintro⟨i,h1,h2,h3⟩
    refine⟨i,?_,h2,h3⟩
    by_cases e:i=n
    ·subst e;exact absurd h2 h
    ·omega
theorem zfq (p:Nat→Bool):∀n,(pick p n).length≤n
 | 0=>by simp[pick]
 | n+1=>by simp only[pick];have:=zfq p n;split<;>simp<;>omega
def v7 (P:ze) (v:Int):List Int:=pick (λi=>P.dst i==v) P.zu.length
def uw (P:ze) (v:Int):List Int:=pick (λi=>P.src i==v) P.zu.length
theorem zaz (P:ze) (v:Int):(P.v7 v).length≤P.zu.length:=zfq _ _
theorem Uo (P:ze) (v:Int):(P.uw v).length≤P.zu.length:=zfq _ _
def u4 (P:ze) (i:Nat):Bool:=decide (0≤P.src i)&&decide (P.src i<P.nodes.length)&&decide (0≤P.dst i)&&decide (P.dst i<P.nodes.length)
def vG (P:ze):Nat→Int
 | 0=>0
 | n+1=>if P.kind n=1 then P.vG n+1 else P.vG n
def Zk (P:ze):Nat→Int
 | 0=>-1
 | n+1=>if P.kind n=1 then (n:Int) else P.Zk n
theorem zgV (P:ze):∀n,0≤P.vG n∧P.vG n≤n
 | 0=>by simp[vG]
 | n+1=>by simp only[vG];have:=zgV P n;split<;>omega
theorem zdZ (P:ze):∀n,0<P.vG n→0≤P.Zk n∧P.Zk n<n
 | 0,h=>by simp[vG] at h
 | n+1,h=>by
  simp only[vG,Zk] at h ⊢
  split
  ·omega
  ·rename_i e
   rw[if_neg e] at h
   have:=zdZ P n h
   omega
def zdb (k i o:Int):Bool :=
 if k=1 then i==0&&o==1
 else if k=2∨k=3 then decide (i>0)&&o==0
 else if k=4 then decide (i>0)&&o==1
 else if k=7 then decide (o≤4)&&(decide (i>0)&&decide (o>0))
 else if k=5∨k=6 then decide (i>0)&&decide (o>0)
 else false
def ZV (P:ze) (i:Nat):Bool:=zdb (P.kind i) (P.v7 i).length (P.uw i).length
def graph (P:ze):Nat→List (List Int)
 | 0=>List.replicate P.nodes.length []
 | k+1=>(P.graph k).set (P.src k).toNat ((P.graph k).getD (P.src k).toNat []++[P.dst k])
theorem Yo (P:ze):∀k,(P.graph k).length=P.nodes.length
 | 0=>by simp[graph]
 | k+1=>by simp only[graph,List.length_set];exact Yo P k
theorem zgg {α:Type} {L:List α} {i j:Nat} {d l:α} (h:i<L.length):(L.set i l).getD j d=if j=i then l else L.getD j d:=by
 rw[List.getD_eq_getElem?_getD,List.getElem?_set]
 by_cases e:i=j
 ·subst e;simp[h]
 ·rw[if_neg e,if_neg (λq=>e q.symm),List.getD_eq_getElem?_getD]
theorem Zj {P:ze} {i:Nat}:P.u4 i=true↔0≤P.src i∧P.src i<P.nodes.length∧0≤P.dst i∧P.dst i<P.nodes.length:=by
 unfold u4
 simp only[Bool.and_eq_true,decide_eq_true_eq]
 omega
theorem zhj {P:ze} {u:Nat} {x:Int}:∀{k:Nat},(∀i,i<k→P.u4 i=true)→(x∈(P.graph k).getD u []↔∃i,i<k∧P.src i=u∧P.dst i=x)
 | 0,_=>by
  simp only[graph]
  rw[List.getD_eq_getElem?_getD,List.getElem?_replicate]
  constructor
  ·intro h;split at h<;>simp at h
  ·rintro⟨i,h,_⟩;omega
 | k+1,hf=>by
  have ih:=zhj (P:=P) (u:=u) (x:=x) (k:=k) λi hi=>hf i zo
  have hk:=Zj.1 (hf k zo)
  simp only[graph]
  rw[zgg (by rw[Yo];omega)]
  split
  ·rename_i e
   subst e
   rw[List.mem_append,ih,List.mem_singleton]
   constructor
   ·rintro(⟨i,h1,h2,h3⟩|h)
    ·exact⟨i,zo,h2,h3⟩
    ·exact⟨k,zo,zo,h.symm⟩
   ·rintro⟨i,h1,h2,h3⟩
    by_cases e:i=k
    ·subst e;exact .inr h3.symm
    ·exact .inl ⟨i,zo,h2,h3⟩
  ·rename_i e
   rw[ih]
   constructor
   ·rintro⟨i,h1,h2,h3⟩;exact⟨i,zo,h2,h3⟩
   ·rintro⟨i,h1,h2,h3⟩
    refine⟨i,?_,h2,h3⟩
    by_cases q:i=k
    ·subst q;omega
    ·omega
theorem Vt (P:ze):∀(k u:Nat),(P.graph k).getD u []=(P.graph k).getD u []∧((P.graph k).getD u []).length≤k
 | 0,u=>⟨rfl,by
  simp only[graph]
  rw[List.getD_eq_getElem?_getD,List.getElem?_replicate]
  split<;>simp⟩
 | k+1,u=>⟨rfl,by
  have h1:=(Vt P k u).2
  have h2:=(Vt P k (P.src k).toNat).2
  simp only[graph]
  by_cases q:(P.src k).toNat<(P.graph k).length
  ·rw[zgg q]
   split
   ·rw[List.length_append,List.length_singleton];omega
   ·omega
  ·rw[List.set_eq_of_length_le zo];omega⟩
def zhB (P:ze) (v:Nat):Prop:=WJ (P.graph P.zu.length) [P.Zk P.nodes.length] v
open Classical in
noncomputable def yF (P:ze):Int :=
 if 20<P.nodes.length∨30<P.zu.length then 2
 else if P.qF≠0 then P.qF
 else if ¬∀i,i<P.zu.length→P.u4 i=true then 1
 else if P.vG P.nodes.length≠1 then 1
 else if ¬∀i,i<P.nodes.length→P.ZV i=true then 1
 else if ¬∀v,v<P.nodes.length→P.zhB v then 6
 else 0
end ze
end
section
open Go.RowKit
def vU (x:ByteArray × Int):List D:=[.sc (.string x.1),.sc (.int .i64 x.2)]
def Y4 (x:Int × Int):List D:=[.sc (.int .i64 x.1),.sc (.int .i64 x.2)]
def ze.cells (P:ze):List D:=[.xl 2 (P.nodes.map vU),.xl 2 (P.zu.map Y4)]
def yS (P:ze):D:=.agg P.cells
theorem w7 (x:ByteArray × Int):zb (vU x):=by simp[vU,zb,Pure]
theorem XE (x:Int × Int):zb (Y4 x):=by simp[Y4,zb,Pure]
theorem zaE (P:ze):zb P.cells:=by simp[ze.cells,zb,Pure,w7,XE]
theorem yb (P:ze):Pure (yS P):=by simp[yS,Pure,zaE]
@[simp] theorem zyv {m:Nat} (P:ze):zl m P.cells↔True:=⟨λ_=>trivial,λ_=>zr _ (zaE P)⟩
@[simp] theorem zyj {m:Nat} (x:ByteArray × Int):zl m (vU x)↔True:=⟨λ_=>trivial,λ_=>zr _ (w7 x)⟩
@[simp] theorem zxU {m:Nat} (x:Int × Int):zl m (Y4 x)↔True:=⟨λ_=>trivial,λ_=>zr _ (XE x)⟩
theorem Xq (P:ze) {z k:Nat} (hz:z=k) (h:k<P.nodes.length):(P.nodes.map vU)[z]? = some [.sc (.string (P.name k)),.sc (.int .i64 (P.kind k))]:=by
 subst hz
 rw[List.getElem?_map,List.getElem?_eq_getElem h]
 unfold ze.name ze.kind
 rw[List.getD_eq_getElem?_getD,List.getElem?_eq_getElem h]
 rfl
theorem VE (P:ze) {z k:Nat} (hz:z=k) (h:k<P.zu.length):(P.zu.map Y4)[z]? = some [.sc (.int .i64 (P.src k)),.sc (.int .i64 (P.dst k))]:=by
 subst hz
 rw[List.getElem?_map,List.getElem?_eq_getElem h]
 unfold ze.src ze.dst
 rw[List.getD_eq_getElem?_getD,List.getElem?_eq_getElem h]
 rfl
structure ze.Fits (P:ze):Prop where
 nodes:P.nodes.length≤9223372036854775807
 zu:P.zu.length≤9223372036854775807
 name:∀x∈P.nodes,x.1.size≤9223372036854775807
theorem ze.Fits.at {P:ze} (h:P.Fits) {i:Nat} (hi:i<P.nodes.length):(P.name i).size≤9223372036854775807:=by
 unfold ze.name
 rw[List.getD_eq_getElem?_getD,List.getElem?_eq_getElem hi]
 exact h.name _ (List.getElem_mem hi)
theorem uA {l:List Int} {c:Nat} {x:Int} (h:c=l.length):List.drop 0 (List.take c (zI l))++[[D.sc (.int .i64 x)]]=zI (l++[x]):=by
 subst h
 rw[zw (by simp[zI])]
 simp[zI]
theorem W0 {H:List zf} {id v n:Nat} {q:Bool} {l:List Int} (hn:n=l.length) (h:H[id]? = some (.vec q v 1 (zI l))):Deep H (.own id v 0 n) (zB l):=by
 subst hn
 exact .own _ _ _ _ _ _ _ _ h (by rw[zw (by simp[zI])];exact z8 _)
def zC1:PC:=.seq (OP [Bi 12 .lss 11 10]) (.seq (.cond 12 .skip (.exit 0)) (.seq (.block 1 (.seq (OP [qm 13 11,Ia 14 2 9 11,LA 15 2 14,q 7 (.alloc [(.int .i64 0),(.int .i64 0)]),qm 6 13,So 2 7 15]) (.seq (OP [Fa 16 1 7,Lo 17 16,qm 18 1,Bi 19 .eql 17 18]) (.cond 19 (OP [qm 20 5,qm 21 6,Bs 22 1 1 [21],Ap 23 1 8 20 22,qm 5 23]) .skip)))) (OP [Bi 24 .add 11 (cI 1),qm 11 24])))
def c11:PC:=.seq (OP [Bx 2 0,Mv 4 cN]) (.seq (OP [Mv 5 cN]) (.seq (.seq (OP [Fa 8 1 2,Lo 9 8,Ln 10 9,Mv 11 (cI 0)]) (.block 0 (.loop zC1))) (.seq (OP [qm 25 5,qm 4 25]) .ret)))
theorem zzE:zv Tryz.prog 11 26 [.tmp 4] c11:=fK Tryz.func11
theorem zk6 (P:ze) (hP:P.Fits) (hf:P.zu.length≤1000) (v:Int):zn Tryz.prog 11 [yS P,.sc (.int .i64 v)] (zB (P.v7 v)):=by
 have b:=hP.zu
 refine za zzE zs (by simp[zb,Pure,yb]) ?_ (zj _)
 refine sR ?_
 rw[List.length_map]
 refine zH (xw 5 1 zs rfl) ?_
 refine zP [1,9,10] (λ((k,c,l):Nat × Nat × List Int)=>[(5,.own 1 c 0 c),(11,.sc (.int .i64 k))]) (λ(k,c,l)=>[(1,.vec true c 1 (zI l))]) (λ(k,c,l)=>k≤P.zu.length∧c=l.length∧c≤k∧l=ze.pick (λi=>P.dst i==v) k) (λ(k,c,l)=>P.zu.length-k) (0,0,[]) ?_
 refine sW ?_
 refine⟨⟨zo,rfl,zo,rfl⟩,by exact sK,rfl,?_⟩
 rintro⟨k,c,l⟩ ⟨hk,hc,hck,hl⟩
 refine sW ?_
 refine sR ?_
 refine sS (λh=>?_) λh=>?_
 ·have hk':k<P.zu.length:=sO
  refine sL (VE P (k:=k) zo hk') ?_
  refine sS (λh2=>?_) λh2=>?_
  ·refine sJ ?_
   refine sI ?_
   refine⟨(k+1,c+1,l++[(k:Int)]),⟨zo,by simp[hc],zo,by rw[hl];simp[ze.pick,h2]⟩,zd,?_⟩
   refine zm 2 zs rfl sQ (sU ?_)
   exact zp (uA hc)
  ·refine sI ?_
   refine⟨(k+1,c,l),⟨zo,hc,zo,by rw[hl];simp[ze.pick,h2]⟩,zd,?_⟩
   exact zm 2 zs rfl sQ sQ
 ·have hk':k=P.zu.length:=by have:¬k<P.zu.length:=sO
                             omega
  subst hk'
  subst hl
  exact W0 hc rfl
def zCc:PC:=.seq (OP [Bi 12 .lss 11 10]) (.seq (.cond 12 .skip (.exit 0)) (.seq (.block 1 (.seq (OP [qm 13 11,Ia 14 2 9 11,LA 15 2 14,q 7 (.alloc [(.int .i64 0),(.int .i64 0)]),qm 6 13,So 2 7 15]) (.seq (OP [Fa 16 0 7,Lo 17 16,qm 18 1,Bi 19 .eql 17 18]) (.cond 19 (OP [qm 20 5,qm 21 6,Bs 22 1 1 [21],Ap 23 1 8 20 22,qm 5 23]) .skip)))) (OP [Bi 24 .add 11 (cI 1),qm 11 24])))
def c12:PC:=.seq (OP [Bx 2 0,Mv 4 cN]) (.seq (OP [Mv 5 cN]) (.seq (.seq (OP [Fa 8 1 2,Lo 9 8,Ln 10 9,Mv 11 (cI 0)]) (.block 0 (.loop zCc))) (.seq (OP [qm 25 5,qm 4 25]) .ret)))
theorem zBg:zv Tryz.prog 12 26 [.tmp 4] c12:=fK Tryz.func12
theorem zgv (P:ze) (hP:P.Fits) (hf:P.zu.length≤1000) (v:Int):zn Tryz.prog 12 [yS P,.sc (.int .i64 v)] (zB (P.uw v)):=by
 have b:=hP.zu
 refine za zBg zs (by simp[zb,Pure,yb]) ?_ (zj _)
 refine sR ?_
 rw[List.length_map]
 refine zH (xw 5 1 zs rfl) ?_
 refine zP [1,9,10] (λ((k,c,l):Nat × Nat × List Int)=>[(5,.own 1 c 0 c),(11,.sc (.int .i64 k))]) (λ(k,c,l)=>[(1,.vec true c 1 (zI l))]) (λ(k,c,l)=>k≤P.zu.length∧c=l.length∧c≤k∧l=ze.pick (λi=>P.src i==v) k) (λ(k,c,l)=>P.zu.length-k) (0,0,[]) ?_
 refine sW ?_
 refine⟨⟨zo,rfl,zo,rfl⟩,by exact sK,rfl,?_⟩
 rintro⟨k,c,l⟩ ⟨hk,hc,hck,hl⟩
 refine sW ?_
 refine sR ?_
 refine sS (λh=>?_) λh=>?_
 ·have hk':k<P.zu.length:=sO
  refine sL (VE P (k:=k) zo hk') ?_
  refine sS (λh2=>?_) λh2=>?_
  ·refine sJ ?_
   refine sI ?_
   refine⟨(k+1,c+1,l++[(k:Int)]),⟨zo,by simp[hc],zo,by rw[hl];simp[ze.pick,h2]⟩,zd,?_⟩
   refine zm 2 zs rfl sQ (sU ?_)
   exact zp (uA hc)
  ·refine sI ?_
   refine⟨(k+1,c,l),⟨zo,hc,zo,by rw[hl];simp[ze.pick,h2]⟩,zd,?_⟩
   exact zm 2 zs rfl sQ sQ
 ·have hk':k=P.zu.length:=by have:¬k<P.zu.length:=sO
                             omega
  subst hk'
  subst hl
  exact W0 hc rfl
def c10:PC:=.seq (OP [Mv 6 cF]) (.seq (.seq (OP [qm 7 0]) (.block 0 (.seq (.block 5 (.seq (.block 4 (.seq (.block 3 (.seq (.block 2 (.seq (.block 1 (.seq (.seq (.seq (OP [Bi 9 .eql 7 (cI 1),qm 8 9]) (.cond 8 (.exit 1) .skip)) (.seq (.seq (.seq (OP [Bi 11 .eql 7 (cI 2),qm 10 11]) (.cond 10 .skip (OP [Bi 12 .eql 7 (cI 3),qm 10 12]))) (.cond 10 (.exit 2) .skip)) (.seq (.seq (OP [Bi 14 .eql 7 (cI 4),qm 13 14]) (.cond 13 (.exit 3) .skip)) (.seq (.seq (OP [Bi 16 .eql 7 (cI 7),qm 15 16]) (.cond 15 (.exit 4) .skip)) (.seq (.seq (OP [Bi 18 .eql 7 (cI 5),qm 17 18]) (.cond 17 .skip (OP [Bi 19 .eql 7 (cI 6),qm 17 19]))) (.cond 17 (.exit 5) .skip)))))) (.exit 0))) (.seq (.seq (OP [qm 20 1,Bi 21 .eql 20 (cI 0),qm 22 21,GT 23 22 (.move 2),GT 24 22 (.bin .eql 23 (cI 1)),Pk 25 22 24 cF,qm 6 25]) .ret) (.exit 0)))) (.seq (.seq (OP [qm 26 1,Bi 27 .gtr 26 (cI 0),qm 28 27,GT 29 28 (.move 2),GT 30 28 (.bin .eql 29 (cI 0)),Pk 31 28 30 cF,qm 6 31]) .ret) (.exit 0)))) (.seq (.seq (OP [qm 32 1,Bi 33 .gtr 32 (cI 0),qm 34 33,GT 35 34 (.move 2),GT 36 34 (.bin .eql 35 (cI 1)),Pk 37 34 36 cF,qm 6 37]) .ret) (.exit 0)))) (.seq (OP [qm 38 2,Bi 39 .gtr 38 (cI 4)]) (.cond 39 (.seq (OP [Mv 6 cF]) .ret) .skip)))) (.seq (.seq (OP [qm 40 1,Bi 41 .gtr 40 (cI 0),qm 42 41,GT 43 42 (.move 2),GT 44 42 (.bin .gtr 43 (cI 0)),Pk 45 42 44 cF,qm 6 45]) .ret) (.exit 0))))) (.seq (OP [Mv 6 cF]) .ret))
theorem zzj:zv Tryz.prog 10 46 [.tmp 6] c10:=fK Tryz.func10
theorem zkV (k i o:Int):zn Tryz.prog 10 [.sc (.int .i64 k),.sc (.int .i64 i),.sc (.int .i64 o)] (.sc (.bool (ze.zdb k i o))):=by
 refine za zzj zs (by simp[zb,Pure]) ?_ (by simp[Pure])
 refine sR ?_
 repeat' (first|refine sS (λh=>?_) λh=>?_|exact zR (by unfold ze.zdb;simp_all;try omega))
def zDG:PC:=.seq (OP [Bi 9 .lss 8 7]) (.seq (.cond 9 .skip (.exit 0)) (.seq (.block 1 (.seq (OP [qm 10 8,qm 5 10]) (.seq (OP [qm 11 1,qm 12 0,qm 13 5,Ia 14 2 12 13,LA 15 2 14,q 16 (.y0 11 [15])]) (.cond 16 (.seq (OP [qm 17 5,qm 4 17]) .ret) .skip)))) (OP [Bi 18 .add 8 (cI 1),qm 8 18])))
def c51:PC:=.seq (OP [Mv 4 (cI 0)]) (.seq (.seq (OP [qm 6 0,Ln 7 6,Mv 8 (cI 0)]) (.block 0 (.loop zDG))) (.seq (OP [Mv 4 (cI (-1))]) .ret))
theorem zAs:zv Tryz.prog 51 19 [.tmp 4] c51:=fK Tryz.func51
def c24:PC:=.seq (OP [Mv 4 cF]) (.seq (OP [qm 5 0,qm 6 1,Ca 7 51 [5,6],Bi 8 .geq 7 (cI 0),qm 4 8]) .ret)
theorem zzG:zv Tryz.prog 24 9 [.tmp 4] c24:=fK Tryz.func24
theorem zcE (l:List (ByteArray × Int)) (hl:l.length≤9223372036854775807) (p:ByteArray × Int→Bool) (cl:FuncId) (cap:List D) (hp:zb cap) (hc:∀a∈l,zn Tryz.prog cl (.agg (vU a)::cap) (.sc (.bool (p a)))) :
  zn Tryz.prog 51 [.xl 2 (l.map vU),.fn (.func cl) [] cap] (.sc (.int .i64 (wQ p l))):=by
 refine za zAs zs (by simp[zb,Pure,hp,w7]) ?_ (by simp[Pure])
 refine sR ?_
 rw[List.length_map]
 have fin:∀{z:Int},z=wQ p l→Deep [] (.sc (.int .i64 z)) (.sc (.int .i64 (wQ p l))):=λh=>h▸.refl _
 refine zP [0,1,7] (λk:Nat=>[(8,.sc (.int .i64 k))]) (λ_=>[]) (λk=>k≤l.length∧∀j (hj:j<k) (hl:j<l.length),p l[j]=false) (λk=>l.length-k) 0 ?_
 refine sW ?_
 refine⟨⟨zo,λj hj=>zo⟩,by exact sK,rfl,?_⟩
 rintro k ⟨hk,hno⟩
 refine sW ?_
 refine sR ?_
 refine sS (λh=>?_) λh=>?_
 ·have hk':k<l.length:=sO
  refine⟨zo,vU l[k],by rw[List.getElem?_map,Int.toNat_natCast,List.getElem?_eq_getElem hk'];rfl,?_⟩
  refine sW ?_
  refine sC (hc _ (List.getElem_mem hk')) ?_
  refine sS (λh2=>?_) λh2=>?_
  ·exact fin (Vg hk' h2 λj hj=>hno j hj zo).symm
  ·refine sI ?_
   refine⟨k+1,⟨zo,λj hj hl=>?_⟩,zd,zD (by exact sK) rfl⟩
   by_cases e:j=k
   ·subst e;exact h2
   ·exact hno j zo hl
 ·have hk':¬k<l.length:=sO
  exact fin (Xw λj hj=>hno j zo hj).symm
theorem zfh (l:List (ByteArray × Int)) (hl:l.length≤9223372036854775807) (p:ByteArray × Int→Bool) (cl:FuncId) (cap:List D) (hp:zb cap) (hc:∀a∈l,zn Tryz.prog cl (.agg (vU a)::cap) (.sc (.bool (p a)))) :
  zn Tryz.prog 24 [.xl 2 (l.map vU),.fn (.func cl) [] cap] (.sc (.bool (l.any p))):=by
 refine za zzG zs (by simp[zb,Pure,hp,w7]) ?_ (by simp[Pure])
 refine sR ?_
 refine sC (zcE l hl p cl cap hp hc) ?_
 rw[uR]
 exact .refl _
theorem zk5 (P:ze) (f:ByteArray→Bool):∀i,i≤P.nodes.length→((P.nodes.take i).any λm=>f m.1)=(List.range i).any λk=>f (P.name k)
 | 0,_=>rfl
 | i+1,h=>by
  rw[List.take_succ_eq_append_getElem zo,List.any_append,zk5 P f i zo,List.range_succ,List.any_append]
  congr 1
  simp only[List.any_cons,List.any_nil,Bool.or_false]
  unfold ze.name
  rw[List.getD_eq_getElem?_getD,List.getElem?_eq_getElem zo]
  rfl
def c25:PC:=.seq (OP [Bx 2 0,Mv 3 cF]) (.seq (OP [Fa 4 0 2,Lo 5 4,Fa 6 0 1,Lo 7 6,Bi 8 .eql 5 7,qm 3 8]) .ret)
theorem zBx:zv Tryz.prog 25 9 [.tmp 3] c25:=fK Tryz.func25
def c9_1:PC:=.seq (OP [Bi 9 .lss 8 7]) (.seq (.cond 9 .skip (.exit 0)) (.seq (.block 1 (.seq (OP [qm 10 8,Ia 11 2 6 8,LA 12 2 11,q 4 (.alloc [(.string ⟨#[]⟩),(.int .i64 0)]),qm 3 10,So 2 4 12]) (.seq (.seq (OP [Fa 13 0 4,Lo 14 13,Ca 15 23 [14],Nt 16 15,qm 17 16,GF 18 17 (.zy 1 4),GF 19 17 (.zg 18),GF 20 17 (.bin .lss 19 (cI 1)),Pk 21 17 cT 20,qm 22 21,GF 23 22 (.zy 1 4),GF 24 22 (.zg 23),GF 25 22 (.bin .gtr 24 (cI 7)),Pk 26 22 cT 25]) (.cond 26 (.seq (OP [Mv 2 (cI 1)]) .ret) .skip)) (.seq (OP [Fa 27 0 1,Lo 28 27,qm 29 3,q 30 (.slc 2 28 none (some 29) none),q 31 (.uG (.func 25) [] [4]),Ca 32 24 [30,31]]) (.cond 32 (.seq (OP [Mv 2 (cI 4)]) .ret) .skip))))) (OP [Bi 33 .add 8 (cI 1),qm 8 33])))
def c9:PC:=.seq (OP [Bx 1 0,Mv 2 (cI 0)]) (.seq (.seq (OP [Fa 5 0 1,Lo 6 5,Ln 7 6,Mv 8 (cI 0)]) (.block 0 (.loop c9_1))) (.seq (OP [Mv 2 (cI 0)]) .ret))
theorem zCw:zv Tryz.prog 9 34 [.tmp 2] c9:=fK Tryz.func9
theorem zjJ (m n:ByteArray × Int):zn Tryz.prog 25 [.agg (vU m),.yO (vU n)] (.sc (.bool (ZQ m.1 n.1))):=by
 refine za zBx zs (by simp[zb,Pure,w7]) ?_ (by simp[Pure])
 refine sR ?_
 exact .refl _
theorem zlC (P:ze) (hP:P.Fits):zn Tryz.prog 9 [yS P] (.sc (.int .i64 P.qF)):=by
 have b:=hP.nodes
 refine za zCw zs (by simp[zb,Pure,yb]) ?_ (by simp[Pure])
 refine sR ?_
 rw[List.length_map]
 have hit:∀{H:List zf} {z:Int} (k:Nat),k<P.nodes.length→(∀j,j<k→P.UT j=0)→P.UT k=z→z≠0→Deep H (.sc (.int .i64 z)) (.sc (.int .i64 P.qF)):=λk h1 h2 h3 h4=>by
  unfold ze.qF
  rw[ze.zdW h1 h2 (by rw[h3];exact h4),h3]
  exact .refl _
 refine zP [1,6,7] (λk:Nat=>[(8,.sc (.int .i64 k))]) (λ_=>[]) (λk=>k≤P.nodes.length∧∀j,j<k→P.UT j=0) (λk=>P.nodes.length-k) 0 ?_
 refine sW ?_
 refine⟨⟨zo,λj hj=>zo⟩,by exact sK,rfl,?_⟩
 rintro k ⟨hk,hall⟩
 refine sW ?_
 refine sR ?_
 refine sS (λh=>?_) λh=>?_
 ·have hk':k<P.nodes.length:=sO
  refine sL (Xq P (k:=k) zo hk') ?_
  refine sC (Yg (P.name k) (hP.at hk')) ?_
  refine sS (λh1=>?_) λh1=>?_
  ·exact hit k hk' hall (by unfold ze.UT;rw[if_pos (.inl (by simpa using h1))]) zc
  have h1:xd (P.name k)=true:=by simpa using h1
  refine sS (λh2=>?_) λh2=>?_
  ·exact hit k hk' hall (by unfold ze.UT;rw[if_pos (.inr (.inl (sO)))]) zc
  refine sS (λh3=>?_) λh3=>?_
  ·exact hit k hk' hall (by unfold ze.UT;rw[if_pos (.inr (.inr (sO)))]) zc
  have c1:¬(xd (P.name k)=false∨P.kind k<1∨7<P.kind k):=by
   rintro(q|q|q)
   ·rw[h1] at q;cases q
   ·exact sO
   ·exact sO
  refine⟨zo,zo,by rw[List.length_map];omega,?_⟩
  refine sW ?_
  rw[List.drop_zero,Int.toNat_natCast,←List.map_take]
  refine sN (zfh (P.nodes.take k) (by rw[List.length_take];omega) (λm=>ZQ m.1 (P.name k)) 25 [.yO (vU (P.name k,P.kind k))] (by simp[zb,Pure,w7]) λa _=>zjJ a _) ?_
  rw[zk5 P (λs=>ZQ s (P.name k)) k zo]
  refine sS (λh4=>?_) λh4=>?_
  ·exact hit k hk' hall (by unfold ze.UT;rw[if_neg c1,if_pos h4]) zc
  ·refine sI ?_
   refine⟨k+1,⟨zo,λj hj=>?_⟩,zd,?_⟩
   ·by_cases e:j=k
    ·subst e;unfold ze.UT;rw[if_neg c1,if_neg (by rw[h4];simp)]
    ·exact hall j zo
   ·exact zm 1 zs rfl sQ sQ
 ·have hk':k=P.nodes.length:=by have:¬k<P.nodes.length:=sO
                                omega
  subst hk'
  have e:P.qF=0:=ze.uS.2 hall
  rw[e]
  exact .refl _
end
section
open Go.RowKit
def zgk (n:Int):List D:=[.sc (.int .i64 n)]
theorem zjt {m:Nat} (n:Int):zl m (zgk n):=by simp[zgk,zl,zt]
theorem zb6 {f:Nat→Nat} {c:Nat}:∀n,(∀j,j<n→f j≤c)→vp f n≤n*c
 | 0,_=>by simp[vp]
 | n+1,h=>by
  simp only[vp]
  have h1:=zb6 n λj hj=>h j zo
  have h2:=h n zo
  rw[Nat.add_mul]
  omega
theorem zwc {α:Type} {zK:Nat} {c:α→List D} {L:List (List α)} {T:List zf} {a b:zf} {K:List zf→Prop} {i:Nat} {o:zf} (l:List α) (h:i<L.length) (ho:o=.vec true l.length zK (l.map c)) (k:K (a::b::(xc zK c (L.set i l)++T))):XY (a::b::(xc zK c L++T)) (i+2) o K:=by
 subst ho
 rw[uE]
 refine⟨by simp;omega,?_⟩
 rw[List.set_cons_succ,List.set_cons_succ,List.set_append_left _ _ (by simpa using h),zeF]
 exact k
theorem zly (P:ze) (h1:P.nodes.length≤20) (h2:P.zu.length≤30) (hf:∀i,i<P.zu.length→P.u4 i=true) :
  QW (P.graph P.zu.length)=0∧uZ (P.graph P.zu.length)∧zcP (P.graph P.zu.length) (λ_=>false)≤600:=by
 have hl:=P.Yo P.zu.length
 have row:∀l∈P.graph P.zu.length,∃u,l=(P.graph P.zu.length).getD u []:=λl hl=>by
  obtain⟨u,hu,rfl⟩:=List.mem_iff_getElem.1 hl
  exact⟨u,by rw[List.getD_eq_getElem?_getD,List.getElem?_eq_getElem hu];rfl⟩
 refine⟨Yi.2 ⟨zo,λl h=>?_⟩,⟨zo,λl h=>?_⟩,?_⟩
 ·obtain⟨u,rfl⟩:=row l h
  refine wA λx hx=>?_
  obtain⟨i,q1,_,q3⟩:=(ze.zhj hf).1 hx
  have:=ze.Zj.1 (hf i q1)
  rw[hl]
  omega
 ·obtain⟨u,rfl⟩:=row l h
  have:=(P.Vt P.zu.length u).2
  omega
 ·have:=zb6 (f:=λv=>if false=true then 0 else ((P.graph P.zu.length).getD v []).length) (c:=30) (P.graph P.zu.length).length λj _=>by
   have:=(P.Vt P.zu.length j).2
   simp only[Bool.false_eq_true,if_false]
   omega
  unfold zcP
  refine Nat.le_trans this ?_
  rw[hl]
  omega
theorem zlm {H:List zf} {id v n:Nat} {q:Bool} {L:List (List Int)} (h:H[id]? = some (.vec q v 1 (L.map λl=>[zB l]))) (hn:n=L.length):Deep H (.own id v 0 n) (yd L):=by
 subst hn
 exact .own _ _ _ _ _ _ _ _ h (by rw[zw zs];exact z8 _)
def c5_1:PC:=.seq (OP [Bi 38 .lss 37 36]) (.seq (.cond 38 .skip (.exit 0)) (.seq (.block 1 (.seq (OP [Ia 39 2 35 37,LA 40 2 39,q 6 (.alloc [(.int .i64 0),(.int .i64 0)]),So 2 6 40]) (.seq (.seq (OP [Fa 41 0 6,Lo 42 41,Bi 43 .lss 42 (cI 0),qm 44 43,GF 45 44 (.zy 0 6),GF 46 44 (.zg 45),GF 47 44 (.move 4),GF 48 44 (.len 47),GF 49 44 (.bin .geq 46 48),Pk 50 44 cT 49,qm 51 50,GF 52 51 (.zy 1 6),GF 53 51 (.zg 52),GF 54 51 (.bin .lss 53 (cI 0)),Pk 55 51 cT 54,qm 56 55,GF 57 56 (.zy 1 6),GF 58 56 (.zg 57),GF 59 56 (.move 4),GF 60 56 (.len 59),GF 61 56 (.bin .geq 58 60),Pk 62 56 cT 61]) (.cond 62 (.seq (OP [Mv 2 (cI 1)]) .ret) .skip)) (.ops [qm 63 4,Fa 64 0 6,qd 65 (.zg 64) 2,qm 66 4,Fa 67 0 6,qd 68 (.zg 67) 16,qd 69 (.zM 1 66 68) 56,qd 70 (.zg 69) 120,Fa 71 1 6,qd 72 (.zg 71) 256,qd 73 (.wz 1 1 [72]) 768,qd 74 (.append 1 8 70 73) 2040,qd 75 (.zM 1 63 65) 4095,qk (.store 1 75 74) 8191] true)))) (OP [Bi 76 .add 37 (cI 1),qm 37 76])))
def c5_2:PC:=.seq (OP [Bi 81 .lss 80 79]) (.seq (.cond 81 .skip (.exit 2)) (.seq (.block 3 (.seq (OP [qm 82 80,Ia 83 2 78 80,LA 84 2 83,q 10 (.alloc [(.string ⟨#[]⟩),(.int .i64 0)]),qm 9 82,So 2 10 84]) (.seq (OP [Fa 85 1 10,Lo 86 85,Bi 87 .eql 86 (cI 1)]) (.cond 87 (.seq (OP [qm 88 9,qm 7 88]) (OP [qm 89 8,Bi 90 .add 89 (cI 1),qm 8 90])) .skip)))) (OP [Bi 91 .add 80 (cI 1),qm 80 91])))
def c5_3:PC:=.seq (OP [Bi 98 .lss 97 96]) (.seq (.cond 98 .skip (.exit 4)) (.seq (.block 5 (.seq (OP [qm 99 97,Ia 100 2 95 97,LA 101 2 100,q 12 (.alloc [(.string ⟨#[]⟩),(.int .i64 0)]),qm 11 99,So 2 12 101]) (.seq (.ops [Fa 102 1 12,qd 103 (.zg 102) 1,LA 104 2 1,qm 105 11,qd 106 (.call 11 [104,105]) 12,qd 107 (.len 106) 28,LA 108 2 1,qm 109 11,qd 110 (.call 12 [108,109]) 220,qd 111 (.len 110) 476,qd 112 (.call 10 [103,107,111]) 1023,qd 113 (.un .not 112) 2047] true) (.cond 113 (.seq (OP [Mv 2 (cI 1)]) .ret) .skip)))) (OP [Bi 114 .add 97 (cI 1),qm 97 114])))
def c5:PC:=.seq (OP [Bx 1 0,Mv 2 (cI 0)]) (.seq (.seq (OP [Fa 15 0 1,Lo 16 15,Ln 17 16,Bi 18 .gtr 17 (cI 20),qm 19 18,GF 20 19 (.zy 1 1),GF 21 19 (.zg 20),GF 22 19 (.len 21),GF 23 19 (.bin .gtr 22 (cI 30)),Pk 24 19 cT 23]) (.cond 24 (.seq (OP [Mv 2 (cI 2)]) .ret) .skip)) (.seq (.seq (OP [LA 25 2 1,Ca 26 9 [25],qm 3 26]) (.seq (OP [qm 27 3,Bi 28 .neq 27 (cI 0)]) (.cond 28 (.seq (OP [qm 29 3,qm 2 29]) .ret) .skip))) (.seq (OP [Fa 30 0 1,Lo 31 30,Ln 32 31,q 33 (.wP 1 24 [(.slice none 0 0)] 32 32),qm 4 33]) (.seq (.seq (OP [Fa 34 1 1,Lo 35 34,Ln 36 35,Mv 37 (cI 0)]) (.stop (.block 0 (.loop c5_1)))) (.seq (OP [Mv 7 (cI (-1)),Mv 8 (cI 0)]) (.seq (.seq (OP [Fa 77 0 1,Lo 78 77,Ln 79 78,Mv 80 (cI 0)]) (.block 2 (.loop c5_2))) (.seq (.seq (OP [qm 92 8,Bi 93 .neq 92 (cI 1)]) (.cond 93 (.seq (OP [Mv 2 (cI 1)]) .ret) .skip)) (.seq (.seq (OP [Fa 94 0 1,Lo 95 94,Ln 96 95,Mv 97 (cI 0)]) (.block 4 (.loop c5_3))) (.seq (.seq (OP [qm 116 4,qm 117 7,Bs 118 1 1 [117],Ca 119 13 [116,118],qm 115 119,Xt 120 0 115,Xt 121 1 115,qm 13 120,qm 14 121]) (.seq (OP [qm 122 13,Ca 123 14 [122,cF]]) (.cond 123 (.seq (OP [Mv 2 (cI 6)]) .ret) .skip))) (.seq (OP [Mv 2 (cI 0)]) .ret))))))))))
theorem zCY:zv Tryz.prog 5 124 [.tmp 2] c5:=fK Tryz.func5
theorem VQ (P:ze) (hP:P.Fits):zn Tryz.prog 5 [yS P] (.sc (.int .i64 P.yF)):=by
 have b1:=hP.nodes
 have b2:=hP.zu
 refine za zCY zs (by simp[zb,Pure,yb]) ?_ (by simp[Pure])
 refine sR ?_
 rw[List.length_map]
 have fin:∀{H:List zf} {z:Int},z=P.yF→Deep H (.sc (.int .i64 z)) (.sc (.int .i64 P.yF)):=λh=>h▸.refl _
 refine sS (λh1=>?_) λh1=>?_
 ·exact fin (by unfold ze.yF;rw[if_pos (.inl (sO))])
 rw[List.length_map]
 refine sS (λh2=>?_) λh2=>?_
 ·exact fin (by unfold ze.yF;rw[if_pos (.inr (sO))])
 have c1:¬(20<P.nodes.length∨30<P.zu.length):=sO
 refine sC (zlC P hP) ?_
 refine sS (λh3=>?_) λh3=>?_
 ·have h3:P.qF≠0:=sO
  exact fin (by unfold ze.yF;rw[if_neg c1,if_pos h3])
 have c2:¬P.qF≠0:=sO
 rw[List.length_map]
 refine⟨zo,zo,zo,?_⟩
 rw[Int.toNat_natCast]
 refine sW ?_
 rw[List.length_map]
 refine zde (λ_:Unit=>[(1,.loc 0 0),(4,.own 1 0 0 P.nodes.length)]) (λ_=>[.row true P.cells,.vec true 0 1 ((P.graph P.zu.length).map λl=>[zB l])]) (λ_=>∀i,i<P.zu.length→P.u4 i=true) ?_ ?_
 ·refine sR ?_
  refine zH (zaB 1 1 P.nodes.length 0 zs rfl) ?_
  refine ye [1,4,35,36] (λk:Nat=>[(37,.sc (.int .i64 k))]) (λk=>.row true P.cells::.vec true 0 1 (vB 2 (P.graph k))::xc 1 zgk (P.graph k)) (λk=>k≤P.zu.length∧∀i,i<k→P.u4 i=true) (λk=>P.zu.length-k) 0 ?_
  refine sW ?_
  refine⟨⟨zo,λi hi=>zo⟩,by exact sK,?_,?_⟩
  ·show _::_::_=_::_::_
   rw[Wn 1 _ zgk]
   exact congrArg (λx=>zf.row true P.cells::zf.vec true 0 1 x::_) (Wy (α:=Int) 2 _)
  rintro k ⟨hk,hall⟩
  have hgl:=P.Yo k
  refine sW ?_
  refine sR ?_
  refine sS (λh=>?_) λh=>?_
  ·have hk':k<P.zu.length:=sO
   refine sL (VE P (k:=k) zo hk') ?_
   refine zba ?_
   refine sW ?_
   (repeat (first|(refine xS 0 rfl ?_;((conv=>whnf);repeat(refine⟨rfl,?_⟩;conv=>whnf)))|(refine xU 0 rfl ?_;((conv=>whnf);repeat(refine⟨rfl,?_⟩;conv=>whnf)))|(refine xS 1 rfl ?_;((conv=>whnf);repeat(refine⟨rfl,?_⟩;conv=>whnf)))|(refine xU 1 rfl ?_;((conv=>whnf);repeat(refine⟨rfl,?_⟩;conv=>whnf)))))
   have bad:∀{H:List zf},P.u4 k=false→Deep H (.sc (.int .i64 1)) (.sc (.int .i64 P.yF)):=λh=>fin (by
    unfold ze.yF
    rw[if_neg c1,if_neg c2,if_pos]
    intro q
    rw[q k hk'] at h;cases h)
   have nok:¬(0≤P.src k∧P.src k<P.nodes.length∧0≤P.dst k∧P.dst k<P.nodes.length)→P.u4 k=false:=λh=>by rw[←Bool.not_eq_true,ze.Zj];exact h
   refine sS (λh4=>?_) λh4=>?_
   ·exact bad (nok (sO))
   (repeat (first|(refine xS 0 rfl ?_;((conv=>whnf);repeat(refine⟨rfl,?_⟩;conv=>whnf)))|(refine xU 0 rfl ?_;((conv=>whnf);repeat(refine⟨rfl,?_⟩;conv=>whnf)))|(refine xS 1 rfl ?_;((conv=>whnf);repeat(refine⟨rfl,?_⟩;conv=>whnf)))|(refine xU 1 rfl ?_;((conv=>whnf);repeat(refine⟨rfl,?_⟩;conv=>whnf)))))
   refine sS (λh5=>?_) λh5=>?_
   ·exact bad (nok (sO))
   (repeat (first|(refine xS 0 rfl ?_;((conv=>whnf);repeat(refine⟨rfl,?_⟩;conv=>whnf)))|(refine xU 0 rfl ?_;((conv=>whnf);repeat(refine⟨rfl,?_⟩;conv=>whnf)))|(refine xS 1 rfl ?_;((conv=>whnf);repeat(refine⟨rfl,?_⟩;conv=>whnf)))|(refine xU 1 rfl ?_;((conv=>whnf);repeat(refine⟨rfl,?_⟩;conv=>whnf)))))
   refine sS (λh6=>?_) λh6=>?_
   ·exact bad (nok (sO))
   (repeat (first|(refine xS 0 rfl ?_;((conv=>whnf);repeat(refine⟨rfl,?_⟩;conv=>whnf)))|(refine xU 0 rfl ?_;((conv=>whnf);repeat(refine⟨rfl,?_⟩;conv=>whnf)))|(refine xS 1 rfl ?_;((conv=>whnf);repeat(refine⟨rfl,?_⟩;conv=>whnf)))|(refine xU 1 rfl ?_;((conv=>whnf);repeat(refine⟨rfl,?_⟩;conv=>whnf)))))
   refine sS (λh7=>?_) λh7=>?_
   ·exact bad (nok (sO))
   have hok:P.u4 k=true:=ze.Zj.2 (sO)
   have ho:=ze.Zj.1 hok
   have hrow:=(P.Vt k (P.src k).toNat).2
   (repeat (first|(refine xS 0 rfl ?_;((conv=>whnf);repeat(refine⟨rfl,?_⟩;conv=>whnf)))|(refine xU 0 rfl ?_;((conv=>whnf);repeat(refine⟨rfl,?_⟩;conv=>whnf)))|(refine xS 1 rfl ?_;((conv=>whnf);repeat(refine⟨rfl,?_⟩;conv=>whnf)))|(refine xU 1 rfl ?_;((conv=>whnf);repeat(refine⟨rfl,?_⟩;conv=>whnf)))))
   refine sB ?_
   refine⟨_,wj (i:=(P.src k).toNat) zo zo,?_⟩
   refine sW ?_
   (repeat (first|(refine xS 0 rfl ?_;((conv=>whnf);repeat(refine⟨rfl,?_⟩;conv=>whnf)))|(refine xU 0 rfl ?_;((conv=>whnf);repeat(refine⟨rfl,?_⟩;conv=>whnf)))|(refine xS 1 rfl ?_;((conv=>whnf);repeat(refine⟨rfl,?_⟩;conv=>whnf)))|(refine xU 1 rfl ?_;((conv=>whnf);repeat(refine⟨rfl,?_⟩;conv=>whnf)))))
   refine zsh ?_
   refine sW ?_
   (repeat (first|(refine xS 0 rfl ?_;((conv=>whnf);repeat(refine⟨rfl,?_⟩;conv=>whnf)))|(refine xU 0 rfl ?_;((conv=>whnf);repeat(refine⟨rfl,?_⟩;conv=>whnf)))|(refine xS 1 rfl ?_;((conv=>whnf);repeat(refine⟨rfl,?_⟩;conv=>whnf)))|(refine xU 1 rfl ?_;((conv=>whnf);repeat(refine⟨rfl,?_⟩;conv=>whnf)))))
   refine zaX zo ?_
   refine sW ?_
   refine⟨by unfold xg;simp only[List.length_drop,List.length_take,List.length_cons,List.length_nil];omega,?_⟩
   refine zwc (((P.graph k).getD (P.src k).toNat [])++[P.dst k]) zo ?_ ?_
   ·exact zd2
   refine sW ?_
   refine sB ?_
   refine⟨_,wj (i:=(P.src k).toNat) zo zo,?_⟩
   refine sW ?_
   have hne:(P.src k).toNat≠(P.graph k).length:=zo
   (refine zAG (by dsimp only[q,qm,qw,qd,qn,qk];simp[zgQ,Qy,UM,zmW,zpf,zoM,zs8,Jb,zzh,hne]) ?_;((conv=>whnf);repeat(refine⟨rfl,?_⟩;conv=>whnf)))
   refine sI ?_
   refine⟨k+1,⟨zo,λi hi=>?_⟩,zd,?_⟩
   ·by_cases e:i=k
    ·subst e;exact hok
    ·exact hall i zo
   refine zm (P.nodes.length+2) zs (by simp[hgl,ze.Yo]) (by exact sQ) ⟨⟨rfl,.refl _,zs⟩,⟨rfl,rfl,rfl,zp ?_,uY (by rw[ze.Yo];omega)⟩,Vp zjt⟩
   exact Wd zo zo _ zs
  have hkn:k=P.zu.length:=by have:¬k<P.zu.length:=sO
                             omega
  subst hkn
  refine⟨(),hall,zm 2 zs rfl (by exact sQ) ⟨⟨rfl,.refl _,zs⟩,⟨rfl,rfl,rfl,VB (c:=zgk) (λi hi=>by simp[X8]) (λi hi=>?_),by simp[zl]⟩,J3 _⟩⟩
  show(xc 1 zgk (P.graph P.zu.length))[i]? = _
  exact XG hi
 rintro _ hall
 refine sW ?_
 rw[List.length_map]
 have c3:¬¬∀i,i<P.zu.length→P.u4 i=true:=λq=>q hall
 refine zP [1,4,78,79] (λ((k,s,m):Nat × Int × Int)=>[(7,.sc (.int .i64 s)),(8,.sc (.int .i64 m)),(80,.sc (.int .i64 k))]) (λ_=>[]) (λ(k,s,m)=>k≤P.nodes.length∧s=P.Zk k∧m=P.vG k) (λ(k,s,m)=>P.nodes.length-k) (0,-1,0) ?_
 refine sW ?_
 refine⟨⟨zo,rfl,rfl⟩,by exact sK,rfl,?_⟩
 rintro⟨k,s,m⟩ ⟨hk,hs,hm⟩
 refine sW ?_
 refine sR ?_
 refine sS (λh=>?_) λh=>?_
 ·have hk':k<P.nodes.length:=sO
  have hle:=P.zgV k
  refine sL (Xq P (k:=k) zo hk') ?_
  refine sS (λh4=>?_) λh4=>?_
  ·have h4:P.kind k=1:=sO
   refine sI ?_
   refine sI ?_
   refine⟨(k+1,k,m+1),⟨zo,by simp[ze.Zk,h4],by simp[ze.vG,h4,hm]⟩,zd,?_⟩
   exact zm 2 zs rfl sQ sQ
  ·have h4:P.kind k≠1:=sO
   refine sI ?_
   refine⟨(k+1,s,m),⟨zo,by simp[ze.Zk,h4,hs],by simp[ze.vG,h4,hm]⟩,zd,?_⟩
   exact zm 2 zs rfl sQ sQ
 have hkn:k=P.nodes.length:=by have:¬k<P.nodes.length:=sO
                               omega
 subst hs hm
 subst hkn
 clear h hk
 refine sS (λh4=>?_) λh4=>?_
 ·have h4:P.vG P.nodes.length≠1:=sO
  exact fin (by unfold ze.yF;rw[if_neg c1,if_neg c2,if_neg c3,if_pos h4])
 have h4:P.vG P.nodes.length=1:=sO
 have hst:=P.zdZ P.nodes.length zo
 have c4:¬P.vG P.nodes.length≠1:=λq=>q h4
 rw[List.length_map]
 refine zP [1,4,7,95,96] (λk:Nat=>[(97,.sc (.int .i64 k))]) (λ_=>[]) (λk=>k≤P.nodes.length∧∀i,i<k→P.ZV i=true) (λk=>P.nodes.length-k) 0 ?_
 refine sW ?_
 refine⟨⟨zo,λi hi=>zo⟩,by exact sK,rfl,?_⟩
 rintro k ⟨hk,hok⟩
 refine sW ?_
 refine sR ?_
 refine sS (λh=>?_) λh=>?_
 ·have hk':k<P.nodes.length:=sO
  refine sL (Xq P (k:=k) zo hk') ?_
  refine sC (zk6 P hP zo k) ?_
  refine sC (zgv P hP zo k) ?_
  rw[List.length_map,List.length_map]
  refine sC (zkV (P.kind k) (P.v7 k).length (P.uw k).length) ?_
  refine sS (λh5=>?_) λh5=>?_
  ·exact fin (by
    unfold ze.yF
    rw[if_neg c1,if_neg c2,if_neg c3,if_neg c4,if_pos]
    intro q
    have:=q k hk'
    unfold ze.ZV at this
    rw[this] at h5;cases h5)
  ·refine sI ?_
   refine⟨k+1,⟨zo,λi hi=>?_⟩,zd,?_⟩
   ·by_cases e:i=k
    ·subst e;unfold ze.ZV;simpa using h5
    ·exact hok i zo
   exact zm 2 zs rfl sQ sQ
 have hkn:k=P.nodes.length:=by have:¬k<P.nodes.length:=sO
                               omega
 subst hkn
 have c5:¬¬∀i,i<P.nodes.length→P.ZV i=true:=λq=>q hok
 obtain⟨g1,g2,g3⟩:=zly P zo zo hall
 have hlen:=P.Yo P.zu.length
 refine .inr (.inr (.inr (.inr (.inr (.inl ⟨rfl,_,_,.cons _ _ _ _ (zlm rfl hlen.symm) (.cons _ _ _ _ (W0 (l:=[P.Zk P.nodes.length]) rfl rfl) .nil),
  zge (P.graph P.zu.length) g1 g2 [P.Zk P.nodes.length] (wA λx hx=>by rw[List.mem_singleton] at hx;subst hx;omega) (by simp;omega),?_⟩)))))
 refine sW ?_
 refine sC (zdD _ (zcM (P.graph P.zu.length) [P.Zk P.nodes.length]) zo false) ?_
 rw[hlen]
 refine sS (λh6=>?_) λh6=>?_
 ·obtain⟨v,q1,q2⟩:=Wb.1 h6
  exact fin (by
   unfold ze.yF
   rw[if_neg c1,if_neg c2,if_neg c3,if_neg c4,if_neg c5,if_pos]
   intro q
   rw[Va.2 (q v q1)] at q2;cases q2)
 ·exact fin (by
   unfold ze.yF
   rw[if_neg c1,if_neg c2,if_neg c3,if_neg c4,if_neg c5,if_neg]
   intro q
   refine q λv hv=>?_
   unfold ze.zhB
   rw[←Va,←Bool.not_eq_false]
   intro q2
   rw[Wb.2 ⟨v,hv,q2⟩] at h6;cases h6)
end
section
open Go.RowKit
end
section
open Go.RowKit
noncomputable def ze.qI (P:ze) (n:Int):Int:=if P.yF≠0 then P.yF else if n<0∨(P.nodes.length:Int)≤n then 1 else 0
theorem xi {P:ze} (h:P.yF=0):P.nodes.length≤20∧P.zu.length≤30:=by
 unfold ze.yF at h
 split at h
 ·exact absurd h zc
 ·omega
def c174:PC:=.seq (OP [Bx 3 0,Mv 6 cN,Mv 7 (cI 0)]) (.seq (.seq (OP [LA 9 2 3,Ca 10 5 [9],qm 8 10]) (.seq (OP [qm 11 8,Bi 12 .neq 11 (cI 0)]) (.cond 12 (.seq (OP [qm 13 8,Mv 6 cN,qm 7 13]) .ret) .skip))) (.seq (.seq (OP [qm 14 1,Bi 15 .lss 14 (cI 0),qm 16 15,GF 17 16 (.move 1),GF 18 16 (.zy 0 3),GF 19 16 (.zg 18),GF 20 16 (.len 19),GF 21 16 (.bin .geq 17 20),Pk 22 16 cT 21]) (.cond 22 (.seq (OP [Mv 6 cN,Mv 7 (cI 1)]) .ret) .skip)) (.seq (OP [qm 23 2,LA 24 2 3,qm 25 1,q 26 (.y0 23 [24,25]),qm 6 26,Mv 7 (cI 0)]) .ret)))
theorem zxq:zv Tryz.prog 174 27 [.tmp 6,.tmp 7] c174:=fK Tryz.func174
theorem zf4 (P:ze) (hP:P.Fits) (n:Int) (f:FuncId) (l:List Int) (hl:P.qI n=0→zn Tryz.prog f [yS P,.sc (.int .i64 n)] (zB l)) (hb:P.qI n≠0→l=[]) :
  zn Tryz.prog 174 [yS P,.sc (.int .i64 n),.fn (.func f) [] []] (.yP [zB l,.sc (.int .i64 (P.qI n))]):=by
 have b1:=hP.nodes
 refine za zxq zs (by simp[zb,Pure,yb]) ?_ (by simp[Pure,zb,zj])
 have bad:∀{H:List zf} {e:Int},e≠0→P.qI n=e→Deep H (.yP [.sc (.slice none 0 0),.sc (.int .i64 e)]) (.yP [zB l,.sc (.int .i64 (P.qI n))]):=λh k=>by
  rw[k,hb (by rw[k];exact h)]
  exact .yP _ _ (.cons _ _ _ _ (.none _) (.cons _ _ _ _ (.refl _) .nil))
 refine sR ?_
 refine sC (VQ P hP) ?_
 refine sS (λh1=>?_) λh1=>?_
 ·have h1:P.yF≠0:=sO
  exact bad h1 (by unfold ze.qI;rw[if_pos h1])
 have h1:P.yF=0:=sO
 refine sS (λh2=>?_) λh2=>?_
 ·exact bad zc (by unfold ze.qI;rw[if_neg zo,if_pos (.inl (sO))])
 rw[List.length_map]
 refine sS (λh3=>?_) λh3=>?_
 ·exact bad zc (by unfold ze.qI;rw[if_neg zo,if_pos (.inr (sO))])
 ·have e:P.qI n=0:=by unfold ze.qI;rw[if_neg zo,if_neg (sO)]
  refine sC (hl e) ?_
  rw[e]
  exact .refl _
noncomputable def ze.zjg (P:ze) (n:Int):List Int:=if P.qI n=0 then P.v7 n else []
noncomputable def ze.zch (P:ze) (n:Int):List Int:=if P.qI n=0 then P.uw n else []
def c109:PC:=.seq (OP [Bx 2 0,Mv 4 cN,Mv 5 (cI 0)]) (.seq (OP [LA 6 2 2,qm 7 1,Ca 8 174 [6,7,(.func 11)],Xt 9 0 8,Xt 10 1 8,qm 4 9,qm 5 10]) .ret)
theorem zue:zv Tryz.prog 109 11 [.tmp 4,.tmp 5] c109:=fK Tryz.func109
theorem zaQ (P:ze) (hP:P.Fits) (n:Int):zn Tryz.prog 109 [yS P,.sc (.int .i64 n)] (.yP [zB (P.zjg n),.sc (.int .i64 (P.qI n))]):=by
 refine za zue zs (by simp[zb,Pure,yb]) ?_ (by simp[Pure,zb,zj])
 refine sR ?_
 refine sC (zf4 P hP n 11 (P.zjg n) (λh=>by
  unfold ze.zjg
  rw[if_pos h]
  refine zk6 P hP ?_ n
  unfold ze.qI at h
  split at h
  ·rename_i q;exact absurd h q
  ·rename_i q
   have:=xi (Classical.not_not.1 q)
   omega) (λh=>by unfold ze.zjg;rw[if_neg h])) ?_
 exact .refl _
def c110:PC:=.seq (OP [Bx 2 0,Mv 4 cN,Mv 5 (cI 0)]) (.seq (OP [LA 6 2 2,qm 7 1,Ca 8 174 [6,7,(.func 12)],Xt 9 0 8,Xt 10 1 8,qm 4 9,qm 5 10]) .ret)
theorem zwJ:zv Tryz.prog 110 11 [.tmp 4,.tmp 5] c110:=fK Tryz.func110
theorem zgG (P:ze) (hP:P.Fits) (n:Int):zn Tryz.prog 110 [yS P,.sc (.int .i64 n)] (.yP [zB (P.zch n),.sc (.int .i64 (P.qI n))]):=by
 refine za zwJ zs (by simp[zb,Pure,yb]) ?_ (by simp[Pure,zb,zj])
 refine sR ?_
 refine sC (zf4 P hP n 12 (P.zch n) (λh=>by
  unfold ze.zch
  rw[if_pos h]
  refine zgv P hP ?_ n
  unfold ze.qI at h
  split at h
  ·rename_i q;exact absurd h q
  ·rename_i q
   have:=xi (Classical.not_not.1 q)
   omega) (λh=>by unfold ze.zch;rw[if_neg h])) ?_
 exact .refl _
end
end
section
section
abbrev yk:=Int × Int × Int
def zfH:Nat→Int
 | 0=>0
 | k+1=>zfH k*2+1
theorem za4:∀k,zfH k+1=2^k
 | 0=>rfl
 | k+1=>by have:=za4 k;simp only[zfH];rw[Int.pow_succ];omega
theorem ze3 {k n:Nat} (h:k≤n):(2:Int)^k≤2^n:=by
 have:=Nat.pow_le_pow_right (n:=2) zc h
 have h1:((2^k:Nat):Int)=2^k:=zs
 have h2:((2^n:Nat):Int)=2^n:=zs
 rw[←h1,←h2]
 exact_mod_cast this
theorem zaZ (k:Nat):(1:Int)≤2^k:=ze3 (Nat.zero_le k)
theorem zhI {k n:Nat} (h:k≤n):0≤zfH k∧zfH k≤zfH n:=by
 have h1:=za4 k
 have h2:=za4 n
 have h3:=ze3 h
 have h4:=zaZ k
 omega
def orS (n:Int):Nat→List yk
 | 0=>[]
 | k+1=>orS n k++[(n,-1,(k:Int)+1)]
def zkx (n i:Int):Nat→List yk
 | 0=>[]
 | k+1=>zkx n i k++[(n,i,2^k)]
theorem zmZ (n:Int):∀k,(orS n k).length=k
 | 0=>rfl
 | k+1=>by simp[orS,zmZ n k]
theorem ziO (n i:Int):∀k,(zkx n i k).length=k
 | 0=>rfl
 | k+1=>by simp[zkx,ziO n i k]
namespace ze
def Y3 (P:ze) (n:Int):Int:=zfH (P.uw n).length
def Jo (P:ze) (k:Int) (n i:Int):List yk:=if k=5 then zkx n i (P.uw n).length else [(n,i,P.Y3 n)]
def Yb (P:ze) (k:Int) (n:Int):Nat→List yk
 | 0=>[]
 | j+1=>P.Yb k n j++P.Jo k n ((P.v7 n).getD j 0)
def qT (P:ze) (n:Nat):List yk :=
 if P.kind n=4∨P.kind n=5∨P.kind n=2∨P.kind n=3 then P.Yb (P.kind n) n (P.v7 n).length
 else if P.kind n=6 then [((n:Int),-1,P.Y3 n)]
 else if P.kind n=7 then orS n (P.Y3 n).toNat
 else []
def vf (P:ze):Nat→List yk
 | 0=>[]
 | n+1=>P.vf n++P.qT n
theorem zbn (P:ze) (k n:Int) (ho:(P.uw n).length≤30):∀j,(P.Yb k n j).length≤30*j
 | 0=>by simp[Yb]
 | j+1=>by
  have:=zbn P k n ho j
  simp only[Yb,Jo,List.length_append]
  split
  ·rw[ziO];omega
  ·simp;omega
theorem zrA {P:ze} {n:Nat} (h:P.ZV n=true) (hk:P.kind n=7):(P.Y3 n).toNat≤15:=by
 unfold ZV zdb at h
 rw[hk] at h
 simp only[if_false,if_true,Bool.and_eq_true,decide_eq_true_eq,(by decide:¬(7:Int)=1),(by decide:¬((7:Int)=2∨(7:Int)=3)),(by decide:¬(7:Int)=4)] at h
 have:=(zhI (k:=(P.uw n).length) (n:=4) zo).2
 have e:zfH 4=15:=rfl
 unfold Y3
 omega
theorem zce {P:ze} {n:Nat} (h:P.ZV n=true) (hf:P.zu.length≤30):(P.qT n).length≤900:=by
 have l1:=P.zaz n
 have l2:=P.Uo n
 unfold qT
 split
 ·have:=P.zbn (P.kind n) n zo (P.v7 n).length
  omega
 ·split
  ·simp
  ·split
   ·rw[zmZ]
    have:=zrA h (by assumption)
    omega
   ·simp
theorem zcB {P:ze} (hf:P.zu.length≤30):∀n,(∀i,i<n→P.ZV i=true)→(P.vf n).length≤900*n
 | 0,_=>by simp[vf]
 | n+1,h=>by
  have:=zcB hf n λi hi=>h i zo
  have:=zce (h n zo) hf
  simp only[vf,List.length_append]
  omega
theorem zf3 {P:ze} (h:P.yF=0):∀i,i<P.nodes.length→P.ZV i=true:=by
 unfold yF at h
 repeat' (split at h)
 all_goals first|(exact absurd h zc)|(exact absurd h (by assumption))|skip
 all_goals exact Classical.not_not.1 (by assumption)
noncomputable def yH (P:ze):Int:=if P.yF≠0 then P.yF else if 60<(P.vf P.nodes.length).length then 2 else 0
noncomputable def zJ (P:ze):List yk:=if P.yH=0 then P.vf P.nodes.length else []
end ze
end
section
open Go.RowKit
def zhE (x:yk):List D:=[.sc (.int .i64 x.1),.sc (.int .i64 x.2.1),.sc (.int .i64 x.2.2)]
def vP (l:List yk):List (List D):=l.map zhE
def ZM (l:List yk):D:=.xl 3 (vP l)
theorem QH (x:yk):zb (zhE x):=by simp[zhE,zb,Pure]
theorem zdP (l:List yk):yJ (vP l):=zC _ QH l
theorem u5 (l:List yk):Pure (ZM l):=by simp[ZM,Pure,zdP]
theorem Vq (l:List yk):(vP l).length=l.length:=by simp[vP]
@[simp] theorem zt6 {m:Nat} (l:List yk):zF m (vP l)↔True:=⟨λ_=>trivial,λ_=>zi _ (zdP l)⟩
theorem WU {l:List yk} {c:Nat} {x y z:Int} (h:c=l.length):List.drop 0 (List.take c (vP l))++[[D.sc (.int .i64 x),D.sc (.int .i64 y),D.sc (.int .i64 z)]]=vP (l++[(x,y,z)]):=by
 subst h
 rw[zw (by simp[vP])]
 simp[vP,zhE]
theorem ztM {l r:List yk} {c:Nat} (h:c=l.length):List.drop 0 (List.take c (vP l))++vP r=vP (l++r):=by
 subst h
 rw[zw (by simp[vP])]
 simp[vP]
theorem Zg {H:List zf} {id v n:Nat} {q:Bool} {l:List yk} (hn:n=l.length) (h:H[id]? = some (.vec q v 3 (vP l))):Deep H (.own id v 0 n) (ZM l):=by
 subst hn
 exact .own _ _ _ _ _ _ _ _ h (by rw[zw (by simp[vP])];exact z8 _)
theorem znX {z:Int} {k:Nat} (hk:z=k) (h:k≤30):(1:Int)*2^min z.toNat IntKind.i64.bits=2^k:=by
 subst hk
 show(1:Int)*2^min (k:Int).toNat 64=2^k
 rw[Int.one_mul,Int.toNat_natCast,Nat.min_eq_left zo]
theorem zx3 {k:Nat} (h:k≤30):(1:Int)≤2^k∧(2:Int)^k≤1073741824:=⟨zaZ k,ze3 (n:=30) h⟩
def zCp:PC:=.seq (OP [Bi 46 .lss 45 44]) (.seq (.cond 46 .skip (.exit 1)) (.seq (.block 2 (.seq (OP [Ia 47 1 43 45,Lo 48 47,qm 12 48]) (OP [qm 49 10,qm 50 1,qm 51 12,qm 52 9,q 53 (.build [(.int .i64 0),(.int .i64 0),(.int .i64 0)] [(0,1,50),(1,1,51),(2,1,52)]),Bs 54 3 1 [53],Ap 55 3 24 49 54,qm 10 55]))) (OP [Bi 56 .add 45 (cI 1),qm 45 56])))
def zC2:PC:=.seq (OP [Bi 68 .lss 67 66]) (.seq (.cond 68 .skip (.exit 5)) (.seq (.block 6 (.seq (OP [qm 69 67,qm 15 69]) (OP [qm 70 10,qm 71 1,qm 72 14,qm 73 15,Bi 74 .shl (cI 1) 73,q 75 (.build [(.int .i64 0),(.int .i64 0),(.int .i64 0)] [(0,1,71),(1,1,72),(2,1,74)]),Bs 76 3 1 [75],Ap 77 3 24 70 76,qm 10 77]))) (OP [Bi 78 .add 67 (cI 1),qm 67 78])))
def zB5:PC:=.seq (OP [Bi 62 .lss 61 60]) (.seq (.cond 62 .skip (.exit 3)) (.seq (.block 4 (.seq (OP [Ia 63 1 59 61,Lo 64 63,qm 14 64]) (.seq (OP [qm 65 7,Ln 66 65,Mv 67 (cI 0)]) (.block 5 (.loop zC2))))) (OP [Bi 79 .add 61 (cI 1),qm 61 79])))
def zDp:PC:=.seq (.seq (OP [qm 90 16,qm 91 9,Bi 92 .leq 90 91]) (.cond 92 .skip (.exit 7))) (.seq (.block 8 (OP [qm 95 10,qm 96 1,qm 97 16,q 98 (.build [(.int .i64 0),(.int .i64 0),(.int .i64 0)] [(0,1,96),(1,1,(cI (-1))),(2,1,97)]),Bs 99 3 1 [98],Ap 100 3 24 95 99,qm 10 100])) (OP [qm 93 16,Bi 94 .add 93 (cI 1),qm 16 94]))
def c56:PC:=.seq (OP [Bx 2 0,Mv 4 cN]) (.seq (OP [LA 18 2 2,qm 19 1,Ca 20 109 [18,19],qm 17 20,Xt 21 0 17,Xt 22 1 17,qm 5 21,qm 6 22]) (.seq (OP [LA 24 2 2,qm 25 1,Ca 26 110 [24,25],qm 23 26,Xt 27 0 23,Xt 28 1 23,qm 7 27,qm 8 28]) (.seq (OP [qm 29 7,Ln 30 29,Bi 31 .shl (cI 1) 30,Bi 32 .sub 31 (cI 1),qm 9 32]) (.seq (OP [Mv 10 cN]) (.seq (.seq (OP [Fa 33 0 2,Lo 34 33,qm 35 1,Ia 36 2 34 35,Fa 37 1 36,Lo 38 37]) (.block 0 (.seq (.seq (OP [Bi 40 .eql 38 (cI 4),qm 39 40]) (.cond 39 .skip (.seq (OP [Bi 41 .eql 38 (cI 2),qm 39 41]) (.cond 39 .skip (OP [Bi 42 .eql 38 (cI 3),qm 39 42]))))) (.cond 39 (.seq (OP [qm 43 5,Ln 44 43,Mv 45 (cI 0)]) (.block 1 (.loop zCp))) (.seq (OP [Bi 58 .eql 38 (cI 5),qm 57 58]) (.cond 57 (.seq (OP [qm 59 5,Ln 60 59,Mv 61 (cI 0)]) (.block 3 (.loop zB5))) (.seq (OP [Bi 81 .eql 38 (cI 6),qm 80 81]) (.cond 80 (OP [qm 82 10,qm 83 1,qm 84 9,q 85 (.build [(.int .i64 0),(.int .i64 0),(.int .i64 0)] [(0,1,83),(1,1,(cI (-1))),(2,1,84)]),Bs 86 3 1 [85],Ap 87 3 24 82 86,qm 10 87]) (.seq (OP [Bi 89 .eql 38 (cI 7),qm 88 89]) (.cond 88 (.seq (OP [Mv 16 (cI 1)]) (.block 7 (.loop zDp))) .skip)))))))))) (.seq (OP [qm 101 10,qm 4 101]) .ret))))))
theorem zAb:zv Tryz.prog 56 102 [.tmp 4] c56:=fK Tryz.func56
theorem ztK (P:ze) (hP:P.Fits) (h0:P.yF=0) (n:Nat) (hn:n<P.nodes.length):zn Tryz.prog 56 [yS P,.sc (.int .i64 n)] (ZM (P.qT n)):=by
 obtain⟨hs1,hs2⟩:=xi h0
 have l1:=P.zaz n
 have l2:=P.Uo n
 have hE:P.qI n=0:=by unfold ze.qI;rw[if_neg zo,if_neg zo]
 have hI:=zaQ P hP n
 have hO:=zgG P hP n
 rw[show P.zjg n=P.v7 n from by unfold ze.zjg;rw[if_pos hE],hE] at hI
 rw[show P.zch n=P.uw n from by unfold ze.zch;rw[if_pos hE],hE] at hO
 have hok:=ze.zf3 h0 n hn
 refine za zAb zs (by simp[zb,Pure,yb]) ?_ (u5 _)
 refine sR ?_
 refine sC hI ?_
 refine sC hO ?_
 have e2:=za4 (P.uw n).length
 have e3:=zx3 (k:=(P.uw n).length) zo
 have ea:zfH (P.uw n).length=P.Y3 n:=rfl
 have ei:∀k,P.Yb (P.kind n) n (k+1)=P.Yb (P.kind n) n k++P.Jo (P.kind n) n ((P.v7 n).getD k 0):=λk=>rfl
 rw[ea] at e2
 refine⟨zo,?_⟩
 rw[List.length_map,znX (k:=(P.uw n).length) rfl zo]
 refine sI ?_
 refine sI ?_
 rw[←e2,Int.add_sub_cancel]
 refine sL (Xq P (k:=n) zo hn) ?_
 have eS:P.qT n=if P.kind n=4∨P.kind n=5∨P.kind n=2∨P.kind n=3 then P.Yb (P.kind n) n (P.v7 n).length
  else if P.kind n=6 then [((n:Int),-1,P.Y3 n)] else if P.kind n=7 then orS n (P.Y3 n).toNat else []:=rfl
 refine sS (λh4=>?_) λh4=>?_
 ·have h4:P.kind n=4:=sO
  rw[if_pos zo] at eS
  have e5:∀i:Int,P.Jo (P.kind n) n i=[((n:Int),i,P.Y3 n)]:=λi=>by unfold ze.Jo;rw[if_neg zo]
  refine sW ?_
  rw[List.length_map]
  refine zH (xw 10 3 zs rfl) ?_
  refine zP [1,9,43,44] (λ((k,c,l):Nat × Nat × List yk)=>[(10,.own 1 c 0 c),(45,.sc (.int .i64 k))]) (λ(k,c,l)=>[(1,.vec true c 3 (vP l))]) (λ(k,c,l)=>k≤(P.v7 n).length∧c=l.length∧c=k∧l=P.Yb (P.kind n) n k) (λ(k,c,l)=>(P.v7 n).length-k) (0,0,[]) ?_
  refine sW ?_
  refine⟨⟨zo,rfl,rfl,rfl⟩,by exact sK,rfl,?_⟩
  rintro⟨k,c,l⟩ ⟨hk,hc,hck,hl⟩
  refine sW ?_
  refine sR ?_
  refine sS (λh1=>?_) λh1=>?_
  ·have hk':k<(P.v7 n).length:=sO
   refine sL (yc (k:=k) zo hk') ?_
   refine sJ ?_
   refine sI ?_
   refine⟨(k+1,c+1,l++[((n:Int),(P.v7 n).getD k 0,P.Y3 n)]),⟨zo,by simp[hc],zo,by rw[ei,e5,hl]⟩,zd,?_⟩
   refine zm 2 zs rfl sQ (sU ?_)
   exact zp (WU hc)
  ·have hk':k=(P.v7 n).length:=by have:¬k<(P.v7 n).length:=sO
                                  omega
   subst hk'
   rw[eS,←hl]
   exact Zg hc rfl
 have h4:P.kind n≠4:=sO
 refine sS (λh2=>?_) λh2=>?_
 ·have h2:P.kind n=2:=sO
  rw[if_pos zo] at eS
  have e5:∀i:Int,P.Jo (P.kind n) n i=[((n:Int),i,P.Y3 n)]:=λi=>by unfold ze.Jo;rw[if_neg zo]
  refine sW ?_
  rw[List.length_map]
  refine zH (xw 10 3 zs rfl) ?_
  refine zP [1,9,43,44] (λ((k,c,l):Nat × Nat × List yk)=>[(10,.own 1 c 0 c),(45,.sc (.int .i64 k))]) (λ(k,c,l)=>[(1,.vec true c 3 (vP l))]) (λ(k,c,l)=>k≤(P.v7 n).length∧c=l.length∧c=k∧l=P.Yb (P.kind n) n k) (λ(k,c,l)=>(P.v7 n).length-k) (0,0,[]) ?_
  refine sW ?_
  refine⟨⟨zo,rfl,rfl,rfl⟩,by exact sK,rfl,?_⟩
  rintro⟨k,c,l⟩ ⟨hk,hc,hck,hl⟩
  refine sW ?_
  refine sR ?_
  refine sS (λh1=>?_) λh1=>?_
  ·have hk':k<(P.v7 n).length:=sO
   refine sL (yc (k:=k) zo hk') ?_
   refine sJ ?_
   refine sI ?_
   refine⟨(k+1,c+1,l++[((n:Int),(P.v7 n).getD k 0,P.Y3 n)]),⟨zo,by simp[hc],zo,by rw[ei,e5,hl]⟩,zd,?_⟩
   refine zm 2 zs rfl sQ (sU ?_)
   exact zp (WU hc)
  ·have hk':k=(P.v7 n).length:=by have:¬k<(P.v7 n).length:=sO
                                  omega
   subst hk'
   rw[eS,←hl]
   exact Zg hc rfl
 have h2:P.kind n≠2:=sO
 refine sS (λh3=>?_) λh3=>?_
 ·have h3:P.kind n=3:=sO
  rw[if_pos zo] at eS
  have e5:∀i:Int,P.Jo (P.kind n) n i=[((n:Int),i,P.Y3 n)]:=λi=>by unfold ze.Jo;rw[if_neg zo]
  refine sW ?_
  rw[List.length_map]
  refine zH (xw 10 3 zs rfl) ?_
  refine zP [1,9,43,44] (λ((k,c,l):Nat × Nat × List yk)=>[(10,.own 1 c 0 c),(45,.sc (.int .i64 k))]) (λ(k,c,l)=>[(1,.vec true c 3 (vP l))]) (λ(k,c,l)=>k≤(P.v7 n).length∧c=l.length∧c=k∧l=P.Yb (P.kind n) n k) (λ(k,c,l)=>(P.v7 n).length-k) (0,0,[]) ?_
  refine sW ?_
  refine⟨⟨zo,rfl,rfl,rfl⟩,by exact sK,rfl,?_⟩
  rintro⟨k,c,l⟩ ⟨hk,hc,hck,hl⟩
  refine sW ?_
  refine sR ?_
  refine sS (λh1=>?_) λh1=>?_
  ·have hk':k<(P.v7 n).length:=sO
   refine sL (yc (k:=k) zo hk') ?_
   refine sJ ?_
   refine sI ?_
   refine⟨(k+1,c+1,l++[((n:Int),(P.v7 n).getD k 0,P.Y3 n)]),⟨zo,by simp[hc],zo,by rw[ei,e5,hl]⟩,zd,?_⟩
   refine zm 2 zs rfl sQ (sU ?_)
   exact zp (WU hc)
  ·have hk':k=(P.v7 n).length:=by have:¬k<(P.v7 n).length:=sO
                                  omega
   subst hk'
   rw[eS,←hl]
   exact Zg hc rfl
 have h3:P.kind n≠3:=sO
 refine sS (λh5=>?_) λh5=>?_
 ·have h5:P.kind n=5:=sO
  rw[if_pos zo] at eS
  have e5:∀i:Int,P.Jo (P.kind n) n i=zkx n i (P.uw n).length:=λi=>by unfold ze.Jo;rw[if_pos h5]
  refine sW ?_
  rw[List.length_map]
  refine zH (xw 10 3 zs rfl) ?_
  refine zP [1,7,59,60] (λ((k,c,l):Nat × Nat × List yk)=>[(10,.own 1 c 0 c),(61,.sc (.int .i64 k))]) (λ(k,c,l)=>[(1,.vec true c 3 (vP l))]) (λ(k,c,l)=>k≤(P.v7 n).length∧c=l.length∧l=P.Yb (P.kind n) n k) (λ(k,c,l)=>(P.v7 n).length-k) (0,0,[]) ?_
  refine sW ?_
  refine⟨⟨zo,rfl,rfl⟩,by exact sK,rfl,?_⟩
  rintro⟨k,c,l⟩ ⟨hk,hc,hl⟩
  refine sW ?_
  refine sR ?_
  refine sS (λh1=>?_) λh1=>?_
  ·have hk':k<(P.v7 n).length:=sO
   refine sL (yc (k:=k) zo hk') ?_
   rw[List.length_map]
   have b1:=P.zbn (P.kind n) n zo k
   have b2:l.length=(P.Yb (P.kind n) n k).length:=by rw[hl]
   refine zP [1,7,14,59,60,61,66] (λ((j,c',m):Nat × Nat × List yk)=>[(10,.own 1 c' 0 c'),(67,.sc (.int .i64 j))]) (λ(j,c',m)=>[(1,.vec true c' 3 (vP m))]) (λ(j,c',m)=>j≤(P.uw n).length∧c'=m.length∧c'=l.length+j∧m=l++zkx n ((P.v7 n).getD k 0) j) (λ(j,c',m)=>(P.uw n).length-j) (0,c,l) ?_
   refine sW ?_
   refine⟨⟨zo,hc,hc,(List.append_nil l).symm⟩,by exact sK,rfl,?_⟩
   rintro⟨j,c',m⟩ ⟨hj,hc',hcj,hm⟩
   refine sW ?_
   refine sR ?_
   refine sS (λh6=>?_) λh6=>?_
   ·have hj':j<(P.uw n).length:=sO
    refine⟨zo,?_⟩
    rw[znX (k:=j) rfl zo]
    have e4:=zx3 (k:=j) zo
    refine sI ?_
    refine sJ ?_
    refine sI ?_
    refine⟨(j+1,c'+1,m++[((n:Int),(P.v7 n).getD k 0,2^j)]),⟨zo,by simp[hc'],zo,by rw[hm,List.append_assoc];rfl⟩,zd,?_⟩
    refine zm 2 zs rfl sQ (sU ?_)
    exact zp (WU hc')
   ·have hj':j=(P.uw n).length:=by have:¬j<(P.uw n).length:=sO
                                   omega
    subst hj'
    refine sI ?_
    refine⟨(k+1,c',m),⟨zo,hc',by rw[ei,e5,hm,hl]⟩,zd,?_⟩
    exact zm 2 zs rfl sQ sQ
  ·have hk':k=(P.v7 n).length:=by have:¬k<(P.v7 n).length:=sO
                                  omega
   subst hk'
   rw[eS,←hl]
   exact Zg hc rfl
 have h5:P.kind n≠5:=sO
 rw[if_neg zo] at eS
 refine sS (λh6=>?_) λh6=>?_
 ·have h6:P.kind n=6:=sO
  rw[if_pos h6] at eS
  refine sJ ?_
  rw[eS]
  exact Zg (l:=[((n:Int),-1,P.Y3 n)]) rfl rfl
 rw[if_neg (sO)] at eS
 refine sS (λh7=>?_) λh7=>?_
 ·have h7:P.kind n=7:=sO
  rw[if_pos h7] at eS
  have b3:=ze.zrA hok h7
  have b4:=(zhI (Nat.le_refl (P.uw n).length)).1
  rw[ea] at b4
  refine zH (xw 10 3 zs rfl) ?_
  refine zP [1,9] (λ((k,c,l):Nat × Nat × List yk)=>[(10,.own 1 c 0 c),(16,.sc (.int .i64 ((k:Int)+1)))]) (λ(k,c,l)=>[(1,.vec true c 3 (vP l))]) (λ(k,c,l)=>k≤(P.Y3 n).toNat∧c=l.length∧c=k∧l=orS n k) (λ(k,c,l)=>(P.Y3 n).toNat-k) (0,0,[]) ?_
  refine sW ?_
  refine⟨⟨zo,rfl,rfl,rfl⟩,by exact sK,rfl,?_⟩
  rintro⟨k,c,l⟩ ⟨hk,hc,hck,hl⟩
  refine sW ?_
  refine sR ?_
  refine sS (λh1=>?_) λh1=>?_
  ·have hk':k<(P.Y3 n).toNat:=sO
   refine sJ ?_
   refine sI ?_
   refine⟨(k+1,c+1,l++[((n:Int),-1,(k:Int)+1)]),⟨zo,by simp[hc],zo,by rw[hl];rfl⟩,zd,?_⟩
   refine zm 2 zs rfl sQ (sU ?_)
   exact zp (WU hc)
  ·have hk':k=(P.Y3 n).toNat:=by have:¬k<(P.Y3 n).toNat:=sO
                                 omega
   subst hk'
   rw[eS,←hl]
   exact Zg hc rfl
 ·rw[if_neg (sO)] at eS
  rw[eS]
  exact .none _
end
section
open Go.RowKit
theorem zw3 {l:List yk} {z k:Nat} (hz:z=k) (h:k<l.length):(vP l)[z]? = some (zhE l[k]):=by
 subst hz
 unfold vP
 rw[List.getElem?_map,List.getElem?_eq_getElem h]
 rfl
def zDj:PC:=.seq (OP [Bi 16 .lss 15 14]) (.seq (.cond 16 .skip (.exit 0)) (.seq (.block 1 (.seq (OP [qm 17 15,qm 6 17]) (OP [qm 18 5,LA 19 2 1,qm 20 6,Ca 21 56 [19,20],Ap 22 3 24 18 21,qm 5 22]))) (OP [Bi 23 .add 15 (cI 1),qm 15 23])))
def c31:PC:=.seq (OP [Bx 1 0,Mv 2 cN,Mv 3 (cI 0)]) (.seq (.seq (OP [LA 7 2 1,Ca 8 5 [7],qm 4 8]) (.seq (OP [qm 9 4,Bi 10 .neq 9 (cI 0)]) (.cond 10 (.seq (OP [qm 11 4,Mv 2 cN,qm 3 11]) .ret) .skip))) (.seq (OP [Mv 5 cN]) (.seq (.seq (OP [Fa 12 0 1,Lo 13 12,Ln 14 13,Mv 15 (cI 0)]) (.block 0 (.loop zDj))) (.seq (.seq (OP [qm 24 5,Ln 25 24,Bi 26 .gtr 25 (cI 60)]) (.cond 26 (.seq (OP [Mv 2 cN,Mv 3 (cI 2)]) .ret) .skip)) (.seq (OP [qm 27 5,qm 2 27,Mv 3 (cI 0)]) .ret)))))
theorem zAL:zv Tryz.prog 31 28 [.tmp 2,.tmp 3] c31:=fK Tryz.func31
theorem W1 (P:ze) (hP:P.Fits):zn Tryz.prog 31 [yS P] (.yP [ZM P.zJ,.sc (.int .i64 P.yH)]):=by
 refine za zAL zs (by simp[zb,Pure,yb]) ?_ (by simp[Pure,zb,u5])
 have bad:∀{H:List zf} {e:Int},e≠0→P.yH=e→Deep H (.yP [.sc (.slice none 0 0),.sc (.int .i64 e)]) (.yP [ZM P.zJ,.sc (.int .i64 P.yH)]):=λh k=>by
  have:P.zJ=[]:=by unfold ze.zJ;rw[if_neg (by rw[k];exact h)]
  rw[k,this]
  exact .yP _ _ (.cons _ _ _ _ (.none _) (.cons _ _ _ _ (.refl _) .nil))
 refine sR ?_
 refine sC (VQ P hP) ?_
 refine sS (λh1=>?_) λh1=>?_
 ·have h1:P.yF≠0:=sO
  exact bad h1 (by unfold ze.yH;rw[if_pos h1])
 have h0:P.yF=0:=sO
 obtain⟨hs1,hs2⟩:=xi h0
 have hall:=ze.zf3 h0
 have e1:P.yH=if 60<(P.vf P.nodes.length).length then 2 else 0:=by unfold ze.yH;rw[if_neg zo]
 rw[List.length_map]
 refine zH (xw 5 3 zs rfl) ?_
 refine zP [1,14] (λ((k,c,l):Nat × Nat × List yk)=>[(5,.own 1 k 0 c),(15,.sc (.int .i64 k))]) (λ(k,c,l)=>[(1,.vec true k 3 (vP l))]) (λ(k,c,l)=>k≤P.nodes.length∧c=l.length∧l=P.vf k) (λ(k,c,l)=>P.nodes.length-k) (0,0,[]) ?_
 refine sW ?_
 refine⟨⟨zo,rfl,rfl⟩,by exact sK,rfl,?_⟩
 rintro⟨k,c,l⟩ ⟨hk,hc,hl⟩
 refine sW ?_
 refine sR ?_
 refine sS (λh2=>?_) λh2=>?_
 ·have hk':k<P.nodes.length:=sO
  have b1:=ze.zcB hs2 k λi hi=>hall i zo
  have b2:=ze.zce (hall k hk') hs2
  have b3:l.length=(P.vf k).length:=by rw[hl]
  refine sC (ztK P hP h0 k hk') ?_
  refine⟨(by unfold xg;rw[Vq];omega),?_⟩
  refine sW ?_
  refine sI ?_
  refine⟨(k+1,c+(vP (P.qT k)).length,l++P.qT k),⟨zo,by simp[hc,Vq],by rw[hl];rfl⟩,zd,?_⟩
  refine zm 2 zs rfl sQ (sU ?_)
  exact zp (ztM hc)
 ·have hk':k=P.nodes.length:=by have:¬k<P.nodes.length:=sO
                                omega
  subst hk'
  have b3:l.length=(P.vf P.nodes.length).length:=by rw[hl]
  refine sS (λh3=>?_) λh3=>?_
  ·exact bad zc (by rw[e1,if_pos (sO)])
  ·have e2:P.yH=0:=by rw[e1,if_neg (sO)]
   have e3:P.zJ=l:=by unfold ze.zJ;rw[if_pos e2,hl]
   rw[e2,e3]
   exact .yP _ _ (.cons _ _ _ _ (Zg hc rfl) (.cons _ _ _ _ (.refl _) .nil))
end
section
open Go.RowKit
end
end
section
def zme (x n:Int):Bool:=(x.fdiv (2^min n.toNat 64)).tmod 2==1
end
section
open Go.RowKit
theorem zu4 {y:Int} (h:0≤y) (h':y<18446744073709551616):vl .and .u64 y 1=y.tmod 2:=by
 obtain⟨n,rfl⟩:∃n:Nat,y=n:=⟨y.toNat,zo⟩
 have e:(BitVec.ofInt 64 (n:Int) &&& BitVec.ofInt 64 1).toNat=n%2:=by
  rw[BitVec.toNat_and]
  have e1:(BitVec.ofInt 64 (n:Int)).toNat=n:=by rw[BitVec.toNat_ofInt];omega
  have e2:(BitVec.ofInt 64 1).toNat=1:=zc
  rw[e1,e2,Nat.and_one_is_mod]
 show IntKind.u64.wrap ((BitVec.ofInt 64 (n:Int) &&& BitVec.ofInt 64 1).toNat:Int)=_
 rw[e,show((n:Int).tmod 2)=((n%2:Nat):Int) from(Int.ofNat_tmod n 2).symm]
 unfold IntKind.wrap
 simp[IntKind.bits,IntKind.signed]
 omega
theorem zlR {x:Int} (h:0≤x) (h':x<18446744073709551616) (k:Nat):0≤x.fdiv (2^k)∧x.fdiv (2^k)<18446744073709551616:=by
 have hp:(0:Int)<2^k:=Int.pow_pos zc
 rw[Int.fdiv_eq_ediv_of_nonneg _ zo]
 exact⟨Int.ediv_nonneg h zo,Int.lt_of_le_of_lt (Int.ediv_le_self _ h) h'⟩
end
end Go.Proofs.YteedlhkjaolahaaGreatDoor
