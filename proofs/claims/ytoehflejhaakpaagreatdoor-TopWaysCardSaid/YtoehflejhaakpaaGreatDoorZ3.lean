/-
  Parts of a proof, joined. No statement is proved here.
-/
import Derived.Test.YtoehflejhaakpaaGreatDoorZ1
import Derived.Test.YtoehflejhaakpaaGreatDoorZ2
import Derived.Test.YtoehflejhaakpaaGreatDoorProg
import Derived.Shelf.Sort.Plain
import Derived.ChangeKeysEq
import Derived.WalkKit
namespace Go.Proofs.YtoehflejhaakpaaGreatDoor
set_option linter.unusedSimpArgs false
set_option linter.unusedVariables false
set_option maxRecDepth 100000
section
open Go.RowKit
def zxN:PC:=.seq (OP [Bi 15 .lss 14 13]) (.seq (.cond 15 .skip (.exit 0)) (.seq (.block 1 (.seq (OP [Ia 16 3 12 14,LA 17 3 16,q 5 (.alloc [(.int .i64 0),(.int .i64 0),(.slice none 0 0)]),So 3 5 17]) (.ops [Fa 18 2 3,qd 19 (.zg 18) 1,LA 20 3 5,qd 21 (.call 145 [20]) 4,qd 22 (.xe 3 1 [21]) 12,qd 23 (.append 3 40 19 22) 31,qd 24 (.zz 2 3) 63,qk (.store 1 24 23) 127] true))) (OP [Bi 25 .add 14 (cI 1),qm 14 25])))
def c145:PC:=.seq (OP [Bx 1 0,q 2 (.alloc [(.int .i64 0),(.int .i64 0),(.slice none 0 0)])]) (.seq (OP [Fa 6 0 1,Lo 7 6,Fa 8 1 1,Lo 9 8,q 10 (.build [(.int .i64 0),(.int .i64 0),(.slice none 0 0)] [(0,1,7),(1,1,9)]),q 3 (.alloc [(.int .i64 0),(.int .i64 0),(.slice none 0 0)]),So 3 3 10]) (.seq (.seq (OP [Fa 11 2 1,Lo 12 11,Ln 13 12,Mv 14 (cI 0)]) (.block 0 (.loop zxN))) (.seq (.seq (.stop (OP [Fa 26 0 1,Lo 27 26])) (.block 2 (.seq (OP [Bi 29 .eql 27 (cI 10),qm 28 29]) (.cond 28 (.seq (.ops [Ca 30 192 [(cI 1)],Fa 31 2 3,qd 32 (.zg 31) 2,qd 33 (.zM 3 32 (cI 0)) 6,qd 34 (.vw 3 33) 14,qd 35 (.call 191 [(cI 8),30,34]) 31,qk (.store 3 2 35) 63] true) .ret) (.seq (OP [Bi 37 .eql 27 (cI 11),qm 36 37]) (.cond 36 (.seq (.ops [Ca 38 192 [(cI 2)],Fa 39 2 3,qd 40 (.zg 39) 2,qd 41 (.zM 3 40 (cI 0)) 6,qd 42 (.vw 3 41) 14,qd 43 (.call 191 [(cI 9),38,42]) 31,qk (.store 3 2 43) 63] true) .ret) .skip)))))) (.seq (OP [LA 44 3 3,So 3 2 44]) .ret))))
theorem zvA:zy Tryz.prog 145 45 [.agg 2 3] c145:=fK Tryz.func145
def c144:PC:=.seq (OP [Bx 1 0,q 2 (.alloc [(.int .i64 0),(.int .i64 0),(.slice none 0 0)]),Mv 3 (cI 0)]) (.seq (.seq (OP [LA 5 3 1,Ca 6 32 [5],qm 4 6]) (.seq (OP [qm 7 4,Bi 8 .neq 7 (cI 0)]) (.cond 8 (.seq (OP [q 9 (.build [(.int .i64 0),(.int .i64 0),(.slice none 0 0)] []),qm 10 4,So 3 2 9,qm 3 10]) .ret) .skip))) (.seq (OP [LA 11 3 1,So 3 2 11,Mv 3 (cI 0)]) .ret))
theorem zvK:zy Tryz.prog 144 12 [.agg 2 3,.tmp 3] c144:=fK Tryz.func144
def c71:PC:=.seq (OP [Bx 1 0,q 2 (.alloc [(.int .i64 0),(.int .i64 0),(.slice none 0 0)]),Mv 3 (cI 0)]) (.seq (.seq (OP [LA 5 3 1,Ca 6 32 [5],qm 4 6]) (.seq (OP [qm 7 4,Bi 8 .neq 7 (cI 0)]) (.cond 8 (.seq (OP [q 9 (.build [(.int .i64 0),(.int .i64 0),(.slice none 0 0)] []),qm 10 4,So 3 2 9,qm 3 10]) .ret) .skip))) (.seq (OP [LA 11 3 1,Ca 12 145 [11],Ca 13 144 [12],Xt 14 0 13,Xt 15 1 13,So 3 2 14,qm 3 15]) .ret))
theorem zzh:zy Tryz.prog 71 16 [.agg 2 3,.tmp 3] c71:=fK Tryz.func71
mutual
def yg:Tree→Tree
 | .node k n ks=>if k=10 then vx 8 (yB 1 0) (zrG ks) else if k=11 then vx 9 (yB 2 0) (zrG ks) else .node k n (zdK ks)
def zrG:List Tree→Tree
 | []=>default
 | t::_=>yg t
def zdK:List Tree→List Tree
 | []=>[]
 | t::r=>yg t::zdK r
end
theorem zdX:∀l,zdK l=l.map yg
 | []=>by simp only[zdK,List.map_nil]
 | t::r=>by simp only[zdK,List.map_cons,zdX r]
theorem Qv (t:Tree) (hw:t.kind=10∨t.kind=11→0<t.width):yg t=if t.kind=10 then vx 8 (yB 1 0) (yg (t.yD 0)) else if t.kind=11 then vx 9 (yB 2 0) (yg (t.yD 0)) else .node t.kind t.num (t.kids.map yg):=by
 cases t with
 | node k n ks =>
  rw[yg,zdX]
  rw[show(Tree.node k n ks).kind=k from rfl] at hw ⊢
  by_cases h:k=10
  ·rw[if_pos h,if_pos h]
   cases ks with
   | nil=>exact absurd (hw (.inl h)) (by simp[Tree.width,Tree.kids])
   | cons a r=>rfl
  ·rw[if_neg h,if_neg h]
   by_cases h':k=11
   ·rw[if_pos h',if_pos h']
    cases ks with
    | nil=>exact absurd (hw (.inr h')) (by simp[Tree.width,Tree.kids])
    | cons a r=>rfl
   ·rw[if_neg h',if_neg h'];rfl
theorem zcB {k n:Int} {ks:List Tree} (h:¬yC zP (.node k n ks)) (hk:∀u∈ks,u.wf zP):(Tree.node k n ks).wf zP:=(xM _ _).2 ⟨h,hk⟩
theorem zxT {t:Tree} {k n:Int} {f:Tree→Tree} (hw:t.wf zP) (hk:zP k=zP t.kind) (h3:k≠3→n=0) (hn:0≤n∧n≤63) (hf:∀j,j<t.width→(f (t.yD j)).wf zP):(Tree.node k n (t.kids.map f)).wf zP:=by
 have h0:=((xM _ _).1 hw).1
 refine zcB ?_ λu hu=>?_
 ·unfold yC at *
  have e1:(Tree.node k n (t.kids.map f)).kind=k:=rfl
  have e2:(Tree.node k n (t.kids.map f)).num=n:=rfl
  have e3:(Tree.node k n (t.kids.map f)).width=t.width:=by simp[Tree.width,Tree.kids]
  rw[e1,e2,e3,hk]
  omega
 ·obtain⟨v,hv,rfl⟩:=List.mem_map.1 hu
  obtain⟨i,hi,rfl⟩:=List.mem_iff_getElem.1 hv
  have:=hf i hi
  rwa [Tree.uD hi] at this
theorem zlX {t:Tree} (hw:t.wf zP):0≤t.num∧t.num≤63∧(t.kind≠3→t.num=0):=by
 have h0:=((xM _ _).1 hw).1
 unfold yC at h0
 omega
theorem zp8 {k n:Int} (h:k=1∨k=2∨k=3) (hn:0≤n∧n≤63) (h3:k≠3→n=0):(yB k n).wf zP:=zcB (by
 unfold yC
 have e1:(Tree.node k n []).kind=k:=rfl
 have e2:(Tree.node k n []).num=n:=rfl
 have e3:(Tree.node k n []).width=0:=rfl
 rw[e1,e2,e3]
 rcases h with rfl|rfl|rfl<;>simp[zP]<;>omega) zs
theorem zzw {k:Int} {a:Tree} (h:k=4∨k=7∨k=10∨k=11) (ha:a.wf zP):(yS k a).wf zP:=zcB (by
 unfold yC
 have e1:(Tree.node k 0 [a]).kind=k:=rfl
 have e2:(Tree.node k 0 [a]).num=0:=rfl
 have e3:(Tree.node k 0 [a]).width=1:=rfl
 rw[e1,e2,e3]
 rcases h with rfl|rfl|rfl|rfl<;>simp[zP]) (by simpa using ha)
theorem zqh {k:Int} {a b:Tree} (h:k=5∨k=6∨k=8∨k=9) (ha:a.wf zP) (hb:b.wf zP):(vx k a b).wf zP:=zcB (by
 unfold yC
 have e1:(Tree.node k 0 [a,b]).kind=k:=rfl
 have e2:(Tree.node k 0 [a,b]).num=0:=rfl
 have e3:(Tree.node k 0 [a,b]).width=2:=rfl
 rw[e1,e2,e3]
 rcases h with rfl|rfl|rfl|rfl<;>simp[zP]) (by simpa using ⟨ha,hb⟩)
theorem qI {t:Tree} (hw:t.wf zP) (h:t.kind=4∨t.kind=7∨t.kind=10∨t.kind=11):0<t.width:=by
 have:=vZ ((xM _ _).1 hw).1
 omega
theorem zsm:∀(t:Tree),t.wf zP→(yg t).wf zP:=by
 intro t
 induction t using Tree.ind with
 | h t ih =>
  intro hw
  have hn:=zlX hw
  rw[Qv t λh=>qI hw zo]
  by_cases h10:t.kind=10
  ·rw[if_pos h10]
   have h0:=qI hw zo
   exact zqh zo (zp8 zo zo zo) (ih 0 h0 (x9 hw h0))
  ·rw[if_neg h10]
   by_cases h11:t.kind=11
   ·rw[if_pos h11]
    have h0:=qI hw zo
    exact zqh zo (zp8 zo zo zo) (ih 0 h0 (x9 hw h0))
   ·rw[if_neg h11]
    exact zxT hw rfl zo zo λj hj=>ih j hj (x9 hw hj)
theorem zkP:∀t:Tree,t.wf zP→zq Tryz.prog 145 [zZ t] (zZ (yg t)):=by
 intro t
 induction t using Tree.ind with
 | h t ih =>
  intro hwf
  have hs:=WU t hwf
  have hsz:=hs.width
  have har:=vZ ((xM _ _).1 hwf).1
  refine za zvA zs (by simp[ze,zm]) ?_ (zm _)
  have hE:=Qv t λh=>qI hwf zo
  refine sR ?_
  refine WM (λk:Nat=>[(1,.loc 0 0),(2,.loc 1 0),(3,.loc 2 0),(12,.xj 3 (t.kids.map y6)),(13,.sc (.int .i64 (t.kids.map y6).length)),(14,.sc (.int .i64 k))])
   (λk=>[.row true (yo t),.row true [.sc (.int .i64 0),.sc (.int .i64 0),.sc (.slice none 0 0)],.row true [.sc (.int .i64 t.kind),.sc (.int .i64 t.num),.own 3 k 0 k],.vec true k 3 ((t.kids.take k).map λu=>yo (yg u))])
   (λk=>k≤t.width) (λk=>t.width-k) 0 zo (wT (yV 2 2 3 zs rfl rfl) (zau ⟨rfl,rfl,rfl,rfl,rfl,rfl,trivial⟩)) ?_
  rintro k hk
  refine sR ?_
  refine sS (λh1=>?_) λh1=>?_
  ·have hk':k<t.width:=by simpa [Tree.width] using h1
   refine sL (y8 hk') ?_
   refine sC (ih k hk' (x9 hwf hk')) ?_
   refine⟨by unfold xd;simp only[List.drop_zero,List.take_succ_cons,List.take_zero,List.length_cons,List.length_nil];omega,?_⟩
   refine sW ?_
   refine .inl ⟨by unfold InR;rw[IntKind.wrap_i64];unfold Tree.width at *;omega,?_⟩
   refine sW ?_
   refine⟨k+1,zo,zd,zj 4 zs rfl ⟨.refl _,by simp[zt],.refl _,by simp[zt],.refl _,by simp[zt],.refl _,by simp only[zt];exact zh _ (xG t),.refl _,by simp[zt],.refl _,by simp[zt],trivial⟩
    ⟨⟨rfl,.refl _,zr _ (ym t)⟩,⟨rfl,.refl _,by simp[zl,zt]⟩,⟨rfl,.refl _,by simp[zl,zt]⟩,⟨rfl,rfl,rfl,zp (zfH _ (kid_get? hk')),zh _ (zC _ (λu=>ym _) _)⟩,trivial⟩⟩
  ·have hk':k=t.width:=by have:¬k<t.width:=by simpa [Tree.width] using h1
                          omega
   subst hk'
   refine zG (Z9 (YZ 3) (env':=[(1,.loc 0 0),(2,.loc 1 0),(3,.loc 2 0)]) (H':=[.row true (yo t),.row true [.sc (.int .i64 0),.sc (.int .i64 0),.sc (.slice none 0 0)],.row true [.sc (.int .i64 t.kind),.sc (.int .i64 t.num),.xj 3 ((t.kids.map yg).map y6)],.vec false t.width 3 ((t.kids.take t.width).map λu=>yo (yg u))])
    ⟨.refl _,.refl _,.refl _,trivial⟩ ⟨⟨.inl rfl,(λh=>by cases h),.refl _⟩,⟨.inl rfl,(λh=>by cases h),.refl _⟩,⟨.inl rfl,(λh=>by cases h),.cons _ _ _ _ (.refl _) (.cons _ _ _ _ (.refl _) (.cons _ _ _ _ (.own 3 _ _ _ _ _ _ _ rfl rfl (zp (by rw[List.drop_zero,List.take_of_length_le (by simp[Tree.width]),Tree.width,List.take_length,List.map_map];exact List.map_congr_left λu _=>(Zj _).symm))) (.refl _)))⟩,⟨.inr ⟨rfl,rfl⟩,λ_=>rfl,rfl,rfl,.refl _⟩,trivial⟩) ?_
   have k0:0<t.width→((t.kids.map yg).map y6)[0]? = some (yo (yg (t.yD 0))):=λh=>by
    rw[List.getElem?_map,List.getElem?_map,kid_get? h];simp[Zj]
   refine sR ?_
   refine sS (λh10=>?_) λh10=>?_
   ·have h10:t.kind=10:=by simpa using h10
    rw[if_pos h10] at hE
    refine sC (zgr 1) ?_
    refine sL (k0 (qI hwf zo)) ?_
    refine sC (zjO 8 (yB 1 0) (yg (t.yD 0))) ?_
    exact ZJ hE (.refl _)
   have h10:¬t.kind=10:=by simpa using h10
   rw[if_neg h10] at hE
   refine sS (λh11=>?_) λh11=>?_
   ·have h11:t.kind=11:=by simpa using h11
    rw[if_pos h11] at hE
    refine sC (zgr 2) ?_
    refine sL (k0 (qI hwf zo)) ?_
    refine sC (zjO 9 (yB 2 0) (yg (t.yD 0))) ?_
    exact ZJ hE (.refl _)
   have h11:¬t.kind=11:=by simpa using h11
   rw[if_neg h11] at hE
   exact ZJ hE (.refl _)
theorem zoj (t:Tree) (hs:Small t):zq Tryz.prog 144 [zZ t] (if yJ zP t=0 then .yO [zZ t,.sc (.int .i64 0)] else .yO [zZ (yB 0 0),.sc (.int .i64 (yJ zP t))]):=by
 refine za zvK zs (by simp[ze,zm]) ?_ (by split<;>simp[Pure,ze,zm])
 refine sR ?_
 refine sC (Xk t hs) ?_
 refine sS (λh=>?_) λh=>?_
 ·have h':yJ zP t≠0:=by simpa using h
  rw[if_neg h']
  exact sP
 ·have h':yJ zP t=0:=by simpa using h
  rw[if_pos h']
  exact sP
noncomputable def ZP (t u:Tree):Tree × Int:=if yJ zP t=0 then if yJ zP u=0 then (u,0) else (yB 0 0,yJ zP u) else (yB 0 0,yJ zP t)
theorem zlN (t:Tree) (hs:Small t):zq Tryz.prog 71 [zZ t] (.yO [zZ (ZP t (yg t)).1,.sc (.int .i64 (ZP t (yg t)).2)]):=by
 refine za zzh zs (by simp[ze,zm]) ?_ (by simp[Pure,ze,zm])
 refine sR ?_
 refine sC (Xk t hs) ?_
 refine sS (λh=>?_) λh=>?_
 ·have h':yJ zP t≠0:=by simpa using h
  rw[show ZP t (yg t)=(yB 0 0,yJ zP t) by rw[ZP,if_neg h']]
  exact sP
 ·have h':yJ zP t=0:=by simpa using h
  have hwf:=((qG _ _).1 h').2.2
  refine sC (zkP t hwf) ?_
  have hT:=zoj (yg t) (WU _ (zsm t hwf))
  by_cases h2:yJ zP (yg t)=0
  ·rw[if_pos h2] at hT
   rw[show ZP t (yg t)=(yg t,0) by rw[ZP,if_pos h',if_pos h2]]
   refine sC hT ?_
   exact sP
  ·rw[if_neg h2] at hT
   rw[show ZP t (yg t)=(yB 0 0,yJ zP (yg t)) by rw[ZP,if_pos h',if_neg h2]]
   refine sC hT ?_
   exact sP
end
section
open Go.RowKit
mutual
def ye:Tree→List Int
 | .node k n ks=>(if k=3 then [n] else [])++zX ks
def zX:List Tree→List Int
 | []=>[]
 | t::r=>ye t++zX r
end
mutual
def partsOf:Tree→List Tree
 | .node k n ks=>(if k=7∨k=8∨k=9 then [.node k n ks] else [])++zU ks
def zU:List Tree→List Tree
 | []=>[]
 | t::r=>partsOf t++zU r
end
theorem Jc (t:Tree):ye t=(if t.kind=3 then [t.num] else [])++zX t.kids:=by cases t;rw[ye];rfl
theorem Ji (t:Tree):partsOf t=(if t.kind=7∨t.kind=8∨t.kind=9 then [t] else [])++zU t.kids:=by cases t;rw[partsOf];rfl
theorem Ze:∀l,zX l=l.flatMap ye
 | []=>rfl
 | t::r=>by rw[zX,Ze r,List.flatMap_cons]
theorem Zd:∀l,zU l=l.flatMap partsOf
 | []=>rfl
 | t::r=>by rw[zU,Zd r,List.flatMap_cons]
theorem ziS {t:Tree} {k:Nat} (h:k<t.width):t.kids.take (k+1)=t.kids.take k++[t.yD k]:=by
 rw[List.take_add_one,kid_get? h]
 rfl
theorem wR {t:Tree} {k:Nat} (h:k<t.width):zX (t.kids.take (k+1))=zX (t.kids.take k)++ye (t.yD k):=by
 rw[ziS h,Ze,Ze,List.flatMap_append]
 simp
theorem wO {t:Tree} {k:Nat} (h:k<t.width):zU (t.kids.take (k+1))=zU (t.kids.take k)++partsOf (t.yD k):=by
 rw[ziS h,Zd,Zd,List.flatMap_append]
 simp
def vL (A:List Int) (xs:List Int):List Int:=xs.foldl (λA x=>if A.contains x=true then A else A++[x]) A
noncomputable def we (P:List Tree) (xs:List Tree):List Tree:=xs.foldl (λP f=>if P.any (QN f)=true then P else P++[f]) P
theorem vl (A x y:List Int):vL A (x++y)=vL (vL A x) y:=List.foldl_append
theorem x6 (P x y:List Tree):we P (x++y)=we (we P x) y:=List.foldl_append
theorem Un (A:List Int) (x:Int):vL A [x]=if A.contains x=true then A else A++[x]:=rfl
theorem Yq (P:List Tree) (x:Tree):we P [x]=if P.any (QN x)=true then P else P++[x]:=rfl
theorem uY (xs:List Int):∀A,(vL A xs).length≤A.length+xs.length:=by
 induction xs with
 | nil=>intro A;simp[vL]
 | cons x r ih =>
  intro A
  rw[show x::r=[x]++r from rfl,vl,Un]
  split
  ·have:=ih A;simp only[List.length_append,List.length_singleton];omega
  ·have:=ih (A++[x]);simp only[List.length_append,List.length_singleton] at *;omega
theorem uW (xs:List Tree):∀A,(we A xs).length≤A.length+xs.length:=by
 induction xs with
 | nil=>intro A;simp[we]
 | cons x r ih =>
  intro A
  rw[show x::r=[x]++r from rfl,x6,Yq]
  split
  ·have:=ih A;simp only[List.length_append,List.length_singleton];omega
  ·have:=ih (A++[x]);simp only[List.length_append,List.length_singleton] at *;omega
theorem zni {P:List Tree} {x:Tree}:P.any (QN x)=true↔x∈P:=by
 rw[List.any_eq_true]
 constructor
 ·rintro⟨y,hy,h⟩;rw[zcz] at h;exact h▸hy
 ·exact λh=>⟨x,h,zcz.2 rfl⟩
theorem zrI {x:Int} (xs:List Int):∀A,x∈vL A xs↔x∈A∨x∈xs:=by
 induction xs with
 | nil=>intro A;simp[vL]
 | cons y r ih =>
  intro A
  rw[show y::r=[y]++r from rfl,vl,Un,ih]
  split
  ·rename_i h
   rw[List.contains_iff_mem] at h
   simp only[List.mem_append,List.mem_singleton]
   constructor
   ·rintro(a|a)<;>simp[a]
   ·rintro(a|rfl|a)
    ·exact .inl a
    ·exact .inl h
    ·exact .inr a
  ·simp only[List.mem_append,List.mem_singleton]
   constructor
   ·rintro((a|a)|a)<;>simp[a]
   ·rintro(a|a|a)<;>simp[a]
theorem zep {x:Tree} (xs:List Tree):∀A,x∈we A xs↔x∈A∨x∈xs:=by
 induction xs with
 | nil=>intro A;simp[we]
 | cons y r ih =>
  intro A
  rw[show y::r=[y]++r from rfl,x6,Yq,ih]
  split
  ·rename_i h
   rw[zni] at h
   simp only[List.mem_append,List.mem_singleton]
   constructor
   ·rintro(a|a)<;>simp[a]
   ·rintro(a|rfl|a)
    ·exact .inl a
    ·exact .inl h
    ·exact .inr a
  ·simp only[List.mem_append,List.mem_singleton]
   constructor
   ·rintro((a|a)|a)<;>simp[a]
   ·rintro(a|a|a)<;>simp[a]
theorem zlR (xs:List Int):∀A,A.Nodup→(vL A xs).Nodup:=by
 induction xs with
 | nil=>intro A h;exact h
 | cons y r ih =>
  intro A h
  rw[show y::r=[y]++r from rfl,vl,Un]
  split
  ·exact ih A h
  ·rename_i q
   rw[List.contains_iff_mem] at q
   refine ih _ (List.nodup_append.2 ⟨h,zs,λa ha b hb=>?_⟩)
   rw[List.mem_singleton] at hb
   subst hb
   exact λe=>q (e▸ha)
mutual
theorem zio:∀t:Tree,(ye t).length≤t.size
 | .node k n ks=>by
  rw[ye,Tree.size,List.length_append]
  have:=zgw ks
  split<;>simp<;>omega
theorem zgw:∀l:List Tree,(zX l).length≤Tree.Zu l
 | []=>by simp[zX]
 | t::r=>by
  rw[zX,Tree.Zu,List.length_append]
  have:=zio t
  have:=zgw r
  omega
end
mutual
theorem ziz:∀t:Tree,(partsOf t).length≤t.size
 | .node k n ks=>by
  rw[partsOf,Tree.size,List.length_append]
  have:=zgY ks
  split<;>simp<;>omega
theorem zgY:∀l:List Tree,(zU l).length≤Tree.Zu l
 | []=>by simp[zU]
 | t::r=>by
  rw[zU,Tree.Zu,List.length_append]
  have:=ziz t
  have:=zgY r
  omega
end
def vT (k:Int):Int:=if k=10∨k=11 then -1 else zP k
theorem zix {t:Tree}:t.wf vT→t.wf zP:=by
 induction t using Tree.ind with
 | h t ih =>
  intro h
  rw[xM] at h ⊢
  refine⟨?_,λu hu=>?_⟩
  ·have h1:=h.1
   unfold yC vT at h1
   unfold yC
   by_cases q:t.kind=10∨t.kind=11
   ·rw[if_pos q] at h1;omega
   ·rw[if_neg q] at h1;exact h1
  ·obtain⟨j,hj,rfl⟩:=List.mem_iff_getElem.1 hu
   rw[←Tree.uD hj] at *
   exact ih j hj (h.2 _ (by rw[Tree.uD hj];exact List.getElem_mem hj))
theorem zaT {t:Tree} (h:t.wf vT):(t.kind=1∨t.kind=2∨t.kind=3)∧t.width=0∨(t.kind=4∨t.kind=7)∧t.width=1∨(t.kind=5∨t.kind=6∨t.kind=8∨t.kind=9)∧t.width=2:=by
 have h1:=((xM _ _).1 h).1
 have h2:=vZ ((xM _ _).1 (zix h)).1
 have h3:¬(t.kind=10∨t.kind=11):=λq=>by
  unfold yC vT at h1
  rw[if_pos q] at h1
  omega
 omega
theorem zef {k n:Int} {ks:List Tree} (h:¬yC vT (.node k n ks)) (hk:∀u∈ks,u.wf vT):(Tree.node k n ks).wf vT:=(xM _ _).2 ⟨h,hk⟩
theorem znh:∀(t:Tree),t.wf zP→(yg t).wf vT:=by
 intro t
 induction t using Tree.ind with
 | h t ih =>
  intro hw
  have hn:=zlX hw
  have har:=vZ ((xM _ _).1 hw).1
  have m2:∀{k c:Int} {b:Tree},k=8∨k=9→c=1∨c=2→b.wf vT→(vx k (yB c 0) b).wf vT:=λ{k c b} hk hc hb=>zef (by
   unfold yC
   have e1:(Tree.node k 0 [yB c 0,b]).kind=k:=rfl
   have e2:(Tree.node k 0 [yB c 0,b]).num=0:=rfl
   have e3:(Tree.node k 0 [yB c 0,b]).width=2:=rfl
   rw[e1,e2,e3]
   rcases hk with rfl|rfl<;>simp[vT,zP]) (by
   intro u hu
   rw[List.mem_cons,List.mem_singleton] at hu
   rcases hu with rfl|rfl
   ·refine zef ?_ zs
    unfold yC
    have e1:(Tree.node c 0 []).kind=c:=rfl
    have e2:(Tree.node c 0 []).num=0:=rfl
    have e3:(Tree.node c 0 []).width=0:=rfl
    rw[e1,e2,e3]
    rcases hc with rfl|rfl<;>simp[vT,zP]
   ·exact hb)
  rw[Qv t λh=>qI hw zo]
  by_cases h10:t.kind=10
  ·rw[if_pos h10]
   have h0:=qI hw zo
   exact m2 zo zo (ih 0 h0 (x9 hw h0))
  ·rw[if_neg h10]
   by_cases h11:t.kind=11
   ·rw[if_pos h11]
    have h0:=qI hw zo
    exact m2 zo zo (ih 0 h0 (x9 hw h0))
   ·rw[if_neg h11]
    refine zef ?_ λu hu=>?_
    ·unfold yC vT
     have e1:(Tree.node t.kind t.num (t.kids.map yg)).kind=t.kind:=rfl
     have e2:(Tree.node t.kind t.num (t.kids.map yg)).num=t.num:=rfl
     have e3:(Tree.node t.kind t.num (t.kids.map yg)).width=t.width:=List.length_map ..
     rw[e1,e2,e3,if_neg zo]
     exact((xM _ _).1 hw).1
    ·obtain⟨v,hv,rfl⟩:=List.mem_map.1 hu
     obtain⟨j,hj,rfl⟩:=List.mem_iff_getElem.1 hv
     rw[←Tree.uD hj]
     exact ih j hj (x9 hw hj)
def qQ (k:Int) (c:Bool) (h:List Bool):Bool :=
 if k=1 then true else if k=2 then false else if k=4 then !(h.getD 0 false) else if k=5 then h.getD 0 false&&h.getD 1 false else if k=6 then h.getD 0 false||h.getD 1 false
 else if k=8 then h.getD 1 false||(h.getD 0 false&&c) else if k=9 then h.getD 1 false&&(h.getD 0 false||c) else c
mutual
def yq (c:Tree→Bool):Tree→Bool
 | .node k n ks=>qQ k (c (.node k n ks)) (zhW c ks)
def zhW (c:Tree→Bool):List Tree→List Bool
 | []=>[]
 | t::r=>yq c t::zhW c r
end
theorem zeK (c:Tree→Bool):∀l,zhW c l=l.map (yq c)
 | []=>rfl
 | t::r=>by rw[zhW,zeK c r,List.map_cons]
theorem u9 (c:Tree→Bool) (t:Tree):yq c t=qQ t.kind (c t) (t.kids.map (yq c)):=by cases t;rw[yq,zeK];rfl
theorem uj (c:Tree→Bool) {t:Tree} {j:Nat} (h:j<t.width):(t.kids.map (yq c)).getD j false=yq c (t.yD j):=by
 rw[List.getD_eq_getElem?_getD,List.getElem?_map,kid_get? h]
 rfl
noncomputable def zrA (A:List Int) (P:List Tree) (g:Tree):Nat:=if g.kind=3 then (wA (λa=>g.num==a) A).toNat else A.length+(wA (QN g) P).toNat
noncomputable def X8 (A:List Int) (P:List Tree) (s:Nat) (g:Tree):Bool:=s.testBit (zrA A P g)
def Told (A:List Int) (P:List Tree) (t:Tree):Prop:=(∀x∈ye t,x∈A)∧∀f∈partsOf t,f∈P
theorem zlo {l:List Tree} {t:Tree} {x:Int} (h:t∈l) (hx:x∈ye t):x∈zX l:=by
 rw[Ze];exact List.mem_flatMap.2 ⟨t,h,hx⟩
theorem zlg {l:List Tree} {t x:Tree} (h:t∈l) (hx:x∈partsOf t):x∈zU l:=by
 rw[Zd];exact List.mem_flatMap.2 ⟨t,h,hx⟩
theorem Qu {t:Tree} {j:Nat} (h:j<t.width):t.yD j∈t.kids:=by rw[Tree.uD h];exact List.getElem_mem h
theorem Told.yD {A:List Int} {P:List Tree} {t:Tree} (h:Told A P t) {j:Nat} (hj:j<t.width):Told A P (t.yD j) :=
 ⟨λx hx=>h.1 x (by rw[Jc];exact List.mem_append_right _ (zlo (Qu hj) hx)),λx hx=>h.2 x (by rw[Ji];exact List.mem_append_right _ (zlg (Qu hj) hx))⟩
theorem Told.atom {A:List Int} {P:List Tree} {t:Tree} (h:Told A P t) (h3:t.kind=3):t.num∈A:=h.1 _ (by rw[Jc,if_pos h3];simp)
theorem Told.part {A:List Int} {P:List Tree} {t:Tree} (h:Told A P t) (h3:t.kind=7∨t.kind=8∨t.kind=9):t∈P:=h.2 _ (by rw[Ji,if_pos h3];simp)
mutual
theorem zdo:∀(t:Tree),∀f∈partsOf t,(∀x∈ye f,x∈ye t)∧(∀g∈partsOf f,g∈partsOf t)
 | .node k n ks=>λf hf=>by
  rw[partsOf,List.mem_append] at hf
  rcases hf with hf|hf
  ·split at hf
   ·rw[List.mem_singleton] at hf;subst hf;exact⟨λx h=>h,λx h=>h⟩
   ·cases hf
  ·obtain⟨h1,h2⟩:=zca ks f hf
   exact⟨λx hx=>by rw[ye];exact List.mem_append_right _ (h1 x hx),λx hx=>by rw[partsOf];exact List.mem_append_right _ (h2 x hx)⟩
theorem zca:∀(l:List Tree),∀f∈zU l,(∀x∈ye f,x∈zX l)∧(∀g∈partsOf f,g∈zU l)
 | []=>λf hf=>by cases hf
 | t::r=>λf hf=>by
  rw[zU,List.mem_append] at hf
  rcases hf with hf|hf
  ·obtain⟨h1,h2⟩:=zdo t f hf
   exact⟨λx hx=>by rw[zX];exact List.mem_append_left _ (h1 x hx),λx hx=>by rw[zU];exact List.mem_append_left _ (h2 x hx)⟩
  ·obtain⟨h1,h2⟩:=zca r f hf
   exact⟨λx hx=>by rw[zX];exact List.mem_append_right _ (h1 x hx),λx hx=>by rw[zU];exact List.mem_append_right _ (h2 x hx)⟩
end
mutual
theorem zkd (kd:Int→Int):∀(t:Tree),t.wf kd→∀f∈partsOf t,f.wf kd∧(f.kind=7∨f.kind=8∨f.kind=9)
 | .node k n ks=>λhw f hf=>by
  rw[partsOf,List.mem_append] at hf
  rcases hf with hf|hf
  ·split at hf
   ·rename_i h
    rw[List.mem_singleton] at hf;subst hf;exact⟨hw,h⟩
   ·cases hf
  ·exact zgp kd ks (λu hu=>((xM _ _).1 hw).2 u hu) f hf
theorem zgp (kd:Int→Int):∀(l:List Tree),(∀u∈l,u.wf kd)→∀f∈zU l,f.wf kd∧(f.kind=7∨f.kind=8∨f.kind=9)
 | []=>λ_ f hf=>by cases hf
 | t::r=>λhw f hf=>by
  rw[zU,List.mem_append] at hf
  rcases hf with hf|hf
  ·exact zkd kd t (hw t zs) f hf
  ·exact zgp kd r (λu hu=>hw u (by simp[hu])) f hf
end
mutual
theorem Yt:∀(t:Tree),t.wf zP→∀x∈ye t,0≤x∧x≤63
 | .node k n ks=>λhw x hx=>by
  rw[ye,List.mem_append] at hx
  rcases hx with hx|hx
  ·split at hx
   ·rw[List.mem_singleton] at hx;subst hx;have:=zlX hw;exact⟨this.1,this.2.1⟩
   ·cases hx
  ·exact JF ks (λu hu=>((xM _ _).1 hw).2 u hu) x hx
theorem JF:∀(l:List Tree),(∀u∈l,u.wf zP)→∀x∈zX l,0≤x∧x≤63
 | []=>λ_ f hf=>by cases hf
 | t::r=>λhw f hf=>by
  rw[zX,List.mem_append] at hf
  rcases hf with hf|hf
  ·exact Yt t (hw t zs) f hf
  ·exact JF r (λu hu=>hw u (by simp[hu])) f hf
end
theorem zjT (s k:Nat) (hk:k≤63):(s:Int).fdiv (2^min ((k:Int)).toNat 64)=((s/2^k:Nat):Int):=by
 rw[Int.toNat_natCast,Nat.min_eq_left zo,Int.fdiv_eq_ediv_of_nonneg _ (by exact Int.le_of_lt (Int.pow_pos zc))]
 rw[Int.natCast_ediv]
 simp
theorem zrb (n:Nat):vd .and .i64 (n:Int) 1=((n%2:Nat):Int):=by
 have e:(BitVec.ofInt 64 (n:Int) &&& BitVec.ofInt 64 1).toNat=n%2:=by
  rw[BitVec.toNat_and]
  have e1:(BitVec.ofInt 64 (n:Int)).toNat=n%18446744073709551616:=by rw[BitVec.toNat_ofInt];omega
  have e2:(BitVec.ofInt 64 1).toNat=1:=zc
  rw[e1,e2,Nat.and_one_is_mod]
  omega
 show IntKind.i64.wrap ((BitVec.ofInt 64 (n:Int) &&& BitVec.ofInt 64 1).toNat:Int)=_
 rw[e,IntKind.wrap_i64]
 omega
theorem zu1 (s k:Nat):s.testBit k=(((s/2^k%2:Nat):Int)==1):=by
 rw[Nat.testBit_eq_decide_div_mod_eq,Bool.eq_iff_iff,decide_eq_true_eq,beq_iff_eq]
 omega
theorem zp5 (s k:Nat) (hk:k≤63):(vd .and .i64 ((s:Int).fdiv (2^min ((k:Int)).toNat 64)) 1==1)=s.testBit k:=by
 rw[zjT s k hk,zrb,zu1]
theorem zzM (a i:Nat) (h:a<2^i) (hi:i≤40):vd .or .i64 (a:Int) ((2^i:Nat):Int)=((a+2^i:Nat):Int):=by
 have hp:2^i≤2^40:=Nat.pow_le_pow_right zo hi
 have h40:(2:Nat)^40=1099511627776:=zc
 have e:(BitVec.ofInt 64 (a:Int) ||| BitVec.ofInt 64 ((2^i:Nat):Int)).toNat=a+2^i:=by
  rw[BitVec.toNat_or]
  have e1:(BitVec.ofInt 64 (a:Int)).toNat=a:=by rw[BitVec.toNat_ofInt];omega
  have e2:(BitVec.ofInt 64 ((2^i:Nat):Int)).toNat=2^i:=by
   generalize 2^i=z at *
   rw[BitVec.toNat_ofInt];omega
  have:=Nat.two_pow_add_eq_or_of_lt h 1
  rw[Nat.mul_one] at this
  rw[e1,e2,Nat.or_comm,←this,Nat.add_comm]
 show IntKind.i64.wrap ((BitVec.ofInt 64 (a:Int) ||| BitVec.ofInt 64 ((2^i:Nat):Int)).toNat:Int)=_
 rw[e,IntKind.wrap_i64]
 omega
def XO (h:Nat→Bool):Nat→Nat
 | 0=>0
 | i+1=>if h i=true then XO h i+2^i else XO h i
theorem Ve (h:Nat→Bool):∀n,XO h n<2^n
 | 0=>by rw[XO];exact Nat.one_pos
 | n+1=>by
  have:=Ve h n
  rw[XO,Nat.pow_succ]
  split<;>omega
theorem Yd (h:Nat→Bool):∀n i,i<n→(XO h n).testBit i=h i
 | 0,i,hi=>zo
 | n+1,i,hi=>by
  have hl:=Ve h n
  rw[XO]
  by_cases e:i=n
  ·subst e
   cases q:h i
   ·rw[if_neg zc]
    exact Nat.testBit_lt_two_pow hl
   ·rw[if_pos rfl,Nat.add_comm]
    rw[Nat.testBit_two_pow_add_eq,Nat.testBit_lt_two_pow hl]
    rfl
  ·have:=Yd h n i zo
   split
   ·rw[Nat.add_comm,Nat.testBit_two_pow_add_gt zo]
    exact this
   ·exact this
def Zb (g:Tree):Tree:=if g.kind=7 then g.yD 0 else g
noncomputable def hK (A:List Int) (P:List Tree) (s i:Nat):Bool:=yq (X8 A P s) (Zb (P.getD i default))
noncomputable def W1 (A:List Int) (P:List Tree) (s:Nat):Nat:=XO (hK A P s) P.length
theorem zjc (A:List Int) (P:List Tree) (s t:Nat) (hs:s<2^(A.length+P.length)):(W1 A P t==s/2^A.length)=(List.range P.length).all λi=>hK A P t i==s.testBit (A.length+i):=by
 rw[Bool.eq_iff_iff,beq_iff_eq,List.all_eq_true]
 have hd:s/2^A.length<2^P.length:=by
  rw[Nat.div_lt_iff_lt_mul (Nat.two_pow_pos _),Nat.mul_comm,←Nat.pow_add]
  exact hs
 constructor
 ·intro h i hi
  have hi:=List.mem_range.1 hi
  rw[beq_iff_eq,←Yd (hK A P t) P.length i hi]
  have:XO (hK A P t) P.length=s/2^A.length:=h
  rw[this,Nat.testBit_div_two_pow,Nat.add_comm]
 ·intro h
  apply Nat.eq_of_testBit_eq
  intro i
  by_cases hi:i<P.length
  ·have:=h i (List.mem_range.2 hi)
   rw[beq_iff_eq] at this
   rw[show(W1 A P t).testBit i=hK A P t i from Yd _ _ i hi,this,Nat.testBit_div_two_pow,Nat.add_comm]
  ·have hle:2^P.length≤2^i:=Nat.pow_le_pow_right zo zo
   exact(Nat.testBit_lt_two_pow (Nat.lt_of_lt_of_le (Ve (hK A P t) P.length) hle)).trans (Nat.testBit_lt_two_pow (Nat.lt_of_lt_of_le hd hle)).symm
def xK (A:List Int) (s:Nat) (is:Bool):Nat→Int
 | 0=>0
 | i+1=>if (s.testBit i==is)=true then vd .or .u64 (xK A s is i) (2^(A.getD i 0).toNat) else xK A s is i
def vQ (p:Nat→Bool) (k:Nat):List Int:=((List.range k).filter p).map λi:Nat=>(i:Int)
theorem Jh (p:Nat→Bool) (k:Nat):vQ p (k+1)=if p k=true then vQ p k++[(k:Int)] else vQ p k:=by
 unfold vQ
 rw[List.range_succ,List.filter_append,List.map_append]
 simp only[List.filter_cons,List.filter_nil]
 split<;>simp
theorem ZV (p:Nat→Bool) (k:Nat):(vQ p k).length≤k:=by
 unfold vQ
 rw[List.length_map]
 exact Nat.le_trans (List.length_filter_le _ _) zs
noncomputable def Zv (A:List Int) (P:List Tree) (g:Tree) (s:Nat):Bool :=
 if g.kind=8 then !(yq (X8 A P s) g)||yq (X8 A P s) (g.yD 1) else yq (X8 A P s) g||!(yq (X8 A P s) (g.yD 1))
noncomputable def ziZ (A:List Int) (P:List Tree) (n:Nat) (g:Tree):List Int:=vQ (Zv A P g) (2^n)
noncomputable def uz (A:List Int) (P:List Tree) (n k:Nat):List (List Int):=((P.take k).filter λg=>g.kind != 7).map (ziZ A P n)
theorem zjP (A:List Int) (P:List Tree) (n:Nat) {k:Nat} (h:k<P.length):uz A P n (k+1)=if (P.getD k default).kind=7 then uz A P n k else uz A P n k++[ziZ A P n (P.getD k default)]:=by
 unfold uz
 rw[List.take_add_one,List.getElem?_eq_getElem h,Option.toList_some,List.filter_append,List.map_append,List.getD_eq_getElem?_getD,List.getElem?_eq_getElem h]
 simp only[List.filter_cons,List.filter_nil,Option.getD_some]
 by_cases q:P[k].kind=7
 ·simp[q]
 ·simp[q]
theorem Jq (A:List Int) (P:List Tree) (n k:Nat):(uz A P n k).length≤k:=by
 unfold uz
 rw[List.length_map]
 exact Nat.le_trans (List.length_filter_le _ _) (by simp;omega)
noncomputable def QS (A:List Int) (P:List Tree) (n s:Nat):List Int:=vQ (λt=>W1 A P t==s/2^A.length) (2^n)
noncomputable def Zm (A:List Int) (P:List Tree) (f:Tree):yh :=
 ⟨vQ (λs=>yq (X8 A P s) f) (2^(A.length+P.length)),(List.range (2^(A.length+P.length))).map (QS A P (A.length+P.length)),
  (List.range (2^(A.length+P.length))).map λs=>xK A s true A.length,(List.range (2^(A.length+P.length))).map λs=>xK A s false A.length,uz A P (A.length+P.length) P.length⟩
def Y3 (xs:List Int):List Int:=vQ (λn=>xs.contains (n:Int)) 64
noncomputable def zub (f:Tree):D :=
 let A:=Y3 (ye f)
 let P:=we [] (partsOf f)
 if 10<A.length+P.length then .yO [V4 ⟨[],[],[],[],[]⟩,.sc (.int .i64 2)] else .yO [V4 (Zm A P f),.sc (.int .i64 0)]
theorem za6 {xs:List Int} (h:∀x∈xs,0≤x∧x≤63) {x:Int}:x∈Y3 xs↔x∈xs:=by
 unfold Y3 vQ
 simp only[List.mem_map,List.mem_filter,List.mem_range,List.contains_iff_mem]
 constructor
 ·rintro⟨n,⟨_,h2⟩,rfl⟩;exact h2
 ·intro hx
  have:=h x hx
  exact⟨x.toNat,⟨zo,by rw[show((x.toNat:Nat):Int)=x by omega];exact hx⟩,zo⟩
theorem Q5 {f:Tree} (hw:f.wf zP):Told (Y3 (ye f)) (we [] (partsOf f)) f :=
 ⟨λx hx=>(za6 (Yt f hw)).2 hx,λx hx=>(zep _ _).2 (.inr hx)⟩
theorem zot {f:Tree} (hw:f.wf zP) {g:Tree} (hg:g∈we [] (partsOf f)):Told (Y3 (ye f)) (we [] (partsOf f)) g:=by
 have hg:g∈partsOf f:=((zep _ _).1 hg).resolve_left zs
 obtain⟨h1,h2⟩:=zdo f g hg
 have h:=Q5 hw
 exact⟨λx hx=>h.1 x (h1 x hx),λx hx=>h.2 x (h2 x hx)⟩
end
section
open Go.RowKit
def zyK:PC:=.seq (OP [Bi 31 .lss 30 29]) (.seq (.cond 31 .skip (.exit 0)) (.seq (.block 1 (.seq (OP [qm 32 30,qm 5 32]) (.seq (.ops [Fa 33 2 2,qd 34 (.zg 33) 1,qm 35 5,qd 36 (.zM 3 34 35) 7,qd 37 (.vw 3 36) 15,Fa 38 2 3,qd 39 (.zg 38) 32,qm 40 5,qd 41 (.zM 3 39 40) 224,qd 42 (.vw 3 41) 480,qd 43 (.call 196 [37,42]) 1023,qd 44 (.un .not 43) 2047] true) (.cond 44 (.seq (OP [Mv 4 cF]) .ret) .skip)))) (OP [Bi 45 .add 30 (cI 1),qm 30 45])))
def c196:PC:=.seq (OP [Bx 2 0,Bx 3 1,Mv 4 cF]) (.seq (.seq (OP [Fa 6 0 2,Lo 7 6,Fa 8 0 3,Lo 9 8,Bi 10 .neq 7 9,qm 11 10,GF 12 11 (.zz 1 2),GF 13 11 (.zg 12),GF 14 11 (.zz 1 3),GF 15 11 (.zg 14),GF 16 11 (.bin .neq 13 15),Pk 17 11 cT 16,qm 18 17,GF 19 18 (.zz 2 2),GF 20 18 (.zg 19),GF 21 18 (.len 20),GF 22 18 (.zz 2 3),GF 23 18 (.zg 22),GF 24 18 (.len 23),GF 25 18 (.bin .neq 21 24),Pk 26 18 cT 25]) (.cond 26 (.seq (OP [Mv 4 cF]) .ret) .skip)) (.seq (.seq (OP [Fa 27 2 2,Lo 28 27,Ln 29 28,Mv 30 (cI 0)]) (.block 0 (.loop zyK))) (.seq (OP [Mv 4 cT]) .ret)))
theorem zuQ:zy Tryz.prog 196 46 [.tmp 4] c196:=fK Tryz.func196
theorem zol:∀a b:Tree,Small a→zq Tryz.prog 196 [zZ a,zZ b] (.sc (.bool (QN a b))):=by
 intro a
 induction a using Tree.ind with
 | h a ih =>
  intro b hs
  refine za zuQ zs (by simp[ze,zm]) ?_ (by simp[Pure])
  refine sR ?_
  have no:a.kind≠b.kind∨a.num≠b.num∨a.kids.length≠b.kids.length→false=QN a b:=λh=>zf4 (by rintro rfl;simp at h)
  refine sS (λh1=>?_) λh1=>?_
  ·exact yA (congrArg (λx=>D.sc (.bool x)) (no (.inl (by simpa using h1))))
  refine sS (λh2=>?_) λh2=>?_
  ·exact yA (congrArg (λx=>D.sc (.bool x)) (no (.inr (.inl (by simpa using h2)))))
  refine sS (λh3=>?_) λh3=>?_
  ·exact yA (congrArg (λx=>D.sc (.bool x)) (no (.inr (.inr (by simp at h3;omega)))))
  simp at h1 h2 h3
  have hsz:=hs.width
  refine zdS (λk:Nat=>[(2,.loc 0 0),(3,.loc 1 0),(29,.sc (.int .i64 (a.kids.map y6).length)),(30,.sc (.int .i64 k))]) (λ_=>[.row true (yo a),.row true (yo b)])
   (λk=>k≤a.width∧∀j,j<k→a.yD j=b.yD j) (λk=>a.width-k) 0 ⟨zo,λj h=>zo⟩ (zbl ⟨rfl,rfl,rfl,rfl,trivial⟩) ?_
  rintro k ⟨hk,hall⟩
  refine sR ?_
  refine sS (λh4=>?_) λh4=>?_
  ·have hk':k<a.width:=by simpa [Tree.width] using h4
   refine sL (y8 hk') ?_
   refine sL (y8 (t:=b) (by unfold Tree.width at *;omega)) ?_
   refine sC (ih k hk' (b.yD k) (hs.yD hk')) ?_
   refine sS (λh5=>?_) λh5=>?_
   ·exact yA (congrArg (λx=>D.sc (.bool x)) (zf4 (by rintro rfl;simp[QN] at h5)))
   ·simp[zcz] at h5
    refine .inl ⟨by unfold InR;rw[IntKind.wrap_i64];unfold Tree.width at *;omega,?_⟩
    refine sW ?_
    refine⟨k+1,⟨zo,λj hj=>?_⟩,zd,zbl ⟨rfl,rfl,rfl,rfl,trivial⟩⟩
    by_cases e:j=k
    ·subst e;exact h5
    ·exact hall j zo
  ·have hk':¬k<a.width:=by simpa [Tree.width] using h4
   exact yA (congrArg (λx=>D.sc (.bool x)) (zse (Tree.zqF h1 h2 (by unfold Tree.width;omega) λj hj=>hall j zo)))
end
section
open Go.RowKit
theorem zll:Small (yB 0 0):=.mk _ (by simp[yB,Tree.width,Tree.kids]) λj hj=>by simp[yB,Tree.width,Tree.kids] at hj
theorem zo4 {H:List zf}:Deep H (.agg [.sc (.int .i64 0),.sc (.int .i64 0),.sc (.slice none 0 0)]) (zZ (yB 0 0)):=by exact sP
end
section
open Go.RowKit
theorem Xy {H:List zf} {n:Nat} {l:List (List D)} (h:l.length≤n):vA H (List.drop 0 (List.take n l)) l:=by rw[zu h];exact z6 _
def xR (P:List Tree):List (List D):=P.map yo
@[simp] theorem W5 (P:List Tree):(xR P).length=P.length:=List.length_map ..
theorem wo (P:List Tree):yE (xR P):=zC _ (λt=>ym t) _
@[simp] theorem zsY {m:Nat} (P:List Tree):zF m (xR P)↔True:=⟨λ_=>trivial,λ_=>zh _ (wo P)⟩
theorem zjy {P:List Tree} {z k:Nat} (hz:z=k) (h:k<P.length):(xR P)[z]? = some (yo (P.getD k default)):=by
 subst hz
 unfold xR
 rw[List.getElem?_map,List.getElem?_eq_getElem h,List.getD_eq_getElem?_getD,List.getElem?_eq_getElem h]
 rfl
theorem zdY (P:List Tree) (z:List D):(List.drop 0 (List.take P.length (xR P))++List.drop 0 (List.take 1 [z]))[0+((P.length-0:Nat):Int).toNat]? = some z:=by
 rw[zu zs,List.getElem?_append_right zs]
 simp
theorem zbt (P:List Tree) (t:Tree) (z:List D):(List.drop 0 (List.take P.length (xR P))++List.drop 0 (List.take 1 [z])).set (0+((P.length-0:Nat):Int).toNat) [.sc (.int .i64 t.kind),.sc (.int .i64 t.num),.xj 3 (t.kids.map y6)]=xR (P++[t]):=by
 rw[zu zs,List.set_append_right _ _ zs]
 simp[xR,yo]
def X9 (A:List Int) (P:List Tree):D:=.y7 [zB A,.xj 3 (xR P)]
theorem Zi (A:List Int) (P:List Tree):Pure (X9 A P):=by simp[X9,Pure,ze,zi,wo]
def yz (A:List Int) (P:List Tree):List zf:=[.row true [.own 1 A.length 0 A.length,.own 2 P.length 0 P.length],.vec true A.length 1 (zL A),.vec true P.length 3 (xR P)]
theorem wQ {A:List Int} {P:List Tree} {m:Nat} (hm:3≤m):∀o∈yz A P,o.under m:=by
 intro o ho
 simp only[yz,List.mem_cons,List.not_mem_nil,or_false] at ho
 rcases ho with rfl|rfl|rfl<;>simp[zf.under,zl,zt]<;>omega
theorem x5 {A:List Int} {P:List Tree} {m:Nat} (hm:3≤m):wD m (yz A P):=by
 have:=wQ (A:=A) (P:=P) hm
 unfold yz at *
 exact⟨this _ zs,this _ zs,this _ zs,trivial⟩
def zw5:PC:=.seq (OP [Bi 9 .lss 8 7]) (.seq (.cond 9 .skip (.exit 0)) (.seq (.block 1 (.seq (OP [qm 10 8,qm 5 10]) (.seq (OP [qm 11 1,qm 12 0,qm 13 5,Ia 14 3 12 13,LA 15 3 14,q 16 (.vu 11 [15])]) (.cond 16 (.seq (OP [qm 17 5,qm 4 17]) .ret) .skip)))) (OP [Bi 18 .add 8 (cI 1),qm 8 18])))
def c194:PC:=.seq (OP [Mv 4 (cI 0)]) (.seq (.seq (OP [qm 6 0,Ln 7 6,Mv 8 (cI 0)]) (.block 0 (.loop zw5))) (.seq (OP [Mv 4 (cI (-1))]) .ret))
theorem ztm:zy Tryz.prog 194 19 [.tmp 4] c194:=fK Tryz.func194
theorem zkH (l:List Tree) (hl:l.length≤9223372036854775807) (p:Tree→Bool) (cl:FuncId) (cap:List D) (hp:ze cap) (hc:∀a∈l,zq Tryz.prog cl (zZ a::cap) (.sc (.bool (p a)))) :
  zq Tryz.prog 194 [.xj 3 (xR l),.fn (.func cl) [] cap] (.sc (.int .i64 (wA p l))):=by
 refine za ztm zs (by simp[ze,Pure,hp,wo]) ?_ (by simp[Pure])
 refine sR ?_
 rw[W5]
 have fin:∀{z:Int},z=wA p l→Deep [] (.sc (.int .i64 z)) (.sc (.int .i64 (wA p l))):=λh=>h▸.refl _
 refine zO [0,1,7] (λk:Nat=>[(8,.sc (.int .i64 k))]) (λ_=>[]) (λk=>k≤l.length∧∀j (hj:j<k) (hl:j<l.length),p l[j]=false) (λk=>l.length-k) 0 ?_
 refine sW ?_
 refine⟨⟨zo,λj hj=>zo⟩,by exact sK,rfl,?_⟩
 rintro k ⟨hk,hno⟩
 refine sW ?_
 refine sR ?_
 refine sS (λh=>?_) λh=>?_
 ·have hk':k<l.length:=sO
  refine⟨zo,yo l[k],by unfold xR;rw[List.getElem?_map,Int.toNat_natCast,List.getElem?_eq_getElem hk'];rfl,?_⟩
  refine sW ?_
  refine sC (hc _ (List.getElem_mem hk')) ?_
  refine sS (λh2=>?_) λh2=>?_
  ·exact fin (WG hk' h2 λj hj=>hno j hj zo).symm
  ·refine sI ?_
   refine⟨k+1,⟨zo,λj hj hl=>?_⟩,zd,zD (by exact sK) rfl⟩
   by_cases e:j=k
   ·subst e;exact h2
   ·exact hno j zo hl
 ·have hk':¬k<l.length:=sO
  exact fin (Xp λj hj=>hno j zo hj).symm
def c195:PC:=.seq (OP [Bx 2 0,Mv 3 cF]) (.seq (OP [LA 4 3 1,LA 5 3 2,Ca 6 196 [4,5],qm 3 6]) .ret)
theorem zvs:zy Tryz.prog 195 7 [.tmp 3] c195:=fK Tryz.func195
def c147:PC:=.seq (OP [Bx 3 1,Mv 4 (cI 0)]) (.seq (OP [qm 5 0,q 6 (.zn 5),Fa 7 1 6,Lo 8 7,q 9 (.qj (.func 195) [] [3]),Ca 10 194 [8,9],qm 4 10]) .ret)
theorem ztu:zy Tryz.prog 147 11 [.tmp 4] c147:=fK Tryz.func147
def zAu:PC:=.seq (OP [Bi 52 .lss 51 50]) (.seq (.cond 52 .skip (.exit 1)) (.seq (.block 2 (.seq (OP [Ia 53 3 49 51,LA 54 3 53,q 5 (.alloc [(.int .i64 0),(.int .i64 0),(.slice none 0 0)]),So 3 5 54]) (OP [qm 55 0,LA 56 3 5,Ca 57 72 [55,56]]))) (OP [Bi 58 .add 51 (cI 1),qm 51 58])))
def c72:PC:=.seq (OP [Bx 3 1]) (.seq (.seq (OP [Fa 6 0 3,Lo 7 6]) (.block 0 (.seq (OP [Bi 9 .eql 7 (cI 3),qm 8 9]) (.cond 8 (.seq (.ops [qm 10 0,qd 11 (.zn 10) 1,qd 12 (.zz 0 11) 3,qd 13 (.zg 12) 7,Fa 14 1 3,qd 15 (.zg 14) 16,qd 16 (.call 146 [13,15]) 63,qd 17 (.un .not 16) 127] true) (.cond 17 (.ops [qm 18 0,qm 19 0,qd 20 (.zn 19) 2,qd 21 (.zz 0 20) 6,qd 22 (.zg 21) 14,Fa 23 1 3,qd 24 (.zg 23) 32,qd 25 (.xe 1 1 [24]) 96,qd 26 (.append 1 8 22 25) 254,qd 27 (.zn 18) 511,qd 28 (.zz 0 27) 1023,qk (.store 1 28 26) 2047] true) .skip)) (.seq (.seq (OP [Bi 30 .eql 7 (cI 7),qm 29 30]) (.cond 29 .skip (.seq (OP [Bi 31 .eql 7 (cI 8),qm 29 31]) (.cond 29 .skip (OP [Bi 32 .eql 7 (cI 9),qm 29 32]))))) (.cond 29 (.seq (OP [qm 33 0,LA 34 3 3,Ca 35 147 [33,34],Bi 36 .lss 35 (cI 0)]) (.cond 36 (.ops [qm 37 0,qd 38 (.zn 37) 1,qd 39 (.zz 1 38) 3,qd 40 (.zg 39) 7,LA 41 3 3,qd 42 (.len 40) 15,q 43 (.xe 3 1 [(.const (.agg #[.int .i64 0,.int .i64 0,.slice none 0 0]))]),qd 44 (.append 3 40 40 43) 127,qd 45 (.zM 3 44 42) 255,qk (.store 3 45 41) 511,qd 46 (.zn 37) 255,qd 47 (.zz 1 46) 1279,qk (.store 1 47 44) 3327] true) .skip)) .skip)))))) (.seq (OP [Fa 48 2 3,Lo 49 48,Ln 50 49,Mv 51 (cI 0)]) (.block 1 (.loop zAu))))
theorem zx6:zy Tryz.prog 72 59 [] c72:=fK Tryz.func72
theorem zqk (f:Tree) (hf:Small f) (g:Tree):zq Tryz.prog 195 [zZ g,.y7 (yo f)] (.sc (.bool (QN f g))):=by
 refine za zvs zs (by simp[ze,Pure,zm,ym]) ?_ (by simp[Pure])
 refine sR ?_
 refine sC (zol f g hf) ?_
 exact .refl _
theorem zcA (A:List Int) (P:List Tree) (hP:P.length≤1000000) (f:Tree) (hf:Small f):zq Tryz.prog 147 [X9 A P,zZ f] (.sc (.int .i64 (wA (QN f) P))):=by
 refine za ztu zs (by simp[ze,Zi,zm]) ?_ (by simp[Pure])
 unfold X9
 refine sR ?_
 refine sN (zkH P zo (QN f) 195 [.y7 (yo f)] (by simp[ze,Pure,ym]) λa _=>zqk f hf a) ?_
 exact .refl _
theorem vg {t:Tree} {k:Nat} (h:k<t.width):(zX (t.kids.take k)).length+(ye (t.yD k)).length≤(zX t.kids).length:=by
 rw[←List.length_append,←wR h]
 conv=>rhs;rw[←List.take_append_drop (k+1) t.kids,Ze,List.flatMap_append,←Ze]
 simp
theorem vk {t:Tree} {k:Nat} (h:k<t.width):(zU (t.kids.take k)).length+(partsOf (t.yD k)).length≤(zU t.kids).length:=by
 rw[←List.length_append,←wO h]
 conv=>rhs;rw[←List.take_append_drop (k+1) t.kids,Zd,List.flatMap_append,←Zd]
 simp
def zB7 (t:Tree):Prop:=∀(A:List Int) (P:List Tree),A.length+(ye t).length≤1000→P.length+(partsOf t).length≤1000 →
  yu Tryz.prog 72 [.loc 0 0,zZ t] (yz A P) (.yO []) (yz (vL A (ye t)) (we P (partsOf t)))
theorem znL:∀t:Tree,t.wf zP→zB7 t:=by
 intro t
 induction t using Tree.ind with
 | h t ih =>
  intro hwf A P hA hP
  have hs:=WU t hwf
  have hsz:=hs.width
  have har:=vZ ((xM _ _).1 hwf).1
  refine wI zx6 zs (by simp[yz]) ?_ trivial
  have eA:=Jc t
  have eP:=Ji t
  have hlA:=uY (ye t) A
  unfold yz
  refine sR ?_
  refine sS (λk3=>?_) λk3=>?_
  ·have k3:t.kind=3:=by simpa using k3
   rw[if_pos k3] at eA
   rw[if_neg zo] at eP
   rw[eA,List.length_append,List.length_singleton] at hA
   refine sN (zh9 A zo t.num) ?_
   cases r:A.contains t.num
   ·have hA1:vL A [t.num]=A++[t.num]:=by rw[Un,if_neg (by rw[r];decide)]
    refine sW ?_
    refine sJ ?_
    refine zG (zj 5 (env':=[(0,.loc 0 0),(49,.xj 3 (t.kids.map y6)),(50,.sc (.int .i64 (t.kids.map y6).length)),(51,.sc (.int .i64 0))]) (H':=[.row true [.own 1 (A.length+1) 0 (A.length+1),.own 2 P.length 0 P.length],.vec true (A.length+1) 1 (zL (A++[t.num])),.vec true P.length 3 (xR P),.row true (yo t),.vec true 0 1 [[.sc (.int .i64 t.num)]]]) zs rfl ?_ ?_) ?_
    ·(repeat' (first|exact trivial|exact rfl|exact yc.refl _|exact zQ.refl _|exact zK.refl _|refine And.intro ?_ ?_|(simp[zt,zl,zF,-List.map_take,-List.map_drop];done)))
     all_goals first|exact zh _ (xG t)|skip
    ·(repeat' (first|exact trivial|exact rfl|exact yc.refl _|exact zQ.refl _|exact zK.refl _|refine And.intro ?_ ?_|(simp[zt,zl,zF,-List.map_take,-List.map_drop];done)))
     all_goals first|exact zr _ (ym _)|exact zp (xY _ _)|skip
    rw[show A.length+1=(A++[t.num]).length by simp,←hA1]
    have hP1:P=we P []:=rfl
    have lA1:(vL A [t.num]).length≤A.length+1:=by rw[hA1];simp
    have lP1:P.length≤P.length:=Nat.le_refl _
    have lA:A.length+1+(zX t.kids).length≤1000:=zo
    have lP:P.length+(zU t.kids).length≤1000:=by rw[eP,List.nil_append] at hP;exact hP
    rw[eA,eP,vl,List.nil_append]
    generalize vL A [t.num]=A1 at *
    refine z8 [0,49,50] (λk:Nat=>[(51,.sc (.int .i64 k))]) (λk=>yz (vL A1 (zX (t.kids.take k))) (we P (zU (t.kids.take k)))++[.row true (yo t),.vec true 0 1 [[.sc (.int .i64 t.num)]]]) (λk=>k≤t.width) (λk=>t.width-k) 0 ?_
    refine sW ?_
    refine⟨zo,by exact sK,rfl,?_⟩
    rintro k hk
    have lak:=uY (zX (t.kids.take k)) A1
    have lpk:=uW (zU (t.kids.take k)) P
    unfold yz
    refine sW ?_
    refine sR ?_
    refine sS (λq0=>?_) λq0=>?_
    ·have q0:k<t.width:=by simpa [Tree.width] using q0
     refine sL (y8 q0) ?_
     have eA2:=wR q0
     have eP2:=wO q0
     have tA:(zX (t.kids.take k)).length+(ye (t.yD k)).length≤(zX t.kids).length:=vg q0
     have tP:(zU (t.kids.take k)).length+(partsOf (t.yD k)).length≤(zU t.kids).length:=vk q0
     have hG:=vH (ih k q0 (x9 hwf q0) (vL A1 (zX (t.kids.take k))) (we P (zU (t.kids.take k))) zo zo) [.row true (yo t),.vec true 0 1 [[.sc (.int .i64 t.num)]],.row true (yo (t.yD k))] (by simp[yz]) (by simp[yz,zl,zt,zw _ (zm _)]) (x5 (by simp[yz]))
     rw[←vl,←x6,←eA2,←eP2] at hG
     unfold yz at hG
     refine sA hG ?_
     refine sI ?_
     refine⟨k+1,zo,zd,?_⟩
     dsimp only
     (refine zj 5 zs rfl ?_ ?_<;>(repeat' (first|exact trivial|exact rfl|exact yc.refl _|exact zQ.refl _|exact zK.refl _|refine And.intro ?_ ?_|(simp[zt,zl,zF,-List.map_take,-List.map_drop];done))))
     all_goals first|exact zr _ (ym _)|exact zh _ (xG t)|skip
    ·have q0:k=t.width:=by have:¬k<t.width:=by simpa [Tree.width] using q0
                           omega
     subst q0
     rw[show t.kids.take t.width=t.kids from List.take_length]
     exact⟨.refl _,y5 _ _ (wQ (Nat.le_refl _))⟩
   ·have hA1:vL A [t.num]=A:=by rw[Un,if_pos r]
    refine sW ?_
    have lA1:A.length≤A.length:=Nat.le_refl _
    have lP1:P.length≤P.length:=Nat.le_refl _
    have lA:A.length+(zX t.kids).length≤1000:=zo
    have lP:P.length+(zU t.kids).length≤1000:=by rw[eP,List.nil_append] at hP;exact hP
    rw[eA,eP,vl,List.nil_append,hA1]
    refine z8 [0,49,50] (λk:Nat=>[(51,.sc (.int .i64 k))]) (λk=>yz (vL A (zX (t.kids.take k))) (we P (zU (t.kids.take k)))++[.row true (yo t)]) (λk=>k≤t.width) (λk=>t.width-k) 0 ?_
    refine sW ?_
    refine⟨zo,by exact sK,rfl,?_⟩
    rintro k hk
    have lak:=uY (zX (t.kids.take k)) A
    have lpk:=uW (zU (t.kids.take k)) P
    unfold yz
    refine sW ?_
    refine sR ?_
    refine sS (λq0=>?_) λq0=>?_
    ·have q0:k<t.width:=by simpa [Tree.width] using q0
     refine sL (y8 q0) ?_
     have eA2:=wR q0
     have eP2:=wO q0
     have tA:(zX (t.kids.take k)).length+(ye (t.yD k)).length≤(zX t.kids).length:=vg q0
     have tP:(zU (t.kids.take k)).length+(partsOf (t.yD k)).length≤(zU t.kids).length:=vk q0
     have hG:=vH (ih k q0 (x9 hwf q0) (vL A (zX (t.kids.take k))) (we P (zU (t.kids.take k))) zo zo) [.row true (yo t),.row true (yo (t.yD k))] (by simp[yz]) (by simp[yz,zl,zt,zw _ (zm _)]) (x5 (by simp[yz]))
     rw[←vl,←x6,←eA2,←eP2] at hG
     unfold yz at hG
     refine sA hG ?_
     refine sI ?_
     refine⟨k+1,zo,zd,?_⟩
     dsimp only
     (refine zj 4 zs rfl ?_ ?_<;>(repeat' (first|exact trivial|exact rfl|exact yc.refl _|exact zQ.refl _|exact zK.refl _|refine And.intro ?_ ?_|(simp[zt,zl,zF,-List.map_take,-List.map_drop];done))))
     all_goals first|exact zr _ (ym _)|exact zh _ (xG t)|skip
    ·have q0:k=t.width:=by have:¬k<t.width:=by simpa [Tree.width] using q0
                           omega
     subst q0
     rw[show t.kids.take t.width=t.kids from List.take_length]
     exact⟨.refl _,y5 _ _ (wQ (Nat.le_refl _))⟩
  have k3:¬t.kind=3:=by simpa using k3
  rw[if_neg k3,List.nil_append] at eA
  rw[eA] at hA
  have arm:(t.kind=7∨t.kind=8∨t.kind=9)→t.kind=7∨t.kind=8∨t.kind=9:=id
  have lA1:A.length≤A.length:=Nat.le_refl _
  have lP1:P.length≤P.length:=Nat.le_refl _
  refine sS (λk7=>?_) λk7=>?_
  ·have k7:t.kind=7∨t.kind=8∨t.kind=9:=.inl (by simpa using k7)
   rw[if_pos k7] at eP
   rw[eP,List.length_append,List.length_singleton] at hP
   refine sN (zcA A P zo t hs) ?_
   have hany:=uL (QN t) P
   cases r:P.any (QN t)
   ·have hlt:(wA (QN t) P<0):=by rw[r,decide_eq_false_iff_not] at hany;omega
    have hP1:we P [t]=P++[t]:=by rw[Yq,if_neg (by rw[r];decide)]
    rw[decide_eq_true hlt]
    refine sW ?_
    refine sJ ?_
    refine sB ?_
    refine⟨_,zdY P _,?_⟩
    refine sW ?_
    refine zG (zj 5 (env':=[(0,.loc 0 0),(49,.xj 3 (t.kids.map y6)),(50,.sc (.int .i64 (t.kids.map y6).length)),(51,.sc (.int .i64 0))]) (H':=[.row true [.own 1 A.length 0 A.length,.own 2 (P.length+1) 0 (P.length+1)],.vec true A.length 1 (zL A),.vec true (P.length+1) 3 (xR (P++[t])),.row true (yo t),.vec true 0 3 [[.sc (.int .i64 0),.sc (.int .i64 0),.sc (.slice none 0 0)]]]) zs rfl ?_ ?_) ?_
    ·(repeat' (first|exact trivial|exact rfl|exact yc.refl _|exact zQ.refl _|exact zK.refl _|refine And.intro ?_ ?_|(simp[zt,zl,zF,-List.map_take,-List.map_drop];done)))
     all_goals first|exact zh _ (xG t)|skip
    ·(repeat' (first|exact trivial|exact rfl|exact yc.refl _|exact zQ.refl _|exact zK.refl _|refine And.intro ?_ ?_|(simp[zt,zl,zF,-List.map_take,-List.map_drop];done)))
     all_goals first|exact zr _ (ym _)|exact zp (zbt P t _)|skip
    rw[show P.length+1=(P++[t]).length by simp,←hP1]
    have lP1':(we P [t]).length≤P.length+1:=by rw[hP1];simp
    have lA:A.length+(zX t.kids).length≤1000:=hA
    have lP:P.length+1+(zU t.kids).length≤1000:=zo
    rw[eA,eP,x6]
    generalize we P [t]=P1 at *
    refine z8 [0,49,50] (λk:Nat=>[(51,.sc (.int .i64 k))]) (λk=>yz (vL A (zX (t.kids.take k))) (we P1 (zU (t.kids.take k)))++[.row true (yo t),.vec true 0 3 [[.sc (.int .i64 0),.sc (.int .i64 0),.sc (.slice none 0 0)]]]) (λk=>k≤t.width) (λk=>t.width-k) 0 ?_
    refine sW ?_
    refine⟨zo,by exact sK,rfl,?_⟩
    rintro k hk
    have lak:=uY (zX (t.kids.take k)) A
    have lpk:=uW (zU (t.kids.take k)) P1
    unfold yz
    refine sW ?_
    refine sR ?_
    refine sS (λq0=>?_) λq0=>?_
    ·have q0:k<t.width:=by simpa [Tree.width] using q0
     refine sL (y8 q0) ?_
     have eA2:=wR q0
     have eP2:=wO q0
     have tA:(zX (t.kids.take k)).length+(ye (t.yD k)).length≤(zX t.kids).length:=vg q0
     have tP:(zU (t.kids.take k)).length+(partsOf (t.yD k)).length≤(zU t.kids).length:=vk q0
     have hG:=vH (ih k q0 (x9 hwf q0) (vL A (zX (t.kids.take k))) (we P1 (zU (t.kids.take k))) zo zo) [.row true (yo t),.vec true 0 3 [[.sc (.int .i64 0),.sc (.int .i64 0),.sc (.slice none 0 0)]],.row true (yo (t.yD k))] (by simp[yz]) (by simp[yz,zl,zt,zw _ (zm _)]) (x5 (by simp[yz]))
     rw[←vl,←x6,←eA2,←eP2] at hG
     unfold yz at hG
     refine sA hG ?_
     refine sI ?_
     refine⟨k+1,zo,zd,?_⟩
     dsimp only
     (refine zj 5 zs rfl ?_ ?_<;>(repeat' (first|exact trivial|exact rfl|exact yc.refl _|exact zQ.refl _|exact zK.refl _|refine And.intro ?_ ?_|(simp[zt,zl,zF,-List.map_take,-List.map_drop];done))))
     all_goals first|exact zr _ (ym _)|exact zh _ (xG t)|skip
    ·have q0:k=t.width:=by have:¬k<t.width:=by simpa [Tree.width] using q0
                           omega
     subst q0
     rw[show t.kids.take t.width=t.kids from List.take_length]
     exact⟨.refl _,y5 _ _ (wQ (Nat.le_refl _))⟩
   ·have hlt:¬(wA (QN t) P<0):=by rw[r,decide_eq_true_eq] at hany;omega
    have hP1:we P [t]=P:=by rw[Yq,if_pos r]
    rw[decide_eq_false hlt]
    refine sW ?_
    have lA:A.length+(zX t.kids).length≤1000:=hA
    have lP:P.length+(zU t.kids).length≤1000:=zo
    rw[eA,eP,x6,hP1]
    refine z8 [0,49,50] (λk:Nat=>[(51,.sc (.int .i64 k))]) (λk=>yz (vL A (zX (t.kids.take k))) (we P (zU (t.kids.take k)))++[.row true (yo t)]) (λk=>k≤t.width) (λk=>t.width-k) 0 ?_
    refine sW ?_
    refine⟨zo,by exact sK,rfl,?_⟩
    rintro k hk
    have lak:=uY (zX (t.kids.take k)) A
    have lpk:=uW (zU (t.kids.take k)) P
    unfold yz
    refine sW ?_
    refine sR ?_
    refine sS (λq0=>?_) λq0=>?_
    ·have q0:k<t.width:=by simpa [Tree.width] using q0
     refine sL (y8 q0) ?_
     have eA2:=wR q0
     have eP2:=wO q0
     have tA:(zX (t.kids.take k)).length+(ye (t.yD k)).length≤(zX t.kids).length:=vg q0
     have tP:(zU (t.kids.take k)).length+(partsOf (t.yD k)).length≤(zU t.kids).length:=vk q0
     have hG:=vH (ih k q0 (x9 hwf q0) (vL A (zX (t.kids.take k))) (we P (zU (t.kids.take k))) zo zo) [.row true (yo t),.row true (yo (t.yD k))] (by simp[yz]) (by simp[yz,zl,zt,zw _ (zm _)]) (x5 (by simp[yz]))
     rw[←vl,←x6,←eA2,←eP2] at hG
     unfold yz at hG
     refine sA hG ?_
     refine sI ?_
     refine⟨k+1,zo,zd,?_⟩
     dsimp only
     (refine zj 4 zs rfl ?_ ?_<;>(repeat' (first|exact trivial|exact rfl|exact yc.refl _|exact zQ.refl _|exact zK.refl _|refine And.intro ?_ ?_|(simp[zt,zl,zF,-List.map_take,-List.map_drop];done))))
     all_goals first|exact zr _ (ym _)|exact zh _ (xG t)|skip
    ·have q0:k=t.width:=by have:¬k<t.width:=by simpa [Tree.width] using q0
                           omega
     subst q0
     rw[show t.kids.take t.width=t.kids from List.take_length]
     exact⟨.refl _,y5 _ _ (wQ (Nat.le_refl _))⟩
  refine sS (λk8=>?_) λk8=>?_
  ·have k7:t.kind=7∨t.kind=8∨t.kind=9:=.inr (.inl (by simpa using k8))
   rw[if_pos k7] at eP
   rw[eP,List.length_append,List.length_singleton] at hP
   refine sN (zcA A P zo t hs) ?_
   have hany:=uL (QN t) P
   cases r:P.any (QN t)
   ·have hlt:(wA (QN t) P<0):=by rw[r,decide_eq_false_iff_not] at hany;omega
    have hP1:we P [t]=P++[t]:=by rw[Yq,if_neg (by rw[r];decide)]
    rw[decide_eq_true hlt]
    refine sW ?_
    refine sJ ?_
    refine sB ?_
    refine⟨_,zdY P _,?_⟩
    refine sW ?_
    refine zG (zj 5 (env':=[(0,.loc 0 0),(49,.xj 3 (t.kids.map y6)),(50,.sc (.int .i64 (t.kids.map y6).length)),(51,.sc (.int .i64 0))]) (H':=[.row true [.own 1 A.length 0 A.length,.own 2 (P.length+1) 0 (P.length+1)],.vec true A.length 1 (zL A),.vec true (P.length+1) 3 (xR (P++[t])),.row true (yo t),.vec true 0 3 [[.sc (.int .i64 0),.sc (.int .i64 0),.sc (.slice none 0 0)]]]) zs rfl ?_ ?_) ?_
    ·(repeat' (first|exact trivial|exact rfl|exact yc.refl _|exact zQ.refl _|exact zK.refl _|refine And.intro ?_ ?_|(simp[zt,zl,zF,-List.map_take,-List.map_drop];done)))
     all_goals first|exact zh _ (xG t)|skip
    ·(repeat' (first|exact trivial|exact rfl|exact yc.refl _|exact zQ.refl _|exact zK.refl _|refine And.intro ?_ ?_|(simp[zt,zl,zF,-List.map_take,-List.map_drop];done)))
     all_goals first|exact zr _ (ym _)|exact zp (zbt P t _)|skip
    rw[show P.length+1=(P++[t]).length by simp,←hP1]
    have lP1':(we P [t]).length≤P.length+1:=by rw[hP1];simp
    have lA:A.length+(zX t.kids).length≤1000:=hA
    have lP:P.length+1+(zU t.kids).length≤1000:=zo
    rw[eA,eP,x6]
    generalize we P [t]=P1 at *
    refine z8 [0,49,50] (λk:Nat=>[(51,.sc (.int .i64 k))]) (λk=>yz (vL A (zX (t.kids.take k))) (we P1 (zU (t.kids.take k)))++[.row true (yo t),.vec true 0 3 [[.sc (.int .i64 0),.sc (.int .i64 0),.sc (.slice none 0 0)]]]) (λk=>k≤t.width) (λk=>t.width-k) 0 ?_
    refine sW ?_
    refine⟨zo,by exact sK,rfl,?_⟩
    rintro k hk
    have lak:=uY (zX (t.kids.take k)) A
    have lpk:=uW (zU (t.kids.take k)) P1
    unfold yz
    refine sW ?_
    refine sR ?_
    refine sS (λq0=>?_) λq0=>?_
    ·have q0:k<t.width:=by simpa [Tree.width] using q0
     refine sL (y8 q0) ?_
     have eA2:=wR q0
     have eP2:=wO q0
     have tA:(zX (t.kids.take k)).length+(ye (t.yD k)).length≤(zX t.kids).length:=vg q0
     have tP:(zU (t.kids.take k)).length+(partsOf (t.yD k)).length≤(zU t.kids).length:=vk q0
     have hG:=vH (ih k q0 (x9 hwf q0) (vL A (zX (t.kids.take k))) (we P1 (zU (t.kids.take k))) zo zo) [.row true (yo t),.vec true 0 3 [[.sc (.int .i64 0),.sc (.int .i64 0),.sc (.slice none 0 0)]],.row true (yo (t.yD k))] (by simp[yz]) (by simp[yz,zl,zt,zw _ (zm _)]) (x5 (by simp[yz]))
     rw[←vl,←x6,←eA2,←eP2] at hG
     unfold yz at hG
     refine sA hG ?_
     refine sI ?_
     refine⟨k+1,zo,zd,?_⟩
     dsimp only
     (refine zj 5 zs rfl ?_ ?_<;>(repeat' (first|exact trivial|exact rfl|exact yc.refl _|exact zQ.refl _|exact zK.refl _|refine And.intro ?_ ?_|(simp[zt,zl,zF,-List.map_take,-List.map_drop];done))))
     all_goals first|exact zr _ (ym _)|exact zh _ (xG t)|skip
    ·have q0:k=t.width:=by have:¬k<t.width:=by simpa [Tree.width] using q0
                           omega
     subst q0
     rw[show t.kids.take t.width=t.kids from List.take_length]
     exact⟨.refl _,y5 _ _ (wQ (Nat.le_refl _))⟩
   ·have hlt:¬(wA (QN t) P<0):=by rw[r,decide_eq_true_eq] at hany;omega
    have hP1:we P [t]=P:=by rw[Yq,if_pos r]
    rw[decide_eq_false hlt]
    refine sW ?_
    have lA:A.length+(zX t.kids).length≤1000:=hA
    have lP:P.length+(zU t.kids).length≤1000:=zo
    rw[eA,eP,x6,hP1]
    refine z8 [0,49,50] (λk:Nat=>[(51,.sc (.int .i64 k))]) (λk=>yz (vL A (zX (t.kids.take k))) (we P (zU (t.kids.take k)))++[.row true (yo t)]) (λk=>k≤t.width) (λk=>t.width-k) 0 ?_
    refine sW ?_
    refine⟨zo,by exact sK,rfl,?_⟩
    rintro k hk
    have lak:=uY (zX (t.kids.take k)) A
    have lpk:=uW (zU (t.kids.take k)) P
    unfold yz
    refine sW ?_
    refine sR ?_
    refine sS (λq0=>?_) λq0=>?_
    ·have q0:k<t.width:=by simpa [Tree.width] using q0
     refine sL (y8 q0) ?_
     have eA2:=wR q0
     have eP2:=wO q0
     have tA:(zX (t.kids.take k)).length+(ye (t.yD k)).length≤(zX t.kids).length:=vg q0
     have tP:(zU (t.kids.take k)).length+(partsOf (t.yD k)).length≤(zU t.kids).length:=vk q0
     have hG:=vH (ih k q0 (x9 hwf q0) (vL A (zX (t.kids.take k))) (we P (zU (t.kids.take k))) zo zo) [.row true (yo t),.row true (yo (t.yD k))] (by simp[yz]) (by simp[yz,zl,zt,zw _ (zm _)]) (x5 (by simp[yz]))
     rw[←vl,←x6,←eA2,←eP2] at hG
     unfold yz at hG
     refine sA hG ?_
     refine sI ?_
     refine⟨k+1,zo,zd,?_⟩
     dsimp only
     (refine zj 4 zs rfl ?_ ?_<;>(repeat' (first|exact trivial|exact rfl|exact yc.refl _|exact zQ.refl _|exact zK.refl _|refine And.intro ?_ ?_|(simp[zt,zl,zF,-List.map_take,-List.map_drop];done))))
     all_goals first|exact zr _ (ym _)|exact zh _ (xG t)|skip
    ·have q0:k=t.width:=by have:¬k<t.width:=by simpa [Tree.width] using q0
                           omega
     subst q0
     rw[show t.kids.take t.width=t.kids from List.take_length]
     exact⟨.refl _,y5 _ _ (wQ (Nat.le_refl _))⟩
  refine sS (λk9=>?_) λk9=>?_
  ·have k7:t.kind=7∨t.kind=8∨t.kind=9:=.inr (.inr (by simpa using k9))
   rw[if_pos k7] at eP
   rw[eP,List.length_append,List.length_singleton] at hP
   refine sN (zcA A P zo t hs) ?_
   have hany:=uL (QN t) P
   cases r:P.any (QN t)
   ·have hlt:(wA (QN t) P<0):=by rw[r,decide_eq_false_iff_not] at hany;omega
    have hP1:we P [t]=P++[t]:=by rw[Yq,if_neg (by rw[r];decide)]
    rw[decide_eq_true hlt]
    refine sW ?_
    refine sJ ?_
    refine sB ?_
    refine⟨_,zdY P _,?_⟩
    refine sW ?_
    refine zG (zj 5 (env':=[(0,.loc 0 0),(49,.xj 3 (t.kids.map y6)),(50,.sc (.int .i64 (t.kids.map y6).length)),(51,.sc (.int .i64 0))]) (H':=[.row true [.own 1 A.length 0 A.length,.own 2 (P.length+1) 0 (P.length+1)],.vec true A.length 1 (zL A),.vec true (P.length+1) 3 (xR (P++[t])),.row true (yo t),.vec true 0 3 [[.sc (.int .i64 0),.sc (.int .i64 0),.sc (.slice none 0 0)]]]) zs rfl ?_ ?_) ?_
    ·(repeat' (first|exact trivial|exact rfl|exact yc.refl _|exact zQ.refl _|exact zK.refl _|refine And.intro ?_ ?_|(simp[zt,zl,zF,-List.map_take,-List.map_drop];done)))
     all_goals first|exact zh _ (xG t)|skip
    ·(repeat' (first|exact trivial|exact rfl|exact yc.refl _|exact zQ.refl _|exact zK.refl _|refine And.intro ?_ ?_|(simp[zt,zl,zF,-List.map_take,-List.map_drop];done)))
     all_goals first|exact zr _ (ym _)|exact zp (zbt P t _)|skip
    rw[show P.length+1=(P++[t]).length by simp,←hP1]
    have lP1':(we P [t]).length≤P.length+1:=by rw[hP1];simp
    have lA:A.length+(zX t.kids).length≤1000:=hA
    have lP:P.length+1+(zU t.kids).length≤1000:=zo
    rw[eA,eP,x6]
    generalize we P [t]=P1 at *
    refine z8 [0,49,50] (λk:Nat=>[(51,.sc (.int .i64 k))]) (λk=>yz (vL A (zX (t.kids.take k))) (we P1 (zU (t.kids.take k)))++[.row true (yo t),.vec true 0 3 [[.sc (.int .i64 0),.sc (.int .i64 0),.sc (.slice none 0 0)]]]) (λk=>k≤t.width) (λk=>t.width-k) 0 ?_
    refine sW ?_
    refine⟨zo,by exact sK,rfl,?_⟩
    rintro k hk
    have lak:=uY (zX (t.kids.take k)) A
    have lpk:=uW (zU (t.kids.take k)) P1
    unfold yz
    refine sW ?_
    refine sR ?_
    refine sS (λq0=>?_) λq0=>?_
    ·have q0:k<t.width:=by simpa [Tree.width] using q0
     refine sL (y8 q0) ?_
     have eA2:=wR q0
     have eP2:=wO q0
     have tA:(zX (t.kids.take k)).length+(ye (t.yD k)).length≤(zX t.kids).length:=vg q0
     have tP:(zU (t.kids.take k)).length+(partsOf (t.yD k)).length≤(zU t.kids).length:=vk q0
     have hG:=vH (ih k q0 (x9 hwf q0) (vL A (zX (t.kids.take k))) (we P1 (zU (t.kids.take k))) zo zo) [.row true (yo t),.vec true 0 3 [[.sc (.int .i64 0),.sc (.int .i64 0),.sc (.slice none 0 0)]],.row true (yo (t.yD k))] (by simp[yz]) (by simp[yz,zl,zt,zw _ (zm _)]) (x5 (by simp[yz]))
     rw[←vl,←x6,←eA2,←eP2] at hG
     unfold yz at hG
     refine sA hG ?_
     refine sI ?_
     refine⟨k+1,zo,zd,?_⟩
     dsimp only
     (refine zj 5 zs rfl ?_ ?_<;>(repeat' (first|exact trivial|exact rfl|exact yc.refl _|exact zQ.refl _|exact zK.refl _|refine And.intro ?_ ?_|(simp[zt,zl,zF,-List.map_take,-List.map_drop];done))))
     all_goals first|exact zr _ (ym _)|exact zh _ (xG t)|skip
    ·have q0:k=t.width:=by have:¬k<t.width:=by simpa [Tree.width] using q0
                           omega
     subst q0
     rw[show t.kids.take t.width=t.kids from List.take_length]
     exact⟨.refl _,y5 _ _ (wQ (Nat.le_refl _))⟩
   ·have hlt:¬(wA (QN t) P<0):=by rw[r,decide_eq_true_eq] at hany;omega
    have hP1:we P [t]=P:=by rw[Yq,if_pos r]
    rw[decide_eq_false hlt]
    refine sW ?_
    have lA:A.length+(zX t.kids).length≤1000:=hA
    have lP:P.length+(zU t.kids).length≤1000:=zo
    rw[eA,eP,x6,hP1]
    refine z8 [0,49,50] (λk:Nat=>[(51,.sc (.int .i64 k))]) (λk=>yz (vL A (zX (t.kids.take k))) (we P (zU (t.kids.take k)))++[.row true (yo t)]) (λk=>k≤t.width) (λk=>t.width-k) 0 ?_
    refine sW ?_
    refine⟨zo,by exact sK,rfl,?_⟩
    rintro k hk
    have lak:=uY (zX (t.kids.take k)) A
    have lpk:=uW (zU (t.kids.take k)) P
    unfold yz
    refine sW ?_
    refine sR ?_
    refine sS (λq0=>?_) λq0=>?_
    ·have q0:k<t.width:=by simpa [Tree.width] using q0
     refine sL (y8 q0) ?_
     have eA2:=wR q0
     have eP2:=wO q0
     have tA:(zX (t.kids.take k)).length+(ye (t.yD k)).length≤(zX t.kids).length:=vg q0
     have tP:(zU (t.kids.take k)).length+(partsOf (t.yD k)).length≤(zU t.kids).length:=vk q0
     have hG:=vH (ih k q0 (x9 hwf q0) (vL A (zX (t.kids.take k))) (we P (zU (t.kids.take k))) zo zo) [.row true (yo t),.row true (yo (t.yD k))] (by simp[yz]) (by simp[yz,zl,zt,zw _ (zm _)]) (x5 (by simp[yz]))
     rw[←vl,←x6,←eA2,←eP2] at hG
     unfold yz at hG
     refine sA hG ?_
     refine sI ?_
     refine⟨k+1,zo,zd,?_⟩
     dsimp only
     (refine zj 4 zs rfl ?_ ?_<;>(repeat' (first|exact trivial|exact rfl|exact yc.refl _|exact zQ.refl _|exact zK.refl _|refine And.intro ?_ ?_|(simp[zt,zl,zF,-List.map_take,-List.map_drop];done))))
     all_goals first|exact zr _ (ym _)|exact zh _ (xG t)|skip
    ·have q0:k=t.width:=by have:¬k<t.width:=by simpa [Tree.width] using q0
                           omega
     subst q0
     rw[show t.kids.take t.width=t.kids from List.take_length]
     exact⟨.refl _,y5 _ _ (wQ (Nat.le_refl _))⟩
  have k7:¬(t.kind=7∨t.kind=8∨t.kind=9):=by
   simp only[beq_eq_false_iff_ne] at k7 k8 k9
   omega
  rw[if_neg k7,List.nil_append] at eP
  rw[eP] at hP
  rw[eA,eP]
  have lA:A.length+(zX t.kids).length≤1000:=hA
  have lP:P.length+(zU t.kids).length≤1000:=hP
  refine z8 [0,49,50] (λk:Nat=>[(51,.sc (.int .i64 k))]) (λk=>yz (vL A (zX (t.kids.take k))) (we P (zU (t.kids.take k)))++[.row true (yo t)]) (λk=>k≤t.width) (λk=>t.width-k) 0 ?_
  refine sW ?_
  refine⟨zo,by exact sK,rfl,?_⟩
  rintro k hk
  have lak:=uY (zX (t.kids.take k)) A
  have lpk:=uW (zU (t.kids.take k)) P
  unfold yz
  refine sW ?_
  refine sR ?_
  refine sS (λq0=>?_) λq0=>?_
  ·have q0:k<t.width:=by simpa [Tree.width] using q0
   refine sL (y8 q0) ?_
   have eA2:=wR q0
   have eP2:=wO q0
   have tA:(zX (t.kids.take k)).length+(ye (t.yD k)).length≤(zX t.kids).length:=vg q0
   have tP:(zU (t.kids.take k)).length+(partsOf (t.yD k)).length≤(zU t.kids).length:=vk q0
   have hG:=vH (ih k q0 (x9 hwf q0) (vL A (zX (t.kids.take k))) (we P (zU (t.kids.take k))) zo zo) [.row true (yo t),.row true (yo (t.yD k))] (by simp[yz]) (by simp[yz,zl,zt,zw _ (zm _)]) (x5 (by simp[yz]))
   rw[←vl,←x6,←eA2,←eP2] at hG
   unfold yz at hG
   refine sA hG ?_
   refine sI ?_
   refine⟨k+1,zo,zd,?_⟩
   dsimp only
   (refine zj 4 zs rfl ?_ ?_<;>(repeat' (first|exact trivial|exact rfl|exact yc.refl _|exact zQ.refl _|exact zK.refl _|refine And.intro ?_ ?_|(simp[zt,zl,zF,-List.map_take,-List.map_drop];done))))
   all_goals first|exact zr _ (ym _)|exact zh _ (xG t)|skip
  ·have q0:k=t.width:=by have:¬k<t.width:=by simpa [Tree.width] using q0
                         omega
   subst q0
   rw[show t.kids.take t.width=t.kids from List.take_length]
   exact⟨.refl _,y5 _ _ (wQ (Nat.le_refl _))⟩
end
section
open Go.RowKit
theorem zmB {A:List Int} {x:Int} (h:x∈A):∃k:Nat,k<A.length∧wA (λa=>x==a) A=(k:Int):=by
 have h1:0≤wA (λa=>x==a) A:=by
  have:=uL (λa=>x==a) A
  rw[show A.any (λa=>x==a)=true from List.any_eq_true.2 ⟨x,h,zs⟩] at this
  simpa using this
 obtain⟨k,e,hk,_⟩:=zaG h1
 exact⟨k,hk,e⟩
theorem zjp {P:List Tree} {x:Tree} (h:x∈P):∃k:Nat,k<P.length∧wA (QN x) P=(k:Int):=by
 have h1:0≤wA (QN x) P:=by
  have:=uL (QN x) P
  rw[zni.2 h] at this
  simpa using this
 obtain⟨k,e,hk,_⟩:=zaG h1
 exact⟨k,hk,e⟩
structure zj7 (A:List Int) (P:List Tree):Prop where
 few:A.length+P.length≤10
 atoms:∀x∈A,0≤x∧x≤63
 told:∀g∈P,Told A P g
 wf:∀g∈P,g.wf vT∧(g.kind=7∨g.kind=8∨g.kind=9)
theorem W6 {n:Nat} (h:n≤10):2^n≤1024:=Nat.le_trans (Nat.pow_le_pow_right zo h) zc
theorem zeZ (n:Nat):(2:Int)^n=((2^n:Nat):Int):=zs
theorem zhe (k:Nat) (hk:k≤10):(1:Int)*2^min ((k:Int)).toNat 64=((2^k:Nat):Int):=by
 rw[Int.toNat_natCast,Nat.min_eq_left zo,Int.one_mul,zeZ]
def c150:PC:=.seq (OP [Bx 4 1,Mv 6 cF]) (.seq (.seq (OP [Fa 7 0 4,Lo 8 7,Bi 9 .eql 8 (cI 3)]) (.cond 9 (.seq (.ops [qm 10 2,qm 11 0,qd 12 (.zn 11) 2,qd 13 (.zz 0 12) 6,qd 14 (.zg 13) 14,Fa 15 1 4,qd 16 (.zg 15) 32,qd 17 (.call 193 [14,16]) 126,qd 18 (.bin .shr 10 17) 255,qd 19 (.bin .and 18 (cI 1)) 511,qd 20 (.bin .eql 19 (cI 1)) 1023,qw 6 20 2047] true) .ret) .skip)) (.seq (.ops [qm 21 2,qm 22 0,qd 23 (.zn 22) 2,qd 24 (.zz 0 23) 6,qd 25 (.zg 24) 14,qd 26 (.len 25) 30,qm 27 0,LA 28 3 4,qd 29 (.call 147 [27,28]) 192,qd 30 (.bin .add 26 29) 510,qd 31 (.bin .shr 21 30) 1023,qd 32 (.bin .and 31 (cI 1)) 2047,qd 33 (.bin .eql 32 (cI 1)) 4095,qw 6 33 8191] true) .ret))
theorem zvI:zy Tryz.prog 150 34 [.tmp 6] c150:=fK Tryz.func150
def c75:PC:=.seq (OP [Bx 4 1,Mv 6 cF]) (.seq (.seq (OP [Fa 7 0 4,Lo 8 7]) (.block 0 (.seq (OP [Bi 10 .eql 8 (cI 1),qm 9 10]) (.cond 9 (.seq (OP [Mv 6 cT]) .ret) (.seq (OP [Bi 12 .eql 8 (cI 2),qm 11 12]) (.cond 11 (.seq (OP [Mv 6 cF]) .ret) (.seq (OP [Bi 14 .eql 8 (cI 4),qm 13 14]) (.cond 13 (.seq (OP [qm 15 0,Fa 16 2 4,Lo 17 16,Ia 18 3 17 (cI 0),LA 19 3 18,qm 20 2,Ca 21 75 [15,19,20],Nt 22 21,qm 6 22]) .ret) (.seq (OP [Bi 24 .eql 8 (cI 5),qm 23 24]) (.cond 23 (.seq (OP [qm 25 0,Fa 26 2 4,Lo 27 26,Ia 28 3 27 (cI 0),LA 29 3 28,qm 30 2,Ca 31 75 [25,29,30],qm 32 31,GT 33 32 (.move 0),GT 34 32 (.zz 2 4),GT 35 32 (.zg 34),GT 36 32 (.zM 3 35 (cI 1)),GT 37 32 (.vw 3 36),GT 38 32 (.move 2),GT 39 32 (.call 75 [33,37,38]),Pk 40 32 39 cF,qm 6 40]) .ret) (.seq (OP [Bi 42 .eql 8 (cI 6),qm 41 42]) (.cond 41 (.seq (OP [qm 43 0,Fa 44 2 4,Lo 45 44,Ia 46 3 45 (cI 0),LA 47 3 46,qm 48 2,Ca 49 75 [43,47,48],qm 50 49,GF 51 50 (.move 0),GF 52 50 (.zz 2 4),GF 53 50 (.zg 52),GF 54 50 (.zM 3 53 (cI 1)),GF 55 50 (.vw 3 54),GF 56 50 (.move 2),GF 57 50 (.call 75 [51,55,56]),Pk 58 50 cT 57,qm 6 58]) .ret) (.seq (OP [Bi 60 .eql 8 (cI 8),qm 59 60]) (.cond 59 (.seq (OP [qm 61 0,Fa 62 2 4,Lo 63 62,Ia 64 3 63 (cI 1),LA 65 3 64,qm 66 2,Ca 67 75 [61,65,66],qm 68 67,GF 69 68 (.move 0),GF 70 68 (.zz 2 4),GF 71 68 (.zg 70),GF 72 68 (.zM 3 71 (cI 0)),GF 73 68 (.vw 3 72),GF 74 68 (.move 2),GF 75 68 (.call 75 [69,73,74]),GF 76 68 (.move 75),GT 77 76 (.move 0),GT 78 76 (.vw 3 4),GT 79 76 (.move 2),GT 80 76 (.call 150 [77,78,79]),GF 81 68 (.pick 76 80 cF),Pk 82 68 cT 81,qm 6 82]) .ret) (.seq (OP [Bi 84 .eql 8 (cI 9),qm 83 84]) (.cond 83 (.seq (OP [qm 85 0,Fa 86 2 4,Lo 87 86,Ia 88 3 87 (cI 1),LA 89 3 88,qm 90 2,Ca 91 75 [85,89,90],qm 92 91,GT 93 92 (.move 0),GT 94 92 (.zz 2 4),GT 95 92 (.zg 94),GT 96 92 (.zM 3 95 (cI 0)),GT 97 92 (.vw 3 96),GT 98 92 (.move 2),GT 99 92 (.call 75 [93,97,98]),GT 100 92 (.move 99),GF 101 100 (.move 0),GF 102 100 (.vw 3 4),GF 103 100 (.move 2),GF 104 100 (.call 150 [101,102,103]),GT 105 92 (.pick 100 cT 104),Pk 106 92 105 cF,qm 6 106]) .ret) .skip)))))))))))))))) (.seq (OP [qm 107 0,LA 108 3 4,qm 109 2,Ca 110 150 [107,108,109],qm 6 110]) .ret))
theorem zyC:zy Tryz.prog 75 111 [.tmp 6] c75:=fK Tryz.func75
def c77:PC:=.seq (OP [Mv 4 (cI 0)]) (.seq (OP [qm 5 1,qm 6 0,q 7 (.zn 6),Fa 8 0 7,Lo 9 8,Ln 10 9,Bi 11 .shr 5 10,qm 4 11]) .ret)
theorem zxA:zy Tryz.prog 77 12 [.tmp 4] c77:=fK Tryz.func77
def zCa:PC:=.seq (OP [Bi 15 .lss 14 13]) (.seq (.cond 15 .skip (.exit 0)) (.seq (.block 1 (.seq (OP [qm 16 14,Ia 17 3 12 14,LA 18 3 17,q 7 (.alloc [(.int .i64 0),(.int .i64 0),(.slice none 0 0)]),qm 6 16,So 3 7 18]) (.seq (OP [LA 19 3 7,q 8 (.alloc [(.int .i64 0),(.int .i64 0),(.slice none 0 0)]),So 3 8 19]) (.seq (.seq (OP [Fa 20 0 7,Lo 21 20,Bi 22 .eql 21 (cI 7)]) (.cond 22 (OP [Fa 23 2 7,Lo 24 23,Ia 25 3 24 (cI 0),LA 26 3 25,So 3 8 26]) .skip)) (.seq (OP [qm 27 0,LA 28 3 8,qm 29 1,Ca 30 75 [27,28,29]]) (.cond 30 (OP [qm 31 5,qm 32 6,Bi 33 .shl (cI 1) 32,Bi 34 .or 31 33,qm 5 34]) .skip)))))) (OP [Bi 35 .add 14 (cI 1),qm 14 35])))
def c74:PC:=.seq (OP [Mv 4 (cI 0)]) (.seq (OP [Mv 5 (cI 0)]) (.seq (.seq (OP [qm 9 0,q 10 (.zn 9),Fa 11 1 10,Lo 12 11,Ln 13 12,Mv 14 (cI 0)]) (.block 0 (.loop zCa))) (.seq (OP [qm 36 5,qm 4 36]) .ret)))
theorem zy0:zy Tryz.prog 74 37 [.tmp 4] c74:=fK Tryz.func74
def zAB:PC:=.seq (OP [Bi 16 .lss 15 14]) (.seq (.cond 16 .skip (.exit 0)) (.seq (.block 1 (.seq (OP [qm 17 15,Ia 18 1 13 15,Lo 19 18,qm 8 17,qm 9 19]) (.seq (OP [qm 20 1,qm 21 8,Bi 22 .shr 20 21,Bi 23 .and 22 (cI 1),Bi 24 .eql 23 (cI 1),qm 25 2,q 26 (.eqb false 24 25)]) (.cond 26 (OP [qm 27 7,qm 28 9,q 29 (.bin .shl (.const (.int .u64 1)) 28),Bi 30 .or 27 29,qm 7 30]) .skip)))) (OP [Bi 31 .add 15 (cI 1),qm 15 31])))
def c78:PC:=.seq (OP [q 6 (.move (.const (.int .u64 0)))]) (.seq (OP [q 7 (.move (.const (.int .u64 0)))]) (.seq (.seq (OP [qm 10 0,q 11 (.zn 10),Fa 12 0 11,Lo 13 12,Ln 14 13,Mv 15 (cI 0)]) (.block 0 (.loop zAB))) (.seq (OP [qm 32 7,qm 6 32]) .ret)))
theorem zzp:zy Tryz.prog 78 33 [.tmp 6] c78:=fK Tryz.func78
def c79:PC:=.seq (OP [Bx 4 1,Mv 6 cF]) (.seq (.seq (OP [Fa 7 0 4,Lo 8 7,Bi 9 .eql 8 (cI 8)]) (.cond 9 (.seq (OP [qm 10 0,LA 11 3 4,qm 12 2,Ca 13 75 [10,11,12],Nt 14 13,qm 15 14,GF 16 15 (.move 0),GF 17 15 (.zz 2 4),GF 18 15 (.zg 17),GF 19 15 (.zM 3 18 (cI 1)),GF 20 15 (.vw 3 19),GF 21 15 (.move 2),GF 22 15 (.call 75 [16,20,21]),Pk 23 15 cT 22,qm 6 23]) .ret) .skip)) (.seq (OP [qm 24 0,LA 25 3 4,qm 26 2,Ca 27 75 [24,25,26],qm 28 27,GF 29 28 (.move 0),GF 30 28 (.zz 2 4),GF 31 28 (.zg 30),GF 32 28 (.zM 3 31 (cI 1)),GF 33 28 (.vw 3 32),GF 34 28 (.move 2),GF 35 28 (.call 75 [29,33,34]),GF 36 28 (.un .not 35),Pk 37 28 cT 36,qm 6 37]) .ret))
theorem zy4:zy Tryz.prog 79 38 [.tmp 6] c79:=fK Tryz.func79
theorem znK (A:List Int) (P:List Tree) (hI:zj7 A P) (f:Tree) (hs:Small f) (hT:Told A P f) (hk:f.kind=3∨f.kind=7∨f.kind=8∨f.kind=9) (s:Nat) :
  zq Tryz.prog 150 [X9 A P,zZ f,.sc (.int .i64 s)] (.sc (.bool (X8 A P s f))):=by
 have hf:=hI.few
 refine za zvI zs (by simp[ze,Pure,Zi,zm]) ?_ (by simp[Pure])
 unfold X9
 refine sR ?_
 refine sS (λk3=>?_) λk3=>?_
 ·have k3:f.kind=3:=by simpa using k3
  obtain⟨k,h1,h2⟩:=zmB (hT.atom k3)
  have e:X8 A P s f=s.testBit k:=by unfold X8 zrA;rw[if_pos k3,h2];rfl
  have hi:=zfz A zo f.num
  rw[h2] at hi
  rw[e,←zp5 s k zo]
  refine sN hi ?_
  refine⟨zo,?_⟩
  refine sW ?_
  exact .refl _
 ·have k3:¬f.kind=3:=by simpa using k3
  obtain⟨k,h1,h2⟩:=zjp (hT.part zo)
  have e:X8 A P s f=s.testBit (A.length+k):=by unfold X8 zrA;rw[if_neg k3,h2];rfl
  have hi:=zcA A P zo f hs
  rw[h2] at hi
  unfold X9 at hi
  rw[e,←zp5 s (A.length+k) zo]
  refine sN hi ?_
  rw[List.length_map]
  refine sI ?_
  refine⟨zo,?_⟩
  refine sW ?_
  exact .refl _
theorem zaI (A:List Int) (P:List Tree) (hI:zj7 A P) (s:Nat):∀f:Tree,f.wf vT→Told A P f →
  zq Tryz.prog 75 [X9 A P,zZ f,.sc (.int .i64 s)] (.sc (.bool (yq (X8 A P s) f))):=by
 intro f
 induction f using Tree.ind with
 | h f ih =>
  intro hwf hT
  have hs:=WU f (zix hwf)
  have hsz:=hs.width
  have hK:=zaT hwf
  have hE:=u9 (X8 A P s) f
  have hch:=λhk=>znK A P hI f hs hT hk s
  refine za zyC zs (by simp[ze,Pure,Zi,zm]) ?_ (by simp[Pure])
  have fin:∀{H:List zf} {b:Bool},b=qQ f.kind (X8 A P s f) (f.kids.map (yq (X8 A P s)))→Deep H (.sc (.bool b)) (.sc (.bool (yq (X8 A P s) f))):=λh=>by rw[hE,h];exact .refl _
  have ha:∀j,j<f.width→(f.kids.map (yq (X8 A P s))).getD j false=yq (X8 A P s) (f.yD j):=λj hj=>uj _ hj
  have hI2:∀j,(hj:j<f.width)→zq Tryz.prog 75 [X9 A P,zZ (f.yD j),.sc (.int .i64 s)] (.sc (.bool (yq (X8 A P s) (f.yD j)))):=λj hj=>ih j hj (x9 hwf hj) (hT.yD hj)
  unfold X9 at *
  refine sR ?_
  refine sS (λh1=>?_) λh1=>?_
  ·have h1:f.kind=1:=by simpa using h1
   refine fin ?_;rw[h1];rfl
  refine sS (λh2=>?_) λh2=>?_
  ·have h2:f.kind=2:=by simpa using h2
   refine fin ?_;rw[h2];rfl
  refine sS (λh4=>?_) λh4=>?_
  ·have h4:f.kind=4:=by simpa using h4
   have w0:0<f.width:=zo
   have e0:=ha 0 w0
   refine⟨zo,_,y8 w0,?_⟩;refine sW ?_
   refine sC (hI2 0 w0) ?_
   refine fin ?_;rw[h4,←e0];rfl
  refine sS (λh5=>?_) λh5=>?_
  ·have h5:f.kind=5:=by simpa using h5
   have w0:0<f.width:=zo
   have w1:1<f.width:=zo
   have e0:=ha 0 w0
   have e1:=ha 1 w1
   refine⟨zo,_,y8 w0,?_⟩;refine sW ?_
   refine sC (hI2 0 w0) ?_
   rw[h5] at fin
   unfold qQ at fin
   rw[←e0]
   refine sS (λq0=>?_) λq0=>?_
   ·refine⟨zo,_,y8 w1,?_⟩;refine sW ?_
    refine sC (hI2 1 w1) ?_
    refine fin ?_;(try simp only[←e1,q0]);simp
   ·refine fin ?_;(try simp only[q0]);simp
  refine sS (λh6=>?_) λh6=>?_
  ·have h6:f.kind=6:=by simpa using h6
   have w0:0<f.width:=zo
   have w1:1<f.width:=zo
   have e0:=ha 0 w0
   have e1:=ha 1 w1
   refine⟨zo,_,y8 w0,?_⟩;refine sW ?_
   refine sC (hI2 0 w0) ?_
   rw[h6] at fin
   unfold qQ at fin
   rw[←e0]
   refine sS (λq0=>?_) λq0=>?_
   ·refine fin ?_;(try simp only[q0]);simp
   ·refine⟨zo,_,y8 w1,?_⟩;refine sW ?_
    refine sC (hI2 1 w1) ?_
    refine fin ?_;(try simp only[←e1,q0]);simp
  refine sS (λh8=>?_) λh8=>?_
  ·have h8:f.kind=8:=by simpa using h8
   have w0:0<f.width:=zo
   have w1:1<f.width:=zo
   have e0:=ha 0 w0
   have e1:=ha 1 w1
   refine⟨zo,_,y8 w1,?_⟩;refine sW ?_
   refine sC (hI2 1 w1) ?_
   rw[h8] at fin
   unfold qQ at fin
   rw[←e1]
   refine sS (λq1=>?_) λq1=>?_
   ·refine fin ?_;(try simp only[q1]);simp
   ·refine⟨zo,_,y8 w0,?_⟩;refine sW ?_
    refine sC (hI2 0 w0) ?_
    rw[←e0]
    refine sS (λq0=>?_) λq0=>?_
    ·refine sC (hch zo) ?_
     refine fin ?_;(try simp only[q0,q1]);simp
    ·refine fin ?_;(try simp only[q0,q1]);simp
  refine sS (λh9=>?_) λh9=>?_
  ·have h9:f.kind=9:=by simpa using h9
   have w0:0<f.width:=zo
   have w1:1<f.width:=zo
   have e0:=ha 0 w0
   have e1:=ha 1 w1
   refine⟨zo,_,y8 w1,?_⟩;refine sW ?_
   refine sC (hI2 1 w1) ?_
   rw[h9] at fin
   unfold qQ at fin
   rw[←e1]
   refine sS (λq1=>?_) λq1=>?_
   ·refine⟨zo,_,y8 w0,?_⟩;refine sW ?_
    refine sC (hI2 0 w0) ?_
    rw[←e0]
    refine sS (λq0=>?_) λq0=>?_
    ·refine fin ?_;(try simp only[q0,q1]);simp
    ·refine sC (hch zo) ?_
     refine fin ?_;(try simp only[q0,q1]);simp
   ·refine fin ?_;(try simp only[q1]);simp
  have h3:f.kind=3∨f.kind=7:=by
   simp only[beq_eq_false_iff_ne] at h1 h2 h4 h5 h6 h8 h9
   omega
  refine sC (hch zo) ?_
  refine fin ?_;rcases h3 with h3|h3<;>rw[h3]<;>rfl
theorem ztD (A:List Int) (P:List Tree) (hA:A.length≤60) (s:Nat):zq Tryz.prog 77 [X9 A P,.sc (.int .i64 s)] (.sc (.int .i64 ((s/2^A.length:Nat):Int))):=by
 refine za zxA zs (by simp[ze,Pure,Zi]) ?_ (by simp[Pure])
 unfold X9
 refine sR ?_
 rw[List.length_map]
 refine⟨zo,?_⟩
 refine sW ?_
 exact yA (congrArg (λx=>D.sc (.int .i64 x)) (zjT s A.length zo))
theorem zfF {A:List Int} {P:List Tree} (hI:zj7 A P) {g:Tree} (hg:g∈P):(Zb g).wf vT∧Told A P (Zb g):=by
 obtain⟨h1,h2⟩:=hI.wf g hg
 have hT:=hI.told g hg
 unfold Zb
 split
 ·have w0:0<g.width:=qI (zix h1) zo
  exact⟨x9 h1 w0,hT.yD w0⟩
 ·exact⟨h1,hT⟩
theorem zgc {P:List Tree} {k:Nat} (h:k<P.length):P.getD k default∈P:=by
 rw[List.getD_eq_getElem?_getD,List.getElem?_eq_getElem h];simp
theorem zs1 (A:List Int) (P:List Tree) (hI:zj7 A P) (s:Nat):zq Tryz.prog 74 [X9 A P,.sc (.int .i64 s)] (.sc (.int .i64 (W1 A P s))):=by
 have hf:=hI.few
 refine za zy0 zs (by simp[ze,Pure,Zi]) ?_ (by simp[Pure])
 have hH:=λg (hg:g∈P)=>zaI A P hI s (Zb g) (zfF hI hg).1 (zfF hI hg).2
 unfold X9 at *
 refine sR ?_
 rw[W5]
 refine zO [0,1,12,13] (λk:Nat=>[(5,.sc (.int .i64 (XO (hK A P s) k))),(14,.sc (.int .i64 k))]) (λ_=>[]) (λk=>k≤P.length) (λk=>P.length-k) 0 ?_
 refine sW ?_
 refine⟨zo,by exact sK,rfl,?_⟩
 rintro k hk
 refine sW ?_
 refine sR ?_
 refine sS (λq0=>?_) λq0=>?_
 ·have q0:k<P.length:=sO
  refine sL (zjy (k:=k) zo q0) ?_
  have hg:=zgc q0
  obtain⟨hw,hk7⟩:=hI.wf _ hg
  have hB:=hH _ hg
  have hb:hK A P s k=yq (X8 A P s) (Zb (P.getD k default)):=rfl
  have hS:XO (hK A P s) (k+1)=if hK A P s k=true then XO (hK A P s) k+2^k else XO (hK A P s) k:=rfl
  have hlt:=Ve (hK A P s) k
  have hp10:=W6 (n:=k) zo
  have e1:(1:Int)*2^min ((k:Int)).toNat IntKind.i64.bits=((2^k:Nat):Int):=zhe k zo
  have e2:=zzM (XO (hK A P s) k) k hlt zo
  rw[←hb] at hB
  generalize hK A P s k=b at *
  generalize P.getD k default=g at *
  refine sS (λg7=>?_) λg7=>?_
  ·have g7:g.kind=7:=by simpa using g7
   have w0:0<g.width:=qI (zix hw) zo
   rw[show Zb g=g.yD 0 from if_pos g7] at hB
   refine sL (y8 w0) ?_
   refine sC hB ?_
   cases b
   ·rw[if_neg zc] at hS
    refine sW ?_
    refine sI ?_
    refine⟨k+1,zo,zd,?_⟩
    dsimp only
    rw[hS]
    (refine zj 0 zs rfl ?_ ?_<;>(repeat' (first|exact trivial|exact rfl|exact yc.refl _|exact zQ.refl _|exact zK.refl _|refine And.intro ?_ ?_|(simp[zt,zl,zF,-List.map_take,-List.map_drop];done))))
    all_goals first|exact zh _ (wo _)|exact zw _ (zi _)|skip
   ·rw[if_pos rfl] at hS
    refine sW ?_
    refine⟨zo,?_⟩
    rw[e1]
    generalize 2^k=z at *
    refine sI ?_
    rw[e2]
    refine sI ?_
    refine⟨k+1,zo,zd,?_⟩
    dsimp only
    rw[hS]
    (refine zj 0 zs rfl ?_ ?_<;>(repeat' (first|exact trivial|exact rfl|exact yc.refl _|exact zQ.refl _|exact zK.refl _|refine And.intro ?_ ?_|(simp[zt,zl,zF,-List.map_take,-List.map_drop];done))))
    all_goals first|exact zh _ (wo _)|exact zw _ (zi _)|skip
  ·have g7:¬g.kind=7:=by simpa using g7
   rw[show Zb g=g from if_neg g7] at hB
   refine sC hB ?_
   cases b
   ·rw[if_neg zc] at hS
    refine sW ?_
    refine sI ?_
    refine⟨k+1,zo,zd,?_⟩
    dsimp only
    rw[hS]
    (refine zj 0 zs rfl ?_ ?_<;>(repeat' (first|exact trivial|exact rfl|exact yc.refl _|exact zQ.refl _|exact zK.refl _|refine And.intro ?_ ?_|(simp[zt,zl,zF,-List.map_take,-List.map_drop];done))))
    all_goals first|exact zh _ (wo _)|exact zw _ (zi _)|skip
   ·rw[if_pos rfl] at hS
    refine sW ?_
    refine⟨zo,?_⟩
    rw[e1]
    generalize 2^k=z at *
    refine sI ?_
    rw[e2]
    refine sI ?_
    refine⟨k+1,zo,zd,?_⟩
    dsimp only
    rw[hS]
    (refine zj 0 zs rfl ?_ ?_<;>(repeat' (first|exact trivial|exact rfl|exact yc.refl _|exact zQ.refl _|exact zK.refl _|refine And.intro ?_ ?_|(simp[zt,zl,zF,-List.map_take,-List.map_drop];done))))
    all_goals first|exact zh _ (wo _)|exact zw _ (zi _)|skip
 ·have q0:k=P.length:=by have:¬k<P.length:=sO
                         omega
  subst q0
  exact .refl _
theorem zmz (A:List Int) (P:List Tree) (hA:A.length≤60) (hr:∀x∈A,0≤x∧x≤63) (s:Nat) (is:Bool):zq Tryz.prog 78 [X9 A P,.sc (.int .i64 s),.sc (.bool is)] (.sc (.int .u64 (xK A s is A.length))):=by
 refine za zzp zs (by simp[ze,Pure,Zi]) ?_ (by simp[Pure])
 unfold X9
 refine sR ?_
 rw[List.length_map]
 refine zO [1,2,13,14] (λk:Nat=>[(7,.sc (.int .u64 (xK A s is k))),(15,.sc (.int .i64 k))]) (λ_=>[]) (λk=>k≤A.length) (λk=>A.length-k) 0 ?_
 refine sW ?_
 refine⟨zo,by exact sK,rfl,?_⟩
 rintro k hk
 refine sW ?_
 refine sR ?_
 refine sS (λq0=>?_) λq0=>?_
 ·have q0:k<A.length:=sO
  refine sL (yb (l:=A) (k:=k) zo q0) ?_
  have hx:=hr _ (yv q0)
  have hS:xK A s is (k+1)=if (s.testBit k==is)=true then vd .or .u64 (xK A s is k) (2^(A.getD k 0).toNat) else xK A s is k:=rfl
  generalize A.getD k 0=x at *
  refine⟨zo,?_⟩
  refine sW ?_
  have eb:(vd .and .i64 ((s:Int).fdiv (2^min ((k:Int)).toNat IntKind.i64.bits)) 1==1)=s.testBit k:=zp5 s k zo
  have e1:(1:Int)*2^min x.toNat IntKind.u64.bits=2^x.toNat:=by
   rw[show IntKind.u64.bits=64 from rfl,Nat.min_eq_left zo,Int.one_mul]
  have hb2:(0:Int)≤2^x.toNat∧(2:Int)^x.toNat<18446744073709551616:=by
   have h1:2^x.toNat≤2^63:=Nat.pow_le_pow_right zo zo
   have h2:(2:Nat)^63=9223372036854775808:=zc
   rw[zeZ]
   generalize 2^x.toNat=z at *
   omega
  rw[eb]
  cases r:(s.testBit k==is)
  ·rw[r,if_neg zc] at hS
   refine sW ?_
   refine sI ?_
   refine⟨k+1,zo,zd,?_⟩
   dsimp only
   rw[hS]
   exact zD (by exact sK) rfl
  ·rw[r,if_pos rfl] at hS
   refine sW ?_
   refine⟨zo,?_⟩
   rw[e1]
   refine .inl ⟨by unfold InR;rw[IntKind.wrap_u64];omega,?_⟩
   refine sW ?_
   refine sI ?_
   refine⟨k+1,zo,zd,?_⟩
   dsimp only
   rw[hS]
   exact zD (by exact sK) rfl
 ·have q0:k=A.length:=by have:¬k<A.length:=sO
                         omega
  subst q0
  exact .refl _
theorem zu6 (A:List Int) (P:List Tree) (hI:zj7 A P) (s:Nat) (g:Tree) (hw:g.wf vT) (hT:Told A P g) (hk:g.kind=8∨g.kind=9):zq Tryz.prog 79 [X9 A P,zZ g,.sc (.int .i64 s)] (.sc (.bool (Zv A P g s))):=by
 have hf:=hI.few
 have w1:1<g.width:=by have:=zaT hw;omega
 have h0:=zaI A P hI s g hw hT
 have h1:=zaI A P hI s (g.yD 1) (x9 hw w1) (hT.yD w1)
 have hE:Zv A P g s=if g.kind=8 then !(yq (X8 A P s) g)||yq (X8 A P s) (g.yD 1) else yq (X8 A P s) g||!(yq (X8 A P s) (g.yD 1)):=rfl
 refine za zy4 zs (by simp[ze,Pure,Zi,zm]) ?_ (by simp[Pure])
 generalize yq (X8 A P s) g=b0 at *
 generalize yq (X8 A P s) (g.yD 1)=b1 at *
 rw[hE]
 unfold X9 at *
 refine sR ?_
 refine sS (λg8=>?_) λg8=>?_
 ·have g8:g.kind=8:=by simpa using g8
  rw[if_pos g8]
  refine sC h0 ?_
  cases b0
  ·refine sW ?_
   exact .refl _
  ·refine sW ?_
   refine sL (y8 w1) ?_
   refine sC h1 ?_
   exact .refl _
 ·have g8:¬g.kind=8:=by simpa using g8
  rw[if_neg g8]
  refine sC h0 ?_
  cases b0
  ·refine sW ?_
   refine sL (y8 w1) ?_
   refine sC h1 ?_
   exact .refl _
  ·refine sW ?_
   exact .refl _
end
section
open Go.RowKit Go.Shelf Go.Sort
def zkz:Go.Shelf.Ren:=⟨λ| 189=>73|125=>149|257=>148|128=>206|129=>207|294=>197|295=>198|296=>199|297=>200|298=>201|299=>202|216=>203|300=>204|301=>205|328=>226|329=>227|330=>228|331=>229|332=>230|215=>231|343=>240|n=>n,λ| 28=>37|3=>3|46=>225|0=>0|51=>267|53=>86|4=>4|183=>260|182=>259|131=>234|5=>5|9=>9|218=>280|222=>155|228=>290|229=>291|n=>n,λ| n=>n⟩
theorem zne:Go.Proofs.Lays.n189 Tryz.prog zkz:={
 mixed:=by kernel_rfl,
 f125:=Tryz.func149.trans (congrArg some (by kernel_rfl)),
 f128:=Tryz.func206.trans (congrArg some (by kernel_rfl)),
 f129:=Tryz.func207.trans (congrArg some (by kernel_rfl)),
 f189:=Tryz.func73.trans (congrArg some (by kernel_rfl)),
 f215:=Tryz.func231.trans (congrArg some (by kernel_rfl)),
 f216:=Tryz.func203.trans (congrArg some (by kernel_rfl)),
 f257:=Tryz.func148.trans (congrArg some (by kernel_rfl)),
 f294:=Tryz.func197.trans (congrArg some (by kernel_rfl)),
 f295:=Tryz.func198.trans (congrArg some (by kernel_rfl)),
 f296:=Tryz.func199.trans (congrArg some (by kernel_rfl)),
 f297:=Tryz.func200.trans (congrArg some (by kernel_rfl)),
 f298:=Tryz.func201.trans (congrArg some (by kernel_rfl)),
 f299:=Tryz.func202.trans (congrArg some (by kernel_rfl)),
 f300:=Tryz.func204.trans (congrArg some (by kernel_rfl)),
 f301:=Tryz.func205.trans (congrArg some (by kernel_rfl)),
 f328:=Tryz.func226.trans (congrArg some (by kernel_rfl)),
 f329:=Tryz.func227.trans (congrArg some (by kernel_rfl)),
 f330:=Tryz.func228.trans (congrArg some (by kernel_rfl)),
 f331:=Tryz.func229.trans (congrArg some (by kernel_rfl)),
 f332:=Tryz.func230.trans (congrArg some (by kernel_rfl)),
 f343:=Tryz.func240.trans (congrArg some (by kernel_rfl)),
 t0:=Tryz.underlying0,
 a0:=Tryz.isAgg0,
 z0:=Tryz.sizeOf0,
 v0:=Tryz.zeroValue0,
 t3:=Tryz.underlying3,
 a3:=Tryz.isAgg3,
 z3:=Tryz.sizeOf3,
 v3:=Tryz.zeroValue3,
 t4:=Tryz.underlying4,
 a4:=Tryz.isAgg4,
 z4:=Tryz.sizeOf4,
 v4:=Tryz.zeroValue4,
 t5:=Tryz.underlying5,
 a5:=Tryz.isAgg5,
 z5:=Tryz.sizeOf5,
 v5:=Tryz.zeroValue5,
 t9:=Tryz.underlying9,
 a9:=Tryz.isAgg9,
 z9:=Tryz.sizeOf9,
 v9:=Tryz.zeroValue9,
 t28:=Tryz.underlying37,
 a28:=Tryz.isAgg37,
 z28:=Tryz.sizeOf37,
 v28:=Tryz.zeroValue37,
 t46:=Tryz.underlying225,
 a46:=Tryz.isAgg225,
 z46:=Tryz.sizeOf225,
 v46:=Tryz.zeroValue225,
 t51:=Tryz.underlying267,
 a51:=Tryz.isAgg267,
 z51:=Tryz.sizeOf267,
 v51:=Tryz.zeroValue267,
 t53:=Tryz.underlying86,
 a53:=Tryz.isAgg86,
 z53:=Tryz.sizeOf86,
 v53:=Tryz.zeroValue86,
 t131:=Tryz.underlying234,
 a131:=Tryz.isAgg234,
 z131:=Tryz.sizeOf234,
 v131:=Tryz.zeroValue234,
 t182:=Tryz.underlying259,
 a182:=Tryz.isAgg259,
 z182:=Tryz.sizeOf259,
 v182:=Tryz.zeroValue259,
 t183:=Tryz.underlying260,
 a183:=Tryz.isAgg260,
 z183:=Tryz.sizeOf260,
 v183:=Tryz.zeroValue260,
 t218:=Tryz.underlying280,
 a218:=Tryz.isAgg280,
 z218:=Tryz.sizeOf280,
 v218:=Tryz.zeroValue280,
 t222:=Tryz.underlying155,
 a222:=Tryz.isAgg155,
 z222:=Tryz.sizeOf155,
 v222:=Tryz.zeroValue155,
 t228:=Tryz.underlying290,
 a228:=Tryz.isAgg290,
 z228:=Tryz.sizeOf290,
 v228:=Tryz.zeroValue290,
 t229:=Tryz.underlying291,
 a229:=Tryz.isAgg291,
 z229:=Tryz.sizeOf291,
 v229:=Tryz.zeroValue291 }
def Wp (l:List Int):List Int:=l.mergeSort λx y=>decide (x≤y)
@[simp] theorem zoK (l:List Int):(Wp l).length=l.length:=by unfold Wp;exact List.length_mergeSort _
theorem zp3 {w:World} {b o:Nat} {vals:Array Value} {te:TypeId} {fr:Nat × Nat} {n:Nat} {os:Array Obj} (d:Array Int) (hb:w.heap[b]? = some (.cells vals te fr)) :
  (grow (putRow (Value.int .i64) (Sort.ahead w n) b o d) os).heap[b]? = some (.cells (putCells (Value.int .i64) o d vals) te fr):=by
 have hg:b<w.heap.size:=(Array.getElem?_eq_some_iff.1 hb).1
 rw[heap_grow_old _ _ (by simpa using hg)]
 simp[putRow,mapBlock,Sort.ahead,Array.getElem?_modify,hb,onCells]
theorem zl9 {w:World} {b o:Nat} {n:Nat} {os:Array Obj} (d:Array Int) {k:Nat} (hk:k<w.heap.size) (hne:k≠b):(grow (putRow (Value.int .i64) (Sort.ahead w n) b o d) os).heap[k]? = w.heap[k]?:=by
 rw[heap_grow_old _ _ (by simpa using hk)]
 have:b≠k:=λe=>hne e.symm
 simp[putRow,mapBlock,Sort.ahead,Array.getElem?_modify,this]
theorem zqP (zY:Nat) (l:List Int) (h0:0<l.length) (hl:l.length<4611686018427387904) :
  yu Tryz.prog 73 [.own 0 zY 0 l.length] [.vec true zY 1 (zL l)] (.yO []) [.vec true zY 1 (zL (Wp l))] where
 ok:=⟨_,Tryz.func73,by kernel_rfl,by kernel_rfl⟩
 len:=zs
 run J F w vs hst hdom hR:=by
  simp only[yf,rep] at hR
  obtain⟨v,us,rfl,⟨s,A,n,c,hJ,rfl,_,hq⟩,rfl⟩:=hR
  obtain⟨ob,ho,hO⟩:=hst.obj 0 s hJ
  have ho:zf.vec true zY 1 (zL l)=ob:=Option.some.inj ho
  subst ho
  simp only[YD] at hO
  obtain⟨hrow,hver,hesz,hlen,hcap,hmem⟩:=hO
  obtain⟨_,_,hhi,hn,hc,hA⟩:=hq hver.symm
  have hsl:s.len=l.length:=by rw[hlen];simp[zL]
  have hc0:¬s.cap=0:=zo
  obtain⟨b,o,had,hAv⟩:=hA.resolve_left hc0
  obtain⟨b',o',vals,te,had',hb,hsz,hrr,_⟩:=hmem.resolve_left hc0
  rw[had] at had'
  obtain⟨rfl,rfl⟩:b=b'∧o=o':=by
   have:=Option.some.inj had'
   injection this with h1 h2 h3
   exact⟨h1,h2⟩
  rw[Nat.zero_mul,Nat.add_zero] at hAv
  subst hAv
  have hnl:n=l.length:=zo
  subst hnl
  have hbs:b<w.heap.size:=(Array.getElem?_eq_some_iff.1 hb).1
  have hH:Holds (Value.int .i64) w b o l.toArray:=λj hj=>by
   have hj':j<l.length:=by simpa using hj
   obtain⟨_,hcell⟩:=wM (zL l) o j [.sc (.int .i64 l[j])] (by simp[zL,hj']) hrr
   simp only[zS,rep] at hcell
   obtain⟨⟨u,hu,_,rfl⟩,_⟩:=hcell
   rw[Nat.mul_one] at hu
   refine⟨by rw[hu];simp[hj'],by simp[World.frozen?,hb]⟩
  have hblk:s.u6=some b:=by unfold Site.u6;rw[if_neg (by simp[hc0]),had];rfl
  have hnF:¬F b:=hst.apart 0 s b _ hJ hblk rfl rfl
  refine(Any.slices_Sort_int zne b o c l w hH hbs hl).mono λe w' ⟨he,nd,os,hw'⟩=>?_
  have hrow':w'.heap[b]? = some (.cells (putCells (Value.int .i64) o (Wp l).toArray vals) te (0,0)):=by rw[hw'];exact zp3 _ hb
  have hoth:∀k,k<w.heap.size→k≠b→w'.heap[k]? = w.heap[k]?:=λk h1 h2=>by rw[hw'];exact zl9 _ h1 h2
  have hsize:w.heap.size≤w'.heap.size:=by rw[hw'];simp[Sort.ahead]
  have hfr:∀k,F k→w'.heap[k]? = w.heap[k]?:=λk hk=>hoth k (hst.lt k hk) λe=>hnF (e▸hk)
  have hos:w'.os=w.os∧w'.tape=w.tape∧w'.output=w.output:=by rw[hw'];exact⟨rfl,rfl,rfl⟩
  refine⟨_,J,F,he,?_,hdom,by simp[rep,yf],?_⟩
  ·refine hst.update 0 s (.vec true zY 1 (zL (Wp l))) (λi=>?_) (λi=>?_) (yX.le_refl J) hfr hsize ?_ (λb2 h2=>.inr ⟨s,hJ,h2⟩) (λi s2 b2 h1 h2=>hst.xu h1 h2) ?_ ?_
   ·by_cases e:i=0
    ·subst e;rw[if_pos rfl,hJ]
    ·rw[if_neg e]
   ·by_cases e:i=0
    ·subst e;rfl
    ·rw[if_neg e]
     cases i with
     | zero=>exact absurd rfl e
     | succ i=>rfl
   ·intro i s2 b2 hi h1 h2
    refine hoth b2 (hst.xu h1 h2) λe=>hi ?_
    subst e
    exact hst.one i 0 s2 s b2 h1 hJ h2 hblk
   ·intro b2 h1 _
    rw[hblk] at h1
    cases h1
    exact hnF
   ·simp only[YD]
    refine⟨hrow,hver,hesz,by rw[hlen];simp[zL],hcap,.inr ⟨b,o,_,te,had,hrow',by simp[putCells];omega,?_,λh=>by cases h⟩⟩
    refine vr _ _ λj x hx=>?_
    have hj:j<(Wp l).length:=by
     have:=(List.getElem?_eq_some_iff.1 hx).1
     simpa [zL] using this
    have hx':x=[.sc (.int .i64 (Wp l)[j])]:=by
     have:(zL (Wp l))[j]? = some [.sc (.int .i64 (Wp l)[j])]:=by simp[zL,hj]
     rw[hx] at this
     exact Option.some.inj this
    subst hx'
    refine⟨rfl,?_⟩
    simp only[zS,rep]
    refine⟨⟨_,?_,rfl,rfl⟩,trivial⟩
    have hjv:o+j<vals.size:=by
     rw[zoK] at hj
     rw[Nat.mul_one] at hsz
     omega
    simp only[World.cell?,hrow',Nat.mul_one]
    simp only[Option.isSome_none,Bool.false_eq_true,if_false]
    have hjl:j<l.length:=by simpa using hj
    simp[putCells,hjv,hjl,List.getElem?_eq_getElem hj]
  ·exact⟨hos.1,hos.2.1,hos.2.2,hsize,λk hk ho=>hoth k hk λe=>ho ⟨0,s,hJ,e▸hblk⟩,hfr,yX.le_refl J,λ_ h=>h,λ_ h=>.inl h,λ_ h=>.inl h⟩
def c73:PC:=.seq (OP [qm 3 0,Ln 4 3,qm 2 4]) (OP [qm 5 0,qm 6 2,qm 7 2,q 8 (.conv .u64 7),Ca 9 149 [8],Ca 10 148 [5,(cI 0),6,9]])
theorem zxs:zy Tryz.prog 73 11 [] c73:=fK Tryz.func73
def zyQ:PC:=.block 1 (.seq (OP [qm 19 2,qm 20 1,Bi 21 .sub 19 20,qm 10 21]) (.seq (.seq (OP [qm 22 10,Bi 23 .leq 22 (cI 12)]) (.cond 23 (.seq (OP [qm 24 0,qm 25 1,qm 26 2,Ca 27 197 [24,25,26]]) .ret) .skip)) (.seq (.seq (OP [qm 28 3,Bi 29 .eql 28 (cI 0)]) (.cond 29 (.seq (OP [qm 30 0,qm 31 1,qm 32 2,Ca 33 198 [30,31,32]]) .ret) .skip)) (.seq (.seq (OP [qm 34 8,Nt 35 34]) (.cond 35 (.seq (OP [qm 36 0,qm 37 1,qm 38 2,Ca 39 199 [36,37,38]]) (OP [qm 40 3,Bi 41 .sub 40 (cI 1),qm 3 41])) .skip)) (.seq (OP [qm 43 0,qm 44 1,qm 45 2,Ca 46 200 [43,44,45],qm 42 46,Xt 47 0 42,Xt 48 1 42,qm 11 47,qm 12 48]) (.seq (.seq (OP [qm 49 12,Bi 50 .eql 49 (cI 2)]) (.cond 50 (.seq (OP [qm 51 0,qm 52 1,qm 53 2,Ca 54 201 [51,52,53]]) (.seq (OP [qm 55 2,Bi 56 .sub 55 (cI 1),qm 57 11,qm 58 1,Bi 59 .sub 57 58,Bi 60 .sub 56 59,qm 11 60]) (OP [Mv 12 (cI 1)]))) .skip)) (.seq (.seq (OP [qm 61 8,qm 62 61,GT 63 62 (.move 9),Pk 64 62 63 cF,qm 65 64,GT 66 65 (.move 12),GT 67 65 (.bin .eql 66 (cI 1)),Pk 68 65 67 cF]) (.cond 68 (.seq (OP [qm 69 0,qm 70 1,qm 71 2,Ca 72 202 [69,70,71]]) (.cond 72 .ret .skip)) .skip)) (.seq (.seq (.ops [qm 73 1,qd 74 (.bin .gtr 73 (cI 0)) 1,qw 75 74 3,⟨some 76,.move 0,some (75,true),7⟩,⟨some 77,.move 1,some (75,true),7⟩,⟨some 78,.bin .sub 77 (cI 1),some (75,true),23⟩,⟨some 79,.zM 1 76 78,some (75,true),63⟩,⟨some 80,.zg 79,some (75,true),127⟩,⟨some 81,.move 0,some (75,true),7⟩,⟨some 82,.move 11,some (75,true),7⟩,⟨some 83,.zM 1 81 82,some (75,true),775⟩,⟨some 84,.zg 83,some (75,true),1799⟩,⟨some 85,.call 203 [80,84],some (75,true),4095⟩,⟨some 86,.un .not 85,some (75,true),8191⟩,qd 87 (.pick 75 86 cF) 16383] true) (.cond 87 (.seq (OP [qm 88 0,qm 89 1,qm 90 2,qm 91 11,Ca 92 204 [88,89,90,91],qm 13 92]) (.seq (OP [qm 93 13,qm 1 93]) (.exit 1))) .skip)) (.seq (OP [qm 95 0,qm 96 1,qm 97 2,qm 98 11,Ca 99 205 [95,96,97,98],qm 94 99,Xt 100 0 94,Xt 101 1 94,qm 14 100,qm 15 101]) (.seq (OP [qm 102 15,qm 9 102]) (.seq (OP [qm 103 14,qm 104 1,Bi 105 .sub 103 104,qm 106 2,qm 107 14,Bi 108 .sub 106 107,qm 16 105,qm 17 108]) (.seq (OP [qm 109 10,Bi 110 .quo 109 (cI 8),qm 18 110]) (.seq (OP [qm 111 16,qm 112 17,Bi 113 .lss 111 112]) (.cond 113 (.seq (OP [qm 114 16,qm 115 18,Bi 116 .geq 114 115,qm 8 116]) (.seq (OP [qm 117 0,qm 118 1,qm 119 14,qm 120 3,Ca 121 148 [117,118,119,120]]) (OP [qm 122 14,Bi 123 .add 122 (cI 1),qm 1 123]))) (.seq (OP [qm 124 17,qm 125 18,Bi 126 .geq 124 125,qm 8 126]) (.seq (OP [qm 127 0,qm 128 14,Bi 129 .add 128 (cI 1),qm 130 2,qm 131 3,Ca 132 148 [127,129,130,131]]) (OP [qm 133 14,qm 2 133])))))))))))))))))
def c148:PC:=.seq (OP [Mv 8 cT]) (.seq (OP [Mv 9 cT]) (.block 0 (.loop zyQ)))
theorem zvw:zy Tryz.prog 148 134 [] c148:=fK Tryz.func148
def zx7:PC:=.seq (.seq (.ops [qm 16 7,qm 17 1,qd 18 (.bin .gtr 16 17) 3,qw 19 18 7,⟨some 20,.move 0,some (19,true),15⟩,⟨some 21,.move 7,some (19,true),15⟩,⟨some 22,.zM 1 20 21,some (19,true),63⟩,⟨some 23,.zg 22,some (19,true),127⟩,⟨some 24,.move 0,some (19,true),15⟩,⟨some 25,.move 7,some (19,true),15⟩,⟨some 26,.bin .sub 25 (cI 1),some (19,true),527⟩,⟨some 27,.zM 1 24 26,some (19,true),1807⟩,⟨some 28,.zg 27,some (19,true),3855⟩,⟨some 29,.call 203 [23,28],some (19,true),8191⟩,qd 30 (.pick 19 29 cF) 16383] true) (.cond 30 .skip (.exit 2))) (.seq (.block 3 (.ops [qm 33 0,qm 34 7,qm 35 0,qm 36 7,qd 37 (.bin .sub 36 (cI 1)) 8,qm 38 0,qm 39 7,qd 40 (.bin .sub 39 (cI 1)) 64,qd 41 (.zM 1 38 40) 224,qd 42 (.zg 41) 480,qm 43 0,qm 44 7,qd 45 (.zM 1 43 44) 3072,qd 46 (.zg 45) 7168,qd 47 (.zM 1 33 34) 16355,qk (.store 1 47 42) 32739,qd 48 (.zM 1 35 37) 65535,qk (.store 1 48 46) 131071] true)) (OP [qm 31 7,Bi 32 .sub 31 (cI 1),qm 7 32]))
def zxn:PC:=.seq (.seq (OP [qm 10 6,qm 11 2,Bi 12 .lss 10 11]) (.cond 12 .skip (.exit 0))) (.seq (.block 1 (.seq (OP [qm 15 6,qm 7 15]) (.block 2 (.loop zx7)))) (OP [qm 13 6,Bi 14 .add 13 (cI 1),qm 6 14]))
def c197:PC:=.seq (OP [qm 8 1,Bi 9 .add 8 (cI 1),qm 6 9]) (.block 0 (.loop zxn))
theorem ztP:zy Tryz.prog 197 49 [] c197:=fK Tryz.func197
theorem zmi:zq Tryz.prog 149 [.sc (.int .u64 0)] (.sc (.int .i64 0)) where
 ok:=⟨_,Tryz.func149,by kernel_rfl,by kernel_rfl⟩
 run J F w vs hF hR:=by
  simp only[yf,rep] at hR
  obtain⟨v,us,rfl,rfl,rfl⟩:=hR
  refine(calls_of_every_depth λD=>AnyS.bits_LenIn { zne with } D 0 w zo zo).mono λe w' ⟨he,hw⟩=>?_
  subst hw
  exact⟨_,F,he,hF.lt,rfl,Ext.refl _ _ _⟩
theorem zkE:zq Tryz.prog 197 [.xj 1 [],.sc (.int .i64 0),.sc (.int .i64 0)] (.yO []):=by
 refine za ztP zs (by simp[ze,Pure,yE]) ?_ (by simp[Pure,ze])
 refine sR ?_
 refine sI ?_
 refine zO [0,1,2] (λ_:Nat=>[(6,.sc (.int .i64 1))]) (λ_=>[]) (λ_=>True) (λ_=>0) 0 ?_
 refine sW ?_
 refine⟨trivial,by exact sK,rfl,?_⟩
 rintro k -
 refine sW ?_
 refine sR ?_
 exact .refl _
theorem znO (n:Int):zq Tryz.prog 148 [.xj 1 [],.sc (.int .i64 0),.sc (.int .i64 0),.sc (.int .i64 n)] (.yO []):=by
 refine za zvw zs (by simp[ze,Pure,yE]) ?_ (by simp[Pure,ze])
 refine sR ?_
 refine zO [0] (λ_:Nat=>[(1,.sc (.int .i64 0)),(2,.sc (.int .i64 0)),(3,.sc (.int .i64 n)),(8,.sc (.bool true)),(9,.sc (.bool true))]) (λ_=>[]) (λ_=>True) (λ_=>0) 0 ?_
 refine sW ?_
 refine⟨trivial,by exact sK,rfl,?_⟩
 rintro k -
 refine sW ?_
 refine sR ?_
 refine sI ?_
 refine sC zkE ?_
 exact .refl _
theorem zr1:zq Tryz.prog 73 [.xj 1 []] (.yO []):=by
 refine za zxs zs (by simp[ze,Pure,yE]) ?_ (by simp[Pure,ze])
 refine sR ?_
 rw[show(([]:List (List D)).length:Int)=0 from rfl]
 refine .inl ⟨by unfold InR;rw[IntKind.wrap_u64];omega,?_⟩
 refine sW ?_
 refine sC zmi ?_
 refine sC (znO 0) ?_
 exact .refl _
theorem zre (zY:Nat) (l:List Int) (hl:l.length<4611686018427387904) :
  yu Tryz.prog 73 [.own 0 zY 0 l.length] [.vec true zY 1 (zL l)] (.yO []) [.vec true zY 1 (zL (Wp l))]:=by
 rcases Nat.eq_zero_or_pos l.length with h0|h0
 ·have h0:=List.length_eq_zero_iff.1 h0
  subst h0
  refine⟨zr1.1,zs,λJ F w vs hst hdom hR=>?_⟩
  simp only[yf,rep] at hR
  obtain⟨v,us,rfl,⟨s,A,n,c,hJ,rfl,_,hq⟩,rfl⟩:=hR
  obtain⟨ob,ho,hO⟩:=hst.obj 0 s hJ
  have ho:zf.vec true zY 1 (zL [])=ob:=Option.some.inj ho
  subst ho
  simp only[YD] at hO
  obtain⟨hrow,hver,hesz,hlen,hcap,hmem⟩:=hO
  obtain⟨_,_,hhi,hn,hc,hA⟩:=hq hver.symm
  have hn0:n=0:=by simpa using hn
  subst hn0
  refine(zr1.run J F w [.slice A 0 c] hst.lt (by simp only[yf,rep];exact⟨_,_,rfl,⟨_,_,_,rfl,rfl,zo,.inl rfl⟩,rfl⟩)).mono λe w' ⟨v,F',he,h1,h2,h3⟩=>?_
  refine⟨v,J,F',he,?_,hdom,yT (JY J) (λ_ h=>h) (λ_ _=>rfl) _ _ h2,Ext.zsl hst h3⟩
  rw[show Wp []=[] by simp[Wp]]
  exact hst.za8 (λb hb=>h3.block b hb (ZK b)) h3.size h3.grow (λb hb=>(h3.wu b hb).imp_right λq=>q.resolve_left (ZK b)) h1
 ·exact zqP zY l h0 hl
end
section
open Go.RowKit
theorem zf7:∀(a b:List Int),a.Pairwise (·<·)→b.Pairwise (·<·)→(∀x,x∈a↔x∈b)→a=b
 | [],[],_,_,_=>rfl
 | [],y::b,_,_,h=>by have:=(h y).2 zs;cases this
 | x::a,[],_,_,h=>by have:=(h x).1 zs;cases this
 | x::a,y::b,ha,hb,h=>by
  rw[List.pairwise_cons] at ha hb
  have hxy:x=y:=by
   have h1:=(h x).1 zs
   have h2:=(h y).2 zs
   rcases List.mem_cons.1 h1 with e|e
   ·exact e
   ·rcases List.mem_cons.1 h2 with e2|e2
    ·exact e2.symm
    ·have:=ha.1 y e2;have:=hb.1 x e;omega
  subst hxy
  refine congrArg _ (zf7 a b ha.2 hb.2 λz=>⟨λhz=>?_,λhz=>?_⟩)
  ·have:=ha.1 z hz
   rcases List.mem_cons.1 ((h z).1 (by simp[hz])) with e|e
   ·omega
   ·exact e
  ·have:=hb.1 z hz
   rcases List.mem_cons.1 ((h z).2 (by simp[hz])) with e|e
   ·omega
   ·exact e
theorem zhQ (p:Nat→Bool) (k:Nat):(vQ p k).Pairwise (·<·):=by
 unfold vQ
 rw[List.pairwise_map]
 refine List.Pairwise.imp (R:=λa b:Nat=>a<b) (λh=>zo) ?_
 exact List.Pairwise.filter _ (List.pairwise_lt_range ..)
theorem zpk {l:List Int} (h:l.Pairwise (λa b=>a≤b)) (hn:l.Nodup):l.Pairwise (·<·):=by
 have:=List.Pairwise.and h hn
 exact this.imp λ⟨h1,h2⟩=>zo
theorem zd4 {f:Tree} (hw:f.wf zP):Wp (vL [] (ye f))=Y3 (ye f):=by
 have hp:(Wp (vL [] (ye f))).Perm (vL [] (ye f)):=List.mergeSort_perm _ _
 refine zf7 _ _ (zpk ?_ (hp.nodup_iff.2 (zlR _ _ zs))) (zhQ _ _) λx=>?_
 ·have:=List.pairwise_mergeSort (le:=λx y:Int=>decide (x≤y)) (λa b c h1 h2=>by simp only[decide_eq_true_eq] at *;omega) (λa b=>by simp only[Bool.or_eq_true,decide_eq_true_eq];omega) (vL [] (ye f))
  exact this.imp λh=>by simpa using h
 ·rw[hp.mem_iff,zrI,za6 (Yt f hw)]
  simp
theorem zm6 {f:Tree} (hw:f.wf vT) (h10:(Y3 (ye f)).length+(we [] (partsOf f)).length≤10):zj7 (Y3 (ye f)) (we [] (partsOf f)) where
 few:=h10
 atoms x hx:=Yt f (zix hw) x ((za6 (Yt f (zix hw))).1 hx)
 told g hg:=zot (zix hw) hg
 wf g hg:=zkd vT f hw g (((zep _ _).1 hg).resolve_left zs)
noncomputable def zck (A:List Int) (P:List Tree) (k r:Nat):List Int:=vQ (λt=>W1 A P t==r) k
noncomputable def uE (A:List Int) (P:List Tree) (k:Nat):List (List Int):=(List.range (2^P.length)).map (zck A P k)
@[simp] theorem zoY (A:List Int) (P:List Tree) (k:Nat):(uE A P k).length=2^P.length:=by simp[uE]
theorem JJ {A:List Int} {P:List Tree} {k r:Nat} (h:r<2^P.length):(uE A P k).getD r []=zck A P k r:=by
 unfold uE
 rw[List.getD_eq_getElem?_getD,List.getElem?_map,List.getElem?_range h]
 rfl
theorem zn7 (A:List Int) (P:List Tree) (k r:Nat):(zck A P k r).length≤k:=ZV _ _
theorem zkZ (A:List Int) (P:List Tree):uE A P 0=List.replicate (2^P.length) []:=by
 unfold uE
 rw[List.eq_replicate_iff]
 refine⟨zs,λb hb=>?_⟩
 obtain⟨r,_,rfl⟩:=List.mem_map.1 hb
 rfl
theorem zns (A:List Int) (P:List Tree) (s:Nat):W1 A P s<2^P.length:=Ve _ _
theorem zpq (A:List Int) (P:List Tree) (k:Nat):(uE A P k).set (W1 A P k) (zck A P k (W1 A P k)++[(k:Int)])=uE A P (k+1):=by
 apply List.ext_getElem?
 intro j
 rw[List.getElem?_set]
 by_cases hj:j<2^P.length
 ·rw[Vv (L:=uE A P (k+1)) (by simpa using hj),JJ hj]
  have hS:zck A P (k+1) j=if (W1 A P k==j)=true then zck A P k j++[(k:Int)] else zck A P k j:=Jh _ _
  rw[hS]
  by_cases e:W1 A P k=j
  ·rw[if_pos e,e,if_pos (by simpa using hj),if_pos zs]
  ·rw[if_neg e,Vv (L:=uE A P k) (by simpa using hj),JJ hj,if_neg (by simpa using e)]
 ·rw[List.getElem?_eq_none (by simpa using hj),if_neg (λe:W1 A P k=j=>hj (e▸zns A P k)),List.getElem?_eq_none (by simpa using hj)]
theorem zmZ {a p s:Nat} (h:s<2^(a+p)):s/2^a<2^p:=by
 rw[Nat.div_lt_iff_lt_mul (Nat.two_pow_pos _),Nat.mul_comm,←Nat.pow_add]
 exact h
theorem zk6 {A:List Int} {P:List Tree} {s:Nat} (h:s<2^(A.length+P.length)):(uE A P (2^(A.length+P.length))).getD (s/2^A.length) []=QS A P (A.length+P.length) s:=JJ (zmZ h)
noncomputable def stE (A:List Int) (P:List Tree) (f:Tree) (k:Nat):List Int:=vQ (λs=>yq (X8 A P s) f) k
noncomputable def zhP (A:List Int) (P:List Tree) (k:Nat):List (List Int):=(List.range k).map (QS A P (A.length+P.length))
noncomputable def leE (A:List Int) (is:Bool) (k:Nat):List Int:=(List.range k).map λs=>xK A s is A.length
theorem zr2 (A:List Int) (P:List Tree) (f:Tree) (k:Nat):stE A P f (k+1)=if yq (X8 A P k) f=true then stE A P f k++[(k:Int)] else stE A P f k:=Jh _ _
theorem zn0 (A:List Int) (P:List Tree) (k:Nat):zhP A P (k+1)=zhP A P k++[QS A P (A.length+P.length) k]:=by simp[zhP,List.range_succ]
theorem zjI (A:List Int) (is:Bool) (k:Nat):leE A is (k+1)=leE A is k++[xK A k is A.length]:=by simp[leE,List.range_succ]
@[simp] theorem zBr (A:List Int) (P:List Tree) (k:Nat):(zhP A P k).length=k:=by simp[zhP]
@[simp] theorem zCi (A:List Int) (is:Bool) (k:Nat):(leE A is k).length=k:=by simp[leE]
theorem zvm (A:List Int) (P:List Tree) (f:Tree) (k:Nat):(stE A P f k).length≤k:=ZV _ _
theorem zvk (A:List Int) (P:List Tree) (f:Tree):Zm A P f=⟨stE A P f (2^(A.length+P.length)),zhP A P (2^(A.length+P.length)),leE A true (2^(A.length+P.length)),leE A false (2^(A.length+P.length)),uz A P (A.length+P.length) P.length⟩:=rfl
theorem ziW {A:List Int} {P:List Tree} {k z i:Nat} {R:List Int} (hz:z=i) (hi:i<2^P.length) (hR:(uE A P k).getD i []=R):((uE A P k).map λl=>[zB l])[z]? = some [zB R]:=by
 subst hz
 rw[List.getElem?_map,Vv (L:=uE A P k) (by simpa using hi),hR]
 rfl
theorem zak {S:Nat→Bool} {H:List zf} {x y:List D} (h:zQ S H x y):∀a:List (List D),zK S H (a++[x]) (a++[y])
 | []=>.cons _ _ _ _ h (.refl _)
 | z::a=>.cons _ _ _ _ (.refl _) (zak h a)
theorem XU {S:Nat→Bool} {H:List zf} {L:List (List Int)} {c id zY n:Nat} {m:Bool} {R:List Int} (hc:c=L.length) (hn:n=R.length) (hS:S id=true) (hH:H[id]? = some (.vec m zY 1 (zL R))) :
  zK S H (List.drop 0 (List.take c (vJ L))++List.drop 0 (List.take 1 [[D.own id zY 0 n]])) (vJ (L++[R])):=by
 subst hc hn
 rw[zu zs,show vJ (L++[R])=vJ L++[[zB R]] by simp[vJ]]
 exact zak (.cons _ _ _ _ (.own _ _ _ _ _ _ _ _ hS hH (zp (zu (by simp[zL])))) (.refl _)) _
theorem Q4 (ρ:Nat→Nat) (l:List Int):vS ρ (zL l)=zL l:=yw _ (zC _ (λl=>by simp[ze,Pure]) l)
theorem zjk (ρ:Nat→Nat) (l:List Tree):vS ρ (xR l)=xR l:=yw _ (wo l)
def zcr (l:List Int):List (List D):=l.map λn=>[.sc (.int .u64 n)]
@[simp] theorem zBV (l:List Int):(zcr l).length=l.length:=List.length_map ..
theorem Xg (l:List Int):yE (zcr l):=zC _ (λl=>by simp[ze,Pure]) l
@[simp] theorem zu7 {m:Nat} (l:List Int):zF m (zcr l)↔True:=⟨λ_=>trivial,λ_=>zh _ (Xg l)⟩
theorem WK {l:List Int} {c:Nat} {x:Int} (h:c=l.length):List.drop 0 (List.take c (zcr l))++[[.sc (.int .u64 x)]]=zcr (l++[x]):=by
 subst h
 rw[zu zs]
 simp[zcr]
end
section
open Go.RowKit
noncomputable def zgf (t:Tree):D :=
 if (ZP t (yg t)).2=0 then zub (yg t) else .yO [V4 zp4,.sc (.int .i64 (ZP t (yg t)).2)]
theorem zlQ {t:Tree} (h:(ZP t (yg t)).2=0):(ZP t (yg t)).1=yg t∧yJ zP t=0∧yJ zP (yg t)=0:=by
 unfold ZP at *
 split at h
 ·rename_i h1
  split at h
  ·rename_i h2
   rw[if_pos h1,if_pos h2]
   exact⟨rfl,h1,h2⟩
  ·rename_i h2;exact absurd h h2
 ·rename_i h1;exact absurd h h1
def zBO:PC:=.seq (OP [Bi 59 .lss 58 57]) (.seq (.cond 59 .skip (.exit 0)) (.seq (.block 1 (.seq (OP [qm 60 58,qm 9 60]) (.seq (OP [qm 61 5,qm 62 9,Ca 63 74 [61,62],qm 10 63]) (OP [qm 64 8,qm 65 10,qm 66 8,qm 67 10,Ia 68 1 66 67,Lo 69 68,qm 70 9,Bs 71 1 1 [70],Ap 72 1 8 69 71,Ia 73 1 64 65,So 1 73 72])))) (OP [Bi 74 .add 58 (cI 1),qm 58 74])))
def zAv:PC:=.seq (OP [Bi 78 .lss 77 76]) (.seq (.cond 78 .skip (.exit 2)) (.seq (.block 3 (.seq (OP [qm 79 77,qm 11 79]) (.seq (.seq (OP [qm 80 5,LA 81 3 1,qm 82 11,Ca 83 75 [80,81,82]]) (.cond 83 (OP [Fa 84 0 7,Lo 85 84,qm 86 11,Bs 87 1 1 [86],Ap 88 1 8 85 87,Fa 89 0 7,So 1 89 88]) .skip)) (.seq (.ops [Fa 90 1 7,qd 91 (.zg 90) 1,qm 92 8,qm 93 5,qm 94 11,qd 95 (.call 77 [93,94]) 24,qd 96 (.zM 1 92 95) 60,qd 97 (.zg 96) 124,qd 98 (.call 76 [97]) 252,qd 99 (.xe 1 1 [98]) 508,qd 100 (.append 1 24 91 99) 1023,qd 101 (.zz 1 7) 2047,qk (.store 1 101 100) 4095] true) (.seq (.ops [Fa 102 2 7,qd 103 (.zg 102) 1,qm 104 5,qm 105 11,qd 106 (.call 78 [104,105,cT]) 12,qd 107 (.xe 1 1 [106]) 28,qd 108 (.append 1 8 103 107) 63,qd 109 (.zz 2 7) 127,qk (.store 1 109 108) 255] true) (.ops [Fa 110 3 7,qd 111 (.zg 110) 1,qm 112 5,qm 113 11,qd 114 (.call 78 [112,113,cF]) 12,qd 115 (.xe 1 1 [114]) 28,qd 116 (.append 1 8 111 115) 63,qd 117 (.zz 3 7) 127,qk (.store 1 117 116) 255] true)))))) (OP [Bi 118 .add 77 (cI 1),qm 77 118])))
def zBx:PC:=.seq (OP [Bi 134 .lss 133 132]) (.seq (.cond 134 .skip (.exit 6)) (.seq (.block 7 (.seq (OP [qm 135 133,qm 15 135]) (.seq (OP [qm 136 5,LA 137 3 13,qm 138 15,Ca 139 79 [136,137,138]]) (.cond 139 (OP [qm 140 14,qm 141 15,Bs 142 1 1 [141],Ap 143 1 8 140 142,qm 14 143]) .skip)))) (OP [Bi 144 .add 133 (cI 1),qm 133 144])))
def zBE:PC:=.seq (OP [Bi 125 .lss 124 123]) (.seq (.cond 125 .skip (.exit 4)) (.seq (.block 5 (.seq (OP [Ia 126 3 122 124,LA 127 3 126,q 13 (.alloc [(.int .i64 0),(.int .i64 0),(.slice none 0 0)]),So 3 13 127]) (.seq (.seq (OP [Fa 128 0 13,Lo 129 128,Bi 130 .eql 129 (cI 7)]) (.cond 130 (.exit 5) .skip)) (.seq (OP [Mv 14 cN]) (.seq (.seq (OP [qm 131 6,Bi 132 .shl (cI 1) 131,Mv 133 (cI 0)]) (.block 6 (.loop zBx))) (OP [Fa 145 4 7,Lo 146 145,qm 147 14,Bs 148 1 1 [147],Ap 149 1 24 146 148,Fa 150 4 7,So 1 150 149])))))) (OP [Bi 151 .add 124 (cI 1),qm 124 151])))
def c35:PC:=.seq (OP [Bx 1 0,q 2 (.alloc [(.slice none 0 0),(.slice none 0 0),(.slice none 0 0),(.slice none 0 0),(.slice none 0 0)]),Mv 3 (cI 0)]) (.seq (OP [LA 17 3 1,Ca 18 71 [17],qm 16 18,Xt 19 0 16,Xt 20 1 16,So 3 1 19,qm 4 20]) (.seq (.seq (OP [qm 21 4,Bi 22 .neq 21 (cI 0)]) (.cond 22 (.seq (OP [q 23 (.build [(.slice none 0 0),(.slice none 0 0),(.slice none 0 0),(.slice none 0 0),(.slice none 0 0)] []),qm 24 4,So 5 2 23,qm 3 24]) .ret) .skip)) (.seq (OP [q 25 (.build [(.slice none 0 0),(.slice none 0 0)] []),Bx 26 25,qm 5 26]) (.seq (.stop (OP [qm 27 5,LA 28 3 1,Ca 29 72 [27,28]])) (.seq (OP [qm 30 5,q 31 (.zn 30),Fa 32 0 31,Lo 33 32,Ca 34 73 [33]]) (.seq (.stop (.ops [qm 35 5,qd 36 (.zn 35) 1,qd 37 (.zz 0 36) 3,qd 38 (.zg 37) 7,qd 39 (.len 38) 15,qm 40 5,qd 41 (.zn 40) 32,qd 42 (.zz 1 41) 96,qd 43 (.zg 42) 224,qd 44 (.len 43) 480,qd 45 (.bin .add 39 44) 1023,qw 6 45 2047] true)) (.seq (.seq (OP [qm 46 6,Bi 47 .gtr 46 (cI 10)]) (.cond 47 (.seq (OP [q 48 (.build [(.slice none 0 0),(.slice none 0 0),(.slice none 0 0),(.slice none 0 0),(.slice none 0 0)] []),So 5 2 48,Mv 3 (cI 2)]) .ret) .skip)) (.seq (OP [q 7 (.alloc [(.slice none 0 0),(.slice none 0 0),(.slice none 0 0),(.slice none 0 0),(.slice none 0 0)])]) (.seq (OP [qm 49 5,q 50 (.zn 49),Fa 51 1 50,Lo 52 51,Ln 53 52,Bi 54 .shl (cI 1) 53,q 55 (.wE 1 24 [(.slice none 0 0)] 54 54),qm 8 55]) (.seq (.seq (OP [qm 56 6,Bi 57 .shl (cI 1) 56,Mv 58 (cI 0)]) (.stop (.block 0 (.loop zBO)))) (.seq (.seq (OP [qm 75 6,Bi 76 .shl (cI 1) 75,Mv 77 (cI 0)]) (.stop (.block 2 (.loop zAv)))) (.seq (.seq (OP [qm 119 5,q 120 (.zn 119),Fa 121 1 120,Lo 122 121,Ln 123 122,Mv 124 (cI 0)]) (.stop (.block 4 (.loop zBE)))) (.seq (OP [LA 152 5 7,So 5 2 152,Mv 3 (cI 0)]) .ret)))))))))))))
theorem zxe:zy Tryz.prog 35 153 [.agg 2 5,.tmp 3] c35:=fK Tryz.func35
theorem zu2 (t:Tree) (hs:Small t):zq Tryz.prog 35 [zZ t] (zgf t):=by
 have hP:=zlN t hs
 have hpm:Pure (zgf t):=by
  unfold zgf zub
  split
  ·dsimp only;split<;>simp[Pure,ze,qU]
  ·simp[Pure,ze,qU]
 refine za zxe zs (by simp[ze,zm]) ?_ hpm
 refine sR ?_
 refine sC hP ?_
 unfold zgf
 refine sS (λh0=>?_) λh0=>?_
 ·have h0:¬(ZP t (yg t)).2=0:=by simpa using h0
  rw[if_neg h0]
  exact sP
 have h0:(ZP t (yg t)).2=0:=by simpa using h0
 obtain⟨e1,hc,hc2⟩:=zlQ h0
 rw[if_pos h0,e1]
 have hwl:=((qG _ _).1 hc2).2.2
 have hsz:=((qG _ _).1 hc2).1
 have hwp:=znh t ((qG _ _).1 hc).2.2
 clear hP hpm h0 e1 hc hc2
 generalize yg t=f at *
 have hla:=zio f
 have hlp:=ziz f
 have hG:=znL f hwl [] [] (by simp;omega) (by simp;omega)
 have hlA:=uY (ye f) []
 have hlP:=uW (partsOf f) []
 have hSo:=zre (vL [] (ye f)).length (vL [] (ye f)) (by simp at *;omega)
 rw[zd4 hwl] at hSo
 have hAn:(Y3 (ye f)).length=(vL [] (ye f)).length:=by rw[←zd4 hwl];simp
 have hT:=zm6 hwp
 have hTf:=Q5 hwl
 unfold zub
 dsimp only
 generalize hA0:vL [] (ye f)=A0 at *
 generalize hA1:Y3 (ye f)=A at *
 generalize hP1:we [] (partsOf f)=P at *
 obtain⟨N5,hN5⟩:∃N5:List D,N5=[.sc (.slice none 0 0),.sc (.slice none 0 0),.sc (.slice none 0 0),.sc (.slice none 0 0),.sc (.slice none 0 0)]:=⟨_,rfl⟩
 refine zG (zj 3 (env':=[(1,.loc 0 0),(2,.loc 1 0),(3,.sc (.int .i64 0)),(5,.loc 2 0)]) (H':=[.row true (yo f),.row true N5,.row true [.sc (.slice none 0 0),.sc (.slice none 0 0)]]) zs rfl (by exact sQ) ⟨⟨rfl,.refl _,zr _ (ym _)⟩,⟨rfl,by rw[hN5];exact .refl _,by rw[hN5];simp[zl,zt]⟩,⟨rfl,.refl _,by simp[zl,zt]⟩,trivial⟩) ?_
 refine zG (wT (yV 2 0 1 zs rfl rfl) (yV 2 1 3 zs rfl rfl)) ?_
 refine sR ?_
 have hG2:yu Tryz.prog 72 [.loc 2 0,zZ f] [.row true (yo f),.row true N5,.row true [.own 3 0 0 0,.own 4 0 0 0],.vec true 0 1 [],.vec true 0 3 []] (.yO [])
   [.row true (yo f),.row true N5,.row true [.own 3 A0.length 0 A0.length,.own 4 P.length 0 P.length],.vec true A0.length 1 (zL A0),.vec true P.length 3 (xR P)]:=by
  refine vB hG [.row true (yo f),.row true N5] [] rfl (by simp[yz,zl,zt,zw _ (zm _)]) (x5 (by simp[yz])) (by simp[yG,D.yI]) (by simp[D.yI,yG]) ?_ ?_
  ·simp[yz,zf.yI,yG,D.yI,vS,zL,xR]
  ·simp only[yz,List.map_cons,List.map_nil,zf.yI,yG,D.yI,List.length_cons,List.length_nil,Q4,zjk]
   rfl
 refine sA hG2 ?_
 have hS2:yu Tryz.prog 73 [.own 3 A0.length 0 A0.length] [.row true (yo f),.row true N5,.row true [.own 3 A0.length 0 A0.length,.own 4 P.length 0 P.length],.vec true A0.length 1 (zL A0),.vec true P.length 3 (xR P)] (.yO [])
   [.row true (yo f),.row true N5,.row true [.own 3 A0.length 0 A0.length,.own 4 P.length 0 P.length],.vec true A0.length 1 (zL A),.vec true P.length 3 (xR P)]:=by
  refine vB hSo [.row true (yo f),.row true N5,.row true [.own 3 A0.length 0 A0.length,.own 4 P.length 0 P.length]] [.vec true P.length 3 (xR P)] rfl (by simp[zl,zt]) ⟨zh _ (zC _ (λl=>by simp[ze,Pure]) A0),trivial⟩ (by simp[yG,D.yI]) (by simp[D.yI,yG]) ?_ ?_
  ·simp only[List.map_cons,List.map_nil,zf.yI,Q4]
   rfl
  ·simp only[List.map_cons,List.map_nil,zf.yI,Q4]
   rfl
 refine sA hS2 ?_
 have hmd:=Zi A P
 refine zG (Z9 (YZ 2) (env':=[(1,.loc 0 0),(2,.loc 1 0),(3,.sc (.int .i64 0)),(5,X9 A P)]) (H':=[.row true (yo f),.row true N5,.row false [zB A,.xj 3 (xR P)],.vec false A0.length 1 (zL A),.vec false P.length 3 (xR P)]) ?_ ?_) ?_
 ·refine⟨.refl _,.refl _,.refl _,yc.loc _ _ _ _ _ rfl rfl (.cons _ _ _ _ (.own _ _ _ _ _ _ _ _ rfl rfl ?_) (.cons _ _ _ _ (.own _ _ _ _ _ _ _ _ rfl rfl ?_) (.refl _))),trivial⟩
  ·rw[←hAn];exact zp (zu (by simp[zL]))
  ·exact zp (zu zs)
 ·refine⟨⟨.inl rfl,(λh=>by cases h),.refl _⟩,⟨.inl rfl,(λh=>by cases h),.refl _⟩,⟨.inr ⟨rfl,rfl⟩,λ_=>rfl,.cons _ _ _ _ (.own _ _ _ _ _ _ _ _ rfl rfl ?_) (.cons _ _ _ _ (.own _ _ _ _ _ _ _ _ rfl rfl ?_) (.refl _))⟩,⟨.inr ⟨rfl,rfl⟩,λ_=>rfl,rfl,rfl,.refl _⟩,⟨.inr ⟨rfl,rfl⟩,λ_=>rfl,rfl,rfl,.refl _⟩,trivial⟩
  ·rw[←hAn];exact zp (zu (by simp[zL]))
  ·exact zp (zu zs)
 have hA60:A.length≤60:=by simp at hlA;omega
 have hP60:P.length≤60:=by simp at hlP;omega
 subst hN5
 clear hG hSo hG2 hS2 hlA hlP hA0 hAn
 unfold X9
 refine sR ?_
 rw[List.length_map,W5]
 refine sI ?_
 refine sS (λh10=>?_) λh10=>?_
 ·have h10:10<A.length+P.length:=sO
  rw[if_pos h10]
  exact sP
 have h10:¬10<A.length+P.length:=sO
 rw[if_neg h10]
 have hI:=hT zo
 have hp2:=W6 (n:=P.length) zo
 have hn2:=W6 (n:=A.length+P.length) zo
 have s1:(1:Int)*2^min ((P.length:Nat):Int).toNat IntKind.i64.bits=((2^P.length:Nat):Int):=zhe P.length zo
 have s2:(1:Int)*2^min ((A.length+P.length:Nat):Int).toNat IntKind.i64.bits=((2^(A.length+P.length):Nat):Int):=zhe _ zo
 rw[W5]
 refine⟨zo,?_⟩
 rw[s1]
 generalize h2P:2^P.length=NP at *
 generalize h2N:2^(A.length+P.length)=N at *
 refine sI ?_
 refine⟨zo,zo,zo,?_⟩
 rw[Int.toNat_natCast]
 refine sW ?_
 rw[←Int.natCast_add]
 simp only[Nat.sub_zero]
 refine⟨zo,?_⟩
 rw[s2]
 refine sI ?_
 have hK:=zs1 A P hI
 have hmd2:D.y7 [zB A,.xj 3 (xR P)]=X9 A P:=rfl
 have hbl:∀k,(uE A P k).length=NP:=λk=>by rw[zoY,h2P]
 refine zcW (λ_:Unit=>[(1,.loc 0 0),(2,.loc 1 0),(5,X9 A P),(6,.sc (.int .i64 ((A.length+P.length:Nat):Int))),(7,.loc 5 0),(8,.own 6 0 0 NP)])
  (λ_=>[.row true (yo f),.row true [.sc (.slice none 0 0),.sc (.slice none 0 0),.sc (.slice none 0 0),.sc (.slice none 0 0),.sc (.slice none 0 0)],.row false [zB A,.xj 3 (xR P)],.vec false A0.length 1 (zL A),.vec false P.length 3 (xR P),.row true [.sc (.slice none 0 0),.sc (.slice none 0 0),.sc (.slice none 0 0),.sc (.slice none 0 0),.sc (.slice none 0 0)],.vec true 0 1 ((uE A P N).map λl=>[zB l])]) (λ_=>True) ?_ ?_
 ·refine sR ?_
  refine zG (JL 6 1 NP 0 zs rfl) ?_
  refine z8 [1,2,5,6,7,8,57] (λk:Nat=>[(58,.sc (.int .i64 k))]) (λk=>.row true (yo f)::.row true [.sc (.slice none 0 0),.sc (.slice none 0 0),.sc (.slice none 0 0),.sc (.slice none 0 0),.sc (.slice none 0 0)]::.row false [zB A,.xj 3 (xR P)]::.vec false A0.length 1 (zL A)::.vec false P.length 3 (xR P)::.row true [.sc (.slice none 0 0),.sc (.slice none 0 0),.sc (.slice none 0 0),.sc (.slice none 0 0),.sc (.slice none 0 0)]::.vec true 0 1 (vo 7 (uE A P k))::y9 1 UT (uE A P k)) (λk=>k≤N) (λk=>N-k) 0 ?_
  refine sW ?_
  refine⟨zo,by exact sK,?_,?_⟩
  ·rw[zkZ,h2P]
   show _::_::_::_::_::_::_::_=_::_::_::_::_::_::_::_
   rw[Wl 1 _ UT]
   exact congrArg (λx=>_::_::_::_::_::_::zf.vec true 0 1 x::_) (Wt (α:=Int) 7 _)
  rintro k hk
  refine sW ?_
  refine sR ?_
  refine sS (λq0=>?_) λq0=>?_
  ·have q0:k<N:=sO
   have hkl:=zns A P k
   have hlen:=hbl k
   have hset:=zpq A P k
   have hat:=JJ (A:=A) (P:=P) (k:=k) hkl
   have hrl:=zn7 A P k (W1 A P k)
   rw[h2P] at hkl
   refine sC (hK k) ?_
   generalize W1 A P k=v at *
   generalize zck A P k v=C at *
   generalize hR2:uE A P (k+1)=R2 at *
   generalize uE A P k=R at *
   refine sB ?_
   refine⟨_,wh (i:=v) zo zo,?_⟩
   refine sW ?_
   refine zaj ?_
   refine sW ?_
   (repeat (first|(refine xQ 0 rfl ?_;((conv=>whnf);repeat(refine⟨rfl,?_⟩;conv=>whnf)))|(refine xP 0 rfl ?_;((conv=>whnf);repeat(refine⟨rfl,?_⟩;conv=>whnf)))|(refine xQ 1 rfl ?_;((conv=>whnf);repeat(refine⟨rfl,?_⟩;conv=>whnf)))|(refine xP 1 rfl ?_;((conv=>whnf);repeat(refine⟨rfl,?_⟩;conv=>whnf)))))
   refine zaE zo ?_
   refine sW ?_
   rw[hat]
   refine⟨by unfold xd;simp only[List.length_drop,List.length_take,List.length_cons,List.length_nil];omega,?_⟩
   refine sW ?_
   refine zcT (C++[(k:Int)]) zo ?_ ?_
   ·exact zdH
   refine sW ?_
   refine sB ?_
   refine⟨_,wh (i:=v) zo zo,?_⟩
   refine sW ?_
   refine sI ?_
   refine⟨k+1,zo,zd,?_⟩
   dsimp only
   rw[hR2]
   have hl2:R2.length=NP:=by rw[←hset,List.length_set,hlen]
   refine zj (NP+7) zs (by simp[hl2]) (by exact sQ) ⟨⟨rfl,.refl _,zr _ (ym _)⟩,⟨rfl,.refl _,by simp[zl,zt]⟩,⟨rfl,.refl _,by simp[zl,zw _ (zi A),zt,zh _ (wo P)]⟩,⟨rfl,rfl,rfl,.refl _,zh _ (zC _ (λl=>by simp[ze,Pure]) A)⟩,⟨rfl,rfl,rfl,.refl _,zh _ (wo P)⟩,⟨rfl,.refl _,by simp[zl,zt]⟩,⟨rfl,rfl,rfl,zp ?_,uO (by rw[←hset,List.length_set];omega)⟩,by rw[←hset];exact Vl zcf⟩
   rw[←hset]
   exact(X1 zo zo (C++[(k:Int)]) zs)
  ·have q0:k=N:=by have:¬k<N:=sO
                   omega
   subst q0
   refine⟨(),trivial,zj 7 zs rfl (by exact sQ) ⟨⟨rfl,.refl _,zr _ (ym _)⟩,⟨rfl,.refl _,by simp[zl,zt]⟩,⟨rfl,.refl _,by simp[zl,zw _ (zi A),zt,zh _ (wo P)]⟩,⟨rfl,rfl,rfl,.refl _,zh _ (zC _ (λl=>by simp[ze,Pure]) A)⟩,⟨rfl,rfl,rfl,.refl _,zh _ (wo P)⟩,⟨rfl,.refl _,by simp[zl,zt]⟩,⟨rfl,rfl,rfl,VN (c:=UT) (λi hi=>by simp[YZ]) (λi hi=>?_),zh _ (vq _)⟩,Jo _⟩⟩
   show(y9 1 UT (uE A P k))[i]? = _
   exact Xo hi
 ·intro _ _
  refine sW ?_
  refine⟨zo,?_⟩
  rw[s2]
  refine sI ?_
  refine sR ?_
  refine zG (wT (yV 5 0 1 zs rfl rfl) (wT (yV 5 1 1 zs rfl rfl) (wT (yV 5 2 1 zs rfl rfl) (yV 5 3 1 zs rfl rfl)))) ?_
  refine z8 [1,2,5,6,7,8,76] (λk:Nat=>[(77,.sc (.int .i64 k))]) (λk=>[.row true (yo f),.row true [.sc (.slice none 0 0),.sc (.slice none 0 0),.sc (.slice none 0 0),.sc (.slice none 0 0),.sc (.slice none 0 0)],.row false [zB A,.xj 3 (xR P)],.vec false A0.length 1 (zL A),.vec false P.length 3 (xR P),.row true [.own 7 (stE A P f k).length 0 (stE A P f k).length,.own 8 k 0 k,.own 9 k 0 k,.own 10 k 0 k,.sc (.slice none 0 0)],.vec true 0 1 ((uE A P N).map λl=>[zB l]),.vec true (stE A P f k).length 1 (zL (stE A P f k)),.vec true k 1 (vJ (zhP A P k)),.vec true k 1 (zcr (leE A true k)),.vec true k 1 (zcr (leE A false k))]) (λk=>k≤N) (λk=>N-k) 0 ?_
  refine sW ?_
  refine⟨zo,by exact sK,rfl,?_⟩
  rintro k hk
  have hsl:=zvm A P f k
  refine sW ?_
  refine sR ?_
  refine sS (λq0=>?_) λq0=>?_
  ·have q0:k<N:=sO
   have hH:=zaI A P hI k f hwp hTf
   have eS:=zr2 A P f k
   have hO:=ztD A P hA60 k
   have hOl:k/2^A.length<NP:=by rw[←h2P];exact zmZ (by rw[h2N];exact q0)
   have hrow:=zk6 (A:=A) (P:=P) (s:=k) (by rw[h2N];exact q0)
   rw[h2N] at hrow
   have eN:=zn0 A P k
   rw[←h2P] at hOl
   have eT:=zjI A true k
   have eF:=zjI A false k
   have hbT:=zmz A P hA60 hI.atoms k true
   have hbF:=zmz A P hA60 hI.atoms k false
   have hnl:(QS A P (A.length+P.length) k).length≤1024:=by have h:(QS A P (A.length+P.length) k).length≤2^(A.length+P.length):=ZV _ _;rw[h2N] at h;exact Nat.le_trans h hn2
   generalize QS A P (A.length+P.length) k=R at *
   generalize xK A k true A.length=xT at *
   generalize xK A k false A.length=xF at *
   generalize k/2^A.length=v at *
   have hCl:=Jw R zo
   refine sC hH ?_
   cases r:yq (X8 A P k) f
   ·rw[r,if_neg zc] at eS
    refine sW ?_
    refine sC hO ?_
    refine sB ?_
    refine⟨_,ziW (i:=v) zo (by simpa using hOl) hrow,?_⟩
    refine sW ?_
    refine sE (vP hCl (by simp[ze,Pure,zi]) (d:=.own 11 1 0 R.length) [11] rfl rfl (by simp[zf.yI,yG,D.yI];rfl)) ?_
    refine sJ ?_
    refine sC hbT ?_
    refine sJ ?_
    refine sC hbF ?_
    refine sJ ?_
    refine sI ?_
    refine⟨k+1,zo,zd,?_⟩
    dsimp only
    rw[eS,eN,eT,eF]
    try rw[show(stE A P f k++[(k:Int)]).length=(stE A P f k).length+1 by simp]
    (refine zj 11 zs rfl ?_ ?_<;>(repeat' (first|exact trivial|exact rfl|exact yc.refl _|exact zQ.refl _|exact zK.refl _|refine And.intro ?_ ?_|(simp[zt,zl,zF,-List.map_take,-List.map_drop];done))))
    all_goals
     first|exact zr _ (ym _)|exact zw _ (zi _)|exact zw _ hmd|exact zh _ (vq _)|exact zh _ (Xg _)|exact zh _ (uJ _)|exact zh _ (zC _ (λl=>by simp[ze,Pure]) _)|exact zp (WK zs)|exact XU zs rfl rfl rfl|exact zp (xY _ _)|skip
   ·rw[r,if_pos rfl] at eS
    refine sW ?_
    refine sJ ?_
    refine sC hO ?_
    refine sB ?_
    refine⟨_,ziW (i:=v) zo (by simpa using hOl) hrow,?_⟩
    refine sW ?_
    refine sE (vP hCl (by simp[ze,Pure,zi]) (d:=.own 12 1 0 R.length) [12] rfl rfl (by simp[zf.yI,yG,D.yI];rfl)) ?_
    refine sJ ?_
    refine sC hbT ?_
    refine sJ ?_
    refine sC hbF ?_
    refine sJ ?_
    refine sI ?_
    refine⟨k+1,zo,zd,?_⟩
    dsimp only
    rw[eS,eN,eT,eF]
    try rw[show(stE A P f k++[(k:Int)]).length=(stE A P f k).length+1 by simp]
    (refine zj 11 zs rfl ?_ ?_<;>(repeat' (first|exact trivial|exact rfl|exact yc.refl _|exact zQ.refl _|exact zK.refl _|refine And.intro ?_ ?_|(simp[zt,zl,zF,-List.map_take,-List.map_drop];done))))
    all_goals
     first|exact zr _ (ym _)|exact zw _ (zi _)|exact zw _ hmd|exact zh _ (vq _)|exact zh _ (Xg _)|exact zh _ (uJ _)|exact zh _ (zC _ (λl=>by simp[ze,Pure]) _)|exact zp (WK zs)|exact XU zs rfl rfl rfl|exact zp (xY _ _)|skip
  ·have q0:k=N:=by have:¬k<N:=sO
                   omega
   obtain rfl:N=k:=q0.symm
   refine sR ?_
   refine zG (yV 5 4 1 zs rfl rfl) ?_
   refine z8 [2,5,6,7,122,123] (λk:Nat=>[(124,.sc (.int .i64 k))]) (λk=>[.row true (yo f),.row true [.sc (.slice none 0 0),.sc (.slice none 0 0),.sc (.slice none 0 0),.sc (.slice none 0 0),.sc (.slice none 0 0)],.row false [zB A,.xj 3 (xR P)],.vec false A0.length 1 (zL A),.vec false P.length 3 (xR P),.row true [.own 7 (stE A P f N).length 0 (stE A P f N).length,.own 8 N 0 N,.own 9 N 0 N,.own 10 N 0 N,.own 11 (uz A P (A.length+P.length) k).length 0 (uz A P (A.length+P.length) k).length],.vec true 0 1 ((uE A P N).map λl=>[zB l]),.vec true (stE A P f N).length 1 (zL (stE A P f N)),.vec true N 1 (vJ (zhP A P N)),.vec true N 1 (zcr (leE A true N)),.vec true N 1 (zcr (leE A false N)),.vec true (uz A P (A.length+P.length) k).length 1 (vJ (uz A P (A.length+P.length) k))]) (λk=>k≤P.length) (λk=>P.length-k) 0 ?_
   refine sW ?_
   rw[W5]
   refine⟨zo,by exact sK,rfl,?_⟩
   rintro k hk
   have hfl:=Jq A P (A.length+P.length) k
   refine sW ?_
   refine sR ?_
   refine sS (λq0=>?_) λq0=>?_
   ·have q0:k<P.length:=sO
    have hg:=zgc q0
    obtain⟨hw,hk7⟩:=hI.wf _ hg
    have hTg:=hI.told _ hg
    have eFa:=zjP A P (A.length+P.length) q0
    have hsE:ziZ A P (A.length+P.length) (P.getD k default)=vQ (Zv A P (P.getD k default)) N:=by unfold ziZ;rw[h2N]
    refine sL (zjy (k:=k) zo q0) ?_
    generalize P.getD k default=g at *
    refine sS (λg7=>?_) λg7=>?_
    ·have g7:g.kind=7:=by simpa using g7
     rw[if_pos g7] at eFa
     refine sW ?_
     refine sI ?_
     refine⟨k+1,zo,zd,?_⟩
     dsimp only
     rw[eFa]
     (refine zj 12 zs rfl ?_ ?_<;>(repeat' (first|exact trivial|exact rfl|exact yc.refl _|exact zQ.refl _|exact zK.refl _|refine And.intro ?_ ?_|(simp[zt,zl,zF,-List.map_take,-List.map_drop];done))))
     all_goals
      first|exact zr _ (ym _)|exact zw _ (zi _)|exact zw _ hmd|exact zh _ (vq _)|exact zh _ (Xg _)|exact zh _ (uJ _)|exact zh _ (zC _ (λl=>by simp[ze,Pure]) _)|exact zp (WK zs)|exact XU zs rfl rfl rfl|exact zp (xY _ _)|skip
    ·have g7:¬g.kind=7:=by simpa using g7
     rw[if_neg g7,hsE] at eFa
     have hFa:=λs=>zu6 A P hI s g hw hTg zo
     refine⟨zo,?_⟩
     rw[s2]
     refine sI ?_
     refine zG (xr 14 1 zs rfl) ?_
     refine z8 [2,5,6,7,13,122,123,124,132] (λs:Nat=>[(14,.own 13 (vQ (Zv A P g) s).length 0 (vQ (Zv A P g) s).length),(133,.sc (.int .i64 s))]) (λs=>[.row true (yo f),.row true [.sc (.slice none 0 0),.sc (.slice none 0 0),.sc (.slice none 0 0),.sc (.slice none 0 0),.sc (.slice none 0 0)],.row false [zB A,.xj 3 (xR P)],.vec false A0.length 1 (zL A),.vec false P.length 3 (xR P),.row true [.own 7 (stE A P f N).length 0 (stE A P f N).length,.own 8 N 0 N,.own 9 N 0 N,.own 10 N 0 N,.own 11 (uz A P (A.length+P.length) k).length 0 (uz A P (A.length+P.length) k).length],.vec true 0 1 ((uE A P N).map λl=>[zB l]),.vec true (stE A P f N).length 1 (zL (stE A P f N)),.vec true N 1 (vJ (zhP A P N)),.vec true N 1 (zcr (leE A true N)),.vec true N 1 (zcr (leE A false N)),.vec true (uz A P (A.length+P.length) k).length 1 (vJ (uz A P (A.length+P.length) k)),.row true (yo g),.vec true (vQ (Zv A P g) s).length 1 (zL (vQ (Zv A P g) s))]) (λs=>s≤N) (λs=>N-s) 0 ?_
     refine sW ?_
     refine⟨zo,by exact sK,rfl,?_⟩
     rintro s hs
     have hsl2:=ZV (Zv A P g) s
     refine sW ?_
     refine sR ?_
     refine sS (λq1=>?_) λq1=>?_
     ·have q1:s<N:=sO
      have eG:=Jh (Zv A P g) s
      refine sC (hFa s) ?_
      cases r:Zv A P g s
      ·rw[r,if_neg zc] at eG
       refine sW ?_
       refine sI ?_
       refine⟨s+1,zo,zd,?_⟩
       dsimp only
       rw[eG]
       exact zD (by exact sK) rfl
      ·rw[r,if_pos rfl] at eG
       refine sW ?_
       refine sJ ?_
       refine sI ?_
       refine⟨s+1,zo,zd,?_⟩
       dsimp only
       rw[eG]
       rw[show(vQ (Zv A P g) s++[(s:Int)]).length=(vQ (Zv A P g) s).length+1 by simp]
       (refine zj 14 zs rfl ?_ ?_<;>(repeat' (first|exact trivial|exact rfl|exact yc.refl _|exact zQ.refl _|exact zK.refl _|refine And.intro ?_ ?_|(simp[zt,zl,zF,-List.map_take,-List.map_drop];done))))
       all_goals
        first|exact zr _ (ym _)|exact zw _ (zi _)|exact zw _ hmd|exact zh _ (vq _)|exact zh _ (Xg _)|exact zh _ (uJ _)|exact zh _ (zC _ (λl=>by simp[ze,Pure]) _)|exact zp (WK zs)|exact XU zs rfl rfl rfl|exact zp (xY _ _)|skip
     ·have q1:s=N:=by have:¬s<N:=sO
                      omega
      obtain rfl:N=s:=q1.symm
      refine sJ ?_
      refine sI ?_
      refine⟨k+1,zo,zd,?_⟩
      dsimp only
      rw[eFa]
      rw[show(uz A P (A.length+P.length) k++[vQ (Zv A P g) N]).length=(uz A P (A.length+P.length) k).length+1 by simp]
      (refine zj 12 zs rfl ?_ ?_<;>(repeat' (first|exact trivial|exact rfl|exact yc.refl _|exact zQ.refl _|exact zK.refl _|refine And.intro ?_ ?_|(simp[zt,zl,zF,-List.map_take,-List.map_drop];done))))
      all_goals
       first|exact zr _ (ym _)|exact zw _ (zi _)|exact zw _ hmd|exact zh _ (vq _)|exact zh _ (Xg _)|exact zh _ (uJ _)|exact zh _ (zC _ (λl=>by simp[ze,Pure]) _)|exact zp (WK zs)|exact XU zs rfl rfl rfl|exact zp (xY _ _)|skip
   ·have q0:k=P.length:=by have:¬k<P.length:=sO
                           omega
    subst q0
    have hE:=zvk A P f
    rw[h2N] at hE
    rw[hE]
    refine .yO _ _ (.cons _ _ _ _ (.agg _ _ (.cons _ _ _ _ (.own _ _ _ _ _ _ _ _ rfl ?_) (.cons _ _ _ _ (.own _ _ _ _ _ _ _ _ rfl ?_) (.cons _ _ _ _ (.own _ _ _ _ _ _ _ _ rfl ?_) (.cons _ _ _ _ (.own _ _ _ _ _ _ _ _ rfl ?_) (.cons _ _ _ _ (.own _ _ _ _ _ _ _ _ rfl ?_) .nil)))))) (.cons _ _ _ _ (.refl _) .nil))
    ·exact Xy (by simp[zL])
    ·exact Xy zs
    ·exact Xy zs
    ·exact Xy zs
    ·exact Xy zs
end
section
open Go.RowKit
theorem zdV {p:Nat→Bool} {n:Nat}:xH (vQ p n) n=true:=wj λx hx=>by
 obtain⟨k,hk,rfl⟩:=List.mem_map.1 hx
 have:=List.mem_range.1 (List.mem_filter.1 hk).1
 omega
theorem QT (A:List Int) (P:List Tree) (f:Tree):(Zm A P f).next.length=2^(A.length+P.length):=by simp[Zm]
theorem zsc {A:List Int} {P:List Tree} (h:A.length+P.length≤10) (f:Tree):(Zm A P f).yJ=0:=by
 have h2:=W6 h
 have hn:=QT A P f
 have hf:(Zm A P f).fair.length≤P.length:=Jq _ _ _ _
 unfold yh.yJ
 rw[if_neg zo,if_neg ?_,if_neg ?_,if_neg ?_]
 ·rw[Bool.not_eq_true,List.any_eq_false]
  intro l hl
  obtain⟨g,_,rfl⟩:=List.mem_map.1 hl
  rw[hn,show xH (ziZ A P (A.length+P.length) g) (2^(A.length+P.length))=true from zdV]
  decide
 ·rw[Bool.not_eq_true,List.any_eq_false]
  intro l hl
  obtain⟨s,_,rfl⟩:=List.mem_map.1 hl
  rw[hn,show xH (QS A P (A.length+P.length) s) (2^(A.length+P.length))=true from zdV]
  decide
 ·rw[hn]
  simp only[Zm,List.length_map,List.length_range,ne_eq,not_true_eq_false,false_or]
  rw[zdV]
  decide
theorem zbJ (A:List Int) (s:Nat) (is:Bool):∀k,0≤xK A s is k∧xK A s is k<18446744073709551616
 | 0=>by simp[xK]
 | k+1=>by
  rw[xK]
  split
  ·have e:vd .or .u64 (xK A s is k) (2^(A.getD k 0).toNat)=(((BitVec.ofInt 64 (xK A s is k) ||| BitVec.ofInt 64 (2^(A.getD k 0).toNat)).toNat:Nat):Int):=U2 _
   rw[e]
   have:=(BitVec.ofInt 64 (xK A s is k) ||| BitVec.ofInt 64 (2^(A.getD k 0).toNat)).isLt
   omega
  ·exact zbJ A s is k
theorem zoE {A:List Int} {P:List Tree} (h:A.length+P.length≤10) (f:Tree):(Zm A P f).Fits∧(Zm A P f).start.length≤1048576∧∀l∈(Zm A P f).next,l.length≤1048576:=by
 have h2:=W6 h
 have s1:(Zm A P f).start.length≤2^(A.length+P.length):=ZV _ _
 have s2:∀l∈(Zm A P f).next,l.length≤2^(A.length+P.length):=λl hl=>by
  obtain⟨s,_,rfl⟩:=List.mem_map.1 hl
  exact ZV _ _
 have s3:∀l∈(Zm A P f).fair,l.length≤2^(A.length+P.length):=λl hl=>by
  obtain⟨s,_,rfl⟩:=List.mem_map.1 hl
  exact ZV _ _
 have hf:(Zm A P f).fair.length≤P.length:=Jq _ _ _ _
 have hn:=QT A P f
 have hm:(Zm A P f).Y4.length=2^(A.length+P.length):=by simp[Zm]
 have hm2:(Zm A P f).Vm.length=2^(A.length+P.length):=by simp[Zm]
 exact⟨⟨zo,zo,zo,zo,zo,λl hl=>by have:=s2 l hl;omega,λl hl=>by have:=s3 l hl;omega⟩,zo,λl hl=>by have:=s2 l hl;omega⟩
noncomputable def uI (t:Tree):Int:=if (ZP (yS 4 t) (yg (yS 4 t))).2=0 then if 10<(Y3 (ye (yg (yS 4 t)))).length+(we [] (partsOf (yg (yS 4 t)))).length then 2 else 0 else (ZP (yS 4 t) (yg (yS 4 t))).2
noncomputable def vC (t:Tree):yh:=if uI t=0 then Zm (Y3 (ye (yg (yS 4 t)))) (we [] (partsOf (yg (yS 4 t)))) (yg (yS 4 t)) else zp4
theorem zo0 (t:Tree):zgf (yS 4 t)=.yO [V4 (vC t),.sc (.int .i64 (uI t))]:=by
 unfold zgf vC uI zub
 by_cases h:(ZP (yS 4 t) (yg (yS 4 t))).2=0
 ·simp only[if_pos h]
  by_cases q:10<(Y3 (ye (yg (yS 4 t)))).length+(we [] (partsOf (yg (yS 4 t)))).length
  ·simp only[if_pos q]
   rw[if_neg zc];rfl
  ·simp only[if_neg q]
   rfl
 ·simp only[if_neg h]
theorem zjS {t:Tree} (h:uI t=0):(Y3 (ye (yg (yS 4 t)))).length+(we [] (partsOf (yg (yS 4 t)))).length≤10:=by
 unfold uI at h
 split at h
 ·split at h
  ·exact absurd h zc
  ·omega
 ·rename_i q;exact absurd h q
theorem zm7 {t:Tree} (h:uI t=0):vC t=Zm (Y3 (ye (yg (yS 4 t)))) (we [] (partsOf (yg (yS 4 t)))) (yg (yS 4 t)):=if_pos h
theorem zag {W:zA} (hW:W.Fits) (hc:W.yJ=0) (s1:W.start.length≤1048576) (r1:∀l∈W.next,l.length≤1048576) {t:Tree} (h:uI t=0):Ur W (vC t):=by
 have hf:=zjS h
 rw[zm7 h]
 obtain⟨h1,h2,h3⟩:=zoE hf (yg (yS 4 t))
 exact⟨⟨hW,h1,hc,zsc hf _⟩,s1,h2,r1,h3⟩
end
section
open Go.RowKit
def zhu (x n:Int):Bool:=(BitVec.ofInt 64 x).getLsbD n.toNat
def UM (w:Nat→Int) (k n:Int) (h:List (Nat→Prop)) (i:Nat):Prop :=
 if k=1 then True else if k=2 then False else if k=3 then zhu (w i) n=true else if k=4 then ¬h.getD 0 (λ_=>False) i
 else if k=5 then h.getD 0 (λ_=>False) i∧h.getD 1 (λ_=>False) i else if k=6 then h.getD 0 (λ_=>False) i∨h.getD 1 (λ_=>False) i
 else if k=7 then h.getD 0 (λ_=>False) (i+1)
 else if k=8 then ∃j,i≤j∧h.getD 1 (λ_=>False) j∧∀m,i≤m→m<j→h.getD 0 (λ_=>False) m
 else if k=9 then ∀j,i≤j→h.getD 1 (λ_=>False) j∨∃m,i≤m∧m<j∧h.getD 0 (λ_=>False) m
 else if k=10 then ∃j,i≤j∧h.getD 0 (λ_=>False) j else if k=11 then ∀j,i≤j→h.getD 0 (λ_=>False) j else False
mutual
def xN (w:Nat→Int):Tree→Nat→Prop
 | .node k n ks=>UM w k n (zrn w ks)
def zrn (w:Nat→Int):List Tree→List (Nat→Prop)
 | []=>[]
 | t::r=>xN w t::zrn w r
end
theorem zkm (w:Nat→Int):∀l,zrn w l=l.map (xN w)
 | []=>by rw[zrn];rfl
 | t::r=>by rw[zrn,zkm w r,List.map_cons]
theorem uF (w:Nat→Int) (t:Tree) (i:Nat):xN w t i↔UM w t.kind t.num (t.kids.map (xN w)) i:=by
 cases t;rw[xN,zkm];rfl
theorem qJ (w:Nat→Int) {t:Tree} {j:Nat} (h:j<t.width):(t.kids.map (xN w)).getD j (λ_=>False)=xN w (t.yD j):=by
 rw[List.getD_eq_getElem?_getD,List.getElem?_map,kid_get? h]
 rfl
section
variable {w:Nat→Int} {t:Tree} {i:Nat}
theorem zyI (h:t.kind=1):xN w t i:=by rw[uF,UM,if_pos h];trivial
theorem zyg (h:t.kind=2):¬xN w t i:=by rw[uF,UM,h];simp
theorem zhS (h:t.kind=3):xN w t i↔zhu (w i) t.num=true:=by rw[uF,UM,h];simp
theorem zrW (h:t.kind=4) (hw:t.width=1):xN w t i↔¬xN w (t.yD 0) i:=by rw[uF,UM,h,qJ w zo];simp
theorem sat5 (h:t.kind=5) (hw:t.width=2):xN w t i↔xN w (t.yD 0) i∧xN w (t.yD 1) i:=by rw[uF,UM,h,qJ w zo,qJ w zo];simp
theorem zyu (h:t.kind=6) (hw:t.width=2):xN w t i↔xN w (t.yD 0) i∨xN w (t.yD 1) i:=by rw[uF,UM,h,qJ w zo,qJ w zo];simp
theorem sat7 (h:t.kind=7) (hw:t.width=1):xN w t i↔xN w (t.yD 0) (i+1):=by rw[uF,UM,h,qJ w zo];simp
theorem zpo (h:t.kind=8) (hw:t.width=2):xN w t i↔∃j,i≤j∧xN w (t.yD 1) j∧∀m,i≤m→m<j→xN w (t.yD 0) m:=by rw[uF,UM,h,qJ w zo,qJ w zo];simp
theorem zve (h:t.kind=9) (hw:t.width=2):xN w t i↔∀j,i≤j→xN w (t.yD 1) j∨∃m,i≤m∧m<j∧xN w (t.yD 0) m:=by rw[uF,UM,h,qJ w zo,qJ w zo];simp
theorem zqM (h:t.kind=10) (hw:t.width=1):xN w t i↔∃j,i≤j∧xN w (t.yD 0) j:=by rw[uF,UM,h,qJ w zo];simp
theorem zwg (h:t.kind=11) (hw:t.width=1):xN w t i↔∀j,i≤j→xN w (t.yD 0) j:=by rw[uF,UM,h,qJ w zo];simp
end
theorem zd5 {p q:Nat→Prop} {i:Nat}:(∃j,i≤j∧q j∧∀m,i≤m→m<j→p m)↔q i∨(p i∧∃j,i+1≤j∧q j∧∀m,i+1≤m→m<j→p m):=by
 constructor
 ·rintro⟨j,h1,h2,h3⟩
  by_cases e:j=i
  ·subst e;exact .inl h2
  ·exact .inr ⟨h3 i (Nat.le_refl _) zo,j,zo,h2,λm a b=>h3 m zo b⟩
 ·rintro(h|⟨h,j,h1,h2,h3⟩)
  ·exact⟨i,Nat.le_refl _,h,λm a b=>zo⟩
  ·exact⟨j,zo,h2,λm a b=>by by_cases e:m=i;subst e;exact h;exact h3 m zo b⟩
theorem VV {p q:Nat→Prop} {i:Nat}:(∀j,i≤j→q j∨∃m,i≤m∧m<j∧p m)↔q i∧(p i∨∀j,i+1≤j→q j∨∃m,i+1≤m∧m<j∧p m):=by
 constructor
 ·intro h
  refine⟨(h i (Nat.le_refl _)).resolve_right λ⟨m,a,b,_⟩=>zo,?_⟩
  by_cases hp:p i
  ·exact .inl hp
  ·refine .inr λj hj=>(h j zo).imp_right λ⟨m,a,b,c⟩=>⟨m,?_,b,c⟩
   by_cases e:m=i
   ·subst e;exact absurd c hp
   ·omega
 ·rintro⟨h1,h2⟩ j hj
  by_cases e:j=i
  ·subst e;exact .inl h1
  ·rcases h2 with h|h
   ·exact .inr ⟨i,Nat.le_refl _,zo,h⟩
   ·exact(h j zo).imp_right λ⟨m,a,b,c⟩=>⟨m,zo,b,c⟩
theorem zmV (w:Nat→Int) (k:Int) (a b:Tree) (i:Nat):xN w (vx k a b) i↔UM w k 0 [xN w a,xN w b] i:=by rw[uF];rfl
theorem zow (w:Nat→Int):∀t:Tree,t.wf zP→∀i,xN w (yg t) i↔xN w t i:=by
 intro t
 induction t using Tree.ind with
 | h t ih =>
  intro hw i
  have har:=vZ ((xM _ _).1 hw).1
  have hk:=λj hj=>ih j hj (x9 hw hj)
  rw[Qv t λh=>qI hw zo]
  by_cases h10:t.kind=10
  ·have hw1:t.width=1:=zo
   rw[if_pos h10,zmV,zqM h10 hw1]
   simp only[UM]
   simp[hk 0 zo,zyI (w:=w) (t:=yB 1 0) rfl]
  ·rw[if_neg h10]
   by_cases h11:t.kind=11
   ·have hw1:t.width=1:=zo
    rw[if_pos h11,zmV,zwg h11 hw1]
    simp only[UM]
    simp[hk 0 zo,zyg (w:=w) (t:=yB 2 0) rfl]
   ·rw[if_neg h11,uF,uF w t]
    show UM w t.kind t.num ((t.kids.map yg).map (xN w)) i↔_
    rw[List.map_map]
    have:t.kids.map (xN w∘yg)=t.kids.map (xN w):=by
     refine List.map_congr_left λu hu=>?_
     obtain⟨j,hj,rfl⟩:=List.mem_iff_getElem.1 hu
     rw[←Tree.uD hj]
     exact funext λi=>propext (hk j hj i)
    rw[this]
theorem zdL (A:List Int) (s:Nat) (is:Bool) (m:Nat) (hA:∀x∈A,0≤x∧x≤63):∀k,k≤A.length→((BitVec.ofInt 64 (xK A s is k)).getLsbD m=true↔∃i,i<k∧s.testBit i=is∧(A.getD i 0).toNat=m)
 | 0,_=>by simp[xK]
 | k+1,hk=>by
  have ih:=zdL A s is m hA k zo
  have hx:=hA (A.getD k 0) (by rw[List.getD_eq_getElem?_getD,List.getElem?_eq_getElem (show k<A.length by omega)];simp)
  have hor:∀a b:Int,(BitVec.ofInt 64 (vd .or .u64 a b))=BitVec.ofInt 64 a ||| BitVec.ofInt 64 b:=λa b=>by
   show BitVec.ofInt 64 (IntKind.wrap .u64 ((BitVec.ofInt 64 a ||| BitVec.ofInt 64 b).toNat:Int))=_
   rw[U2]
   generalize BitVec.ofInt 64 a ||| BitVec.ofInt 64 b=y
   have:=y.isLt
   apply BitVec.eq_of_toNat_eq
   rw[BitVec.toNat_ofInt]
   omega
  have hone:(BitVec.ofInt 64 (2^(A.getD k 0).toNat)).getLsbD m=true↔(A.getD k 0).toNat=m:=by
   have e:BitVec.ofInt 64 (2^(A.getD k 0).toNat)=BitVec.ofNat 64 (2^(A.getD k 0).toNat):=by
    rw[←BitVec.ofInt_natCast,Int.natCast_pow];rfl
   rw[e,BitVec.getLsbD_ofNat,Nat.testBit_two_pow,Bool.and_eq_true,decide_eq_true_eq,decide_eq_true_eq]
   omega
  rw[xK]
  by_cases q:s.testBit k=is
  ·rw[if_pos (by simpa using q),hor,BitVec.getLsbD_or,Bool.or_eq_true,ih,hone]
   constructor
   ·rintro(⟨i,a,b,c⟩|h)
    ·exact⟨i,zo,b,c⟩
    ·exact⟨k,zo,q,h⟩
   ·rintro⟨i,a,b,c⟩
    by_cases e:i=k
    ·subst e;exact .inr c
    ·exact .inl ⟨i,zo,b,c⟩
  ·rw[if_neg (by simpa using q),ih]
   constructor
   ·rintro⟨i,a,b,c⟩;exact⟨i,zo,b,c⟩
   ·rintro⟨i,a,b,c⟩
    by_cases e:i=k
    ·subst e;exact absurd b q
    ·exact⟨i,zo,b,c⟩
theorem ziE {A:List Int} {P:List Tree} (hA:∀x∈A,0≤x∧x≤63) (f:Tree) {s:Nat} (hs:s<2^(A.length+P.length)) (x:Int) :
  J3 (Zm A P f) s x=true↔∀i,i<A.length→zhu x (A.getD i 0)=s.testBit i:=by
 have e1:(Zm A P f).Y4.getD s 0=xK A s true A.length:=by
  show((List.range _).map λs=>xK A s true A.length).getD s 0=_
  rw[List.getD_eq_getElem?_getD,List.getElem?_map,List.getElem?_range hs];rfl
 have e2:(Zm A P f).Vm.getD s 0=xK A s false A.length:=by
  show((List.range _).map λs=>xK A s false A.length).getD s 0=_
  rw[List.getD_eq_getElem?_getD,List.getElem?_map,List.getElem?_range hs];rfl
 have hT:=λm=>zdL A s true m hA A.length (Nat.le_refl _)
 have hF:=λm=>zdL A s false m hA A.length (Nat.le_refl _)
 have hr:=zbJ A s true A.length
 unfold J3
 rw[e1,e2,zpz hr]
 rw[Bool.and_eq_true,beq_iff_eq,beq_iff_eq]
 have k1:vd .andNot .u64 (xK A s true A.length) x=0↔∀m,(BitVec.ofInt 64 (xK A s true A.length)).getLsbD m=true→(BitVec.ofInt 64 x).getLsbD m=true:=by
  show IntKind.wrap .u64 ((BitVec.ofInt 64 (xK A s true A.length) &&& ~~~(BitVec.ofInt 64 x)).toNat:Int)=0↔_
  rw[U2]
  constructor
  ·intro h m hm
   have h0:BitVec.ofInt 64 (xK A s true A.length) &&& ~~~(BitVec.ofInt 64 x)=0#64:=BitVec.eq_of_toNat_eq (by simpa using h)
   have:=congrArg (λz:BitVec 64=>z.getLsbD m) h0
   have hlt:=BitVec.lt_of_getLsbD hm
   simp[hm,hlt] at this
   exact this
  ·intro h
   have h0:BitVec.ofInt 64 (xK A s true A.length) &&& ~~~(BitVec.ofInt 64 x)=0#64:=by
    apply BitVec.eq_of_getLsbD_eq
    intro m hm
    have:=h m
    simp[hm]
    exact this
   rw[h0];rfl
 have k2:vd .and .u64 x (xK A s false A.length)=0↔∀m,(BitVec.ofInt 64 (xK A s false A.length)).getLsbD m=true→(BitVec.ofInt 64 x).getLsbD m=false:=by
  show IntKind.wrap .u64 ((BitVec.ofInt 64 x &&& BitVec.ofInt 64 (xK A s false A.length)).toNat:Int)=0↔_
  rw[U2]
  constructor
  ·intro h m hm
   have h0:BitVec.ofInt 64 x &&& BitVec.ofInt 64 (xK A s false A.length)=0#64:=BitVec.eq_of_toNat_eq (by simpa using h)
   have:=congrArg (λz:BitVec 64=>z.getLsbD m) h0
   simp[hm] at this
   exact this
  ·intro h
   have h0:BitVec.ofInt 64 x &&& BitVec.ofInt 64 (xK A s false A.length)=0#64:=by
    apply BitVec.eq_of_getLsbD_eq
    intro m hm
    rw[BitVec.getLsbD_and]
    cases q:(BitVec.ofInt 64 (xK A s false A.length)).getLsbD m
    ·simp
    ·rw[h m q];simp
   rw[h0];rfl
 rw[k1,k2]
 constructor
 ·rintro⟨h1,h2⟩ i hi
  unfold zhu
  cases q:s.testBit i
  ·exact h2 _ ((hF _).2 ⟨i,hi,q,rfl⟩)
  ·exact h1 _ ((hT _).2 ⟨i,hi,q,rfl⟩)
 ·intro h
  refine⟨λm hm=>?_,λm hm=>?_⟩
  ·obtain⟨i,hi,q,rfl⟩:=(hT m).1 hm
   exact(h i hi).trans q
  ·obtain⟨i,hi,q,rfl⟩:=(hF m).1 hm
   exact(h i hi).trans q
end
section
open Go.RowKit
section
variable {c:Tree→Bool} {t:Tree}
theorem hol1 (h:t.kind=1):yq c t=true:=by rw[u9,qQ,h];simp
theorem hol2 (h:t.kind=2):yq c t=false:=by rw[u9,qQ,h];simp
theorem zvQ (h:t.kind=3∨t.kind=7):yq c t=c t:=by rw[u9,qQ];rcases h with h|h<;>rw[h]<;>simp
theorem hol4 (h:t.kind=4) (hw:t.width=1):yq c t=!(yq c (t.yD 0)):=by rw[u9,qQ,h,uj c zo];simp
theorem hol5 (h:t.kind=5) (hw:t.width=2):yq c t=(yq c (t.yD 0)&&yq c (t.yD 1)):=by rw[u9,qQ,h,uj c zo,uj c zo];simp
theorem hol6 (h:t.kind=6) (hw:t.width=2):yq c t=(yq c (t.yD 0)||yq c (t.yD 1)):=by rw[u9,qQ,h,uj c zo,uj c zo];simp
theorem hol8 (h:t.kind=8) (hw:t.width=2):yq c t=(yq c (t.yD 1)||(yq c (t.yD 0)&&c t)):=by rw[u9,qQ,h,uj c zo,uj c zo];simp
theorem hol9 (h:t.kind=9) (hw:t.width=2):yq c t=(yq c (t.yD 1)&&(yq c (t.yD 0)||c t)):=by rw[u9,qQ,h,uj c zo,uj c zo];simp
end
theorem Zh {p:Nat→Bool} {k:Nat} {x:Int}:x∈vQ p k↔∃s:Nat,s<k∧p s=true∧x=(s:Int):=by
 unfold vQ
 simp only[List.mem_map,List.mem_filter,List.mem_range]
 constructor
 ·rintro⟨s,⟨h1,h2⟩,rfl⟩;exact⟨s,h1,h2,rfl⟩
 ·rintro⟨s,h1,h2,rfl⟩;exact⟨s,⟨h1,h2⟩,rfl⟩
theorem zkB {A:List Int} (P:List Tree) {g:Tree} (h:g.num∈A) (h3:g.kind=3):∃k,k<A.length∧A.getD k 0=g.num∧∀s,X8 A P s g=s.testBit k:=by
 obtain⟨k,hk,e⟩:=zmB h
 obtain⟨k',e',hk',e2,_⟩:=zaG (p:=λa=>g.num==a) (l:=A) zo
 have:k'=k:=zo
 subst this
 refine⟨k',hk,?_,λs=>?_⟩
 ·rw[List.getD_eq_getElem?_getD,List.getElem?_eq_getElem hk]
  exact(beq_iff_eq.1 e2).symm
 ·unfold X8 zrA
  rw[if_pos h3,e];rfl
theorem zjj {P:List Tree} (A:List Int) {g:Tree} (h:g∈P) (h3:g.kind≠3):∃k,k<P.length∧P.getD k default=g∧∀s,X8 A P s g=s.testBit (A.length+k):=by
 obtain⟨k,hk,e⟩:=zjp h
 obtain⟨k',e',hk',e2,_⟩:=zaG (p:=QN g) (l:=P) zo
 have:k'=k:=zo
 subst this
 refine⟨k',hk,?_,λs=>?_⟩
 ·rw[List.getD_eq_getElem?_getD,List.getElem?_eq_getElem hk]
  exact(zcz.1 e2).symm
 ·unfold X8 zrA
  rw[if_neg h3,e];rfl
structure zrQ (A:List Int) (P:List Tree) (w:Nat→Int) (r:Nat→Nat):Prop where
 znQ:∀i k,k<A.length→zhu (w i) (A.getD k 0)=(r i).testBit k
 za8:∀i p,p<P.length→hK A P (r (i+1)) p=(r i).testBit (A.length+p)
 fair:∀g∈P,g.kind≠7→∀i,∃j,i≤j∧Zv A P g (r j)=true
theorem zrQ.zlc {A:List Int} {P:List Tree} {w:Nat→Int} {r:Nat→Nat} (h:zrQ A P w r) {g:Tree} (hg:g∈P) (h3:g.kind≠3) (i:Nat):X8 A P (r i) g=yq (X8 A P (r (i+1))) (Zb g):=by
 obtain⟨k,hk,e,hc⟩:=zjj A hg h3
 rw[hc,←h.za8 i k hk]
 unfold hK
 rw[e]
theorem znV {A:List Int} {P:List Tree} {w:Nat→Int} {r:Nat→Nat} (h:zrQ A P w r):∀t:Tree,t.wf vT→Told A P t→∀i,yq (X8 A P (r i)) t=true↔xN w t i:=by
 intro t
 induction t using Tree.ind with
 | h t ih =>
  intro hw hT
  have hk:=zaT hw
  have hwk:∀j,j<t.width→(t.yD j).wf vT:=λj hj=>((xM _ _).1 hw).2 _ (Qu hj)
  have ihk:=λj hj=>ih j hj (hwk j hj) (hT.yD hj)
  rcases hk with⟨hk|hk|hk,hwd⟩|⟨hk|hk,hwd⟩|⟨hk|hk|hk|hk,hwd⟩
  ·intro i;rw[hol1 hk];exact⟨λ_=>zyI hk,λ_=>rfl⟩
  ·intro i;rw[hol2 hk];exact⟨λh=>(by cases h),λq=>absurd q (zyg hk)⟩
  ·intro i
   rw[zvQ (.inl hk),zhS hk]
   obtain⟨k,k1,k2,k3⟩:=zkB P (hT.atom hk) hk
   rw[k3,←h.znQ i k k1,k2]
  ·intro i
   rw[hol4 hk hwd,zrW hk hwd,←ihk 0 zo i]
   cases yq (X8 A P (r i)) (t.yD 0)<;>simp
  ·intro i
   rw[zvQ (.inr hk),sat7 hk hwd,h.zlc (hT.part (.inl hk)) zo,←ihk 0 zo (i+1),Zb,if_pos hk]
  ·intro i;rw[hol5 hk hwd,sat5 hk hwd,Bool.and_eq_true,ihk 0 zo,ihk 1 zo]
  ·intro i;rw[hol6 hk hwd,zyu hk hwd,Bool.or_eq_true,ihk 0 zo,ihk 1 zo]
  ·have hP:=hT.part (.inr (.inl hk))
   have hs:∀i,yq (X8 A P (r i)) t=true↔xN w (t.yD 1) i∨(xN w (t.yD 0) i∧yq (X8 A P (r (i+1))) t=true):=λi=>by
    rw[hol8 hk hwd,Bool.or_eq_true,Bool.and_eq_true,ihk 0 zo,ihk 1 zo,h.zlc hP zo,Zb,if_neg zo]
   intro i
   rw[zpo hk hwd]
   constructor
   ·intro q
    obtain⟨j,hj,hf⟩:=h.fair t hP zo i
    unfold Zv at hf
    rw[if_pos hk,Bool.or_eq_true,Bool.not_eq_true',ihk 1 zo] at hf
    obtain⟨d,rfl⟩:=Nat.exists_eq_add_of_le hj
    clear hj
    induction d generalizing i with
    | zero =>
     rcases hf with hf|hf
     ·rw[Nat.add_zero] at hf;rw[hf] at q;cases q
     ·exact⟨i,Nat.le_refl _,hf,λm a b=>zo⟩
    | succ d ihd =>
     rcases (hs i).1 q with k|⟨k1,k2⟩
     ·exact⟨i,Nat.le_refl _,k,λm a b=>zo⟩
     ·exact zd5.2 (.inr ⟨k1,ihd (i+1) k2 (by rw[show i+1+d=i+(d+1) by omega];exact hf)⟩)
   ·rintro⟨j,hj,q1,q2⟩
    obtain⟨d,rfl⟩:=Nat.exists_eq_add_of_le hj
    clear hj
    induction d generalizing i with
    | zero=>exact(hs i).2 (.inl q1)
    | succ d ihd=>exact(hs i).2 (.inr ⟨q2 i (Nat.le_refl _) zo,ihd (i+1) (by rw[show i+1+d=i+(d+1) by omega];exact q1) λm a b=>q2 m zo zo⟩)
  ·have hP:=hT.part (.inr (.inr hk))
   have hs:∀i,yq (X8 A P (r i)) t=true↔xN w (t.yD 1) i∧(xN w (t.yD 0) i∨yq (X8 A P (r (i+1))) t=true):=λi=>by
    rw[hol9 hk hwd,Bool.and_eq_true,Bool.or_eq_true,ihk 0 zo,ihk 1 zo,h.zlc hP zo,Zb,if_neg zo]
   intro i
   rw[zve hk hwd]
   constructor
   ·intro q j hj
    obtain⟨d,rfl⟩:=Nat.exists_eq_add_of_le hj
    clear hj
    induction d generalizing i with
    | zero=>exact .inl ((hs i).1 q).1
    | succ d ihd =>
     rcases ((hs i).1 q).2 with k|k
     ·exact .inr ⟨i,Nat.le_refl _,zo,k⟩
     ·rcases ihd (i+1) k with a|⟨m,a,b,e⟩
      ·rw[show i+1+d=i+(d+1) by omega] at a;exact .inl a
      ·exact .inr ⟨m,zo,zo,e⟩
   ·intro q
    obtain⟨j,hj,hf⟩:=h.fair t hP zo i
    unfold Zv at hf
    rw[if_neg zo,Bool.or_eq_true,Bool.not_eq_true',Bool.eq_false_iff,ne_eq,ihk 1 zo] at hf
    obtain⟨d,rfl⟩:=Nat.exists_eq_add_of_le hj
    clear hj
    induction d generalizing i with
    | zero =>
     rcases hf with hf|hf
     ·exact hf
     ·exact absurd (VV.1 q).1 hf
    | succ d ihd =>
     obtain⟨k1,k2⟩:=VV.1 q
     refine(hs i).2 ⟨k1,k2.imp_right λk=>?_⟩
     exact ihd (i+1) k (by rw[show i+1+d=i+(d+1) by omega];exact hf)
open Classical in
noncomputable def zqU (A:List Int) (P:List Tree) (w:Nat→Int) (i k:Nat):Bool:=if k<A.length then zhu (w i) (A.getD k 0) else decide (xN w (Zb (P.getD (k-A.length) default)) (i+1))
noncomputable def zco (A:List Int) (P:List Tree) (w:Nat→Int) (i:Nat):Nat:=XO (zqU A P w i) (A.length+P.length)
theorem zeB {A:List Int} {P:List Tree} (w:Nat→Int) {g:Tree} (hg:g∈P) (h3:g.kind≠3) (i:Nat):X8 A P (zco A P w i) g=true↔xN w (Zb g) (i+1):=by
 obtain⟨k,hk,e,hc⟩:=zjj A hg h3
 rw[hc]
 unfold zco
 rw[Yd _ _ _ zo]
 unfold zqU
 rw[if_neg zo,Nat.add_sub_cancel_left,e]
 simp only[decide_eq_true_eq]
theorem Qx {A:List Int} {P:List Tree} (w:Nat→Int):∀t:Tree,t.wf vT→Told A P t→∀i,yq (X8 A P (zco A P w i)) t=true↔xN w t i:=by
 intro t
 induction t using Tree.ind with
 | h t ih =>
  intro hw hT i
  have hk:=zaT hw
  have hwk:∀j,j<t.width→(t.yD j).wf vT:=λj hj=>((xM _ _).1 hw).2 _ (Qu hj)
  have ihk:=λj hj=>ih j hj (hwk j hj) (hT.yD hj)
  rcases hk with⟨hk|hk|hk,hwd⟩|⟨hk|hk,hwd⟩|⟨hk|hk|hk|hk,hwd⟩
  ·rw[hol1 hk];exact⟨λ_=>zyI hk,λ_=>rfl⟩
  ·rw[hol2 hk];exact⟨λh=>(by cases h),λq=>absurd q (zyg hk)⟩
  ·rw[zvQ (.inl hk),zhS hk]
   obtain⟨k,k1,k2,k3⟩:=zkB P (hT.atom hk) hk
   rw[k3]
   unfold zco
   rw[Yd _ _ _ zo]
   unfold zqU
   rw[if_pos k1,k2]
  ·rw[hol4 hk hwd,zrW hk hwd,←ihk 0 zo i]
   cases yq (X8 A P (zco A P w i)) (t.yD 0)<;>simp
  ·rw[zvQ (.inr hk),sat7 hk hwd,zeB w (hT.part (.inl hk)) zo,Zb,if_pos hk]
  ·rw[hol5 hk hwd,sat5 hk hwd,Bool.and_eq_true,ihk 0 zo,ihk 1 zo]
  ·rw[hol6 hk hwd,zyu hk hwd,Bool.or_eq_true,ihk 0 zo,ihk 1 zo]
  ·rw[hol8 hk hwd,Bool.or_eq_true,Bool.and_eq_true,ihk 0 zo,ihk 1 zo,zeB w (hT.part (.inr (.inl hk))) zo,Zb,if_neg zo,zpo hk hwd,zpo hk hwd]
   exact zd5.symm
  ·rw[hol9 hk hwd,Bool.and_eq_true,Bool.or_eq_true,ihk 0 zo,ihk 1 zo,zeB w (hT.part (.inr (.inr hk))) zo,Zb,if_neg zo,zve hk hwd,zve hk hwd]
   exact VV.symm
theorem ztH {A:List Int} {P:List Tree} (hI:zj7 A P) (w:Nat→Int):zrQ A P w (zco A P w) where
 znQ i k hk:=by
  unfold zco
  rw[Yd _ _ _ zo]
  unfold zqU
  rw[if_pos hk]
 za8 i p hp:=by
  have hg:P.getD p default∈P:=by rw[List.getD_eq_getElem?_getD,List.getElem?_eq_getElem hp];simp
  obtain⟨hw,hk⟩:=hI.wf _ hg
  have hT:=hI.told _ hg
  have hb:(Zb (P.getD p default)).wf vT∧Told A P (Zb (P.getD p default)):=by
   unfold Zb
   split
   ·have h1:0<(P.getD p default).width:=by have:=zaT hw;omega
    exact⟨((xM _ _).1 hw).2 _ (Qu h1),hT.yD h1⟩
   ·exact⟨hw,hT⟩
  rw[Bool.eq_iff_iff]
  unfold hK
  rw[Qx w _ hb.1 hb.2]
  unfold zco
  rw[Yd _ _ _ zo]
  unfold zqU
  rw[if_neg zo,Nat.add_sub_cancel_left]
  simp only[decide_eq_true_eq]
 fair g hg h7 i:=by
  obtain⟨hw,hk⟩:=hI.wf _ hg
  have hT:=hI.told _ hg
  have hwk:∀j,j<g.width→(g.yD j).wf vT:=λj hj=>((xM _ _).1 hw).2 _ (Qu hj)
  have hwd:g.width=2:=by have:=zaT hw;omega
  have h1:=λj=>Qx (A:=A) (P:=P) w (g.yD 1) (hwk 1 zo) (hT.yD zo) j
  have h0:=λj=>Qx (A:=A) (P:=P) w g hw hT j
  unfold Zv
  by_cases q:xN w g i
  ·rcases hk with hk|hk|hk
   ·exact absurd hk h7
   ·obtain⟨j,j1,j2,_⟩:=(zpo hk hwd).1 q
    exact⟨j,j1,by rw[if_pos hk,Bool.or_eq_true];exact .inr ((h1 j).2 j2)⟩
   ·exact⟨i,Nat.le_refl _,by rw[if_neg zo,Bool.or_eq_true];exact .inl ((h0 i).2 q)⟩
  ·rcases hk with hk|hk|hk
   ·exact absurd hk h7
   ·refine⟨i,Nat.le_refl _,?_⟩
    rw[if_pos hk,Bool.or_eq_true,Bool.not_eq_true',Bool.eq_false_iff,ne_eq,h0]
    exact .inl q
   ·rw[zve hk hwd] at q
    obtain⟨j,hj⟩:=Classical.not_forall.1 q
    obtain⟨j1,j2⟩:=Classical.not_imp.1 hj
    refine⟨j,j1,?_⟩
    rw[if_neg zo,Bool.or_eq_true,Bool.not_eq_true',Bool.eq_false_iff,ne_eq,h1]
    exact .inr λk=>j2 (.inl k)
theorem ztt {A:List Int} {P:List Tree} (hI:zj7 A P) {f:Tree} (hw:f.wf vT) (hT:Told A P f) (w:Nat→Int) :
  (∃r:Nat→Int,r 0∈(Zm A P f).start∧(∀i,r (i+1)∈(Zm A P f).next.getD (r i).toNat [])∧(∀i,J3 (Zm A P f) (r i).toNat (w i)=true)∧∀l∈(Zm A P f).fair,∀i,∃j,i≤j∧r j∈l)↔xN w f 0:=by
 have hrow:∀s,s<2^(A.length+P.length)→(Zm A P f).next.getD s []=QS A P (A.length+P.length) s:=λs hs=>by
  show((List.range _).map (QS A P (A.length+P.length))).getD s []=_
  rw[List.getD_eq_getElem?_getD,List.getElem?_map,List.getElem?_range hs];rfl
 constructor
 ·rintro⟨r,h1,h2,h3,h4⟩
  have hr:∀i,∃s:Nat,s<2^(A.length+P.length)∧r i=(s:Int):=by
   intro i
   induction i with
   | zero =>
    obtain⟨s,a,b,e⟩:=Zh.1 h1
    exact⟨s,a,e⟩
   | succ i ih =>
    obtain⟨s,a,e⟩:=ih
    have:=h2 i
    rw[e,Int.toNat_natCast,hrow s a] at this
    obtain⟨s',a',_,e'⟩:=Zh.1 this
    exact⟨s',a',e'⟩
  have hlt:∀i,(r i).toNat<2^(A.length+P.length):=λi=>by obtain⟨s,a,e⟩:=hr i;omega
  have hN:zrQ A P w (λi=>(r i).toNat):=by
   refine⟨λi k hk=>(ziE hI.atoms f (hlt i) (w i)).1 (h3 i) k hk,λi p hp=>?_,λg hg h7 i=>?_⟩
   ·have:=h2 i
    rw[hrow _ (hlt i)] at this
    obtain⟨s',a',b',e'⟩:=Zh.1 this
    rw[zjc A P _ _ (hlt i),List.all_eq_true] at b'
    have:=b' p (List.mem_range.2 hp)
    rw[beq_iff_eq] at this
    show hK A P (r (i+1)).toNat p=_
    rw[e',Int.toNat_natCast,this]
   ·have hl:ziZ A P (A.length+P.length) g∈(Zm A P f).fair:=by
     show _∈((P.take P.length).filter λg=>g.kind != 7).map (ziZ A P (A.length+P.length))
     rw[List.take_length]
     exact List.mem_map.2 ⟨g,List.mem_filter.2 ⟨hg,by simpa using h7⟩,rfl⟩
    obtain⟨j,j1,j2⟩:=h4 _ hl i
    obtain⟨s,a,b,e⟩:=Zh.1 j2
    exact⟨j,j1,by show Zv A P g (r j).toNat=true;rw[e,Int.toNat_natCast];exact b⟩
  refine(znV hN f hw hT 0).1 ?_
  obtain⟨s,a,b,e⟩:=Zh.1 h1
  show yq (X8 A P (r 0).toNat) f=true
  rw[e,Int.toNat_natCast];exact b
 ·intro h
  have hN:=ztH hI w
  have hlt:∀i,zco A P w i<2^(A.length+P.length):=λi=>Ve _ _
  refine⟨λi=>(zco A P w i:Int),?_,λi=>?_,λi=>?_,λl hl i=>?_⟩
  ·exact Zh.2 ⟨_,hlt 0,(Qx w f hw hT 0).2 h,rfl⟩
  ·show _∈(Zm A P f).next.getD ((zco A P w i:Nat):Int).toNat []
   rw[Int.toNat_natCast,hrow _ (hlt i)]
   refine Zh.2 ⟨_,hlt (i+1),?_,rfl⟩
   rw[zjc A P _ _ (hlt i),List.all_eq_true]
   intro p hp
   rw[beq_iff_eq]
   exact hN.za8 i p (List.mem_range.1 hp)
  ·show J3 _ ((zco A P w i:Nat):Int).toNat _=true
   rw[Int.toNat_natCast]
   exact(ziE hI.atoms f (hlt i) (w i)).2 λk hk=>hN.znQ i k hk
  ·obtain⟨g,hg,rfl⟩:=List.mem_map.1 (show l∈((P.take P.length).filter λg=>g.kind != 7).map (ziZ A P (A.length+P.length)) from hl)
   rw[List.take_length,List.mem_filter] at hg
   obtain⟨j,j1,j2⟩:=hN.fair g hg.1 (by simpa using hg.2) i
   exact⟨j,j1,Zh.2 ⟨_,hlt j,j2,rfl⟩⟩
end
section
open Go.RowKit
open Classical in
noncomputable def vM (W:zA) (A:yh):Bool:=decide (∃v,v<(xc W A).2.length∧Fw (xc W A).2 (vn W A (xc W A).1) v)
theorem zry {W:zA} {A:yh} (hb:Ur W A):∃s l,V2 W A (xc W A).1 (xc W A).2 (xh W A).2=.yO [.agg [zB s,zB l],.sc (.bool (vM W A)),.sc (.int .i64 0)]∧(vM W A=false→s=[]∧l=[]):=by
 obtain⟨hN,hg⟩:=Wj hb
 have hp:=zzH (F:=vn W A (xc W A).1) hN.inG
 have hA:vM W A=true↔∃v,v<(xc W A).2.length∧Fw (xc W A).2 (vn W A (xc W A).1) v:=by unfold vM;simp only[decide_eq_true_eq]
 rw[←hA] at hp
 unfold V2
 by_cases h:pE (xc W A).2 (vn W A (xc W A).1)<0
 ·rw[if_pos h]
  have:vM W A=false:=by
   cases e:vM W A
   ·rfl
   ·exact absurd h (hp.2 e)
  exact⟨[],[],by rw[this],λ_=>⟨rfl,rfl⟩⟩
 ·rw[if_neg h,hp.1 h]
  exact⟨_,_,rfl,λq=>by cases q⟩
end
section
open Go.RowKit
def Seg (g:List (List Int)):Nat→List Nat→Nat→Prop
 | u,[],v=>u=v
 | u,x::l,v=>(∃y∈g.getD u [],y.toNat=x)∧Seg g x l v
theorem zcF {g:List (List Int)}:∀{l m:List Nat} {u v z:Nat},Seg g u l v→Seg g v m z→Seg g u (l++m) z
 | [],m,u,v,z,h,k=>by cases h;exact k
 | x::l,m,u,v,z,h,k=>⟨h.1,zcF h.2 k⟩
theorem zhJ {g:List (List Int)} {u v:Nat} (h:To g u v):∃l,Seg g u l v:=by
 unfold To at h
 induction h with
 | base m=>simp only[List.mem_singleton] at m;subst m;exact⟨[],by simp[Seg]⟩
 | step q m ih =>
  obtain⟨l,hl⟩:=ih
  exact⟨l++[_],zcF hl ⟨⟨_,m,rfl⟩,rfl⟩⟩
theorem zd6 {g:List (List Int)}:∀{l:List Nat} {u v:Nat},Seg g u l v→u≠v→v∈l
 | [],u,v,h,hn=>absurd h hn
 | x::l,u,v,h,hn=>by
  by_cases e:x=v
  ·subst e;simp
  ·exact List.mem_cons_of_mem _ (zd6 h.2 e)
def zyb (g:List (List Int)) (π:Nat→Nat):Prop:=∀i,∃y∈g.getD (π i) [],y.toNat=π (i+1)
theorem zqV {g:List (List Int)} {sets:List (Nat→Bool)} {c:Nat} (hn:Wo g c) (h:∀S∈sets,∃d,S d=true∧To g c d∧To g d c) :
  ∃l,l≠[]∧Seg g c l c∧∀S∈sets,∃d∈l,S d=true:=by
 induction sets with
 | nil =>
  obtain⟨x,hx,k⟩:=hn
  obtain⟨l,hl⟩:=zhJ k
  exact⟨x.toNat::l,zs,⟨⟨x,hx,rfl⟩,hl⟩,λS hS=>by cases hS⟩
 | cons S r ih =>
  obtain⟨l,l1,l2,l3⟩:=ih λS hS=>h S (List.mem_cons_of_mem _ hS)
  obtain⟨d,d1,d2,d3⟩:=h S zs
  obtain⟨a,ha⟩:=zhJ d2
  obtain⟨b,hb⟩:=zhJ d3
  refine⟨l++(a++b),by simp[l1],zcF l2 (zcF ha hb),λS' hS'=>?_⟩
  rcases List.mem_cons.1 hS' with rfl|hS'
  ·by_cases e:c=d
   ·subst e
    refine⟨c,?_,d1⟩
    cases l with
    | nil=>exact absurd rfl l1
    | cons x l =>
     -- the last of a way round is its beginning
     have:∀{l:List Nat} {x v:Nat},Seg g x l v→v∈x::l:=λ{l x v} q=>by
      by_cases e:x=v
      ·subst e;simp
      ·exact List.mem_cons_of_mem _ (zd6 q e)
     exact List.mem_append_left _ (this l2.2)
   ·exact⟨d,by simp[zd6 ha e],d1⟩
  ·obtain⟨d,q1,q2⟩:=l3 S' hS'
   exact⟨d,by simp[q1],q2⟩
def goS (l:List Nat):Nat × List Nat→Nat × List Nat
 | (_,x::r)=>(x,r)
 | (_,[])=>match l with
  | x::r=>(x,r)
  | []=>(0,[])
def goN (l:List Nat) (s:Nat × List Nat):Nat→Nat × List Nat
 | 0=>s
 | i+1=>goS l (goN l s i)
theorem U1 (l:List Nat) (s:Nat × List Nat) (i:Nat):∀j,goN l s (i+j)=goN l (goN l s i) j
 | 0=>rfl
 | j+1=>by show goS l (goN l s (i+j))=_;rw[U1 l s i j];rfl
theorem znv (l:List Nat):∀(r:List Nat) (u:Nat),(goN l (u,r) r.length).2=[]
 | [],u=>rfl
 | x::r,u=>by
  have:goN l (u,x::r) (r.length+1)=goN l (x,r) r.length:=by rw[Nat.add_comm,U1];rfl
  rw[List.length_cons,this];exact znv l r x
theorem znt (l:List Nat):∀(r:List Nat) (u d:Nat),d∈r→∃j,(goN l (u,r) j).1=d
 | x::r,u,d,h=>by
  rcases List.mem_cons.1 h with rfl|h
  ·exact⟨1,rfl⟩
  ·obtain⟨j,hj⟩:=znt l r x d h
   exact⟨1+j,by rw[U1];exact hj⟩
theorem znu {g:List (List Int)} {c:Nat} {l:List Nat} (hne:l≠[]) (hl:Seg g c l c) {s:Nat × List Nat} (h:Seg g s.1 s.2 c):∀i,Seg g (goN l s i).1 (goN l s i).2 c
 | 0=>h
 | i+1=>by
  have ih:=znu hne hl h i
  show Seg g (goS l (goN l s i)).1 (goS l (goN l s i)).2 c
  generalize goN l s i=t at ih
  obtain⟨u,r⟩:=t
  cases r with
  | cons x r=>exact ih.2
  | nil =>
   cases l with
   | nil=>exact absurd rfl hne
   | cons x l=>exact hl.2
theorem zrh {g:List (List Int)} {sets:List (Nat→Bool)} {v:Nat} (h:Fw g sets v):∃π:Nat→Nat,π 0=v∧zyb g π∧∀S∈sets,∀i,∃j,i≤j∧S (π j)=true:=by
 obtain⟨c,h1,h2,h3⟩:=h
 obtain⟨l0,hl0⟩:=zhJ h1
 obtain⟨l,l1,l2,l3⟩:=zqV h2 h3
 have hS:=znu l1 l2 (s:=(v,l0)) hl0
 refine⟨λi=>(goN l (v,l0) i).1,rfl,λi=>?_,λS hSm i=>?_⟩
 ·have hi:=hS i
  show ∃y∈g.getD (goN l (v,l0) i).1 [],y.toNat=(goS l (goN l (v,l0) i)).1
  generalize goN l (v,l0) i=t at hi
  obtain⟨u,r⟩:=t
  cases r with
  | cons x r=>exact hi.1
  | nil =>
   have e:u=c:=hi
   subst e
   cases l with
   | nil=>exact absurd rfl l1
   | cons x l=>exact l2.1
 ·obtain⟨d,d1,d2⟩:=l3 S hSm
  -- to the end of what is left,then round once
  have e1:=znv l (goN l (v,l0) i).2 (goN l (v,l0) i).1
  cases l with
  | nil=>exact absurd rfl l1
  | cons x l =>
   have key:∀t:Nat × List Nat,t.2=[]→∃j,(goN (x::l) t j).1=d:=λt ht=>by
    rcases List.mem_cons.1 d1 with e|e
    ·refine⟨1,?_⟩
     obtain⟨u,r⟩:=t
     cases ht
     exact e.symm
    ·obtain⟨j,hj⟩:=znt (x::l) l x d e
     refine⟨1+j,?_⟩
     rw[U1]
     obtain⟨u,r⟩:=t
     cases ht
     exact hj
   obtain⟨j,hj⟩:=key _ e1
   refine⟨i+((goN (x::l) (v,l0) i).2.length+j),zo,?_⟩
   show S (goN (x::l) (v,l0) (i+((goN (x::l) (v,l0) i).2.length+j))).1=true
   rw[U1,U1]
   rw[hj]
   exact d2
theorem again {n:Nat} (f:Nat→Nat) (h:∀i,f i<n):∃c,∀i,∃j,i≤j∧f j=c:=by
 induction n generalizing f with
 | zero=>exact absurd (h 0) zo
 | succ n ih =>
  by_cases q:∀i,∃j,i≤j∧f j=n
  ·exact⟨n,q⟩
  ·obtain⟨i0,hi⟩:=Classical.not_forall.1 q
   have hno:∀j,i0≤j→f j≠n:=λj hj e=>hi ⟨j,hj,e⟩
   obtain⟨c,hc⟩:=ih (λi=>f (i0+i)) λi=>by have:=h (i0+i);have:=hno (i0+i) zo;omega
   refine⟨c,λi=>?_⟩
   obtain⟨j,j1,j2⟩:=hc i
   exact⟨i0+j,zo,j2⟩
theorem zsK {g:List (List Int)} {π:Nat→Nat} (h:zyb g π) (i:Nat):∀d,To g (π i) (π (i+d))
 | 0=>Yk g _
 | d+1=>by
  obtain⟨y,hy,e⟩:=h (i+d)
  refine uc (zsK h i d) ?_
  rw[←Nat.add_assoc,←e]
  exact VS hy
theorem zq0 {g:List (List Int)} {n:Nat} {sets:List (Nat→Bool)} {π:Nat→Nat} (hlt:∀i,π i<n) (h:zyb g π) (hS:∀S∈sets,∀i,∃j,i≤j∧S (π j)=true):Fw g sets (π 0):=by
 obtain⟨c,hc⟩:=again π hlt
 have hto:∀{i j},i≤j→To g (π i) (π j):=λ{i j} hij=>by
  obtain⟨d,rfl⟩:=Nat.exists_eq_add_of_le hij
  exact zsK h i d
 obtain⟨i0,_,e0⟩:=hc 0
 have hc1:∀j,i0≤j→To g c (π j):=λj hj=>e0▸hto hj
 have hc2:∀j,To g (π j) c:=λj=>by
  obtain⟨k,k1,k2⟩:=hc j
  exact k2▸hto k1
 refine⟨c,hc2 0,?_,λS hSm=>?_⟩
 ·obtain⟨y,hy,e⟩:=h i0
  exact⟨y,e0▸hy,by rw[e];exact hc2 _⟩
 ·obtain⟨j,j1,j2⟩:=hS S hSm i0
  exact⟨_,j2,hc1 j j1,hc2 j⟩
theorem X0 {W:zA} {A:yh} {l k:List Int} {p:Pr}:p∈x8 W A l k↔p.1∈l∧p.2∈k∧zjr W A p=true:=by
 obtain⟨x,y⟩:=p
 unfold x8 zfl
 simp only[List.mem_flatMap,List.mem_map,List.mem_filter]
 constructor
 ·rintro⟨a,ha,b,⟨hb,hf⟩,e⟩
  cases e
  exact⟨ha,hb,hf⟩
 ·rintro⟨h1,h2,h3⟩
  exact⟨x,h1,y,⟨h2,h3⟩,rfl⟩
theorem Va {l:List Int} {v:Nat}:XI l v=true↔(v:Int)∈l:=by unfold XI;exact List.contains_iff_mem ..
theorem zoR {W:zA} {A:yh} (hb:Ur W A):vM W A=true↔∃s r:Nat→Int,(s 0∈W.start∧∀i,s (i+1)∈W.next.getD (s i).toNat [])∧(r 0∈A.start∧∀i,r (i+1)∈A.next.getD (r i).toNat [])∧(∀i,J3 A (r i).toNat (W.label.getD (s i).toNat 0)=true) ∧
  (∀l∈W.fair,∀i,∃j,i≤j∧s j∈l)∧∀l∈A.fair,∀i,∃j,i≤j∧r j∈l:=by
 obtain⟨hN,hg⟩:=Wj hb
 have hA:vM W A=true↔∃v,v<(xc W A).2.length∧Fw (xc W A).2 (vn W A (xc W A).1) v:=by unfold vM;simp only[decide_eq_true_eq]
 rw[hA]
 have hset:vn W A (xc W A).1=(W.fair.map λl v=>XI l ((xc W A).1.getD v (0,0)).1.toNat)++A.fair.map λl v=>XI l ((xc W A).1.getD v (0,0)).2.toNat:=by
  unfold vn Wa
  rw[List.take_length,List.take_length]
  rfl
 rw[hset]
 generalize xc W A=FE at *
 obtain⟨L,G⟩:=FE
 dsimp only at *
 constructor
 ·rintro⟨v,hv,hF⟩
  have hv':v<L.length:=by have:=hN.len;omega
  obtain⟨p,hp,hT⟩:=hN.come v hv'
  obtain⟨π,p0,p1,p2⟩:=zrh (hF.back hT)
  have hlt:∀i,π i<L.length:=by
   intro i
   cases i with
   | zero=>rw[p0];exact UW (hN.st p hp)
   | succ i =>
    obtain⟨y,hy,e⟩:=p1 i
    obtain⟨_,q,_,_,rfl,k⟩:=hN.zl0 hy
    rw[←e,Int.toNat_natCast];exact k
  have hgood:=λi=>hg _ (xE (hlt i))
  have h0:L.getD (π 0) (0,0)=p:=by rw[p0];exact Xx (hN.st p hp)
  have hstep:∀i,L.getD (π (i+1)) (0,0)∈nxE W A (L.getD (π i) (0,0)):=λi=>by
   obtain⟨y,hy,e⟩:=p1 i
   obtain⟨_,q,q1,q2,rfl,k⟩:=hN.zl0 hy
   rw[←e,Int.toNat_natCast,Xx q2];exact q1
  have hst:=X0.1 (h0▸hp:L.getD (π 0) (0,0)∈x8 W A W.start A.start)
  have hnx:=λi=>X0.1 (hstep i)
  refine⟨λi=>(L.getD (π i) (0,0)).1,λi=>(L.getD (π i) (0,0)).2,⟨hst.1,λi=>(hnx i).1⟩,⟨hst.2.1,λi=>(hnx i).2.1⟩,λi=>?_,λl hl i=>?_,λl hl i=>?_⟩
  ·cases i with
   | zero=>exact hst.2.2
   | succ i=>exact(hnx i).2.2
  ·obtain⟨j,j1,j2⟩:=p2 _ (List.mem_append_left _ (List.mem_map.2 ⟨l,hl,rfl⟩)) i
   refine⟨j,j1,?_⟩
   have:=Va.1 j2
   have hp:=(hgood j).1.1
   rwa [Int.toNat_of_nonneg hp] at this
  ·obtain⟨j,j1,j2⟩:=p2 _ (List.mem_append_right _ (List.mem_map.2 ⟨l,hl,rfl⟩)) i
   refine⟨j,j1,?_⟩
   have:=Va.1 j2
   have hp:=(hgood j).2.1
   rwa [Int.toNat_of_nonneg hp] at this
 ·rintro⟨s,r,⟨s0,s1⟩,⟨r0,r1⟩,hf,hsW,hsA⟩
  have hmem:∀i,(s i,r i)∈L:=by
   intro i
   induction i with
   | zero=>exact hN.st _ (X0.2 ⟨s0,r0,hf 0⟩)
   | succ i ih =>
    have hl:=UW ih
    refine hN.cl _ hl _ ?_
    rw[Xx ih]
    exact X0.2 ⟨s1 i,r1 i,hf (i+1)⟩
  have hidx:=λi=>UW (hmem i)
  refine⟨ve L (s 0,r 0),by have:=hidx 0;have:=hN.len;omega,?_⟩
  refine zq0 (n:=L.length) (π:=λi=>ve L (s i,r i)) hidx (λi=>?_) λS hS i=>?_
  ·have hm:(s (i+1),r (i+1))∈nxE W A (s i,r i):=X0.2 ⟨s1 i,r1 i,hf (i+1)⟩
   refine⟨(ve L (s (i+1),r (i+1)):Int),?_,Int.toNat_natCast _⟩
   show _∈G.getD (ve L (s i,r i)) []
   rw[hN.row _ (hidx i),Xx (hmem i)]
   exact List.mem_map.2 ⟨_,hm,rfl⟩
  ·rcases List.mem_append.1 hS with hS|hS
   ·obtain⟨l,hl,rfl⟩:=List.mem_map.1 hS
    obtain⟨j,j1,j2⟩:=hsW l hl i
    refine⟨j,j1,?_⟩
    show XI l (L.getD (ve L (s j,r j)) (0,0)).1.toNat=true
    rw[Xx (hmem j),Va,Int.toNat_of_nonneg (hg _ (hmem j)).1.1]
    exact j2
   ·obtain⟨l,hl,rfl⟩:=List.mem_map.1 hS
    obtain⟨j,j1,j2⟩:=hsA l hl i
    refine⟨j,j1,?_⟩
    show XI l (L.getD (ve L (s j,r j)) (0,0)).2.toNat=true
    rw[Xx (hmem j),Va,Int.toNat_of_nonneg (hg _ (hmem j)).2.1]
    exact j2
end
section
def ZR (a b:ByteArray):Bool:=a.toList==b.toList
theorem zj4 (a b:ByteArray):ZR a b=ZR b a:=by
 unfold ZR
 exact BEq.comm
@[simp] theorem zBc (a:ByteArray):ZR a a=true:=by simp[ZR]
theorem zbe (a:ByteArray):ZR a ⟨#[]⟩=true↔a.size=0:=by
 unfold ZR
 rw[beq_iff_eq,ByteArray.toList_eq,ByteArray.toList_eq]
 show a.data.toList=[]↔a.data.size=0
 rw[List.eq_nil_iff_length_eq_zero,Array.length_toList]
theorem yR (l:Array UInt8):(⟨l⟩:ByteArray).size=l.size:=rfl
def zdk:ByteArray:=⟨#[116,114,117,101]⟩
def Jj:ByteArray:=⟨#[102,97,108,115,101]⟩
def Xb:ByteArray:=⟨#[115,105,108,101,110,116]⟩
def zdf (s:ByteArray) (i:Nat):Bool:=match s[i]? with
 | some b=>decide (97≤b.toNat)&&decide (b.toNat≤122)
 | none=>true
def znZ (s:ByteArray):Bool:=(List.range s.size).all (zdf s)
theorem znS {s:ByteArray} (h:∀i,i<s.size→zdf s i=true):znZ s=true:=by
 unfold znZ
 rw[List.all_eq_true]
 exact λi hi=>h i (List.mem_range.1 hi)
theorem zeR {s:ByteArray} {i:Nat} (hi:i<s.size) (h:zdf s i=false):znZ s=false:=by
 unfold znZ
 rw[List.all_eq_false]
 exact⟨i,List.mem_range.2 hi,by simp[h]⟩
def xb (s:ByteArray):Bool:=!(ZR s ⟨#[]⟩)&&decide (s.size≤8)&&!(ZR s zdk)&&!(ZR s Jj)&&!(ZR s Xb)&&znZ s
def zaw (names:List ByteArray) (n:Nat) (s:ByteArray):Bool:=(List.range n).any λi=>ZR (names.getD i ⟨#[]⟩) s
theorem zor {names:List ByteArray} {n i:Nat} {s:ByteArray} (hi:i<n) (h:ZR (names.getD i ⟨#[]⟩) s=true):zaw names n s=true:=by
 unfold zaw
 rw[List.any_eq_true]
 exact⟨i,List.mem_range.2 hi,h⟩
def nm (names:List ByteArray) (n:Int):ByteArray :=
 if n=63 then Xb
 else if (names.length:Int)≤n then ⟨#[]⟩
 else if xb (names.getD n.toNat ⟨#[]⟩)=false then ⟨#[]⟩
 else if zaw names n.toNat (names.getD n.toNat ⟨#[]⟩)=true then ⟨#[]⟩
 else names.getD n.toNat ⟨#[]⟩
theorem zmT (names:List ByteArray) (n:Int):(nm names n).size≤8:=by
 unfold nm
 split
 ·decide
 split
 ·decide
 split
 ·decide
 split
 ·decide
 ·rename_i h _
  have:xb (names.getD n.toNat ⟨#[]⟩)=true:=by simpa using h
  unfold xb at this
  simp only[Bool.and_eq_true,decide_eq_true_eq] at this
  exact this.1.1.1.1.2
def Yp (b:Bool) (s:ByteArray):ByteArray:=if b then s else ⟨#[40]⟩++s++⟨#[41]⟩
theorem Zl (b:Bool) (s:ByteArray):(Yp b s).size≤s.size+2:=by
 unfold Yp
 split
 ·omega
 ·simp only[ByteArray.size_append]
  have:(⟨#[40]⟩:ByteArray).size=1:=rfl
  have:(⟨#[41]⟩:ByteArray).size=1:=rfl
  omega
def zaq (k i c:Int):Bool:=if c=5 then k==6||(k==5&&i==0) else if c=6 then k==6&&i==0 else if c=8∨c=9 then k==c&&i==1 else true
def zib (k i c:Int):Bool:=if c=5 then k==6||(k==5&&i==0) else if c=6 then k==6&&i==0 else true
def V0 (k i c:Int):Bool:=if k=10∨k=14 then true else zib k i c
def QQ (names:List ByteArray) (k n:Int) (a b:ByteArray):ByteArray :=
 if k=1 then zdk else if k=2 then Jj else if k=3 then nm names n
 else if k=4 then ⟨#[33]⟩++a else if k=7 then ⟨#[88,32]⟩++a else if k=10 then ⟨#[70,32]⟩++a else if k=11 then ⟨#[71,32]⟩++a
 else if k=5 then a++⟨#[32,38,32]⟩++b else if k=6 then a++⟨#[32,47,32]⟩++b else if k=8 then a++⟨#[32,85,32]⟩++b else a++⟨#[32,82,32]⟩++b
def JG (names:List ByteArray) (k n:Int) (a b:ByteArray):ByteArray :=
 if k=1 then zdk else if k=2 then Jj else if k=3 then nm names n
 else if k=5 then a++⟨#[32,38,32]⟩++b else if k=6 then a++⟨#[32,47,32]⟩++b
 else if k=10 then ⟨#[69,32,91]⟩++a++⟨#[32,85,32]⟩++b++⟨#[93]⟩ else if k=14 then ⟨#[65,32,91]⟩++a++⟨#[32,85,32]⟩++b++⟨#[93]⟩
 else if k=4 then ⟨#[33]⟩++a else if k=7 then ⟨#[69,88,32]⟩++a else if k=8 then ⟨#[69,70,32]⟩++a else if k=9 then ⟨#[69,71,32]⟩++a
 else if k=11 then ⟨#[65,88,32]⟩++a else if k=12 then ⟨#[65,70,32]⟩++a else ⟨#[65,71,32]⟩++a
theorem zjY {p:Prop} [Decidable p] {a b:ByteArray} {n:Nat} (h:p→a.size≤n) (k:¬p→b.size≤n):(if p then a else b).size≤n:=by
 split
 ·exact h ‹_›
 ·exact k ‹_›
theorem Qo (k n:Int) (ks:List Tree):(Tree.node k n ks).kind=k:=rfl
theorem Xr (k n:Int) (ks:List Tree):(Tree.node k n ks).kids=ks:=rfl
theorem zlC (names:List ByteArray) (k n:Int) (a b:ByteArray):(QQ names k n a b).size≤a.size+b.size+8:=by
 have:=zmT names n
 unfold QQ zdk Jj
 generalize nm names n=z at this ⊢
 repeat' (refine zjY (λ_=>?_) (λ_=>?_))
 all_goals ((try simp only[ByteArray.size_append]);(try simp only[yR,List.size_toArray,List.length_cons,List.length_nil]);omega)
theorem zlO (names:List ByteArray) (k n:Int) (a b:ByteArray):(JG names k n a b).size≤a.size+b.size+8:=by
 have:=zmT names n
 unfold JG zdk Jj
 generalize nm names n=z at this ⊢
 repeat' (refine zjY (λ_=>?_) (λ_=>?_))
 all_goals ((try simp only[ByteArray.size_append]);(try simp only[yR,List.size_toArray,List.length_cons,List.length_nil]);omega)
mutual
def XG (names:List ByteArray):Tree→ByteArray
 | .node k n ks=>QQ names k n ((YX names k 0 ks).getD 0 ⟨#[]⟩) ((YX names k 0 ks).getD 1 ⟨#[]⟩)
def YX (names:List ByteArray) (k i:Int):List Tree→List ByteArray
 | []=>[]
 | t::r=>Yp (zaq k i t.kind) (XG names t)::YX names k (i+1) r
end
def ZS (names:List ByteArray) (t:Tree) (j:Nat):ByteArray:=Yp (zaq t.kind j (t.yD j).kind) (XG names (t.yD j))
theorem Qp (names:List ByteArray) (k:Int):∀(ks:List Tree) (i:Int) (j:Nat),j<ks.length→(YX names k i ks).getD j ⟨#[]⟩=Yp (zaq k (i+j) (ks.getD j default).kind) (XG names (ks.getD j default))
 | [],_,_,h=>by simp at h
 | t::r,i,0,_=>by simp[YX]
 | t::r,i,j+1,h=>by
  have:=Qp names k r (i+1) j (by simpa using h)
  simp only[YX,List.getD_cons_succ]
  rw[this,show i+1+(j:Int)=i+((j+1:Nat):Int) by omega]
theorem VT (names:List ByteArray) (k:Int):∀(ks:List Tree) (i:Int) (j:Nat),ks.length≤j→(YX names k i ks).getD j ⟨#[]⟩=⟨#[]⟩
 | [],_,_,_=>by simp[YX]
 | t::r,i,0,h=>by simp at h
 | t::r,i,j+1,h=>by
  simp only[YX,List.getD_cons_succ]
  exact VT names k r (i+1) j (by simpa using h)
theorem zcE (names:List ByteArray) (t:Tree):XG names t=QQ names t.kind t.num ((YX names t.kind 0 t.kids).getD 0 ⟨#[]⟩) ((YX names t.kind 0 t.kids).getD 1 ⟨#[]⟩):=by
 cases t;simp only[XG];rfl
theorem zxq (names:List ByteArray) {t:Tree} (h:t.width=0):XG names t=QQ names t.kind t.num ⟨#[]⟩ ⟨#[]⟩:=by
 rw[zcE,VT _ _ _ _ _ (by unfold Tree.width at h;omega),VT _ _ _ _ _ (by unfold Tree.width at h;omega)]
theorem zzb (names:List ByteArray) {t:Tree} (h:t.width=1):XG names t=QQ names t.kind t.num (ZS names t 0) ⟨#[]⟩:=by
 rw[zcE,Qp _ _ _ _ _ (by unfold Tree.width at h;omega),VT _ _ _ _ _ (by unfold Tree.width at h;omega)]
 simp[ZS,Tree.yD]
theorem zyj (names:List ByteArray) {t:Tree} (h:t.width=2):XG names t=QQ names t.kind t.num (ZS names t 0) (ZS names t 1):=by
 rw[zcE,Qp _ _ _ _ _ (by unfold Tree.width at h;omega),Qp _ _ _ _ _ (by unfold Tree.width at h;omega)]
 simp[ZS,Tree.yD]
theorem zpu (names:List ByteArray) (t:Tree):(XG names t).size≤12*t.size:=by
 induction t using Tree.ind with
 | h t ih =>
  rw[zcE]
  have hj:=zlC names t.kind t.num ((YX names t.kind 0 t.kids).getD 0 ⟨#[]⟩) ((YX names t.kind 0 t.kids).getD 1 ⟨#[]⟩)
  refine Nat.le_trans hj ?_
  have e0:(⟨#[]⟩:ByteArray).size=0:=rfl
  obtain⟨k,n,ks⟩:=t
  match ks with
  | []=>simp only[Xr,YX,List.getD_nil,e0,Tree.size];omega
  | [a] =>
   have h0:=ih 0 (by simp[Tree.width,Tree.kids])
   have w0:=Zl (zaq k 0 a.kind) (XG names a)
   simp only[Xr,Qo,YX,List.getD_cons_zero,List.getD_cons_succ,List.getD_nil,e0,Tree.size,Tree.Zu,Tree.yD] at h0 ⊢
   omega
  | a::b::r =>
   have h0:=ih 0 (by simp[Tree.width,Tree.kids])
   have h1:=ih 1 (by simp[Tree.width,Tree.kids])
   have w0:=Zl (zaq k 0 a.kind) (XG names a)
   have w1:=Zl (zaq k (0+1) b.kind) (XG names b)
   simp only[Xr,Qo,YX,List.getD_cons_zero,List.getD_cons_succ,Tree.size,Tree.Zu,Tree.yD] at h0 h1 ⊢
   omega
mutual
def ZL (names:List ByteArray):Tree→ByteArray
 | .node k n ks=>JG names k n ((Y0 names k 0 ks).getD 0 ⟨#[]⟩) ((Y0 names k 0 ks).getD 1 ⟨#[]⟩)
def Y0 (names:List ByteArray) (k i:Int):List Tree→List ByteArray
 | []=>[]
 | t::r=>Yp (V0 k i t.kind) (ZL names t)::Y0 names k (i+1) r
end
def ZD (names:List ByteArray) (t:Tree) (j:Nat):ByteArray:=Yp (V0 t.kind j (t.yD j).kind) (ZL names (t.yD j))
theorem Qt (names:List ByteArray) (k:Int):∀(ks:List Tree) (i:Int) (j:Nat),j<ks.length→(Y0 names k i ks).getD j ⟨#[]⟩=Yp (V0 k (i+j) (ks.getD j default).kind) (ZL names (ks.getD j default))
 | [],_,_,h=>by simp at h
 | t::r,i,0,_=>by simp[Y0]
 | t::r,i,j+1,h=>by
  have:=Qt names k r (i+1) j (by simpa using h)
  simp only[Y0,List.getD_cons_succ]
  rw[this,show i+1+(j:Int)=i+((j+1:Nat):Int) by omega]
theorem VG (names:List ByteArray) (k:Int):∀(ks:List Tree) (i:Int) (j:Nat),ks.length≤j→(Y0 names k i ks).getD j ⟨#[]⟩=⟨#[]⟩
 | [],_,_,_=>by simp[Y0]
 | t::r,i,0,h=>by simp at h
 | t::r,i,j+1,h=>by
  simp only[Y0,List.getD_cons_succ]
  exact VG names k r (i+1) j (by simpa using h)
theorem zcO (names:List ByteArray) (t:Tree):ZL names t=JG names t.kind t.num ((Y0 names t.kind 0 t.kids).getD 0 ⟨#[]⟩) ((Y0 names t.kind 0 t.kids).getD 1 ⟨#[]⟩):=by
 cases t;simp only[ZL];rfl
theorem zzm (names:List ByteArray) {t:Tree} (h:t.width=0):ZL names t=JG names t.kind t.num ⟨#[]⟩ ⟨#[]⟩:=by
 rw[zcO,VG _ _ _ _ _ (by unfold Tree.width at h;omega),VG _ _ _ _ _ (by unfold Tree.width at h;omega)]
theorem zxf (names:List ByteArray) {t:Tree} (h:t.width=1):ZL names t=JG names t.kind t.num (ZD names t 0) ⟨#[]⟩:=by
 rw[zcO,Qt _ _ _ _ _ (by unfold Tree.width at h;omega),VG _ _ _ _ _ (by unfold Tree.width at h;omega)]
 simp[ZD,Tree.yD]
theorem zwX (names:List ByteArray) {t:Tree} (h:t.width=2):ZL names t=JG names t.kind t.num (ZD names t 0) (ZD names t 1):=by
 rw[zcO,Qt _ _ _ _ _ (by unfold Tree.width at h;omega),Qt _ _ _ _ _ (by unfold Tree.width at h;omega)]
 simp[ZD,Tree.yD]
theorem zoi (names:List ByteArray) (t:Tree):(ZL names t).size≤12*t.size:=by
 induction t using Tree.ind with
 | h t ih =>
  rw[zcO]
  have hj:=zlO names t.kind t.num ((Y0 names t.kind 0 t.kids).getD 0 ⟨#[]⟩) ((Y0 names t.kind 0 t.kids).getD 1 ⟨#[]⟩)
  refine Nat.le_trans hj ?_
  have e0:(⟨#[]⟩:ByteArray).size=0:=rfl
  obtain⟨k,n,ks⟩:=t
  match ks with
  | []=>simp only[Xr,Y0,List.getD_nil,e0,Tree.size];omega
  | [a] =>
   have h0:=ih 0 (by simp[Tree.width,Tree.kids])
   have w0:=Zl (V0 k 0 a.kind) (ZL names a)
   simp only[Xr,Qo,Y0,List.getD_cons_zero,List.getD_cons_succ,List.getD_nil,e0,Tree.size,Tree.Zu,Tree.yD] at h0 ⊢
   omega
  | a::b::r =>
   have h0:=ih 0 (by simp[Tree.width,Tree.kids])
   have h1:=ih 1 (by simp[Tree.width,Tree.kids])
   have w0:=Zl (V0 k 0 a.kind) (ZL names a)
   have w1:=Zl (V0 k (0+1) b.kind) (ZL names b)
   simp only[Xr,Qo,Y0,List.getD_cons_zero,List.getD_cons_succ,Tree.size,Tree.Zu,Tree.yD] at h0 h1 ⊢
   omega
def w8 (names:List ByteArray) (k n:Int):Bool:=k != 3||!(ZR (nm names n) ⟨#[]⟩)
mutual
def qs (names:List ByteArray):Tree→Bool
 | .node k n ks=>w8 names k n&&zqD names ks
def zqD (names:List ByteArray):List Tree→Bool
 | []=>true
 | t::r=>qs names t&&zqD names r
end
theorem zj8 (names:List ByteArray):∀ks,zqD names ks=ks.all (qs names)
 | []=>by simp only[zqD,List.all_nil]
 | t::r=>by simp only[zqD,List.all_cons,zj8 names r]
theorem zbi (names:List ByteArray) (t:Tree):qs names t=(w8 names t.kind t.num&&t.kids.all (qs names)):=by
 cases t;simp only[qs,zj8];rfl
theorem zxM {t:Tree} (h:t.width=1):t.kids=[t.yD 0]:=by
 unfold Tree.width at h
 unfold Tree.yD
 match e:t.kids,h with
 | [a],_=>rfl
theorem zzd {t:Tree} (h:t.width=2):t.kids=[t.yD 0,t.yD 1]:=by
 unfold Tree.width at h
 unfold Tree.yD
 match e:t.kids,h with
 | [a,b],_=>rfl
theorem zww (names:List ByteArray) {t:Tree} (h:t.width=0):qs names t=w8 names t.kind t.num:=by
 rw[zbi,List.length_eq_zero_iff.1 h];simp
theorem zwv (names:List ByteArray) {t:Tree} (h:t.width=1) (hk:t.kind≠3):qs names t=qs names (t.yD 0):=by
 rw[zbi,zxM h];simp[hk,w8]
theorem zwx (names:List ByteArray) {t:Tree} (h:t.width=2) (hk:t.kind≠3):qs names t=(qs names (t.yD 0)&&qs names (t.yD 1)):=by
 rw[zbi,zzd h];simp[hk,w8]
end
section
open Go.RowKit
def xZ (l:List ByteArray):D:=.xj 1 (l.map λs=>[.sc (.string s)])
theorem yL (l:List ByteArray):Pure (xZ l):=by
 simp only[xZ,Pure];exact zC _ (λs=>by simp[ze,Pure]) l
def qN (l:List ByteArray):Prop:=l.length≤9223372036854775807∧∀s∈l,s.size≤9223372036854775807
theorem Wv {l:List ByteArray} {k:Nat} (h:k<l.length):(l.map λs=>[D.sc (.string s)])[k]? = some [.sc (.string (l.getD k ⟨#[]⟩))]:=by
 rw[List.getElem?_map,List.getElem?_eq_getElem h,List.getD_eq_getElem?_getD,List.getElem?_eq_getElem h];rfl
theorem qN.at {l:List ByteArray} (h:qN l) {k:Nat} (hk:k<l.length):(l.getD k ⟨#[]⟩).size≤9223372036854775807:=by
 rw[List.getD_eq_getElem?_getD,List.getElem?_eq_getElem hk]
 exact h.2 _ (List.getElem_mem _)
theorem zuk {s:ByteArray} {k:Nat} (h:k<s.size):∃b,s[k]? = some b:=⟨s[k],by simp[getElem?_pos,h]⟩
def zBJ:PC:=.seq (OP [Bi 26 .lss 25 24]) (.seq (.cond 26 .skip (.exit 0)) (.seq (.block 1 (.seq (OP [qm 27 25,qm 3 27]) (.seq (OP [qm 28 0,qm 29 3,q 30 (.zqr 28 29),q 31 (.bin .lss 30 (.const (.int .u8 97))),qm 32 31,GF 33 32 (.move 0),GF 34 32 (.move 3),GF 35 32 (.zqr 33 34),GF 36 32 (.bin .gtr 35 (.const (.int .u8 122))),Pk 37 32 cT 36]) (.cond 37 (.seq (OP [Mv 2 cF]) .ret) .skip)))) (OP [Bi 38 .add 25 (cI 1),qm 25 38])))
def c25:PC:=.seq (OP [Mv 2 cF]) (.seq (.seq (OP [qm 4 0,Bi 5 .eql 4 (cS #[]),qm 6 5,GF 7 6 (.move 0),GF 8 6 (.zhM 7),GF 9 6 (.bin .gtr 8 (cI 8)),Pk 10 6 cT 9,qm 11 10,GF 12 11 (.move 0),GF 13 11 (.bin .eql 12 (cS #[116,114,117,101])),Pk 14 11 cT 13,qm 15 14,GF 16 15 (.move 0),GF 17 15 (.bin .eql 16 (cS #[102,97,108,115,101])),Pk 18 15 cT 17,qm 19 18,GF 20 19 (.move 0),GF 21 19 (.bin .eql 20 (cS #[115,105,108,101,110,116])),Pk 22 19 cT 21]) (.cond 22 (.seq (OP [Mv 2 cF]) .ret) .skip)) (.seq (.seq (OP [qm 23 0,q 24 (.zhM 23),Mv 25 (cI 0)]) (.block 0 (.loop zBJ))) (.seq (OP [Mv 2 cT]) .ret)))
theorem zzF:zy Tryz.prog 25 39 [.tmp 2] c25:=fK Tryz.func25
theorem u4 (s:ByteArray) (hs:s.size≤9223372036854775807):zq Tryz.prog 25 [.sc (.string s)] (.sc (.bool (xb s))):=by
 refine za zzF zs (by simp[ze,Pure]) ?_ (by simp[Pure])
 refine sR ?_
 refine sS (λh1=>?_) λh1=>?_
 ·exact yA (congrArg (λb=>D.sc (.bool b)) (by have:ZR s ⟨#[]⟩=true:=h1;simp[xb,this]))
 refine sS (λh2=>?_) λh2=>?_
 ·exact yA (congrArg (λb=>D.sc (.bool b)) (by have:¬s.size≤8:=sO
                                              simp[xb,this]))
 refine sS (λh3=>?_) λh3=>?_
 ·exact yA (congrArg (λb=>D.sc (.bool b)) (by have:ZR s zdk=true:=h3;simp[xb,this]))
 refine sS (λh4=>?_) λh4=>?_
 ·exact yA (congrArg (λb=>D.sc (.bool b)) (by have:ZR s Jj=true:=h4;simp[xb,this]))
 refine sS (λh5=>?_) λh5=>?_
 ·exact yA (congrArg (λb=>D.sc (.bool b)) (by have:ZR s Xb=true:=h5;simp[xb,this]))
 have hn:xb s=znZ s:=by
  have g1:ZR s ⟨#[]⟩=false:=h1
  have g2:s.size≤8:=sO
  have g3:ZR s zdk=false:=h3
  have g4:ZR s Jj=false:=h4
  have g5:ZR s Xb=false:=h5
  simp[xb,g1,g2,g3,g4,g5]
 rw[hn]
 clear hn h1 h2 h3 h4 h5
 refine zdS (λk:Nat=>[(0,.sc (.string s)),(24,.sc (.int .i64 s.size)),(25,.sc (.int .i64 k))]) (λ_=>[])
  (λk=>k≤s.size∧∀j,j<k→zdf s j=true) (λk=>s.size-k) 0 ⟨zo,λj h=>zo⟩ (zbl ⟨rfl,rfl,rfl,trivial⟩) ?_
 rintro k ⟨hk,hall⟩
 refine sR ?_
 refine sS (λh1=>?_) λh1=>?_
 ·have hk':k<s.size:=sO
  obtain⟨b,hb⟩:=zuk hk'
  refine⟨zo,b,hb,?_⟩
  refine sW ?_
  refine sS (λh2=>?_) λh2=>?_
  ·exact yA (congrArg (λb=>D.sc (.bool b)) (zeR hk' (by simp only[zdf,hb];simp only[decide_eq_true_eq] at h2;simp;omega)).symm)
  refine⟨zo,b,hb,?_⟩
  refine sW ?_
  refine sS (λh3=>?_) λh3=>?_
  ·exact yA (congrArg (λb=>D.sc (.bool b)) (zeR hk' (by simp only[zdf,hb];simp only[decide_eq_true_eq] at h3;simp;omega)).symm)
  refine .inl ⟨by unfold InR;rw[IntKind.wrap_i64];omega,?_⟩
  refine sW ?_
  refine⟨k+1,⟨zo,λj hj=>?_⟩,zd,zbl ⟨rfl,rfl,rfl,trivial⟩⟩
  by_cases e:j=k
  ·subst e;simp only[zdf,hb];simp only[decide_eq_false_iff_not] at h2 h3;simp;omega
  ·exact hall j zo
 ·have hk':¬k<s.size:=sO
  exact yA (congrArg (λb=>D.sc (.bool b)) (znS λi hi=>hall i zo).symm)
def zw6:PC:=.seq (OP [Bi 9 .lss 8 7]) (.seq (.cond 9 .skip (.exit 0)) (.seq (.block 1 (.seq (OP [qm 10 8,qm 5 10]) (.seq (OP [qm 11 1,qm 12 0,qm 13 5,Ia 14 1 12 13,Lo 15 14,Bi 16 .eql 11 15]) (.cond 16 (.seq (OP [qm 17 5,qm 4 17]) .ret) .skip)))) (OP [Bi 18 .add 8 (cI 1),qm 8 18])))
def c110:PC:=.seq (OP [Mv 4 (cI 0)]) (.seq (.seq (OP [qm 6 0,Ln 7 6,Mv 8 (cI 0)]) (.block 0 (.loop zw6))) (.seq (OP [Mv 4 (cI (-1))]) .ret))
theorem zt2:zy Tryz.prog 110 19 [.tmp 4] c110:=fK Tryz.func110
theorem zba (l:List ByteArray) (s:ByteArray) (hl:l.length≤9223372036854775807):zq Tryz.prog 110 [xZ l,.sc (.string s)] (.sc (.int .i64 (match l.findIdx? (ZR s) with|some i=>(i:Int)|none=>-1))):=by
 refine za zt2 zs (by simp[ze,Pure,yL]) ?_ (by simp[Pure])
 unfold xZ
 refine sR ?_
 rw[List.length_map]
 refine zdS (λk:Nat=>[(0,xZ l),(1,.sc (.string s)),(7,.sc (.int .i64 l.length)),(8,.sc (.int .i64 k))]) (λ_=>[]) (λk=>k≤l.length∧∀j (h:j<k) (h2:j<l.length),ZR s l[j]=false) (λk=>l.length-k) 0 ⟨zo,λ_ h=>zo⟩
  (zbl ⟨rfl,rfl,rfl,rfl,trivial⟩) ?_
 rintro k ⟨hk,hno⟩
 unfold xZ
 refine sR ?_
 refine sS (λh=>?_) λh=>?_
 ·have hk':k<l.length:=sO
  refine sL (Wv hk') ?_
  have hg:l.getD k ⟨#[]⟩=l[k]:=by rw[List.getD_eq_getElem?_getD,List.getElem?_eq_getElem hk'];rfl
  refine sS (λh2=>?_) λh2=>?_
  ·have:l.findIdx? (ZR s)=some k:=by
    rw[List.findIdx?_eq_some_iff_getElem]
    exact⟨zo,by rw[←hg];exact h2,λj hj=>by simp[hno j hj zo]⟩
   rw[this]
   exact Deep.refl _
  ·refine .inl ⟨by unfold InR;rw[IntKind.wrap_i64];omega,?_⟩
   refine sW ?_
   refine⟨k+1,⟨zo,λj hj hl=>?_⟩,zd,zbl ⟨rfl,rfl,rfl,rfl,trivial⟩⟩
   by_cases e:j=k
   ·subst e;rw[←hg];exact h2
   ·exact hno j zo hl
 ·have:l.findIdx? (ZR s)=none:=by
   have hk':¬k<l.length:=sO
   rw[List.findIdx?_eq_none_iff]
   intro x hx
   obtain⟨j,hj,rfl⟩:=List.mem_iff_getElem.1 hx
   simp[hno j zo hj]
  rw[this]
  exact Deep.refl _
theorem zhm {l:List ByteArray} {n:Nat} (hn:n<l.length):((match l.findIdx? (ZR (l.getD n ⟨#[]⟩)) with|some i=>(i:Int)|none=>-1):Int)≠(n:Int)↔zaw l n (l.getD n ⟨#[]⟩)=true:=by
 have hg:∀j (h:j<l.length),l.getD j ⟨#[]⟩=l[j]:=λj h=>by rw[List.getD_eq_getElem?_getD,List.getElem?_eq_getElem h];rfl
 cases h:l.findIdx? (ZR (l.getD n ⟨#[]⟩)) with
 | none =>
  rw[List.findIdx?_eq_none_iff] at h
  have:=h l[n] (List.getElem_mem _)
  rw[hg n hn] at this
  simp at this
 | some i =>
  rw[List.findIdx?_eq_some_iff_getElem] at h
  obtain⟨h1,h2,h3⟩:=h
  constructor
  ·intro hne
   have hne:(i:Int)≠n:=hne
   have:i<n:=by
    rcases Nat.lt_trichotomy i n with q|q|q
    ·exact q
    ·omega
    ·have:=h3 n q
     rw[hg n hn] at this
     simp at this
   exact zor this (by rw[zj4,hg i h1];exact h2)
  ·intro hd
   show(i:Int)≠n
   unfold zaw at hd
   rw[List.any_eq_true] at hd
   obtain⟨j,hj,hd⟩:=hd
   rw[List.mem_range] at hj
   rintro e
   have:=h3 j zo
   rw[←hg j zo,zj4,hd] at this
   simp at this
def c176:PC:=.seq (OP [Mv 4 (cS #[])]) (.seq (.seq (OP [qm 5 0,Bi 6 .eql 5 (cI 63)]) (.cond 6 (.seq (OP [Mv 4 (cS #[115,105,108,101,110,116])]) .ret) .skip)) (.seq (.seq (OP [qm 7 0,qm 8 1,Ln 9 8,Bi 10 .geq 7 9,qm 11 10,GF 12 11 (.move 1),GF 13 11 (.move 0),GF 14 11 (.zM 1 12 13),GF 15 11 (.zg 14),GF 16 11 (.call 25 [15]),GF 17 11 (.un .not 16),Pk 18 11 cT 17,qm 19 18,GF 20 19 (.move 1),GF 21 19 (.move 1),GF 22 19 (.move 0),GF 23 19 (.zM 1 21 22),GF 24 19 (.zg 23),GF 25 19 (.call 110 [20,24]),GF 26 19 (.move 0),GF 27 19 (.bin .neq 25 26),Pk 28 19 cT 27]) (.cond 28 (.seq (OP [Mv 4 (cS #[])]) .ret) .skip)) (.seq (OP [qm 29 1,qm 30 0,Ia 31 1 29 30,Lo 32 31,qm 4 32]) .ret)))
theorem zvS:zy Tryz.prog 176 33 [.tmp 4] c176:=fK Tryz.func176
theorem zsy (names:List ByteArray) (hs:qN names) (n:Int) (hn:0≤n):zq Tryz.prog 176 [.sc (.int .i64 n),xZ names] (.sc (.string (nm names n))):=by
 refine za zvS zs (by simp[ze,Pure,yL]) ?_ (by simp[Pure])
 unfold xZ
 refine sR ?_
 have eq:∀{s:ByteArray},s=nm names n→Deep [] (D.sc (.string s)) (.sc (.string (nm names n))):=λh=>h▸.refl _
 refine sS (λh1=>?_) λh1=>?_
 ·exact eq (by simp only[beq_iff_eq] at h1;simp[nm,h1,Xb])
 have h1:n≠63:=sO
 rw[List.length_map]
 refine sS (λh2=>?_) λh2=>?_
 ·exact eq (by have:(names.length:Int)≤n:=sO
               simp[nm,h1,this])
 have h2:¬(names.length:Int)≤n:=sO
 have hk:n.toNat<names.length:=zo
 refine⟨hn,_,Wv hk,?_⟩
 refine sW ?_
 refine sC (u4 _ (hs.at hk)) ?_
 refine sS (λh3=>?_) λh3=>?_
 ·exact eq (by have:xb (names.getD n.toNat ⟨#[]⟩)=false:=by simpa using h3
               unfold nm;rw[if_neg h1,if_neg h2,if_pos this])
 have h3:¬xb (names.getD n.toNat ⟨#[]⟩)=false:=by simpa using h3
 refine⟨hn,_,Wv hk,?_⟩
 refine sW ?_
 refine sC (zba names _ hs.1) ?_
 have hd:=zhm hk
 rw[show(n.toNat:Int)=n by omega] at hd
 refine sS (λh4=>?_) λh4=>?_
 ·exact eq (by have:zaw names n.toNat (names.getD n.toNat ⟨#[]⟩)=true:=hd.1 (by simpa using h4)
               unfold nm;rw[if_neg h1,if_neg h2,if_neg h3,if_pos this])
 ·refine⟨hn,_,Wv hk,?_⟩
  refine sW ?_
  exact eq (by have:¬zaw names n.toNat (names.getD n.toNat ⟨#[]⟩)=true:=λh=>hd.2 h (by simpa using h4)
               unfold nm;rw[if_neg h1,if_neg h2,if_neg h3,if_neg this])
end
section
section
structure zb where
 nodes:List (ByteArray × Int)
 zv:List (Int × Int)
namespace zb
def name (P:zb) (i:Nat):ByteArray:=(P.nodes.getD i (⟨#[]⟩,0)).1
def kind (P:zb) (i:Nat):Int:=(P.nodes.getD i (⟨#[]⟩,0)).2
def src (P:zb) (i:Nat):Int:=(P.zv.getD i (0,0)).1
def dst (P:zb) (i:Nat):Int:=(P.zv.getD i (0,0)).2
def QP (P:zb) (i:Nat):Int :=
 if xb (P.name i)=false∨P.kind i<1∨7<P.kind i then 1
 else if (List.range i).any (λk=>ZR (P.name k) (P.name i))=true then 4 else 0
def UG (f:Nat→Int):Nat→Int
 | 0=>0
 | n+1=>if UG f n≠0 then UG f n else f n
theorem Yr {f:Nat→Int}:∀{n:Nat},UG f n=0↔∀i,i<n→f i=0
 | 0=>⟨λ_ i h=>zo,λ_=>rfl⟩
 | n+1=>by
  simp only[UG]
  constructor
  ·intro h
   split at h
   ·exact absurd h (by assumption)
   ·rename_i q
    have q:=Classical.not_not.1 q
    intro i hi
    by_cases e:i=n
    ·subst e;exact h
    ·exact Yr.1 q i zo
  ·intro h
   have:UG f n=0:=Yr.2 λi hi=>h i zo
   rw[if_neg (by simp[this])]
   exact h n zo
theorem zeD {f:Nat→Int} {k:Nat}:∀{n:Nat},k<n→(∀i,i<k→f i=0)→f k≠0→UG f n=f k
 | 0,h,_,_=>zo
 | n+1,h,h1,h2=>by
  simp only[UG]
  by_cases e:k=n
  ·subst e
   rw[if_neg (by simp[Yr.2 h1])]
  ·rw[zeD (n:=n) zo h1 h2,if_pos h2]
def XQ (P:zb):Int:=UG P.QP P.nodes.length
def pick (p:Nat→Bool):Nat→List Int
 | 0=>[]
 | n+1=>if p n then pick p n++[(n:Int)] else pick p n
theorem Vb {p:Nat→Bool} {x:Int}:∀{n:Nat},x∈pick p n↔∃i,i<n∧p i=true∧x=(i:Int)
 | 0=>by simp[pick]
 | n+1=>by
  simp only[pick]
  split
  ·rename_i h
   rw[List.mem_append,Vb,List.mem_singleton]
   constructor
   ·rintro(⟨i,h1,h2,h3⟩|h1)
    ·exact⟨i,zo,h2,h3⟩
    ·exact⟨n,zo,h,h1⟩
   ·rintro⟨i,h1,h2,h3⟩
    by_cases e:i=n
    ·subst e;exact .inr h3
    ·exact .inl ⟨i,zo,h2,h3⟩
  ·rename_i h
   rw[Vb]
   constructor
   ·rintro⟨i,h1,h2,h3⟩;exact⟨i,zo,h2,h3⟩
   ·rintro⟨i,h1,h2,h3⟩
    refine⟨i,?_,h2,h3⟩
    by_cases e:i=n
    ·subst e;exact absurd h2 h
    ·omega
theorem zeM (p:Nat→Bool):∀n,(pick p n).length≤n
 | 0=>by simp[pick]
 | n+1=>by simp only[pick];have:=zeM p n;split<;>simp<;>omega
def ub (P:zb) (v:Int):List Int:=pick (λi=>P.dst i==v) P.zv.length
def uV (P:zb) (v:Int):List Int:=pick (λi=>P.src i==v) P.zv.length
theorem JO (P:zb) (v:Int):(P.ub v).length≤P.zv.length:=zeM _ _
theorem Ue (P:zb) (v:Int):(P.uV v).length≤P.zv.length:=zeM _ _
def ZI (P:zb) (i:Nat):Bool:=decide (0≤P.src i)&&decide (P.src i<P.nodes.length)&&decide (0≤P.dst i)&&decide (P.dst i<P.nodes.length)
def u5 (P:zb):Nat→Int
 | 0=>0
 | n+1=>if P.kind n=1 then P.u5 n+1 else P.u5 n
def YP (P:zb):Nat→Int
 | 0=>-1
 | n+1=>if P.kind n=1 then (n:Int) else P.YP n
theorem zf0 (P:zb):∀n,0≤P.u5 n∧P.u5 n≤n
 | 0=>by simp[u5]
 | n+1=>by simp only[u5];have:=zf0 P n;split<;>omega
theorem zeI (P:zb):∀n,0<P.u5 n→0≤P.YP n∧P.YP n<n
 | 0,h=>by simp[u5] at h
 | n+1,h=>by
  simp only[u5,YP] at h ⊢
  split
  ·omega
  ·rename_i e
   rw[if_neg e] at h
   have:=zeI P n h
   omega
def zcK (k i o:Int):Bool :=
 if k=1 then i==0&&o==1
 else if k=2∨k=3 then decide (i>0)&&o==0
 else if k=4 then decide (i>0)&&o==1
 else if k=7 then decide (o≤4)&&(decide (i>0)&&decide (o>0))
 else if k=5∨k=6 then decide (i>0)&&decide (o>0)
 else false
def Xz (P:zb) (i:Nat):Bool:=zcK (P.kind i) (P.ub i).length (P.uV i).length
def graph (P:zb):Nat→List (List Int)
 | 0=>List.replicate P.nodes.length []
 | k+1=>(P.graph k).set (P.src k).toNat ((P.graph k).getD (P.src k).toNat []++[P.dst k])
theorem Z4 (P:zb):∀k,(P.graph k).length=P.nodes.length
 | 0=>by simp[graph]
 | k+1=>by simp only[graph,List.length_set];exact Z4 P k
theorem zf8 {α:Type} {L:List α} {i j:Nat} {d l:α} (h:i<L.length):(L.set i l).getD j d=if j=i then l else L.getD j d:=by
 rw[List.getD_eq_getElem?_getD,List.getElem?_set]
 by_cases e:i=j
 ·subst e;simp[h]
 ·rw[if_neg e,if_neg (λq=>e q.symm),List.getD_eq_getElem?_getD]
theorem qP {P:zb} {i:Nat}:P.ZI i=true↔0≤P.src i∧P.src i<P.nodes.length∧0≤P.dst i∧P.dst i<P.nodes.length:=by
 unfold ZI
 simp only[Bool.and_eq_true,decide_eq_true_eq]
 omega
theorem zgJ {P:zb} {u:Nat} {x:Int}:∀{k:Nat},(∀i,i<k→P.ZI i=true)→(x∈(P.graph k).getD u []↔∃i,i<k∧P.src i=u∧P.dst i=x)
 | 0,_=>by
  simp only[graph]
  rw[List.getD_eq_getElem?_getD,List.getElem?_replicate]
  constructor
  ·intro h;split at h<;>simp at h
  ·rintro⟨i,h,_⟩;omega
 | k+1,hf=>by
  have ih:=zgJ (P:=P) (u:=u) (x:=x) (k:=k) λi hi=>hf i zo
  have hk:=qP.1 (hf k zo)
  simp only[graph]
  rw[zf8 (by rw[Z4];omega)]
  split
  ·rename_i e
   subst e
   rw[List.mem_append,ih,List.mem_singleton]
   constructor
   ·rintro(⟨i,h1,h2,h3⟩|h)
    ·exact⟨i,zo,h2,h3⟩
    ·exact⟨k,zo,zo,h.symm⟩
   ·rintro⟨i,h1,h2,h3⟩
    by_cases e:i=k
    ·subst e;exact .inr h3.symm
    ·exact .inl ⟨i,zo,h2,h3⟩
  ·rename_i e
   rw[ih]
   constructor
   ·rintro⟨i,h1,h2,h3⟩;exact⟨i,zo,h2,h3⟩
   ·rintro⟨i,h1,h2,h3⟩
    refine⟨i,?_,h2,h3⟩
    by_cases q:i=k
    ·subst q;omega
    ·omega
theorem W7 (P:zb):∀(k u:Nat),(P.graph k).getD u []=(P.graph k).getD u []∧((P.graph k).getD u []).length≤k
 | 0,u=>⟨rfl,by
  simp only[graph]
  rw[List.getD_eq_getElem?_getD,List.getElem?_replicate]
  split<;>simp⟩
 | k+1,u=>⟨rfl,by
  have h1:=(W7 P k u).2
  have h2:=(W7 P k (P.src k).toNat).2
  simp only[graph]
  by_cases q:(P.src k).toNat<(P.graph k).length
  ·rw[zf8 q]
   split
   ·rw[List.length_append,List.length_singleton];omega
   ·omega
  ·rw[List.set_eq_of_length_le zo];omega⟩
def zvG (P:zb) (v:Nat):Prop:=Wx (P.graph P.zv.length) [P.YP P.nodes.length] v
open Classical in
noncomputable def yJ (P:zb):Int :=
 if 20<P.nodes.length∨30<P.zv.length then 2
 else if P.XQ≠0 then P.XQ
 else if ¬∀i,i<P.zv.length→P.ZI i=true then 1
 else if P.u5 P.nodes.length≠1 then 1
 else if ¬∀i,i<P.nodes.length→P.Xz i=true then 1
 else if ¬∀v,v<P.nodes.length→P.zvG v then 6
 else 0
end zb
end
section
open Go.RowKit
def ug (x:ByteArray × Int):List D:=[.sc (.string x.1),.sc (.int .i64 x.2)]
def YT (x:Int × Int):List D:=[.sc (.int .i64 x.1),.sc (.int .i64 x.2)]
def zb.cells (P:zb):List D:=[.xj 2 (P.nodes.map ug),.xj 2 (P.zv.map YT)]
def yU (P:zb):D:=.agg P.cells
theorem wW (x:ByteArray × Int):ze (ug x):=by simp[ug,ze,Pure]
theorem Xm (x:Int × Int):ze (YT x):=by simp[YT,ze,Pure]
theorem J7 (P:zb):ze P.cells:=by simp[zb.cells,ze,Pure,wW,Xm]
theorem yj (P:zb):Pure (yU P):=by simp[yU,Pure,J7]
@[simp] theorem zwE {m:Nat} (P:zb):zl m P.cells↔True:=⟨λ_=>trivial,λ_=>zr _ (J7 P)⟩
@[simp] theorem zwG {m:Nat} (x:ByteArray × Int):zl m (ug x)↔True:=⟨λ_=>trivial,λ_=>zr _ (wW x)⟩
@[simp] theorem zwn {m:Nat} (x:Int × Int):zl m (YT x)↔True:=⟨λ_=>trivial,λ_=>zr _ (Xm x)⟩
theorem Wr (P:zb) {z k:Nat} (hz:z=k) (h:k<P.nodes.length):(P.nodes.map ug)[z]? = some [.sc (.string (P.name k)),.sc (.int .i64 (P.kind k))]:=by
 subst hz
 rw[List.getElem?_map,List.getElem?_eq_getElem h]
 unfold zb.name zb.kind
 rw[List.getD_eq_getElem?_getD,List.getElem?_eq_getElem h]
 rfl
theorem VC (P:zb) {z k:Nat} (hz:z=k) (h:k<P.zv.length):(P.zv.map YT)[z]? = some [.sc (.int .i64 (P.src k)),.sc (.int .i64 (P.dst k))]:=by
 subst hz
 rw[List.getElem?_map,List.getElem?_eq_getElem h]
 unfold zb.src zb.dst
 rw[List.getD_eq_getElem?_getD,List.getElem?_eq_getElem h]
 rfl
structure zb.Fits (P:zb):Prop where
 nodes:P.nodes.length≤9223372036854775807
 zv:P.zv.length≤9223372036854775807
 name:∀x∈P.nodes,x.1.size≤9223372036854775807
theorem zb.Fits.at {P:zb} (h:P.Fits) {i:Nat} (hi:i<P.nodes.length):(P.name i).size≤9223372036854775807:=by
 unfold zb.name
 rw[List.getD_eq_getElem?_getD,List.getElem?_eq_getElem hi]
 exact h.name _ (List.getElem_mem hi)
theorem uo {l:List Int} {c:Nat} {x:Int} (h:c=l.length):List.drop 0 (List.take c (zL l))++[[D.sc (.int .i64 x)]]=zL (l++[x]):=by
 subst h
 rw[zu (by simp[zL])]
 simp[zL]
theorem WZ {H:List zf} {id v n:Nat} {q:Bool} {l:List Int} (hn:n=l.length) (h:H[id]? = some (.vec q v 1 (zL l))):Deep H (.own id v 0 n) (zB l):=by
 subst hn
 exact .own _ _ _ _ _ _ _ _ h (by rw[zu (by simp[zL])];exact z6 _)
def zBW:PC:=.seq (OP [Bi 12 .lss 11 10]) (.seq (.cond 12 .skip (.exit 0)) (.seq (.block 1 (.seq (OP [qm 13 11,Ia 14 2 9 11,LA 15 2 14,q 7 (.alloc [(.int .i64 0),(.int .i64 0)]),qm 6 13,So 2 7 15]) (.seq (OP [Fa 16 1 7,Lo 17 16,qm 18 1,Bi 19 .eql 17 18]) (.cond 19 (OP [qm 20 5,qm 21 6,Bs 22 1 1 [21],Ap 23 1 8 20 22,qm 5 23]) .skip)))) (OP [Bi 24 .add 11 (cI 1),qm 11 24])))
def c96:PC:=.seq (OP [Bx 2 0,Mv 4 cN]) (.seq (OP [Mv 5 cN]) (.seq (.seq (OP [Fa 8 1 2,Lo 9 8,Ln 10 9,Mv 11 (cI 0)]) (.block 0 (.loop zBW))) (.seq (OP [qm 25 5,qm 4 25]) .ret)))
theorem zzc:zy Tryz.prog 96 26 [.tmp 4] c96:=fK Tryz.func96
theorem zkw (P:zb) (hP:P.Fits) (hf:P.zv.length≤1000) (v:Int):zq Tryz.prog 96 [yU P,.sc (.int .i64 v)] (zB (P.ub v)):=by
 have b:=hP.zv
 refine za zzc zs (by simp[ze,Pure,yj]) ?_ (zi _)
 refine sR ?_
 rw[List.length_map]
 refine zG (xr 5 1 zs rfl) ?_
 refine zO [1,9,10] (λ((k,c,l):Nat × Nat × List Int)=>[(5,.own 1 c 0 c),(11,.sc (.int .i64 k))]) (λ(k,c,l)=>[(1,.vec true c 1 (zL l))]) (λ(k,c,l)=>k≤P.zv.length∧c=l.length∧c≤k∧l=zb.pick (λi=>P.dst i==v) k) (λ(k,c,l)=>P.zv.length-k) (0,0,[]) ?_
 refine sW ?_
 refine⟨⟨zo,rfl,zo,rfl⟩,by exact sK,rfl,?_⟩
 rintro⟨k,c,l⟩ ⟨hk,hc,hck,hl⟩
 refine sW ?_
 refine sR ?_
 refine sS (λh=>?_) λh=>?_
 ·have hk':k<P.zv.length:=sO
  refine sL (VC P (k:=k) zo hk') ?_
  refine sS (λh2=>?_) λh2=>?_
  ·refine sJ ?_
   refine sI ?_
   refine⟨(k+1,c+1,l++[(k:Int)]),⟨zo,by simp[hc],zo,by rw[hl];simp[zb.pick,h2]⟩,zd,?_⟩
   refine zj 2 zs rfl sQ (sU ?_)
   exact zp (uo hc)
  ·refine sI ?_
   refine⟨(k+1,c,l),⟨zo,hc,zo,by rw[hl];simp[zb.pick,h2]⟩,zd,?_⟩
   exact zj 2 zs rfl sQ sQ
 ·have hk':k=P.zv.length:=by have:¬k<P.zv.length:=sO
                             omega
  subst hk'
  subst hl
  exact WZ hc rfl
def zAF:PC:=.seq (OP [Bi 12 .lss 11 10]) (.seq (.cond 12 .skip (.exit 0)) (.seq (.block 1 (.seq (OP [qm 13 11,Ia 14 2 9 11,LA 15 2 14,q 7 (.alloc [(.int .i64 0),(.int .i64 0)]),qm 6 13,So 2 7 15]) (.seq (OP [Fa 16 0 7,Lo 17 16,qm 18 1,Bi 19 .eql 17 18]) (.cond 19 (OP [qm 20 5,qm 21 6,Bs 22 1 1 [21],Ap 23 1 8 20 22,qm 5 23]) .skip)))) (OP [Bi 24 .add 11 (cI 1),qm 11 24])))
def c97:PC:=.seq (OP [Bx 2 0,Mv 4 cN]) (.seq (OP [Mv 5 cN]) (.seq (.seq (OP [Fa 8 1 2,Lo 9 8,Ln 10 9,Mv 11 (cI 0)]) (.block 0 (.loop zAF))) (.seq (OP [qm 25 5,qm 4 25]) .ret)))
theorem zyA:zy Tryz.prog 97 26 [.tmp 4] c97:=fK Tryz.func97
theorem zgm (P:zb) (hP:P.Fits) (hf:P.zv.length≤1000) (v:Int):zq Tryz.prog 97 [yU P,.sc (.int .i64 v)] (zB (P.uV v)):=by
 have b:=hP.zv
 refine za zyA zs (by simp[ze,Pure,yj]) ?_ (zi _)
 refine sR ?_
 rw[List.length_map]
 refine zG (xr 5 1 zs rfl) ?_
 refine zO [1,9,10] (λ((k,c,l):Nat × Nat × List Int)=>[(5,.own 1 c 0 c),(11,.sc (.int .i64 k))]) (λ(k,c,l)=>[(1,.vec true c 1 (zL l))]) (λ(k,c,l)=>k≤P.zv.length∧c=l.length∧c≤k∧l=zb.pick (λi=>P.src i==v) k) (λ(k,c,l)=>P.zv.length-k) (0,0,[]) ?_
 refine sW ?_
 refine⟨⟨zo,rfl,zo,rfl⟩,by exact sK,rfl,?_⟩
 rintro⟨k,c,l⟩ ⟨hk,hc,hck,hl⟩
 refine sW ?_
 refine sR ?_
 refine sS (λh=>?_) λh=>?_
 ·have hk':k<P.zv.length:=sO
  refine sL (VC P (k:=k) zo hk') ?_
  refine sS (λh2=>?_) λh2=>?_
  ·refine sJ ?_
   refine sI ?_
   refine⟨(k+1,c+1,l++[(k:Int)]),⟨zo,by simp[hc],zo,by rw[hl];simp[zb.pick,h2]⟩,zd,?_⟩
   refine zj 2 zs rfl sQ (sU ?_)
   exact zp (uo hc)
  ·refine sI ?_
   refine⟨(k+1,c,l),⟨zo,hc,zo,by rw[hl];simp[zb.pick,h2]⟩,zd,?_⟩
   exact zj 2 zs rfl sQ sQ
 ·have hk':k=P.zv.length:=by have:¬k<P.zv.length:=sO
                             omega
  subst hk'
  subst hl
  exact WZ hc rfl
def c95:PC:=.seq (OP [Mv 6 cF]) (.seq (.seq (OP [qm 7 0]) (.block 0 (.seq (.block 5 (.seq (.block 4 (.seq (.block 3 (.seq (.block 2 (.seq (.block 1 (.seq (.seq (.seq (OP [Bi 9 .eql 7 (cI 1),qm 8 9]) (.cond 8 (.exit 1) .skip)) (.seq (.seq (.seq (OP [Bi 11 .eql 7 (cI 2),qm 10 11]) (.cond 10 .skip (OP [Bi 12 .eql 7 (cI 3),qm 10 12]))) (.cond 10 (.exit 2) .skip)) (.seq (.seq (OP [Bi 14 .eql 7 (cI 4),qm 13 14]) (.cond 13 (.exit 3) .skip)) (.seq (.seq (OP [Bi 16 .eql 7 (cI 7),qm 15 16]) (.cond 15 (.exit 4) .skip)) (.seq (.seq (OP [Bi 18 .eql 7 (cI 5),qm 17 18]) (.cond 17 .skip (OP [Bi 19 .eql 7 (cI 6),qm 17 19]))) (.cond 17 (.exit 5) .skip)))))) (.exit 0))) (.seq (.seq (OP [qm 20 1,Bi 21 .eql 20 (cI 0),qm 22 21,GT 23 22 (.move 2),GT 24 22 (.bin .eql 23 (cI 1)),Pk 25 22 24 cF,qm 6 25]) .ret) (.exit 0)))) (.seq (.seq (OP [qm 26 1,Bi 27 .gtr 26 (cI 0),qm 28 27,GT 29 28 (.move 2),GT 30 28 (.bin .eql 29 (cI 0)),Pk 31 28 30 cF,qm 6 31]) .ret) (.exit 0)))) (.seq (.seq (OP [qm 32 1,Bi 33 .gtr 32 (cI 0),qm 34 33,GT 35 34 (.move 2),GT 36 34 (.bin .eql 35 (cI 1)),Pk 37 34 36 cF,qm 6 37]) .ret) (.exit 0)))) (.seq (OP [qm 38 2,Bi 39 .gtr 38 (cI 4)]) (.cond 39 (.seq (OP [Mv 6 cF]) .ret) .skip)))) (.seq (.seq (OP [qm 40 1,Bi 41 .gtr 40 (cI 0),qm 42 41,GT 43 42 (.move 2),GT 44 42 (.bin .gtr 43 (cI 0)),Pk 45 42 44 cF,qm 6 45]) .ret) (.exit 0))))) (.seq (OP [Mv 6 cF]) .ret))
theorem zx0:zy Tryz.prog 95 46 [.tmp 6] c95:=fK Tryz.func95
theorem zjg (k i o:Int):zq Tryz.prog 95 [.sc (.int .i64 k),.sc (.int .i64 i),.sc (.int .i64 o)] (.sc (.bool (zb.zcK k i o))):=by
 refine za zx0 zs (by simp[ze,Pure]) ?_ (by simp[Pure])
 refine sR ?_
 repeat' (first|refine sS (λh=>?_) λh=>?_|exact yA (by unfold zb.zcK;simp_all;try omega))
def zA1:PC:=.seq (OP [Bi 9 .lss 8 7]) (.seq (.cond 9 .skip (.exit 0)) (.seq (.block 1 (.seq (OP [qm 10 8,qm 5 10]) (.seq (OP [qm 11 1,qm 12 0,qm 13 5,Ia 14 2 12 13,LA 15 2 14,q 16 (.vu 11 [15])]) (.cond 16 (.seq (OP [qm 17 5,qm 4 17]) .ret) .skip)))) (OP [Bi 18 .add 8 (cI 1),qm 8 18])))
def c92:PC:=.seq (OP [Mv 4 (cI 0)]) (.seq (.seq (OP [qm 6 0,Ln 7 6,Mv 8 (cI 0)]) (.block 0 (.loop zA1))) (.seq (OP [Mv 4 (cI (-1))]) .ret))
theorem zwW:zy Tryz.prog 92 19 [.tmp 4] c92:=fK Tryz.func92
def c167:PC:=.seq (OP [Mv 4 cF]) (.seq (OP [qm 5 0,qm 6 1,Ca 7 92 [5,6],Bi 8 .geq 7 (cI 0),qm 4 8]) .ret)
theorem zto:zy Tryz.prog 167 9 [.tmp 4] c167:=fK Tryz.func167
theorem zbS (l:List (ByteArray × Int)) (hl:l.length≤9223372036854775807) (p:ByteArray × Int→Bool) (cl:FuncId) (cap:List D) (hp:ze cap) (hc:∀a∈l,zq Tryz.prog cl (.agg (ug a)::cap) (.sc (.bool (p a)))) :
  zq Tryz.prog 92 [.xj 2 (l.map ug),.fn (.func cl) [] cap] (.sc (.int .i64 (wA p l))):=by
 refine za zwW zs (by simp[ze,Pure,hp,wW]) ?_ (by simp[Pure])
 refine sR ?_
 rw[List.length_map]
 have fin:∀{z:Int},z=wA p l→Deep [] (.sc (.int .i64 z)) (.sc (.int .i64 (wA p l))):=λh=>h▸.refl _
 refine zO [0,1,7] (λk:Nat=>[(8,.sc (.int .i64 k))]) (λ_=>[]) (λk=>k≤l.length∧∀j (hj:j<k) (hl:j<l.length),p l[j]=false) (λk=>l.length-k) 0 ?_
 refine sW ?_
 refine⟨⟨zo,λj hj=>zo⟩,by exact sK,rfl,?_⟩
 rintro k ⟨hk,hno⟩
 refine sW ?_
 refine sR ?_
 refine sS (λh=>?_) λh=>?_
 ·have hk':k<l.length:=sO
  refine⟨zo,ug l[k],by rw[List.getElem?_map,Int.toNat_natCast,List.getElem?_eq_getElem hk'];rfl,?_⟩
  refine sW ?_
  refine sC (hc _ (List.getElem_mem hk')) ?_
  refine sS (λh2=>?_) λh2=>?_
  ·exact fin (WG hk' h2 λj hj=>hno j hj zo).symm
  ·refine sI ?_
   refine⟨k+1,⟨zo,λj hj hl=>?_⟩,zd,zD (by exact sK) rfl⟩
   by_cases e:j=k
   ·subst e;exact h2
   ·exact hno j zo hl
 ·have hk':¬k<l.length:=sO
  exact fin (Xp λj hj=>hno j zo hj).symm
theorem zdF (l:List (ByteArray × Int)) (hl:l.length≤9223372036854775807) (p:ByteArray × Int→Bool) (cl:FuncId) (cap:List D) (hp:ze cap) (hc:∀a∈l,zq Tryz.prog cl (.agg (ug a)::cap) (.sc (.bool (p a)))) :
  zq Tryz.prog 167 [.xj 2 (l.map ug),.fn (.func cl) [] cap] (.sc (.bool (l.any p))):=by
 refine za zto zs (by simp[ze,Pure,hp,wW]) ?_ (by simp[Pure])
 refine sR ?_
 refine sC (zbS l hl p cl cap hp hc) ?_
 rw[uL]
 exact .refl _
theorem zi9 (P:zb) (f:ByteArray→Bool):∀i,i≤P.nodes.length→((P.nodes.take i).any λm=>f m.1)=(List.range i).any λk=>f (P.name k)
 | 0,_=>rfl
 | i+1,h=>by
  rw[List.take_succ_eq_append_getElem zo,List.any_append,zi9 P f i zo,List.range_succ,List.any_append]
  congr 1
  simp only[List.any_cons,List.any_nil,Bool.or_false]
  unfold zb.name
  rw[List.getD_eq_getElem?_getD,List.getElem?_eq_getElem zo]
  rfl
def c168:PC:=.seq (OP [Bx 2 0,Mv 3 cF]) (.seq (OP [Fa 4 0 2,Lo 5 4,Fa 6 0 1,Lo 7 6,Bi 8 .eql 5 7,qm 3 8]) .ret)
theorem zuI:zy Tryz.prog 168 9 [.tmp 3] c168:=fK Tryz.func168
def zAP:PC:=.seq (OP [Bi 9 .lss 8 7]) (.seq (.cond 9 .skip (.exit 0)) (.seq (.block 1 (.seq (OP [qm 10 8,Ia 11 2 6 8,LA 12 2 11,q 4 (.alloc [(.string ⟨#[]⟩),(.int .i64 0)]),qm 3 10,So 2 4 12]) (.seq (.seq (OP [Fa 13 0 4,Lo 14 13,Ca 15 25 [14],Nt 16 15,qm 17 16,GF 18 17 (.zz 1 4),GF 19 17 (.zg 18),GF 20 17 (.bin .lss 19 (cI 1)),Pk 21 17 cT 20,qm 22 21,GF 23 22 (.zz 1 4),GF 24 22 (.zg 23),GF 25 22 (.bin .gtr 24 (cI 7)),Pk 26 22 cT 25]) (.cond 26 (.seq (OP [Mv 2 (cI 1)]) .ret) .skip)) (.seq (OP [Fa 27 0 1,Lo 28 27,qm 29 3,q 30 (.slc 2 28 none (some 29) none),q 31 (.qj (.func 168) [] [4]),Ca 32 167 [30,31]]) (.cond 32 (.seq (OP [Mv 2 (cI 4)]) .ret) .skip))))) (OP [Bi 33 .add 8 (cI 1),qm 8 33])))
def c94:PC:=.seq (OP [Bx 1 0,Mv 2 (cI 0)]) (.seq (.seq (OP [Fa 5 0 1,Lo 6 5,Ln 7 6,Mv 8 (cI 0)]) (.block 0 (.loop zAP))) (.seq (OP [Mv 2 (cI 0)]) .ret))
theorem zyr:zy Tryz.prog 94 34 [.tmp 2] c94:=fK Tryz.func94
theorem zim (m n:ByteArray × Int):zq Tryz.prog 168 [.agg (ug m),.y7 (ug n)] (.sc (.bool (ZR m.1 n.1))):=by
 refine za zuI zs (by simp[ze,Pure,wW]) ?_ (by simp[Pure])
 refine sR ?_
 exact .refl _
theorem zlw (P:zb) (hP:P.Fits):zq Tryz.prog 94 [yU P] (.sc (.int .i64 P.XQ)):=by
 have b:=hP.nodes
 refine za zyr zs (by simp[ze,Pure,yj]) ?_ (by simp[Pure])
 refine sR ?_
 rw[List.length_map]
 have hit:∀{H:List zf} {z:Int} (k:Nat),k<P.nodes.length→(∀j,j<k→P.QP j=0)→P.QP k=z→z≠0→Deep H (.sc (.int .i64 z)) (.sc (.int .i64 P.XQ)):=λk h1 h2 h3 h4=>by
  unfold zb.XQ
  rw[zb.zeD h1 h2 (by rw[h3];exact h4),h3]
  exact .refl _
 refine zO [1,6,7] (λk:Nat=>[(8,.sc (.int .i64 k))]) (λ_=>[]) (λk=>k≤P.nodes.length∧∀j,j<k→P.QP j=0) (λk=>P.nodes.length-k) 0 ?_
 refine sW ?_
 refine⟨⟨zo,λj hj=>zo⟩,by exact sK,rfl,?_⟩
 rintro k ⟨hk,hall⟩
 refine sW ?_
 refine sR ?_
 refine sS (λh=>?_) λh=>?_
 ·have hk':k<P.nodes.length:=sO
  refine sL (Wr P (k:=k) zo hk') ?_
  refine sC (u4 (P.name k) (hP.at hk')) ?_
  refine sS (λh1=>?_) λh1=>?_
  ·exact hit k hk' hall (by unfold zb.QP;rw[if_pos (.inl (by simpa using h1))]) zc
  have h1:xb (P.name k)=true:=by simpa using h1
  refine sS (λh2=>?_) λh2=>?_
  ·exact hit k hk' hall (by unfold zb.QP;rw[if_pos (.inr (.inl (sO)))]) zc
  refine sS (λh3=>?_) λh3=>?_
  ·exact hit k hk' hall (by unfold zb.QP;rw[if_pos (.inr (.inr (sO)))]) zc
  have c1:¬(xb (P.name k)=false∨P.kind k<1∨7<P.kind k):=by
   rintro(q|q|q)
   ·rw[h1] at q;cases q
   ·exact sO
   ·exact sO
  refine⟨zo,zo,by rw[List.length_map];omega,?_⟩
  refine sW ?_
  rw[List.drop_zero,Int.toNat_natCast,←List.map_take]
  refine sN (zdF (P.nodes.take k) (by rw[List.length_take];omega) (λm=>ZR m.1 (P.name k)) 168 [.y7 (ug (P.name k,P.kind k))] (by simp[ze,Pure,wW]) λa _=>zim a _) ?_
  rw[zi9 P (λs=>ZR s (P.name k)) k zo]
  refine sS (λh4=>?_) λh4=>?_
  ·exact hit k hk' hall (by unfold zb.QP;rw[if_neg c1,if_pos h4]) zc
  ·refine sI ?_
   refine⟨k+1,⟨zo,λj hj=>?_⟩,zd,?_⟩
   ·by_cases e:j=k
    ·subst e;unfold zb.QP;rw[if_neg c1,if_neg (by rw[h4];simp)]
    ·exact hall j zo
   ·exact zj 1 zs rfl sQ sQ
 ·have hk':k=P.nodes.length:=by have:¬k<P.nodes.length:=sO
                                omega
  subst hk'
  have e:P.XQ=0:=zb.Yr.2 hall
  rw[e]
  exact .refl _
end
section
open Go.RowKit
def zf1 (n:Int):List D:=[.sc (.int .i64 n)]
theorem zi0 {m:Nat} (n:Int):zl m (zf1 n):=by simp[zf1,zl,zt]
theorem zbF {f:Nat→Nat} {c:Nat}:∀n,(∀j,j<n→f j≤c)→vh f n≤n*c
 | 0,_=>by simp[vh]
 | n+1,h=>by
  simp only[vh]
  have h1:=zbF n λj hj=>h j zo
  have h2:=h n zo
  rw[Nat.add_mul]
  omega
theorem zuG {α:Type} {zH:Nat} {c:α→List D} {L:List (List α)} {T:List zf} {a b:zf} {K:List zf→Prop} {i:Nat} {o:zf} (l:List α) (h:i<L.length) (ho:o=.vec true l.length zH (l.map c)) (k:K (a::b::(y9 zH c (L.set i l)++T))):XN (a::b::(y9 zH c L++T)) (i+2) o K:=by
 subst ho
 rw[uk]
 refine⟨by simp;omega,?_⟩
 rw[List.set_cons_succ,List.set_cons_succ,List.set_append_left _ _ (by simpa using h),zc3]
 exact k
theorem zlq (P:zb) (h1:P.nodes.length≤20) (h2:P.zv.length≤30) (hf:∀i,i<P.zv.length→P.ZI i=true) :
  QA (P.graph P.zv.length)=0∧uU (P.graph P.zv.length)∧zcv (P.graph P.zv.length) (λ_=>false)≤600:=by
 have hl:=P.Z4 P.zv.length
 have row:∀l∈P.graph P.zv.length,∃u,l=(P.graph P.zv.length).getD u []:=λl hl=>by
  obtain⟨u,hu,rfl⟩:=List.mem_iff_getElem.1 hl
  exact⟨u,by rw[List.getD_eq_getElem?_getD,List.getElem?_eq_getElem hu];rfl⟩
 refine⟨ZX.2 ⟨zo,λl h=>?_⟩,⟨zo,λl h=>?_⟩,?_⟩
 ·obtain⟨u,rfl⟩:=row l h
  refine wj λx hx=>?_
  obtain⟨i,q1,_,q3⟩:=(zb.zgJ hf).1 hx
  have:=zb.qP.1 (hf i q1)
  rw[hl]
  omega
 ·obtain⟨u,rfl⟩:=row l h
  have:=(P.W7 P.zv.length u).2
  omega
 ·have:=zbF (f:=λv=>if false=true then 0 else ((P.graph P.zv.length).getD v []).length) (c:=30) (P.graph P.zv.length).length λj _=>by
   have:=(P.W7 P.zv.length j).2
   simp only[Bool.false_eq_true,if_false]
   omega
  unfold zcv
  refine Nat.le_trans this ?_
  rw[hl]
  omega
theorem zl1 {H:List zf} {id v n:Nat} {q:Bool} {L:List (List Int)} (h:H[id]? = some (.vec q v 1 (L.map λl=>[zB l]))) (hn:n=L.length):Deep H (.own id v 0 n) (ya L):=by
 subst hn
 exact .own _ _ _ _ _ _ _ _ h (by rw[zu zs];exact z6 _)
def zAU:PC:=.seq (OP [Bi 38 .lss 37 36]) (.seq (.cond 38 .skip (.exit 0)) (.seq (.block 1 (.seq (OP [Ia 39 2 35 37,LA 40 2 39,q 6 (.alloc [(.int .i64 0),(.int .i64 0)]),So 2 6 40]) (.seq (.seq (OP [Fa 41 0 6,Lo 42 41,Bi 43 .lss 42 (cI 0),qm 44 43,GF 45 44 (.zz 0 6),GF 46 44 (.zg 45),GF 47 44 (.move 4),GF 48 44 (.len 47),GF 49 44 (.bin .geq 46 48),Pk 50 44 cT 49,qm 51 50,GF 52 51 (.zz 1 6),GF 53 51 (.zg 52),GF 54 51 (.bin .lss 53 (cI 0)),Pk 55 51 cT 54,qm 56 55,GF 57 56 (.zz 1 6),GF 58 56 (.zg 57),GF 59 56 (.move 4),GF 60 56 (.len 59),GF 61 56 (.bin .geq 58 60),Pk 62 56 cT 61]) (.cond 62 (.seq (OP [Mv 2 (cI 1)]) .ret) .skip)) (.ops [qm 63 4,Fa 64 0 6,qd 65 (.zg 64) 2,qm 66 4,Fa 67 0 6,qd 68 (.zg 67) 16,qd 69 (.zM 1 66 68) 56,qd 70 (.zg 69) 120,Fa 71 1 6,qd 72 (.zg 71) 256,qd 73 (.xe 1 1 [72]) 768,qd 74 (.append 1 8 70 73) 2040,qd 75 (.zM 1 63 65) 4095,qk (.store 1 75 74) 8191] true)))) (OP [Bi 76 .add 37 (cI 1),qm 37 76])))
def zBg:PC:=.seq (OP [Bi 81 .lss 80 79]) (.seq (.cond 81 .skip (.exit 2)) (.seq (.block 3 (.seq (OP [qm 82 80,Ia 83 2 78 80,LA 84 2 83,q 10 (.alloc [(.string ⟨#[]⟩),(.int .i64 0)]),qm 9 82,So 2 10 84]) (.seq (OP [Fa 85 1 10,Lo 86 85,Bi 87 .eql 86 (cI 1)]) (.cond 87 (.seq (OP [qm 88 9,qm 7 88]) (OP [qm 89 8,Bi 90 .add 89 (cI 1),qm 8 90])) .skip)))) (OP [Bi 91 .add 80 (cI 1),qm 80 91])))
def zBw:PC:=.seq (OP [Bi 98 .lss 97 96]) (.seq (.cond 98 .skip (.exit 4)) (.seq (.block 5 (.seq (OP [qm 99 97,Ia 100 2 95 97,LA 101 2 100,q 12 (.alloc [(.string ⟨#[]⟩),(.int .i64 0)]),qm 11 99,So 2 12 101]) (.seq (.ops [Fa 102 1 12,qd 103 (.zg 102) 1,LA 104 2 1,qm 105 11,qd 106 (.call 96 [104,105]) 12,qd 107 (.len 106) 28,LA 108 2 1,qm 109 11,qd 110 (.call 97 [108,109]) 220,qd 111 (.len 110) 476,qd 112 (.call 95 [103,107,111]) 1023,qd 113 (.un .not 112) 2047] true) (.cond 113 (.seq (OP [Mv 2 (cI 1)]) .ret) .skip)))) (OP [Bi 114 .add 97 (cI 1),qm 97 114])))
def c40:PC:=.seq (OP [Bx 1 0,Mv 2 (cI 0)]) (.seq (.seq (OP [Fa 15 0 1,Lo 16 15,Ln 17 16,Bi 18 .gtr 17 (cI 20),qm 19 18,GF 20 19 (.zz 1 1),GF 21 19 (.zg 20),GF 22 19 (.len 21),GF 23 19 (.bin .gtr 22 (cI 30)),Pk 24 19 cT 23]) (.cond 24 (.seq (OP [Mv 2 (cI 2)]) .ret) .skip)) (.seq (.seq (OP [LA 25 2 1,Ca 26 94 [25],qm 3 26]) (.seq (OP [qm 27 3,Bi 28 .neq 27 (cI 0)]) (.cond 28 (.seq (OP [qm 29 3,qm 2 29]) .ret) .skip))) (.seq (OP [Fa 30 0 1,Lo 31 30,Ln 32 31,q 33 (.wE 1 24 [(.slice none 0 0)] 32 32),qm 4 33]) (.seq (.seq (OP [Fa 34 1 1,Lo 35 34,Ln 36 35,Mv 37 (cI 0)]) (.stop (.block 0 (.loop zAU)))) (.seq (OP [Mv 7 (cI (-1)),Mv 8 (cI 0)]) (.seq (.seq (OP [Fa 77 0 1,Lo 78 77,Ln 79 78,Mv 80 (cI 0)]) (.block 2 (.loop zBg))) (.seq (.seq (OP [qm 92 8,Bi 93 .neq 92 (cI 1)]) (.cond 93 (.seq (OP [Mv 2 (cI 1)]) .ret) .skip)) (.seq (.seq (OP [Fa 94 0 1,Lo 95 94,Ln 96 95,Mv 97 (cI 0)]) (.block 4 (.loop zBw))) (.seq (.seq (OP [qm 116 4,qm 117 7,Bs 118 1 1 [117],Ca 119 98 [116,118],qm 115 119,Xt 120 0 115,Xt 121 1 115,qm 13 120,qm 14 121]) (.seq (OP [qm 122 13,Ca 123 99 [122,cF]]) (.cond 123 (.seq (OP [Mv 2 (cI 6)]) .ret) .skip))) (.seq (OP [Mv 2 (cI 0)]) .ret))))))))))
theorem zyD:zy Tryz.prog 40 124 [.tmp 2] c40:=fK Tryz.func40
theorem Ja (P:zb) (hP:P.Fits):zq Tryz.prog 40 [yU P] (.sc (.int .i64 P.yJ)):=by
 have b1:=hP.nodes
 have b2:=hP.zv
 refine za zyD zs (by simp[ze,Pure,yj]) ?_ (by simp[Pure])
 refine sR ?_
 rw[List.length_map]
 have fin:∀{H:List zf} {z:Int},z=P.yJ→Deep H (.sc (.int .i64 z)) (.sc (.int .i64 P.yJ)):=λh=>h▸.refl _
 refine sS (λh1=>?_) λh1=>?_
 ·exact fin (by unfold zb.yJ;rw[if_pos (.inl (sO))])
 rw[List.length_map]
 refine sS (λh2=>?_) λh2=>?_
 ·exact fin (by unfold zb.yJ;rw[if_pos (.inr (sO))])
 have c1:¬(20<P.nodes.length∨30<P.zv.length):=sO
 refine sC (zlw P hP) ?_
 refine sS (λh3=>?_) λh3=>?_
 ·have h3:P.XQ≠0:=sO
  exact fin (by unfold zb.yJ;rw[if_neg c1,if_pos h3])
 have c2:¬P.XQ≠0:=sO
 rw[List.length_map]
 refine⟨zo,zo,zo,?_⟩
 rw[Int.toNat_natCast]
 refine sW ?_
 rw[List.length_map]
 refine zcW (λ_:Unit=>[(1,.loc 0 0),(4,.own 1 0 0 P.nodes.length)]) (λ_=>[.row true P.cells,.vec true 0 1 ((P.graph P.zv.length).map λl=>[zB l])]) (λ_=>∀i,i<P.zv.length→P.ZI i=true) ?_ ?_
 ·refine sR ?_
  refine zG (JL 1 1 P.nodes.length 0 zs rfl) ?_
  refine z8 [1,4,35,36] (λk:Nat=>[(37,.sc (.int .i64 k))]) (λk=>.row true P.cells::.vec true 0 1 (vo 2 (P.graph k))::y9 1 zf1 (P.graph k)) (λk=>k≤P.zv.length∧∀i,i<k→P.ZI i=true) (λk=>P.zv.length-k) 0 ?_
  refine sW ?_
  refine⟨⟨zo,λi hi=>zo⟩,by exact sK,?_,?_⟩
  ·show _::_::_=_::_::_
   rw[Wl 1 _ zf1]
   exact congrArg (λx=>zf.row true P.cells::zf.vec true 0 1 x::_) (Wt (α:=Int) 2 _)
  rintro k ⟨hk,hall⟩
  have hgl:=P.Z4 k
  refine sW ?_
  refine sR ?_
  refine sS (λh=>?_) λh=>?_
  ·have hk':k<P.zv.length:=sO
   refine sL (VC P (k:=k) zo hk') ?_
   refine zaj ?_
   refine sW ?_
   (repeat (first|(refine xQ 0 rfl ?_;((conv=>whnf);repeat(refine⟨rfl,?_⟩;conv=>whnf)))|(refine xP 0 rfl ?_;((conv=>whnf);repeat(refine⟨rfl,?_⟩;conv=>whnf)))|(refine xQ 1 rfl ?_;((conv=>whnf);repeat(refine⟨rfl,?_⟩;conv=>whnf)))|(refine xP 1 rfl ?_;((conv=>whnf);repeat(refine⟨rfl,?_⟩;conv=>whnf)))))
   have bad:∀{H:List zf},P.ZI k=false→Deep H (.sc (.int .i64 1)) (.sc (.int .i64 P.yJ)):=λh=>fin (by
    unfold zb.yJ
    rw[if_neg c1,if_neg c2,if_pos]
    intro q
    rw[q k hk'] at h;cases h)
   have nok:¬(0≤P.src k∧P.src k<P.nodes.length∧0≤P.dst k∧P.dst k<P.nodes.length)→P.ZI k=false:=λh=>by rw[←Bool.not_eq_true,zb.qP];exact h
   refine sS (λh4=>?_) λh4=>?_
   ·exact bad (nok (sO))
   (repeat (first|(refine xQ 0 rfl ?_;((conv=>whnf);repeat(refine⟨rfl,?_⟩;conv=>whnf)))|(refine xP 0 rfl ?_;((conv=>whnf);repeat(refine⟨rfl,?_⟩;conv=>whnf)))|(refine xQ 1 rfl ?_;((conv=>whnf);repeat(refine⟨rfl,?_⟩;conv=>whnf)))|(refine xP 1 rfl ?_;((conv=>whnf);repeat(refine⟨rfl,?_⟩;conv=>whnf)))))
   refine sS (λh5=>?_) λh5=>?_
   ·exact bad (nok (sO))
   (repeat (first|(refine xQ 0 rfl ?_;((conv=>whnf);repeat(refine⟨rfl,?_⟩;conv=>whnf)))|(refine xP 0 rfl ?_;((conv=>whnf);repeat(refine⟨rfl,?_⟩;conv=>whnf)))|(refine xQ 1 rfl ?_;((conv=>whnf);repeat(refine⟨rfl,?_⟩;conv=>whnf)))|(refine xP 1 rfl ?_;((conv=>whnf);repeat(refine⟨rfl,?_⟩;conv=>whnf)))))
   refine sS (λh6=>?_) λh6=>?_
   ·exact bad (nok (sO))
   (repeat (first|(refine xQ 0 rfl ?_;((conv=>whnf);repeat(refine⟨rfl,?_⟩;conv=>whnf)))|(refine xP 0 rfl ?_;((conv=>whnf);repeat(refine⟨rfl,?_⟩;conv=>whnf)))|(refine xQ 1 rfl ?_;((conv=>whnf);repeat(refine⟨rfl,?_⟩;conv=>whnf)))|(refine xP 1 rfl ?_;((conv=>whnf);repeat(refine⟨rfl,?_⟩;conv=>whnf)))))
   refine sS (λh7=>?_) λh7=>?_
   ·exact bad (nok (sO))
   have hok:P.ZI k=true:=zb.qP.2 (sO)
   have ho:=zb.qP.1 hok
   have hrow:=(P.W7 k (P.src k).toNat).2
   (repeat (first|(refine xQ 0 rfl ?_;((conv=>whnf);repeat(refine⟨rfl,?_⟩;conv=>whnf)))|(refine xP 0 rfl ?_;((conv=>whnf);repeat(refine⟨rfl,?_⟩;conv=>whnf)))|(refine xQ 1 rfl ?_;((conv=>whnf);repeat(refine⟨rfl,?_⟩;conv=>whnf)))|(refine xP 1 rfl ?_;((conv=>whnf);repeat(refine⟨rfl,?_⟩;conv=>whnf)))))
   refine sB ?_
   refine⟨_,wh (i:=(P.src k).toNat) zo zo,?_⟩
   refine sW ?_
   (repeat (first|(refine xQ 0 rfl ?_;((conv=>whnf);repeat(refine⟨rfl,?_⟩;conv=>whnf)))|(refine xP 0 rfl ?_;((conv=>whnf);repeat(refine⟨rfl,?_⟩;conv=>whnf)))|(refine xQ 1 rfl ?_;((conv=>whnf);repeat(refine⟨rfl,?_⟩;conv=>whnf)))|(refine xP 1 rfl ?_;((conv=>whnf);repeat(refine⟨rfl,?_⟩;conv=>whnf)))))
   refine zqI ?_
   refine sW ?_
   (repeat (first|(refine xQ 0 rfl ?_;((conv=>whnf);repeat(refine⟨rfl,?_⟩;conv=>whnf)))|(refine xP 0 rfl ?_;((conv=>whnf);repeat(refine⟨rfl,?_⟩;conv=>whnf)))|(refine xQ 1 rfl ?_;((conv=>whnf);repeat(refine⟨rfl,?_⟩;conv=>whnf)))|(refine xP 1 rfl ?_;((conv=>whnf);repeat(refine⟨rfl,?_⟩;conv=>whnf)))))
   refine zaE zo ?_
   refine sW ?_
   refine⟨by unfold xd;simp only[List.length_drop,List.length_take,List.length_cons,List.length_nil];omega,?_⟩
   refine zuG (((P.graph k).getD (P.src k).toNat [])++[P.dst k]) zo ?_ ?_
   ·exact zdH
   refine sW ?_
   refine sB ?_
   refine⟨_,wh (i:=(P.src k).toNat) zo zo,?_⟩
   refine sW ?_
   have hne:(P.src k).toNat≠(P.graph k).length:=zo
   (refine zzo (by dsimp only[q,qm,qw,qd,qn,qk];simp[zgW,Ql,UE,zlV,znX,zoT,zqo,QI,zxa,hne]) ?_;((conv=>whnf);repeat(refine⟨rfl,?_⟩;conv=>whnf)))
   refine sI ?_
   refine⟨k+1,⟨zo,λi hi=>?_⟩,zd,?_⟩
   ·by_cases e:i=k
    ·subst e;exact hok
    ·exact hall i zo
   refine zj (P.nodes.length+2) zs (by simp[hgl,zb.Z4]) (by exact sQ) ⟨⟨rfl,.refl _,zs⟩,⟨rfl,rfl,rfl,zp ?_,uO (by rw[zb.Z4];omega)⟩,Vl zi0⟩
   exact X1 zo zo _ zs
  have hkn:k=P.zv.length:=by have:¬k<P.zv.length:=sO
                             omega
  subst hkn
  refine⟨(),hall,zj 2 zs rfl (by exact sQ) ⟨⟨rfl,.refl _,zs⟩,⟨rfl,rfl,rfl,VN (c:=zf1) (λi hi=>by simp[YZ]) (λi hi=>?_),by simp[zl]⟩,Jo _⟩⟩
  show(y9 1 zf1 (P.graph P.zv.length))[i]? = _
  exact Xo hi
 rintro _ hall
 refine sW ?_
 rw[List.length_map]
 have c3:¬¬∀i,i<P.zv.length→P.ZI i=true:=λq=>q hall
 refine zO [1,4,78,79] (λ((k,s,m):Nat × Int × Int)=>[(7,.sc (.int .i64 s)),(8,.sc (.int .i64 m)),(80,.sc (.int .i64 k))]) (λ_=>[]) (λ(k,s,m)=>k≤P.nodes.length∧s=P.YP k∧m=P.u5 k) (λ(k,s,m)=>P.nodes.length-k) (0,-1,0) ?_
 refine sW ?_
 refine⟨⟨zo,rfl,rfl⟩,by exact sK,rfl,?_⟩
 rintro⟨k,s,m⟩ ⟨hk,hs,hm⟩
 refine sW ?_
 refine sR ?_
 refine sS (λh=>?_) λh=>?_
 ·have hk':k<P.nodes.length:=sO
  have hle:=P.zf0 k
  refine sL (Wr P (k:=k) zo hk') ?_
  refine sS (λh4=>?_) λh4=>?_
  ·have h4:P.kind k=1:=sO
   refine sI ?_
   refine sI ?_
   refine⟨(k+1,k,m+1),⟨zo,by simp[zb.YP,h4],by simp[zb.u5,h4,hm]⟩,zd,?_⟩
   exact zj 2 zs rfl sQ sQ
  ·have h4:P.kind k≠1:=sO
   refine sI ?_
   refine⟨(k+1,s,m),⟨zo,by simp[zb.YP,h4,hs],by simp[zb.u5,h4,hm]⟩,zd,?_⟩
   exact zj 2 zs rfl sQ sQ
 have hkn:k=P.nodes.length:=by have:¬k<P.nodes.length:=sO
                               omega
 subst hs hm
 subst hkn
 clear h hk
 refine sS (λh4=>?_) λh4=>?_
 ·have h4:P.u5 P.nodes.length≠1:=sO
  exact fin (by unfold zb.yJ;rw[if_neg c1,if_neg c2,if_neg c3,if_pos h4])
 have h4:P.u5 P.nodes.length=1:=sO
 have hst:=P.zeI P.nodes.length zo
 have c4:¬P.u5 P.nodes.length≠1:=λq=>q h4
 rw[List.length_map]
 refine zO [1,4,7,95,96] (λk:Nat=>[(97,.sc (.int .i64 k))]) (λ_=>[]) (λk=>k≤P.nodes.length∧∀i,i<k→P.Xz i=true) (λk=>P.nodes.length-k) 0 ?_
 refine sW ?_
 refine⟨⟨zo,λi hi=>zo⟩,by exact sK,rfl,?_⟩
 rintro k ⟨hk,hok⟩
 refine sW ?_
 refine sR ?_
 refine sS (λh=>?_) λh=>?_
 ·have hk':k<P.nodes.length:=sO
  refine sL (Wr P (k:=k) zo hk') ?_
  refine sC (zkw P hP zo k) ?_
  refine sC (zgm P hP zo k) ?_
  rw[List.length_map,List.length_map]
  refine sC (zjg (P.kind k) (P.ub k).length (P.uV k).length) ?_
  refine sS (λh5=>?_) λh5=>?_
  ·exact fin (by
    unfold zb.yJ
    rw[if_neg c1,if_neg c2,if_neg c3,if_neg c4,if_pos]
    intro q
    have:=q k hk'
    unfold zb.Xz at this
    rw[this] at h5;cases h5)
  ·refine sI ?_
   refine⟨k+1,⟨zo,λi hi=>?_⟩,zd,?_⟩
   ·by_cases e:i=k
    ·subst e;unfold zb.Xz;simpa using h5
    ·exact hok i zo
   exact zj 2 zs rfl sQ sQ
 have hkn:k=P.nodes.length:=by have:¬k<P.nodes.length:=sO
                               omega
 subst hkn
 have c5:¬¬∀i,i<P.nodes.length→P.Xz i=true:=λq=>q hok
 obtain⟨g1,g2,g3⟩:=zlq P zo zo hall
 have hlen:=P.Z4 P.zv.length
 refine .inr (.inr (.inr (.inr (.inr (.inl ⟨rfl,_,_,.cons _ _ _ _ (zl1 rfl hlen.symm) (.cons _ _ _ _ (WZ (l:=[P.YP P.nodes.length]) rfl rfl) .nil),
  zgl (P.graph P.zv.length) g1 g2 [P.YP P.nodes.length] (wj λx hx=>by rw[List.mem_singleton] at hx;subst hx;omega) (by simp;omega),?_⟩)))))
 refine sW ?_
 refine sC (zdj _ (zcq (P.graph P.zv.length) [P.YP P.nodes.length]) zo false) ?_
 rw[hlen]
 refine sS (λh6=>?_) λh6=>?_
 ·obtain⟨v,q1,q2⟩:=XR.1 h6
  exact fin (by
   unfold zb.yJ
   rw[if_neg c1,if_neg c2,if_neg c3,if_neg c4,if_neg c5,if_pos]
   intro q
   rw[WC.2 (q v q1)] at q2;cases q2)
 ·exact fin (by
   unfold zb.yJ
   rw[if_neg c1,if_neg c2,if_neg c3,if_neg c4,if_neg c5,if_neg]
   intro q
   refine q λv hv=>?_
   unfold zb.zvG
   rw[←WC,←Bool.not_eq_false]
   intro q2
   rw[XR.2 ⟨v,hv,q2⟩] at h6;cases h6)
end
section
open Go.RowKit
end
section
open Go.RowKit
noncomputable def zb.qC (P:zb) (n:Int):Int:=if P.yJ≠0 then P.yJ else if n<0∨(P.nodes.length:Int)≤n then 1 else 0
theorem xm {P:zb} (h:P.yJ=0):P.nodes.length≤20∧P.zv.length≤30:=by
 unfold zb.yJ at h
 split at h
 ·exact absurd h zc
 ·omega
def c175:PC:=.seq (OP [Bx 3 0,Mv 6 cN,Mv 7 (cI 0)]) (.seq (.seq (OP [LA 9 2 3,Ca 10 40 [9],qm 8 10]) (.seq (OP [qm 11 8,Bi 12 .neq 11 (cI 0)]) (.cond 12 (.seq (OP [qm 13 8,Mv 6 cN,qm 7 13]) .ret) .skip))) (.seq (.seq (OP [qm 14 1,Bi 15 .lss 14 (cI 0),qm 16 15,GF 17 16 (.move 1),GF 18 16 (.zz 0 3),GF 19 16 (.zg 18),GF 20 16 (.len 19),GF 21 16 (.bin .geq 17 20),Pk 22 16 cT 21]) (.cond 22 (.seq (OP [Mv 6 cN,Mv 7 (cI 1)]) .ret) .skip)) (.seq (OP [qm 23 2,LA 24 2 3,qm 25 1,q 26 (.vu 23 [24,25]),qm 6 26,Mv 7 (cI 0)]) .ret)))
theorem zvL:zy Tryz.prog 175 27 [.tmp 6,.tmp 7] c175:=fK Tryz.func175
theorem zfV (P:zb) (hP:P.Fits) (n:Int) (f:FuncId) (l:List Int) (hl:P.qC n=0→zq Tryz.prog f [yU P,.sc (.int .i64 n)] (zB l)) (hb:P.qC n≠0→l=[]) :
  zq Tryz.prog 175 [yU P,.sc (.int .i64 n),.fn (.func f) [] []] (.yO [zB l,.sc (.int .i64 (P.qC n))]):=by
 have b1:=hP.nodes
 refine za zvL zs (by simp[ze,Pure,yj]) ?_ (by simp[Pure,ze,zi])
 have bad:∀{H:List zf} {e:Int},e≠0→P.qC n=e→Deep H (.yO [.sc (.slice none 0 0),.sc (.int .i64 e)]) (.yO [zB l,.sc (.int .i64 (P.qC n))]):=λh k=>by
  rw[k,hb (by rw[k];exact h)]
  exact .yO _ _ (.cons _ _ _ _ (.none _) (.cons _ _ _ _ (.refl _) .nil))
 refine sR ?_
 refine sC (Ja P hP) ?_
 refine sS (λh1=>?_) λh1=>?_
 ·have h1:P.yJ≠0:=sO
  exact bad h1 (by unfold zb.qC;rw[if_pos h1])
 have h1:P.yJ=0:=sO
 refine sS (λh2=>?_) λh2=>?_
 ·exact bad zc (by unfold zb.qC;rw[if_neg zo,if_pos (.inl (sO))])
 rw[List.length_map]
 refine sS (λh3=>?_) λh3=>?_
 ·exact bad zc (by unfold zb.qC;rw[if_neg zo,if_pos (.inr (sO))])
 ·have e:P.qC n=0:=by unfold zb.qC;rw[if_neg zo,if_neg (sO)]
  refine sC (hl e) ?_
  rw[e]
  exact .refl _
noncomputable def zb.zj5 (P:zb) (n:Int):List Int:=if P.qC n=0 then P.ub n else []
noncomputable def zb.zbW (P:zb) (n:Int):List Int:=if P.qC n=0 then P.uV n else []
def c103:PC:=.seq (OP [Bx 2 0,Mv 4 cN,Mv 5 (cI 0)]) (.seq (OP [LA 6 2 2,qm 7 1,Ca 8 175 [6,7,(.func 96)],Xt 9 0 8,Xt 10 1 8,qm 4 9,qm 5 10]) .ret)
theorem zvR:zy Tryz.prog 103 11 [.tmp 4,.tmp 5] c103:=fK Tryz.func103
theorem JQ (P:zb) (hP:P.Fits) (n:Int):zq Tryz.prog 103 [yU P,.sc (.int .i64 n)] (.yO [zB (P.zj5 n),.sc (.int .i64 (P.qC n))]):=by
 refine za zvR zs (by simp[ze,Pure,yj]) ?_ (by simp[Pure,ze,zi])
 refine sR ?_
 refine sC (zfV P hP n 96 (P.zj5 n) (λh=>by
  unfold zb.zj5
  rw[if_pos h]
  refine zkw P hP ?_ n
  unfold zb.qC at h
  split at h
  ·rename_i q;exact absurd h q
  ·rename_i q
   have:=xm (Classical.not_not.1 q)
   omega) (λh=>by unfold zb.zj5;rw[if_neg h])) ?_
 exact .refl _
def c104:PC:=.seq (OP [Bx 2 0,Mv 4 cN,Mv 5 (cI 0)]) (.seq (OP [LA 6 2 2,qm 7 1,Ca 8 175 [6,7,(.func 97)],Xt 9 0 8,Xt 10 1 8,qm 4 9,qm 5 10]) .ret)
theorem ztC:zy Tryz.prog 104 11 [.tmp 4,.tmp 5] c104:=fK Tryz.func104
theorem zgq (P:zb) (hP:P.Fits) (n:Int):zq Tryz.prog 104 [yU P,.sc (.int .i64 n)] (.yO [zB (P.zbW n),.sc (.int .i64 (P.qC n))]):=by
 refine za ztC zs (by simp[ze,Pure,yj]) ?_ (by simp[Pure,ze,zi])
 refine sR ?_
 refine sC (zfV P hP n 97 (P.zbW n) (λh=>by
  unfold zb.zbW
  rw[if_pos h]
  refine zgm P hP ?_ n
  unfold zb.qC at h
  split at h
  ·rename_i q;exact absurd h q
  ·rename_i q
   have:=xm (Classical.not_not.1 q)
   omega) (λh=>by unfold zb.zbW;rw[if_neg h])) ?_
 exact .refl _
end
end
section
section
abbrev yi:=Int × Int × Int
def zfb:Nat→Int
 | 0=>0
 | k+1=>zfb k*2+1
theorem zat:∀k,zfb k+1=2^k
 | 0=>rfl
 | k+1=>by have:=zat k;simp only[zfb];rw[Int.pow_succ];omega
theorem zdb {k n:Nat} (h:k≤n):(2:Int)^k≤2^n:=by
 have:=Nat.pow_le_pow_right (n:=2) zc h
 have h1:((2^k:Nat):Int)=2^k:=zs
 have h2:((2^n:Nat):Int)=2^n:=zs
 rw[←h1,←h2]
 exact_mod_cast this
theorem zai (k:Nat):(1:Int)≤2^k:=zdb (Nat.zero_le k)
theorem zhU {k n:Nat} (h:k≤n):0≤zfb k∧zfb k≤zfb n:=by
 have h1:=zat k
 have h2:=zat n
 have h3:=zdb h
 have h4:=zai k
 omega
def orS (n:Int):Nat→List yi
 | 0=>[]
 | k+1=>orS n k++[(n,-1,(k:Int)+1)]
def ziv (n i:Int):Nat→List yi
 | 0=>[]
 | k+1=>ziv n i k++[(n,i,2^k)]
theorem znn (n:Int):∀k,(orS n k).length=k
 | 0=>rfl
 | k+1=>by simp[orS,znn n k]
theorem zjH (n i:Int):∀k,(ziv n i k).length=k
 | 0=>rfl
 | k+1=>by simp[ziv,zjH n i k]
namespace zb
def XX (P:zb) (n:Int):Int:=zfb (P.uV n).length
def zcu (P:zb) (k:Int) (n i:Int):List yi:=if k=5 then ziv n i (P.uV n).length else [(n,i,P.XX n)]
def XH (P:zb) (k:Int) (n:Int):Nat→List yi
 | 0=>[]
 | j+1=>P.XH k n j++P.zcu k n ((P.ub n).getD j 0)
def Y5 (P:zb) (n:Nat):List yi :=
 if P.kind n=4∨P.kind n=5∨P.kind n=2∨P.kind n=3 then P.XH (P.kind n) n (P.ub n).length
 else if P.kind n=6 then [((n:Int),-1,P.XX n)]
 else if P.kind n=7 then orS n (P.XX n).toNat
 else []
def vW (P:zb):Nat→List yi
 | 0=>[]
 | n+1=>P.vW n++P.Y5 n
theorem zaL (P:zb) (k n:Int) (ho:(P.uV n).length≤30):∀j,(P.XH k n j).length≤30*j
 | 0=>by simp[XH]
 | j+1=>by
  have:=zaL P k n ho j
  simp only[XH,zcu,List.length_append]
  split
  ·rw[zjH];omega
  ·simp;omega
theorem zql {P:zb} {n:Nat} (h:P.Xz n=true) (hk:P.kind n=7):(P.XX n).toNat≤15:=by
 unfold Xz zcK at h
 rw[hk] at h
 simp only[if_false,if_true,Bool.and_eq_true,decide_eq_true_eq,(by decide:¬(7:Int)=1),(by decide:¬((7:Int)=2∨(7:Int)=3)),(by decide:¬(7:Int)=4)] at h
 have:=(zhU (k:=(P.uV n).length) (n:=4) zo).2
 have e:zfb 4=15:=rfl
 unfold XX
 omega
theorem zb3 {P:zb} {n:Nat} (h:P.Xz n=true) (hf:P.zv.length≤30):(P.Y5 n).length≤900:=by
 have l1:=P.JO n
 have l2:=P.Ue n
 unfold Y5
 split
 ·have:=P.zaL (P.kind n) n zo (P.ub n).length
  omega
 ·split
  ·simp
  ·split
   ·rw[znn]
    have:=zql h (by assumption)
    omega
   ·simp
theorem zbG {P:zb} (hf:P.zv.length≤30):∀n,(∀i,i<n→P.Xz i=true)→(P.vW n).length≤900*n
 | 0,_=>by simp[vW]
 | n+1,h=>by
  have:=zbG hf n λi hi=>h i zo
  have:=zb3 (h n zo) hf
  simp only[vW,List.length_append]
  omega
theorem zfL {P:zb} (h:P.yJ=0):∀i,i<P.nodes.length→P.Xz i=true:=by
 unfold yJ at h
 repeat' (split at h)
 all_goals first|(exact absurd h zc)|(exact absurd h (by assumption))|skip
 all_goals exact Classical.not_not.1 (by assumption)
noncomputable def yK (P:zb):Int:=if P.yJ≠0 then P.yJ else if 60<(P.vW P.nodes.length).length then 2 else 0
noncomputable def zI (P:zb):List yi:=if P.yK=0 then P.vW P.nodes.length else []
end zb
end
section
open Go.RowKit
def ziB (x:yi):List D:=[.sc (.int .i64 x.1),.sc (.int .i64 x.2.1),.sc (.int .i64 x.2.2)]
def vF (l:List yi):List (List D):=l.map ziB
def ZG (l:List yi):D:=.xj 3 (vF l)
theorem za1 (x:yi):ze (ziB x):=by simp[ziB,ze,Pure]
theorem zdC (l:List yi):yE (vF l):=zC _ za1 l
theorem uK (l:List yi):Pure (ZG l):=by simp[ZG,Pure,zdC]
theorem W2 (l:List yi):(vF l).length=l.length:=by simp[vF]
@[simp] theorem zsU {m:Nat} (l:List yi):zF m (vF l)↔True:=⟨λ_=>trivial,λ_=>zh _ (zdC l)⟩
theorem Vk {l:List yi} {c:Nat} {x y z:Int} (h:c=l.length):List.drop 0 (List.take c (vF l))++[[D.sc (.int .i64 x),D.sc (.int .i64 y),D.sc (.int .i64 z)]]=vF (l++[(x,y,z)]):=by
 subst h
 rw[zu (by simp[vF])]
 simp[vF,ziB]
theorem zrs {l r:List yi} {c:Nat} (h:c=l.length):List.drop 0 (List.take c (vF l))++vF r=vF (l++r):=by
 subst h
 rw[zu (by simp[vF])]
 simp[vF]
theorem qL {H:List zf} {id v n:Nat} {q:Bool} {l:List yi} (hn:n=l.length) (h:H[id]? = some (.vec q v 3 (vF l))):Deep H (.own id v 0 n) (ZG l):=by
 subst hn
 exact .own _ _ _ _ _ _ _ _ h (by rw[zu (by simp[vF])];exact z6 _)
theorem zmw {z:Int} {k:Nat} (hk:z=k) (h:k≤30):(1:Int)*2^min z.toNat IntKind.i64.bits=2^k:=by
 subst hk
 show(1:Int)*2^min (k:Int).toNat 64=2^k
 rw[Int.one_mul,Int.toNat_natCast,Nat.min_eq_left zo]
theorem zwt {k:Nat} (h:k≤30):(1:Int)≤2^k∧(2:Int)^k≤1073741824:=⟨zai k,zdb (n:=30) h⟩
def zBN:PC:=.seq (OP [Bi 46 .lss 45 44]) (.seq (.cond 46 .skip (.exit 1)) (.seq (.block 2 (.seq (OP [Ia 47 1 43 45,Lo 48 47,qm 12 48]) (OP [qm 49 10,qm 50 1,qm 51 12,qm 52 9,q 53 (.build [(.int .i64 0),(.int .i64 0),(.int .i64 0)] [(0,1,50),(1,1,51),(2,1,52)]),Bs 54 3 1 [53],Ap 55 3 24 49 54,qm 10 55]))) (OP [Bi 56 .add 45 (cI 1),qm 45 56])))
def zA0:PC:=.seq (OP [Bi 68 .lss 67 66]) (.seq (.cond 68 .skip (.exit 5)) (.seq (.block 6 (.seq (OP [qm 69 67,qm 15 69]) (OP [qm 70 10,qm 71 1,qm 72 14,qm 73 15,Bi 74 .shl (cI 1) 73,q 75 (.build [(.int .i64 0),(.int .i64 0),(.int .i64 0)] [(0,1,71),(1,1,72),(2,1,74)]),Bs 76 3 1 [75],Ap 77 3 24 70 76,qm 10 77]))) (OP [Bi 78 .add 67 (cI 1),qm 67 78])))
def zBt:PC:=.seq (OP [Bi 62 .lss 61 60]) (.seq (.cond 62 .skip (.exit 3)) (.seq (.block 4 (.seq (OP [Ia 63 1 59 61,Lo 64 63,qm 14 64]) (.seq (OP [qm 65 7,Ln 66 65,Mv 67 (cI 0)]) (.block 5 (.loop zA0))))) (OP [Bi 79 .add 61 (cI 1),qm 61 79])))
def zB4:PC:=.seq (.seq (OP [qm 90 16,qm 91 9,Bi 92 .leq 90 91]) (.cond 92 .skip (.exit 7))) (.seq (.block 8 (OP [qm 95 10,qm 96 1,qm 97 16,q 98 (.build [(.int .i64 0),(.int .i64 0),(.int .i64 0)] [(0,1,96),(1,1,(cI (-1))),(2,1,97)]),Bs 99 3 1 [98],Ap 100 3 24 95 99,qm 10 100])) (OP [qm 93 16,Bi 94 .add 93 (cI 1),qm 16 94]))
def c42:PC:=.seq (OP [Bx 2 0,Mv 4 cN]) (.seq (OP [LA 18 2 2,qm 19 1,Ca 20 103 [18,19],qm 17 20,Xt 21 0 17,Xt 22 1 17,qm 5 21,qm 6 22]) (.seq (OP [LA 24 2 2,qm 25 1,Ca 26 104 [24,25],qm 23 26,Xt 27 0 23,Xt 28 1 23,qm 7 27,qm 8 28]) (.seq (OP [qm 29 7,Ln 30 29,Bi 31 .shl (cI 1) 30,Bi 32 .sub 31 (cI 1),qm 9 32]) (.seq (OP [Mv 10 cN]) (.seq (.seq (OP [Fa 33 0 2,Lo 34 33,qm 35 1,Ia 36 2 34 35,Fa 37 1 36,Lo 38 37]) (.block 0 (.seq (.seq (OP [Bi 40 .eql 38 (cI 4),qm 39 40]) (.cond 39 .skip (.seq (OP [Bi 41 .eql 38 (cI 2),qm 39 41]) (.cond 39 .skip (OP [Bi 42 .eql 38 (cI 3),qm 39 42]))))) (.cond 39 (.seq (OP [qm 43 5,Ln 44 43,Mv 45 (cI 0)]) (.block 1 (.loop zBN))) (.seq (OP [Bi 58 .eql 38 (cI 5),qm 57 58]) (.cond 57 (.seq (OP [qm 59 5,Ln 60 59,Mv 61 (cI 0)]) (.block 3 (.loop zBt))) (.seq (OP [Bi 81 .eql 38 (cI 6),qm 80 81]) (.cond 80 (OP [qm 82 10,qm 83 1,qm 84 9,q 85 (.build [(.int .i64 0),(.int .i64 0),(.int .i64 0)] [(0,1,83),(1,1,(cI (-1))),(2,1,84)]),Bs 86 3 1 [85],Ap 87 3 24 82 86,qm 10 87]) (.seq (OP [Bi 89 .eql 38 (cI 7),qm 88 89]) (.cond 88 (.seq (OP [Mv 16 (cI 1)]) (.block 7 (.loop zB4))) .skip)))))))))) (.seq (OP [qm 101 10,qm 4 101]) .ret))))))
theorem zzr:zy Tryz.prog 42 102 [.tmp 4] c42:=fK Tryz.func42
theorem zrg (P:zb) (hP:P.Fits) (h0:P.yJ=0) (n:Nat) (hn:n<P.nodes.length):zq Tryz.prog 42 [yU P,.sc (.int .i64 n)] (ZG (P.Y5 n)):=by
 obtain⟨hs1,hs2⟩:=xm h0
 have l1:=P.JO n
 have l2:=P.Ue n
 have hE:P.qC n=0:=by unfold zb.qC;rw[if_neg zo,if_neg zo]
 have hI:=JQ P hP n
 have hO:=zgq P hP n
 rw[show P.zj5 n=P.ub n from by unfold zb.zj5;rw[if_pos hE],hE] at hI
 rw[show P.zbW n=P.uV n from by unfold zb.zbW;rw[if_pos hE],hE] at hO
 have hok:=zb.zfL h0 n hn
 refine za zzr zs (by simp[ze,Pure,yj]) ?_ (uK _)
 refine sR ?_
 refine sC hI ?_
 refine sC hO ?_
 have e2:=zat (P.uV n).length
 have e3:=zwt (k:=(P.uV n).length) zo
 have ea:zfb (P.uV n).length=P.XX n:=rfl
 have ei:∀k,P.XH (P.kind n) n (k+1)=P.XH (P.kind n) n k++P.zcu (P.kind n) n ((P.ub n).getD k 0):=λk=>rfl
 rw[ea] at e2
 refine⟨zo,?_⟩
 rw[List.length_map,zmw (k:=(P.uV n).length) rfl zo]
 refine sI ?_
 refine sI ?_
 rw[←e2,Int.add_sub_cancel]
 refine sL (Wr P (k:=n) zo hn) ?_
 have eS:P.Y5 n=if P.kind n=4∨P.kind n=5∨P.kind n=2∨P.kind n=3 then P.XH (P.kind n) n (P.ub n).length
  else if P.kind n=6 then [((n:Int),-1,P.XX n)] else if P.kind n=7 then orS n (P.XX n).toNat else []:=rfl
 refine sS (λh4=>?_) λh4=>?_
 ·have h4:P.kind n=4:=sO
  rw[if_pos zo] at eS
  have e5:∀i:Int,P.zcu (P.kind n) n i=[((n:Int),i,P.XX n)]:=λi=>by unfold zb.zcu;rw[if_neg zo]
  refine sW ?_
  rw[List.length_map]
  refine zG (xr 10 3 zs rfl) ?_
  refine zO [1,9,43,44] (λ((k,c,l):Nat × Nat × List yi)=>[(10,.own 1 c 0 c),(45,.sc (.int .i64 k))]) (λ(k,c,l)=>[(1,.vec true c 3 (vF l))]) (λ(k,c,l)=>k≤(P.ub n).length∧c=l.length∧c=k∧l=P.XH (P.kind n) n k) (λ(k,c,l)=>(P.ub n).length-k) (0,0,[]) ?_
  refine sW ?_
  refine⟨⟨zo,rfl,rfl,rfl⟩,by exact sK,rfl,?_⟩
  rintro⟨k,c,l⟩ ⟨hk,hc,hck,hl⟩
  refine sW ?_
  refine sR ?_
  refine sS (λh1=>?_) λh1=>?_
  ·have hk':k<(P.ub n).length:=sO
   refine sL (yb (k:=k) zo hk') ?_
   refine sJ ?_
   refine sI ?_
   refine⟨(k+1,c+1,l++[((n:Int),(P.ub n).getD k 0,P.XX n)]),⟨zo,by simp[hc],zo,by rw[ei,e5,hl]⟩,zd,?_⟩
   refine zj 2 zs rfl sQ (sU ?_)
   exact zp (Vk hc)
  ·have hk':k=(P.ub n).length:=by have:¬k<(P.ub n).length:=sO
                                  omega
   subst hk'
   rw[eS,←hl]
   exact qL hc rfl
 have h4:P.kind n≠4:=sO
 refine sS (λh2=>?_) λh2=>?_
 ·have h2:P.kind n=2:=sO
  rw[if_pos zo] at eS
  have e5:∀i:Int,P.zcu (P.kind n) n i=[((n:Int),i,P.XX n)]:=λi=>by unfold zb.zcu;rw[if_neg zo]
  refine sW ?_
  rw[List.length_map]
  refine zG (xr 10 3 zs rfl) ?_
  refine zO [1,9,43,44] (λ((k,c,l):Nat × Nat × List yi)=>[(10,.own 1 c 0 c),(45,.sc (.int .i64 k))]) (λ(k,c,l)=>[(1,.vec true c 3 (vF l))]) (λ(k,c,l)=>k≤(P.ub n).length∧c=l.length∧c=k∧l=P.XH (P.kind n) n k) (λ(k,c,l)=>(P.ub n).length-k) (0,0,[]) ?_
  refine sW ?_
  refine⟨⟨zo,rfl,rfl,rfl⟩,by exact sK,rfl,?_⟩
  rintro⟨k,c,l⟩ ⟨hk,hc,hck,hl⟩
  refine sW ?_
  refine sR ?_
  refine sS (λh1=>?_) λh1=>?_
  ·have hk':k<(P.ub n).length:=sO
   refine sL (yb (k:=k) zo hk') ?_
   refine sJ ?_
   refine sI ?_
   refine⟨(k+1,c+1,l++[((n:Int),(P.ub n).getD k 0,P.XX n)]),⟨zo,by simp[hc],zo,by rw[ei,e5,hl]⟩,zd,?_⟩
   refine zj 2 zs rfl sQ (sU ?_)
   exact zp (Vk hc)
  ·have hk':k=(P.ub n).length:=by have:¬k<(P.ub n).length:=sO
                                  omega
   subst hk'
   rw[eS,←hl]
   exact qL hc rfl
 have h2:P.kind n≠2:=sO
 refine sS (λh3=>?_) λh3=>?_
 ·have h3:P.kind n=3:=sO
  rw[if_pos zo] at eS
  have e5:∀i:Int,P.zcu (P.kind n) n i=[((n:Int),i,P.XX n)]:=λi=>by unfold zb.zcu;rw[if_neg zo]
  refine sW ?_
  rw[List.length_map]
  refine zG (xr 10 3 zs rfl) ?_
  refine zO [1,9,43,44] (λ((k,c,l):Nat × Nat × List yi)=>[(10,.own 1 c 0 c),(45,.sc (.int .i64 k))]) (λ(k,c,l)=>[(1,.vec true c 3 (vF l))]) (λ(k,c,l)=>k≤(P.ub n).length∧c=l.length∧c=k∧l=P.XH (P.kind n) n k) (λ(k,c,l)=>(P.ub n).length-k) (0,0,[]) ?_
  refine sW ?_
  refine⟨⟨zo,rfl,rfl,rfl⟩,by exact sK,rfl,?_⟩
  rintro⟨k,c,l⟩ ⟨hk,hc,hck,hl⟩
  refine sW ?_
  refine sR ?_
  refine sS (λh1=>?_) λh1=>?_
  ·have hk':k<(P.ub n).length:=sO
   refine sL (yb (k:=k) zo hk') ?_
   refine sJ ?_
   refine sI ?_
   refine⟨(k+1,c+1,l++[((n:Int),(P.ub n).getD k 0,P.XX n)]),⟨zo,by simp[hc],zo,by rw[ei,e5,hl]⟩,zd,?_⟩
   refine zj 2 zs rfl sQ (sU ?_)
   exact zp (Vk hc)
  ·have hk':k=(P.ub n).length:=by have:¬k<(P.ub n).length:=sO
                                  omega
   subst hk'
   rw[eS,←hl]
   exact qL hc rfl
 have h3:P.kind n≠3:=sO
 refine sS (λh5=>?_) λh5=>?_
 ·have h5:P.kind n=5:=sO
  rw[if_pos zo] at eS
  have e5:∀i:Int,P.zcu (P.kind n) n i=ziv n i (P.uV n).length:=λi=>by unfold zb.zcu;rw[if_pos h5]
  refine sW ?_
  rw[List.length_map]
  refine zG (xr 10 3 zs rfl) ?_
  refine zO [1,7,59,60] (λ((k,c,l):Nat × Nat × List yi)=>[(10,.own 1 c 0 c),(61,.sc (.int .i64 k))]) (λ(k,c,l)=>[(1,.vec true c 3 (vF l))]) (λ(k,c,l)=>k≤(P.ub n).length∧c=l.length∧l=P.XH (P.kind n) n k) (λ(k,c,l)=>(P.ub n).length-k) (0,0,[]) ?_
  refine sW ?_
  refine⟨⟨zo,rfl,rfl⟩,by exact sK,rfl,?_⟩
  rintro⟨k,c,l⟩ ⟨hk,hc,hl⟩
  refine sW ?_
  refine sR ?_
  refine sS (λh1=>?_) λh1=>?_
  ·have hk':k<(P.ub n).length:=sO
   refine sL (yb (k:=k) zo hk') ?_
   rw[List.length_map]
   have b1:=P.zaL (P.kind n) n zo k
   have b2:l.length=(P.XH (P.kind n) n k).length:=by rw[hl]
   refine zO [1,7,14,59,60,61,66] (λ((j,c',m):Nat × Nat × List yi)=>[(10,.own 1 c' 0 c'),(67,.sc (.int .i64 j))]) (λ(j,c',m)=>[(1,.vec true c' 3 (vF m))]) (λ(j,c',m)=>j≤(P.uV n).length∧c'=m.length∧c'=l.length+j∧m=l++ziv n ((P.ub n).getD k 0) j) (λ(j,c',m)=>(P.uV n).length-j) (0,c,l) ?_
   refine sW ?_
   refine⟨⟨zo,hc,hc,(List.append_nil l).symm⟩,by exact sK,rfl,?_⟩
   rintro⟨j,c',m⟩ ⟨hj,hc',hcj,hm⟩
   refine sW ?_
   refine sR ?_
   refine sS (λh6=>?_) λh6=>?_
   ·have hj':j<(P.uV n).length:=sO
    refine⟨zo,?_⟩
    rw[zmw (k:=j) rfl zo]
    have e4:=zwt (k:=j) zo
    refine sI ?_
    refine sJ ?_
    refine sI ?_
    refine⟨(j+1,c'+1,m++[((n:Int),(P.ub n).getD k 0,2^j)]),⟨zo,by simp[hc'],zo,by rw[hm,List.append_assoc];rfl⟩,zd,?_⟩
    refine zj 2 zs rfl sQ (sU ?_)
    exact zp (Vk hc')
   ·have hj':j=(P.uV n).length:=by have:¬j<(P.uV n).length:=sO
                                   omega
    subst hj'
    refine sI ?_
    refine⟨(k+1,c',m),⟨zo,hc',by rw[ei,e5,hm,hl]⟩,zd,?_⟩
    exact zj 2 zs rfl sQ sQ
  ·have hk':k=(P.ub n).length:=by have:¬k<(P.ub n).length:=sO
                                  omega
   subst hk'
   rw[eS,←hl]
   exact qL hc rfl
 have h5:P.kind n≠5:=sO
 rw[if_neg zo] at eS
 refine sS (λh6=>?_) λh6=>?_
 ·have h6:P.kind n=6:=sO
  rw[if_pos h6] at eS
  refine sJ ?_
  rw[eS]
  exact qL (l:=[((n:Int),-1,P.XX n)]) rfl rfl
 rw[if_neg (sO)] at eS
 refine sS (λh7=>?_) λh7=>?_
 ·have h7:P.kind n=7:=sO
  rw[if_pos h7] at eS
  have b3:=zb.zql hok h7
  have b4:=(zhU (Nat.le_refl (P.uV n).length)).1
  rw[ea] at b4
  refine zG (xr 10 3 zs rfl) ?_
  refine zO [1,9] (λ((k,c,l):Nat × Nat × List yi)=>[(10,.own 1 c 0 c),(16,.sc (.int .i64 ((k:Int)+1)))]) (λ(k,c,l)=>[(1,.vec true c 3 (vF l))]) (λ(k,c,l)=>k≤(P.XX n).toNat∧c=l.length∧c=k∧l=orS n k) (λ(k,c,l)=>(P.XX n).toNat-k) (0,0,[]) ?_
  refine sW ?_
  refine⟨⟨zo,rfl,rfl,rfl⟩,by exact sK,rfl,?_⟩
  rintro⟨k,c,l⟩ ⟨hk,hc,hck,hl⟩
  refine sW ?_
  refine sR ?_
  refine sS (λh1=>?_) λh1=>?_
  ·have hk':k<(P.XX n).toNat:=sO
   refine sJ ?_
   refine sI ?_
   refine⟨(k+1,c+1,l++[((n:Int),-1,(k:Int)+1)]),⟨zo,by simp[hc],zo,by rw[hl];rfl⟩,zd,?_⟩
   refine zj 2 zs rfl sQ (sU ?_)
   exact zp (Vk hc)
  ·have hk':k=(P.XX n).toNat:=by have:¬k<(P.XX n).toNat:=sO
                                 omega
   subst hk'
   rw[eS,←hl]
   exact qL hc rfl
 ·rw[if_neg (sO)] at eS
  rw[eS]
  exact .none _
end
section
open Go.RowKit
theorem zvF {l:List yi} {z k:Nat} (hz:z=k) (h:k<l.length):(vF l)[z]? = some (ziB l[k]):=by
 subst hz
 unfold vF
 rw[List.getElem?_map,List.getElem?_eq_getElem h]
 rfl
def zA7:PC:=.seq (OP [Bi 16 .lss 15 14]) (.seq (.cond 16 .skip (.exit 0)) (.seq (.block 1 (.seq (OP [qm 17 15,qm 6 17]) (OP [qm 18 5,LA 19 2 1,qm 20 6,Ca 21 42 [19,20],Ap 22 3 24 18 21,qm 5 22]))) (OP [Bi 23 .add 15 (cI 1),qm 15 23])))
def c19:PC:=.seq (OP [Bx 1 0,Mv 2 cN,Mv 3 (cI 0)]) (.seq (.seq (OP [LA 7 2 1,Ca 8 40 [7],qm 4 8]) (.seq (OP [qm 9 4,Bi 10 .neq 9 (cI 0)]) (.cond 10 (.seq (OP [qm 11 4,Mv 2 cN,qm 3 11]) .ret) .skip))) (.seq (OP [Mv 5 cN]) (.seq (.seq (OP [Fa 12 0 1,Lo 13 12,Ln 14 13,Mv 15 (cI 0)]) (.block 0 (.loop zA7))) (.seq (.seq (OP [qm 24 5,Ln 25 24,Bi 26 .gtr 25 (cI 60)]) (.cond 26 (.seq (OP [Mv 2 cN,Mv 3 (cI 2)]) .ret) .skip)) (.seq (OP [qm 27 5,qm 2 27,Mv 3 (cI 0)]) .ret)))))
theorem zyT:zy Tryz.prog 19 28 [.tmp 2,.tmp 3] c19:=fK Tryz.func19
theorem W0 (P:zb) (hP:P.Fits):zq Tryz.prog 19 [yU P] (.yO [ZG P.zI,.sc (.int .i64 P.yK)]):=by
 refine za zyT zs (by simp[ze,Pure,yj]) ?_ (by simp[Pure,ze,uK])
 have bad:∀{H:List zf} {e:Int},e≠0→P.yK=e→Deep H (.yO [.sc (.slice none 0 0),.sc (.int .i64 e)]) (.yO [ZG P.zI,.sc (.int .i64 P.yK)]):=λh k=>by
  have:P.zI=[]:=by unfold zb.zI;rw[if_neg (by rw[k];exact h)]
  rw[k,this]
  exact .yO _ _ (.cons _ _ _ _ (.none _) (.cons _ _ _ _ (.refl _) .nil))
 refine sR ?_
 refine sC (Ja P hP) ?_
 refine sS (λh1=>?_) λh1=>?_
 ·have h1:P.yJ≠0:=sO
  exact bad h1 (by unfold zb.yK;rw[if_pos h1])
 have h0:P.yJ=0:=sO
 obtain⟨hs1,hs2⟩:=xm h0
 have hall:=zb.zfL h0
 have e1:P.yK=if 60<(P.vW P.nodes.length).length then 2 else 0:=by unfold zb.yK;rw[if_neg zo]
 rw[List.length_map]
 refine zG (xr 5 3 zs rfl) ?_
 refine zO [1,14] (λ((k,c,l):Nat × Nat × List yi)=>[(5,.own 1 k 0 c),(15,.sc (.int .i64 k))]) (λ(k,c,l)=>[(1,.vec true k 3 (vF l))]) (λ(k,c,l)=>k≤P.nodes.length∧c=l.length∧l=P.vW k) (λ(k,c,l)=>P.nodes.length-k) (0,0,[]) ?_
 refine sW ?_
 refine⟨⟨zo,rfl,rfl⟩,by exact sK,rfl,?_⟩
 rintro⟨k,c,l⟩ ⟨hk,hc,hl⟩
 refine sW ?_
 refine sR ?_
 refine sS (λh2=>?_) λh2=>?_
 ·have hk':k<P.nodes.length:=sO
  have b1:=zb.zbG hs2 k λi hi=>hall i zo
  have b2:=zb.zb3 (hall k hk') hs2
  have b3:l.length=(P.vW k).length:=by rw[hl]
  refine sC (zrg P hP h0 k hk') ?_
  refine⟨(by unfold xd;rw[W2];omega),?_⟩
  refine sW ?_
  refine sI ?_
  refine⟨(k+1,c+(vF (P.Y5 k)).length,l++P.Y5 k),⟨zo,by simp[hc,W2],by rw[hl];rfl⟩,zd,?_⟩
  refine zj 2 zs rfl sQ (sU ?_)
  exact zp (zrs hc)
 ·have hk':k=P.nodes.length:=by have:¬k<P.nodes.length:=sO
                                omega
  subst hk'
  have b3:l.length=(P.vW P.nodes.length).length:=by rw[hl]
  refine sS (λh3=>?_) λh3=>?_
  ·exact bad zc (by rw[e1,if_pos (sO)])
  ·have e2:P.yK=0:=by rw[e1,if_neg (sO)]
   have e3:P.zI=l:=by unfold zb.zI;rw[if_pos e2,hl]
   rw[e2,e3]
   exact .yO _ _ (.cons _ _ _ _ (qL hc rfl) (.cons _ _ _ _ (.refl _) .nil))
end
section
open Go.RowKit
end
end
section
def zhB (x n:Int):Bool:=(x.fdiv (2^min n.toNat 64)).tmod 2==1
end
section
open Go.RowKit
theorem zs2 {y:Int} (h:0≤y) (h':y<18446744073709551616):vd .and .u64 y 1=y.tmod 2:=by
 obtain⟨n,rfl⟩:∃n:Nat,y=n:=⟨y.toNat,zo⟩
 have e:(BitVec.ofInt 64 (n:Int) &&& BitVec.ofInt 64 1).toNat=n%2:=by
  rw[BitVec.toNat_and]
  have e1:(BitVec.ofInt 64 (n:Int)).toNat=n:=by rw[BitVec.toNat_ofInt];omega
  have e2:(BitVec.ofInt 64 1).toNat=1:=zc
  rw[e1,e2,Nat.and_one_is_mod]
 show IntKind.u64.wrap ((BitVec.ofInt 64 (n:Int) &&& BitVec.ofInt 64 1).toNat:Int)=_
 rw[e,show((n:Int).tmod 2)=((n%2:Nat):Int) from(Int.ofNat_tmod n 2).symm]
 unfold IntKind.wrap
 simp[IntKind.bits,IntKind.signed]
 omega
theorem zlG {x:Int} (h:0≤x) (h':x<18446744073709551616) (k:Nat):0≤x.fdiv (2^k)∧x.fdiv (2^k)<18446744073709551616:=by
 have hp:(0:Int)<2^k:=Int.pow_pos zc
 rw[Int.fdiv_eq_ediv_of_nonneg _ zo]
 exact⟨Int.ediv_nonneg h zo,Int.lt_of_le_of_lt (Int.ediv_le_self _ h) h'⟩
end
end Go.Proofs.YtoehflejhaakpaaGreatDoor
