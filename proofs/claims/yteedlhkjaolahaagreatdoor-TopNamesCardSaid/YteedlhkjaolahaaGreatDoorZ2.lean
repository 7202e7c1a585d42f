/-
  Parts of a proof, joined. No statement is proved here.
-/
import Derived.Test.YteedlhkjaolahaaGreatDoorZ1
import Derived.DeepKeys4
import Derived.Test.YteedlhkjaolahaaGreatDoorProg
namespace Go.Proofs.YteedlhkjaolahaaGreatDoor
set_option linter.unusedSimpArgs false
set_option linter.unusedVariables false
set_option maxRecDepth 100000
section
open Go.RowKit
structure yl where
 start:List Int
 next:List (List Int)
 Xo:List Int
 WR:List Int
 fair:List (List Int)
def yl.cells (A:yl):List D:=[zB A.start,yd A.next,uV A.Xo,uV A.WR,yd A.fair]
def Ui (A:yl):D:=.agg A.cells
theorem za7 (A:yl):zb A.cells:=by simp[yl.cells,zb,zj,yf,uC]
theorem qX (A:yl):Pure (Ui A):=by simp[Ui,Pure,za7]
def zso:yl:=⟨[],[],[],[],[]⟩
structure yl.Fits (A:yl):Prop where
 start:A.start.length≤17592186043904
 next:A.next.length≤17592186043904
 Xo:A.Xo.length≤17592186043904
 WR:A.WR.length≤17592186043904
 fair:A.fair.length≤17592186043904
 Vu:∀l∈A.next,l.length≤17592186043904
 Vh:∀l∈A.fair,l.length≤17592186043904
def yl.yF (A:yl):Int :=
 if 2048<A.next.length∨80<A.fair.length then 2
 else if A.Xo.length≠A.next.length∨A.WR.length≠A.next.length∨xJ A.start A.next.length=false then 1
 else if (A.next.any λl=>!(xJ l A.next.length))=true then 1
 else if (A.fair.any λl=>!(xJ l A.next.length))=true then 1
 else 0
theorem YQ (A:yl) (h:A.yF=0):A.Xo.length=A.next.length∧A.WR.length=A.next.length∧A.next.length≤2048∧A.fair.length≤80∧xJ A.start A.next.length=true∧(∀l∈A.next,xJ l A.next.length=true)∧∀l∈A.fair,xJ l A.next.length=true:=by
 unfold yl.yF at h
 split at h
 ·exact absurd h zc
 split at h
 ·exact absurd h zc
 split at h
 ·exact absurd h zc
 split at h
 ·exact absurd h zc
 rename_i h1 h2 h3 h4
 have h2':=not_or.1 h2
 have h2'':=not_or.1 h2'.2
 refine⟨zo,zo,zo,zo,by simpa using h2''.2,λl hl=>?_,λl hl=>?_⟩
 ·rw[Bool.not_eq_true,List.any_eq_false] at h3
  simpa using h3 l hl
 ·rw[Bool.not_eq_true,List.any_eq_false] at h4
  simpa using h4 l hl
def zav (A:yl) (s:Nat) (x:Int):Bool:=vl .and .u64 x (A.Xo.getD s 0)==A.Xo.getD s 0&&vl .and .u64 x (A.WR.getD s 0)==0
theorem QS (a:BitVec 64):IntKind.wrap .u64 (a.toNat:Int)=(a.toNat:Int):=by
 have:=a.isLt
 simp only[IntKind.wrap,IntKind.signed,IntKind.bits]
 simp
 omega
theorem zoP {x m:Int} (hm:0≤m∧m<18446744073709551616):(vl .and .u64 x m==m)=(vl .andNot .u64 m x==0):=by
 show(IntKind.wrap .u64 (((BitVec.ofInt 64 x) &&& (BitVec.ofInt 64 m)).toNat:Int)==m)=(IntKind.wrap .u64 (((BitVec.ofInt 64 m) &&& ~~~(BitVec.ofInt 64 x)).toNat:Int)==0)
 rw[QS,QS]
 have e:m=((BitVec.ofInt 64 m).toNat:Int):=by
  rw[BitVec.toNat_ofInt]
  omega
 generalize BitVec.ofInt 64 x=a
 rw[Bool.eq_iff_iff,beq_iff_eq,beq_iff_eq]
 generalize hb:BitVec.ofInt 64 m=b at e
 constructor
 ·intro h
  rw[e] at h
  have h:a &&& b=b:=BitVec.eq_of_toNat_eq zo
  have:b &&& ~~~a=0#64:=by
   rw[←h]
   ext i hi
   simp
   intro h1 _
   exact h1
  rw[this];rfl
 ·intro h
  have h:b &&& ~~~a=0#64:=BitVec.eq_of_toNat_eq (by simpa using h)
  have:a &&& b=b:=by
   ext i hi
   have:=congrArg (λz:BitVec 64=>z[i]) h
   simp at this
   cases q:b[i]
   ·simp[q]
   ·simp[q,this q]
  rw[this];omega
theorem zc1 {l:List Int} {z k:Nat} (hz:z=k) (h:k<l.length):(l.map λn=>[D.sc (.int .u64 n)])[z]? = some [.sc (.int .u64 (l.getD k 0))]:=by
 subst hz
 rw[List.getElem?_map,List.getElem?_eq_getElem h,List.getD_eq_getElem?_getD,List.getElem?_eq_getElem h];rfl
def c208:PC:=.seq (OP [Bx 3 0,Mv 6 cF]) (.seq (.ops [qm 7 2,Fa 8 2 3,qd 9 (.zg 8) 2,qm 10 1,qd 11 (.zM 1 9 10) 14,qd 12 (.zg 11) 30,qd 13 (.bin .and 7 12) 63,Fa 14 2 3,qd 15 (.zg 14) 128,qm 16 1,qd 17 (.zM 1 15 16) 896,qd 18 (.zg 17) 1920,qd 19 (.bin .eql 13 18) 4095,qw 20 19 8191,⟨some 21,.move 2,some (20,true),16383⟩,⟨some 22,.zy 3 3,some (20,true),16383⟩,⟨some 23,.zg 22,some (20,true),49151⟩,⟨some 24,.move 1,some (20,true),16383⟩,⟨some 25,.zM 1 23 24,some (20,true),245759⟩,⟨some 26,.zg 25,some (20,true),507903⟩,⟨some 27,.bin .and 21 26,some (20,true),1048575⟩,⟨some 28,.bin .eql 27 (.const (.int .u64 0)),some (20,true),2097151⟩,qd 29 (.pick 20 28 cF) 4194303,qw 6 29 8388607] true) .ret)
theorem zuQ:zv Tryz.prog 208 30 [.tmp 6] c208:=fK Tryz.func208
theorem zws (A:yl) (hm:A.Xo.length=A.next.length) (hn:A.WR.length=A.next.length) (s:Nat) (hs:s<A.next.length) (x:Int):zn Tryz.prog 208 [Ui A,.sc (.int .i64 s),.sc (.int .u64 x)] (.sc (.bool (zav A s x))):=by
 refine za zuQ zs (by simp[zb,Pure,qX]) ?_ (by simp[Pure])
 have e:zav A s x=(vl .and .u64 x (A.Xo.getD s 0)==A.Xo.getD s 0&&vl .and .u64 x (A.WR.getD s 0)==0):=rfl
 unfold Ui yl.cells uV
 refine sR ?_
 refine sL (zc1 (k:=s) zo zo) ?_
 refine sL (zc1 (k:=s) zo zo) ?_
 cases r:(vl .and .u64 x (A.Xo.getD s 0)==A.Xo.getD s 0)
 ·rw[r,Bool.false_and] at e
  rw[e]
  refine sW ?_
  exact .refl _
 ·rw[r,Bool.true_and] at e
  rw[e]
  refine sW ?_
  refine sL (zc1 (k:=s) zo zo) ?_
  exact .refl _
def c207:PC:=.seq (OP [Mv 3 cF]) (.seq (OP [qm 4 0,Bi 5 .lss 4 (cI 0),qm 6 5,GF 7 6 (.move 0),GF 8 6 (.zg 1),GF 9 6 (.bin .geq 7 8),Pk 10 6 cT 9,qm 3 10]) .ret)
theorem zxm:zv Tryz.prog 207 11 [.tmp 3] c207:=fK Tryz.func207
theorem zv1 (x:Int) (n:Nat):zn Tryz.prog 207 [.sc (.int .i64 x),.yO [.sc (.int .i64 n)]] (.sc (.bool (decide (x<0)||decide (x≥(n:Int))))):=by
 refine za zxm zs (by simp[zb,Pure]) ?_ (by simp[Pure])
 refine sR ?_
 refine sS (λh=>?_) λh=>?_
 ·exact zR zs
 ·exact zR zs
def c155:PC:=.seq (OP [Bx 3 1,Mv 4 cF]) (.seq (OP [qm 5 0,q 6 (.uG (.func 207) [] [3]),Ca 7 52 [5,6],qm 4 7]) .ret)
theorem zxK:zv Tryz.prog 155 8 [.tmp 4] c155:=fK Tryz.func155
theorem zmp (l:List Int) (hl:l.length≤9223372036854775807) (n:Nat):zn Tryz.prog 155 [zB l,.sc (.int .i64 n)] (.sc (.bool !(xJ l n))):=by
 refine za zxK zs (by simp[zb,Pure,zj]) ?_ (by simp[Pure])
 refine sR ?_
 refine sN (yo (λn=>.sc (.int .i64 n)) (λa=>by simp[Pure]) l hl (λx=>decide (x<0)||decide (x≥(n:Int))) 207 [.yO [.sc (.int .i64 n)]] (by simp[zb,Pure]) λa _=>zv1 a n) ?_
 rw[ziz]
 exact .refl _
def c156:PC:=.seq (OP [Mv 3 cF]) (.seq (OP [qm 4 0,Lo 5 1,Ca 6 155 [4,5],qm 3 6]) .ret)
theorem zxb:zv Tryz.prog 156 7 [.tmp 3] c156:=fK Tryz.func156
theorem zpC (l:List Int) (hl:l.length≤9223372036854775807) (n:Nat):zn Tryz.prog 156 [zB l,.yO [.sc (.int .i64 n)]] (.sc (.bool !(xJ l n))):=by
 refine za zxb zs (by simp[zb,Pure,zj]) ?_ (by simp[Pure])
 refine sR ?_
 refine sC (zmp l hl n) ?_
 exact .refl _
def c157:PC:=.seq (OP [Mv 3 cF]) (.seq (OP [qm 4 0,Lo 5 1,Ca 6 155 [4,5],qm 3 6]) .ret)
theorem zwM:zv Tryz.prog 157 7 [.tmp 3] c157:=fK Tryz.func157
theorem zpa (l:List Int) (hl:l.length≤9223372036854775807) (n:Nat):zn Tryz.prog 157 [zB l,.yO [.sc (.int .i64 n)]] (.sc (.bool !(xJ l n))):=by
 refine za zwM zs (by simp[zb,Pure,zj]) ?_ (by simp[Pure])
 refine sR ?_
 refine sC (zmp l hl n) ?_
 exact .refl _
def c92:PC:=.seq (OP [Bx 1 0,Mv 2 (cI 0)]) (.seq (OP [Fa 4 1 1,Lo 5 4,Ln 6 5,q 3 (.alloc [(.int .i64 0)]),So 1 3 6]) (.seq (.seq (OP [Lo 7 3,Bi 8 .gtr 7 (cI 2048),qm 9 8,GF 10 9 (.zy 4 1),GF 11 9 (.zg 10),GF 12 9 (.len 11),GF 13 9 (.bin .gtr 12 (cI 80)),Pk 14 9 cT 13]) (.cond 14 (.seq (OP [Mv 2 (cI 2)]) .ret) .skip)) (.seq (.seq (OP [Fa 15 2 1,Lo 16 15,Ln 17 16,Lo 18 3,Bi 19 .neq 17 18,qm 20 19,GF 21 20 (.zy 3 1),GF 22 20 (.zg 21),GF 23 20 (.len 22),GF 24 20 (.zg 3),GF 25 20 (.bin .neq 23 24),Pk 26 20 cT 25,qm 27 26,GF 28 27 (.zy 0 1),GF 29 27 (.zg 28),GF 30 27 (.zg 3),GF 31 27 (.call 155 [29,30]),Pk 32 27 cT 31]) (.cond 32 (.seq (OP [Mv 2 (cI 1)]) .ret) .skip)) (.seq (.seq (OP [Fa 33 1 1,Lo 34 33,q 35 (.uG (.func 156) [] [3]),Ca 36 82 [34,35],qm 37 36,GF 38 37 (.zy 4 1),GF 39 37 (.zg 38),GF 40 37 (.uG (.func 157) [] [3]),GF 41 37 (.call 82 [39,40]),Pk 42 37 cT 41]) (.cond 42 (.seq (OP [Mv 2 (cI 1)]) .ret) .skip)) (.seq (OP [Mv 2 (cI 0)]) .ret)))))
theorem zyZ:zv Tryz.prog 92 43 [.tmp 2] c92:=fK Tryz.func92
theorem zsn (A:yl) (hA:A.Fits):zn Tryz.prog 92 [Ui A] (.sc (.int .i64 A.yF)):=by
 have b1:=hA.start
 have b2:=hA.next
 have b3:=hA.Xo
 have b4:=hA.fair
 have b5:=hA.WR
 refine za zyZ zs (by simp[zb,Pure,qX]) ?_ (by simp[Pure])
 refine sR ?_
 rw[List.length_map]
 have fin:∀{H:List zf} {z:Int},z=A.yF→Deep H (.sc (.int .i64 z)) (.sc (.int .i64 A.yF)):=λh=>h▸.refl _
 refine sS (λh1=>?_) λh1=>?_
 ·exact fin (by unfold yl.yF;rw[if_pos (sO)])
 rw[List.length_map]
 refine sS (λh2=>?_) λh2=>?_
 ·exact fin (by unfold yl.yF;rw[if_pos (sO)])
 have c1:¬(2048<A.next.length∨80<A.fair.length):=sO
 rw[List.length_map]
 refine sS (λh3=>?_) λh3=>?_
 ·exact fin (by unfold yl.yF;rw[if_neg c1,if_pos (sO)])
 rw[List.length_map]
 refine sS (λh3'=>?_) λh3'=>?_
 ·exact fin (by unfold yl.yF;rw[if_neg c1,if_pos (sO)])
 refine sC (zmp A.start zo A.next.length) ?_
 refine sS (λh4=>?_) λh4=>?_
 ·exact fin (by unfold yl.yF;rw[if_neg c1,if_pos (.inr (.inr (by simpa using h4)))])
 have c2:¬(A.Xo.length≠A.next.length∨A.WR.length≠A.next.length∨xJ A.start A.next.length=false):=by
  rintro(q|q|q)
  ·exact sO
  ·exact sO
  ·rw[q] at h4;cases h4
 refine sN (X2 zB zj A.next zo (λl=>!(xJ l A.next.length)) 156 [.yO [.sc (.int .i64 A.next.length)]] (by simp[zb,Pure]) λa ha=>zpC a (by have:=hA.Vu a ha;omega) _) ?_
 refine sS (λg2=>?_) λg2=>?_
 ·exact fin (by unfold yl.yF;rw[if_neg c1,if_neg c2,if_pos g2])
 have c3:¬(A.next.any λl=>!(xJ l A.next.length))=true:=by rw[g2];simp
 refine sN (X2 zB zj A.fair zo (λl=>!(xJ l A.next.length)) 157 [.yO [.sc (.int .i64 A.next.length)]] (by simp[zb,Pure]) λa ha=>zpa a (by have:=hA.Vh a ha;omega) _) ?_
 refine sS (λg3=>?_) λg3=>?_
 ·exact fin (by unfold yl.yF;rw[if_neg c1,if_neg c2,if_neg c3,if_pos g3])
 ·exact fin (by unfold yl.yF;rw[if_neg c1,if_neg c2,if_neg c3,if_neg (by rw[g3];simp)])
end
section
open Go.RowKit
def gl (n:Nat) (g:Nat→Int):List Int:=(List.range n).map g
@[simp] theorem zik (n:Nat) (g:Nat→Int):(gl n g).length=n:=by simp[gl]
theorem QQ {n k:Nat} {g:Nat→Int} (h:k<n):(gl n g).getD k 0=g k:=by
 rw[List.getD_eq_getElem?_getD]
 simp[gl,List.getElem?_map,List.getElem?_range h]
@[simp] theorem zCF (l:List Int):(zI l).length=l.length:=by simp[zI]
theorem zwy {l:List Int} {z k:Nat} (hz:z=k) (h:k<l.length):(zI l)[z]? = some [.sc (.int .i64 (l.getD k 0))]:=yc hz h
theorem yp {n:Nat} {g:Nat→Int} {z:Nat} (k:Nat) (hz:z=k) (h:k<n):(zI (gl n g))[z]? = some [.sc (.int .i64 (g k))]:=by
 rw[zwy hz (by rw[zik];exact h),QQ h]
theorem YM {n:Nat} {g g':Nat→Int} (h:∀i,i<n→g i=g' i):gl n g=gl n g':=List.map_congr_left λi hi=>h i (List.mem_range.1 hi)
def WG (g:Nat→Int) (k:Nat) (v:Int):Nat→Int:=λi=>if i=k then v else g i
@[simp] theorem qo (g:Nat→Int) (k:Nat) (v:Int):WG g k v k=v:=by simp[WG]
theorem VV {g:Nat→Int} {k i:Nat} {v:Int} (h:i≠k):WG g k v i=g i:=by simp[WG,h]
theorem qB {n z k:Nat} {g:Nat→Int} {v:Int} (hz:z=k):(zI (gl n g)).set z [.sc (.int .i64 v)]=zI (gl n (WG g k v)):=by
 subst hz
 apply List.ext_getElem?
 intro i
 by_cases hi:i<n
 ·rw[List.getElem?_set]
  by_cases e:z=i
  ·subst e
   rw[if_pos rfl,if_pos (by simp;exact hi),yp z rfl hi,qo]
  ·rw[if_neg e,yp i rfl hi,yp i rfl hi,VV (λq=>e q.symm)]
 ·rw[List.getElem?_eq_none (by simp;omega),List.getElem?_eq_none (by simp;omega)]
theorem zd0 (n:Nat):List.replicate n [D.sc (.int .i64 0)]=zI (gl n λ_=>0):=by
 apply List.ext_getElem?
 intro i
 by_cases hi:i<n
 ·rw[yp i rfl hi,List.getElem?_replicate,if_pos hi]
 ·rw[List.getElem?_eq_none (by simp;omega),List.getElem?_eq_none (by simp;omega)]
theorem zcZ {H:List zf} {id v n:Nat} {q:Bool} {g:Nat→Int} (h:H[id]? = some (.vec q v 1 (zI (gl n g)))):Deep H (.own id v 0 n) (zB (gl n g)):=.own _ _ _ _ _ _ _ _ h (by rw[List.drop_zero,List.take_of_length_le (by simp[zI,gl])];exact z8 _)
end
section
open Go.RowKit
def gn (f:Nat→Nat):Nat→Int:=λi=>(f i:Int)
def wH (g:List (List Int)) (num low:Nat→Nat) (part:Nat→Int) (Z:List Int) (h z7 count YD:Nat):List zf :=
 [.vec true 0 1 (zI (gl g.length (gn num))),.vec true 0 1 (zI (gl g.length (gn low))),.vec true 0 1 (zI (gl g.length part)),.row true [yd g,.own 0 0 0 g.length,.own 1 0 0 g.length,.own 2 0 0 g.length,.own 4 z7 0 h,.sc (.int .i64 count),.sc (.int .i64 YD)],.vec true z7 1 (zI Z)]
theorem Qe {g:List (List Int)} {num low:Nat→Nat} {part:Nat→Int} {Z:List Int} {h z7 count YD:Nat}:∀o∈wH g num low part Z h z7 count YD,o.under 5:=by
 intro o ho
 simp only[wH,List.mem_cons,List.not_mem_nil,or_false] at ho
 rcases ho with rfl|rfl|rfl|rfl|rfl<;>simp[zf.under,zl,zt,zz _ (yf g)]
theorem zm7 (f:Nat→Nat) (k v:Nat):WG (gn f) k (v:Int)=gn (up f k v):=by
 funext i
 unfold WG gn up
 split<;>rfl
theorem zau {Z:List Int} {h:Nat} {x:Int}:List.drop 0 (List.take h (zI Z))++List.drop 0 (List.take 1 [[D.sc (.int .i64 x)]])=zI (Z.take h++[x]):=by simp[zI,List.map_take]
def c209:PC:=.seq (OP [qm 4 0,q 5 (.zq 4),Fa 6 5 5,Lo 7 6,Bi 8 .add 7 (cI 1),q 9 (.zq 4),Fa 10 5 9,So 1 10 8]) (.seq (.ops [qm 11 0,qd 12 (.zq 11) 1,qd 13 (.zy 1 12) 3,qd 14 (.zg 13) 7,qm 15 1,qm 16 0,qd 17 (.zq 16) 32,qd 18 (.zy 2 17) 96,qd 19 (.zg 18) 224,qm 20 1,qm 21 0,qd 22 (.zq 21) 1024,qd 23 (.zy 5 22) 3072,qd 24 (.zg 23) 7168,qm 25 0,qd 26 (.zq 25) 16384,qd 27 (.zy 5 26) 49152,qd 28 (.zg 27) 114688,qd 29 (.zM 1 14 15) 261631,qk (.store 1 29 24) 523775,qd 30 (.zM 1 19 20) 1048575,qk (.store 1 30 28) 2097151] true) (OP [qm 31 0,qm 32 0,q 33 (.zq 32),Fa 34 4 33,Lo 35 34,qm 36 1,Bs 37 1 1 [36],Ap 38 1 8 35 37,q 39 (.zq 31),Fa 40 4 39,So 1 40 38]))
theorem zxG:zv Tryz.prog 209 41 [] c209:=fK Tryz.func209
theorem zjT (g:List (List Int)) (hn:g.length≤1000000000) (num low:Nat→Nat) (part:Nat→Int) (Z:List Int) (h z7 count YD:Nat) (hh:h≤Z.length) (hh':h≤1000000000) (hc:count≤1000000000) (v:Nat) (hv:v<g.length) :
  yr Tryz.prog 209 [.loc 3 0,.sc (.int .i64 v)] (wH g num low part Z h z7 count YD) (.yP []) (wH g (up num v (count+1)) (up low v (count+1)) part (Z.take h++[(v:Int)]) (h+1) (z7+1) (count+1) YD):=by
 refine zS zxG zs (by simp[wH]) ?_ (by simp[zt,zl]) Qe
 unfold wH
 refine sR ?_
 refine sI ?_
 refine sB ?_
 refine⟨_,yp v zo hv,?_⟩
 refine sW ?_
 refine sB ?_
 refine⟨_,yp v zo hv,?_⟩
 refine sW ?_
 refine sJ ?_
 refine⟨?_,zs⟩
 rw[show(count:Int)+1=((count+1:Nat):Int) from rfl,qB (k:=v) zo,qB (k:=v) zo,zm7,zm7,zau]
 rfl
def zja (part:Nat→Int) (st:List Nat) (YD:Nat):Nat→Int:=λv=>if v∈st then (YD:Int) else part v
theorem zrz (part:Nat→Int) (YD:Nat):zja part [] YD=part:=by funext v;simp[zja]
theorem zgC (part:Nat→Int) (st:List Nat) (YD k:Nat):WG (zja part st YD) k (YD:Int)=zja part (st++[k]) YD:=by
 funext i
 unfold WG zja
 by_cases e:i=k
 ·subst e;simp
 ·simp[e]
def zA8:PC:=.block 1 (.seq (.ops [qm 5 0,qd 6 (.zq 5) 1,qd 7 (.zy 4 6) 3,qd 8 (.zg 7) 7,qm 9 0,qd 10 (.zq 9) 16,qd 11 (.zy 4 10) 48,qd 12 (.zg 11) 112,qd 13 (.len 12) 240,qd 14 (.bin .sub 13 (cI 1)) 496,qd 15 (.zM 1 8 14) 1023,qd 16 (.zg 15) 2047,qw 4 16 4095] true) (.seq (.ops [qm 17 0,qm 18 0,qd 19 (.zq 18) 2,qd 20 (.zy 4 19) 6,qd 21 (.zg 20) 14,qm 22 0,qd 23 (.zq 22) 32,qd 24 (.zy 4 23) 96,qd 25 (.zg 24) 224,qd 26 (.len 25) 480,qd 27 (.bin .sub 26 (cI 1)) 992,qd 28 (.slc 1 21 none (some 27) none) 2046,qd 29 (.zq 17) 4095,qd 30 (.zy 4 29) 8191,qk (.store 1 30 28) 16383] true) (.seq (.ops [qm 31 0,qd 32 (.zq 31) 1,qd 33 (.zy 3 32) 3,qd 34 (.zg 33) 7,qm 35 4,qm 36 0,qd 37 (.zq 36) 32,qd 38 (.zy 6 37) 96,qd 39 (.zg 38) 224,qd 40 (.zM 1 34 35) 511,qk (.store 1 40 39) 1023] true) (.seq (OP [qm 41 4,qm 42 1,Bi 43 .eql 41 42]) (.cond 43 (.exit 0) .skip)))))
def c210:PC:=.seq (.block 0 (.loop zA8)) (OP [qm 44 0,q 45 (.zq 44),Fa 46 6 45,Lo 47 46,Bi 48 .add 47 (cI 1),q 49 (.zq 44),Fa 50 6 49,So 1 50 48])
theorem zxQ:zv Tryz.prog 210 51 [] c210:=fK Tryz.func210
theorem ztf (g:List (List Int)) (hn:g.length≤1000000000) (num low:Nat→Nat) (part:Nat→Int) (Z:List Int) (pre post:List Nat) (n:Nat) (z7 count YD:Nat) (hh:(pre++n::post).length≤Z.length) (hh':(pre++n::post).length≤1000000000) (hg:YD≤1000000000)
  (hZ:∀j,j<(pre++n::post).length→Z.getD ((pre++n::post).length-1-j) 0=(((pre++n::post).getD j 0:Nat):Int)) (hst:∀v∈pre++n::post,v<g.length) (hp:n ∉ pre) :
  yr Tryz.prog 210 [.loc 3 0,.sc (.int .i64 n)] (wH g num low part Z (pre++n::post).length z7 count YD) (.yP []) (wH g num low (zja part (pre++[n]) YD) Z post.length z7 count (YD+1)):=by
 refine zS zxQ zs (by simp[wH]) ?_ (by simp[zt,zl]) Qe
 (apply zi8;focus (repeat' constructor))
 generalize hst0:pre++n::post=st at *
 refine ye [0,1] (λ_:Nat=>[]) (λj=>wH g num low (zja part (st.take j) YD) Z (st.length-j) z7 count YD)
  (λj=>j≤pre.length) (λj=>pre.length-j) 0 ?_
 refine sW ?_
 refine⟨zo,by exact sK,by rw[List.take_zero,zrz];rfl,?_⟩
 rintro j hj
 have hlen:st.length=pre.length+post.length+1:=by rw[←hst0];simp;omega
 have hkz:=hZ j zo
 have hks:st.getD j 0∈st:=by rw[List.getD_eq_getElem?_getD,List.getElem?_eq_getElem zo];exact List.getElem_mem _
 have hkn:=hst _ hks
 have htk:st.take (j+1)=st.take j++[st.getD j 0]:=by
  rw[List.take_add_one,List.getElem?_eq_getElem zo,List.getD_eq_getElem?_getD,List.getElem?_eq_getElem zo];rfl
 have hend:st.getD j 0=n↔j=pre.length:=by
  rw[←hst0]
  constructor
  ·intro e
   rcases Nat.lt_or_ge j pre.length with q|q
   ·exfalso
    rw[List.getD_eq_getElem?_getD,List.getElem?_append_left q,List.getElem?_eq_getElem q] at e
    exact hp (e▸List.getElem_mem q)
   ·omega
  ·intro e
   subst e
   rw[List.getD_eq_getElem?_getD,List.getElem?_append_right (Nat.le_refl _),Nat.sub_self]
   rfl
 generalize hk:st.getD j 0=k at *
 unfold wH
 refine sW ?_
 refine sR ?_
 refine sI ?_
 refine sB ?_
 refine⟨_,yc (l:=Z) (k:=st.length-1-j) zo zo,?_⟩
 rw[hkz]
 refine sW ?_
 refine sI ?_
 refine⟨zo,zo,zo,?_⟩
 refine sW ?_
 refine sB ?_
 refine⟨_,yp k zo hkn,?_⟩
 refine sW ?_
 refine sS (λq=>?_) λq=>?_
 ·have q:k=n:=sO
  have q':=hend.1 q
  refine sI ?_
  have hpn:st.take (j+1)=pre++[n]:=by
   rw[←hst0,q',show pre++n::post=(pre++[n])++post by simp,List.take_left' zs]
  refine⟨?_,zs⟩
  rw[qB (k:=k) zo,zgC,←htk,hpn,show 0+((st.length-j-0:Nat)-1:Int).toNat=post.length by omega]
  rfl
 ·have q:k≠n:=sO
  have q':=λz=>q (hend.2 z)
  refine⟨j+1,zo,zd,zD (by exact sK) ?_⟩
  rw[qB (k:=k) zo,zgC,←htk,show 0+((st.length-j-0:Nat)-1:Int).toNat=st.length-(j+1) by omega]
end
section
structure TR where
 S:TJ
 Z:List Int
 z7:Nat
structure ZOK (st:List Nat) (Z:List Int):Prop where
 len:st.length≤Z.length
 at_:∀j,j<st.length→Z.getD (st.length-1-j) 0=((st.getD j 0:Nat):Int)
theorem ZOK.push {st:List Nat} {Z:List Int} (h:ZOK st Z) (v:Nat):ZOK (v::st) (Z.take st.length++[(v:Int)]) where
 len:=by have:=h.len;simp;omega
 at_ j hj:=by
  have hl:=h.len
  simp only[List.length_cons] at hj ⊢
  cases j with
  | zero =>
   rw[List.getD_eq_getElem?_getD,List.getElem?_append_right (by simp;omega)]
   rw[show st.length+1-1-0-(Z.take st.length).length=0 by simp;omega]
   rfl
  | succ j =>
   have:=h.at_ j zo
   rw[List.getD_cons_succ,←this,List.getD_eq_getElem?_getD,List.getD_eq_getElem?_getD,List.getElem?_append_left (by simp;omega),List.getElem?_take,if_pos zo,show st.length+1-1-(j+1)=st.length-1-j by omega]
theorem ZOK.drop {pre post:List Nat} {Z:List Int} (h:ZOK (pre++post) Z):ZOK post Z where
 len:=by have:=h.len;simp at this;omega
 at_ j hj:=by
  have:=h.at_ (pre.length+j) (by simp;omega)
  rw[List.getD_eq_getElem?_getD (l:=pre++post),List.getElem?_append_right zo,Nat.add_sub_cancel_left,←List.getD_eq_getElem?_getD,List.length_append,show pre.length+post.length-1-(pre.length+j)=post.length-1-j by omega] at this
  exact this
structure TRI (g:List (List Int)) (R:TR):Prop where
 tj:TjI g R.S
 zok:ZOK R.S.stack R.Z
def TR.open (R:TR) (v:Nat) (path:List (Nat × Nat)):TR:=⟨R.S.open v path,R.Z.take R.S.stack.length++[(v:Int)],R.z7+1⟩
def stepT (g:List (List Int)) (R:TR):TR :=
 match R.S.path with
 | []=>R
 | (p,i)::r =>
  if i<(g.getD p []).length then
   if R.S.num ((g.getD p []).getD i 0).toNat=0 then R.open ((g.getD p []).getD i 0).toNat ((p,i+1)::r)
   else ⟨R.S.skip p i r ((g.getD p []).getD i 0).toNat,R.Z,R.z7⟩
  else match r with
   | []=>⟨R.S.shut p [] R.S.low,R.Z,R.z7⟩
   | (q,j)::r'=>if R.S.low p=R.S.num p then ⟨R.S.shut p ((q,j)::r') (up R.S.low q (min (R.S.low q) (R.S.low p))),R.Z,R.z7⟩ else ⟨R.S.back p q j r',R.Z,R.z7⟩
def runT (g:List (List Int)):Nat→TR→TR
 | 0,R=>R
 | k+1,R=>if R.S.path=[] then R else runT g k (stepT g R)
theorem ztn {g:List (List Int)} {R:TR} (h:R.S.path=[]):∀k,runT g k R=R
 | 0=>rfl
 | k+1=>by simp only[runT,if_pos h]
theorem TjI.split {g:List (List Int)} {S:TJ} (h:TjI g S) {n:Nat} (hn:n∈S.stack):∃pre post,S.stack=pre++n::post∧n ∉ pre∧(∀v,v∈pre++[n]↔v∈S.stack∧S.num n≤S.num v)∧S.stack.filter (λv=>decide (S.num v<S.num n))=post:=by
 obtain⟨pre,post,e⟩:=List.append_of_mem hn
 have hs:=h.srt
 rw[e,List.pairwise_append] at hs
 obtain⟨s1,s2,s3⟩:=hs
 rw[List.pairwise_cons] at s2
 have p1:∀v∈pre,S.num n<S.num v:=λv hv=>s3 v hv n zs
 have p2:∀v∈post,S.num v<S.num n:=λv hv=>s2.1 v hv
 refine⟨pre,post,e,λq=>by have:=p1 n q;omega,λv=>?_,?_⟩
 ·rw[e]
  simp only[List.mem_append,List.mem_cons,List.not_mem_nil,or_false]
  constructor
  ·rintro(q|q)
   ·exact⟨.inl q,Nat.le_of_lt (p1 v q)⟩
   ·subst q;exact⟨.inr (.inl rfl),Nat.le_refl _⟩
  ·rintro⟨q|q|q,k⟩
   ·exact .inl q
   ·exact .inr q
   ·have:=p2 v q;omega
 ·rw[e,List.filter_append,List.filter_cons,if_neg zs]
  have f1:pre.filter (λv=>decide (S.num v<S.num n))=[]:=List.filter_eq_nil_iff.2 λv hv=>by have:=p1 v hv;simp;omega
  have f2:post.filter (λv=>decide (S.num v<S.num n))=post:=List.filter_eq_self.2 λv hv=>by simpa using p2 v hv
  rw[f1,f2];rfl
theorem TjI.zjc {g:List (List Int)} {S:TJ} (h:TjI g S) {p i:Nat} (hp:S.path=[(p,i)]):S.low p=S.num p:=by
 have hseg:=h.seg
 rw[hp] at hseg
 obtain⟨g1,g2,g3,g4,g5,⟨w,w1,w2,w3⟩,g7,g8,g9⟩:=hseg
 have:=g9 w w1
 omega
theorem TRI.shut {g:List (List Int)} {R:TR} (h:TRI g R) {n i:Nat} {r:List (Nat × Nat)} (hp:R.S.path=(n,i)::r) (hi:(g.getD n []).length≤i) (hl:R.S.low n=R.S.num n) {low:Nat→Nat} (hlow:∀v,R.S.num v<R.S.num n→low v=R.S.low v):TRI g ⟨R.S.shut n r low,R.Z,R.z7⟩:=by
 refine⟨h.tj.shut hp hi hl hlow,?_⟩
 have hn:n∈R.S.stack:=by have:=h.tj.seg;rw[hp] at this;exact this.1
 obtain⟨pre,post,e,e1,e2,e3⟩:=h.tj.split hn
 show ZOK (R.S.stack.filter _) R.Z
 rw[e3]
 have:=h.zok
 rw[e,show pre++n::post=(pre++[n])++post by simp] at this
 exact this.drop
theorem zke {g:List (List Int)} (xR:∀v x,x∈g.getD v []→x.toNat<g.length) {R:TR} (h:TRI g R) (hp:R.S.path≠[]):TRI g (stepT g R)∧TJ.fuel g (stepT g R).S<TJ.fuel g R.S∧∀x,R.S.num x≠0→(stepT g R).S.num x≠0:=by
 unfold stepT
 cases e:R.S.path with
 | nil=>exact absurd e hp
 | cons q r =>
  obtain⟨p,i⟩:=q
  dsimp only
  by_cases hi:i<(g.getD p []).length
  ·rw[if_pos hi]
   have hv:=xR p _ (yz hi)
   by_cases h0:R.S.num ((g.getD p []).getD i 0).toNat=0
   ·rw[if_pos h0]
    refine⟨⟨h.tj.push e hi hv h0,h.zok.push _⟩,by have:=zou e hi hv h0;show TJ.fuel g (R.S.open _ _)<_;omega,λx hx=>?_⟩
    show up R.S.num _ _ x≠0
    rw[v8 (λq=>hx (by rw[q];exact h0))]
    exact hx
   ·rw[if_neg h0]
    exact⟨⟨h.tj.skip e hi h0,h.zok⟩,by have:=zoL (x:=((g.getD p []).getD i 0).toNat) e hi;show TJ.fuel g (R.S.skip _ _ _ _)<_;omega,λx hx=>hx⟩
  ·rw[if_neg hi]
   cases r with
   | nil =>
    exact⟨h.shut e zo (h.tj.zjc e) (λ_ _=>rfl),zgz e,λx hx=>hx⟩
   | cons q r =>
    obtain⟨q,j⟩:=q
    dsimp only
    by_cases hl:R.S.low p=R.S.num p
    ·rw[if_pos hl]
     have hseg:=h.tj.seg
     rw[e] at hseg
     obtain⟨g1,g2,g3,g4,g5,g6,g7,g8,f1,f2,f3,f4,f5,f6,f7,f8,f9⟩:=hseg
     refine⟨h.shut e zo hl (λv _=>?_),zgz e,λx hx=>hx⟩
     by_cases ev:v=q
     ·subst ev;rw[wN];omega
     ·rw[v8 ev]
    ·rw[if_neg hl]
     exact⟨⟨h.tj.back e zo hl,h.zok⟩,zoN e,λx hx=>hx⟩
theorem znF {g:List (List Int)} (xR:∀v x,x∈g.getD v []→x.toNat<g.length):∀(k:Nat) {R:TR},TRI g R→TJ.fuel g R.S≤k→TRI g (runT g k R)∧(runT g k R).S.path=[]∧∀x,R.S.num x≠0→(runT g k R).S.num x≠0
 | 0,R,h,hk=>by
  have hp:R.S.path=[]:=by
   cases e:R.S.path with
   | nil=>rfl
   | cons q r=>obtain⟨p,i⟩:=q;unfold TJ.fuel at hk;rw[e] at hk;simp only[WC] at hk;omega
  exact⟨h,hp,λx hx=>hx⟩
 | k+1,R,h,hk=>by
  simp only[runT]
  by_cases hp:R.S.path=[]
  ·rw[if_pos hp];exact⟨h,hp,λx hx=>hx⟩
  ·rw[if_neg hp]
   obtain⟨a,b,c⟩:=zke xR h hp
   obtain⟨a',b',c'⟩:=znF xR k a zo
   exact⟨a',b',λx hx=>c' x (c x hx)⟩
theorem TRI.root {g:List (List Int)} {R:TR} (h:TRI g R) (hp:R.S.path=[]) {v:Nat} (hv:v<g.length) (h0:R.S.num v=0):TRI g (R.open v []):=by
 refine⟨h.tj.opened hv h0 (Nat.zero_le _) ?_ trivial,h.zok.push v⟩
 have:=h.tj.seg
 rw[hp] at this
 exact this
def VD (g:List (List Int)) (R:TR) (v:Nat):TR:=runT g (TJ.fuel g (R.open v []).S) (R.open v [])
def xt (g:List (List Int)):Nat→TR
 | 0=>⟨⟨λ_=>0,λ_=>0,λ_=>-1,[],[],0,0⟩,[],0⟩
 | k+1=>if (xt g k).S.num k=0 then VD g (xt g k) k else xt g k
theorem zoZ {g:List (List Int)} (xR:∀v x,x∈g.getD v []→x.toNat<g.length) {R:TR} (h:TRI g R) (hp:R.S.path=[]) {v:Nat} (hv:v<g.length) (h0:R.S.num v=0) :
  TRI g (VD g R v)∧(VD g R v).S.path=[]∧(VD g R v).S.num v≠0∧∀x,R.S.num x≠0→(VD g R v).S.num x≠0:=by
 obtain⟨a,b,c⟩:=znF xR _ (h.root hp hv h0) (Nat.le_refl _)
 refine⟨a,b,c v ?_,λx hx=>c x ?_⟩
 ·show up R.S.num v (R.S.count+1) v≠0;rw[wN];omega
 ·show up R.S.num v (R.S.count+1) x≠0
  by_cases e:x=v
  ·subst e;rw[wN];omega
  ·rw[v8 e];exact hx
theorem Vs {g:List (List Int)} (xR:∀v x,x∈g.getD v []→x.toNat<g.length):∀k,k≤g.length→TRI g (xt g k)∧(xt g k).S.path=[]∧∀j,j<k→(xt g k).S.num j≠0
 | 0,_=>⟨⟨TjI.zero g,⟨Nat.le_refl _,λj hj=>by cases hj⟩⟩,rfl,λj hj=>by cases hj⟩
 | k+1,hk=>by
  obtain⟨a,b,c⟩:=Vs xR k zo
  simp only[xt]
  by_cases h0:(xt g k).S.num k=0
  ·rw[if_pos h0]
   obtain⟨a',b',c',d'⟩:=zoZ xR a b (show k<g.length by omega) h0
   refine⟨a',b',λj hj=>?_⟩
   by_cases e:j=k
   ·subst e;exact c'
   ·exact d' j (c j zo)
  ·rw[if_neg h0]
   refine⟨a,b,λj hj=>?_⟩
   by_cases e:j=k
   ·subst e;exact h0
   ·exact c j zo
theorem zoq {g:List (List Int)} (xR:∀v x,x∈g.getD v []→x.toNat<g.length):(∀i,i<g.length→0≤(xt g g.length).S.part i∧(xt g g.length).S.part i<((xt g g.length).S.YD:Int)) ∧
  (∀i j,i<g.length→j<g.length→((xt g g.length).S.part i=(xt g g.length).S.part j↔zaF g i j=true))∧(xt g g.length).S.YD≤g.length:=by
 obtain⟨a,b,c⟩:=Vs xR g.length (Nat.le_refl _)
 have hd:=λi (hi:i<g.length)=>a.tj.done b (c i hi)
 refine⟨λi hi=>⟨hd i hi,(a.tj.par i (hd i hi)).1⟩,λi j hi hj=>?_,?_⟩
 ·rw[a.tj.same i j (hd i hi) (hd j hj),xu]
 ·have h1:=a.tj.size
  have h2:=a.tj.seen
  omega
end
section
open Go.RowKit
def pz (l:List (Nat × Nat)):List (List D):=l.map λq=>[.sc (.int .i64 q.1),.sc (.int .i64 q.2)]
theorem zxJ (l:List (Nat × Nat)):yJ (pz l):=zC _ (λl=>by simp[zb,Pure]) l
@[simp] theorem zzt {m:Nat} (l:List (Nat × Nat)):zF m (pz l)↔True:=⟨λ_=>trivial,λ_=>zi _ (zxJ l)⟩
theorem zrs {l:List (Nat × Nat)} {z k:Nat} (hz:z=k) (h:k<l.length):(pz l)[z]? = some [.sc (.int .i64 (l.getD k (0,0)).1),.sc (.int .i64 (l.getD k (0,0)).2)]:=by
 subst hz
 rw[List.getD_eq_getElem?_getD,List.getElem?_eq_getElem h]
 simp[pz,h]
theorem zAh {l:List (Nat × Nat)} {z k a b:Nat} (hz:z=k):(pz l).set z [.sc (.int .i64 a),.sc (.int .i64 b)]=pz (l.set k (a,b)):=by
 subst hz;simp[pz,List.map_set]
theorem zyx {Z:List (Nat × Nat)} {h a:Nat}:List.drop 0 (List.take h (pz Z))++List.drop 0 (List.take 1 [[D.sc (.int .i64 a),D.sc (.int .i64 0)]])=pz (Z.take h++[(a,0)]):=by simp[pz,List.map_take]
structure POK (pa:List (Nat × Nat)) (PZ:List (Nat × Nat)):Prop where
 len:pa.length≤PZ.length
 eq:PZ.take pa.length=pa.reverse
theorem POK.top {q:Nat × Nat} {r PZ:List (Nat × Nat)} (h:POK (q::r) PZ):PZ.getD r.length (0,0)=q:=by
 have h1:=h.len
 have h2:=h.eq
 simp only[List.length_cons,List.reverse_cons] at h1 h2
 have h3:(PZ.take (r.length+1)).getD r.length (0,0)=(r.reverse++[q]).getD r.length (0,0):=by rw[h2]
 rw[List.getD_eq_getElem?_getD,List.getD_eq_getElem?_getD,List.getElem?_take,if_pos zo,List.getElem?_append_right zs] at h3
 rw[List.getD_eq_getElem?_getD,h3]
 simp
theorem POK.set {q q':Nat × Nat} {r PZ:List (Nat × Nat)} (h:POK (q::r) PZ):POK (q'::r) (PZ.set r.length q') where
 len:=by have:=h.len;simpa using this
 eq:=by
  have h1:=h.len
  have h2:=h.eq
  simp only[List.length_cons,List.reverse_cons] at h1 h2 ⊢
  rw[List.take_set,h2,List.set_append_right _ _ zs]
  simp
theorem POK.push {r PZ:List (Nat × Nat)} (h:POK r PZ) (q:Nat × Nat):POK (q::r) (PZ.take r.length++[q]) where
 len:=by have:=h.len;simp;omega
 eq:=by
  have h1:=h.len
  rw[List.take_of_length_le (by simp;omega),h.eq]
  simp
theorem POK.pop {q:Nat × Nat} {r PZ:List (Nat × Nat)} (h:POK (q::r) PZ):POK r PZ where
 len:=by have:=h.len;simp at this;omega
 eq:=by
  have h2:=h.eq
  simp only[List.length_cons,List.reverse_cons] at h2
  have h3:(PZ.take (r.length+1)).take r.length=(r.reverse++[q]).take r.length:=by rw[h2]
  rw[List.take_take,Nat.min_eq_left zo,List.take_left' zs] at h3
  exact h3
def Yr (g:List (List Int)) (R:TR):List zf:=wH g R.S.num R.S.low R.S.part R.Z R.S.stack.length R.z7 R.S.count R.S.YD
theorem zgw {g:List (List Int)} {num low:Nat→Nat} {part:Nat→Int} {Z:List Int} {h z7 count YD:Nat} (X:List zf) :
  []++((wH g num low part Z h z7 count YD).map (zf.yG λi=>([]:List zf).length+i)++X)=wH g num low part Z h z7 count YD++X:=by
 have e:(λi=>([]:List zf).length+i)=λi=>0+i:=rfl
 have hg:=λρ=>yM (ρ:=ρ) _ (yf g)
 have h1:=λρ l=>yA (ρ:=ρ) _ (zC (λn:Int=>[D.sc (.int .i64 n)]) (λl=>by simp[zb,Pure]) l)
 simp only[wH,List.map_cons,List.map_nil,zf.yG,yE,hg,zI,h1,List.nil_append,List.cons_append]
 simp only[D.yG,Nat.zero_add,List.length_nil]
theorem ziJ {g:List (List Int)} {num low:Nat→Nat} {part:Nat→Int} {Z:List Int} {h z7 count YD:Nat}:wJ 5 (wH g num low part Z h z7 count YD):=by
 simp[wH,wJ,zf.under,zl,zt,zz _ (yf g)]
theorem V5 {g:List (List Int)} {f:FuncId} {v:Int} {num low num' low':Nat→Nat} {part part':Nat→Int} {Z Z':List Int} {h z7 count YD h' ver' count' got':Nat}
  (hA:yr Tryz.prog f [.loc 3 0,.sc (.int .i64 v)] (wH g num low part Z h z7 count YD) (.yP []) (wH g num' low' part' Z' h' ver' count' got')) (X:List zf) :
  yr Tryz.prog f [.loc 3 0,.sc (.int .i64 v)] (wH g num low part Z h z7 count YD++X) (.yP []) (wH g num' low' part' Z' h' ver' count' got'++X) :=
 vI hA [] X (by simp[wH]) (by simp[wH,zl,zt]) ziJ (by simp[yE,D.yG]) (by simp[D.yG,yE]) (zgw X) (zgw X)
theorem TRI.bounds {g:List (List Int)} {R:TR} (h:TRI g R) (hn:g.length≤1000000000):R.S.stack.length≤1000000000∧R.S.count≤1000000000∧R.S.YD≤1000000000∧R.S.path.length≤1000000000:=by
 have h1:=h.tj.size
 have h2:=h.tj.seen
 have h3:=h.tj.deep
 omega
theorem J9 {g:List (List Int)} (hn:g.length≤1000000000) {R:TR} (hI:TRI g R) {p:Nat} (hp:p∈R.S.stack) (low:Nat→Nat) (path:List (Nat × Nat)) (X:List zf) :
  yr Tryz.prog 210 [.loc 3 0,.sc (.int .i64 p)] (wH g R.S.num low R.S.part R.Z R.S.stack.length R.z7 R.S.count R.S.YD++X) (.yP []) (Yr g ⟨R.S.shut p path low,R.Z,R.z7⟩++X):=by
 have hb:=hI.bounds hn
 obtain⟨pre,post,e,e1,e2,e3⟩:=hI.tj.split hp
 have hst:∀v∈pre++p::post,v<g.length:=λv hv=>hI.tj.node v ((hI.tj.stk v).1 (e▸hv)).1
 have hl:=hI.zok.len
 have ha:=hI.zok.at_
 rw[e] at hl ha hb
 have hC:=ztf g hn R.S.num low R.S.part R.Z pre post p R.z7 R.S.count R.S.YD hl hb.1 hb.2.2.1 ha hst e1
 have ep:zja R.S.part (pre++[p]) R.S.YD=(R.S.shut p path low).part:=by
  funext v
  show(if v∈pre++[p] then _ else _)=if v∈R.S.stack∧R.S.num p≤R.S.num v then _ else _
  by_cases q:v∈pre++[p]
  ·rw[if_pos q,if_pos ((e2 v).1 q)]
  ·rw[if_neg q,if_neg (λz=>q ((e2 v).2 z))]
 have es:(R.S.shut p path low).stack=post:=e3
 have:=V5 hC X
 rw[ep,←e,←es] at this
 exact this
def zy9:PC:=.seq (.seq (OP [qm 15 4,Ln 16 15,Bi 17 .gtr 16 (cI 0)]) (.cond 17 .skip (.exit 0))) (.block 1 (.seq (OP [qm 18 4,qm 19 4,Ln 20 19,Bi 21 .sub 20 (cI 1),Ia 22 2 18 21,qm 5 22]) (.seq (.seq (.ops [qm 23 5,qd 24 (.zq 23) 1,qd 25 (.zy 1 24) 3,qd 26 (.zg 25) 7,qm 27 0,qd 28 (.zq 27) 16,qd 29 (.zy 0 28) 48,qd 30 (.zg 29) 112,qm 31 5,qd 32 (.zq 31) 256,qd 33 (.zy 0 32) 768,qd 34 (.zg 33) 1792,qd 35 (.zM 1 30 34) 4080,qd 36 (.zg 35) 8176,qd 37 (.len 36) 16368,qd 38 (.bin .lss 26 37) 32767] true) (.cond 38 (.seq (.ops [qm 39 0,qd 40 (.zq 39) 1,qd 41 (.zy 0 40) 3,qd 42 (.zg 41) 7,qm 43 5,qd 44 (.zq 43) 16,qd 45 (.zy 0 44) 48,qd 46 (.zg 45) 112,qd 47 (.zM 1 42 46) 255,qd 48 (.zg 47) 511,qm 49 5,qd 50 (.zq 49) 1024,qd 51 (.zy 1 50) 3072,qd 52 (.zg 51) 7168,qd 53 (.zM 1 48 52) 16383,qd 54 (.zg 53) 32767,qw 6 54 65535] true) (.seq (OP [qm 55 5,q 56 (.zq 55),Fa 57 1 56,Lo 58 57,Bi 59 .add 58 (cI 1),q 60 (.zq 55),Fa 61 1 60,So 1 61 59]) (.seq (.block 2 (.seq (OP [qm 63 0,q 64 (.zq 63),Fa 65 1 64,Lo 66 65,qm 67 6,Ia 68 1 66 67,Lo 69 68,Bi 70 .eql 69 (cI 0),qm 62 70]) (.cond 62 (.seq (OP [qm 71 0,qm 72 6,Ca 73 209 [71,72]]) (OP [qm 74 4,qm 75 6,q 76 (.build [(.int .i64 0),(.int .i64 0)] [(0,1,75),(1,1,(cI 0))]),Bs 77 2 1 [76],Ap 78 2 16 74 77,qm 4 78])) (.seq (OP [qm 80 0,q 81 (.zq 80),Fa 82 3 81,Lo 83 82,qm 84 6,Ia 85 1 83 84,Lo 86 85,Bi 87 .lss 86 (cI 0),qm 79 87]) (.cond 79 (.ops [qm 88 0,qd 89 (.zq 88) 1,qd 90 (.zy 2 89) 3,qd 91 (.zg 90) 7,qm 92 5,qd 93 (.zq 92) 16,qd 94 (.zy 0 93) 48,qd 95 (.zg 94) 112,qm 96 0,qd 97 (.zq 96) 256,qd 98 (.zy 2 97) 768,qd 99 (.zg 98) 1792,qm 100 5,qd 101 (.zq 100) 4096,qd 102 (.zy 0 101) 12288,qd 103 (.zg 102) 28672,qd 104 (.zM 1 99 103) 65280,qd 105 (.zg 104) 130816,qm 106 0,qd 107 (.zq 106) 262144,qd 108 (.zy 1 107) 786432,qd 109 (.zg 108) 1835008,qm 110 6,qd 111 (.zM 1 109 110) 8126464,qd 112 (.zg 111) 16515072,qd 113 (.mx false 105 112) 33554176,qd 114 (.zM 1 91 95) 67108863,qk (.store 1 114 113) 134217727] true) .skip))))) (.exit 1)))) .skip)) (.seq (OP [qm 115 5,q 116 (.zq 115),Fa 117 0 116,Lo 118 117,qm 7 118]) (.seq (OP [qm 119 4,qm 120 4,Ln 121 120,Bi 122 .sub 121 (cI 1),q 123 (.slc 2 119 none (some 122) none),qm 4 123]) (.seq (.seq (OP [qm 124 4,Ln 125 124,Bi 126 .gtr 125 (cI 0)]) (.cond 126 (.seq (OP [qm 127 4,qm 128 4,Ln 129 128,Bi 130 .sub 129 (cI 1),Ia 131 2 127 130,Fa 132 0 131,Lo 133 132,qm 8 133]) (.ops [qm 134 0,qd 135 (.zq 134) 1,qd 136 (.zy 2 135) 3,qd 137 (.zg 136) 7,qm 138 8,qm 139 0,qd 140 (.zq 139) 32,qd 141 (.zy 2 140) 96,qd 142 (.zg 141) 224,qm 143 8,qd 144 (.zM 1 142 143) 992,qd 145 (.zg 144) 2016,qm 146 0,qd 147 (.zq 146) 4096,qd 148 (.zy 2 147) 12288,qd 149 (.zg 148) 28672,qm 150 7,qd 151 (.zM 1 149 150) 126976,qd 152 (.zg 151) 258048,qd 153 (.mx false 145 152) 524256,qd 154 (.zM 1 137 138) 1048575,qk (.store 1 154 153) 2097151] true)) .skip)) (.seq (.ops [qm 155 0,qd 156 (.zq 155) 1,qd 157 (.zy 2 156) 3,qd 158 (.zg 157) 7,qm 159 7,qd 160 (.zM 1 158 159) 31,qd 161 (.zg 160) 63,qm 162 0,qd 163 (.zq 162) 128,qd 164 (.zy 1 163) 384,qd 165 (.zg 164) 896,qm 166 7,qd 167 (.zM 1 165 166) 3968,qd 168 (.zg 167) 8064,qd 169 (.bin .eql 161 168) 16383] true) (.cond 169 (OP [qm 170 0,qm 171 7,Ca 172 210 [170,171]]) .skip))))))))
def c159:PC:=.seq (OP [qm 9 1,q 10 (.build [(.int .i64 0),(.int .i64 0)] [(0,1,9),(1,1,(cI 0))]),Bs 11 2 1 [10],qm 4 11]) (.seq (OP [qm 12 0,qm 13 1,Ca 14 209 [12,13]]) (.block 0 (.loop zy9)))
theorem zuH:zv Tryz.prog 159 173 [] c159:=fK Tryz.func159
theorem zsb (g:List (List Int)) (hn:g.length≤1000000000) (hin0:∀l∈g,xJ l g.length=true) (hF:uZ g) (R:TR) (hR:TRI g R) (hp:R.S.path=[]) (v:Nat) (hv:v<g.length) (h0:R.S.num v=0) :
  yr Tryz.prog 159 [.loc 3 0,.sc (.int .i64 v)] (Yr g R) (.yP []) (Yr g (VD g R v)):=by
 have hrow:=λk=>xa hin0 k
 have xR:∀v x,x∈g.getD v []→x.toNat<g.length:=λv x hx=>by have:=z1 (hrow v) hx;omega
 have hb:=hR.bounds hn
 have hB:=V5 (zjT g hn R.S.num R.S.low R.S.part R.Z R.S.stack.length R.z7 R.S.count R.S.YD hR.zok.len hb.1 hb.2.1 v hv) [.vec true 0 2 (pz [(v,0)])]
 refine zS zuH zs (by simp[Yr,wH]) ?_ (by simp[zt,zl]) Qe
 have hI0:=hR.root hp hv h0
 have eF:VD g R v=runT g (TJ.fuel g (R.open v []).S) (R.open v []):=rfl
 generalize VD g R v=Fin at *
 have eO:Yr g (R.open v [])=wH g (up R.S.num v (R.S.count+1)) (up R.S.low v (R.S.count+1)) R.S.part (R.Z.take R.S.stack.length++[(v:Int)]) (R.S.stack.length+1) (R.z7+1) (R.S.count+1) R.S.YD:=rfl
 rw[←eO] at hB
 clear eO
 have ep:(R.open v []).S.path=[(v,0)]:=rfl
 generalize R.open v []=R0 at *
 unfold Yr wH at hB ⊢
 refine sR ?_
 refine sA hB ?_
 refine ye [0] (λ((R,PZ,pver,k):TR × List (Nat × Nat) × Nat × Nat)=>[(4,.own 5 pver 0 R.S.path.length)]) (λ(R,PZ,pver,k)=>Yr g R++[.vec true pver 2 (pz PZ)])
  (λ(R,PZ,pver,k)=>TRI g R∧POK R.S.path PZ∧TJ.fuel g R.S≤k∧runT g k R=Fin) (λ(R,PZ,pver,k)=>TJ.fuel g R.S) (R0,[(v,0)],0,TJ.fuel g R0.S) ?_
 refine sW ?_
 refine⟨⟨hI0,by rw[ep];exact⟨zs,rfl⟩,Nat.le_refl _,eF.symm⟩,⟨by rw[ep];rfl,by exact sK⟩,rfl,?_⟩
 clear hB hI0 ep eF
 rintro⟨R,PZ,pver,k⟩ ⟨hI,hPZ,hk,hF'⟩
 have hb:=hI.bounds hn
 cases ep:R.S.path with
 | nil =>
  rw[ztn ep] at hF'
  subst hF'
  have hph:R.S.path.length=0:=by rw[ep];rfl
  unfold Yr wH
  refine sW ?_
  refine sR ?_
  rw[hph]
  refine sW ?_
  show(5:Nat)≤6
  omega
 | cons q r =>
  obtain⟨p,i⟩:=q
  have hst:=hI.tj.seg
  rw[ep] at hst hPZ
  have hps:=hst.1
  have hpn:=hI.tj.node p ((hI.tj.stk p).1 hps).1
  have hsO:=zke xR hI (by rw[ep];simp)
  obtain⟨k',rfl⟩:∃k',k=k'+1:=⟨k-1,by have:=hsO.2.1;omega⟩
  have hF'':runT g k' (stepT g R)=Fin:=by rw[←hF'];simp only[runT];rw[if_neg (by rw[ep];simp)]
  have hlt:=hsO.2.1
  have hI':=hsO.1
  have htop:=hPZ.top
  have hPl:=hPZ.len
  rw[ep] at hb
  simp only[List.length_cons] at hb hPl
  have hgF:=hF.at p
  have hph:R.S.path.length=r.length+1:=by rw[ep];rfl
  generalize hS':stepT g R=R' at *
  unfold Yr wH yd
  refine sW ?_
  refine sR ?_
  rw[hph]
  refine sS (λq0=>?_) λq0=>?_
  ·have hat:(pz PZ)[r.length]? = some [.sc (.int .i64 p),.sc (.int .i64 i)]:=by rw[zrs rfl zo,htop]
   refine sI ?_
   refine sB ?_
   rw[show 0+(((r.length+1-0:Nat):Int)-1).toNat=r.length by omega]
   refine⟨_,hat,?_⟩
   refine sW ?_
   refine⟨_,hat,?_⟩
   refine sW ?_
   refine sL (xX (k:=p) zo hpn) ?_
   rw[List.length_map]
   refine sS (λhi=>?_) λhi=>?_
   ·have hi:i<(g.getD p []).length:=sO
    have hx:=z1 (hrow p) (yz hi)
    refine⟨_,hat,?_⟩
    refine sW ?_
    refine sL (xX (k:=p) zo hpn) ?_
    refine⟨_,hat,?_⟩
    refine sW ?_
    refine sL (yc (l:=g.getD p []) (k:=i) zo hi) ?_
    refine⟨_,hat,?_⟩
    refine sW ?_
    refine sI ?_
    refine⟨_,hat,?_⟩
    refine sW ?_
    rw[show(i:Int)+1=((i+1:Nat):Int) from rfl,zAh (k:=r.length) rfl]
    have hPS:=hPZ.set (q':=(p,i+1))
    have hSl:(PZ.set r.length (p,i+1)).length=PZ.length:=zs
    have hto:stepT g R=if R.S.num ((g.getD p []).getD i 0).toNat=0 then R.open ((g.getD p []).getD i 0).toNat ((p,i+1)::r) else ⟨R.S.skip p i r ((g.getD p []).getD i 0).toNat,R.Z,R.z7⟩:=by
     unfold stepT;rw[ep];simp only[if_pos hi]
    have hxe:∀k,k=i→(g.getD p []).getD k 0=(g.getD p []).getD i 0:=λk e=>by rw[e]
    generalize (g.getD p []).getD i 0=x at *
    obtain⟨to,rfl⟩:∃to:Nat,x=to:=⟨x.toNat,zo⟩
    rw[Int.toNat_natCast] at hto
    have htn:to<g.length:=zo
    refine sB ?_
    refine⟨_,yp to zo htn,?_⟩
    refine sW ?_
    rw[show gn R.S.num to=(R.S.num to:Int) from rfl]
    refine sS (λh1=>?_) λh1=>?_
    ·have h1:R.S.num to=0:=sO
     rw[if_pos h1,hS'] at hto
     subst hto
     have hB:=V5 (zjT g hn R.S.num R.S.low R.S.part R.Z R.S.stack.length R.z7 R.S.count R.S.YD hI.zok.len hb.1 hb.2.1 to htn) [.vec true pver 2 (pz (PZ.set r.length (p,i+1)))]
     unfold wH yd at hB
     refine sA hB ?_
     refine sJ ?_
     refine⟨(R.open to ((p,i+1)::r),(PZ.set r.length (p,i+1)).take (r.length+1)++[(to,0)],pver+1,k'),⟨hI',hPS.push (to,0),zo,hF''⟩,zd,?_⟩
     refine zm 6 zs rfl sQ (sU ?_)
     exact zp zyx
    ·have h1:R.S.num to≠0:=sO
     rw[if_neg h1,hS'] at hto
     subst hto
     have hcn:=hI.tj.cnt to
     have hcp:=hI.tj.cnt p
     refine sB ?_
     refine⟨_,yp to zo htn,?_⟩
     refine sW ?_
     refine sS (λh2=>?_) λh2=>?_
     ·have h2:R.S.part to<0:=sO
      have hat':(pz (PZ.set r.length (p,i+1)))[r.length]? = some [.sc (.int .i64 p),.sc (.int .i64 ((i+1:Nat):Int))]:=by
       rw[zrs rfl zo,hPS.top]
      refine⟨_,hat',?_⟩
      refine sW ?_
      refine⟨_,hat',?_⟩
      refine sW ?_
      refine sB ?_
      refine⟨_,yp p zo hpn,?_⟩
      refine sW ?_
      refine sB ?_
      refine⟨_,yp to zo htn,?_⟩
      refine sW ?_
      refine sB ?_
      refine⟨_,yp p zo hpn,?_⟩
      refine sW ?_
      have el:(R.S.skip p i r to).low=up R.S.low p (min (R.S.low p) (R.S.num to)):=if_pos h2
      refine⟨(⟨R.S.skip p i r to,R.Z,R.z7⟩,PZ.set r.length (p,i+1),pver,k'),⟨hI',hPS,zo,hF''⟩,zd,zD (by exact sK) ?_⟩
      dsimp only
      rw[el,show min (gn R.S.low p) (gn R.S.num to)=((min (R.S.low p) (R.S.num to):Nat):Int) by unfold gn;omega,qB (k:=p) zo,zm7]
      rfl
     ·have h2:¬R.S.part to<0:=sO
      have el:(R.S.skip p i r to).low=R.S.low:=if_neg h2
      refine⟨(⟨R.S.skip p i r to,R.Z,R.z7⟩,PZ.set r.length (p,i+1),pver,k'),⟨hI',hPS,zo,hF''⟩,zd,zD (by exact sK) ?_⟩
      dsimp only
      rw[el]
      rfl
   ·have hi:(g.getD p []).length≤i:=by have:¬i<(g.getD p []).length:=sO
                                       omega
    refine⟨_,hat,?_⟩
    refine sW ?_
    refine sI ?_
    refine⟨zo,zo,zo,?_⟩
    refine sW ?_
    rw[show 0+(((r.length+1-0:Nat):Int)-1).toNat=r.length by omega]
    have hPP:=hPZ.pop
    have hpl:=hI.tj.cnt p
    have hlp:R.S.low p≤R.S.num p:=hst.2.2.2.2.1
    cases r with
    | nil =>
     have hto:stepT g R=⟨R.S.shut p [] R.S.low,R.Z,R.z7⟩:=by
      unfold stepT;rw[ep];simp only[if_neg (Nat.not_lt.2 hi)]
     rw[hS'] at hto
     refine sW ?_
     refine sB ?_
     refine⟨_,yp p zo hpn,?_⟩
     refine sW ?_
     refine sB ?_
     refine⟨_,yp p zo hpn,?_⟩
     refine sW ?_
     rw[show gn R.S.low p=(R.S.low p:Int) from rfl,show gn R.S.num p=(R.S.num p:Int) from rfl]
     have hll:=hI.tj.zjc ep
     refine sS (λh3=>?_) λh3=>?_
     ·have hC:=J9 hn hI hps R.S.low [] [.vec true pver 2 (pz PZ)]
      unfold Yr wH yd at hC
      refine sA hC ?_
      subst hto
      refine⟨(⟨R.S.shut p [] R.S.low,R.Z,R.z7⟩,PZ,pver,k'),⟨hI',hPP,zo,hF''⟩,zd,zD (by exact sK) rfl⟩
     ·exfalso;exact sO
    | cons q r =>
     obtain⟨q,j⟩:=q
     have hqp:=hst.2.2.2.2.2.2.2.2
     have hqs:=hqp.1
     have hqn:=hI.tj.node q ((hI.tj.stk q).1 hqs).1
     have hne:p≠q:=λe=>by
      have:=hqp.2.1
      rw[e] at this
      omega
     have hto:stepT g R=if R.S.low p=R.S.num p then ⟨R.S.shut p ((q,j)::r) (up R.S.low q (min (R.S.low q) (R.S.low p))),R.Z,R.z7⟩ else ⟨R.S.back p q j r,R.Z,R.z7⟩:=by
      unfold stepT;rw[ep];simp only[if_neg (Nat.not_lt.2 hi)]
     rw[hS'] at hto
     have hat2:(pz PZ)[r.length]? = some [.sc (.int .i64 q),.sc (.int .i64 j)]:=by rw[zrs rfl (by simp at hPl;omega),hPP.top]
     rw[List.length_cons] at hPl hb
     rw[List.length_cons]
     refine sS (λq5=>?_) λq5=>?_
     ·refine sI ?_
      refine sB ?_
      rw[show 0+(((r.length+1-(0+0):Nat):Int)-1).toNat=r.length by omega]
      refine⟨_,hat2,?_⟩
      refine sW ?_
      refine sB ?_
      refine⟨_,yp q zo hqn,?_⟩
      refine sW ?_
      refine sB ?_
      refine⟨_,yp p zo hpn,?_⟩
      refine sW ?_
      refine sB ?_
      refine⟨_,yp q zo hqn,?_⟩
      refine sW ?_
      rw[show min (gn R.S.low q) (gn R.S.low p)=((min (R.S.low q) (R.S.low p):Nat):Int) by unfold gn;omega,qB (k:=q) zo,zm7]
      refine sB ?_
      refine⟨_,yp p zo hpn,?_⟩
      refine sW ?_
      refine sB ?_
      refine⟨_,yp p zo hpn,?_⟩
      refine sW ?_
      rw[show gn (up R.S.low q (min (R.S.low q) (R.S.low p))) p=(R.S.low p:Int) by unfold gn;rw[v8 hne],show gn R.S.num p=(R.S.num p:Int) from rfl]
      refine sS (λh3=>?_) λh3=>?_
      ·have h3:R.S.low p=R.S.num p:=sO
       rw[if_pos h3] at hto
       have hC:=J9 hn hI hps (up R.S.low q (min (R.S.low q) (R.S.low p))) ((q,j)::r) [.vec true pver 2 (pz PZ)]
       unfold Yr wH yd at hC
       refine sA hC ?_
       subst hto
       refine⟨(⟨R.S.shut p ((q,j)::r) (up R.S.low q (min (R.S.low q) (R.S.low p))),R.Z,R.z7⟩,PZ,pver,k'),⟨hI',hPP,zo,hF''⟩,zd,zD (by exact sK) rfl⟩
      ·have h3:R.S.low p≠R.S.num p:=sO
       rw[if_neg h3] at hto
       subst hto
       refine⟨(⟨R.S.back p q j r,R.Z,R.z7⟩,PZ,pver,k'),⟨hI',hPP,zo,hF''⟩,zd,zD (by exact sK) rfl⟩
     ·exfalso;exact sO
  ·exfalso;exact sO
end
section
open Go.RowKit
noncomputable def zE (g:List (List Int)):Nat→Int:=gn (Us (zaF g))
noncomputable def vM (g:List (List Int)):List Int:=gl g.length (zE g)
def zjS (same:Nat→Nat→Bool) (part:Nat→Int) (name:Nat→Int) (k:Nat):Prop:=∀i:Nat,(∃b,b<k∧part b=(i:Int)∧name i=(Us same b:Int)+1)∨((∀b,b<k→part b≠(i:Int))∧name i=0)
theorem zqd {same:Nat→Nat→Bool} {part:Nat→Int} {name:Nat→Int} {n k:Nat} (hk:k<n) (h:zjS same part name k) (hp:∀i,i<n→0≤part i) (hs:∀i j,i<n→j<n→(part i=part j↔same i j=true)) (h0:name (part k).toNat=0) :
  Us same k=Yn same k∧Yn same (k+1)=Yn same k+1∧zjS same part (WG name (part k).toNat ((Yn same k:Int)+1)) (k+1):=by
 have hk0:=hp k hk
 have hno:∀c,c<k→same c k=false:=λc hc=>by
  rw[Bool.eq_false_iff]
  intro q
  have e:=(hs c k zo hk).2 q
  rcases h (part k).toNat with⟨b,b1,b2,b3⟩|⟨b1,b2⟩
  ·omega
  ·exact b1 c hc zo
 obtain⟨e1,e2⟩:=zer hno
 refine⟨e1,by simp[Yn,e2],λi=>?_⟩
 unfold WG
 by_cases e:i=(part k).toNat
 ·left
  refine⟨k,zo,zo,by rw[if_pos e,e1]⟩
 ·rw[if_neg e]
  rcases h i with⟨b,b1,b2,b3⟩|⟨b1,b2⟩
  ·exact .inl ⟨b,zo,b2,b3⟩
  ·refine .inr ⟨λb hb q=>?_,b2⟩
   by_cases eb:b=k
   ·subst eb;omega
   ·exact b1 b zo q
theorem zo1 {same:Nat→Nat→Bool} {part:Nat→Int} {name:Nat→Int} {n k:Nat} (he:Eqv same n) (hk:k<n) (h:zjS same part name k) (hp:∀i,i<n→0≤part i) (hs:∀i j,i<n→j<n→(part i=part j↔same i j=true)) (h0:name (part k).toNat≠0) :
  name (part k).toNat=(Us same k:Int)+1∧Yn same (k+1)=Yn same k∧zjS same part name (k+1):=by
 have hk0:=hp k hk
 rcases h (part k).toNat with⟨b,b1,b2,b3⟩|⟨b1,b2⟩
 ·obtain⟨e1,e2⟩:=zew he hk b1 ((hs b k zo hk).1 zo)
  refine⟨by rw[b3,e1],by simp[Yn,e2],λi=>?_⟩
  rcases h i with⟨c,c1,c2,c3⟩|⟨c1,c2⟩
  ·exact .inl ⟨c,zo,c2,c3⟩
  ·refine .inr ⟨λc hc q=>?_,c2⟩
   by_cases ec:c=k
   ·subst ec
    have:i=(part c).toNat:=zo
    subst this
    exact h0 c2
   ·exact c1 c zo q
 ·exact absurd b2 h0
def zDK:PC:=.seq (OP [Bi 24 .lss 23 22]) (.seq (.cond 24 .skip (.exit 0)) (.seq (.block 1 (.seq (OP [qm 25 23,qm 5 25]) (OP [qm 26 4,q 27 (.zq 26),Fa 28 3 27,Lo 29 28,qm 30 5,Ia 31 1 29 30,So 1 31 (cI (-1))]))) (OP [Bi 32 .add 23 (cI 1),qm 23 32])))
def zCb:PC:=.seq (OP [Bi 35 .lss 34 33]) (.seq (.cond 35 .skip (.exit 2)) (.seq (.block 3 (.seq (OP [qm 36 34,qm 6 36]) (.seq (OP [qm 37 4,q 38 (.zq 37),Fa 39 1 38,Lo 40 39,qm 41 6,Ia 42 1 40 41,Lo 43 42,Bi 44 .eql 43 (cI 0)]) (.cond 44 (OP [qm 45 4,qm 46 6,Ca 47 159 [45,46]]) .skip)))) (OP [Bi 48 .add 34 (cI 1),qm 34 48])))
def zCl:PC:=.seq (OP [Bi 58 .lss 57 56]) (.seq (.cond 58 .skip (.exit 4)) (.seq (.block 5 (.seq (OP [qm 59 57,qm 10 59]) (.seq (.seq (OP [qm 60 7,qm 61 4,q 62 (.zq 61),Fa 63 3 62,Lo 64 63,qm 65 10,Ia 66 1 64 65,Lo 67 66,Ia 68 1 60 67,Lo 69 68,Bi 70 .eql 69 (cI 0)]) (.cond 70 (.seq (OP [qm 71 8,Bi 72 .add 71 (cI 1),qm 8 72]) (OP [qm 73 7,qm 74 4,q 75 (.zq 74),Fa 76 3 75,Lo 77 76,qm 78 10,Ia 79 1 77 78,Lo 80 79,qm 81 8,Ia 82 1 73 80,So 1 82 81])) .skip)) (OP [qm 83 9,qm 84 10,qm 85 7,qm 86 4,q 87 (.zq 86),Fa 88 3 87,Lo 89 88,qm 90 10,Ia 91 1 89 90,Lo 92 91,Ia 93 1 85 92,Lo 94 93,Bi 95 .sub 94 (cI 1),Ia 96 1 83 84,So 1 96 95])))) (OP [Bi 97 .add 57 (cI 1),qm 57 97])))
def c94:PC:=.seq (OP [Mv 2 cN]) (.seq (OP [qm 11 0,Ln 12 11,qm 3 12]) (.seq (.ops [qm 13 0,qm 14 3,qd 15 (.wP 1 8 [(.int .i64 0)] 14 14) 2,qm 16 3,qd 17 (.wP 1 8 [(.int .i64 0)] 16 16) 8,qm 18 3,qd 19 (.wP 1 8 [(.int .i64 0)] 18 18) 32,qd 20 (.build [(.slice none 0 0),(.slice none 0 0),(.slice none 0 0),(.slice none 0 0),(.slice none 0 0),(.int .i64 0),(.int .i64 0)] [(0,1,13),(1,1,15),(2,1,17),(3,1,19)]) 127,qd 21 (.box 20) 255,qw 4 21 511] true) (.seq (.seq (OP [qm 22 3,Mv 23 (cI 0)]) (.block 0 (.loop zDK))) (.seq (.seq (OP [qm 33 3,Mv 34 (cI 0)]) (.block 2 (.loop zCb))) (.seq (OP [qm 49 4,q 50 (.zq 49),Fa 51 6 50,Lo 52 51,q 53 (.wP 1 8 [(.int .i64 0)] 52 52),qm 7 53]) (.seq (OP [Mv 8 (cI 0)]) (.seq (OP [qm 54 3,q 55 (.wP 1 8 [(.int .i64 0)] 54 54),qm 9 55]) (.seq (.seq (OP [qm 56 3,Mv 57 (cI 0)]) (.block 4 (.loop zCl))) (.seq (OP [qm 98 9,qm 2 98]) .ret)))))))))
theorem zAB:zv Tryz.prog 94 99 [.tmp 2] c94:=fK Tryz.func94
theorem zhr (g:List (List Int)) (hn:g.length≤1000000000) (hin0:∀l∈g,xJ l g.length=true) (hF:uZ g):zn Tryz.prog 94 [yd g] (zB (vM g)):=by
 have hrow:=λk=>xa hin0 k
 have xR:∀v x,x∈g.getD v []→x.toNat<g.length:=λv x hx=>by have:=z1 (hrow v) hx;omega
 refine za zAB zs (by simp[zb,yf]) ?_ (zj _)
 have hV:=λk (hk:k<g.length) h0=>zsb g hn hin0 hF (xt g k) (Vs xR k zo).1 (Vs xR k zo).2.1 k hk h0
 have hSp:=λk hk=>Vs xR k hk
 have e00:∀k,List.replicate k (List.map D.sc [Value.int .i64 0])=zI (gl k λ_=>0):=zd0
 unfold yd
 refine sR ?_
 rw[List.length_map]
 refine⟨zo,zo,zo,?_⟩
 rw[Int.toNat_natCast]
 refine sW ?_
 refine⟨zo,zo,zo,?_⟩
 rw[Int.toNat_natCast]
 refine sW ?_
 refine⟨zo,zo,zo,?_⟩
 rw[Int.toNat_natCast]
 refine sW ?_
 refine zP [3,4,22] (λk:Nat=>[(23,.sc (.int .i64 k))]) (λk=>[(2,.vec true 0 1 (zI (gl g.length λi=>if i<k then -1 else 0)))]) (λk=>k≤g.length) (λk=>g.length-k) 0 ?_
 refine sW ?_
 refine⟨zo,by exact sK,by rw[e00];simp;rfl,?_⟩
 rintro k hk
 refine sW ?_
 refine sR ?_
 refine sS (λq0=>?_) λq0=>?_
 ·have q0:k<g.length:=sO
  refine sB ?_
  refine⟨_,yp k zo q0,?_⟩
  refine sW ?_
  refine sI ?_
  refine⟨k+1,zo,zd,zD (by exact sK) ?_⟩
  rw[qB (k:=k) zo,YM (g':=λi=>if i<k+1 then -1 else 0) λi _=>by
   show WG (λi=>if i<k then -1 else 0) k (-1) i=if i<k+1 then -1 else 0
   unfold WG
   by_cases e:i=k
   ·subst e;simp
   ·by_cases e2:i<k
    ·rw[if_neg e,if_pos (show i<k+1 by omega)];exact if_pos e2
    ·rw[if_neg e,if_neg (show ¬i<k+1 by omega)];exact if_neg e2]
  rfl
 have q0:k=g.length:=by have:¬k<g.length:=sO
                        omega
 subst q0
 rw[YM (g':=λ_=>-1) λi hi=>if_pos hi]
 refine zH (yZ 3 4 1 zs rfl rfl) ?_
 have e0:List.replicate g.length (List.map D.sc [Value.int .i64 0])=zI (gl g.length (gn λ_=>0)):=zd0 _
 rw[e0]
 refine ye [3,4,33] (λk:Nat=>[(34,.sc (.int .i64 k))]) (λk=>Yr g (xt g k)) (λk=>k≤g.length) (λk=>g.length-k) 0 ?_
 refine sW ?_
 refine⟨zo,by exact sK,rfl,?_⟩
 rintro k hk
 obtain⟨s1,s2,s3⟩:=hSp k hk
 unfold Yr wH yd at hV ⊢
 refine sW ?_
 refine sR ?_
 refine sS (λq0=>?_) λq0=>?_
 ·have q0:k<g.length:=sO
  have hVk:=hV k q0
  refine sB ?_
  refine⟨_,yp k zo q0,?_⟩
  refine sW ?_
  rw[show gn (xt g k).S.num k=((xt g k).S.num k:Int) from rfl]
  refine sS (λh0=>?_) λh0=>?_
  ·have h0:(xt g k).S.num k=0:=sO
   refine sA (hVk h0) ?_
   refine sI ?_
   refine⟨k+1,zo,zd,zD (by exact sK) ?_⟩
   dsimp only
   rw[show xt g (k+1)=VD g (xt g k) k from if_pos h0]
  ·have h0:¬(xt g k).S.num k=0:=sO
   refine sI ?_
   refine⟨k+1,zo,zd,zD (by exact sK) ?_⟩
   dsimp only
   rw[show xt g (k+1)=xt g k from if_neg h0]
 have q0:k=g.length:=by have:¬k<g.length:=sO
                        omega
 subst q0
 obtain⟨f1,f2,f3⟩:=zoq xR
 clear hV hSp s1 s2 s3 e0
 generalize (xt g g.length).S.num=num at *
 generalize (xt g g.length).S.low=low at *
 generalize (xt g g.length).S.part=part at *
 generalize (xt g g.length).S.YD=YD at *
 generalize (xt g g.length).S.count=count at *
 generalize (xt g g.length).S.stack.length=h at *
 generalize (xt g g.length).z7=z7 at *
 generalize (xt g g.length).Z=Z at *
 refine⟨zo,zo,zo,?_⟩
 rw[Int.toNat_natCast]
 refine sW ?_
 refine⟨zo,zo,zo,?_⟩
 rw[Int.toNat_natCast]
 refine sW ?_
 have e0:∀k,List.replicate k (List.map D.sc [Value.int .i64 0])=zI (gl k λ_=>0):=zd0
 rw[e0,e0]
 have hq:=ziH g g.length
 have hp:=λi hi=>(f1 i hi).1
 refine zP [4,7,9,56] (λ((k,name):Nat × (Nat→Int))=>[(8,.sc (.int .i64 ((Yn (zaF g) k:Nat):Int))),(57,.sc (.int .i64 k))]) (λ(k,name)=>[(5,.vec true 0 1 (zI (gl YD name))),(6,.vec true 0 1 (zI (gl g.length λi=>if i<k then zE g i else 0)))])
  (λ(k,name)=>k≤g.length∧zjS (zaF g) part name k) (λ(k,name)=>g.length-k) (0,λ_=>0) ?_
 refine sW ?_
 refine⟨⟨zo,λi=>.inr ⟨λb hb=>zo,rfl⟩⟩,by exact sK,by simp;rfl,?_⟩
 rintro⟨k,name⟩ ⟨hk,hN⟩
 have hpc:=zh5 (zaF g) k
 refine sW ?_
 refine sR ?_
 refine sS (λq0=>?_) λq0=>?_
 ·have q0:k<g.length:=sO
  have hpk:=f1 k q0
  have hnew:=zqd q0 hN hp f2
  have hold:=zo1 hq q0 hN hp f2
  obtain⟨pk,hpk'⟩:∃pk:Nat,part k=pk:=⟨(part k).toNat,zo⟩
  rw[hpk'] at hpk hnew hold
  rw[Int.toNat_natCast] at hnew hold
  refine sB ?_
  refine⟨_,yp k zo q0,?_⟩
  rw[hpk']
  refine sW ?_
  refine sB ?_
  refine⟨_,yp pk zo zo,?_⟩
  refine sW ?_
  have hout:∀v,v=zE g k→zI (gl g.length (WG (λi=>if i<k then zE g i else 0) k v))=zI (gl g.length λi=>if i<k+1 then zE g i else 0):=λv hv=>by
   rw[YM λi _=>?_]
   show WG (λi=>if i<k then zE g i else 0) k v i=if i<k+1 then zE g i else 0
   unfold WG
   by_cases e:i=k
   ·subst e;rw[if_pos rfl,if_pos zo,hv]
   ·by_cases e2:i<k
    ·rw[if_neg e,if_pos (show i<k+1 by omega)];exact if_pos e2
    ·rw[if_neg e,if_neg (show ¬i<k+1 by omega)];exact if_neg e2
  refine sS (λh0=>?_) λh0=>?_
  ·have h0:name pk=0:=sO
   obtain⟨n1,n2,n3⟩:=hnew h0
   refine sI ?_
   refine sB ?_
   refine⟨_,yp k zo q0,?_⟩
   rw[hpk']
   refine sW ?_
   refine sB ?_
   refine⟨_,yp pk zo zo,?_⟩
   refine sW ?_
   rw[qB (k:=pk) zo]
   refine sB ?_
   refine⟨_,yp k zo q0,?_⟩
   rw[hpk']
   refine sW ?_
   refine sB ?_
   refine⟨_,yp pk zo zo,?_⟩
   refine sW ?_
   rw[qo]
   refine sI ?_
   refine sB ?_
   refine⟨_,yp k zo q0,?_⟩
   refine sW ?_
   refine sI ?_
   have e8:D.sc (.int .i64 (((Yn (zaF g) k:Nat):Int)+1))=D.sc (.int .i64 ((Yn (zaF g) (k+1):Nat):Int)):=by rw[n2];rfl
   refine⟨(k+1,WG name pk ((Yn (zaF g) k:Int)+1)),⟨zo,n3⟩,zd,zD ⟨e8,by exact sK⟩ ?_⟩
   dsimp only
   rw[qB (k:=k) zo,hout _ (by unfold zE gn;rw[n1];omega)]
   rfl
  ·have h0:¬name pk=0:=sO
   obtain⟨n1,n2,n3⟩:=hold h0
   refine sB ?_
   refine⟨_,yp k zo q0,?_⟩
   rw[hpk']
   refine sW ?_
   refine sB ?_
   refine⟨_,yp pk zo zo,?_⟩
   refine sW ?_
   have hpl:=znN hq q0
   rw[n1]
   refine sI ?_
   refine sB ?_
   refine⟨_,yp k zo q0,?_⟩
   refine sW ?_
   refine sI ?_
   have e8:D.sc (.int .i64 ((Yn (zaF g) k:Nat):Int))=D.sc (.int .i64 ((Yn (zaF g) (k+1):Nat):Int)):=by rw[n2]
   refine⟨(k+1,name),⟨zo,n3⟩,zd,zD ⟨e8,by exact sK⟩ ?_⟩
   dsimp only
   rw[qB (k:=k) zo,hout _ (by unfold zE gn;omega)]
   rfl
 ·have q0:k=g.length:=by have:¬k<g.length:=sO
                         omega
  subst q0
  rw[YM (g':=zE g) λi hi=>if_pos hi]
  exact zcZ rfl
end
section
section
end
section
end
section
end
section
def zlu (p:Nat→Bool) (l:List Int):Nat→Int
 | 0=>-1
 | k+1=>if p (l.getD k 0).toNat=true∧(zlu p l k<0∨l.getD k 0<zlu p l k) then l.getD k 0 else zlu p l k
end
section
def Je (L:List (List Int)) (n t:Nat):List (List Int) :=
 if (L.getD t []).length=0∨(L.getD t []).getD ((L.getD t []).length-1) 0≠(n:Int) then L.set t (L.getD t []++[(n:Int)]) else L
theorem zqh (L:List (List Int)) (n t:Nat):(Je L n t).length=L.length:=by unfold Je;split<;>simp
theorem zgd {L:List (List Int)} {t m:Nat} {l:List Int} (h:t<L.length):(L.set t l).getD m []=if m=t then l else L.getD m []:=by
 rw[List.getD_eq_getElem?_getD,List.getElem?_set]
 by_cases e:t=m
 ·subst e;simp[h]
 ·rw[if_neg e,if_neg (λq=>e q.symm),List.getD_eq_getElem?_getD]
theorem zpF {L:List (List Int)} {n t m:Nat} {x:Int} (h:t<L.length):x∈(Je L n t).getD m []↔x∈L.getD m []∨(m=t∧x=(n:Int)):=by
 unfold Je
 split
 ·rw[zgd h]
  split
  ·rename_i e;subst e
   rw[List.mem_append,List.mem_singleton]
   constructor
   ·rintro(q|q)
    ·exact .inl q
    ·exact .inr ⟨rfl,q⟩
   ·rintro(q|⟨_,q⟩)
    ·exact .inl q
    ·exact .inr q
  ·rename_i e
   exact⟨.inl,λq=>q.elim id λw=>absurd w.1 e⟩
 ·rename_i q
  refine⟨.inl,λw=>w.elim id ?_⟩
  rintro⟨rfl,rfl⟩
  have q1:(L.getD m []).length≠0:=λe=>q (.inl e)
  have q2:(L.getD m []).getD ((L.getD m []).length-1) 0=(n:Int):=by
   by_cases e:(L.getD m []).getD ((L.getD m []).length-1) 0=(n:Int)
   ·exact e
   ·exact absurd (.inr e) q
  have:=yz (l:=L.getD m []) (k:=(L.getD m []).length-1) zo
  rw[q2] at this
  exact this
def Xd (g:List (List Int)) (n:Nat):Nat→List (List Int)→List (List Int)
 | 0,L=>L
 | k+1,L=>Je (Xd g n k L) n ((g.getD n []).getD k 0).toNat
def xp (g:List (List Int)):Nat→List (List Int)
 | 0=>List.replicate g.length []
 | n+1=>Xd g n (g.getD n []).length (xp g n)
theorem Qn (g:List (List Int)) (n:Nat):∀(k:Nat) (L:List (List Int)),(Xd g n k L).length=L.length
 | 0,_=>rfl
 | k+1,L=>by simp only[Xd];rw[zqh,Qn g n k L]
theorem vi (g:List (List Int)):∀n,(xp g n).length=g.length
 | 0=>by simp[xp]
 | n+1=>by simp only[xp];rw[Qn,vi g n]
theorem zgT {g:List (List Int)} {n m:Nat} {x:Int} (hg:∀v y,y∈g.getD v []→y.toNat<g.length) {L:List (List Int)} (hL:L.length=g.length):∀{k:Nat},k≤(g.getD n []).length →
  (x∈(Xd g n k L).getD m []↔x∈L.getD m []∨(x=(n:Int)∧∃j,j<k∧((g.getD n []).getD j 0).toNat=m))
 | 0,_=>⟨.inl,λh=>h.elim id λ⟨_,j,hj,_⟩=>zo⟩
 | k+1,hk=>by
  simp only[Xd]
  have hm:=yz (l:=g.getD n []) (k:=k) zo
  rw[zpF (by rw[Qn,hL];exact hg n _ hm),zgT hg hL zo]
  constructor
  ·rintro((h|⟨h,j,hj,e⟩)|⟨e,h⟩)
   ·exact .inl h
   ·exact .inr ⟨h,j,zo,e⟩
   ·exact .inr ⟨h,k,zo,e.symm⟩
  ·rintro(h|⟨h,j,hj,e⟩)
   ·exact .inl (.inl h)
   ·by_cases q:j=k
    ·subst q;exact .inr ⟨e.symm,h⟩
    ·exact .inl (.inr ⟨h,j,zo,e⟩)
theorem XC {g:List (List Int)} {m:Nat} {x:Int} (hg:∀v y,y∈g.getD v []→y.toNat<g.length):∀{n:Nat},n≤g.length →
  (x∈(xp g n).getD m []↔∃k,k<n∧x=(k:Int)∧∃y,y∈g.getD k []∧y.toNat=m)
 | 0,_=>by
  simp only[xp]
  rw[List.getD_eq_getElem?_getD,List.getElem?_replicate]
  constructor
  ·intro h;split at h<;>simp at h
  ·rintro⟨k,h,_⟩;omega
 | n+1,hn=>by
  simp only[xp]
  rw[zgT hg (vi g n) (Nat.le_refl _),XC hg zo]
  constructor
  ·rintro(⟨k,h1,h2,h3⟩|⟨h,j,hj,e⟩)
   ·exact⟨k,zo,h2,h3⟩
   ·exact⟨n,zo,h,_,yz hj,e⟩
  ·rintro⟨k,h1,h2,y,h3,h4⟩
   by_cases q:k=n
   ·subst q
    obtain⟨j,hj,e⟩:=XQ h3
    exact .inr ⟨h2,j,hj,by rw[e];exact h4⟩
   ·exact .inl ⟨k,zo,h2,y,h3,h4⟩
theorem zpg {L:List (List Int)} {n t m:Nat}:(Je L n t).getD m []=L.getD m []∨((Je L n t).getD m []=L.getD m []++[(n:Int)]∧((L.getD m []).length=0∨(L.getD m []).getD ((L.getD m []).length-1) 0≠(n:Int))):=by
 unfold Je
 split
 ·rename_i q
  by_cases h:t<L.length
  ·rw[zgd h]
   split
   ·rename_i e;subst e;exact .inr ⟨rfl,q⟩
   ·exact .inl rfl
  ·rw[List.set_eq_of_length_le zo];exact .inl rfl
 ·exact .inl rfl
theorem QE {g:List (List Int)} {n m:Nat} {L:List (List Int)}:∀k,(Xd g n k L).getD m []=L.getD m []∨(Xd g n k L).getD m []=L.getD m []++[(n:Int)]
 | 0=>.inl rfl
 | k+1=>by
  simp only[Xd]
  rcases zpg (L:=Xd g n k L) (n:=n) (t:=((g.getD n []).getD k 0).toNat) (m:=m) with h|⟨h,q⟩
  ·rw[h];exact QE k
  ·rcases QE (g:=g) (n:=n) (m:=m) (L:=L) k with w|w
   ·rw[h,w];exact .inr rfl
   ·rw[w] at q
    exfalso
    rcases q with q|q
    ·simp at q
    ·apply q
     rw[List.length_append,List.length_singleton,Nat.add_sub_cancel,List.getD_eq_getElem?_getD,List.getElem?_append_right (Nat.le_refl _),Nat.sub_self]
     rfl
theorem Xv (g:List (List Int)):∀n m,((xp g n).getD m []).length≤n
 | 0,m=>by
  simp only[xp]
  rw[List.getD_eq_getElem?_getD,List.getElem?_replicate]
  split<;>simp
 | n+1,m=>by
  simp only[xp]
  have:=Xv g n m
  rcases QE (g:=g) (n:=n) (m:=m) (L:=xp g n) (g.getD n []).length with h|h
  ·rw[h];omega
  ·rw[h,List.length_append,List.length_singleton];omega
end
end
section
theorem WJ.one (g:List (List Int)) (v:Nat):WJ g [(v:Int)] v:=by
 have:=WJ.base (g:=g) (from_:=[(v:Int)]) (x:=(v:Int)) zs
 rwa [Int.toNat_natCast] at this
theorem WJ.trans {g:List (List Int)} {a:List Int} {u v:Nat} (h:WJ g a u) (k:WJ g [(u:Int)] v):WJ g a v:=by
 induction k with
 | base hx =>
  rw[List.mem_singleton] at hx
  subst hx
  simpa using h
 | step _ hx ih=>exact .step ih hx
theorem zrC {g:List (List Int)} (xR:∀v y,y∈g.getD v []→0≤y∧y.toNat<g.length) {u v:Nat} (hu:u<g.length):WJ g [(u:Int)] v→WJ (xp g g.length) [(v:Int)] u:=by
 intro h
 have key:∀w,WJ g [(u:Int)] w→w<g.length∧WJ (xp g g.length) [(w:Int)] u:=by
  intro w hw
  induction hw with
  | base hx =>
   rw[List.mem_singleton] at hx
   subst hx
   exact⟨by simpa using hu,by rw[Int.toNat_natCast];exact WJ.one _ u⟩
  | @step a x ha hx ih =>
   have hxr:=xR a x hx
   refine⟨hxr.2,?_⟩
   have e:(a:Int)∈(xp g g.length).getD x.toNat []:=(XC (λv y hy=>(xR v y hy).2) (Nat.le_refl _)).2 ⟨a,ih.1,rfl,x,hx,rfl⟩
   have s:WJ (xp g g.length) [((x.toNat:Nat):Int)] a:=by
    have:=WJ.step (g:=xp g g.length) (from_:=[((x.toNat:Nat):Int)]) (u:=x.toNat) (WJ.one _ x.toNat) e
    rwa [Int.toNat_natCast] at this
   exact s.trans ih.2
 exact(key v h).2
theorem zrp {g:List (List Int)} (xR:∀v y,y∈g.getD v []→0≤y∧y.toNat<g.length) {u v:Nat}:WJ (xp g g.length) [(v:Int)] u→WJ g [(u:Int)] v:=by
 intro h
 have key:∀w,WJ (xp g g.length) [(v:Int)] w→WJ g [(w:Int)] v:=by
  intro w hw
  induction hw with
  | base hx =>
   rw[List.mem_singleton] at hx
   subst hx
   rw[Int.toNat_natCast];exact WJ.one g v
  | @step a x ha hx ih =>
   obtain⟨k,hk,rfl,y,hy,hya⟩:=(XC (λv y hy=>(xR v y hy).2) (Nat.le_refl _)).1 hx
   rw[Int.toNat_natCast]
   have s:WJ g [(k:Int)] y.toNat:=WJ.step (u:=k) (WJ.one g k) hy
   rw[hya] at s
   exact s.trans ih
 exact key u h
theorem zzr {g:List (List Int)} {l:List Int} {v:Nat} (hl:∀x∈l,0≤x):WJ g l v↔∃x∈l,WJ g [x] v:=by
 constructor
 ·intro h
  induction h with
  | @base x hx=>exact⟨x,hx,.base zs⟩
  | step _ hx ih=>obtain⟨x,h1,h2⟩:=ih;exact⟨x,h1,.step h2 hx⟩
 ·rintro⟨x,hx,h⟩
  have e:x=((x.toNat:Nat):Int):=by have:=hl x hx;omega
  rw[e] at h
  exact WJ.trans (.base hx) h
end
section
open Go.RowKit
def We (l:List Int):Nat→Bool:=λv=>l.contains (v:Int)
noncomputable def zcn (g:List (List Int)) (n:Nat):Bool:=(g.getD n []).any λx=>zE g x.toNat==zE g n
noncomputable def okT (g:List (List Int)) (k i:Nat):Bool:=(List.range k).any λn=>zE g n==(i:Int)&&zcn g n
noncomputable def VA (g:List (List Int)) (l:List Int) (i:Nat):Bool:=l.any λx=>zE g x.toNat==(i:Int)
noncomputable def zdx (g:List (List Int)) (F:List (List Int)) (i:Nat):Bool:=okT g g.length i&&F.all λl=>VA g l i
theorem parts_eq {g:List (List Int)} {a b:Nat} (ha:a<g.length) (hb:b<g.length):zE g a=zE g b↔zaF g a b=true:=by
 rw[←zv7 (ziH g g.length) ha hb]
 unfold zE gn
 omega
theorem qQ {g:List (List Int)} {a:Nat} (ha:a<g.length):0≤zE g a∧zE g a<(g.length:Int):=by
 have:=znN (ziH g g.length) ha
 unfold zE gn
 omega
theorem Ur {g:List (List Int)} (xR:∀v x,x∈g.getD v []→x.toNat<g.length) {n:Nat} (hn:n<g.length):zcn g n=true↔Wl g n:=by
 unfold zcn
 rw[List.any_eq_true]
 constructor
 ·rintro⟨x,hx,e⟩
  rw[beq_iff_eq,parts_eq (xR n x hx) hn,xu] at e
  exact⟨x,hx,e.1⟩
 ·rintro⟨x,hx,e⟩
  exact⟨x,hx,by rw[beq_iff_eq,parts_eq (xR n x hx) hn,xu];exact⟨e,VH hx⟩⟩
theorem zen {g:List (List Int)} (xR:∀v x,x∈g.getD v []→x.toNat<g.length) {F:List (List Int)} (hF:∀l∈F,xJ l g.length=true) {e i:Nat} (he:e<g.length) (hi:zE g e=(i:Int)) :
  zdx g F i=true↔Wl g e∧∀S,S∈F.map We→∃d,S d=true∧To g e d∧To g d e:=by
 unfold zdx
 rw[Bool.and_eq_true,List.all_eq_true]
 have h1:okT g g.length i=true↔Wl g e:=by
  unfold okT
  rw[List.any_eq_true]
  constructor
  ·rintro⟨n,hn,q⟩
   have hn:=List.mem_range.1 hn
   rw[Bool.and_eq_true,beq_iff_eq,←hi,parts_eq hn he,xu,Ur xR hn] at q
   exact UZ q.2 q.1.1 q.1.2
  ·intro q
   exact⟨e,List.mem_range.2 he,by rw[Bool.and_eq_true,beq_iff_eq];exact⟨hi,(Ur xR he).2 q⟩⟩
 rw[h1]
 refine and_congr_right λ_=>?_
 constructor
 ·intro h S hS
  obtain⟨l,hl,rfl⟩:=List.mem_map.1 hS
  have:=h l hl
  unfold VA at this
  rw[List.any_eq_true] at this
  obtain⟨x,hx,q⟩:=this
  have hxr:=z1 (hF l hl) hx
  rw[beq_iff_eq,←hi,parts_eq zo he,xu] at q
  refine⟨x.toNat,?_,q.2,q.1⟩
  unfold We
  rw[List.contains_iff_mem,Int.toNat_of_nonneg hxr.1]
  exact hx
 ·intro h l hl
  obtain⟨d,d1,d2,d3⟩:=h (We l) (List.mem_map.2 ⟨l,hl,rfl⟩)
  unfold We at d1
  rw[List.contains_iff_mem] at d1
  have hxr:=z1 (hF l hl) d1
  unfold VA
  rw[List.any_eq_true]
  refine⟨(d:Int),d1,?_⟩
  rw[Int.toNat_natCast,beq_iff_eq,←hi,parts_eq zo he,xu]
  exact⟨d3,d2⟩
theorem zp9 {g:List (List Int)} (xR:∀l∈g,xJ l g.length=true) {F:List (List Int)} (hF:∀l∈F,xJ l g.length=true) {ends:List Int} (he:∀x,x∈ends↔0≤x∧x<(g.length:Int)∧zdx g F (zE g x.toNat).toNat=true) {v:Nat} (hv:v<g.length) :
  zcM (xp g g.length) ends v=fwB g (F.map We) v:=by
 have hrow:=λk=>xa xR k
 have hin1:∀v x,x∈g.getD v []→x.toNat<g.length:=λv x hx=>by have:=z1 (hrow v) hx;omega
 have hin2:∀v x,x∈g.getD v []→0≤x∧x.toNat<g.length:=λv x hx=>by have:=z1 (hrow v) hx;omega
 refine zze ?_
 rw[Va,zzr λx hx=>((he x).1 hx).1]
 constructor
 ·rintro⟨x,hx,h⟩
  obtain⟨a1,a2,a3⟩:=(he x).1 hx
  obtain⟨e,rfl⟩:∃e:Nat,x=e:=⟨x.toNat,zo⟩
  rw[Int.toNat_natCast] at a3
  have hel:e<g.length:=zo
  have hp:=qQ hel
  exact⟨e,zrp hin2 h,(zen hin1 hF hel zo).1 a3⟩
 ·rintro⟨c,h1,h2⟩
  have hcl:=zn5 hin1 hv h1
  have hp:=qQ hcl
  exact⟨(c:Int),(he _).2 ⟨zo,zo,by rw[Int.toNat_natCast];exact(zen hin1 hF hcl zo).2 h2⟩,zrC hin2 hv h1⟩
theorem ziX (g:List (List Int)) (k i:Nat):okT g (k+1) i=(okT g k i||(zE g k==(i:Int)&&zcn g k)):=by
 unfold okT;rw[List.range_succ,List.any_append];simp
theorem zow {g:List (List Int)} {l:List Int} {k i:Nat} (h:k<l.length):VA g (l.take (k+1)) i=(VA g (l.take k) i||zE g (l.getD k 0).toNat==(i:Int)):=by
 unfold VA
 rw[List.take_add_one,List.getElem?_eq_getElem h,List.any_append,List.getD_eq_getElem?_getD,List.getElem?_eq_getElem h]
 simp
theorem zj8 {α:Type} {p:α→Bool} {l:List α} {k:Nat} (h:k<l.length) (d:α):(l.take (k+1)).all p=((l.take k).all p&&p (l.getD k d)):=by
 rw[List.take_add_one,List.getElem?_eq_getElem h,List.all_append,List.getD_eq_getElem?_getD,List.getElem?_eq_getElem h]
 simp
theorem uO {n z i:Nat} {f f':Nat→Bool} {b:Bool} (hz:z=i) (h:∀v,v<n→f' v=if v=i then b else f v):(Yt n f).set z [.sc (.bool b)]=Yt n f':=by
 subst hz
 rw[zm8]
 exact x3 λv hv=>(h v hv).symm
def c223:PC:=.seq (OP [Mv 4 cF]) (.seq (.ops [Lo 5 1,qm 6 0,qd 7 (.zM 1 5 6) 3,qd 8 (.zg 7) 7,Lo 9 1,Lo 10 2,qd 11 (.zM 1 9 10) 48,qd 12 (.zg 11) 112,qd 13 (.bin .eql 8 12) 255,qw 4 13 511] true) .ret)
theorem zu2:zv Tryz.prog 223 14 [.tmp 4] c223:=fK Tryz.func223
theorem zwl (g:List (List Int)) (x:Int) (hx:0≤x∧x<(g.length:Int)) (n:Nat) (hn:n<g.length):zn Tryz.prog 223 [.sc (.int .i64 x),.yO [zB (vM g)],.yO [.sc (.int .i64 n)]] (.sc (.bool (zE g x.toNat==zE g n))):=by
 refine za zu2 zs (by simp[zb,Pure,zj]) ?_ (by simp[Pure])
 unfold vM zB
 refine sR ?_
 refine sL (yp x.toNat zo zo) ?_
 refine sL (yp n zo hn) ?_
 exact .refl _
def zyP:PC:=.seq (OP [Bi 22 .lss 21 20]) (.seq (.cond 22 .skip (.exit 0)) (.seq (.block 1 (.seq (OP [qm 23 21,Ia 24 1 19 21,Lo 25 24,q 8 (.alloc [(.int .i64 0)]),So 1 8 23,qm 9 25]) (.seq (OP [qm 26 9,q 27 (.uG (.func 223) [] [4,8]),Ca 28 52 [26,27]]) (.cond 28 (OP [qm 29 7,Lo 30 4,Lo 31 8,Ia 32 1 30 31,Lo 33 32,Ia 34 1 29 33,So 1 34 cT]) .skip)))) (OP [Bi 35 .add 21 (cI 1),qm 21 35])))
def zyK:PC:=.seq (OP [Bi 48 .lss 47 46]) (.seq (.cond 48 .skip (.exit 4)) (.seq (.block 5 (.seq (OP [Ia 49 1 45 47,Lo 50 49,qm 14 50]) (OP [qm 51 12,Lo 52 4,qm 53 14,Ia 54 1 52 53,Lo 55 54,Ia 56 1 51 55,So 1 56 cT]))) (OP [Bi 57 .add 47 (cI 1),qm 47 57])))
def zBo:PC:=.seq (OP [Bi 61 .lss 60 59]) (.seq (.cond 61 .skip (.exit 6)) (.seq (.block 7 (.seq (OP [qm 62 60,qm 15 62]) (OP [qm 63 7,qm 64 15,qm 65 7,qm 66 15,Ia 67 1 65 66,Lo 68 67,qm 69 68,GT 70 69 (.move 12),GT 71 69 (.move 15),GT 72 69 (.zM 1 70 71),GT 73 69 (.zg 72),Pk 74 69 73 cF,Ia 75 1 63 64,So 1 75 74]))) (OP [Bi 76 .add 60 (cI 1),qm 60 76])))
def zy5:PC:=.seq (OP [Bi 39 .lss 38 37]) (.seq (.cond 39 .skip (.exit 2)) (.seq (.block 3 (.seq (OP [Ia 40 1 36 38,Lo 41 40,qm 11 41]) (.seq (OP [qm 42 0,Ln 43 42,q 44 (.wP 1 1 [(.bool false)] 43 43),qm 12 44]) (.seq (.seq (OP [qm 45 11,Ln 46 45,Mv 47 (cI 0)]) (.block 4 (.loop zyK))) (.seq (OP [qm 58 7,Ln 59 58,Mv 60 (cI 0)]) (.block 6 (.loop zBo))))))) (OP [Bi 77 .add 38 (cI 1),qm 38 77])))
def c181:PC:=.seq (OP [Bx 4 1,Mv 6 cN]) (.seq (OP [qm 16 0,Ln 17 16,q 18 (.wP 1 1 [(.bool false)] 17 17),qm 7 18]) (.seq (.seq (OP [qm 19 0,Ln 20 19,Mv 21 (cI 0)]) (.block 0 (.loop zyP))) (.seq (.seq (OP [qm 36 2,Ln 37 36,Mv 38 (cI 0)]) (.block 2 (.loop zy5))) (.seq (OP [qm 78 7,qm 6 78]) .ret))))
theorem zuk:zv Tryz.prog 181 79 [.tmp 6] c181:=fK Tryz.func181
theorem zrO (g:List (List Int)) (hn:g.length≤1000000) (hin0:∀l∈g,xJ l g.length=true) (hF:uZ g) (F:List (List Int)) (hFF:uZ F) (hFi:∀l∈F,xJ l g.length=true):zn Tryz.prog 181 [yd g,zB (vM g),yd F] (ur g.length (zdx g F)):=by
 have hrow:=λk=>xa hin0 k
 have hFrow:=λk=>xa hFi k
 have hfl:=hFF.len
 refine za zuk zs (by simp[zb,Pure,yf,zj]) ?_ (zY _ _)
 have hc:=λk (hk:k<g.length)=>yo (λn=>.sc (.int .i64 n)) (λa=>by simp[Pure]) (g.getD k []) (by have:=hF.at k;omega) (λx=>zE g x.toNat==zE g k) 223 [.yO [zB (vM g)],.yO [.sc (.int .i64 k)]] (by simp[zb,Pure,zj]) λa ha=>zwl g a (z1 (hrow k) ha) k hk
 unfold yd
 refine sR ?_
 rw[List.length_map]
 refine⟨zo,zo,zo,?_⟩
 rw[Int.toNat_natCast,show List.map D.sc [Value.bool false]=[D.sc (.bool false)] from rfl,ZI]
 refine sW ?_
 rw[List.length_map]
 refine zP [0,2,4,7,19,20] (λk:Nat=>[(21,.sc (.int .i64 k))]) (λk=>[(1,.vec true 0 1 (Yt g.length (okT g k)))]) (λk=>k≤g.length) (λk=>g.length-k) 0 ?_
 refine sW ?_
 refine⟨zo,by exact sK,rfl,?_⟩
 rintro k hk
 refine sW ?_
 refine sR ?_
 refine sS (λq0=>?_) λq0=>?_
 ·have q0:k<g.length:=sO
  have hp:=qQ q0
  have e1:=ziX g k
  refine sL (xX (k:=k) zo q0) ?_
  refine sN (hc k q0) ?_
  rw[show((g.getD k []).any λx=>zE g x.toNat==zE g k)=zcn g k from rfl]
  cases r:zcn g k
  ·refine sW ?_
   refine sI ?_
   refine⟨k+1,zo,zd,?_⟩
   refine zm 2 zs rfl sQ (sU ?_)
   exact zp (x3 λi _=>by rw[e1,r,Bool.and_false,Bool.or_false])
  ·refine sW ?_
   refine sL (yp k zo q0) ?_
   refine sB ?_
   refine⟨_,yh (zE g k).toNat zo zo,?_⟩
   refine sW ?_
   refine sI ?_
   refine⟨k+1,zo,zd,?_⟩
   rw[uO (i:=(zE g k).toNat) (f':=okT g (k+1)) zo λv _=>by
    rw[e1,r,Bool.and_true]
    by_cases e:v=(zE g k).toNat
    ·rw[if_pos e,show(zE g k==(v:Int))=true by rw[beq_iff_eq];omega,Bool.or_true]
    ·rw[if_neg e,show(zE g k==(v:Int))=false by rw[beq_eq_false_iff_ne];omega,Bool.or_false]]
   exact zm 2 zs rfl sQ sQ
 have q0:k=g.length:=by have:¬k<g.length:=sO
                        omega
 subst q0
 clear hc
 rw[List.length_map]
 refine zP [0,4,7,36,37] (λk:Nat=>[(38,.sc (.int .i64 k))]) (λk=>[(1,.vec true 0 1 (Yt g.length λi=>okT g g.length i&&(F.take k).all λl=>VA g l i))]) (λk=>k≤F.length) (λk=>F.length-k) 0 ?_
 refine sW ?_
 refine⟨zo,by exact sK,by simp only[List.take_zero,List.all_nil,Bool.and_true];rfl,?_⟩
 rintro k hk
 refine sW ?_
 refine sR ?_
 refine sS (λq0=>?_) λq0=>?_
 ·have q0:k<F.length:=sO
  have hFk:=hFF.at k
  refine sL (xX (g:=F) (k:=k) zo q0) ?_
  rw[List.length_map]
  refine⟨zo,zo,zo,?_⟩
  rw[Int.toNat_natCast,show List.map D.sc [Value.bool false]=[D.sc (.bool false)] from rfl,ZI]
  refine sW ?_
  rw[List.length_map]
  have hlr:=λj (hj:j<(F.getD k []).length)=>z1 (hFrow k) (yz hj)
  have eall:=λi=>zj8 (p:=λl=>VA g l i) q0 []
  generalize hle:F.getD k []=l at *
  refine zP [0,4,7,12,36,37,38,45,46] (λj:Nat=>[(47,.sc (.int .i64 j))]) (λj=>[(2,.vec true 0 1 (Yt g.length (VA g (l.take j))))]) (λj=>j≤l.length) (λj=>l.length-j) 0 ?_
  refine sW ?_
  refine⟨zo,by exact sK,rfl,?_⟩
  rintro j hj
  refine sW ?_
  refine sR ?_
  refine sS (λq1=>?_) λq1=>?_
  ·have q1:j<l.length:=sO
   have hx:=hlr j q1
   have e1:=λi=>zow (g:=g) (i:=i) q1
   refine sL (yc (l:=l) (k:=j) zo q1) ?_
   generalize l.getD j 0=x at *
   have hp:=qQ (g:=g) (a:=x.toNat) zo
   refine sL (yp x.toNat zo zo) ?_
   refine sB ?_
   refine⟨_,yh (zE g x.toNat).toNat zo zo,?_⟩
   refine sW ?_
   refine sI ?_
   refine⟨j+1,zo,zd,zD (by exact sK) ?_⟩
   rw[uO (i:=(zE g x.toNat).toNat) (f':=VA g (l.take (j+1))) zo λv _=>by
    rw[e1]
    by_cases e:v=(zE g x.toNat).toNat
    ·rw[if_pos e,show(zE g x.toNat==(v:Int))=true by rw[beq_iff_eq];omega,Bool.or_true]
    ·rw[if_neg e,show(zE g x.toNat==(v:Int))=false by rw[beq_eq_false_iff_ne];omega,Bool.or_false]]
   rfl
  have q1:j=l.length:=by have:¬j<l.length:=sO
                         omega
  subst q1
  rw[List.take_length]
  generalize hA:(λi=>okT g g.length i&&(F.take k).all λl=>VA g l i)=A at *
  have eA:∀i,(okT g g.length i&&(F.take (k+1)).all λl=>VA g l i)=(A i&&VA g l i):=λi=>by rw[eall,←hA,Bool.and_assoc]
  refine zP [0,4,7,12,36,37,38,59] (λi:Nat=>[(60,.sc (.int .i64 i))]) (λi=>[(1,.vec true 0 1 (Yt g.length λv=>if v<i then A v&&VA g l v else A v))]) (λi=>i≤g.length) (λi=>g.length-i) 0 ?_
  refine sW ?_
  refine⟨zo,by exact sK,rfl,?_⟩
  rintro i hi
  refine sW ?_
  refine sR ?_
  refine sS (λq2=>?_) λq2=>?_
  ·have q2:i<g.length:=sO
   have eat:(if i<i then A i&&VA g l i else A i)=A i:=if_neg zo
   have eput:∀b,b=(A i&&VA g l i)→∀v,v<g.length→(if v<i+1 then A v&&VA g l v else A v)=if v=i then b else if v<i then A v&&VA g l v else A v:=λb hb v _=>by
    by_cases e:v=i
    ·subst e;rw[if_pos zo,if_pos rfl,hb]
    ·rw[if_neg e]
     by_cases e2:v<i
     ·rw[if_pos e2,if_pos zo]
     ·rw[if_neg e2,if_neg zo]
   refine sB ?_
   refine⟨_,yh i zo q2,?_⟩
   rw[eat]
   cases r:A i
   ·refine sW ?_
    refine sB ?_
    refine⟨_,yh i zo q2,?_⟩
    refine sW ?_
    refine sI ?_
    refine⟨i+1,zo,zd,zD (by exact sK) ?_⟩
    rw[uO (i:=i) zo (eput false (by rw[r];rfl))]
    rfl
   ·refine sW ?_
    refine sB ?_
    refine⟨_,yh i zo q2,?_⟩
    refine sW ?_
    refine sB ?_
    refine⟨_,yh i zo q2,?_⟩
    refine sW ?_
    refine sI ?_
    refine⟨i+1,zo,zd,zD (by exact sK) ?_⟩
    rw[uO (i:=i) zo (eput (VA g l i) (by rw[r];rfl))]
    rfl
  have q2:i=g.length:=by have:¬i<g.length:=sO
                         omega
  subst q2
  refine sI ?_
  refine⟨k+1,zo,zd,?_⟩
  dsimp only
  refine zm 2 zs rfl sQ (sU ?_)
  exact zp (x3 λi hi=>by rw[if_pos hi,eA])
 have q0:k=F.length:=by have:¬k<F.length:=sO
                        omega
 subst q0
 rw[List.take_length]
 exact UP rfl
end
section
open Go.RowKit
end
section
open Go.RowKit
structure zA where
 start:List Int
 next:List (List Int)
 label:List Int
 fair:List (List Int)
def zA.cells (W:zA):List D:=[zB W.start,yd W.next,uV W.label,yd W.fair]
def wb (W:zA):D:=.agg W.cells
theorem ZJ (W:zA):zb W.cells:=by simp[zA.cells,zb,zj,yf,uC]
theorem we (W:zA):Pure (wb W):=by simp[wb,Pure,ZJ]
structure zA.Fits (W:zA):Prop where
 start:W.start.length≤17592186043904
 next:W.next.length≤17592186043904
 label:W.label.length≤17592186043904
 fair:W.fair.length≤17592186043904
 Vu:∀l∈W.next,l.length≤17592186043904
 Vh:∀l∈W.fair,l.length≤17592186043904
def zA.yF (W:zA):Int :=
 if 600<W.next.length∨80<W.fair.length then 2
 else if W.label.length≠W.next.length∨xJ W.start W.next.length=false then 1
 else if (W.next.any λl=>l.isEmpty||!(xJ l W.next.length))=true then 1
 else if (W.fair.any λl=>!(xJ l W.next.length))=true then 1
 else 0
def c146:PC:=.seq (OP [Mv 3 cF]) (.seq (OP [qm 4 0,Bi 5 .lss 4 (cI 0),qm 6 5,GF 7 6 (.move 0),GF 8 6 (.zg 1),GF 9 6 (.bin .geq 7 8),Pk 10 6 cT 9,qm 3 10]) .ret)
theorem zwz:zv Tryz.prog 146 11 [.tmp 3] c146:=fK Tryz.func146
def c81:PC:=.seq (OP [Bx 3 1,Mv 4 cF]) (.seq (OP [qm 5 0,q 6 (.uG (.func 146) [] [3]),Ca 7 52 [5,6],qm 4 7]) .ret)
theorem zy7:zv Tryz.prog 81 8 [.tmp 4] c81:=fK Tryz.func81
def c83:PC:=.seq (OP [Mv 3 cF]) (.seq (OP [qm 4 0,Lo 5 1,Ca 6 81 [4,5],qm 3 6]) .ret)
theorem zBe:zv Tryz.prog 83 7 [.tmp 3] c83:=fK Tryz.func83
def zCZ:PC:=.seq (OP [Bi 32 .lss 31 30]) (.seq (.cond 32 .skip (.exit 0)) (.seq (.block 1 (.seq (OP [Ia 33 1 29 31,Lo 34 33,qm 5 34]) (.seq (OP [qm 35 5,Ln 36 35,Bi 37 .eql 36 (cI 0),qm 38 37,GF 39 38 (.move 5),GF 40 38 (.zg 3),GF 41 38 (.call 81 [39,40]),Pk 42 38 cT 41]) (.cond 42 (.seq (OP [Mv 2 (cI 1)]) .ret) .skip)))) (OP [Bi 43 .add 31 (cI 1),qm 31 43])))
def c45:PC:=.seq (OP [Bx 1 0,Mv 2 (cI 0)]) (.seq (OP [Fa 6 1 1,Lo 7 6,Ln 8 7,q 3 (.alloc [(.int .i64 0)]),So 1 3 8]) (.seq (.seq (OP [Lo 9 3,Bi 10 .gtr 9 (cI 600),qm 11 10,GF 12 11 (.zy 3 1),GF 13 11 (.zg 12),GF 14 11 (.len 13),GF 15 11 (.bin .gtr 14 (cI 80)),Pk 16 11 cT 15]) (.cond 16 (.seq (OP [Mv 2 (cI 2)]) .ret) .skip)) (.seq (.seq (OP [Fa 17 2 1,Lo 18 17,Ln 19 18,Lo 20 3,Bi 21 .neq 19 20,qm 22 21,GF 23 22 (.zy 0 1),GF 24 22 (.zg 23),GF 25 22 (.zg 3),GF 26 22 (.call 81 [24,25]),Pk 27 22 cT 26]) (.cond 27 (.seq (OP [Mv 2 (cI 1)]) .ret) .skip)) (.seq (.seq (OP [Fa 28 1 1,Lo 29 28,Ln 30 29,Mv 31 (cI 0)]) (.block 0 (.loop zCZ))) (.seq (.seq (OP [Fa 44 3 1,Lo 45 44,q 46 (.uG (.func 83) [] [3]),Ca 47 82 [45,46]]) (.cond 47 (.seq (OP [Mv 2 (cI 1)]) .ret) .skip)) (.seq (OP [Mv 2 (cI 0)]) .ret))))))
theorem zyU:zv Tryz.prog 45 48 [.tmp 2] c45:=fK Tryz.func45
theorem zvt (x:Int) (n:Nat):zn Tryz.prog 146 [.sc (.int .i64 x),.yO [.sc (.int .i64 n)]] (.sc (.bool (decide (x<0)||decide (x≥(n:Int))))):=by
 refine za zwz zs (by simp[zb,Pure]) ?_ (by simp[Pure])
 refine sR ?_
 refine sS (λh=>?_) λh=>?_
 ·exact zR zs
 ·exact zR zs
theorem zlZ (l:List Int) (hl:l.length≤9223372036854775807) (n:Nat):zn Tryz.prog 81 [zB l,.sc (.int .i64 n)] (.sc (.bool !(xJ l n))):=by
 refine za zy7 zs (by simp[zb,Pure,zj]) ?_ (by simp[Pure])
 refine sR ?_
 refine sN (yo (λn=>.sc (.int .i64 n)) (λa=>by simp[Pure]) l hl (λx=>decide (x<0)||decide (x≥(n:Int))) 146 [.yO [.sc (.int .i64 n)]] (by simp[zb,Pure]) λa _=>zvt a n) ?_
 rw[ziz]
 exact .refl _
theorem zqk (l:List Int) (hl:l.length≤9223372036854775807) (n:Nat):zn Tryz.prog 83 [zB l,.yO [.sc (.int .i64 n)]] (.sc (.bool !(xJ l n))):=by
 refine za zBe zs (by simp[zb,Pure,zj]) ?_ (by simp[Pure])
 refine sR ?_
 refine sC (zlZ l hl n) ?_
 exact .refl _
theorem zaJ (W:zA) (hW:W.Fits):zn Tryz.prog 45 [wb W] (.sc (.int .i64 W.yF)):=by
 have b1:=hW.start
 have b2:=hW.next
 have b3:=hW.label
 have b4:=hW.fair
 refine za zyU zs (by simp[zb,Pure,we]) ?_ (by simp[Pure])
 refine sR ?_
 rw[List.length_map]
 have fin:∀{H:List zf} {z:Int},z=W.yF→Deep H (.sc (.int .i64 z)) (.sc (.int .i64 W.yF)):=λh=>h▸.refl _
 refine sS (λh1=>?_) λh1=>?_
 ·exact fin (by unfold zA.yF;rw[if_pos (sO)])
 rw[List.length_map]
 refine sS (λh2=>?_) λh2=>?_
 ·exact fin (by unfold zA.yF;rw[if_pos (sO)])
 have c1:¬(600<W.next.length∨80<W.fair.length):=sO
 rw[List.length_map]
 refine sS (λh3=>?_) λh3=>?_
 ·exact fin (by unfold zA.yF;rw[if_neg c1,if_pos (sO)])
 refine sC (zlZ W.start zo W.next.length) ?_
 refine sS (λh4=>?_) λh4=>?_
 ·exact fin (by unfold zA.yF;rw[if_neg c1,if_pos (.inr (by simpa using h4))])
 have c2:¬(W.label.length≠W.next.length∨xJ W.start W.next.length=false):=by
  rintro(q|q)
  ·exact sO
  ·rw[q] at h4;cases h4
 refine zP [1,3,29,30] (λk:Nat=>[(31,.sc (.int .i64 k))]) (λ_=>[]) (λk=>k≤W.next.length∧∀j (hj:j<k) (hl:j<W.next.length),(W.next[j].isEmpty||!(xJ W.next[j] W.next.length))=false) (λk=>W.next.length-k) 0 ?_
 refine sW ?_
 refine⟨⟨zo,λj hj=>zo⟩,by exact sK,rfl,?_⟩
 rintro k ⟨hk,hall⟩
 refine sW ?_
 refine sR ?_
 refine sS (λg=>?_) λg=>?_
 ·have hk':k<W.next.length:=sO
  refine sL (zhz (k:=k) zo hk') ?_
  rw[List.length_map]
  have bk:=hW.Vu _ (List.getElem_mem hk')
  refine sS (λg1=>?_) λg1=>?_
  ·have e1:(W.next[k]).isEmpty=true:=by rw[List.isEmpty_iff_length_eq_zero];exact sO
   exact fin (by unfold zA.yF;rw[if_neg c1,if_neg c2,if_pos (zib hk' (by rw[e1];rfl))])
  have e1:(W.next[k]).isEmpty=false:=by rw[←Bool.not_eq_true,List.isEmpty_iff_length_eq_zero];exact sO
  refine sC (zlZ W.next[k] zo W.next.length) ?_
  refine sS (λg2=>?_) λg2=>?_
  ·exact fin (by unfold zA.yF;rw[if_neg c1,if_neg c2,if_pos (zib hk' (by rw[g2,e1];rfl))])
  ·refine sI ?_
   refine⟨k+1,⟨zo,λj hj hl=>?_⟩,zd,zD (by exact sK) rfl⟩
   by_cases e:j=k
   ·subst e;rw[e1,g2];rfl
   ·exact hall j zo hl
 ·have hk':¬k<W.next.length:=sO
  have c3:¬(W.next.any λl=>l.isEmpty||!(xJ l W.next.length))=true:=by rw[zl2 λj hj=>hall j zo hj];simp
  refine sN (X2 zB zj W.fair zo (λl=>!(xJ l W.next.length)) 83 [.yO [.sc (.int .i64 W.next.length)]] (by simp[zb,Pure]) λa ha=>zqk a (by have:=hW.Vh a ha;omega) _) ?_
  refine sS (λg3=>?_) λg3=>?_
  ·exact fin (by unfold zA.yF;rw[if_neg c1,if_neg c2,if_neg c3,if_pos g3])
  ·exact fin (by unfold zA.yF;rw[if_neg c1,if_neg c2,if_neg c3,if_neg (by rw[g3];simp)])
end
section
open Go.RowKit
theorem qe (W:zA) (h:W.yF=0):W.label.length=W.next.length∧W.next.length≤600∧W.fair.length≤80∧xJ W.start W.next.length=true∧(∀l∈W.next,l.length≠0∧xJ l W.next.length=true)∧∀l∈W.fair,xJ l W.next.length=true:=by
 unfold zA.yF at h
 split at h
 ·exact absurd h zc
 split at h
 ·exact absurd h zc
 split at h
 ·exact absurd h zc
 split at h
 ·exact absurd h zc
 rename_i h1 h2 h3 h4
 refine⟨zo,zo,zo,?_,λl hl=>?_,λl hl=>?_⟩
 ·have:=not_or.1 h2
  simpa using this.2
 ·rw[Bool.not_eq_true,List.any_eq_false] at h3
  have:=h3 l hl
  simp only[Bool.or_eq_true,Bool.not_eq_true',not_or,Bool.not_eq_false,List.isEmpty_iff_length_eq_zero] at this
  exact this
 ·rw[Bool.not_eq_true,List.any_eq_false] at h4
  simpa using h4 l hl
end
section
section
open Go.RowKit
def ze6 (n:Int):List D:=[.sc (.int .i64 n)]
@[simp] theorem zcd {m:Nat} (n:Int):zl m (ze6 n):=by simp[ze6,zl,zt]
def zzY:PC:=.seq (OP [Bi 22 .lss 21 20]) (.seq (.cond 22 .skip (.exit 2)) (.seq (.block 3 (.seq (OP [Ia 23 1 19 21,Lo 24 23,qm 7 24]) (.seq (OP [qm 25 3,qm 26 7,Ia 27 1 25 26,Lo 28 27,Ln 29 28,qm 8 29]) (.seq (OP [qm 30 8,Bi 31 .eql 30 (cI 0),qm 32 31,GF 33 32 (.move 3),GF 34 32 (.move 7),GF 35 32 (.zM 1 33 34),GF 36 32 (.zg 35),GF 37 32 (.move 8),GF 38 32 (.bin .sub 37 (cI 1)),GF 39 32 (.zM 1 36 38),GF 40 32 (.zg 39),GF 41 32 (.move 4),GF 42 32 (.bin .neq 40 41),Pk 43 32 cT 42]) (.cond 43 (OP [qm 44 3,qm 45 7,qm 46 3,qm 47 7,Ia 48 1 46 47,Lo 49 48,qm 50 4,Bs 51 1 1 [50],Ap 52 1 8 49 51,Ia 53 1 44 45,So 1 53 52]) .skip))))) (OP [Bi 54 .add 21 (cI 1),qm 21 54])))
def zAU:PC:=.seq (OP [Bi 15 .lss 14 13]) (.seq (.cond 15 .skip (.exit 0)) (.seq (.block 1 (.seq (OP [qm 16 14,Ia 17 1 12 14,Lo 18 17,qm 4 16,qm 5 18]) (.seq (OP [qm 19 5,Ln 20 19,Mv 21 (cI 0)]) (.block 2 (.loop zzY))))) (OP [Bi 55 .add 14 (cI 1),qm 14 55])))
def c118:PC:=.seq (OP [Mv 2 cN]) (.seq (OP [qm 9 0,Ln 10 9,q 11 (.wP 1 24 [(.slice none 0 0)] 10 10),qm 3 11]) (.seq (.seq (OP [qm 12 0,Ln 13 12,Mv 14 (cI 0)]) (.block 0 (.loop zAU))) (.seq (OP [qm 56 3,qm 2 56]) .ret)))
theorem zuD:zv Tryz.prog 118 57 [.tmp 2] c118:=fK Tryz.func118
theorem zqc (g:List (List Int)) (hg:QW g=0) (hF:uZ g):zn Tryz.prog 118 [yd g] (yd (xp g g.length)):=by
 obtain⟨hn,xR⟩:=Yi.1 hg
 refine za zuD zs (by simp[zb,Pure,yf]) ?_ (yf _)
 unfold yd
 refine sR ?_
 rw[List.length_map]
 refine⟨zo,zo,zo,?_⟩
 rw[Int.toNat_natCast]
 refine sW ?_
 refine zH (zaB 0 1 g.length 0 zs rfl) ?_
 refine ye [3,12,13] (λn:Nat=>[(14,.sc (.int .i64 n))]) (λn=>.vec true 0 1 (vB 1 (xp g n))::xc 1 ze6 (xp g n)) (λn=>n≤g.length) (λn=>g.length-n) 0 ?_
 refine sW ?_
 refine⟨zo,by exact sK,?_,?_⟩
 ·show _::_=_::_
  rw[Wn 1 _ ze6]
  exact congrArg (λx=>zf.vec true 0 1 x::_) (Wy (α:=Int) 1 _)
 rintro n hnn
 refine sW ?_
 refine sR ?_
 rw[List.length_map]
 have lG:=vi g n
 refine sS (λh1=>?_) λh1=>?_
 ·have hn':n<g.length:=sO
  refine sL (xX (k:=n) zo hn') ?_
  rw[List.length_map]
  have lx:=hF.at n
  have lR:∀k,(Xd g n k (xp g n)).length=g.length:=λk=>by rw[Qn,lG]
  refine ye [3,4,12,13,14,19,20] (λk:Nat=>[(21,.sc (.int .i64 k))]) (λk=>.vec true 0 1 (vB 1 (Xd g n k (xp g n)))::xc 1 ze6 (Xd g n k (xp g n))) (λk=>k≤(g.getD n []).length) (λk=>(g.getD n []).length-k) 0 ?_
  refine sW ?_
  refine⟨zo,by exact sK,rfl,?_⟩
  rintro k hk
  have hl:=lR k
  refine sW ?_
  refine sR ?_
  refine sS (λh2=>?_) λh2=>?_
  ·have hk':k<(g.getD n []).length:=sO
   have hx:=zkp (xa xR n) hk'
   refine sL (yc (k:=k) zo hk') ?_
   have et:Xd g n (k+1) (xp g n)=Je (Xd g n k (xp g n)) n ((g.getD n []).getD k 0).toNat:=rfl
   generalize (g.getD n []).getD k 0=x at hx et
   refine sB ?_
   refine⟨_,wj (i:=x.toNat) zo zo,?_⟩
   refine sW ?_
   refine zlV zo ?_
   refine sW ?_
   generalize hR:Xd g n k (xp g n)=R at hl et ⊢
   rw[Nat.sub_zero]
   have hrow:(R.getD x.toNat []).length≤n+1:=by
    have h5:=Xv g n x.toNat
    rcases QE (g:=g) (n:=n) (m:=x.toNat) (L:=xp g n) k with h|h
    ·rw[←hR,h];omega
    ·rw[←hR,h,List.length_append,List.length_singleton];omega
   have eE:Je R n x.toNat=if (R.getD x.toNat []).length=0∨(R.getD x.toNat []).getD ((R.getD x.toNat []).length-1) 0≠(n:Int) then R.set x.toNat (R.getD x.toNat []++[(n:Int)]) else R:=rfl
   cases h3:(((R.getD x.toNat []).length:Int)==0)
   ·refine sW ?_
    have hne:(R.getD x.toNat []).length≠0:=sO
    refine sB ?_
    refine⟨_,wj (i:=x.toNat) zo zo,?_⟩
    refine sW ?_
    refine sI ?_
    refine zlV zo ?_
    refine sW ?_
    refine⟨zo,zo,?_⟩
    refine sW ?_
    refine zlV zo ?_
    refine sW ?_
    refine⟨_,yc (l:=R.getD x.toNat []) (k:=(R.getD x.toNat []).length-1) zo zo,?_⟩
    refine sW ?_
    refine sS (λh4=>?_) λh4=>?_
    ·have hap:(R.getD x.toNat []).length=0∨(R.getD x.toNat []).getD ((R.getD x.toNat []).length-1) 0≠(n:Int):=.inr (sO)
     refine sB ?_
     refine⟨_,wj (i:=x.toNat) zo zo,?_⟩
     refine sW ?_
     refine zba ?_
     refine sW ?_
     (repeat (first|(refine xS 0 rfl ?_;((conv=>whnf);repeat(refine⟨rfl,?_⟩;conv=>whnf)))|(refine xU 0 rfl ?_;((conv=>whnf);repeat(refine⟨rfl,?_⟩;conv=>whnf)))|(refine xS 1 rfl ?_;((conv=>whnf);repeat(refine⟨rfl,?_⟩;conv=>whnf)))|(refine xU 1 rfl ?_;((conv=>whnf);repeat(refine⟨rfl,?_⟩;conv=>whnf)))))
     refine zaX zo ?_
     refine sW ?_
     refine⟨by unfold xg;simp only[List.length_drop,List.length_take,List.length_cons,List.length_nil];omega,?_⟩
     refine sW ?_
     refine zc2 (R.getD x.toNat []++[(n:Int)]) zo ?_ ?_
     ·exact zd2
     refine sW ?_
     refine sB ?_
     refine⟨_,wj (i:=x.toNat) zo zo,?_⟩
     refine sW ?_
     refine sI ?_
     refine⟨k+1,zo,zd,?_⟩
     dsimp only
     rw[et,eE,if_pos hap]
     refine zm (g.length+1) (by simp[lG]) (by simp[hl]) (by exact sQ) ⟨⟨rfl,rfl,rfl,zp (Wd zo zo _ zs),uY (by simp;omega)⟩,Vp zcd⟩
    ·have hap:¬((R.getD x.toNat []).length=0∨(R.getD x.toNat []).getD ((R.getD x.toNat []).length-1) 0≠(n:Int)):=by
      rintro(q|q)
      ·exact hne q
      ·exact sO
     refine sI ?_
     refine⟨k+1,zo,zd,?_⟩
     dsimp only
     rw[et,eE,if_neg hap]
     exact zD (by exact sK) rfl
   ·refine sW ?_
    have hne:(R.getD x.toNat []).length=0:=sO
    have hap:(R.getD x.toNat []).length=0∨(R.getD x.toNat []).getD ((R.getD x.toNat []).length-1) 0≠(n:Int):=.inl hne
    refine sB ?_
    refine⟨_,wj (i:=x.toNat) zo zo,?_⟩
    refine sW ?_
    refine zba ?_
    refine sW ?_
    (repeat (first|(refine xS 0 rfl ?_;((conv=>whnf);repeat(refine⟨rfl,?_⟩;conv=>whnf)))|(refine xU 0 rfl ?_;((conv=>whnf);repeat(refine⟨rfl,?_⟩;conv=>whnf)))|(refine xS 1 rfl ?_;((conv=>whnf);repeat(refine⟨rfl,?_⟩;conv=>whnf)))|(refine xU 1 rfl ?_;((conv=>whnf);repeat(refine⟨rfl,?_⟩;conv=>whnf)))))
    refine zaX zo ?_
    refine sW ?_
    refine⟨by unfold xg;simp only[List.length_drop,List.length_take,List.length_cons,List.length_nil];omega,?_⟩
    refine sW ?_
    refine zc2 (R.getD x.toNat []++[(n:Int)]) zo ?_ ?_
    ·exact zd2
    refine sW ?_
    refine sB ?_
    refine⟨_,wj (i:=x.toNat) zo zo,?_⟩
    refine sW ?_
    refine sI ?_
    refine⟨k+1,zo,zd,?_⟩
    dsimp only
    rw[et,eE,if_pos hap]
    refine zm (g.length+1) (by simp[lG]) (by simp[hl]) (by exact sQ) ⟨⟨rfl,rfl,rfl,zp (Wd zo zo _ zs),uY (by simp;omega)⟩,Vp zcd⟩
  ·have hk':k=(g.getD n []).length:=by have:¬k<(g.getD n []).length:=sO
                                       omega
   subst hk'
   refine sI ?_
   refine⟨n+1,zo,zd,?_⟩
   exact zD (by exact sK) rfl
 ·have hn':n=g.length:=by have:¬n<g.length:=sO
                          omega
  subst hn'
  have:=zi6 (H:=zf.vec true 0 1 (vB 1 (xp g g.length))::xc 1 ze6 (xp g g.length)) (b:=1) (zK:=1) (c:=ze6) (L:=xp g g.length) (λi hi=>by
   rw[show i+1=i+1 from rfl,List.getElem?_cons_succ]
   exact XG hi)
  refine .own _ _ _ _ _ _ _ _ rfl ?_
  rw[zw (by simp[lG])]
  exact this
end
section
open Go.RowKit
open Classical in
theorem zoc {Z:List Int} {lo hi:Nat} (h1:lo<hi) (h2:hi≤Z.length):(Z.take hi).drop lo=Z.getD lo 0::(Z.take hi).drop (lo+1):=by
 rw[List.drop_eq_getElem_cons (by rw[List.length_take];omega),List.getElem_take,List.getD_eq_getElem?_getD,List.getElem?_eq_getElem zo]
 rfl
theorem Zo {Z:List Int} {lo hi:Nat} {k:Int}:((zI Z).take hi).drop lo++[[D.sc (.int .i64 k)]]=zI ((Z.take hi).drop lo++[k]):=by
 simp[zI]
end
section
open Go.RowKit
def WV (l:List Int):List Nat:=l.map Int.toNat
theorem zaP (l r:List Int):WV (l++r)=WV l++WV r:=by simp[WV]
theorem WT {l:List Int} {n:Nat}:n∈WV l↔∃x∈l,x.toNat=n:=by simp[WV]
theorem zgY (x:Int) (r:List Int):WV (x::r)=x.toNat::WV r:=rfl
end
section
open Go.RowKit
end
end
section
open Go.RowKit
theorem zo8 {P:Program} {f:FuncId} {args args':List D} {d:D} {H:List zf} (hd:wX H args args') (h:zn P f args' d):yr P f args H d (WB H):=by
 obtain⟨hf,hp⟩:=h
 refine⟨hf,by rw[vr,List.length_map];exact Nat.le_refl _,λJ F w vs hok hdom hargs=>?_⟩
 have hlt:∀b,F b∨ZG J b→b<w.heap.size:=λb hb=>hb.elim (hok.lt b) λ⟨i,s,hi,hs⟩=>hok.xx hi hs
 refine(hp J (λb=>F b∨ZG J b) w _ (hok.lt.mono (λ_ h=>.inl h) (λ_ _=>rfl) hlt) (ud hok (λ_ _ h=>h) _ _ _ hd hargs)).mono λe w' hR=>?_
 obtain⟨v,F',rfl,h1,h2,h3⟩:=hR
 have hblk:∀b,b<w.heap.size→w'.heap[b]? = w.heap[b]?:=λb hb=>h3.block b hb (ZR b)
 refine⟨v,J,F',rfl,⟨λi s hs=>?_,hok.one,λi s b o g1 g2 g3 g4=>?_,hok.lt.mono (λb hb=>h3.grow b (.inl hb)) (λb hb=>hblk b (hok.lt b hb)) h1⟩,λid hid=>?_,yX (zak J) (λ_ h=>h) (λ_ _=>rfl) _ _ h2,?_⟩
 ·obtain⟨o,q1,q2⟩:=hok.obj i s hs
  refine⟨o.frozen,?_,?_⟩
  ·rw[vr,List.getElem?_map,q1];rfl
  ·have q3:=xZ (J':=J) (F':=F') (w':=w') (y4.le_refl J) (λb hb=>h3.grow b (.inl hb)) (λb hb=>hblk b (hok.lt b hb)) (λb hb=>hblk b (hok.xx hs hb)) q2
   cases o with
   | row m cs =>
    obtain⟨k1,k2,k3,k4,k5,b,vals,te,t1,t2,t3,t4,t5⟩:=q3
    exact⟨k1,k2,k3,k4,k5,b,vals,te,t1,t2,t3,t4,λ_=>h3.grow b (.inr ⟨i,s,hs,by simp[Site.qa,k1,t1]⟩)⟩
   | vec m v e xs =>
    obtain⟨k1,k2,k3,k4,k5,k6⟩:=q3
    refine⟨k1,k2,k3,k4,k5,?_⟩
    by_cases hz:s.cap=0
    ·exact .inl hz
    ·rcases k6 with k6|⟨b,o,vals,te,t1,t2,t3,t4,t5⟩
     ·exact .inl k6
     ·exact .inr ⟨b,o,vals,te,t1,t2,t3,t4,λ_=>h3.grow b (.inr ⟨i,s,hs,by simp[Site.qa,k1,hz,t1]⟩)⟩
   | wg m I=>exact q3
 ·exfalso
  rw[vr,List.getElem?_map] at g3
  cases e:H[i]? with
  | none=>rw[e] at g3;cases g3
  | some x =>
   rw[e] at g3
   cases x<;>cases g3<;>cases g4
 ·rw[vr,List.length_map]
  exact hdom id hid
 ·exact⟨h3.os,h3.tape,h3.output,h3.size,λb hb _=>hblk b hb,λb hb=>hblk b (hok.lt b hb),y4.le_refl J,λb hb=>h3.grow b (.inl hb),λb hb=>.inl hb,λb hb=>by
   rcases h3.wG b hb with q|q|q
   ·rcases q with q|q
    ·exact .inl q
    ·exact .inr (.inl q)
   ·exact absurd q (ZR b)
   ·exact .inr (.inr q)⟩
theorem Wx {P:Program} {f:FuncId} {args0 args' args:List D} {d:D} {H0 H:List zf} (hd:wX H0 args0 args') (h:zn P f args' d) (hp:Pure d) (L:List Nat) (hL:L.length=H0.length) (hnd:L.Nodup)
  (hargs:zl H0.length args0) (hobj:wJ H0.length H0) (e1:yE (λi=>L.getD i 0) args0=args)
  (h1:∀i o,H0[i]? = some o→H[L.getD i 0]? = some (o.yG λi=>L.getD i 0)):qs P f args H d (WK H L ((WB H0).map (zf.yG λi=>L.getD i 0))) L :=
 JY (zo8 hd h) (by rw[vr,List.length_map]) L hL hnd hargs hobj e1 (yM _ hp) h1
theorem qh {P:Program} {f:FuncId} {pre post:List D} {d:D} {H:List zf} {id z7 lo hi zK:Nat} {q:Bool} {xs:List (List D)} (h:zn P f (pre++.xl zK ((xs.take hi).drop lo)::post) d) (hp:Pure d) (hpre:zb pre) (hpost:zb post) (hxs:yJ xs)
  (hid:H[id]? = some (.vec q z7 zK xs)):qs P f (pre++.own id z7 lo hi::post) H d (H.set id (.vec false z7 zK xs)) [id]:=by
 have hap:∀(a b:List D) (ρ:Nat→Nat),yE ρ (a++b)=yE ρ a++yE ρ b:=λa b ρ=>by
  induction a with
  | nil=>simp only[yE,List.nil_append]
  | cons x r ih=>simp only[List.cons_append,yE,ih]
 have hua:∀(a b:List D),zl 1 a→zl 1 b→zl 1 (a++b):=λa b ha hb=>by
  induction a with
  | nil=>exact hb
  | cons x r ih=>simp only[zl,List.cons_append] at ha ⊢;exact⟨ha.1,ih ha.2⟩
 have hda:∀(a b c e:List D),wX [.vec q z7 zK xs] a b→wX [.vec q z7 zK xs] c e→wX [.vec q z7 zK xs] (a++c) (b++e):=λa b c e ha hc=>by
  induction a generalizing b with
  | nil=>cases ha;exact hc
  | cons x r ih=>cases ha with|cons _ _ _ _ h k=>exact .cons _ _ _ _ h (ih _ k)
 have:=Wx (args0:=pre++.own 0 z7 lo hi::post) (H0:=[.vec q z7 zK xs]) (H:=H) (args:=pre++.own id z7 lo hi::post)
  (hda _ _ _ _ (xy pre) (.cons _ _ _ _ (.own _ _ _ _ _ _ _ _ rfl (z8 _)) (xy post))) h hp [id] rfl zs (hua _ _ (zr _ hpre) ⟨by simp[zt],zr _ hpost⟩) ⟨zi _ hxs,trivial⟩
  (by rw[hap,xe _ hpre];simp only[yE,D.yG,xe _ hpost];rfl) (λi o ho=>by
   cases i with
   | zero =>
    simp at ho;subst ho
    show H[id]? = _
    rw[hid]
    simp only[zf.yG,yA _ hxs]
   | succ i=>simp at ho)
 simpa [WB,zf.frozen,zf.yG,yA _ hxs,WK] using this
end
section
open Go.RowKit
def Yy (N:Nat) (T:Nat→List Int) (k:Nat) (c:List Int):List (List Int):=(List.range N).map λi=>if i<k then T i else if i=k then c else []
@[simp] theorem ztO (N:Nat) (T:Nat→List Int) (k:Nat) (c:List Int):(Yy N T k c).length=N:=by simp[Yy]
theorem zsH {N i:Nat} {T:Nat→List Int} {k:Nat} {c:List Int} (h:i<N):(Yy N T k c).getD i []=if i<k then T i else if i=k then c else []:=by
 rw[List.getD_eq_getElem?_getD,List.getElem?_eq_getElem (by simpa using h)];simp[Yy]
theorem zwx {N:Nat} {T:Nat→List Int} {k:Nat} {c:List Int} (h:k<N):(Yy N T k c).getD k []=c:=by
 rw[zsH h,if_neg zo,if_pos rfl]
theorem zse {N:Nat} {T:Nat→List Int} {k:Nat} {c c':List Int} (h:k<N):(Yy N T k c).set k c'=Yy N T k c':=by
 refine List.ext_getElem? λi=>?_
 rw[List.getElem?_set]
 by_cases e:k=i
 ·subst e
  rw[if_pos rfl,if_pos (by simpa using h),List.getElem?_eq_getElem (by simpa using h)]
  simp[Yy]
 ·rw[if_neg e]
  by_cases hi:i<N
  ·rw[List.getElem?_eq_getElem (by simpa using hi),List.getElem?_eq_getElem (by simpa using hi)]
   simp only[Yy,List.getElem_map,List.getElem_range]
   congr 1
   by_cases q:i<k
   ·rw[if_pos q,if_pos q]
   ·rw[if_neg q,if_neg q,if_neg (λz=>e z.symm),if_neg (λz=>e z.symm)]
  ·rw[List.getElem?_eq_none (by simp;omega),List.getElem?_eq_none (by simp;omega)]
theorem zp3 {N:Nat} {T:Nat→List Int} {k:Nat}:Yy N T k (T k)=Yy N T (k+1) []:=by
 unfold Yy
 refine List.map_congr_left λi _=>?_
 by_cases q:i<k
 ·rw[if_pos q,if_pos zo]
 ·rw[if_neg q]
  by_cases e:i=k
  ·subst e;rw[if_pos rfl,if_pos zo]
  ·rw[if_neg e,if_neg zo];split<;>rfl
theorem zpJ (N:Nat) (T:Nat→List Int):Yy N T 0 []=List.replicate N []:=by
 refine List.ext_getElem? λi=>?_
 by_cases h:i<N
 ·rw[List.getElem?_eq_getElem (by simpa using h),List.getElem?_eq_getElem (by simpa using h)]
  simp[Yy]
 ·rw[List.getElem?_eq_none (by simp;omega),List.getElem?_eq_none (by simp;omega)]
theorem zpn (N:Nat) (T:Nat→List Int) (c:List Int):Yy N T N c=(List.range N).map T:=by
 unfold Yy
 exact List.map_congr_left λi hi=>if_pos (List.mem_range.1 hi)
theorem zuV {g:List (List Int)} (xR:∀l∈g,xJ l g.length=true) (z:Nat→Bool):∀l∈qj g z,xJ l (qj g z).length=true:=by
 intro l hl
 obtain⟨v,hv,rfl⟩:=List.mem_map.1 hl
 rw[zd4]
 split
 ·exact wA λx hx=>z1 (xa xR v) (List.mem_filter.1 hx).1
 ·rfl
theorem zqD {g:List (List Int)} (hF:uZ g) (z:Nat→Bool):uZ (qj g z):=by
 refine⟨by rw[zd4];exact hF.len,λl hl=>?_⟩
 obtain⟨v,hv,rfl⟩:=List.mem_map.1 hl
 have:=hF.at v
 split
 ·exact Nat.le_trans (List.length_filter_le _ _) this
 ·simp
theorem zpL {g:List (List Int)} (hg:QW g=0):QW (xp g g.length)=0∧uZ (xp g g.length)∧zcP (xp g g.length) (λ_=>false)≤g.length*g.length:=by
 obtain⟨hn,xR⟩:=Yi.1 hg
 have hin1:∀v x,x∈g.getD v []→x.toNat<g.length:=λv x hx=>by have:=z1 (xa xR v) hx;omega
 have hr:∀l∈xp g g.length,∃m,l=(xp g g.length).getD m []:=λl hl=>by
  obtain⟨m,hm,rfl⟩:=List.mem_iff_getElem.1 hl
  exact⟨m,by rw[List.getD_eq_getElem?_getD,List.getElem?_eq_getElem hm];rfl⟩
 refine⟨Yi.2 ⟨by rw[vi];exact hn,λl hl=>?_⟩,⟨by rw[vi];omega,λl hl=>?_⟩,?_⟩
 ·obtain⟨m,rfl⟩:=hr l hl
  rw[vi]
  refine wA λx hx=>?_
  obtain⟨k,hk,rfl,_⟩:=(XC hin1 (Nat.le_refl _)).1 hx
  omega
 ·obtain⟨m,rfl⟩:=hr l hl
  have:=Xv g g.length m
  omega
 ·have key:∀n,vp (λv=>if false=true then 0 else ((xp g g.length).getD v []).length) n≤n*g.length:=λn=>by
   induction n with
   | zero=>simp[vp]
   | succ n ih =>
    simp only[vp] at ih ⊢
    have:=Xv g g.length n
    rw[Nat.add_mul,Nat.one_mul]
    simp only[Bool.false_eq_true,if_false] at ih ⊢
    omega
  have:=key (xp g g.length).length
  rw[vi] at this
  unfold zcP
  rw[vi]
  exact this
def c67:PC:=.seq (OP [Mv 2 cN,Mv 3 (cI 0)]) (.seq (.seq (OP [qm 5 0,Ca 6 26 [5],qm 4 6]) (.seq (OP [qm 7 4,Bi 8 .neq 7 (cI 0)]) (.cond 8 (.seq (OP [qm 9 4,Mv 2 cN,qm 3 9]) .ret) .skip))) (.seq (OP [qm 10 0,Ca 11 118 [10],qm 2 11,Mv 3 (cI 0)]) .ret))
theorem zzW:zv Tryz.prog 67 12 [.tmp 2,.tmp 3] c67:=fK Tryz.func67
theorem zgX (g:List (List Int)) (hg:QW g=0) (hF:uZ g):zn Tryz.prog 67 [yd g] (.yP [yd (xp g g.length),.sc (.int .i64 0)]):=by
 refine za zzW zs (by simp[zb,yf]) ?_ (by simp[Pure,zb,yf])
 refine sR ?_
 refine sC (zf0 g hF) ?_
 refine sS (λh1=>?_) λh1=>?_
 ·exfalso;exact sO
 refine sC (zqc g hg hF) ?_
 exact .refl _
theorem zpr {L:List (List Int)} {n:Nat} (hn:n=L.length):D.xl 1 (((L.map λl=>[zB l]).take n).drop 0)=yd L:=by
 subst hn
 unfold yd
 rw[zw zs]
@[simp] theorem zyt {m:Nat} (l:List Int):zt m (uV l)↔True:=⟨λ_=>trivial,λ_=>zz _ (uC l)⟩
def u0 (g:List (List Int)) (z:Nat→Bool) (v k:Nat):List Int:=if z v=true then ((g.getD v []).take k).filter λx=>z x.toNat else []
theorem zpK {g:List (List Int)} {z:Nat→Bool} {v k:Nat} (h:k<(g.getD v []).length):u0 g z v (k+1)=if z v=true∧z ((g.getD v []).getD k 0).toNat=true then u0 g z v k++[(g.getD v []).getD k 0] else u0 g z v k:=by
 unfold u0
 generalize g.getD v []=L at h ⊢
 cases hz:z v
 ·simp
 ·rw[if_pos rfl,if_pos rfl,List.take_add_one,List.getElem?_eq_getElem h,List.filter_append,List.getD_eq_getElem?_getD,List.getElem?_eq_getElem h]
  simp only[Option.toList_some,Option.getD_some,true_and,List.filter_cons,List.filter_nil]
  split<;>simp
theorem zsZ (g:List (List Int)) (z:Nat→Bool) (v k:Nat):(u0 g z v k).length≤k:=by
 unfold u0
 split
 ·exact Nat.le_trans (List.length_filter_le _ _) (by simp;omega)
 ·simp
theorem zrX (g:List (List Int)) (z:Nat→Bool):(List.range g.length).map (λv=>u0 g z v (g.getD v []).length)=qj g z:=by
 unfold qj u0
 exact List.map_congr_left λv _=>by rw[List.take_length]
def wI (vZ:Nat→Bool) (k:Nat):List Int:=((List.range k).filter vZ).map λn:Nat=>(n:Int)
theorem Vz (vZ:Nat→Bool) (k:Nat):wI vZ (k+1)=if vZ k=true then wI vZ k++[(k:Int)] else wI vZ k:=by
 unfold wI
 rw[List.range_succ,List.filter_append,List.map_append]
 simp only[List.filter_cons,List.filter_nil]
 split<;>simp
theorem QG (vZ:Nat→Bool) (k:Nat):(wI vZ k).length≤k:=by
 unfold wI
 rw[List.length_map]
 exact Nat.le_trans (List.length_filter_le _ _) zs
theorem vR {vZ:Nat→Bool} {k:Nat} {x:Int}:x∈wI vZ k↔0≤x∧x<(k:Int)∧vZ x.toNat=true:=by
 unfold wI
 rw[List.mem_map]
 constructor
 ·rintro⟨n,hn,rfl⟩
  obtain⟨h1,h2⟩:=List.mem_filter.1 hn
  have:=List.mem_range.1 h1
  exact⟨zo,zo,by rw[Int.toNat_natCast];exact h2⟩
 ·rintro⟨h1,h2,h3⟩
  exact⟨x.toNat,List.mem_filter.2 ⟨List.mem_range.2 zo,h3⟩,zo⟩
def zz2:PC:=.seq (OP [Bi 33 .lss 32 31]) (.seq (.cond 33 .skip (.exit 2)) (.seq (.block 3 (.seq (OP [Ia 34 1 30 32,Lo 35 34,qm 9 35]) (.seq (OP [qm 36 1,qm 37 6,Ia 38 1 36 37,Lo 39 38,qm 40 39,GT 41 40 (.move 1),GT 42 40 (.move 9),GT 43 40 (.zM 1 41 42),GT 44 40 (.zg 43),Pk 45 40 44 cF]) (.cond 45 (OP [qm 46 5,qm 47 6,qm 48 5,qm 49 6,Ia 50 1 48 49,Lo 51 50,qm 52 9,Bs 53 1 1 [52],Ap 54 1 8 51 53,Ia 55 1 46 47,So 1 55 54]) .skip)))) (OP [Bi 56 .add 32 (cI 1),qm 32 56])))
def zz6:PC:=.seq (OP [Bi 26 .lss 25 24]) (.seq (.cond 26 .skip (.exit 0)) (.seq (.block 1 (.seq (OP [qm 27 25,Ia 28 1 23 25,Lo 29 28,qm 6 27,qm 7 29]) (.seq (OP [qm 30 7,Ln 31 30,Mv 32 (cI 0)]) (.block 2 (.loop zz2))))) (OP [Bi 57 .add 25 (cI 1),qm 25 57])))
def zzN:PC:=.seq (OP [Bi 68 .lss 67 66]) (.seq (.cond 68 .skip (.exit 4)) (.seq (.block 5 (.seq (OP [qm 69 67,qm 13 69]) (.seq (OP [qm 70 1,qm 71 13,Ia 72 1 70 71,Lo 73 72,qm 74 73,GT 75 74 (.move 11),GT 76 74 (.move 10),GT 77 74 (.move 13),GT 78 74 (.zM 1 76 77),GT 79 74 (.zg 78),GT 80 74 (.zM 1 75 79),GT 81 74 (.zg 80),Pk 82 74 81 cF]) (.cond 82 (OP [qm 83 12,qm 84 13,Bs 85 1 1 [84],Ap 86 1 8 83 85,qm 12 86]) .skip)))) (OP [Bi 87 .add 67 (cI 1),qm 67 87])))
def c117:PC:=.seq (OP [Bx 2 0,Mv 4 cN]) (.seq (OP [Fa 18 1 2,Lo 19 18,Ln 20 19,q 21 (.wP 1 24 [(.slice none 0 0)] 20 20),qm 5 21]) (.seq (.seq (OP [Fa 22 1 2,Lo 23 22,Ln 24 23,Mv 25 (cI 0)]) (.stop (.block 0 (.loop zz6)))) (.seq (OP [qm 58 5,Ca 59 94 [58],qm 10 59]) (.seq (OP [qm 60 5,qm 61 10,Fa 62 3 2,Lo 63 62,Ca 64 181 [60,61,63],qm 11 64]) (.seq (OP [Mv 12 cN]) (.seq (.seq (OP [qm 65 5,Ln 66 65,Mv 67 (cI 0)]) (.block 4 (.loop zzN))) (.seq (OP [qm 89 5,Ca 90 67 [89],qm 88 90,Xt 91 0 88,Xt 92 1 88,qm 14 91,qm 15 92]) (.seq (OP [qm 94 14,qm 95 12,Ca 96 13 [94,95],qm 93 96,Xt 97 0 93,Xt 98 1 93,qm 16 97,qm 17 98]) (.seq (OP [qm 99 16,qm 4 99]) .ret)))))))))
theorem zxl:zv Tryz.prog 117 100 [.tmp 4] c117:=fK Tryz.func117
theorem zhd (W:zA) (hW:W.Fits) (hc:W.yF=0) (z:Nat→Bool):zn Tryz.prog 117 [wb W,ur W.next.length z] (ur W.next.length (fwB (qj W.next z) (W.fair.map We))):=by
 obtain⟨_,h600,h80,_,hnx,hfr⟩:=qe W hc
 have hin0:∀l∈W.next,xJ l W.next.length=true:=λl hl=>(hnx l hl).2
 have hFN:uZ W.next:=⟨hW.next,hW.Vu⟩
 have hFF:uZ W.fair:=⟨hW.fair,hW.Vh⟩
 have hrow:=λk=>xa hin0 k
 refine za zxl zs (by simp[zb,we,zY]) ?_ (zY _ _)
 unfold wb
 refine sR ?_
 rw[List.length_map]
 refine⟨zo,zo,zo,?_⟩
 rw[Int.toNat_natCast]
 refine sW ?_
 rw[List.length_map]
 refine zde (λ_:Unit=>[(1,ur W.next.length z),(2,.loc 0 0),(5,.own 1 0 0 W.next.length)]) (λ_=>[.row true W.cells,.vec true 0 1 ((qj W.next z).map λl=>[zB l])]) (λ_=>True) ?_ ?_
 ·refine sR ?_
  refine zH (zaB 1 1 W.next.length 0 zs rfl) ?_
  refine ye [1,2,5,23,24] (λk:Nat=>[(25,.sc (.int .i64 k))]) (λk=>.row true W.cells::.vec true 0 1 (vB 2 (Yy W.next.length (λv=>u0 W.next z v (W.next.getD v []).length) k []))::xc 1 U7 (Yy W.next.length (λv=>u0 W.next z v (W.next.getD v []).length) k [])) (λk=>k≤W.next.length) (λk=>W.next.length-k) 0 ?_
  refine sW ?_
  refine⟨zo,by exact sK,?_,?_⟩
  ·rw[zpJ]
   show _::_::_=_::_::_
   rw[Wn 1 _ U7]
   exact congrArg (λx=>zf.row true W.cells::zf.vec true 0 1 x::_) (Wy (α:=Int) 2 _)
  rintro k hk
  refine sW ?_
  refine sR ?_
  refine sS (λq0=>?_) λq0=>?_
  ·have q0:k<W.next.length:=sO
   have hgF:=hFN.at k
   refine sL (xX (g:=W.next) (k:=k) zo q0) ?_
   rw[List.length_map]
   refine ye [1,2,5,6,23,24,25,30,31] (λj:Nat=>[(32,.sc (.int .i64 j))]) (λj=>.row true W.cells::.vec true 0 1 (vB 2 (Yy W.next.length (λv=>u0 W.next z v (W.next.getD v []).length) k (u0 W.next z k j)))::xc 1 U7 (Yy W.next.length (λv=>u0 W.next z v (W.next.getD v []).length) k (u0 W.next z k j)))
    (λj=>j≤(W.next.getD k []).length) (λj=>(W.next.getD k []).length-j) 0 ?_
   refine sW ?_
   refine⟨zo,by exact sK,by rw[show u0 W.next z k 0=[] by unfold u0;split<;>simp],?_⟩
   rintro j hj
   refine sW ?_
   refine sR ?_
   refine sS (λq1=>?_) λq1=>?_
   ·have q1:j<(W.next.getD k []).length:=sO
    have eS:=zpK (z:=z) q1
    have hx:=z1 (hrow k) (yz q1)
    have hrl:=zsZ W.next z k j
    refine sL (yc (l:=W.next.getD k []) (k:=j) zo q1) ?_
    refine sL (yh k zo q0) ?_
    generalize (W.next.getD k []).getD j 0=x at *
    have same:(z k=true∧z x.toNat=true→False)→u0 W.next z k (j+1)=u0 W.next z k j:=λh=>by rw[eS,if_neg h]
    cases zk:z k
    ·refine sW ?_
     refine sI ?_
     refine⟨j+1,zo,zd,zD (by exact sK) ?_⟩
     dsimp only
     rw[same λq=>by rw[zk] at q;cases q.1]
    ·refine sW ?_
     refine sL (yh x.toNat zo zo) ?_
     cases zx:z x.toNat
     ·refine sW ?_
      refine sI ?_
      refine⟨j+1,zo,zd,zD (by exact sK) ?_⟩
      dsimp only
      rw[same λq=>by rw[zx] at q;cases q.2]
     ·rw[if_pos ⟨zk,zx⟩] at eS
      refine sW ?_
      refine sB ?_
      refine⟨_,wj (i:=k) zo (by simp;omega),?_⟩
      refine sW ?_
      have hset:(Yy W.next.length (λv=>u0 W.next z v (W.next.getD v []).length) k (u0 W.next z k j)).set k (u0 W.next z k j++[x])=Yy W.next.length (λv=>u0 W.next z v (W.next.getD v []).length) k (u0 W.next z k (j+1)):=by rw[zse q0,←eS]
      have hlen:(Yy W.next.length (λv=>u0 W.next z v (W.next.getD v []).length) k (u0 W.next z k j)).length=W.next.length:=ztO ..
      have hgk:(Yy W.next.length (λv=>u0 W.next z v (W.next.getD v []).length) k (u0 W.next z k j)).getD k []=u0 W.next z k j:=zwx q0
      generalize Yy W.next.length (λv=>u0 W.next z v (W.next.getD v []).length) k (u0 W.next z k j)=R at *
      refine zba ?_
      refine sW ?_
      (repeat (first|(refine xS 0 rfl ?_;((conv=>whnf);repeat(refine⟨rfl,?_⟩;conv=>whnf)))|(refine xU 0 rfl ?_;((conv=>whnf);repeat(refine⟨rfl,?_⟩;conv=>whnf)))|(refine xS 1 rfl ?_;((conv=>whnf);repeat(refine⟨rfl,?_⟩;conv=>whnf)))|(refine xU 1 rfl ?_;((conv=>whnf);repeat(refine⟨rfl,?_⟩;conv=>whnf)))))
      refine zaX zo ?_
      refine sW ?_
      rw[hgk]
      refine⟨by unfold xg;simp only[List.length_drop,List.length_take,List.length_cons,List.length_nil];omega,?_⟩
      refine sW ?_
      refine zc2 (u0 W.next z k j++[x]) zo ?_ ?_
      ·exact zd2
      refine sW ?_
      refine sB ?_
      refine⟨_,wj (i:=k) zo zo,?_⟩
      refine sW ?_
      refine sI ?_
      refine⟨j+1,zo,zd,?_⟩
      dsimp only
      rw[hset]
      refine zm (W.next.length+2) zs zs (by exact sQ) ⟨⟨rfl,.refl _,zr _ (ZJ W)⟩,⟨rfl,rfl,rfl,zp ?_,uY (by simp;omega)⟩,Vp zcF⟩
      exact(Wd zo zo (u0 W.next z k j++[x]) zs).trans (by rw[hset])
   ·have q1:j=(W.next.getD k []).length:=by have:¬j<(W.next.getD k []).length:=sO
                                            omega
    subst q1
    rw[show Yy W.next.length (λv=>u0 W.next z v (W.next.getD v []).length) k (u0 W.next z k (W.next.getD k []).length)=Yy W.next.length (λv=>u0 W.next z v (W.next.getD v []).length) (k+1) [] from zp3]
    refine sI ?_
    exact⟨k+1,zo,zd,zD (by exact sK) rfl⟩
  ·have q0:k=W.next.length:=by have:¬k<W.next.length:=sO
                               omega
   subst q0
   rw[zpn,zrX]
   refine⟨(),trivial,zm 2 zs rfl (by exact sQ) ⟨⟨rfl,.refl _,zr _ (ZJ W)⟩,⟨rfl,rfl,rfl,VB (c:=U7) (λi hi=>by simp[X8]) (λi hi=>?_),zi _ (vy _)⟩,J3 _⟩⟩
   show(xc 1 U7 (qj W.next z))[i]? = _
   exact XG hi
 intro _ _
 have g1:=zuV hin0 z
 have g2:=zqD hFN z
 have hl:=zd4 W.next z
 have g3:QW (qj W.next z)=0:=Yi.2 ⟨zo,g1⟩
 obtain⟨t1,t2,t3⟩:=zpL g3
 have hSp:=zhr (qj W.next z) zo g1 g2
 have hFp:=zrO (qj W.next z) zo g1 g2 W.fair hFF (λl hl'=>by rw[hl];exact hfr l hl')
 have hTu:=zgX (qj W.next z) g3 g2
 have hpl:=λk (hk:k<(qj W.next z).length)=>qQ hk
 obtain⟨vZ,hgood⟩:∃vZ:Nat→Bool,vZ=λv=>z v&&zdx (qj W.next z) W.fair (zE (qj W.next z) v).toNat:=⟨_,rfl⟩
 have hEn:∀v,v<(qj W.next z).length→zcM (xp (qj W.next z) (qj W.next z).length) (wI vZ W.next.length) v=fwB (qj W.next z) (W.fair.map We) v:=λv hv=>zp9 g1 (λl hl'=>by rw[hl];exact hfr l hl') (λx=>by
  rw[vR,hl,hgood]
  refine and_congr_right λ_=>and_congr_right λhx=>?_
  show(z x.toNat&&zdx _ _ _)=true↔_
  rw[Bool.and_eq_true]
  refine⟨λq=>q.2,λq=>⟨?_,q⟩⟩
  have hx':x.toNat<(qj W.next z).length:=by have:=hx;omega
  have hp:=hpl _ hx'
  obtain⟨⟨y,y1,_⟩,_⟩:=(zen (λv x hx=>by have:=z1 (xa g1 v) hx;omega) (λl hl'=>by rw[hl];exact hfr l hl') hx' zo).1 q
  exact(zs4.1 y1).2.1) hv
 have hRe:=zge _ t1 t2 (wI vZ W.next.length) (by rw[vi,hl];exact wA λx hx=>⟨(vR.1 hx).1,(vR.1 hx).2.1⟩) (by have:=QG vZ W.next.length;have:=Nat.mul_le_mul (show(qj W.next z).length≤600 by omega) (show(qj W.next z).length≤600 by omega);omega)
 rw[vi,zpY λi hi=>hEn i hi] at hRe
 have cut:=zpr (L:=qj W.next z) hl.symm
 rw[←cut] at hSp hFp hTu
 clear hEn g1 g2 g3 t1 t2 t3
 refine sW ?_
 refine sE (qh (pre:=[]) (post:=[]) hSp (zj _) trivial trivial (vy _) rfl) ?_
 refine sE (qh (pre:=[]) (post:=[_,_]) hFp (zY _ _) trivial ⟨zj _,yf _,trivial⟩ (vy _) rfl) ?_
 refine zH (xw 12 1 zs rfl) ?_
 refine zP [1,5,10,11,66] (λ((k,c):Nat × Nat)=>[(12,.own 2 c 0 c),(67,.sc (.int .i64 k))]) (λ(k,c)=>[(2,.vec true c 1 (zI (wI vZ k)))]) (λ(k,c)=>k≤W.next.length∧c=(wI vZ k).length) (λ(k,c)=>W.next.length-k) (0,0) ?_
 refine sW ?_
 refine⟨⟨zo,rfl⟩,by exact sK,rfl,?_⟩
 rintro⟨k,c⟩ ⟨hk,hc'⟩
 have hcl:=QG vZ k
 have eS:=Vz vZ k
 refine sW ?_
 refine sR ?_
 refine sS (λq0=>?_) λq0=>?_
 ·have q0:k<W.next.length:=sO
  have hp:=hpl k zo
  have egk:vZ k=(z k&&zdx (qj W.next z) W.fair (zE (qj W.next z) k).toNat):=by rw[hgood]
  refine sL (yh k zo q0) ?_
  cases zk:z k
  ·rw[zk,Bool.false_and] at egk
   rw[egk,if_neg zc] at eS
   refine sW ?_
   refine sI ?_
   refine⟨(k+1,c),⟨zo,by rw[eS];exact hc'⟩,zd,zD (by exact sK) ?_⟩
   dsimp only
   rw[eS]
   rfl
  ·rw[zk,Bool.true_and] at egk
   refine sW ?_
   refine sL (yp k zo zo) ?_
   refine sL (yh (zE (qj W.next z) k).toNat zo zo) ?_
   rw[←egk]
   cases gk:vZ k
   ·rw[gk,if_neg zc] at eS
    refine sW ?_
    refine sI ?_
    refine⟨(k+1,c),⟨zo,by rw[eS];exact hc'⟩,zd,zD (by exact sK) ?_⟩
    dsimp only
    rw[eS]
    rfl
   ·rw[gk,if_pos rfl] at eS
    refine sW ?_
    refine sJ ?_
    refine sI ?_
    refine⟨(k+1,c+1),⟨zo,by rw[eS,List.length_append,←hc'];rfl⟩,zd,?_⟩
    dsimp only
    rw[eS]
    refine zm 3 zs rfl sQ (sU ?_)
    exact zp (by rw[hc',zau,List.take_length])
 have q0:k=W.next.length:=by have:¬k<W.next.length:=sO
                             omega
 subst q0
 refine sE (qh (pre:=[]) (post:=[]) hTu (by simp[Pure,zb,yf]) trivial trivial (vy _) rfl) ?_
 rw[show zB (wI vZ W.next.length)=D.xl 1 (List.drop 0 (List.take c (zI (wI vZ W.next.length)))) from by rw[zw (by simp[zI];omega)];rfl] at hRe
 refine sE (qh (pre:=[_]) (post:=[]) hRe (by simp[Pure,zb,zY]) ⟨yf _,trivial⟩ trivial (zC _ (λl=>by simp[zb,Pure]) _) rfl) ?_
 rw[hl]
 exact .refl _
end
section
open Go.RowKit Go.ChangeShapes Go.WideShapes Go.ChangeAt
end
section
open Go.RowKit Go.ChangeShapes Go.WideShapes Go.ChangeAt
end
section
section
open Go.RowKit
noncomputable def Jq (g:List (List Int)) (S:Nat→Bool) (k i:Nat):Bool:=(List.range k).any λv=>zE g v==(i:Int)&&S v
noncomputable def Xj (g:List (List Int)) (sets:List (Nat→Bool)) (i:Nat):Bool:=okT g g.length i&&sets.all λS=>Jq g S g.length i
theorem zqq (g:List (List Int)) (S:Nat→Bool) (k i:Nat):Jq g S (k+1) i=(Jq g S k i||(zE g k==(i:Int)&&S k)):=by
 unfold Jq;rw[List.range_succ,List.any_append];simp
theorem zoT {g:List (List Int)} (xR:∀v x,x∈g.getD v []→x.toNat<g.length) (sets:List (Nat→Bool)):(∃i,i<g.length∧Xj g sets i=true)↔∃v,v<g.length∧Fw g sets v:=by
 constructor
 ·rintro⟨i,hi,h⟩
  unfold Xj at h
  rw[Bool.and_eq_true,List.all_eq_true] at h
  obtain⟨h1,h2⟩:=h
  unfold okT at h1
  rw[List.any_eq_true] at h1
  obtain⟨n,hn,q⟩:=h1
  have hn:=List.mem_range.1 hn
  rw[Bool.and_eq_true,beq_iff_eq] at q
  refine⟨n,hn,n,YC g n,(Ur xR hn).1 q.2,λS hS=>?_⟩
  have:=h2 S hS
  unfold Jq at this
  rw[List.any_eq_true] at this
  obtain⟨d,hd,r⟩:=this
  have hd:=List.mem_range.1 hd
  rw[Bool.and_eq_true,beq_iff_eq,←q.1,parts_eq hd hn,xu] at r
  exact⟨d,r.2,r.1.2,r.1.1⟩
 ·rintro⟨v,hv,c,h1,h2,h3⟩
  have hc:=zn5 xR hv h1
  have hp:=qQ hc
  refine⟨(zE g c).toNat,zo,?_⟩
  unfold Xj
  rw[Bool.and_eq_true,List.all_eq_true]
  have e:((zE g c).toNat:Int)=zE g c:=zo
  refine⟨?_,λS hS=>?_⟩
  ·unfold okT
   rw[List.any_eq_true]
   exact⟨c,List.mem_range.2 hc,by rw[Bool.and_eq_true,beq_iff_eq,e];exact⟨rfl,(Ur xR hc).2 h2⟩⟩
  ·obtain⟨d,d1,d2,d3⟩:=h3 S hS
   have hd:=zn5 xR hc d2
   unfold Jq
   rw[List.any_eq_true]
   exact⟨d,List.mem_range.2 hd,by rw[Bool.and_eq_true,beq_iff_eq,e,parts_eq hd hc,xu];exact⟨⟨d3,d2⟩,d1⟩⟩
end
section
open Go.RowKit
end
section
open Go.RowKit
end
section
open Go.RowKit
end
end
section
section
open Go.RowKit
end
section
open Go.RowKit
end
section
open Go.RowKit
theorem zhT:∀(n m:Nat) (h:Nat→Nat),(∀i,i<m→h i<n)→(∀i j,i<m→j<m→h i=h j→i=j)→m≤n
 | 0,m,h,h1,_=>by
  rcases Nat.eq_zero_or_pos m with e|e
  ·omega
  ·have:=h1 0 e;omega
 | n+1,m,h,h1,h2=>by
  by_cases q:∃i,i<m∧h i=n
  ·obtain⟨i0,q1,q2⟩:=q
   have:=zhT n (m-1) (λi=>h (if i=i0 then m-1 else i)) (λi hi=>by
    split
    ·rename_i e
     have a1:=h1 (m-1) zo
     have a2:h (m-1)≠n:=λe2=>by have:=h2 (m-1) i0 zo q1 (by rw[e2,q2]);omega
     omega
    ·rename_i e
     have a1:=h1 i zo
     have a2:h i≠n:=λe2=>e (h2 i i0 zo q1 (by rw[e2,q2]))
     omega) (λi j hi hj e=>by
    have:=h2 _ _ (by split<;>omega) (by split<;>omega) e
    split at this<;>split at this<;>omega)
   omega
  ·have:=zhT n m h (λi hi=>by have:=h1 i hi;have:h i≠n:=λe=>q ⟨i,hi,e⟩;omega) h2
   omega
end
section
open Go.RowKit
end
end
section
open Go.RowKit
def Xf (a b:Int):List D:=[.sc (.int .i64 a),.sc (.int .i64 b)]
def Vm (l:List Pr):List (List D):=l.map λo=>Xf o.1 o.2
def Uq (l:List Pr):D:=.xl 2 (Vm l)
@[simp] theorem QR (l:List Pr):(Vm l).length=l.length:=by simp[Vm]
theorem JZ (l:List Pr):yJ (Vm l):=zC _ (λl=>by simp[Xf,zb,Pure]) l
theorem UY (l:List Pr):Pure (Uq l):=by simp only[Uq,Pure];exact JZ l
@[simp] theorem zt5 {m:Nat} (l:List Pr):zF m (Vm l)↔True:=⟨λ_=>trivial,λ_=>zi _ (JZ l)⟩
@[simp] theorem zvY {m:Nat} (l:List Pr):zt m (Uq l)↔True:=⟨λ_=>trivial,λ_=>zz _ (UY l)⟩
theorem za2 {l:List Pr} {z k:Nat} (hz:z=k) (h:k<l.length):(Vm l)[z]? = some (Xf (l.getD k (0,0)).1 (l.getD k (0,0)).2):=by
 subst hz
 unfold Vm
 rw[List.getElem?_map,List.getElem?_eq_getElem h,List.getD_eq_getElem?_getD,List.getElem?_eq_getElem h]
 rfl
def vV (L:List (List Int)):List (List D):=L.map λl=>[zB l]
@[simp] theorem zAe (L:List (List Int)):(vV L).length=L.length:=by simp[vV]
theorem uT (L:List (List Int)):yJ (vV L):=zC _ (λl=>by simp[zb,zj]) L
@[simp] theorem zre {m:Nat} (l:List (List Int)):zF m (vV l)↔True:=⟨λ_=>trivial,λ_=>zi _ (uT l)⟩
theorem zlc {L:List (List Int)} {c:Nat} {l:List Int} (h:c=L.length):List.drop 0 (List.take c (vV L))++[[zB l]]=vV (L++[l]):=by
 subst h
 rw[zw zs]
 simp[vV]
theorem x5 (l:List Int) (x:Int):List.drop 0 (List.take l.length (zI l))++List.drop 0 (List.take 1 [[D.sc (.int .i64 x)]])=zI (l++[x]):=by
 rw[zw (by simp[zI])]
 simp[zI]
theorem zjI (L:List Pr) (p:Pr):List.drop 0 (List.take L.length (Vm L))++List.drop 0 (List.take 1 [[D.sc (.int .i64 p.1),D.sc (.int .i64 p.2)]])=Vm (L++[p]):=by
 rw[zw zs]
 simp[Vm,Xf]
theorem zqt {P : Program} {k e : TypeId} {f0 f1 : Field} (hsz : 0 < P.types.size) (hk : P.keyType k = true) (hu : P.underlying k = some (.struct #[f0, f1])) (h0 : f0.type = e) (h1 : f1.type = e) (o0 : f0.offset = 0) (o1 : f1.offset = 1) (n0 : (f0.name != "_") = true) (n1 : (f1.name != "_") = true) (he : P.underlying e = some (.int .i64)) (hce : P.cellsOf e = 1) (hck : P.cellsOf k = 2) (a b : Int) (ha : (Lit.int .i64 a).wf = true) (hb : (Lit.int .i64 b).wf = true) :
  ∃l,keyOf P k (.agg #[.int .i64 a,.int .i64 b])=some l:=by
 obtain⟨d,hd⟩:∃d,P.types.size=d+1:=⟨P.types.size-1,zo⟩
 unfold keyOf
 rw[hu]
 simp only[hk,Value.formed,hu,hck,Bool.true_and]
 rw[if_pos zs,hd]
 show ∃l,(P.keyLits (d+1+1) k [.int .i64 a,.int .i64 b]).map _=some l
 rw[Program.keyLits.eq_def]
 simp only[hu]
 rw[if_pos ⟨by simp[hck],by simp[n0,n1]⟩]
 simp[List.mapM_cons,h0,h1,o0,o1,hce,Program.keyLits,he,ha,hb]
def zfR (p:Pr):Value:=.agg #[.int .i64 p.1,.int .i64 p.2]
theorem zkU {p q:Pr} (h:zfR p=zfR q):p=q:=by
 unfold zfR at h
 have h:=(Value.agg.injEq _ _).mp h
 have h:=congrArg Array.toList h
 simp at h
 exact Prod.ext h.1 h.2
noncomputable def zfD (L:List Pr):Nat→Value→Option Value
 | 0=>λ_=>none
 | k+1=>JC (zfD L k) (zfR (L.getD k (0,0))) (.int .i64 k)
noncomputable def fP (L:List Pr):Value→Option Value:=zfD L L.length
theorem zkO {L:List Pr} {m:Pr}:∀k,k≤L.length→zfD (L++[m]) k=zfD L k
 | 0,_=>rfl
 | k+1,h=>by
  simp only[zfD]
  rw[zkO k zo,List.getD_eq_getElem?_getD,List.getElem?_append_left zo,←List.getD_eq_getElem?_getD]
theorem zzQ (L:List Pr) (m:Pr):fP (L++[m])=JC (fP L) (zfR m) (.int .i64 L.length):=by
 unfold fP
 rw[List.length_append,List.length_singleton]
 simp only[zfD]
 rw[zkO _ (Nat.le_refl _),List.getD_eq_getElem?_getD,List.getElem?_append_right (Nat.le_refl _),Nat.sub_self]
 rfl
theorem Qx {l:List Pr} {k:Nat} (h:k<l.length):l.getD k (0,0)∈l:=by
 rw[List.getD_eq_getElem?_getD,List.getElem?_eq_getElem h];simp
theorem zf6 {L:List Pr} {m:Pr} (hm:¬m∈L):∀k,k≤L.length→zfD L k (zfR m)=none
 | 0,_=>rfl
 | k+1,h=>by
  simp only[zfD,JC]
  rw[if_neg ?_,zf6 hm k zo]
  intro e
  exact hm (zkU e▸Qx zo)
theorem zfX {L:List Pr} {m:Pr} (hn:L.Nodup) {i:Nat} (hi:i<L.length) (hm:L.getD i (0,0)=m):∀k,i<k→k≤L.length→zfD L k (zfR m)=some (.int .i64 i)
 | 0,h,_=>zo
 | k+1,h,hk=>by
  simp only[zfD,JC]
  by_cases e:i=k
  ·subst e
   rw[hm,if_pos rfl]
  ·rw[if_neg ?_,zfX hn hi hm k zo zo]
   intro q
   have:=zkU q
   rw[←hm,List.getD_eq_getElem?_getD,List.getD_eq_getElem?_getD,List.getElem?_eq_getElem hi,List.getElem?_eq_getElem zo] at this
   exact List.pairwise_iff_getElem.1 hn i k hi zo zo this
theorem zpk {L:List Pr} {m:Pr} (h:m∈L):vt L m<L.length∧L.getD (vt L m) (0,0)=m:=by
 have h1:=UG h
 refine⟨h1,?_⟩
 unfold vt at h1 ⊢
 rw[List.getD_eq_getElem?_getD,List.getElem?_eq_getElem h1,List.getElem_idxOf h1]
 rfl
theorem zoe {L:List Pr} {m:Pr} (hn:L.Nodup) (h:m∈L):fP L (zfR m)=some (.int .i64 (vt L m)):=by
 obtain⟨h1,h2⟩:=zpk h
 exact zfX hn h1 h2 _ h1 (Nat.le_refl _)
theorem zwI {L:List Pr} {m:Pr} (h:¬m∈L):fP L (zfR m)=none:=zf6 h _ (Nat.le_refl _)
def WfP (p:Pr):Prop:=(Lit.int .i64 p.1).wf=true∧(Lit.int .i64 p.2).wf=true
theorem zy8 {p:Pr} (h:0≤p.1∧p.1≤1000000000∧0≤p.2∧p.2≤1000000000):WfP p:=by
 have h1:IntKind.min .i64=-9223372036854775808:=zc
 have h2:IntKind.max .i64=9223372036854775807:=zc
 constructor
 ·simp only[Lit.wf,Bool.and_eq_true,decide_eq_true_eq];omega
 ·simp only[Lit.wf,Bool.and_eq_true,decide_eq_true_eq];omega
def zdL:D:=.sc (.slice none 0 0)
@[simp] theorem zBC {m:Nat}:zt m zdL↔True:=⟨λ_=>trivial,λ_=>trivial⟩
end
section
open Go.RowKit
def WW:Nat→Bool:=λ_=>true
def noT:Nat→Bool:=λ_=>false
def zmz (n:Nat) (F:List (Nat→Bool)):D:=.xl 1 (F.map λS=>[ur n S])
theorem zbS (n:Nat) (F:List (Nat→Bool)):Pure (zmz n F):=by simp only[zmz,Pure];exact zC _ (λS=>by simp[zb,zY]) F
theorem zn8 {n:Nat} {F:List (Nat→Bool)} {z k:Nat} (hz:z=k) (h:k<F.length):(F.map λS=>[ur n S])[z]? = some [ur n (F.getD k noT)]:=by
 subst hz
 rw[List.getElem?_map,List.getElem?_eq_getElem h,List.getD_eq_getElem?_getD,List.getElem?_eq_getElem h];rfl
end
section
section
def uP:List Pr→List Pr→List Int→List Pr × List Int
 | [],L,o=>(L,o)
 | p::r,L,o=>uP r (ZP L p) (o++[(vt (ZP L p) p:Int)])
theorem zqW (L:List Pr) (p:Pr):∃X,ZP L p=L++X:=by
 unfold ZP
 split
 ·exact⟨[],zs⟩
 ·exact⟨[p],rfl⟩
theorem zhZ {L X:List Pr} {p:Pr} (h:p∈L):vt (L++X) p=vt L p:=by
 unfold vt;rw[List.idxOf_append,if_pos h]
theorem WS:∀(ps L:List Pr) (o:List Int),∃X,(uP ps L o).1=L++X
 | [],L,o=>⟨[],by simp[uP]⟩
 | p::r,L,o=>by
  obtain⟨X,hX⟩:=zqW L p
  obtain⟨Y,hY⟩:=WS r (ZP L p) (o++[(vt (ZP L p) p:Int)])
  exact⟨X++Y,by rw[uP,hY,hX,List.append_assoc]⟩
theorem Vr:∀(ps L:List Pr) (o:List Int) (q:Pr),q∈(uP ps L o).1↔q∈L∨q∈ps
 | [],L,o,q=>by simp[uP]
 | p::r,L,o,q=>by
  rw[uP,Vr r,zfw,List.mem_cons]
  constructor
  ·rintro((h|h)|h)
   ·exact .inl h
   ·exact .inr (.inl h)
   ·exact .inr (.inr h)
  ·rintro(h|h|h)
   ·exact .inl (.inl h)
   ·exact .inl (.inr h)
   ·exact .inr h
theorem VO:∀(ps:List Pr) {L:List Pr} (o:List Int),L.Nodup→(uP ps L o).1.Nodup
 | [],_,_,h=>h
 | p::r,_,_,h=>VO r _ (zeb h p)
theorem zej:∀(ps L:List Pr) (o:List Int),(uP ps L o).2=o++ps.map λp=>(vt (uP ps L o).1 p:Int)
 | [],L,o=>by simp[uP]
 | p::r,L,o=>by
  rw[uP,zej r]
  obtain⟨X,hX⟩:=WS r (ZP L p) (o++[(vt (ZP L p) p:Int)])
  have:vt (uP r (ZP L p) (o++[(vt (ZP L p) p:Int)])).1 p=vt (ZP L p) p:=by
   rw[hX];exact zhZ (zfw.2 (.inr rfl))
  rw[List.map_cons,this,List.append_assoc]
  rfl
theorem zq3 {ps L:List Pr} {o:List Int} {i:Nat} (h:i<L.length):(uP ps L o).1.getD i (0,0)=L.getD i (0,0):=by
 obtain⟨X,hX⟩:=WS ps L o
 rw[hX,List.getD_eq_getElem?_getD,List.getElem?_append_left h,←List.getD_eq_getElem?_getD]
theorem zpi (ps L:List Pr) (o:List Int):L.length≤(uP ps L o).1.length:=by
 obtain⟨X,hX⟩:=WS ps L o
 rw[hX];simp
def zcK (nx:Pr→List Pr):Nat→Nat→List Pr→List (List Int)→List Pr × List (List Int)
 | 0,_,L,T=>(L,T)
 | k+1,n,L,T=>if n<L.length then zcK nx k (n+1) (uP (nx (L.getD n (0,0))) L []).1 (T++[(uP (nx (L.getD n (0,0))) L []).2]) else (L,T)
structure zfs (start:List Pr) (nx:Pr→List Pr) (n:Nat) (L:List Pr) (T:List (List Int)):Prop where
 nd:L.Nodup
 st:∀p∈start,p∈L
 len:T.length=n
 le:n≤L.length
 row:∀i,i<n→T.getD i []=(nx (L.getD i (0,0))).map λq=>(vt L q:Int)
 cl:∀i,i<n→∀q∈nx (L.getD i (0,0)),q∈L
 fr:∀j,j<L.length→L.getD j (0,0)∈start∨∃i,i<n∧i<j∧L.getD j (0,0)∈nx (L.getD i (0,0))
theorem xH {L:List Pr} {j:Nat} (h:j<L.length):L.getD j (0,0)∈L:=by
 rw[List.getD_eq_getElem?_getD,List.getElem?_eq_getElem h];simp
theorem zfs.begin (start:List Pr) (nx:Pr→List Pr):zfs start nx 0 (uP start [] []).1 [] where
 nd:=VO start [] .nil
 st p hp:=(Vr start [] [] p).2 (.inr hp)
 len:=rfl
 le:=Nat.zero_le _
 row i hi:=zo
 cl i hi:=zo
 fr j hj:=.inl (((Vr start [] [] _).1 (xH hj)).resolve_left zs)
theorem zfs.next {start:List Pr} {nx:Pr→List Pr} {n:Nat} {L:List Pr} {T:List (List Int)} (h:zfs start nx n L T) (hn:n<L.length) :
  zfs start nx (n+1) (uP (nx (L.getD n (0,0))) L []).1 (T++[(uP (nx (L.getD n (0,0))) L []).2]):=by
 generalize hp:L.getD n (0,0)=p
 have hm:=Vr (nx p) L []
 have ho:=zej (nx p) L []
 have hold:=λi (hi:i<L.length)=>zq3 (ps:=nx p) (o:=[]) hi
 have hmono:=zpi (nx p) L []
 obtain⟨X,hX⟩:=WS (nx p) L []
 refine⟨VO _ _ h.nd,λq hq=>(hm q).2 (.inl (h.st q hq)),by simp[h.len],zo,λi hi=>?_,λi hi q hq=>?_,λj hj=>?_⟩
 ·by_cases e:i=n
  ·subst e
   rw[hold _ hn,hp,List.getD_eq_getElem?_getD,List.getElem?_append_right (by rw[h.len];exact Nat.le_refl _),h.len,Nat.sub_self]
   show(uP (nx p) L []).2=_
   rw[ho,List.nil_append]
  ·have hi:i<n:=zo
   rw[hold i zo,List.getD_eq_getElem?_getD,List.getElem?_append_left (by rw[h.len];exact hi),←List.getD_eq_getElem?_getD,h.row i hi,hX]
   refine List.map_congr_left λq hq=>?_
   rw[zhZ (h.cl i hi q hq)]
 ·by_cases e:i=n
  ·subst e
   rw[hold _ hn,hp] at hq
   exact(hm q).2 (.inr hq)
  ·rw[hold i zo] at hq
   exact(hm q).2 (.inl (h.cl i zo q hq))
 ·by_cases hl:j<L.length
  ·rw[hold j hl]
   rcases h.fr j hl with k|⟨i,k1,k2,k3⟩
   ·exact .inl k
   ·exact .inr ⟨i,zo,k2,by rw[hold i zo];exact k3⟩
  ·refine .inr ⟨n,zo,zo,?_⟩
   rw[hold n hn,hp]
   have hq:(uP (nx p) L []).1.getD j (0,0)∈X:=by
    rw[hX,List.getD_eq_getElem?_getD,List.getElem?_append_right zo]
    rw[hX,List.length_append] at hj
    rw[List.getElem?_eq_getElem zo]
    simp
   have hnd:=VO (nx p) [] h.nd
   rw[hX] at hnd
   have hnot:¬(uP (nx p) L []).1.getD j (0,0)∈L:=λq=>(List.nodup_append.1 hnd).2.2 _ q _ hq rfl
   exact((hm _).1 (xH hj)).resolve_left hnot
structure zcO (start:List Pr) (nx:Pr→List Pr) (L:List Pr) (G:List (List Int)):Prop where
 nd:L.Nodup
 st:∀p∈start,p∈L
 len:G.length=L.length
 row:∀i,i<L.length→G.getD i []=(nx (L.getD i (0,0))).map λq=>(vt L q:Int)
 cl:∀i,i<L.length→∀q∈nx (L.getD i (0,0)),q∈L
 fr:∀j,j<L.length→L.getD j (0,0)∈start∨∃i,i<j∧L.getD j (0,0)∈nx (L.getD i (0,0))
theorem zfs.fin {start:List Pr} {nx:Pr→List Pr} {n:Nat} {L:List Pr} {T:List (List Int)} (h:zfs start nx n L T) (hn:¬n<L.length):zcO start nx L T:=by
 have e:n=L.length:=by have:=h.le;omega
 subst e
 exact⟨h.nd,h.st,h.len,h.row,h.cl,λj hj=>(h.fr j hj).imp_right λ⟨i,_,k2,k3⟩=>⟨i,k2,k3⟩⟩
theorem zqR {L:List Pr} (hnd:L.Nodup) {n m:Nat} (h:∀p∈L,(0≤p.1∧p.1<(n:Int))∧0≤p.2∧p.2<(m:Int)):L.length≤n*m:=by
 refine zhT (n*m) L.length (λi=>(L.getD i (0,0)).1.toNat * m+(L.getD i (0,0)).2.toNat) (λi hi=>?_) λi j hi hj he=>?_
 ·obtain⟨⟨a,b⟩,c,d⟩:=h _ (xH hi)
  generalize L.getD i (0,0)=p at *
  have:(p.1.toNat+1)*m≤n*m:=Nat.mul_le_mul_right _ zo
  rw[Nat.add_mul,Nat.one_mul] at this
  omega
 ·obtain⟨⟨a,b⟩,c,d⟩:=h _ (xH hi)
  obtain⟨⟨a',b'⟩,c',d'⟩:=h _ (xH hj)
  have hxy:L.getD i (0,0)=L.getD j (0,0):=by
   generalize L.getD i (0,0)=p at *
   generalize L.getD j (0,0)=q at *
   have e1:p.2.toNat=q.2.toNat:=by
    have:=congrArg (·%m) he
    simp only[Nat.mul_add_mod_self_right] at this
    rwa [Nat.mod_eq_of_lt zo,Nat.mod_eq_of_lt zo] at this
   have e2:p.1.toNat=q.1.toNat:=by
    rw[e1] at he
    exact Nat.eq_of_mul_eq_mul_right zo (Nat.add_right_cancel he)
   exact Prod.ext zo zo
  rw[List.getD_eq_getElem?_getD,List.getD_eq_getElem?_getD,List.getElem?_eq_getElem hi,List.getElem?_eq_getElem hj] at hxy
  simp only[Option.getD_some] at hxy
  rcases Nat.lt_trichotomy i j with q|q|q
  ·exact absurd hxy (List.pairwise_iff_getElem.1 hnd i j hi hj q)
  ·exact q
  ·exact absurd hxy.symm (List.pairwise_iff_getElem.1 hnd j i hj hi q)
theorem XX {L:List Pr} {q:Pr} (h:q∈L):L.getD (vt L q) (0,0)=q:=by
 have h1:=UG h
 unfold vt at h1 ⊢
 rw[List.getD_eq_getElem?_getD,List.getElem?_eq_getElem h1,List.getElem_idxOf h1]
 rfl
section
variable {start:List Pr} {nx:Pr→List Pr} {L:List Pr} {G:List (List Int)}
theorem zcO.zlW (h:zcO start nx L G) {v:Nat} {x:Int} (hx:x∈G.getD v []):v<L.length∧∃q,q∈nx (L.getD v (0,0))∧q∈L∧x=(vt L q:Int)∧vt L q<L.length:=by
 have hv:v<L.length:=by
  rcases Nat.lt_or_ge v L.length with q|q
  ·exact q
  ·rw[List.getD_eq_getElem?_getD,List.getElem?_eq_none (by have:=h.len;omega)] at hx;cases hx
 rw[h.row v hv] at hx
 obtain⟨q,hq,rfl⟩:=List.mem_map.1 hx
 have:=h.cl v hv q hq
 exact⟨hv,q,hq,this,rfl,UG this⟩
theorem zcO.inG (h:zcO start nx L G):∀l∈G,xJ l G.length=true:=λl hl=>by
 obtain⟨v,hv,rfl⟩:=List.mem_iff_getElem.1 hl
 refine wA λx hx=>?_
 obtain⟨_,q,_,_,rfl,k⟩:=h.zlW (v:=v) (x:=x) (by rw[List.getD_eq_getElem?_getD,List.getElem?_eq_getElem hv];exact hx)
 have:=h.len
 omega
theorem zcO.come (h:zcO start nx L G):∀j,j<L.length→∃p∈start,To G (vt L p) j:=by
 intro j
 induction j using Nat.strongRecOn with
 | ind j ih =>
  intro hj
  have hid:vt L (L.getD j (0,0))=j:=by
   have h1:=UG (xH hj)
   have h2:=XX (xH hj)
   have hx:L[vt L (L.getD j (0,0))]'h1=L[j]:=by
    rw[List.getD_eq_getElem?_getD,List.getElem?_eq_getElem h1] at h2
    simp only[Option.getD_some] at h2
    rw[h2,List.getD_eq_getElem?_getD,List.getElem?_eq_getElem hj];rfl
   rcases Nat.lt_trichotomy (vt L (L.getD j (0,0))) j with q|q|q
   ·exact absurd hx (List.pairwise_iff_getElem.1 h.nd _ _ h1 hj q)
   ·exact q
   ·exact absurd hx.symm (List.pairwise_iff_getElem.1 h.nd _ _ hj h1 q)
  rcases h.fr j hj with k|⟨i,k2,k3⟩
  ·exact⟨_,k,by rw[hid];exact YC G j⟩
  ·obtain⟨p,hp,hT⟩:=ih i k2 zo
   refine⟨p,hp,uq hT ?_⟩
   have:((j:Nat):Int)∈G.getD i []:=by
    rw[h.row i zo]
    exact List.mem_map.2 ⟨_,k3,by rw[hid]⟩
   have:=VH this
   simpa using this
end
end
section
open Go.RowKit
def zjH (W:zA) (A:yl) (p:Pr):Bool:=zav A p.2.toNat (W.label.getD p.1.toNat 0)
def zhC (W:zA) (A:yl) (n t:Nat) (S:D):List D:=[zB W.start,yd W.next,uV W.label,yd W.fair,zB A.start,yd A.next,uV A.Xo,uV A.WR,yd A.fair,.mp 0,.own 2 n 0 n,.own 3 t 0 t,S]
noncomputable def vD (W:zA) (A:yl) (L:List Pr) (S:D) (T:List (List Int)):List zf :=
 [.wg true (uQ Tryz.prog 185 (fP L)),.row true (zhC W A L.length T.length S),.vec true L.length 2 (Vm L),.vec true T.length 1 (vV T)]
theorem Ut {W:zA} {A:yl} {L:List Pr} {S:D} (hS:Pure S) {T:List (List Int)} {m:Nat} (hm:4≤m):∀o∈vD W A L S T,o.under m:=by
 have:=zz (m:=m) S hS
 have h1:=λl=>zz (m:=m) _ (zj l)
 have h2:=λl=>zz (m:=m) _ (yf l)
 have h3:=λl=>zz (m:=m) _ (uC l)
 intro o ho
 simp only[vD,List.mem_cons,List.not_mem_nil,or_false] at ho
 rcases ho with rfl|rfl|rfl|rfl<;>simp[zf.under,zhC,zl,zt,this,h1,h2,h3]<;>omega
theorem VY {W:zA} {A:yl} {L:List Pr} {S:D} (hS:Pure S) {T:List (List Int)} {m:Nat} (hm:4≤m):wJ m (vD W A L S T):=by
 have:=Ut (W:=W) (A:=A) (L:=L) hS (T:=T) hm
 unfold vD at *
 exact⟨this _ zs,this _ zs,this _ zs,this _ zs,trivial⟩
theorem zru:laidOutB Tryz.prog=true:=by kernel_rfl
theorem zrP:Maps.Keyed Tryz.prog 185:=Maps.Keyed.of_law (deep_law_laid zru (m:=2) zo (of_decide_eq_true (by kernel_rfl)) (by kernel_rfl) (by rw[Tryz.underlying185]))
theorem zkY {p:Pr} (hp:WfP p):∃l,keyOf Tryz.prog 185 (zfR p)=some l :=
 zqt (of_decide_eq_true (by kernel_rfl)) (by kernel_rfl) Tryz.underlying185 rfl rfl rfl rfl zc zc Tryz.underlying3 (by kernel_rfl) (by kernel_rfl) _ _ hp.1 hp.2
def c158:PC:=.seq (OP [Bx 3 1,Mv 4 (cI 0)]) (.seq (.seq (.ops [qm 7 0,qd 8 (.zq 7) 1,qd 9 (.zy 4 8) 3,qd 10 (.vC 5 9) 7,Fa 11 1 3,qd 12 (.zg 11) 16,qm 13 0,qd 14 (.zq 13) 64,qd 15 (.zy 0 14) 192,qd 16 (.zy 2 15) 448,qd 17 (.zg 16) 960,Fa 18 0 3,qd 19 (.zg 18) 2048,qd 20 (.zM 1 17 19) 8128,qd 21 (.zg 20) 16320,qd 22 (.call 208 [10,12,21]) 32767,qd 23 (.un .not 22) 65535] true) (.cond 23 (.seq (OP [Mv 4 (cI (-1))]) .ret) .skip)) (.seq (.ops [qm 25 0,qd 26 (.zq 25) 1,qd 27 (.zy 9 26) 3,qd 28 (.zg 27) 7,LA 29 2 3,qd 30 (.look 185 (.int .i64 0) 28 29) 31,qw 24 30 63,qd 31 (.ext 0 24) 127,qd 32 (.ext 1 24) 127,qw 5 31 255,qw 6 32 1023] true) (.seq (.seq (OP [qm 33 6,Nt 34 33]) (.cond 34 (.seq (OP [qm 35 0,q 36 (.zq 35),Fa 37 10 36,Lo 38 37,Ln 39 38,qm 5 39]) (.seq (.ops [qm 40 0,qd 41 (.zq 40) 1,qd 42 (.zy 9 41) 3,qd 43 (.zg 42) 7,LA 44 2 3,qm 45 5,qk (.zmT 185 43 44 45) 63] true) (.ops [qm 46 0,qm 47 0,qd 48 (.zq 47) 2,qd 49 (.zy 10 48) 6,qd 50 (.zg 49) 14,LA 51 2 3,qd 52 (.wz 2 1 [51]) 32,qd 53 (.append 2 16 50 52) 126,qd 54 (.zq 46) 255,qd 55 (.zy 10 54) 511,qk (.store 1 55 53) 1023] true))) .skip)) (.seq (OP [qm 56 5,qm 4 56]) .ret))))
theorem zvv:zv Tryz.prog 158 57 [.tmp 4] c158:=fK Tryz.func158
structure zms (W:zA) (A:yl):Prop where
 fw:W.Fits
 fa:A.Fits
 cw:W.yF=0
 ca:A.yF=0
def uu (W:zA) (A:yl) (p:Pr):Prop:=(0≤p.1∧p.1<(W.next.length:Int))∧0≤p.2∧p.2<(A.next.length:Int)
theorem qg (W:zA) (h:W.yF=0):W.label.length=W.next.length∧W.next.length≤600∧W.fair.length≤80∧xJ W.start W.next.length=true∧(∀l∈W.next,xJ l W.next.length=true)∧∀l∈W.fair,xJ l W.next.length=true:=by
 unfold zA.yF at h
 split at h
 ·exact absurd h zc
 split at h
 ·exact absurd h zc
 split at h
 ·exact absurd h zc
 split at h
 ·exact absurd h zc
 rename_i h1 h2 h3 h4
 have h2':=not_or.1 h2
 refine⟨zo,zo,zo,by simpa using h2'.2,λl hl=>?_,λl hl=>?_⟩
 ·rw[Bool.not_eq_true,List.any_eq_false] at h3
  have:=h3 l hl
  simp only[Bool.or_eq_true,Bool.not_eq_true',not_or,Bool.not_eq_false] at this
  exact this.2
 ·rw[Bool.not_eq_true,List.any_eq_false] at h4
  simpa using h4 l hl
theorem uu.wf {W:zA} {A:yl} (h:zms W A) {p:Pr} (hp:uu W A p):WfP p:=by
 obtain⟨⟨a,b⟩,c,d⟩:=hp
 have:=(qg W h.cw).2.1
 have:=(YQ A h.ca).2.2.1
 exact zy8 ⟨a,zo,c,zo⟩
theorem zyD {W:zA} {A:yl} (hWA:zms W A) (L:List Pr) (hnd:L.Nodup) (hL:L.length≤2000000) (S:D) (hS:Pure S) (T:List (List Int)) (p:Pr) (hg:uu W A p) :
  yr Tryz.prog 158 [.loc 1 0,.agg (Xf p.1 p.2)] (vD W A L S T) (.sc (.int .i64 (if zjH W A p=true then (vt (ZP L p) p:Int) else -1))) (vD W A (if zjH W A p=true then ZP L p else L) S T):=by
 have hp:=uu.wf hWA hg
 have hkey:=zkY hp
 obtain⟨⟨g1,g2⟩,g3,g4⟩:=hg
 obtain⟨hlab,_⟩:=qg W hWA.cw
 obtain⟨hm,hn,_⟩:=YQ A hWA.ca
 have hF:=zws A hm hn p.2.toNat zo (W.label.getD p.1.toNat 0)
 rw[show((p.2.toNat:Nat):Int)=p.2 by omega] at hF
 refine zS zvv zs (by simp[vD]) ?_ (by simp[zt]) (by
  intro x hx
  exact Ut hS (by simp[vD]) x hx)
 have ef:zjH W A p=zav A p.2.toNat (W.label.getD p.1.toNat 0):=rfl
 rw[←ef] at hF
 generalize zjH W A p=fit at *
 unfold vD zhC Xf
 unfold Ui yl.cells at hF
 refine sR ?_
 refine sL (zc1 (l:=W.label) (k:=p.1.toNat) zo zo) ?_
 refine sC hF ?_
 cases fit
 ·refine sW ?_
  simp
 refine sW ?_
 refine⟨fP L,rfl,zrP,hkey,λv hv=>?_,λhv=>?_⟩
 ·by_cases h2:p∈L
  ·have hs:=zoe hnd h2
   have hv':some v=some (Value.int .i64 (vt L p)):=hv.symm.trans hs
   cases hv'
   have eA:ZP L p=L:=if_pos h2
   have eI:vt (ZP L p) p=vt L p:=by rw[eA]
   rw[eI,eA]
   refine sW ?_
   simp
  ·exfalso
   have hv':some v=none:=hv.symm.trans (zwI h2)
   cases hv'
 ·have h2:¬p∈L:=λh2=>by
   have hv':(none:Option Value)=some (Value.int .i64 (vt L p)):=hv.symm.trans (zoe hnd h2)
   cases hv'
  have eA:ZP L p=L++[p]:=if_neg h2
  have eI:vt (ZP L p) p=L.length:=by rw[zsD,if_neg h2]
  rw[eI,eA]
  refine sW ?_
  refine⟨fP L,rfl,zrP,hkey,hv,?_⟩
  refine sW ?_
  refine sJ ?_
  refine⟨?_,zs⟩
  rw[if_pos rfl,zzQ,show(L++[p]).length=L.length+1 by simp,←zjI]
  rfl
def zfK (W:zA) (A:yl) (x:Int) (k:List Int):List Pr:=(k.filter λy=>zjH W A (x,y)).map λy=>(x,y)
def wa (W:zA) (A:yl) (l k:List Int):List Pr:=l.flatMap λx=>zfK W A x k
theorem zpG (W:zA) (A:yl) (x y:Int) (k:List Int):zfK W A x (y::k)=if zjH W A (x,y)=true then (x,y)::zfK W A x k else zfK W A x k:=by
 unfold zfK
 rw[List.filter_cons]
 split<;>simp
theorem zsr (W:zA) (A:yl) (x:Int) (k:List Int):(zfK W A x k).length≤k.length:=by unfold zfK;rw[List.length_map];exact List.length_filter_le _ _
theorem zfc (W:zA) (A:yl) (l k:List Int):(wa W A l k).length≤l.length*k.length:=by
 induction l with
 | nil=>simp[wa]
 | cons x r ih =>
  have:=zsr W A x k
  simp only[wa,List.flatMap_cons,List.length_append,List.length_cons] at ih ⊢
  rw[Nat.add_mul,Nat.one_mul]
  omega
theorem zcw {W:zA} {A:yl} {l k:List Int} (hl:xJ l W.next.length=true) (hk:xJ k A.next.length=true):∀p∈wa W A l k,uu W A p:=by
 intro p hp
 obtain⟨x,hx,hp⟩:=List.mem_flatMap.1 hp
 obtain⟨y,hy,rfl⟩:=List.mem_map.1 hp
 exact⟨z1 hl hx,z1 hk (List.mem_filter.1 hy).1⟩
theorem XB {l:List Int} {k:Nat} (h:k<l.length):l.drop k=l.getD k 0::l.drop (k+1):=by
 rw[List.drop_eq_getElem_cons h,List.getD_eq_getElem?_getD,List.getElem?_eq_getElem h]
 rfl
theorem uu.le {W:zA} {A:yl} (hWA:zms W A) {L:List Pr} (hnd:L.Nodup) (hg:∀p∈L,uu W A p):L.length≤W.next.length*A.next.length:=zqR hnd hg
theorem zmw {W:zA} {A:yl} (hWA:zms W A):W.next.length*A.next.length≤1228800 :=
 Nat.le_trans (Nat.mul_le_mul (qg W hWA.cw).2.1 (YQ A hWA.ca).2.2.1) zc
def zCv:PC:=.seq (OP [Bi 22 .lss 21 20]) (.seq (.cond 22 .skip (.exit 2)) (.seq (.block 3 (.seq (OP [Ia 23 1 19 21,Lo 24 23,qm 11 24]) (.seq (OP [qm 25 0,qm 26 9,qm 27 11,q 28 (.build [(.int .i64 0),(.int .i64 0)] [(0,1,26),(1,1,27)]),Ca 29 158 [25,28],qm 12 29]) (.seq (OP [qm 30 12,Bi 31 .geq 30 (cI 0)]) (.cond 31 (OP [qm 32 7,qm 33 12,Bs 34 1 1 [33],Ap 35 1 8 32 34,qm 7 35]) .skip))))) (OP [Bi 36 .add 21 (cI 1),qm 21 36])))
def zB7:PC:=.seq (OP [Bi 16 .lss 15 14]) (.seq (.cond 16 .skip (.exit 0)) (.seq (.block 1 (.seq (OP [Ia 17 1 13 15,Lo 18 17,qm 9 18]) (.seq (OP [qm 19 2,Ln 20 19,Mv 21 (cI 0)]) (.block 2 (.loop zCv))))) (OP [Bi 37 .add 15 (cI 1),qm 15 37])))
def c93:PC:=.seq (OP [Mv 6 cN]) (.seq (OP [Mv 7 cN]) (.seq (.seq (OP [qm 13 1,Ln 14 13,Mv 15 (cI 0)]) (.block 0 (.loop zB7))) (.seq (OP [qm 38 7,qm 6 38]) .ret)))
theorem zBG:zv Tryz.prog 93 39 [.tmp 6] c93:=fK Tryz.func93
theorem zkN {W:zA} {A:yl} (hWA:zms W A) (l k:List Int) (hl:l.length≤1048576) (hk:k.length≤1048576) (il:xJ l W.next.length=true) (ik:xJ k A.next.length=true) (L:List Pr) (hnd:L.Nodup) (hLg:∀p∈L,uu W A p) (S:D) (hS:Pure S) (T:List (List Int)) :
  yr Tryz.prog 93 [.loc 1 0,zB l,zB k] (vD W A L S T) (zB (uP (wa W A l k) L []).2) (vD W A (uP (wa W A l k) L []).1 S T):=by
 refine wR zBG zs (by simp[vD]) ?_ (zz _ (zj _))
 have hSu:=λm=>zz (m:=m) S hS
 have hu1:=λm l=>zz (m:=m) _ (zj l)
 have hu2:=λm l=>zz (m:=m) _ (yf l)
 have hu3:=λm l=>zz (m:=m) _ (uC l)
 have h2:=zmw hWA
 generalize hR:uP (wa W A l k) L []=R
 have hlk:l.length*k.length≤1048576*1048576:=Nat.mul_le_mul hl hk
 unfold vD zhC
 refine sR ?_
 rw[List.length_map]
 refine zH (xw 7 1 zs rfl) ?_
 refine ye [0,2,13,14] (λ((i,M,o):Nat × List Pr × List Int)=>[(7,.own 4 o.length 0 o.length),(15,.sc (.int .i64 i))]) (λ(i,M,o)=>vD W A M S T++[.vec true o.length 1 (zI o)])
  (λ(i,M,o)=>i≤l.length∧M.Nodup∧(∀p∈M,uu W A p)∧o.length≤i*k.length∧uP (wa W A (l.drop i) k) M o=R) (λ(i,M,o)=>l.length-i) (0,L,[]) ?_
 refine sW ?_
 refine⟨⟨zo,hnd,hLg,zs,hR⟩,by exact sK,rfl,?_⟩
 rintro⟨i,M,o⟩ ⟨hi,hMn,hMg,hol,hF⟩
 unfold vD zhC
 refine sW ?_
 refine sR ?_
 refine sS (λq0=>?_) λq0=>?_
 ·have q0:i<l.length:=sO
  have hx:=z1 il (yz q0)
  refine⟨zo,_,yc (l:=l) (k:=i) zo q0,?_⟩
  rw[XB q0,wa,List.flatMap_cons] at hF
  rw[show(l.drop (i+1)).flatMap (λx=>zfK W A x k)=wa W A (l.drop (i+1)) k from rfl] at hF
  have hik:(i+1)*k.length≤1048576*1048576:=Nat.le_trans (Nat.mul_le_mul_right _ zo) hlk
  have hik2:(i+1)*k.length=i*k.length+k.length:=by rw[Nat.add_mul,Nat.one_mul]
  refine sW ?_
  rw[List.length_map]
  generalize l.getD i 0=x at *
  refine ye [0,2,9,13,14,15,19,20] (λ((j,M,o):Nat × List Pr × List Int)=>[(7,.own 4 o.length 0 o.length),(21,.sc (.int .i64 j))]) (λ(j,M,o)=>vD W A M S T++[.vec true o.length 1 (zI o)])
   (λ(j,M,o)=>j≤k.length∧M.Nodup∧(∀p∈M,uu W A p)∧o.length≤i*k.length+j∧uP (zfK W A x (k.drop j)++wa W A (l.drop (i+1)) k) M o=R) (λ(j,M,o)=>k.length-j) (0,M,o) ?_
  refine sW ?_
  refine⟨⟨zo,hMn,hMg,zo,hF⟩,by exact sK,rfl,?_⟩
  rintro⟨j,M,o⟩ ⟨hj,hMn,hMg,hol,hF⟩
  unfold vD zhC
  refine sW ?_
  refine sR ?_
  refine sS (λq1=>?_) λq1=>?_
  ·have q1:j<k.length:=sO
   have hy:=z1 ik (yz q1)
   refine sL (yc (l:=k) (k:=j) zo q1) ?_
   rw[XB q1,zpG] at hF
   generalize k.getD j 0=y at *
   have hgp:uu W A (x,y):=⟨hx,hy⟩
   have hMl:=uu.le hWA hMn hMg
   have hA:=vT (zyD hWA M hMn zo S hS T (x,y) hgp) [.vec true o.length 1 (zI o)] (by simp[vD]) (by simp[vD,zl,zt,Xf]) (VY hS (by simp[vD]))
   have hap:=ztg M (x,y)
   cases r:zjH W A (x,y)
   ·rw[r,if_neg zc,if_neg zc] at hA
    rw[r,if_neg zc] at hF
    unfold vD zhC Xf at hA
    refine sA hA ?_
    refine sI ?_
    refine⟨(j+1,M,o),⟨zo,hMn,hMg,zo,hF⟩,zd,?_⟩
    dsimp only
    (refine zm 5 zs rfl ?_ ?_<;>(repeat' (first|exact trivial|exact rfl|exact ym.refl _|exact zX.refl _|exact zN.refl _|refine And.intro ?_ ?_|(simp[zt,zl,zF,-List.map_take,-List.map_drop];done))))
    all_goals first|exact hSu _|exact hu1 _ _|exact hu2 _ _|exact hu3 _ _|skip
   ·rw[r,if_pos rfl,if_pos rfl] at hA
    rw[r,if_pos rfl,List.cons_append,uP] at hF
    unfold vD zhC Xf at hA
    refine sA hA ?_
    refine sJ ?_
    refine sI ?_
    ·refine⟨(j+1,ZP M (x,y),o++[(vt (ZP M (x,y)) (x,y):Int)]),⟨zo,zeb hMn _,λq hq=>(zfw.1 hq).elim (hMg q) (λe=>e▸hgp),by simp;omega,hF⟩,zd,?_⟩
     dsimp only
     rw[show(o++[(vt (ZP M (x,y)) (x,y):Int)]).length=o.length+1 by simp]
     (refine zm 5 zs rfl ?_ ?_<;>(repeat' (first|exact trivial|exact rfl|exact ym.refl _|exact zX.refl _|exact zN.refl _|refine And.intro ?_ ?_|(simp[zt,zl,zF,-List.map_take,-List.map_drop];done))))
     all_goals first|exact hSu _|exact hu1 _ _|exact hu2 _ _|exact hu3 _ _|exact zp (x5 o _)|skip
  ·have q1:j=k.length:=by have:¬j<k.length:=sO
                          omega
   subst q1
   rw[List.drop_length] at hF
   refine sI ?_
   refine⟨(i+1,M,o),⟨zo,hMn,hMg,zo,hF⟩,zd,?_⟩
   dsimp only
   (refine zm 5 zs rfl ?_ ?_<;>(repeat' (first|exact trivial|exact rfl|exact ym.refl _|exact zX.refl _|exact zN.refl _|refine And.intro ?_ ?_|(simp[zt,zl,zF,-List.map_take,-List.map_drop];done))))
   all_goals first|exact hSu _|exact hu1 _ _|exact hu2 _ _|exact hu3 _ _|skip
 ·have q0:i=l.length:=by have:¬i<l.length:=sO
                         omega
  subst q0
  rw[List.drop_length] at hF
  have hF:(M,o)=R:=hF
  subst hF
  exact⟨.own _ _ _ _ _ _ _ _ rfl rfl (zp (zw (by simp[zI]))),y7 _ [_] (Ut hS (Nat.le_refl _))⟩
end
section
open Go.RowKit
def Zh (W:zA) (A:yl) (L:List Pr) (G:List (List Int)) (fr:List Int):List D:=[zB W.start,yd W.next,uV W.label,yd W.fair,zB A.start,yd A.next,uV A.Xo,uV A.WR,yd A.fair,.xP,Uq L,yd G,zB fr]
theorem Zm (W:zA) (A:yl) (L:List Pr) (G:List (List Int)) (fr:List Int):zb (Zh W A L G fr):=by simp[Zh,zb,Pure,zj,yf,uC,UY]
theorem Y0 {cs:List D} (h:zb cs):Pure (.yO cs):=by simpa only[Pure] using h
theorem Qv {g:List (List Int)} {L:Nat} (h:∀l∈g,l.length≤L) (k:Nat):(g.getD k []).length≤L:=by
 rw[List.getD_eq_getElem?_getD]
 cases e:g[k]? with
 | none=>simp
 | some l=>exact h l (List.mem_of_getElem? e)
def U1 (n:Nat) (F:List (Nat→Bool)):List (List D):=F.map λS=>[ur n S]
@[simp] theorem zB0 (n:Nat) (F:List (Nat→Bool)):(U1 n F).length=F.length:=by simp[U1]
theorem zdo (n:Nat) (F:List (Nat→Bool)):yJ (U1 n F):=zC _ (λS=>by simp[zb,zY]) F
@[simp] theorem zt7 {m n:Nat} (F:List (Nat→Bool)):zF m (U1 n F)↔True:=⟨λ_=>trivial,λ_=>zi _ (zdo n F)⟩
def zic (L:List Pr) (sel:Pr→Int) (l:List Int):Nat→Bool:=λi=>We l (sel (L.getD i (0,0))).toNat
theorem zoR {l:List Int} {n k:Nat} (xR:xJ l n=true) (hk:k<l.length) (v:Nat):We (l.take (k+1)) v=if v=(l.getD k 0).toNat then true else We (l.take k) v:=by
 have hx:=z1 xR (yz hk)
 unfold We
 rw[List.getD_eq_getElem?_getD,List.getElem?_eq_getElem hk] at hx ⊢
 simp only[Option.getD_some] at hx ⊢
 rw[Bool.eq_iff_iff,List.contains_iff_mem,List.take_add_one,List.getElem?_eq_getElem hk]
 split
 ·rename_i q
  rw[List.mem_append,Option.toList_some,List.mem_singleton]
  exact⟨λ_=>rfl,λ_=>.inr zo⟩
 ·rename_i q
  rw[List.contains_iff_mem,List.mem_append,Option.toList_some,List.mem_singleton]
  exact⟨λh=>h.resolve_right zo,.inl⟩
def zAX:PC:=.seq (OP [Bi 11 .lss 10 9]) (.seq (.cond 11 .skip (.exit 0)) (.seq (.block 1 (.seq (OP [Ia 12 1 8 10,Lo 13 12,qm 7 13]) (OP [qm 14 5,qm 15 0,q 16 (.zq 15),Fa 17 10 16,Lo 18 17,qm 19 7,Ia 20 2 18 19,Fa 21 0 20,Lo 22 21,Bs 23 1 1 [22],Ap 24 1 8 14 23,qm 5 24]))) (OP [Bi 25 .add 10 (cI 1),qm 10 25])))
def c100:PC:=.seq (OP [Mv 4 cN]) (.seq (OP [Mv 5 cN]) (.seq (.seq (OP [qm 8 1,Ln 9 8,Mv 10 (cI 0)]) (.block 0 (.loop zAX))) (.seq (OP [qm 26 5,qm 4 26]) .ret)))
theorem zxu:zv Tryz.prog 100 27 [.tmp 4] c100:=fK Tryz.func100
theorem zgh (W:zA) (A:yl) (L:List Pr) (G:List (List Int)) (fr l:List Int) (hl:l.length≤1000000000000) (xR:xJ l L.length=true):zn Tryz.prog 100 [.yO (Zh W A L G fr),zB l] (zB (l.map λn=>(L.getD n.toNat (0,0)).1)):=by
 have hp:=Zm W A L G fr
 refine za zxu zs (by simp[zb,Pure,zj,hp]) ?_ (zj _)
 unfold Zh Uq
 refine sR ?_
 rw[List.length_map]
 refine zH (xw 5 1 zs rfl) ?_
 refine zP [0,8,9] (λk:Nat=>[(5,.own 0 k 0 k),(10,.sc (.int .i64 k))]) (λk=>[(0,.vec true k 1 (zI ((l.take k).map λn=>(L.getD n.toNat (0,0)).1)))]) (λk=>k≤l.length) (λk=>l.length-k) 0 ?_
 refine sW ?_
 refine⟨zo,by exact sK,rfl,?_⟩
 rintro k hk
 refine sW ?_
 refine sR ?_
 refine sS (λq0=>?_) λq0=>?_
 ·have q0:k<l.length:=sO
  have hx:=z1 xR (yz q0)
  have eS:(l.take (k+1)).map (λn=>(L.getD n.toNat (0,0)).1)=(l.take k).map (λn=>(L.getD n.toNat (0,0)).1)++[(L.getD (l.getD k 0).toNat (0,0)).1]:=by
   rw[List.take_add_one,List.getElem?_eq_getElem q0,List.getD_eq_getElem?_getD (l:=l),List.getElem?_eq_getElem q0,List.map_append];rfl
  refine sL (yc (l:=l) (k:=k) zo q0) ?_
  generalize l.getD k 0=x at *
  refine sL (za2 (l:=L) (k:=x.toNat) zo zo) ?_
  refine sJ ?_
  refine sI ?_
  refine⟨k+1,zo,zd,?_⟩
  dsimp only
  rw[eS]
  refine zm 1 zs rfl sQ (sU ?_)
  exact zp (by
   have:=x5 ((l.take k).map λn=>(L.getD n.toNat (0,0)).1) (L.getD x.toNat (0,0)).1
   rw[List.length_map,List.length_take,Nat.min_eq_left hk] at this
   exact this)
 ·have q0:k=l.length:=by have:¬k<l.length:=sO
                         omega
  subst q0
  rw[List.take_length]
  exact .own _ _ _ _ _ _ _ _ rfl (by rw[zw (by simp[zI])];exact z8 _)
def zAV:PC:=.seq (OP [Bi 19 .lss 18 17]) (.seq (.cond 19 .skip (.exit 0)) (.seq (.block 1 (.seq (OP [Ia 20 1 16 18,Lo 21 20,qm 10 21]) (OP [qm 22 8,qm 23 10,Ia 24 1 22 23,So 1 24 cT]))) (OP [Bi 25 .add 18 (cI 1),qm 18 25])))
def zAR:PC:=.seq (OP [Bi 38 .lss 37 36]) (.seq (.cond 38 .skip (.exit 2)) (.seq (.block 3 (.seq (OP [qm 39 37,Ia 40 2 35 37,LA 41 2 40,q 13 (.alloc [(.int .i64 0),(.int .i64 0)]),qm 12 39,So 2 13 41]) (OP [qm 42 11,qm 43 12,qm 44 8,qm 45 1,LA 46 2 13,q 47 (.y0 45 [46]),Ia 48 1 44 47,Lo 49 48,Ia 50 1 42 43,So 1 50 49]))) (OP [Bi 51 .add 37 (cI 1),qm 37 51])))
def c160:PC:=.seq (OP [qm 14 2,q 15 (.wP 1 1 [(.bool false)] 14 14),qm 8 15]) (.seq (.seq (OP [qm 16 0,Ln 17 16,Mv 18 (cI 0)]) (.block 0 (.loop zAV))) (.seq (OP [Lo 26 3,q 27 (.zq 26),Fa 28 10 27,Lo 29 28,Ln 30 29,q 31 (.wP 1 1 [(.bool false)] 30 30),qm 11 31]) (.seq (.seq (OP [Lo 32 3,q 33 (.zq 32),Fa 34 10 33,Lo 35 34,Ln 36 35,Mv 37 (cI 0)]) (.block 2 (.loop zAR))) (OP [Lo 52 4,qm 53 11,Bs 54 1 1 [53],Ap 55 1 24 52 54,So 1 4 55]))))
theorem zwV:zv Tryz.prog 160 56 [] c160:=fK Tryz.func160
theorem zrE (W:zA) (A:yl) (L:List Pr) (hL:L.length≤2000000) (G:List (List Int)) (fr:List Int) (g:FuncId) (sel:Pr→Int) (n:Nat) (hn:n≤2048) (hsel:∀p∈L,zn Tryz.prog g [.agg (Xf p.1 p.2)] (.sc (.int .i64 (sel p)))) (xR:∀p∈L,0≤sel p∧sel p<(n:Int))
  (l:List Int) (hl:l.length≤17592186043904) (hli:xJ l n=true) (F:List (Nat→Bool)) (hF:F.length≤1000) :
  yr Tryz.prog 160 [zB l,.fn (.func g) [] [],.sc (.int .i64 n),.loc 0 0,.loc 1 0] [.row true [.yO (Zh W A L G fr)],.row true [.own 2 F.length 0 F.length],.vec true F.length 1 (U1 L.length F)]
   (.yP []) [.row true [.yO (Zh W A L G fr)],.row true [.own 2 (F.length+1) 0 (F.length+1)],.vec true (F.length+1) 1 (U1 L.length (F++[zic L sel l]))]:=by
 have hp:=Zm W A L G fr
 have hpU:=λm=>zz (m:=m) _ (Y0 hp)
 refine wR zwV zs zs ?_ (by simp[zt,zl])
 obtain⟨sd,hsd⟩:∃sd:D,sd=.yO (Zh W A L G fr):=⟨_,rfl⟩
 have hsl:zb [sd]:=by subst hsd;exact⟨Y0 hp,trivial⟩
 rw[←hsd] at hpU ⊢
 refine sR ?_
 refine⟨zo,zo,zo,?_⟩
 rw[Int.toNat_natCast,show List.map D.sc [Value.bool false]=[D.sc (.bool false)] from rfl,ZI]
 refine sW ?_
 rw[List.length_map]
 refine zP [1,3,4,8,16,17] (λk:Nat=>[(18,.sc (.int .i64 k))]) (λk=>[(3,.vec true 0 1 (Yt n (We (l.take k))))]) (λk=>k≤l.length) (λk=>l.length-k) 0 ?_
 refine sW ?_
 refine⟨zo,by exact sK,rfl,?_⟩
 rintro k hk
 refine sW ?_
 refine sR ?_
 refine sS (λq0=>?_) λq0=>?_
 ·have q0:k<l.length:=sO
  have hx:=z1 hli (yz q0)
  have e:=zoR hli q0
  refine sL (yc (l:=l) (k:=k) zo q0) ?_
  generalize l.getD k 0=x at *
  refine sB ?_
  refine⟨_,yh x.toNat zo zo,?_⟩
  refine sW ?_
  refine sI ?_
  refine⟨k+1,zo,zd,zD (by exact sK) ?_⟩
  rw[uO (i:=x.toNat) (f':=We (l.take (k+1))) zo λv _=>e v]
  rfl
 have q0:k=l.length:=by have:¬k<l.length:=sO
                        omega
 subst q0
 rw[List.take_length]
 subst hsd
 unfold Zh Uq
 refine sW ?_
 rw[QR]
 refine⟨zo,zo,zo,?_⟩
 rw[Int.toNat_natCast,show List.map D.sc [Value.bool false]=[D.sc (.bool false)] from rfl,ZI]
 refine sW ?_
 rw[QR]
 refine zP [1,4,8,11,35,36] (λk:Nat=>[(37,.sc (.int .i64 k))]) (λk=>[(4,.vec true 0 1 (Yt L.length λv=>decide (v<k)&&zic L sel l v))]) (λk=>k≤L.length) (λk=>L.length-k) 0 ?_
 refine sW ?_
 refine⟨zo,by exact sK,by rw[show(λv=>decide (v<0)&&zic L sel l v)=λ_=>false from funext λv=>zs];rfl,?_⟩
 rintro k hk
 refine sW ?_
 refine sR ?_
 refine sS (λq0=>?_) λq0=>?_
 ·have q0:k<L.length:=sO
  have hse:=hsel _ (Qx q0)
  have hii:=xR _ (Qx q0)
  have eS:zic L sel l k=We l (sel (L.getD k (0,0))).toNat:=rfl
  refine sL (za2 (k:=k) zo q0) ?_
  generalize L.getD k (0,0)=p at *
  refine sC hse ?_
  generalize sel p=x at *
  refine sB ?_
  refine⟨_,yh x.toNat zo zo,?_⟩
  refine sW ?_
  refine sB ?_
  refine⟨_,yh k zo q0,?_⟩
  refine sW ?_
  refine sI ?_
  refine⟨k+1,zo,zd,?_⟩
  rw[uO (i:=k) (f':=λv=>decide (v<k+1)&&zic L sel l v) zo λv _=>by
   by_cases e:v=k
   ·subst e;rw[if_pos rfl,←eS];simp
   ·rw[if_neg e]
    by_cases e2:v<k
    ·rw[decide_eq_true e2,decide_eq_true (show v<k+1 by omega)]
    ·rw[decide_eq_false e2,decide_eq_false (show ¬v<k+1 by omega)]]
  (refine zm 5 zs rfl ?_ ?_<;>(repeat' (first|exact trivial|exact rfl|exact ym.refl _|exact zX.refl _|exact zN.refl _|refine And.intro ?_ ?_|(simp[zt,zl,zF,-List.map_take,-List.map_drop];done))))
  all_goals first|exact zr _ hp|simp[zj,yf,uC,zjm,zk3]|skip
 have q0:k=L.length:=by have:¬k<L.length:=sO
                        omega
 subst q0
 refine sJ ?_
 refine⟨.refl _,⟨rfl,.refl _,hpU _,trivial⟩,⟨rfl,.refl _,by simp[zl,zt]⟩,⟨rfl,rfl,rfl,?_,zi _ (zdo _ _)⟩,trivial⟩
 rw[show U1 L.length (F++[zic L sel l])=U1 L.length F++[[ur L.length (zic L sel l)]] by simp[U1]]
 exact .append _ _ _ _ (zp (zw zs)) (.cons _ _ _ _ (.cons _ _ _ _ (.own _ _ _ _ _ _ _ _ rfl rfl (zp (by rw[zw zs];exact x3 λv hv=>by rw[decide_eq_true hv];simp))) (.refl _)) (.refl _))
def c161:PC:=.seq (OP [Bx 1 0,Mv 2 (cI 0)]) (.seq (OP [Fa 3 0 1,Lo 4 3,qm 2 4]) .ret)
theorem zxA:zv Tryz.prog 161 5 [.tmp 2] c161:=fK Tryz.func161
def c162:PC:=.seq (OP [Bx 1 0,Mv 2 (cI 0)]) (.seq (OP [Fa 3 1 1,Lo 4 3,qm 2 4]) .ret)
theorem zwq:zv Tryz.prog 162 5 [.tmp 2] c162:=fK Tryz.func162
theorem ztS (p:Pr):zn Tryz.prog 161 [.agg (Xf p.1 p.2)] (.sc (.int .i64 p.1)):=by
 refine za zxA zs (by simp[zb,Pure,Xf]) ?_ (by simp[Pure])
 unfold Xf
 refine sR ?_
 exact .refl _
theorem zpm (p:Pr):zn Tryz.prog 162 [.agg (Xf p.1 p.2)] (.sc (.int .i64 p.2)):=by
 refine za zwq zs (by simp[zb,Pure,Xf]) ?_ (by simp[Pure])
 unfold Xf
 refine sR ?_
 exact .refl _
def Wh (L:List Pr) (sel:Pr→Int) (G:List (List Int)) (k:Nat):List (Nat→Bool):=(G.take k).map (zic L sel)
theorem zgu {L:List Pr} {sel:Pr→Int} {G:List (List Int)} {k:Nat} (h:k<G.length):Wh L sel G (k+1)=Wh L sel G k++[zic L sel (G.getD k [])]:=by
 unfold Wh
 rw[List.take_add_one,List.getElem?_eq_getElem h,List.map_append,List.getD_eq_getElem?_getD,List.getElem?_eq_getElem h]
 rfl
theorem YX {L:List Pr} {sel:Pr→Int} {G:List (List Int)} {k:Nat} (h:k≤G.length):(Wh L sel G k).length=k:=by simp[Wh];omega
def vk (W:zA) (A:yl) (L:List Pr):List (Nat→Bool):=Wh L (·.1) W.fair W.fair.length++Wh L (·.2) A.fair A.fair.length
def zCI:PC:=.seq (OP [Bi 17 .lss 16 15]) (.seq (.cond 17 .skip (.exit 0)) (.seq (.block 1 (.seq (OP [Ia 18 1 14 16,Lo 19 18,qm 6 19]) (OP [qm 20 4,qm 21 6,Lo 22 1,q 23 (.zq 22),Fa 24 0 23,Fa 25 1 24,Lo 26 25,Ln 27 26,q 28 (.y0 20 [21,(.func 161),27])]))) (OP [Bi 29 .add 16 (cI 1),qm 16 29])))
def zDI:PC:=.seq (OP [Bi 37 .lss 36 35]) (.seq (.cond 37 .skip (.exit 2)) (.seq (.block 3 (.seq (OP [Ia 38 1 34 36,Lo 39 38,qm 8 39]) (OP [qm 40 4,qm 41 8,Lo 42 1,q 43 (.zq 42),Fa 44 4 43,Fa 45 1 44,Lo 46 45,Ln 47 46,q 48 (.y0 40 [41,(.func 162),47])]))) (OP [Bi 49 .add 36 (cI 1),qm 36 49])))
def c95:PC:=.seq (OP [Bx 1 0,Mv 2 cN]) (.seq (OP [q 3 (.alloc [(.slice none 0 0)])]) (.seq (OP [q 9 (.uG (.func 160) [] [1,3]),qm 4 9]) (.seq (.seq (OP [Lo 10 1,q 11 (.zq 10),Fa 12 0 11,Fa 13 3 12,Lo 14 13,Ln 15 14,Mv 16 (cI 0)]) (.block 0 (.loop zCI))) (.seq (.seq (OP [Lo 30 1,q 31 (.zq 30),Fa 32 4 31,Fa 33 4 32,Lo 34 33,Ln 35 34,Mv 36 (cI 0)]) (.block 2 (.loop zDI))) (.seq (OP [Lo 50 3,qm 2 50]) .ret)))))
theorem zA3:zv Tryz.prog 95 51 [.tmp 2] c95:=fK Tryz.func95
theorem zv5 {W:zA} {A:yl} (hWA:zms W A) (L:List Pr) (hL:L.length≤2000000) (hg:∀p∈L,uu W A p) (G:List (List Int)) (fr:List Int):zn Tryz.prog 95 [.yO (Zh W A L G fr)] (zmz L.length (vk W A L)):=by
 have hp:=Zm W A L G fr
 obtain⟨w1,w2,w3,w4,w5,w6⟩:=qg W hWA.cw
 obtain⟨a1,a2,a3,a4,a5,a6,a7⟩:=YQ A hWA.ca
 have hP1:=λk (hk:k<W.fair.length) F (hF:F.length≤1000)=>zrE W A L hL G fr 161 (·.1) W.next.length zo (λp _=>ztS p) (λp hp=>(hg p hp).1) (W.fair.getD k []) (Qv hWA.fw.Vh k) (xa w6 k) F hF
 have hP2:=λk (hk:k<A.fair.length) F (hF:F.length≤1000)=>zrE W A L hL G fr 162 (·.2) A.next.length zo (λp _=>zpm p) (λp hp=>(hg p hp).2) (A.fair.getD k []) (Qv hWA.fa.Vh k) (xa a7 k) F hF
 refine za zA3 zs (by simp[zb,Y0 hp]) ?_ (zbS _ _)
 have hpU:=λm=>zz (m:=m) _ (Y0 hp)
 obtain⟨sd,hsd⟩:∃sd:List D,sd=Zh W A L G fr:=⟨_,rfl⟩
 rw[←hsd] at hp hpU hP1 hP2 ⊢
 refine sR ?_
 subst hsd
 unfold Zh
 refine sW ?_
 rw[List.length_map]
 refine zH (yZ 1 0 1 zs rfl rfl) ?_
 refine ye [1,3,4,14,15] (λk:Nat=>[(16,.sc (.int .i64 k))]) (λk=>[.row true [.yO (Zh W A L G fr)],.row true [.own 2 (Wh L (·.1) W.fair k).length 0 (Wh L (·.1) W.fair k).length],.vec true (Wh L (·.1) W.fair k).length 1 (U1 L.length (Wh L (·.1) W.fair k))]) (λk=>k≤W.fair.length) (λk=>W.fair.length-k) 0 ?_
 refine sW ?_
 refine⟨zo,by exact sK,rfl,?_⟩
 rintro k hk
 have eL:=YX (L:=L) (sel:=(·.1)) hk
 refine sW ?_
 refine sR ?_
 refine sS (λq0=>?_) λq0=>?_
 ·have q0:k<W.fair.length:=sO
  have hP:=hP1 k q0 (Wh L (·.1) W.fair k) zo
  have eS:=zgu (L:=L) (sel:=(·.1)) q0
  refine⟨zo,_,xX (g:=W.fair) (k:=k) zo q0,?_⟩
  rw[←eS] at hP
  refine sW ?_
  rw[List.length_map]
  unfold Zh at hP
  refine sA hP ?_
  refine sI ?_
  refine⟨k+1,zo,zd,?_⟩
  have eL2:=YX (L:=L) (sel:=(·.1)) (k:=k+1) (show k+1≤W.fair.length by omega)
  dsimp only
  rw[eL2,eL]
  (refine zm 3 zs rfl ?_ ?_<;>(repeat' (first|exact trivial|exact rfl|exact ym.refl _|exact zX.refl _|exact zN.refl _|refine And.intro ?_ ?_|(simp[zt,zl,zF,-List.map_take,-List.map_drop];done))))
  all_goals first|exact hpU _|skip
 have q0:k=W.fair.length:=by have:¬k<W.fair.length:=sO
                             omega
 subst q0
 generalize hF0:Wh L (·.1) W.fair W.fair.length=F0 at *
 refine sW ?_
 rw[List.length_map]
 refine ye [1,3,4,34,35] (λk:Nat=>[(36,.sc (.int .i64 k))]) (λk=>[.row true [.yO (Zh W A L G fr)],.row true [.own 2 (F0++Wh L (·.2) A.fair k).length 0 (F0++Wh L (·.2) A.fair k).length],.vec true (F0++Wh L (·.2) A.fair k).length 1 (U1 L.length (F0++Wh L (·.2) A.fair k))]) (λk=>k≤A.fair.length) (λk=>A.fair.length-k) 0 ?_
 refine sW ?_
 refine⟨zo,by exact sK,by simp[Wh],?_⟩
 rintro k hk
 have eL':=YX (L:=L) (sel:=(·.2)) hk
 refine sW ?_
 refine sR ?_
 refine sS (λq0=>?_) λq0=>?_
 ·have q0:k<A.fair.length:=sO
  have hP:=hP2 k q0 (F0++Wh L (·.2) A.fair k) (by rw[List.length_append];omega)
  have eS:=zgu (L:=L) (sel:=(·.2)) q0
  refine⟨zo,_,xX (g:=A.fair) (k:=k) zo q0,?_⟩
  rw[List.append_assoc,←eS] at hP
  refine sW ?_
  rw[List.length_map]
  unfold Zh at hP
  refine sA hP ?_
  refine sI ?_
  refine⟨k+1,zo,zd,?_⟩
  have eL2:(F0++Wh L (·.2) A.fair (k+1)).length=(F0++Wh L (·.2) A.fair k).length+1:=by rw[List.length_append,List.length_append,YX zo,eL'];rfl
  dsimp only
  rw[eL2]
  (refine zm 3 zs rfl ?_ ?_<;>(repeat' (first|exact trivial|exact rfl|exact ym.refl _|exact zX.refl _|exact zN.refl _|refine And.intro ?_ ?_|(simp[zt,zl,zF,-List.map_take,-List.map_drop];done))))
  all_goals first|exact hpU _|skip
 have q0:k=A.fair.length:=by have:¬k<A.fair.length:=sO
                             omega
 subst q0
 unfold vk
 rw[hF0]
 exact .own _ _ _ _ _ _ _ _ rfl (by rw[zw zs];exact z8 _)
end
section
open Go.RowKit
noncomputable def ZZ (g:List (List Int)) (F:List (Nat→Bool)) (k:Nat):Nat→Bool:=λi=>okT g g.length i&&(F.take k).all λS=>Jq g S g.length i
theorem zll {g:List (List Int)} {F:List (Nat→Bool)} {k:Nat} (h:k<F.length) (i:Nat):ZZ g F (k+1) i=(ZZ g F k i&&Jq g (F.getD k noT) g.length i):=by
 unfold ZZ
 rw[zj8 h noT,Bool.and_assoc]
theorem zo9 {g:List (List Int)} {F:List (Nat→Bool)}:ZZ g F F.length=Xj g F:=by
 funext i;unfold ZZ Xj;rw[List.take_length]
def c163:PC:=.seq (OP [Mv 4 cF]) (.seq (.ops [Lo 5 1,qm 6 0,qd 7 (.zM 1 5 6) 3,qd 8 (.zg 7) 7,Lo 9 1,Lo 10 2,qd 11 (.zM 1 9 10) 48,qd 12 (.zg 11) 112,qd 13 (.bin .eql 8 12) 255,qw 4 13 511] true) .ret)
theorem zuh:zv Tryz.prog 163 14 [.tmp 4] c163:=fK Tryz.func163
theorem zw1 (g:List (List Int)) (x:Int) (hx:0≤x∧x<(g.length:Int)) (n:Nat) (hn:n<g.length):zn Tryz.prog 163 [.sc (.int .i64 x),.yO [zB (vM g)],.yO [.sc (.int .i64 n)]] (.sc (.bool (zE g x.toNat==zE g n))):=by
 refine za zuh zs (by simp[zb,Pure,zj]) ?_ (by simp[Pure])
 unfold vM zB
 refine sR ?_
 refine sL (yp x.toNat zo zo) ?_
 refine sL (yp n zo hn) ?_
 exact .refl _
def zCC:PC:=.seq (OP [Bi 28 .lss 27 26]) (.seq (.cond 28 .skip (.exit 0)) (.seq (.block 1 (.seq (OP [qm 29 27,Ia 30 1 25 27,Lo 31 30,q 8 (.alloc [(.int .i64 0)]),So 1 8 29,qm 9 31]) (.seq (OP [qm 32 9,q 33 (.uG (.func 163) [] [4,8]),Ca 34 52 [32,33]]) (.cond 34 (OP [qm 35 7,Lo 36 4,Lo 37 8,Ia 38 1 36 37,Lo 39 38,Ia 40 1 35 39,So 1 40 cT]) .skip)))) (OP [Bi 41 .add 27 (cI 1),qm 27 41])))
def zCN:PC:=.seq (OP [Bi 57 .lss 56 55]) (.seq (.cond 57 .skip (.exit 4)) (.seq (.block 5 (.seq (OP [qm 58 56,Ia 59 1 54 56,Lo 60 59,qm 13 58,qm 14 60]) (.ops [qm 61 12,Lo 62 4,qm 63 13,qd 64 (.zM 1 62 63) 6,qd 65 (.zg 64) 14,qm 66 12,Lo 67 4,qm 68 13,qd 69 (.zM 1 67 68) 192,qd 70 (.zg 69) 448,qd 71 (.zM 1 66 70) 992,qd 72 (.zg 71) 2016,qw 73 72 4064,⟨some 74,.move 14,some (73,false),8160⟩,qd 75 (.pick 73 cT 74) 16352,qd 76 (.zM 1 61 65) 32767,qk (.store 1 76 75) 65535] true))) (OP [Bi 77 .add 56 (cI 1),qm 56 77])))
def zDk:PC:=.seq (OP [Bi 81 .lss 80 79]) (.seq (.cond 81 .skip (.exit 6)) (.seq (.block 7 (.seq (OP [qm 82 80,qm 15 82]) (OP [qm 83 7,qm 84 15,qm 85 7,qm 86 15,Ia 87 1 85 86,Lo 88 87,qm 89 88,GT 90 89 (.move 12),GT 91 89 (.move 15),GT 92 89 (.zM 1 90 91),GT 93 89 (.zg 92),Pk 94 89 93 cF,Ia 95 1 83 84,So 1 95 94]))) (OP [Bi 96 .add 80 (cI 1),qm 80 96])))
def zCq:PC:=.seq (OP [Bi 45 .lss 44 43]) (.seq (.cond 45 .skip (.exit 2)) (.seq (.block 3 (.seq (OP [Ia 46 1 42 44,Lo 47 46,qm 11 47]) (.seq (OP [qm 48 0,q 49 (.zq 48),Fa 50 10 49,Lo 51 50,Ln 52 51,q 53 (.wP 1 1 [(.bool false)] 52 52),qm 12 53]) (.seq (.seq (OP [qm 54 11,Ln 55 54,Mv 56 (cI 0)]) (.block 4 (.loop zCN))) (.seq (OP [qm 78 7,Ln 79 78,Mv 80 (cI 0)]) (.block 6 (.loop zDk))))))) (OP [Bi 97 .add 44 (cI 1),qm 44 97])))
def c96:PC:=.seq (OP [Bx 4 1,Mv 6 (cI 0)]) (.seq (OP [qm 16 0,q 17 (.zq 16),Fa 18 10 17,Lo 19 18,Ln 20 19,q 21 (.wP 1 1 [(.bool false)] 20 20),qm 7 21]) (.seq (.seq (OP [qm 22 0,q 23 (.zq 22),Fa 24 11 23,Lo 25 24,Ln 26 25,Mv 27 (cI 0)]) (.block 0 (.loop zCC))) (.seq (.seq (OP [qm 42 2,Ln 43 42,Mv 44 (cI 0)]) (.block 2 (.loop zCq))) (.seq (OP [qm 98 7,Ca 99 29 [98,cT],qm 6 99]) .ret))))
theorem zz3:zv Tryz.prog 96 100 [.tmp 6] c96:=fK Tryz.func96
theorem zuF (W:zA) (A:yl) (L:List Pr) (g:List (List Int)) (hLg:g.length=L.length) (fr:List Int) (hn:g.length≤2000000) (hin0:∀l∈g,xJ l g.length=true) (hF:uZ g) (F:List (Nat→Bool)) (hFl:F.length≤1000) :
  zn Tryz.prog 96 [.yO (Zh W A L g fr),zB (vM g),zmz g.length F] (.sc (.int .i64 (wQ (λb=>true==b) ((List.range g.length).map (Xj g F))))):=by
 have hrow:=λk=>xa hin0 k
 have hp:=Zm W A L g fr
 have hc:=λk (hk:k<g.length)=>yo (λn=>.sc (.int .i64 n)) (λa=>by simp[Pure]) (g.getD k []) (by have:=hF.at k;omega) (λx=>zE g x.toNat==zE g k) 163 [.yO [zB (vM g)],.yO [.sc (.int .i64 k)]] (by simp[zb,Pure,zj]) λa ha=>zw1 g a (z1 (hrow k) ha) k hk
 have hI:=zfi ((List.range g.length).map (Xj g F)) (by simp;omega) true
 refine za zz3 zs (by simp[zb,Pure,zj,hp,zbS]) ?_ (by simp[Pure])
 unfold Zh Uq zmz yd
 refine sR ?_
 rw[QR,←hLg]
 refine⟨zo,zo,zo,?_⟩
 rw[Int.toNat_natCast,show List.map D.sc [Value.bool false]=[D.sc (.bool false)] from rfl,ZI]
 refine sW ?_
 rw[List.length_map]
 refine zP [0,2,4,7,25,26] (λk:Nat=>[(27,.sc (.int .i64 k))]) (λk=>[(1,.vec true 0 1 (Yt g.length (okT g k)))]) (λk=>k≤g.length) (λk=>g.length-k) 0 ?_
 refine sW ?_
 refine⟨zo,by exact sK,rfl,?_⟩
 rintro k hk
 refine sW ?_
 refine sR ?_
 refine sS (λq0=>?_) λq0=>?_
 ·have q0:k<g.length:=sO
  have hpl:=qQ q0
  have e1:=ziX g k
  refine sL (xX (k:=k) zo q0) ?_
  refine sN (hc k q0) ?_
  rw[show((g.getD k []).any λx=>zE g x.toNat==zE g k)=zcn g k from rfl]
  cases r:zcn g k
  ·refine sW ?_
   refine sI ?_
   refine⟨k+1,zo,zd,?_⟩
   (refine zm 2 zs rfl ?_ ?_<;>(repeat' (first|exact trivial|exact rfl|exact ym.refl _|exact zX.refl _|exact zN.refl _|refine And.intro ?_ ?_|(simp[zt,zl,zF,-List.map_take,-List.map_drop];done))))
   all_goals first|exact zr _ hp|exact zp (x3 λi _=>by rw[e1,r,Bool.and_false,Bool.or_false])|skip
  ·refine sW ?_
   refine sL (yp k zo q0) ?_
   refine sB ?_
   refine⟨_,yh (zE g k).toNat zo zo,?_⟩
   refine sW ?_
   refine sI ?_
   refine⟨k+1,zo,zd,?_⟩
   rw[uO (i:=(zE g k).toNat) (f':=okT g (k+1)) zo λv _=>by
    rw[e1,r,Bool.and_true]
    by_cases e:v=(zE g k).toNat
    ·rw[if_pos e,show(zE g k==(v:Int))=true by rw[beq_iff_eq];omega,Bool.or_true]
    ·rw[if_neg e,show(zE g k==(v:Int))=false by rw[beq_eq_false_iff_ne];omega,Bool.or_false]]
   (refine zm 2 zs rfl ?_ ?_<;>(repeat' (first|exact trivial|exact rfl|exact ym.refl _|exact zX.refl _|exact zN.refl _|refine And.intro ?_ ?_|(simp[zt,zl,zF,-List.map_take,-List.map_drop];done))))
   all_goals first|exact zr _ hp|skip
 have q0:k=g.length:=by have:¬k<g.length:=sO
                        omega
 subst q0
 clear hc
 rw[List.length_map]
 refine zP [0,4,7,42,43] (λk:Nat=>[(44,.sc (.int .i64 k))]) (λk=>[(1,.vec true 0 1 (Yt g.length (ZZ g F k)))]) (λk=>k≤F.length) (λk=>F.length-k) 0 ?_
 refine sW ?_
 refine⟨zo,by exact sK,by rw[show ZZ g F 0=okT g g.length from funext λi=>by simp[ZZ]];rfl,?_⟩
 rintro k hk
 refine sW ?_
 refine sR ?_
 refine sS (λq0=>?_) λq0=>?_
 ·have q0:k<F.length:=sO
  have eG:=λi=>zll (g:=g) q0 i
  refine sL (zn8 (n:=g.length) (F:=F) (k:=k) zo q0) ?_
  generalize F.getD k noT=S at *
  rw[QR,←hLg]
  refine⟨zo,zo,zo,?_⟩
  rw[Int.toNat_natCast,show List.map D.sc [Value.bool false]=[D.sc (.bool false)] from rfl,ZI]
  refine sW ?_
  rw[zhF]
  refine zP [0,4,7,12,42,43,44,54,55] (λj:Nat=>[(56,.sc (.int .i64 j))]) (λj=>[(2,.vec true 0 1 (Yt g.length (Jq g S j)))]) (λj=>j≤g.length) (λj=>g.length-j) 0 ?_
  refine sW ?_
  refine⟨zo,by exact sK,by rw[show Jq g S 0=λ_=>false from funext λi=>rfl];rfl,?_⟩
  rintro j hj
  refine sW ?_
  refine sR ?_
  refine sS (λq2=>?_) λq2=>?_
  ·have q2:j<g.length:=sO
   have eH:=λi=>zqq g S j i
   have hpj:=qQ (g:=g) q2
   refine sL (yh j zo q2) ?_
   refine sL (yp j zo q2) ?_
   refine sL (yp j zo q2) ?_
   refine sB ?_
   refine⟨_,yh (zE g j).toNat zo zo,?_⟩
   refine sW ?_
   have fin:∀v,(v=true↔Jq g S j (zE g j).toNat=true∨S j=true)→(Yt g.length (Jq g S j)).set (zE g j).toNat [.sc (.bool v)]=Yt g.length (Jq g S (j+1)):=λv hv =>
    uO rfl λq _=>by
     rw[eH]
     by_cases e:q=(zE g j).toNat
     ·subst e
      rw[if_pos rfl,show(zE g j==(((zE g j).toNat:Nat):Int))=true by rw[beq_iff_eq];omega,Bool.true_and,Bool.eq_iff_iff,Bool.or_eq_true,hv]
     ·rw[if_neg e,show(zE g j==(q:Int))=false by rw[beq_eq_false_iff_ne];omega,Bool.false_and,Bool.or_false]
   cases r:Jq g S j (zE g j).toNat
   ·refine sW ?_
    refine sB ?_
    refine⟨_,yh (zE g j).toNat zo zo,?_⟩
    refine sW ?_
    refine sI ?_
    refine⟨j+1,zo,zd,zD (by exact sK) ?_⟩
    have:=fin (S j) (by rw[r];simp)
    rw[Nat.zero_add,this]
    rfl
   ·refine sW ?_
    refine sB ?_
    refine⟨_,yh (zE g j).toNat zo zo,?_⟩
    refine sW ?_
    refine sI ?_
    refine⟨j+1,zo,zd,zD (by exact sK) ?_⟩
    have:=fin true (by rw[r];simp)
    rw[Nat.zero_add,this]
    rfl
  have q2:j=g.length:=by have:¬j<g.length:=sO
                         omega
  rw[q2]
  clear q2
  refine zP [0,4,7,12,42,43,44,79] (λi:Nat=>[(80,.sc (.int .i64 i))]) (λi=>[(1,.vec true 0 1 (Yt g.length λx=>if x<i then ZZ g F (k+1) x else ZZ g F k x))]) (λi=>i≤g.length) (λi=>g.length-i) 0 ?_
  refine sW ?_
  refine⟨zo,by exact sK,by simp;rfl,?_⟩
  rintro i hi
  refine sW ?_
  refine sR ?_
  refine sS (λq3=>?_) λq3=>?_
  ·have q3:i<g.length:=sO
   have fin:(Yt g.length λx=>if x<i then ZZ g F (k+1) x else ZZ g F k x).set i [.sc (.bool (ZZ g F (k+1) i))]=Yt g.length λx=>if x<i+1 then ZZ g F (k+1) x else ZZ g F k x :=
    uO rfl λq _=>by
     by_cases e:q=i
     ·subst e;rw[if_pos zo,if_pos rfl]
     ·rw[if_neg e]
      by_cases e2:q<i
      ·rw[if_pos e2,if_pos zo]
      ·rw[if_neg e2,if_neg zo]
   have eGi:=eG i
   have hat:(Yt g.length λx=>if x<i then ZZ g F (k+1) x else ZZ g F k x)[i]? = some [.sc (.bool (ZZ g F k i))]:=by
    rw[yh i rfl q3,if_neg zo]
   refine sB ?_
   refine⟨_,by rw[Nat.zero_add];exact hat,?_⟩
   refine sW ?_
   cases r:ZZ g F k i
   ·rw[r,Bool.false_and] at eGi
    rw[eGi] at fin
    refine sW ?_
    refine sB ?_
    refine⟨_,by rw[Nat.zero_add];exact hat,?_⟩
    refine sW ?_
    refine sI ?_
    refine⟨i+1,zo,zd,zD (by exact sK) ?_⟩
    rw[Nat.zero_add,show(i:Int).toNat=i from Int.toNat_natCast i,fin]
    rfl
   ·rw[r,Bool.true_and] at eGi
    rw[eGi] at fin
    refine sW ?_
    refine sB ?_
    refine⟨_,yh i zo q3,?_⟩
    refine sW ?_
    refine sB ?_
    refine⟨_,by rw[Nat.zero_add];exact hat,?_⟩
    refine sW ?_
    refine sI ?_
    refine⟨i+1,zo,zd,zD (by exact sK) ?_⟩
    rw[Nat.zero_add,show(i:Int).toNat=i from Int.toNat_natCast i,fin]
    rfl
  ·have q3:i=g.length:=by have:¬i<g.length:=sO
                          omega
   subst q3
   refine sI ?_
   refine⟨k+1,zo,zd,?_⟩
   dsimp only
   (refine zm 2 zs rfl ?_ ?_<;>(repeat' (first|exact trivial|exact rfl|exact ym.refl _|exact zX.refl _|exact zN.refl _|refine And.intro ?_ ?_|(simp[zt,zl,zF,-List.map_take,-List.map_drop];done))))
   all_goals first|exact zr _ hp|exact zi _ (zC _ (λS=>by simp[zb,zY]) F)|exact zp (x3 λv hv=>by rw[if_pos hv])|skip
 have q0:k=F.length:=by have:¬k<F.length:=sO
                        omega
 subst q0
 rw[zo9]
 rw[show((List.range g.length).map (Xj g F)).map (λa=>[D.sc (.bool a)])=List.drop 0 (List.take g.length (Yt g.length (Xj g F))) by rw[zdk,znm]] at hI
 refine sN hI ?_
 exact .refl _
end
end
section
open Go.RowKit
def zi4 (Z:List Int) (i:Nat) (p:Nat):Int:=if p<i∨Z.length-i≤p then Z.getD (Z.length-1-p) 0 else Z.getD p 0
theorem zxI (Z:List Int):gl Z.length (λp=>Z.getD p 0)=Z:=by
 apply List.ext_getElem zs
 intro i h1 h2
 have:=QQ (n:=Z.length) (g:=λp=>Z.getD p 0) h2
 rw[List.getD_eq_getElem?_getD,List.getElem?_eq_getElem h1,List.getD_eq_getElem?_getD,List.getElem?_eq_getElem h2] at this
 exact this
theorem zzL {Z:List Int} {g:Nat→Int} (h:∀p,p<Z.length→g p=Z.getD (Z.length-1-p) 0):gl Z.length g=Z.reverse:=by
 apply List.ext_getElem zs
 intro i h1 h2
 have hi:i<Z.length:=by simpa using h1
 have:=QQ (n:=Z.length) (g:=g) hi
 rw[List.getD_eq_getElem?_getD,List.getElem?_eq_getElem h1,h i hi,List.getD_eq_getElem?_getD,List.getElem?_eq_getElem zo] at this
 rw[List.getElem_reverse]
 exact this
def zy3:PC:=.seq (.seq (OP [qm 7 2,qm 8 3,Bi 9 .lss 7 8]) (.cond 9 .skip (.exit 0))) (.seq (.block 1 (.ops [qm 14 0,qm 15 2,qm 16 0,qm 17 3,qm 18 0,qm 19 3,qd 20 (.zM 1 18 19) 48,qd 21 (.zg 20) 112,qm 22 0,qm 23 2,qd 24 (.zM 1 22 23) 768,qd 25 (.zg 24) 1792,qd 26 (.zM 1 14 15) 4083,qk (.store 1 26 21) 8179,qd 27 (.zM 1 16 17) 16383,qk (.store 1 27 25) 32767] true)) (OP [qm 10 2,Bi 11 .add 10 (cI 1),qm 12 3,Bi 13 .sub 12 (cI 1),qm 2 11,qm 3 13]))
def c164:PC:=.seq (OP [qm 4 0,Ln 5 4,Bi 6 .sub 5 (cI 1),Mv 2 (cI 0),qm 3 6]) (.block 0 (.loop zy3))
theorem zwb:zv Tryz.prog 164 28 [] c164:=fK Tryz.func164
theorem zcu (Z:List Int) (hl:Z.length≤17592186044416) (v:Nat):yr Tryz.prog 164 [.own 0 v 0 Z.length] [.vec true v 1 (zI Z)] (.yP []) [.vec true v 1 (zI Z.reverse)]:=by
 refine zS zwb zs zs ?_ (by simp[zt,zl]) (by simp[zf.under])
 refine sR ?_
 rw[Nat.sub_zero]
 refine sI ?_
 refine zP [0] (λi:Nat=>[(2,.sc (.int .i64 i)),(3,.sc (.int .i64 ((Z.length:Int)-1-i)))]) (λi=>[(0,.vec true v 1 (zI (gl Z.length (zi4 Z i))))]) (λi=>2*i≤Z.length+1) (λi=>Z.length+1-i) 0 ?_
 refine sW ?_
 refine⟨zo,⟨rfl,by show D.sc _=D.sc _;simp,trivial⟩,by
  rw[YM (g':=λp=>Z.getD p 0) λp hp=>by unfold zi4;rw[if_neg zo],zxI];rfl,?_⟩
 rintro i hi
 refine sW ?_
 refine sR ?_
 refine sS (λh1=>?_) λh1=>?_
 ·have h1:(i:Int)<(Z.length:Int)-1-i:=sO
  refine sB ?_
  refine⟨_,yp (Z.length-1-i) zo zo,?_⟩
  refine sW ?_
  refine sB ?_
  refine⟨_,yp i zo zo,?_⟩
  refine sW ?_
  refine sB ?_
  refine⟨_,yp i zo zo,?_⟩
  refine sW ?_
  refine sB ?_
  rw[qB (k:=i) zo]
  refine⟨_,yp (Z.length-1-i) zo zo,?_⟩
  refine sW ?_
  refine sI ?_
  refine sI ?_
  refine⟨i+1,zo,zd,?_⟩
  refine zD ⟨rfl,by show D.sc _=D.sc _;simp;omega,by exact sK⟩ ?_
  rw[qB (k:=Z.length-1-i) zo,YM (g':=zi4 Z (i+1)) λp hp=>?_]
  ·rfl
  ·by_cases e1:p=Z.length-1-i
   ·subst e1
    rw[qo]
    unfold zi4
    rw[if_neg zo,if_pos zo]
    congr 1
    omega
   ·rw[VV e1]
    by_cases e2:p=i
    ·subst e2
     rw[qo]
     unfold zi4
     rw[if_neg zo,if_pos zo]
    ·rw[VV e2]
     unfold zi4
     by_cases q:p<i∨Z.length-i≤p
     ·rw[if_pos q,if_pos zo]
     ·rw[if_neg q,if_neg zo]
 ·have h1:¬(i:Int)<(Z.length:Int)-1-i:=sO
  refine⟨?_,zs⟩
  rw[←zzL (Z:=Z) (g:=zi4 Z i) λp hp=>?_]
  ·rfl
  ·unfold zi4
   split
   ·rfl
   ·congr 1
    omega
end
section
section
def yx (M:List Pr):List Int:=M.map (·.1)
def Vc (ok:Nat→Bool) (n:Int):List Int→List Pr→List Pr
 | [],M=>M
 | k::r,M=>Vc ok n r (if (yx M).contains k=false∧ok k.toNat=true then M++[(k,n)] else M)
def wSt:List Int→List Pr→List Pr
 | [],M=>M
 | k::r,M=>wSt r (if (yx M).contains k=false then M++[(k,-1)] else M)
def yL (M:List Pr) (h:Nat):Int:=(M.getD h (0,0)).1
def QY (g:List (List Int)) (to ok:Nat→Bool):Nat→Nat→List Pr→Option (List Pr × Nat)
 | 0,_,_=>none
 | f+1,h,M=>if h<M.length then (if to (yL M h).toNat=true then some (M,h) else QY g to ok f (h+1) (Vc ok (yL M h) (g.getD (yL M h).toNat []) M)) else none
def upM (M:List Pr) (n:Int):Int:=((M.find? λp=>p.1==n).map (·.2)).getD (-1)
def uW (M:List Pr):Nat→Int→List Int
 | 0,_=>[]
 | f+1,n=>if n<0 then [] else n::uW M f (upM M n)
def XK (g:List (List Int)) (to ok:Nat→Bool) (from_:List Int):List Int :=
 match QY g to ok (g.length+1) 0 (wSt from_ []) with
 | some (M,h)=>(uW M (M.length+1) (yL M h)).reverse
 | none=>[]
structure ZO (g:List (List Int)) (ok:Nat→Bool) (from_:List Int) (M:List Pr):Prop where
 nd:(yx M).Nodup
 rng:∀p∈M,0≤p.1∧p.1<(g.length:Int)
 par:∀j,j<M.length→(M.getD j (0,0)).2=-1∨∃i,i<j∧(M.getD j (0,0)).2=yL M i
 okF:∀p∈M,p.1∈from_∨ok p.1.toNat=true
theorem ZH (M:List Pr):(yx M).length=M.length:=by simp[yx]
theorem XZ (M:List Pr) (p:Pr):yx (M++[p])=yx M++[p.1]:=by simp[yx]
theorem Yc {M:List Pr} {p:Pr} {i:Nat} (h:i<M.length):yL (M++[p]) i=yL M i:=by
 unfold yL
 rw[List.getD_eq_getElem?_getD,List.getElem?_append_left h,←List.getD_eq_getElem?_getD]
theorem ZO.len {g:List (List Int)} {ok:Nat→Bool} {from_:List Int} {M:List Pr} (h:ZO g ok from_ M):M.length≤g.length:=by
 rw[←ZH]
 have hnd:=h.nd
 refine zhT g.length (yx M).length (λi=>((yx M).getD i 0).toNat) (λi hi=>?_) λi j hi hj he=>?_
 ·have hm:(yx M).getD i 0∈yx M:=by rw[List.getD_eq_getElem?_getD,List.getElem?_eq_getElem hi];simp
  obtain⟨p,hp,e⟩:=List.mem_map.1 hm
  have:=h.rng p hp
  rw[←e];omega
 ·have hi':(yx M).getD i 0∈yx M:=by rw[List.getD_eq_getElem?_getD,List.getElem?_eq_getElem hi];simp
  have hj':(yx M).getD j 0∈yx M:=by rw[List.getD_eq_getElem?_getD,List.getElem?_eq_getElem hj];simp
  obtain⟨p,hp,e1⟩:=List.mem_map.1 hi'
  obtain⟨q,hq,e2⟩:=List.mem_map.1 hj'
  have a:=h.rng p hp
  have b:=h.rng q hq
  have hx:(yx M).getD i 0=(yx M).getD j 0:=by rw[←e1,←e2] at he ⊢;omega
  rw[List.getD_eq_getElem?_getD,List.getD_eq_getElem?_getD,List.getElem?_eq_getElem hi,List.getElem?_eq_getElem hj] at hx
  simp only[Option.getD_some] at hx
  rcases Nat.lt_trichotomy i j with q|q|q
  ·exact absurd hx (List.pairwise_iff_getElem.1 hnd i j hi hj q)
  ·exact q
  ·exact absurd hx.symm (List.pairwise_iff_getElem.1 hnd j i hj hi q)
theorem ZO.push {g:List (List Int)} {ok:Nat→Bool} {from_:List Int} {M:List Pr} (h:ZO g ok from_ M) {k n:Int} (hk:0≤k∧k<(g.length:Int)) (hn:¬k∈yx M) (hp:n=-1∨∃i,i<M.length∧n=yL M i) (hf:k∈from_∨ok k.toNat=true):ZO g ok from_ (M++[(k,n)]) where
 nd:=by
  rw[XZ,List.nodup_append]
  exact⟨h.nd,zs,λa ha b hb=>by rw[List.mem_singleton] at hb;subst hb;exact λe=>hn (e▸ha)⟩
 rng p hp:=by
  rcases List.mem_append.1 hp with q|q
  ·exact h.rng p q
  ·rw[List.mem_singleton] at q;subst q;exact hk
 par j hj:=by
  by_cases e:j<M.length
  ·rw[List.getD_eq_getElem?_getD,List.getElem?_append_left e,←List.getD_eq_getElem?_getD]
   rcases h.par j e with k1|⟨i,k1,k2⟩
   ·exact .inl k1
   ·exact .inr ⟨i,k1,by rw[k2,Yc zo]⟩
  ·have ej:j=M.length:=by simp at hj;omega
   subst ej
   rw[List.getD_eq_getElem?_getD,List.getElem?_append_right (Nat.le_refl _),Nat.sub_self]
   show n=-1∨_
   rcases hp with k1|⟨i,k1,k2⟩
   ·exact .inl k1
   ·exact .inr ⟨i,k1,by show n=_;rw[k2,Yc k1]⟩
 okF p hp:=by
  rcases List.mem_append.1 hp with q|q
  ·exact h.okF p q
  ·rw[List.mem_singleton] at q;subst q;exact hf
theorem xL {l:List Int} {k:Int} (h:l.contains k=false):¬k∈l:=λq=>by rw[List.contains_iff_mem.2 q] at h;cases h
theorem zat {l:List Int} {k:Int} (h:¬l.contains k=false):k∈l:=List.contains_iff_mem.1 (by cases e:l.contains k<;>simp_all)
theorem zhU {g:List (List Int)} {ok:Nat→Bool} {from_:List Int}:∀(r:List Int) {M:List Pr},ZO g ok from_ M→(∀x∈r,x∈from_∧0≤x∧x<(g.length:Int)) →
  ZO g ok from_ (wSt r M)∧(∀x∈r,x∈yx (wSt r M))∧∃X,wSt r M=M++X
 | [],M,h,_=>⟨h,zs,[],by simp[wSt]⟩
 | k::r,M,h,hr=>by
  rw[wSt]
  by_cases q:(yx M).contains k=false
  ·rw[if_pos q]
   obtain⟨a,b,X,hX⟩:=zhU r (h.push (hr k zs).2 (xL q) (.inl rfl) (.inl (hr k zs).1)) λx hx=>hr x (by simp[hx])
   refine⟨a,λx hx=>?_,(k,-1)::X,by rw[hX];simp⟩
   rcases List.mem_cons.1 hx with rfl|hx
   ·rw[hX];simp[yx]
   ·exact b x hx
  ·rw[if_neg q]
   obtain⟨a,b,X,hX⟩:=zhU r h λx hx=>hr x (by simp[hx])
   refine⟨a,λx hx=>?_,X,hX⟩
   rcases List.mem_cons.1 hx with rfl|hx
   ·have:=zat q
    rw[hX];unfold yx at this ⊢;rw[List.map_append];exact List.mem_append.2 (.inl this)
   ·exact b x hx
theorem zdl {g:List (List Int)} {ok:Nat→Bool} {from_:List Int} {n:Int} {i0:Nat}:∀(r:List Int) {M:List Pr},ZO g ok from_ M→i0<M.length→n=yL M i0→(∀x∈r,0≤x∧x<(g.length:Int)) →
  ZO g ok from_ (Vc ok n r M)∧(∀x∈r,ok x.toNat=true→x∈yx (Vc ok n r M))∧∃X,Vc ok n r M=M++X
 | [],M,h,_,_,_=>⟨h,zs,[],by simp[Vc]⟩
 | k::r,M,h,hi,hn,hr=>by
  rw[Vc]
  by_cases q:(yx M).contains k=false∧ok k.toNat=true
  ·rw[if_pos q]
   obtain⟨a,b,X,hX⟩:=zdl (n:=n) (i0:=i0) r (h.push (hr k zs) (xL q.1) (.inr ⟨i0,hi,hn⟩) (.inr q.2)) (by rw[List.length_append];omega) (by rw[Yc hi];exact hn) λx hx=>hr x (by simp[hx])
   refine⟨a,λx hx hx2=>?_,(k,n)::X,by rw[hX];simp⟩
   rcases List.mem_cons.1 hx with rfl|hx
   ·rw[hX];simp[yx]
   ·exact b x hx hx2
  ·rw[if_neg q]
   obtain⟨a,b,X,hX⟩:=zdl (i0:=i0) r h hi hn λx hx=>hr x (by simp[hx])
   refine⟨a,λx hx hx2=>?_,X,hX⟩
   rcases List.mem_cons.1 hx with rfl|hx
   ·have:=zat λz=>q ⟨z,hx2⟩
    rw[hX];unfold yx at this ⊢;rw[List.map_append];exact List.mem_append.2 (.inl this)
   ·exact b x hx hx2
theorem ZO.none (g:List (List Int)) (ok:Nat→Bool) (from_:List Int):ZO g ok from_ [] where
 nd:=.nil
 rng p hp:=by cases hp
 par j hj:=by cases hj
 okF p hp:=by cases hp
theorem zpN {M:List Pr} (hnd:(yx M).Nodup) {i:Nat} (hi:i<M.length):M.find? (λp=>p.1==yL M i)=some (M.getD i (0,0)):=by
 have:M.getD i (0,0)=M[i]:=by rw[List.getD_eq_getElem?_getD,List.getElem?_eq_getElem hi];rfl
 rw[this,List.find?_eq_some_iff_getElem]
 unfold yL
 rw[this]
 refine⟨zs,i,hi,rfl,λj hj=>?_⟩
 have:=List.pairwise_iff_getElem.1 hnd j i (by simp[yx];omega) (by simp[yx];omega) hj
 simp only[yx,List.getElem_map] at this
 simpa using this
theorem zvk {M:List Pr} (hnd:(yx M).Nodup) {i:Nat} (hi:i<M.length):upM M (yL M i)=(M.getD i (0,0)).2:=by
 unfold upM;rw[zpN hnd hi];rfl
def Xg (M:List Pr) (t:Nat):Int:=if t=0 then -1 else yL M (t-1)
theorem ZO.up {g:List (List Int)} {ok:Nat→Bool} {from_:List Int} {M:List Pr} (h:ZO g ok from_ M) {t:Nat} (ht:0<t) (hl:t≤M.length):∃t',t'<t∧upM M (Xg M t)=Xg M t'∧(M.getD (t-1) (0,0)).2=Xg M t'∧0≤Xg M t∧Xg M t<(g.length:Int):=by
 have e:Xg M t=yL M (t-1):=by unfold Xg;rw[if_neg zo]
 rw[e,zvk h.nd zo]
 have hr:=h.rng _ (xH (show t-1<M.length by omega))
 rcases h.par (t-1) zo with k|⟨i,k1,k2⟩
 ·exact⟨0,ht,by rw[k];rfl,by rw[k];rfl,hr⟩
 ·refine⟨i+1,zo,?_,?_,hr⟩
  ·rw[k2];unfold Xg;rw[if_neg zo];rfl
  ·rw[k2];unfold Xg;rw[if_neg zo];rfl
theorem ZO.back {g:List (List Int)} {ok:Nat→Bool} {from_:List Int} {M:List Pr} (h:ZO g ok from_ M):∀(f t:Nat),t≤M.length→(∀x∈uW M f (Xg M t),0≤x∧x<(g.length:Int))∧(uW M f (Xg M t)).length≤t
 | 0,t,_=>by simp[uW]
 | f+1,t,ht=>by
  rw[uW]
  by_cases h0:t=0
  ·subst h0
   rw[if_pos (by simp[Xg])];simp
  ·obtain⟨t',k1,k2,_,k3,k4⟩:=h.up (t:=t) zo ht
   rw[if_neg zo,k2]
   obtain⟨a,b⟩:=h.back f t' zo
   refine⟨λx hx=>?_,by simp;omega⟩
   rcases List.mem_cons.1 hx with rfl|hx
   ·exact⟨k3,k4⟩
   ·exact a x hx
def zj6 (g:List (List Int)) (ok:Nat→Bool):List (List Int):=g.map λl=>l.filter λx=>ok x.toNat
theorem zeu {g:List (List Int)} {ok:Nat→Bool} {v:Nat} {x:Int}:x∈(zj6 g ok).getD v []↔x∈g.getD v []∧ok x.toNat=true:=by
 unfold zj6
 rw[List.getD_eq_getElem?_getD,List.getD_eq_getElem?_getD,List.getElem?_map]
 cases g[v]? with
 | none=>simp
 | some l=>simp
theorem zhD {g:List (List Int)} (xR:∀l∈g,xJ l g.length=true) {to ok:Nat→Bool} {from_:List Int}:∀(f h:Nat) (M:List Pr),ZO g ok from_ M→h≤M.length→g.length+1≤f+h→(∀x∈from_,x∈yx M)→(∀i,i<h→to (yL M i).toNat=false∧∀y∈g.getD (yL M i).toNat [],ok y.toNat=true→y∈yx M) →
  match QY g to ok f h M with
  | some (M',h')=>ZO g ok from_ M'∧h'<M'.length∧to (yL M' h').toNat=true
  | none=>∀x∈from_,∀v,To (zj6 g ok) x.toNat v→to v=false
 | 0,h,M,hI,hh,hf,_,_=>by have:=hI.len;omega
 | f+1,h,M,hI,hh,hf,hst,hcl=>by
  rw[QY]
  by_cases q:h<M.length
  ·rw[if_pos q]
   by_cases q2:to (yL M h).toNat=true
   ·rw[if_pos q2]
    exact⟨hI,q,q2⟩
   ·rw[if_neg q2]
    obtain⟨a,b,X,hX⟩:=zdl (n:=yL M h) (g.getD (yL M h).toNat []) hI q rfl λx hx=>z1 (xa xR _) hx
    have hsub:∀x,x∈yx M→x∈yx (Vc ok (yL M h) (g.getD (yL M h).toNat []) M):=λx hx=>by
     rw[hX];unfold yx at hx ⊢;rw[List.map_append];exact List.mem_append.2 (.inl hx)
    have hnode:∀i,i<M.length→yL (Vc ok (yL M h) (g.getD (yL M h).toNat []) M) i=yL M i:=λi hi=>by
     rw[hX];unfold yL;rw[List.getD_eq_getElem?_getD,List.getElem?_append_left hi,←List.getD_eq_getElem?_getD]
    have hlen:M.length≤(Vc ok (yL M h) (g.getD (yL M h).toNat []) M).length:=by rw[hX];simp
    refine zhD xR f (h+1) _ a zo zo (λx hx=>hsub x (hst x hx)) λi hi=>?_
    by_cases e:i=h
    ·subst e
     rw[hnode i q]
     exact⟨by simpa using q2,b⟩
    ·rw[hnode i zo]
     obtain⟨c,d⟩:=hcl i zo
     exact⟨c,λy hy hy2=>hsub y (d y hy hy2)⟩
  ·rw[if_neg q]
   intro x hx v hv
   have eh:h=M.length:=zo
   subst eh
   have key:((v:Nat):Int)∈yx M:=Qt (g:=zj6 g ok) (s:=λv=>((v:Nat):Int)∈yx M) (λu hu y hy=>by
    obtain⟨y1,y2⟩:=zeu.1 hy
    have hy0:=z1 (xa xR u) y1
    obtain⟨p,hp,ep⟩:=List.mem_map.1 hu
    obtain⟨i,hi,rfl⟩:=List.mem_iff_getElem.1 hp
    have en:yL M i=(u:Int):=by unfold yL;rw[List.getD_eq_getElem?_getD,List.getElem?_eq_getElem hi];exact ep
    have:=(hcl i hi).2 y (by rw[en];exact y1) y2
    rwa [show((y.toNat:Nat):Int)=y by omega]) hv (by
    have h1:=hst x hx
    obtain⟨p,hp,ep⟩:=List.mem_map.1 h1
    have:=hI.rng p hp
    have ep:p.1=x:=ep
    rwa [show((x.toNat:Nat):Int)=x by omega])
   obtain⟨p,hp,ep⟩:=List.mem_map.1 key
   obtain⟨i,hi,rfl⟩:=List.mem_iff_getElem.1 hp
   have en:yL M i=(v:Int):=by unfold yL;rw[List.getD_eq_getElem?_getD,List.getElem?_eq_getElem hi];exact ep
   have:=(hcl i hi).1
   rw[en] at this
   simpa using this
theorem zh8 {g:List (List Int)} (xR:∀l∈g,xJ l g.length=true) (to ok:Nat→Bool) {from_:List Int} (hf:xJ from_ g.length=true):xJ (XK g to ok from_) g.length=true∧(XK g to ok from_).length≤g.length ∧
  ((∃x∈from_,∃v,To (zj6 g ok) x.toNat v∧to v=true)→∃init last,XK g to ok from_=init++[last]∧to last.toNat=true∧(last∈from_∨ok last.toNat=true)):=by
 obtain⟨a,b,_⟩:=zhU (ok:=ok) (from_:=from_) from_ (ZO.none g ok from_) λx hx=>⟨hx,z1 hf hx⟩
 have hR:=zhD xR (to:=to) (ok:=ok) (g.length+1) 0 (wSt from_ []) a (Nat.zero_le _) zo b λi hi=>zo
 unfold XK
 cases e:QY g to ok (g.length+1) 0 (wSt from_ []) with
 | none =>
  rw[e] at hR
  refine⟨rfl,zs,λ⟨x,hx,v,h1,h2⟩=>?_⟩
  have:=hR x hx v h1
  rw[h2] at this;cases this
 | some q =>
  obtain⟨M,h⟩:=q
  rw[e] at hR
  obtain⟨hI,hh,ht⟩:=hR
  have en:yL M h=Xg M (h+1):=by unfold Xg;rw[if_neg zo];rfl
  obtain⟨c,d⟩:=hI.back (M.length+1) (h+1) zo
  have hl:=hI.len
  dsimp only
  rw[en]
  refine⟨wA λx hx=>c x (List.mem_reverse.1 hx),by rw[List.length_reverse];omega,λ_=>?_⟩
  have hr:=hI.rng _ (xH hh)
  rw[uW,if_neg (by rw[←en];unfold yL;omega),←en]
  exact⟨_,_,by rw[List.reverse_cons],ht,hI.okF _ (xH hh)⟩
end
section
open Go.RowKit
noncomputable def fIa (f:Value→Option Value) (M:List Pr):Value→Option Value:=M.foldl (λf p=>JC f (.int .i64 p.1) (.int .i64 p.2)) f
noncomputable def fI (M:List Pr):Value→Option Value:=fIa (λ_=>none) M
theorem Qp (M:List Pr) (p:Pr):fI (M++[p])=JC (fI M) (.int .i64 p.1) (.int .i64 p.2):=by
 unfold fI fIa;rw[List.foldl_append];rfl
theorem zbz {n:Int}:∀(M:List Pr) (f:Value→Option Value),¬n∈yx M→fIa f M (.int .i64 n)=f (.int .i64 n)
 | [],f,_=>rfl
 | p::r,f,h=>by
  have h1:p.1≠n:=λe=>h (by simp[yx,e])
  show fIa _ r _=_
  rw[zbz r _ λq=>h (by simp only[yx,List.map_cons,List.mem_cons] at q ⊢;exact .inr q)]
  unfold JC
  dsimp only
  rw[if_neg λe=>h1 (by injection e with _ e;exact e.symm)]
theorem zdm {n:Int} {M:List Pr} (h:¬n∈yx M):fI M (.int .i64 n)=none:=zbz M _ h
theorem ztA:∀(M:List Pr) (f:Value→Option Value),(yx M).Nodup→∀j,j<M.length→fIa f M (.int .i64 (yL M j))=some (.int .i64 (M.getD j (0,0)).2)
 | [],_,_,j,hj=>by cases hj
 | p::r,f,hnd,j,hj=>by
  have h1:=List.nodup_cons.1 (show(p.1::yx r).Nodup from hnd)
  cases j with
  | zero =>
   show fIa _ r (.int .i64 p.1)=_
   rw[zbz r _ h1.1]
   unfold JC
   dsimp only
   rw[if_pos rfl]
   rfl
  | succ j =>
   show fIa _ r (.int .i64 (yL r j))=_
   rw[ztA r _ h1.2 j (by simpa using hj)]
   rfl
theorem zq6 {M:List Pr} (hnd:(yx M).Nodup) {j:Nat} (hj:j<M.length):fI M (.int .i64 (yL M j))=some (.int .i64 (M.getD j (0,0)).2):=ztA M _ hnd j hj
theorem zhL {n:Int} {M:List Pr} (hnd:(yx M).Nodup) (h:n∈yx M):∃v,fI M (.int .i64 n)=some v:=by
 obtain⟨p,hp,rfl⟩:=List.mem_map.1 h
 obtain⟨i,hi,rfl⟩:=List.mem_iff_getElem.1 hp
 have:=zq6 hnd hi
 rw[show yL M i=M[i].1 by unfold yL;rw[List.getD_eq_getElem?_getD,List.getElem?_eq_getElem hi];rfl] at this
 exact⟨_,this⟩
theorem ztQ {P:Program} {k:TypeId} {q:IntKind} (hu:P.underlying k=some (.int q)):Maps.Keyed P k:=Maps.int_keyed hu
theorem zgr {P:Program} {k:TypeId} (hu:P.underlying k=some (.int .i64)) {n:Int} (hn:(Lit.int .i64 n).wf=true):∃l,keyOf P k (.int .i64 n)=some l:=by
 unfold keyOf
 rw[hu]
 simp only[mapKey,hu]
 rw[if_pos ⟨trivial,hn⟩]
 exact⟨_,rfl⟩
theorem zeq {n:Int} (h:0≤n∧n≤1000000000000):(Lit.int .i64 n).wf=true:=by
 have h1:IntKind.min .i64=-9223372036854775808:=zc
 have h2:IntKind.max .i64=9223372036854775807:=zc
 simp only[Lit.wf,Bool.and_eq_true,decide_eq_true_eq];omega
theorem qW {ρ:Nat→Nat} (l:List Int):ue ρ (zI l)=zI l:=yA _ (zC _ (λ_=>by simp[zb,Pure]) l)
noncomputable def Wg (g:List (List Int)) (only:Int):Nat→Bool:=λk=>decide (only<0)||zE g k==only
def zDD:PC:=.seq (OP [Bi 27 .lss 26 25]) (.seq (.cond 27 .skip (.exit 0)) (.seq (.block 1 (.seq (OP [Ia 28 1 24 26,Lo 29 28,qm 14 29]) (.seq (OP [qm 31 11,qm 32 14,q 33 (.look 3 (.int .i64 0) 31 32),qm 30 33,Xt 34 0 30,Xt 35 1 30,qm 15 34,qm 16 35]) (.seq (OP [qm 36 16,Nt 37 36]) (.cond 37 (.seq (OP [qm 38 11,qm 39 14,qn (.zmT 3 38 39 (cI (-1)))]) (OP [qm 40 12,qm 41 14,Bs 42 1 1 [41],Ap 43 1 8 40 42,qm 12 43])) .skip))))) (OP [Bi 44 .add 26 (cI 1),qm 26 44])))
def zDq:PC:=.seq (.seq (OP [qm 56 17,Bi 57 .geq 56 (cI 0)]) (.cond 57 .skip (.exit 4))) (.seq (.block 5 (OP [qm 61 18,qm 62 17,Bs 63 1 1 [62],Ap 64 1 8 61 63,qm 18 64])) (OP [qm 58 11,qm 59 17,q 60 (.znC 3 58 59),qm 17 60]))
def zCy:PC:=.seq (OP [Bi 77 .lss 76 75]) (.seq (.cond 77 .skip (.exit 6)) (.seq (.block 7 (.seq (OP [Ia 78 1 74 76,Lo 79 78,qm 20 79]) (.seq (OP [qm 81 11,qm 82 20,q 83 (.look 3 (.int .i64 0) 81 82),qm 80 83,Xt 84 0 80,Xt 85 1 80,qm 21 84,qm 22 85]) (.seq (OP [qm 86 22,Nt 87 86,qm 88 87,GT 89 88 (.move 4),GT 90 88 (.bin .lss 89 (cI 0)),GT 91 88 (.move 90),GF 92 91 (.move 3),GF 93 91 (.move 20),GF 94 91 (.zM 1 92 93),GF 95 91 (.zg 94),GF 96 91 (.move 4),GF 97 91 (.bin .eql 95 96),GT 98 88 (.pick 91 cT 97),Pk 99 88 98 cF]) (.cond 99 (.seq (OP [qm 100 11,qm 101 20,qm 102 17,qn (.zmT 3 100 101 102)]) (OP [qm 103 12,qm 104 20,Bs 105 1 1 [104],Ap 106 1 8 103 105,qm 12 106])) .skip))))) (OP [Bi 107 .add 76 (cI 1),qm 76 107])))
def zDi:PC:=.seq (.seq (OP [qm 45 12,Ln 46 45,Bi 47 .gtr 46 (cI 0)]) (.cond 47 .skip (.exit 2))) (.block 3 (.seq (OP [qm 48 12,Ia 49 1 48 (cI 0),Lo 50 49,qm 17 50]) (.seq (OP [qm 51 12,q 52 (.slc 1 51 (some (cI 1)) none none),qm 12 52]) (.seq (.seq (OP [qm 53 2,qm 54 17,q 55 (.y0 53 [54])]) (.cond 55 (.seq (OP [Mv 18 cN]) (.seq (.block 4 (.loop zDq)) (.seq (OP [qm 65 18,Ca 66 164 [65]]) (.seq (OP [qm 67 18,qm 10 67]) .ret)))) .skip)) (.seq (OP [qm 68 0,q 69 (.zq 68),Fa 70 11 69,Lo 71 70,qm 72 17,Ia 73 1 71 72,Lo 74 73,Ln 75 74,Mv 76 (cI 0)]) (.block 6 (.loop zCy)))))))
def c97:PC:=.seq (OP [Mv 10 cN]) (.seq (OP [q 23 (.zhk 3),qm 11 23]) (.seq (OP [Mv 12 cN]) (.seq (.seq (OP [qm 24 1,Ln 25 24,Mv 26 (cI 0)]) (.block 0 (.loop zDD))) (.seq (.block 2 (.loop zDi)) (.seq (OP [Mv 10 cN]) .ret)))))
theorem zs3:zv Tryz.prog 97 108 [.tmp 10] c97:=fK Tryz.func97
theorem ztt (W:zA) (A:yl) (L:List Pr) (g:List (List Int)) (fr:List Int) (hn:g.length≤2000000) (hin0:∀l∈g,xJ l g.length=true) (hF:uZ g) (to:Nat→Bool) (cl:FuncId) (caps:List D) (hcp:zb caps)
  (hcl:∀x:Int,0≤x→x<(g.length:Int)→zn Tryz.prog cl (.sc (.int .i64 x)::caps) (.sc (.bool (to x.toNat)))) (from_:List Int) (hfl:from_.length≤17592186043904) (hf:xJ from_ g.length=true) (only:Int) :
  zn Tryz.prog 97 [.yO (Zh W A L g fr),zB from_,.fn (.func cl) [] caps,zB (vM g),.sc (.int .i64 only)] (zB (XK g to (Wg g only) from_)):=by
 have hp:=Zm W A L g fr
 have hkd:=ztQ (P:=Tryz.prog) Tryz.underlying3
 have hkey:=λx (h:0≤x∧x<(g.length:Int))=>zgr (P:=Tryz.prog) Tryz.underlying3 (n:=x) (zeq ⟨h.1,zo⟩)
 refine za zs3 zs (by simp[zb,Pure,zj,hp,hcp]) ?_ (zj _)
 have hWE:XK g to (Wg g only) from_=match QY g to (Wg g only) (g.length+1) 0 (wSt from_ []) with|some (M,h)=>(uW M (M.length+1) (yL M h)).reverse|none=>[]:=rfl
 obtain⟨sd,hsd⟩:∃sd:D,sd=.yO (Zh W A L g fr):=⟨_,rfl⟩
 have hsl:zb [sd]:=by subst hsd;exact⟨Y0 hp,trivial⟩
 rw[←hsd]
 refine sR ?_
 rw[List.length_map]
 refine zH (xw 12 1 zs rfl) ?_
 refine ye [0,2,3,4,11,24,25] (λ((k,M):Nat × List Pr)=>[(12,.own 1 M.length 0 M.length),(26,.sc (.int .i64 k))]) (λ(k,M)=>[.wg true (uQ Tryz.prog 3 (fI M)),.vec true M.length 1 (zI (yx M))])
  (λ(k,M)=>k≤from_.length∧ZO g (Wg g only) from_ M∧wSt (from_.drop k) M=wSt from_ []) (λ(k,M)=>from_.length-k) (0,[]) ?_
 refine sW ?_
 refine⟨⟨zo,ZO.none _ _ _,rfl⟩,by exact sK,rfl,?_⟩
 rintro⟨k,M⟩ ⟨hk,hI,hS⟩
 have hMl:=hI.len
 have hKl:=ZH M
 refine sW ?_
 refine sR ?_
 refine sS (λq0=>?_) λq0=>?_
 ·have q0:k<from_.length:=sO
  have hx:=z1 hf (yz q0)
  have hxm:=yz q0
  refine sL (yc (l:=from_) (k:=k) zo q0) ?_
  rw[XB q0,wSt] at hS
  generalize from_.getD k 0=x at *
  refine⟨fI M,rfl,hkd,hkey x hx,λv hv=>?_,λhv=>?_⟩
  ·have hc:¬(yx M).contains x=false:=λe=>by
    have:=(zdm (xL e)).symm.trans hv
    cases this
   rw[if_neg hc] at hS
   refine sW ?_
   refine sI ?_
   refine⟨(k+1,M),⟨zo,hI,hS⟩,zd,?_⟩
   exact zD (by exact sK) rfl
  ·have hc:(yx M).contains x=false:=by
    cases e:(yx M).contains x
    ·rfl
    ·obtain⟨v,h⟩:=zhL hI.nd (List.contains_iff_mem.1 e)
     have:=hv.symm.trans h
     cases this
   rw[if_pos hc] at hS
   have hI2:=hI.push hx (xL hc) (.inl rfl) (.inl hxm)
   refine sW ?_
   refine⟨fI M,rfl,hkd,hkey x hx,hv,?_⟩
   refine sW ?_
   refine sJ ?_
   refine sI ?_
   refine⟨(k+1,M++[(x,-1)]),⟨zo,hI2,hS⟩,zd,?_⟩
   dsimp only
   rw[Qp,show(M++[(x,(-1:Int))]).length=M.length+1 by simp]
   (refine zm 2 zs rfl ?_ ?_<;>(repeat' (first|exact trivial|exact rfl|exact ym.refl _|exact zX.refl _|exact zN.refl _|refine And.intro ?_ ?_|(simp[zt,zl,zF,-List.map_take,-List.map_drop];done))))
   all_goals first|exact zz _ hsl.1|exact zr _ hcp|exact zr _ hcp|exact zp (by rw[XZ,←x5,ZH])|skip
 have q0:k=from_.length:=by have:¬k<from_.length:=sO
                            omega
 subst q0
 rw[List.drop_length] at hS
 have hS:M=wSt from_ []:=hS
 rw[←hS] at hWE
 generalize hRes:QY g to (Wg g only) (g.length+1) 0 M=R at hWE
 refine ye [0,2,3,4,11] (λ((h,M,Z,lo,hi,z7):Nat × List Pr × List Int × Nat × Nat × Nat)=>[(12,.own 1 z7 lo hi)]) (λ(h,M,Z,lo,hi,z7)=>[.wg true (uQ Tryz.prog 3 (fI M)),.vec true z7 1 (zI Z)])
  (λ(h,M,Z,lo,hi,z7)=>ZO g (Wg g only) from_ M∧h≤M.length∧lo≤hi∧hi≤Z.length∧(Z.take hi).drop lo=(yx M).drop h∧QY g to (Wg g only) (g.length+1-h) h M=R) (λ(h,M,Z,lo,hi,z7)=>g.length+1-h) (0,M,yx M,0,M.length,M.length) ?_
 refine sW ?_
 refine⟨⟨hI,zo,zo,zo,by rw[List.take_of_length_le zo],hRes⟩,by exact sK,rfl,?_⟩
 rintro⟨h,M,Z,lo,hi,z7⟩ ⟨hI,hh,hlo,hhi,hZ,hR⟩
 have hMl:=hI.len
 have hKl:=ZH M
 have hZl:hi-lo=M.length-h:=by
  have:=congrArg List.length hZ
  rw[List.length_drop,List.length_drop,List.length_take] at this
  omega
 rw[show g.length+1-h=(g.length-h)+1 by omega,QY] at hR
 refine sW ?_
 refine sR ?_
 refine sS (λq1=>?_) λq1=>?_
 ·have q1:lo<hi:=sO
  have hhM:h<M.length:=zo
  rw[if_pos hhM] at hR
  have hx:=hI.rng _ (xH hhM)
  have eN:(M.getD h (0,0)).1=yL M h:=rfl
  rw[eN] at hx
  have hd:(yx M).drop h=yL M h::(yx M).drop (h+1):=by
   rw[List.drop_eq_getElem_cons zo]
   unfold yL yx
   rw[List.getElem_map,List.getD_eq_getElem?_getD,List.getElem?_eq_getElem hhM]
   rfl
  rw[zoc q1 hhi,hd] at hZ
  obtain⟨hz1,hz2⟩:=List.cons.inj hZ
  refine sB ?_
  refine⟨_,yc (l:=Z) (k:=lo) zo zo,?_⟩
  refine sW ?_
  rw[hz1]
  refine⟨zo,zo,zo,?_⟩
  refine sW ?_
  rw[show lo+(hi-lo)=hi by omega]
  have hcx:=hcl (yL M h) hx.1 hx.2
  have en1:yL M h=Xg M (h+1):=by unfold Xg;rw[if_neg zo];rfl
  generalize hxe:yL M h=x at *
  refine sC hcx ?_
  cases hto:to x.toNat
  ·rw[hto,if_neg zc] at hR
   refine sW ?_
   subst hsd
   unfold Zh yd
   refine sW ?_
   refine sL (xX (g:=g) (k:=x.toNat) zo zo) ?_
   rw[List.length_map]
   have hrow:=λy hy=>z1 (xa hin0 x.toNat) (x:=y) hy
   have hrl:=hF.at x.toNat
   generalize g.getD x.toNat []=row at *
   refine ye [0,2,3,4,11,17,74,75] (λ((k,M',Z',lo',hi',ver'):Nat × List Pr × List Int × Nat × Nat × Nat)=>[(12,.own 1 ver' lo' hi'),(76,.sc (.int .i64 k))]) (λ(k,M',Z',lo',hi',ver')=>[.wg true (uQ Tryz.prog 3 (fI M')),.vec true ver' 1 (zI Z')])
    (λ(k,M',Z',lo',hi',ver')=>k≤row.length∧ZO g (Wg g only) from_ M'∧h<M'.length∧yL M' h=x∧lo'≤hi'∧hi'≤Z'.length∧(Z'.take hi').drop lo'=(yx M').drop (h+1)∧Vc (Wg g only) x (row.drop k) M'=Vc (Wg g only) x row M) (λ(k,M',Z',lo',hi',ver')=>row.length-k) (0,M,Z,lo+1,hi,z7) ?_
   refine sW ?_
   refine⟨⟨zo,hI,hhM,hxe,zo,hhi,hz2,rfl⟩,by exact sK,rfl,?_⟩
   rintro⟨k,M',Z',lo',hi',ver'⟩ ⟨hk,hI',hhM',hx',hlo',hhi',hZ',hA'⟩
   have hMl':=hI'.len
   have hKl':=ZH M'
   have hZl':hi'-lo'=M'.length-(h+1):=by
    have:=congrArg List.length hZ'
    rw[List.length_drop,List.length_drop,List.length_take] at this
    omega
   refine sW ?_
   refine sR ?_
   refine sS (λq2=>?_) λq2=>?_
   ·have q2:k<row.length:=sO
    have hy:=hrow _ (yz q2)
    refine sL (yc (l:=row) (k:=k) zo q2) ?_
    rw[XB q2,Vc] at hA'
    generalize row.getD k 0=y at *
    refine⟨fI M',rfl,hkd,hkey y hy,λv hv=>?_,λhv=>?_⟩
    ·have hc:¬(yx M').contains y=false:=λe=>by
      have:=(zdm (xL e)).symm.trans hv
      cases this
     rw[if_neg λq=>hc q.1] at hA'
     refine sW ?_
     refine sI ?_
     refine⟨(k+1,M',Z',lo',hi',ver'),⟨zo,hI',hhM',hx',hlo',hhi',hZ',hA'⟩,zd,?_⟩
     exact zD (by exact sK) rfl
    ·have hc:(yx M').contains y=false:=by
      cases e:(yx M').contains y
      ·rfl
      ·obtain⟨v,h⟩:=zhL hI'.nd (List.contains_iff_mem.1 e)
       have:=hv.symm.trans h
       cases this
     have eok:Wg g only y.toNat=(decide (only<0)||zE g y.toNat==only):=rfl
     refine sW ?_
     refine sS (λr=>?_) λr=>?_
     ·rw[r,Bool.true_or] at eok
      rw[if_pos ⟨hc,eok⟩] at hA'
      have hI2:=hI'.push hy (xL hc) (.inr ⟨h,hhM',hx'.symm⟩) (.inr eok)
      refine⟨fI M',rfl,hkd,hkey y hy,hv,?_⟩
      refine sW ?_
      refine sJ ?_
      refine sI ?_
      refine⟨(k+1,M'++[(y,x)],(Z'.take hi').drop lo'++[y],0,hi'-lo'+1,ver'+1),⟨zo,hI2,by simp;omega,by rw[Yc hhM'];exact hx',zo,by simp;omega,?_,hA'⟩,zd,?_⟩
      ·rw[List.drop_zero,List.take_of_length_le (by simp;omega),hZ',XZ,List.drop_append_of_le_length zo]
      ·dsimp only
       rw[Qp]
       (refine zm 2 zs rfl ?_ ?_<;>(repeat' (first|exact trivial|exact rfl|exact ym.refl _|exact zX.refl _|exact zN.refl _|refine And.intro ?_ ?_|(simp[zt,zl,zF,-List.map_take,-List.map_drop];done))))
       all_goals first|exact zp Zo|exact zr _ hp|exact zr _ hcp|(simp;done)|skip
     ·refine sL (yp y.toNat zo zo) ?_
      rw[r,Bool.false_or] at eok
      refine sS (λr2=>?_) λr2=>?_
      ·have r2:(zE g y.toNat==only)=true:=r2
       rw[r2] at eok
       rw[if_pos ⟨hc,eok⟩] at hA'
       have hI2:=hI'.push hy (xL hc) (.inr ⟨h,hhM',hx'.symm⟩) (.inr eok)
       refine⟨fI M',rfl,hkd,hkey y hy,hv,?_⟩
       refine sW ?_
       refine sJ ?_
       refine sI ?_
       refine⟨(k+1,M'++[(y,x)],(Z'.take hi').drop lo'++[y],0,hi'-lo'+1,ver'+1),⟨zo,hI2,by simp;omega,by rw[Yc hhM'];exact hx',zo,by simp;omega,?_,hA'⟩,zd,?_⟩
       ·rw[List.drop_zero,List.take_of_length_le (by simp;omega),hZ',XZ,List.drop_append_of_le_length zo]
       ·dsimp only
        rw[Qp]
        (refine zm 2 zs rfl ?_ ?_<;>(repeat' (first|exact trivial|exact rfl|exact ym.refl _|exact zX.refl _|exact zN.refl _|refine And.intro ?_ ?_|(simp[zt,zl,zF,-List.map_take,-List.map_drop];done))))
        all_goals first|exact zp Zo|exact zr _ hp|exact zr _ hcp|(simp;done)|skip
      ·have r2:(zE g y.toNat==only)=false:=r2
       rw[r2] at eok
       rw[if_neg λq=>by rw[eok] at q;cases q.2] at hA'
       refine sI ?_
       refine⟨(k+1,M',Z',lo',hi',ver'),⟨zo,hI',hhM',hx',hlo',hhi',hZ',hA'⟩,zd,?_⟩
       exact zD (by exact sK) rfl
   ·have q2:k=row.length:=by have:¬k<row.length:=sO
                             omega
    subst q2
    rw[List.drop_length] at hA'
    have hA':M'=Vc (Wg g only) x row M:=hA'
    rw[←hA'] at hR
    refine⟨(h+1,M',Z',lo',hi',ver'),⟨hI',zo,hlo',hhi',hZ',by rw[show g.length+1-(h+1)=g.length-h by omega];exact hR⟩,zd,?_⟩
    exact zD (by exact sK) rfl
  ·rw[hto,if_pos rfl] at hR
   subst hR
   refine sW ?_
   generalize hB0:uW M (M.length+1) x=B
   refine zH (xw 18 1 zs rfl) ?_
   refine ye [11] (λ((f,t,o):Nat × Nat × List Int)=>[(17,.sc (.int .i64 (Xg M t))),(18,.own 2 o.length 0 o.length)]) (λ(f,t,o)=>[.wg true (uQ Tryz.prog 3 (fI M)),.vec true z7 1 (zI Z),.vec true o.length 1 (zI o)])
    (λ(f,t,o)=>t≤f∧t≤M.length∧o.length+t≤M.length+1∧o++uW M f (Xg M t)=B) (λ(f,t,o)=>t) (M.length+1,h+1,[]) ?_
   refine sW ?_
   refine⟨⟨zo,zo,by simp;omega,by rw[←en1];exact hB0⟩,⟨by show D.sc (.int .i64 x)=_;rw[en1],by exact sK⟩,rfl,?_⟩
   rintro⟨f,t,o⟩ ⟨hf1,ht,ho,hB⟩
   refine sW ?_
   refine sR ?_
   refine sS (λq2=>?_) λq2=>?_
   ·have t0:0<t:=by
     rcases Nat.eq_zero_or_pos t with e|e
     ·subst e;simp[Xg] at q2
     ·exact e
    obtain⟨t',k1,k2,k3,k4,k5⟩:=hI.up t0 ht
    have eA:Xg M t=yL M (t-1):=by unfold Xg;rw[if_neg zo]
    obtain⟨f',rfl⟩:∃f',f=f'+1:=⟨f-1,zo⟩
    rw[uW,if_neg zo,k2] at hB
    have hlook:fI M (.int .i64 (Xg M t))=some (.int .i64 (Xg M t')):=by rw[eA,zq6 hI.nd zo,k3]
    refine sJ ?_
    refine⟨fI M,rfl,hkd,hkey _ ⟨k4,k5⟩,_,hlook,?_⟩
    refine sW ?_
    refine⟨(f',t',o++[Xg M t]),⟨zo,zo,by simp;omega,by rw[List.append_assoc];exact hB⟩,zd,?_⟩
    dsimp only
    rw[show(o++[Xg M t]).length=o.length+1 by simp]
    (refine zm 3 zs rfl ?_ ?_<;>(repeat' (first|exact trivial|exact rfl|exact ym.refl _|exact zX.refl _|exact zN.refl _|refine And.intro ?_ ?_|(simp[zt,zl,zF,-List.map_take,-List.map_drop];done))))
    all_goals first|exact zp (x5 o _)|skip
   ·have t0:t=0:=by
     rcases Nat.eq_zero_or_pos t with e|e
     ·exact e
     ·obtain⟨t',k1,k2,k3,k4,k5⟩:=hI.up e ht
      exfalso;simp at q2;omega
    subst t0
    have hB:o=B:=by
     rw[←hB]
     cases f<;>simp[uW,Xg]
    subst hB
    refine sA (vI (zcu o zo o.length) [.wg true (uQ Tryz.prog 3 (fI M)),.vec true z7 1 (zI Z)] [] rfl (by simp[zl,zt]) (by simp[wJ,zf.under]) (by simp only[yE,D.yG];rfl) rfl (by simp only[List.map_cons,List.map_nil,zf.yG,qW];rfl) (by simp only[List.map_cons,List.map_nil,zf.yG,qW];rfl)) ?_
    have hEE:XK g to (Wg g only) from_=o.reverse:=by
     rw[hWE]
     show(uW M (M.length+1) (yL M h)).reverse=_
     rw[hxe,hB0]
    rw[hEE]
    exact .own _ _ _ _ _ _ _ _ rfl (by rw[List.drop_zero,List.take_of_length_le (by simp[zI])];exact z8 _)
 ·have h0:hi=lo:=sO
  have hhM:¬h<M.length:=zo
  rw[if_neg hhM] at hR
  subst hR
  rw[hWE]
  exact sP
theorem zu9 (W:zA) (A:yl) (L:List Pr) (g:List (List Int)) (fr:List Int) (hn:g.length≤2000000) (hin0:∀l∈g,xJ l g.length=true) (hF:uZ g) (to:Nat→Bool) (cl:FuncId)
  (hcl:∀x:Int,0≤x→x<(g.length:Int)→zn Tryz.prog cl [.sc (.int .i64 x),.yO [ur g.length to]] (.sc (.bool (to x.toNat)))) (Z0:List Int) (v0:Nat) (hz0:0<Z0.length) (hz1:Z0.length≤1000000000000) (from_:List Int) (hfr:from_=[Z0.getD (Z0.length-1) 0]) (hf:xJ from_ g.length=true) (only:Int) :
  yr Tryz.prog 97 [.yO (Zh W A L g fr),.own 0 v0 (Z0.length-1) Z0.length,.fn (.func cl) [] [.loc 1 0],zB (vM g),.sc (.int .i64 only)] [.vec true v0 1 (zI Z0),.row true [ur g.length to]] (zB (XK g to (Wg g only) from_)) [.vec true v0 1 (zI Z0),.row true [ur g.length to]]:=by
 have hp:=Zm W A L g fr
 have hfl:from_.length≤17592186043904:=by rw[hfr];simp
 have hkd:=ztQ (P:=Tryz.prog) Tryz.underlying3
 have hkey:=λx (h:0≤x∧x<(g.length:Int))=>zgr (P:=Tryz.prog) Tryz.underlying3 (n:=x) (zeq ⟨h.1,zo⟩)
 have hUO:∀o∈[zf.vec true v0 1 (zI Z0),zf.row true [ur g.length to]],o.under 2:=by
  intro o ho
  simp only[List.mem_cons,List.not_mem_nil,or_false] at ho
  rcases ho with rfl|rfl
  ·exact zi _ (zC _ (λ_=>by simp[zb,Pure]) _)
  ·exact zr _ ⟨zY _ _,trivial⟩
 refine wR zs3 zs zs ?_ (zz _ (zj _))
 have hWE:XK g to (Wg g only) from_=match QY g to (Wg g only) (g.length+1) 0 (wSt from_ []) with|some (M,h)=>(uW M (M.length+1) (yL M h)).reverse|none=>[]:=rfl
 obtain⟨sd,hsd⟩:∃sd:D,sd=.yO (Zh W A L g fr):=⟨_,rfl⟩
 have hsl:zb [sd]:=by subst hsd;exact⟨Y0 hp,trivial⟩
 rw[←hsd]
 refine sR ?_
 rw[show Z0.length-(Z0.length-1)=from_.length by rw[hfr];simp;omega]
 refine zH (xw 12 1 zs rfl) ?_
 refine ye [0,2,3,4,11,24,25] (λ((k,M):Nat × List Pr)=>[(12,.own 3 M.length 0 M.length),(26,.sc (.int .i64 k))]) (λ(k,M)=>[.vec true v0 1 (zI Z0),.row true [ur g.length to],.wg true (uQ Tryz.prog 3 (fI M)),.vec true M.length 1 (zI (yx M))])
  (λ(k,M)=>k≤from_.length∧ZO g (Wg g only) from_ M∧wSt (from_.drop k) M=wSt from_ []) (λ(k,M)=>from_.length-k) (0,[]) ?_
 refine sW ?_
 refine⟨⟨zo,ZO.none _ _ _,rfl⟩,by exact sK,rfl,?_⟩
 rintro⟨k,M⟩ ⟨hk,hI,hS⟩
 have hMl:=hI.len
 have hKl:=ZH M
 refine sW ?_
 refine sR ?_
 refine sS (λq0=>?_) λq0=>?_
 ·have q0:k<from_.length:=sO
  have hx:=z1 hf (yz q0)
  have hxm:=yz q0
  have hk0:k=0:=by
   have h1:from_.length=1:=by rw[hfr];rfl
   omega
  refine sB ?_
  refine⟨_,yc (l:=Z0) (k:=Z0.length-1) zo zo,?_⟩
  refine sW ?_
  rw[show Z0.getD (Z0.length-1) 0=from_.getD k 0 by rw[hfr,hk0];rfl]
  rw[XB q0,wSt] at hS
  generalize from_.getD k 0=x at *
  refine⟨fI M,rfl,hkd,hkey x hx,λv hv=>?_,λhv=>?_⟩
  ·have hc:¬(yx M).contains x=false:=λe=>by
    have:=(zdm (xL e)).symm.trans hv
    cases this
   rw[if_neg hc] at hS
   refine sW ?_
   refine sI ?_
   refine⟨(k+1,M),⟨zo,hI,hS⟩,zd,?_⟩
   exact zD (by exact sK) rfl
  ·have hc:(yx M).contains x=false:=by
    cases e:(yx M).contains x
    ·rfl
    ·obtain⟨v,h⟩:=zhL hI.nd (List.contains_iff_mem.1 e)
     have:=hv.symm.trans h
     cases this
   rw[if_pos hc] at hS
   have hI2:=hI.push hx (xL hc) (.inl rfl) (.inl hxm)
   refine sW ?_
   refine⟨fI M,rfl,hkd,hkey x hx,hv,?_⟩
   refine sW ?_
   refine sJ ?_
   refine sI ?_
   refine⟨(k+1,M++[(x,-1)]),⟨zo,hI2,hS⟩,zd,?_⟩
   dsimp only
   rw[Qp,show(M++[(x,(-1:Int))]).length=M.length+1 by simp]
   (refine zm 4 zs rfl ?_ ?_<;>(repeat' (first|exact trivial|exact rfl|exact ym.refl _|exact zX.refl _|exact zN.refl _|refine And.intro ?_ ?_|(simp[zt,zl,zF,-List.map_take,-List.map_drop];done))))
   all_goals first|exact zz _ hsl.1|(simp;done)|(simp;done)|exact zp (by rw[XZ,←x5,ZH])|skip
 have q0:k=from_.length:=by have:¬k<from_.length:=sO
                            omega
 subst q0
 rw[List.drop_length] at hS
 have hS:M=wSt from_ []:=hS
 rw[←hS] at hWE
 generalize hRes:QY g to (Wg g only) (g.length+1) 0 M=R at hWE
 refine ye [0,2,3,4,11] (λ((h,M,Z,lo,hi,z7):Nat × List Pr × List Int × Nat × Nat × Nat)=>[(12,.own 3 z7 lo hi)]) (λ(h,M,Z,lo,hi,z7)=>[.vec true v0 1 (zI Z0),.row true [ur g.length to],.wg true (uQ Tryz.prog 3 (fI M)),.vec true z7 1 (zI Z)])
  (λ(h,M,Z,lo,hi,z7)=>ZO g (Wg g only) from_ M∧h≤M.length∧lo≤hi∧hi≤Z.length∧(Z.take hi).drop lo=(yx M).drop h∧QY g to (Wg g only) (g.length+1-h) h M=R) (λ(h,M,Z,lo,hi,z7)=>g.length+1-h) (0,M,yx M,0,M.length,M.length) ?_
 refine sW ?_
 refine⟨⟨hI,zo,zo,zo,by rw[List.take_of_length_le zo],hRes⟩,by exact sK,rfl,?_⟩
 rintro⟨h,M,Z,lo,hi,z7⟩ ⟨hI,hh,hlo,hhi,hZ,hR⟩
 have hMl:=hI.len
 have hKl:=ZH M
 have hZl:hi-lo=M.length-h:=by
  have:=congrArg List.length hZ
  rw[List.length_drop,List.length_drop,List.length_take] at this
  omega
 rw[show g.length+1-h=(g.length-h)+1 by omega,QY] at hR
 refine sW ?_
 refine sR ?_
 refine sS (λq1=>?_) λq1=>?_
 ·have q1:lo<hi:=sO
  have hhM:h<M.length:=zo
  rw[if_pos hhM] at hR
  have hx:=hI.rng _ (xH hhM)
  have eN:(M.getD h (0,0)).1=yL M h:=rfl
  rw[eN] at hx
  have hd:(yx M).drop h=yL M h::(yx M).drop (h+1):=by
   rw[List.drop_eq_getElem_cons zo]
   unfold yL yx
   rw[List.getElem_map,List.getD_eq_getElem?_getD,List.getElem?_eq_getElem hhM]
   rfl
  rw[zoc q1 hhi,hd] at hZ
  obtain⟨hz1,hz2⟩:=List.cons.inj hZ
  refine sB ?_
  refine⟨_,yc (l:=Z) (k:=lo) zo zo,?_⟩
  refine sW ?_
  rw[hz1]
  refine⟨zo,zo,zo,?_⟩
  refine sW ?_
  rw[show lo+(hi-lo)=hi by omega]
  have hcx:=hcl (yL M h) hx.1 hx.2
  have en1:yL M h=Xg M (h+1):=by unfold Xg;rw[if_neg zo];rfl
  generalize hxe:yL M h=x at *
  refine sN hcx ?_
  cases hto:to x.toNat
  ·rw[hto,if_neg zc] at hR
   refine sW ?_
   subst hsd
   unfold Zh yd
   refine sW ?_
   refine sL (xX (g:=g) (k:=x.toNat) zo zo) ?_
   rw[List.length_map]
   have hrow:=λy hy=>z1 (xa hin0 x.toNat) (x:=y) hy
   have hrl:=hF.at x.toNat
   generalize g.getD x.toNat []=row at *
   refine ye [0,2,3,4,11,17,74,75] (λ((k,M',Z',lo',hi',ver'):Nat × List Pr × List Int × Nat × Nat × Nat)=>[(12,.own 3 ver' lo' hi'),(76,.sc (.int .i64 k))]) (λ(k,M',Z',lo',hi',ver')=>[.vec true v0 1 (zI Z0),.row true [ur g.length to],.wg true (uQ Tryz.prog 3 (fI M')),.vec true ver' 1 (zI Z')])
    (λ(k,M',Z',lo',hi',ver')=>k≤row.length∧ZO g (Wg g only) from_ M'∧h<M'.length∧yL M' h=x∧lo'≤hi'∧hi'≤Z'.length∧(Z'.take hi').drop lo'=(yx M').drop (h+1)∧Vc (Wg g only) x (row.drop k) M'=Vc (Wg g only) x row M) (λ(k,M',Z',lo',hi',ver')=>row.length-k) (0,M,Z,lo+1,hi,z7) ?_
   refine sW ?_
   refine⟨⟨zo,hI,hhM,hxe,zo,hhi,hz2,rfl⟩,by exact sK,rfl,?_⟩
   rintro⟨k,M',Z',lo',hi',ver'⟩ ⟨hk,hI',hhM',hx',hlo',hhi',hZ',hA'⟩
   have hMl':=hI'.len
   have hKl':=ZH M'
   have hZl':hi'-lo'=M'.length-(h+1):=by
    have:=congrArg List.length hZ'
    rw[List.length_drop,List.length_drop,List.length_take] at this
    omega
   refine sW ?_
   refine sR ?_
   refine sS (λq2=>?_) λq2=>?_
   ·have q2:k<row.length:=sO
    have hy:=hrow _ (yz q2)
    refine sL (yc (l:=row) (k:=k) zo q2) ?_
    rw[XB q2,Vc] at hA'
    generalize row.getD k 0=y at *
    refine⟨fI M',rfl,hkd,hkey y hy,λv hv=>?_,λhv=>?_⟩
    ·have hc:¬(yx M').contains y=false:=λe=>by
      have:=(zdm (xL e)).symm.trans hv
      cases this
     rw[if_neg λq=>hc q.1] at hA'
     refine sW ?_
     refine sI ?_
     refine⟨(k+1,M',Z',lo',hi',ver'),⟨zo,hI',hhM',hx',hlo',hhi',hZ',hA'⟩,zd,?_⟩
     exact zD (by exact sK) rfl
    ·have hc:(yx M').contains y=false:=by
      cases e:(yx M').contains y
      ·rfl
      ·obtain⟨v,h⟩:=zhL hI'.nd (List.contains_iff_mem.1 e)
       have:=hv.symm.trans h
       cases this
     have eok:Wg g only y.toNat=(decide (only<0)||zE g y.toNat==only):=rfl
     refine sW ?_
     refine sS (λr=>?_) λr=>?_
     ·rw[r,Bool.true_or] at eok
      rw[if_pos ⟨hc,eok⟩] at hA'
      have hI2:=hI'.push hy (xL hc) (.inr ⟨h,hhM',hx'.symm⟩) (.inr eok)
      refine⟨fI M',rfl,hkd,hkey y hy,hv,?_⟩
      refine sW ?_
      refine sJ ?_
      refine sI ?_
      refine⟨(k+1,M'++[(y,x)],(Z'.take hi').drop lo'++[y],0,hi'-lo'+1,ver'+1),⟨zo,hI2,by simp;omega,by rw[Yc hhM'];exact hx',zo,by simp;omega,?_,hA'⟩,zd,?_⟩
      ·rw[List.drop_zero,List.take_of_length_le (by simp;omega),hZ',XZ,List.drop_append_of_le_length zo]
      ·dsimp only
       rw[Qp]
       (refine zm 4 zs rfl ?_ ?_<;>(repeat' (first|exact trivial|exact rfl|exact ym.refl _|exact zX.refl _|exact zN.refl _|refine And.intro ?_ ?_|(simp[zt,zl,zF,-List.map_take,-List.map_drop];done))))
       all_goals first|exact zp Zo|exact zr _ hp|exact zr _ hcp|(simp;done)|skip
     ·refine sL (yp y.toNat zo zo) ?_
      rw[r,Bool.false_or] at eok
      refine sS (λr2=>?_) λr2=>?_
      ·have r2:(zE g y.toNat==only)=true:=r2
       rw[r2] at eok
       rw[if_pos ⟨hc,eok⟩] at hA'
       have hI2:=hI'.push hy (xL hc) (.inr ⟨h,hhM',hx'.symm⟩) (.inr eok)
       refine⟨fI M',rfl,hkd,hkey y hy,hv,?_⟩
       refine sW ?_
       refine sJ ?_
       refine sI ?_
       refine⟨(k+1,M'++[(y,x)],(Z'.take hi').drop lo'++[y],0,hi'-lo'+1,ver'+1),⟨zo,hI2,by simp;omega,by rw[Yc hhM'];exact hx',zo,by simp;omega,?_,hA'⟩,zd,?_⟩
       ·rw[List.drop_zero,List.take_of_length_le (by simp;omega),hZ',XZ,List.drop_append_of_le_length zo]
       ·dsimp only
        rw[Qp]
        (refine zm 4 zs rfl ?_ ?_<;>(repeat' (first|exact trivial|exact rfl|exact ym.refl _|exact zX.refl _|exact zN.refl _|refine And.intro ?_ ?_|(simp[zt,zl,zF,-List.map_take,-List.map_drop];done))))
        all_goals first|exact zp Zo|exact zr _ hp|exact zr _ hcp|(simp;done)|skip
      ·have r2:(zE g y.toNat==only)=false:=r2
       rw[r2] at eok
       rw[if_neg λq=>by rw[eok] at q;cases q.2] at hA'
       refine sI ?_
       refine⟨(k+1,M',Z',lo',hi',ver'),⟨zo,hI',hhM',hx',hlo',hhi',hZ',hA'⟩,zd,?_⟩
       exact zD (by exact sK) rfl
   ·have q2:k=row.length:=by have:¬k<row.length:=sO
                             omega
    subst q2
    rw[List.drop_length] at hA'
    have hA':M'=Vc (Wg g only) x row M:=hA'
    rw[←hA'] at hR
    refine⟨(h+1,M',Z',lo',hi',ver'),⟨hI',zo,hlo',hhi',hZ',by rw[show g.length+1-(h+1)=g.length-h by omega];exact hR⟩,zd,?_⟩
    exact zD (by exact sK) rfl
  ·rw[hto,if_pos rfl] at hR
   subst hR
   refine sW ?_
   generalize hB0:uW M (M.length+1) x=B
   refine zH (xw 18 1 zs rfl) ?_
   refine ye [11] (λ((f,t,o):Nat × Nat × List Int)=>[(17,.sc (.int .i64 (Xg M t))),(18,.own 4 o.length 0 o.length)]) (λ(f,t,o)=>[.vec true v0 1 (zI Z0),.row true [ur g.length to],.wg true (uQ Tryz.prog 3 (fI M)),.vec true z7 1 (zI Z),.vec true o.length 1 (zI o)])
    (λ(f,t,o)=>t≤f∧t≤M.length∧o.length+t≤M.length+1∧o++uW M f (Xg M t)=B) (λ(f,t,o)=>t) (M.length+1,h+1,[]) ?_
   refine sW ?_
   refine⟨⟨zo,zo,by simp;omega,by rw[←en1];exact hB0⟩,⟨by show D.sc (.int .i64 x)=_;rw[en1],by exact sK⟩,rfl,?_⟩
   rintro⟨f,t,o⟩ ⟨hf1,ht,ho,hB⟩
   refine sW ?_
   refine sR ?_
   refine sS (λq2=>?_) λq2=>?_
   ·have t0:0<t:=by
     rcases Nat.eq_zero_or_pos t with e|e
     ·subst e;simp[Xg] at q2
     ·exact e
    obtain⟨t',k1,k2,k3,k4,k5⟩:=hI.up t0 ht
    have eA:Xg M t=yL M (t-1):=by unfold Xg;rw[if_neg zo]
    obtain⟨f',rfl⟩:∃f',f=f'+1:=⟨f-1,zo⟩
    rw[uW,if_neg zo,k2] at hB
    have hlook:fI M (.int .i64 (Xg M t))=some (.int .i64 (Xg M t')):=by rw[eA,zq6 hI.nd zo,k3]
    refine sJ ?_
    refine⟨fI M,rfl,hkd,hkey _ ⟨k4,k5⟩,_,hlook,?_⟩
    refine sW ?_
    refine⟨(f',t',o++[Xg M t]),⟨zo,zo,by simp;omega,by rw[List.append_assoc];exact hB⟩,zd,?_⟩
    dsimp only
    rw[show(o++[Xg M t]).length=o.length+1 by simp]
    (refine zm 5 zs rfl ?_ ?_<;>(repeat' (first|exact trivial|exact rfl|exact ym.refl _|exact zX.refl _|exact zN.refl _|refine And.intro ?_ ?_|(simp[zt,zl,zF,-List.map_take,-List.map_drop];done))))
    all_goals first|exact zp (x5 o _)|skip
   ·have t0:t=0:=by
     rcases Nat.eq_zero_or_pos t with e|e
     ·exact e
     ·obtain⟨t',k1,k2,k3,k4,k5⟩:=hI.up e ht
      exfalso;simp at q2;omega
    subst t0
    have hB:o=B:=by
     rw[←hB]
     cases f<;>simp[uW,Xg]
    subst hB
    refine sA (vI (zcu o zo o.length) [.vec true v0 1 (zI Z0),.row true [ur g.length to],.wg true (uQ Tryz.prog 3 (fI M)),.vec true z7 1 (zI Z)] [] rfl (by simp[zl,zt]) (by simp[wJ,zf.under]) (by simp only[yE,D.yG];rfl) rfl (by simp only[List.map_cons,List.map_nil,zf.yG,qW];rfl) (by simp only[List.map_cons,List.map_nil,zf.yG,qW];rfl)) ?_
    have hEE:XK g to (Wg g only) from_=o.reverse:=by
     rw[hWE]
     show(uW M (M.length+1) (yL M h)).reverse=_
     rw[hxe,hB0]
    rw[hEE]
    exact⟨.own _ _ _ _ _ _ _ _ rfl rfl (zp (by rw[List.drop_zero,List.take_of_length_le (by simp[zI])];rfl)),y7 _ [_,_,_] hUO⟩
 ·have h0:hi=lo:=sO
  have hhM:¬h<M.length:=zo
  rw[if_neg hhM] at hR
  subst hR
  rw[hWE]
  exact⟨.none _,y7 _ [_,_] hUO⟩
end
section
open Go.RowKit
def yV (l:List Int):Int:=l.getD (l.length-1) 0
theorem zbZ (l:List Int) (x:Int):yV (l++[x])=x:=by
 unfold yV
 rw[List.length_append,List.length_singleton,Nat.add_sub_cancel,List.getD_eq_getElem?_getD,List.getElem?_append_right (Nat.le_refl _),Nat.sub_self]
 rfl
theorem zbo {l:List Int} (h:l≠[]):yV l∈l:=by
 have:=List.length_pos_iff.2 h
 unfold yV
 rw[List.getD_eq_getElem?_getD,List.getElem?_eq_getElem zo]
 simp
noncomputable def vY (g:List (List Int)) (F:List (Nat→Bool)) (e:Nat):Nat→List Int
 | 0=>[(e:Int)]
 | k+1=>if (vY g F e k).any (λx=>(F.getD k noT) x.toNat)=true then vY g F e k else vY g F e k++(XK g (F.getD k noT) (Wg g (zE g e)) [yV (vY g F e k)]).drop 1
def toE (e:Nat):Nat→Bool:=λk=>((k:Nat):Int)==(e:Int)
noncomputable def V8 (g:List (List Int)) (o:List Int) (e:Nat) (k:Nat):List Int:=((g.getD (yV o).toNat []).take k).filter λx=>zE g x.toNat==zE g e
noncomputable def UK (g:List (List Int)) (o:List Int) (e:Nat):List Int:=XK g (toE e) (Wg g (zE g e)) (V8 g o e (g.getD (yV o).toNat []).length)
noncomputable def Uk (g:List (List Int)) (F:List (Nat→Bool)) (e:Nat):List Int :=
 vY g F e F.length++(UK g (vY g F e F.length) e).take ((UK g (vY g F e F.length) e).length-1)
structure RH (g:List (List Int)) (F:List (Nat→Bool)) (e:Nat):Prop where
 he:e<g.length
 xR:∀l∈g,xJ l g.length=true
 nt:Wl g e
 has:∀S∈F,∃d,d<g.length∧S d=true∧zE g d=zE g e
theorem znP {g:List (List Int)} {e v:Nat} (he:e<g.length):Wg g (zE g e) v=true↔zE g v=zE g e:=by
 have:=(qQ he).1
 unfold Wg
 rw[decide_eq_false (show ¬zE g e<0 by omega),Bool.false_or,beq_iff_eq]
theorem ze1 {g:List (List Int)} (xR:∀l∈g,xJ l g.length=true) (v:Nat) (x:Int) (hx:x∈g.getD v []):0≤x∧x.toNat<g.length:=by
 have:=z1 (xa xR v) hx;omega
theorem zBa {g:List (List Int)} (xR:∀l∈g,xJ l g.length=true) {u v:Nat} (hu:u<g.length) (h:To g u v):v<g.length:=zn5 (λv x hx=>(ze1 xR v x hx).2) hu h
theorem znD {g:List (List Int)} (xR:∀l∈g,xJ l g.length=true) {e a b:Nat} (he:e<g.length) (ha:a<g.length) (hb:b<g.length) (h1:zE g a=zE g e) (h2:zE g b=zE g e):To (zj6 g (Wg g (zE g e))) a b:=by
 obtain⟨m1,m2⟩:=xu.1 ((parts_eq ha hb).1 (h1.trans h2.symm))
 have key:∀v,To g a v→To g v a→To (zj6 g (Wg g (zE g e))) a v:=by
  intro v hv
  induction hv with
  | base m=>intro _;exact .base m
  | step k hx ih =>
   rename_i u x
   intro hba
   have hu:=ih (uq (VH hx) hba)
   refine .step hu (zeu.2 ⟨hx,(znP he).2 ?_⟩)
   have hul:=zBa xR ha k
   have hxl:=(ze1 xR u x hx).2
   rw[(parts_eq hxl ha).2 (xu.2 ⟨hba,.step k hx⟩),h1]
 exact key b m1 m2
structure zci (g:List (List Int)) (e:Nat) (o:List Int):Prop where
 ne:o≠[]
 rng:xJ o g.length=true
 last:zE g (yV o).toNat=zE g e
theorem zci.lt {g:List (List Int)} {e:Nat} {o:List Int} (h:zci g e o):0≤yV o∧yV o<(g.length:Int):=z1 h.rng (zbo h.ne)
theorem zeC {l m:List Int} {n:Nat} (h:xJ l n=true) (k:xJ m n=true):xJ (l++m) n=true:=wA λx hx=>(List.mem_append.1 hx).elim (z1 h) (z1 k)
theorem zci.way {g:List (List Int)} {F:List (Nat→Bool)} {e:Nat} {o:List Int} (H:RH g F e) (h:zci g e o) {S:Nat→Bool} (hS:S∈F) :
  zci g e (o++(XK g S (Wg g (zE g e)) [yV o]).drop 1)∧(XK g S (Wg g (zE g e)) [yV o])≠[]∧(XK g S (Wg g (zE g e)) [yV o]).length≤g.length:=by
 have hl:=h.lt
 obtain⟨w1,w2,w3⟩:=zh8 H.xR S (Wg g (zE g e)) (from_:=[yV o]) (wA λx hx=>by rw[List.mem_singleton] at hx;subst hx;exact hl)
 obtain⟨d,d1,d2,d3⟩:=H.has S hS
 obtain⟨init,last,e1,e2,e3⟩:=w3 ⟨yV o,zs,d,znD H.xR H.he zo d1 h.last d3,d2⟩
 refine⟨⟨by simp[h.ne],zeC h.rng (wA λx hx=>z1 w1 (List.mem_of_mem_drop hx)),?_⟩,by rw[e1];simp,w2⟩
 cases init with
 | nil=>rw[e1];simp[h.last]
 | cons a r =>
  rw[e1,List.cons_append,List.drop_succ_cons,List.drop_zero,←List.append_assoc,zbZ]
  rcases e3 with q|q
  ·rw[List.mem_singleton] at q;rw[q];exact h.last
  ·exact(znP H.he).1 q
theorem zdQ {g:List (List Int)} {F:List (Nat→Bool)} {e:Nat} (H:RH g F e):∀k,k≤F.length→zci g e (vY g F e k)∧(vY g F e k).length≤1+k*g.length
 | 0,_=>by
  have:=H.he
  exact⟨⟨by simp[vY],wA λx hx=>by simp[vY] at hx;omega,by simp[vY,yV]⟩,by simp[vY]⟩
 | k+1,hk=>by
  obtain⟨h1,h2⟩:=zdQ H k zo
  rw[vY]
  have:(k+1)*g.length=k*g.length+g.length:=by rw[Nat.add_mul,Nat.one_mul]
  split
  ·exact⟨h1,zo⟩
  ·have hS:F.getD k noT∈F:=by rw[List.getD_eq_getElem?_getD,List.getElem?_eq_getElem (show k<F.length by omega)];simp
   obtain⟨a,b,c⟩:=h1.way H hS
   refine⟨a,?_⟩
   rw[List.length_append,List.length_drop]
   omega
theorem zci.home {g:List (List Int)} {F:List (Nat→Bool)} {e:Nat} {o:List Int} (H:RH g F e) (h:zci g e o):xJ (V8 g o e (g.getD (yV o).toNat []).length) g.length=true∧UK g o e≠[]∧xJ (UK g o e) g.length=true∧(UK g o e).length≤g.length:=by
 have hl:=h.lt
 have hT:xJ (V8 g o e (g.getD (yV o).toNat []).length) g.length=true:=wA λx hx=>z1 (xa H.xR _) (List.mem_of_mem_take (List.mem_filter.1 hx).1)
 obtain⟨w1,w2,w3⟩:=zh8 H.xR (toE e) (Wg g (zE g e)) hT
 have hlt:(yV o).toNat<g.length:=zo
 obtain⟨m1,m2⟩:=xu.1 ((parts_eq hlt H.he).1 h.last)
 obtain⟨x,x1,x2⟩:=UZ H.nt m2 m1
 have hx:=ze1 H.xR _ x x1
 have hpx:zE g x.toNat=zE g e:=by rw[(parts_eq hx.2 hlt).2 (xu.2 ⟨x2,VH x1⟩),h.last]
 obtain⟨init,last,e1,_,_⟩:=w3 ⟨x,List.mem_filter.2 ⟨by rw[List.take_length];exact x1,by rw[hpx];simp⟩,e,znD H.xR H.he hx.2 H.he hpx rfl,by simp[toE]⟩
 exact⟨hT,by unfold UK;rw[e1];simp,w1,w2⟩
theorem zm0 {g:List (List Int)} {F:List (Nat→Bool)} {e:Nat} (H:RH g F e):xJ (Uk g F e) g.length=true∧(Uk g F e).length≤1+F.length*g.length+g.length:=by
 obtain⟨h1,h2⟩:=zdQ H F.length (Nat.le_refl _)
 obtain⟨_,_,h4,h5⟩:=h1.home H
 refine⟨zeC h1.rng (wA λx hx=>z1 h4 (List.mem_of_mem_take hx)),?_⟩
 unfold Uk
 rw[List.length_append,List.length_take]
 omega
end
section
open Go.RowKit
theorem zgM (o l:List Int) (a b:Nat):List.drop 0 (List.take o.length (zI o))++List.drop a (List.take b (zI l))=zI (o++(l.take b).drop a):=by
 rw[zw (by simp[zI])]
 simp[zI,List.map_drop,List.map_take]
theorem zfb (l:List Int):yJ (zI l):=zC _ (λ_=>by simp[zb,Pure]) l
def c165:PC:=.seq (OP [Mv 3 cF]) (.seq (OP [Lo 4 1,qm 5 0,Ia 6 1 4 5,Lo 7 6,qm 3 7]) .ret)
theorem zxe:zv Tryz.prog 165 8 [.tmp 3] c165:=fK Tryz.func165
theorem zrJ (n:Nat) (S:Nat→Bool) (x:Int) (h0:0≤x) (hx:x<(n:Int)):zn Tryz.prog 165 [.sc (.int .i64 x),.yO [ur n S]] (.sc (.bool (S x.toNat))):=by
 refine za zxe zs (by simp[zb,Pure,zY]) ?_ (by simp[Pure])
 unfold ur
 refine sR ?_
 refine sL (yh x.toNat zo zo) ?_
 exact .refl _
def c166:PC:=.seq (OP [Mv 3 cF]) (.seq (OP [Lo 4 1,qm 5 0,Ia 6 1 4 5,Lo 7 6,qm 3 7]) .ret)
theorem zvL:zv Tryz.prog 166 8 [.tmp 3] c166:=fK Tryz.func166
theorem ztc (n:Nat) (S:Nat→Bool) (x:Int) (h0:0≤x) (hx:x<(n:Int)):zn Tryz.prog 166 [.sc (.int .i64 x),.yO [ur n S]] (.sc (.bool (S x.toNat))):=by
 refine za zvL zs (by simp[zb,Pure,zY]) ?_ (by simp[Pure])
 unfold ur
 refine sR ?_
 refine sL (yh x.toNat zo zo) ?_
 exact .refl _
def c167:PC:=.seq (OP [Mv 3 cF]) (.seq (OP [qm 4 0,Lo 5 1,Bi 6 .eql 4 5,qm 3 6]) .ret)
theorem zxE:zv Tryz.prog 167 7 [.tmp 3] c167:=fK Tryz.func167
theorem zxi (e:Nat) (x:Int) (h0:0≤x):zn Tryz.prog 167 [.sc (.int .i64 x),.yO [.sc (.int .i64 e)]] (.sc (.bool (toE e x.toNat))):=by
 refine za zxE zs (by simp[zb,Pure]) ?_ (by simp[Pure])
 refine sR ?_
 exact zR (by unfold toE;rw[Int.toNat_of_nonneg h0])
def c98:PC:=.seq (OP [Mv 4 cF]) (.seq (.ops [Lo 5 1,qm 6 0,qd 7 (.zM 1 5 6) 3,qd 8 (.zg 7) 7,Lo 9 2,qd 10 (.bin .eql 8 9) 31,qw 4 10 63] true) .ret)
theorem zBA:zv Tryz.prog 98 11 [.tmp 4] c98:=fK Tryz.func98
theorem zqb (g:List (List Int)) (p:Int) (x:Int) (h0:0≤x) (hx:x<(g.length:Int)):zn Tryz.prog 98 [.sc (.int .i64 x),.yO [zB (vM g)],.yO [.sc (.int .i64 p)]] (.sc (.bool (zE g x.toNat==p))):=by
 refine za zBA zs (by simp[zb,Pure,zj]) ?_ (by simp[Pure])
 unfold vM zB
 refine sR ?_
 refine sL (yp x.toNat zo zo) ?_
 exact .refl _
theorem zlK {g:List (List Int)} {o:List Int} {e k:Nat} (h:k<(g.getD (yV o).toNat []).length):V8 g o e (k+1)=if (zE g ((g.getD (yV o).toNat []).getD k 0).toNat==zE g e)=true then V8 g o e k++[(g.getD (yV o).toNat []).getD k 0] else V8 g o e k:=by
 unfold V8
 rw[List.take_add_one,List.getElem?_eq_getElem h,List.filter_append,List.getD_eq_getElem?_getD (l:=g.getD (yV o).toNat []),List.getElem?_eq_getElem h]
 simp only[Option.toList_some,Option.getD_some,List.filter_cons,List.filter_nil]
 split<;>simp
theorem zpo (g:List (List Int)) (o:List Int) (e k:Nat):(V8 g o e k).length≤k:=Nat.le_trans (List.length_filter_le _ _) (by simp;omega)
def zCJ:PC:=.seq (OP [Bi 27 .lss 26 25]) (.seq (.cond 27 .skip (.exit 0)) (.seq (.block 1 (.seq (OP [Ia 28 1 24 26,Lo 29 28,q 12 (.alloc [(.slice none 0 0)]),So 1 12 29]) (.seq (.seq (OP [qm 30 10,q 31 (.uG (.func 165) [] [12]),Ca 32 52 [30,31]]) (.cond 32 (.exit 1) .skip)) (.seq (OP [qm 33 0,qm 34 10,qm 35 10,Ln 36 35,Bi 37 .sub 36 (cI 1),q 38 (.slc 1 34 (some 37) none none),q 39 (.uG (.func 166) [] [12]),qm 40 2,qm 41 9,Ca 42 97 [33,38,39,40,41],qm 13 42]) (OP [qm 43 10,qm 44 13,q 45 (.slc 1 44 (some (cI 1)) none none),Ap 46 1 8 43 45,qm 10 46]))))) (OP [Bi 47 .add 26 (cI 1),qm 26 47])))
def zDa:PC:=.seq (OP [Bi 62 .lss 61 60]) (.seq (.cond 62 .skip (.exit 2)) (.seq (.block 3 (.seq (OP [Ia 63 1 59 61,Lo 64 63,qm 16 64]) (.seq (OP [qm 65 2,qm 66 16,Ia 67 1 65 66,Lo 68 67,qm 69 9,Bi 70 .eql 68 69]) (.cond 70 (OP [qm 71 14,qm 72 16,Bs 73 1 1 [72],Ap 74 1 8 71 73,qm 14 74]) .skip)))) (OP [Bi 75 .add 61 (cI 1),qm 61 75])))
def c99:PC:=.seq (OP [Bx 5 1,Mv 8 cN]) (.seq (OP [qm 18 2,Lo 19 5,Ia 20 1 18 19,Lo 21 20,qm 9 21]) (.seq (OP [Lo 22 5,Bs 23 1 1 [22],qm 10 23]) (.seq (.seq (OP [qm 24 3,Ln 25 24,Mv 26 (cI 0)]) (.block 0 (.loop zCJ))) (.seq (OP [Mv 14 cN]) (.seq (.seq (.ops [qm 48 0,qd 49 (.zq 48) 1,qd 50 (.zy 11 49) 3,qd 51 (.zg 50) 7,qm 52 10,qm 53 10,qd 54 (.len 53) 32,qd 55 (.bin .sub 54 (cI 1)) 96,qd 56 (.zM 1 52 55) 240,qd 57 (.zg 56) 496,qd 58 (.zM 1 51 57) 1023,qd 59 (.zg 58) 2047,qd 60 (.len 59) 4095,Mv 61 (cI 0)] true) (.block 2 (.loop zDa))) (.seq (OP [qm 76 0,qm 77 14,q 78 (.uG (.func 167) [] [5]),qm 79 2,qm 80 9,Ca 81 97 [76,77,78,79,80],qm 17 81]) (.seq (OP [qm 82 10,qm 83 17,qm 84 17,Ln 85 84,Bi 86 .sub 85 (cI 1),q 87 (.slc 1 83 none (some 86) none),Ap 88 1 8 82 87,qm 8 88]) .ret)))))))
theorem zza:zv Tryz.prog 99 89 [.tmp 8] c99:=fK Tryz.func99
theorem zsu (W:zA) (A:yl) (L:List Pr) (g:List (List Int)) (fr:List Int) (hn:g.length≤2000000) (hF:uZ g) (F:List (Nat→Bool)) (hFl:F.length≤1000) (e:Nat) (H:RH g F e) :
  zn Tryz.prog 99 [.yO (Zh W A L g fr),.sc (.int .i64 e),zB (vM g),zmz g.length F] (zB (Uk g F e)):=by
 have hp:=Zm W A L g fr
 have he:=H.he
 have hpe:=qQ he
 refine za zza zs (by simp[zb,Pure,zj,hp,zbS]) ?_ (zj _)
 obtain⟨sd,hsd⟩:∃sd:D,sd=.yO (Zh W A L g fr):=⟨_,rfl⟩
 have hsl:zb [sd]:=by subst hsd;exact⟨Y0 hp,trivial⟩
 have hsr:∀ρ,D.yG ρ sd=sd:=λρ=>yM _ hsl.1
 rw[←hsd]
 unfold zmz
 refine sR ?_
 refine sL (yp e zo he) ?_
 rw[List.length_map]
 refine ye [0,2,5,9,24,25] (λ((k,z7):Nat × Nat)=>[(10,.own 1 z7 0 (vY g F e k).length),(26,.sc (.int .i64 k))]) (λ(k,z7)=>[.row true [.sc (.int .i64 e)],.vec true z7 1 (zI (vY g F e k))]) (λ(k,z7)=>k≤F.length) (λ(k,z7)=>F.length-k) (0,0) ?_
 refine sW ?_
 refine⟨zo,by exact sK,rfl,?_⟩
 rintro⟨k,z7⟩ hk
 obtain⟨hO,hOl⟩:=zdQ H k hk
 have hOl2:(vY g F e k).length≤4000000000:=by
  have:=Nat.mul_le_mul (show k≤1000 by omega) hn
  omega
 have hOn:=List.length_pos_iff.2 hO.ne
 have eR:vY g F e (k+1)=if (vY g F e k).any (λx=>(F.getD k noT) x.toNat)=true then vY g F e k else vY g F e k++(XK g (F.getD k noT) (Wg g (zE g e)) [yV (vY g F e k)]).drop 1:=rfl
 refine sW ?_
 refine sR ?_
 refine sS (λq0=>?_) λq0=>?_
 ·have q0:k<F.length:=sO
  have hS:F.getD k noT∈F:=by rw[List.getD_eq_getElem?_getD,List.getElem?_eq_getElem q0];simp
  refine⟨zo,_,zn8 (n:=g.length) (F:=F) (k:=k) zo q0,?_⟩
  obtain⟨_,hw2,hw3⟩:=hO.way H hS
  generalize F.getD k noT=S at *
  refine sW ?_
  generalize hoe:vY g F e k=o at *
  have hC:=yo (λn=>.sc (.int .i64 n)) (λa=>by simp[Pure]) o zo (λx=>S x.toNat) 165 [.yO [ur g.length S]] (by simp[zb,Pure,zY]) λa ha=>zrJ g.length S a (z1 hO.rng ha).1 (z1 hO.rng ha).2
  rw[show(o.map λn=>[D.sc (.int .i64 n)])=List.drop 0 (List.take o.length (zI o)) from(zw (by simp[zI])).symm] at hC
  refine sN hC ?_
  cases r:o.any (λx=>S x.toNat)
  ·rw[r,if_neg zc] at eR
   refine sW ?_
   refine sI ?_
   refine⟨zo,zo,zo,?_⟩
   refine sW ?_
   have hWy:=zu9 W A L g fr hn H.xR hF S 166 (λx h1 h2=>ztc g.length S x h1 h2) o z7 hOn zo [yV o] rfl (wA λx hx=>by rw[List.mem_singleton] at hx;subst hx;exact hO.lt) (zE g e)
   rw[←hsd] at hWy
   generalize XK g S (Wg g (zE g e)) [yV o]=l at *
   have hln:=List.length_pos_iff.2 hw2
   rw[show 0+(((o.length-0:Nat):Int)-1).toNat=o.length-1 by omega,show 0+(o.length-0)=o.length by omega]
   refine sA (vI hWy [.row true [.sc (.int .i64 e)]] [] rfl (by simp[zl,zt,zz _ hsl.1]) ⟨zi _ (zfb _),zr _ ⟨zY _ _,trivial⟩,trivial⟩ (by simp only[yE,D.yG,hsr,vN];rfl) (vN _) (by simp only[List.map_cons,List.map_nil,zf.yG,qW,yE,yM _ (zY _ _)];rfl) (by simp only[List.map_cons,List.map_nil,zf.yG,qW,yE,yM _ (zY _ _)];rfl)) ?_
   rw[List.length_map]
   refine⟨zo,zo,zo,?_⟩
   refine sW ?_
   refine sJ ?_
   refine sI ?_
   refine⟨(k+1,z7+1),zo,zd,?_⟩
   dsimp only
   rw[eR]
   have hle:(o++l.drop 1).length=o.length+(l.length-1):=by rw[List.length_append,List.length_drop]
   rw[hle,show(List.drop (Int.toNat 1) (List.take l.length (List.map (λn=>[D.sc (Value.int .i64 n)]) l))).length=l.length-1 by simp]
   (refine zm 2 zs rfl ?_ ?_<;>(repeat' (first|exact trivial|exact rfl|exact ym.refl _|exact zX.refl _|exact zN.refl _|refine And.intro ?_ ?_|(simp[zt,zl,zF,-List.map_take,-List.map_drop];done))))
   all_goals first|exact zz _ hsl.1|exact zi _ (zC _ (λS=>by simp[zb,zY]) F)|exact zp (by have:=zgM o l 1 l.length;rw[List.take_length] at this;exact this)|skip
  ·rw[r,if_pos rfl] at eR
   refine sW ?_
   refine sI ?_
   refine⟨(k+1,z7),zo,zd,?_⟩
   dsimp only
   rw[eR]
   (refine zm 2 zs rfl ?_ ?_<;>(repeat' (first|exact trivial|exact rfl|exact ym.refl _|exact zX.refl _|exact zN.refl _|refine And.intro ?_ ?_|(simp[zt,zl,zF,-List.map_take,-List.map_drop];done))))
   all_goals first|exact zz _ hsl.1|exact zi _ (zC _ (λS=>by simp[zb,zY]) F)|skip
 ·have q0:k=F.length:=by have:¬k<F.length:=sO
                         omega
  subst q0
  have eE:Uk g F e=vY g F e F.length++(UK g (vY g F e F.length) e).take ((UK g (vY g F e F.length) e).length-1):=rfl
  subst hsd
  unfold Zh yd
  refine sW ?_
  obtain⟨ht1,hh1,hh2,hh3⟩:=hO.home H
  have hlt:=hO.lt
  refine sI ?_
  refine sB ?_
  generalize hoe:vY g F e F.length=o at *
  refine⟨_,yc (l:=o) (k:=o.length-1) zo zo,?_⟩
  refine sW ?_
  rw[show o.getD (o.length-1) 0=yV o from rfl]
  refine sL (xX (g:=g) (k:=(yV o).toNat) zo zo) ?_
  rw[List.length_map]
  have hrl:=hF.at (yV o).toNat
  have eT:=λk hk=>zlK (g:=g) (o:=o) (e:=e) (k:=k) hk
  have hTl:=λk=>zpo g o e k
  have hrow:=λy hy=>z1 (xa H.xR (yV o).toNat) (x:=y) hy
  have hhE:UK g o e=XK g (toE e) (Wg g (zE g e)) (V8 g o e (g.getD (yV o).toNat []).length):=rfl
  have hT0:V8 g o e 0=[]:=by simp[V8]
  generalize g.getD (yV o).toNat []=row at *
  generalize V8 g o e=T at *
  refine zH (xw 14 1 zs rfl) ?_
  refine ye [0,2,5,9,10,59,60] (λ((k,c):Nat × Nat)=>[(14,.own 2 c 0 c),(61,.sc (.int .i64 k))]) (λ(k,c)=>[.row true [.sc (.int .i64 e)],.vec true z7 1 (zI o),.vec true c 1 (zI (T k))]) (λ(k,c)=>k≤row.length∧(T k).length=c) (λ(k,c)=>row.length-k) (0,0) ?_
  refine sW ?_
  refine⟨⟨zo,by rw[hT0];rfl⟩,by exact sK,by dsimp only;rw[hT0,←hoe];rfl,?_⟩
  rintro⟨k,c⟩ ⟨hk,hc⟩
  have hTk:=hTl k
  refine sW ?_
  refine sR ?_
  refine sS (λq1=>?_) λq1=>?_
  ·have q1:k<row.length:=sO
   have hy:=hrow _ (yz q1)
   have eS:=eT k q1
   refine sL (yc (l:=row) (k:=k) zo q1) ?_
   generalize row.getD k 0=y at *
   refine sL (yp y.toNat zo zo) ?_
   refine sS (λr2=>?_) λr2=>?_
   ·have r2:(zE g y.toNat==zE g e)=true:=r2
    rw[r2,if_pos rfl] at eS
    refine sJ ?_
    refine sI ?_
    refine⟨(k+1,c+1),⟨zo,by rw[eS,List.length_append,hc];rfl⟩,zd,?_⟩
    dsimp only
    rw[eS]
    (refine zm 3 zs rfl ?_ ?_<;>(repeat' (first|exact trivial|exact rfl|exact ym.refl _|exact zX.refl _|exact zN.refl _|refine And.intro ?_ ?_|(simp[zt,zl,zF,-List.map_take,-List.map_drop];done))))
    all_goals first|exact zr _ hp|exact zp (by rw[←hc,x5])|skip
   ·have r2:(zE g y.toNat==zE g e)=false:=r2
    rw[r2,if_neg zc] at eS
    refine sI ?_
    refine⟨(k+1,c),⟨zo,by rw[eS];exact hc⟩,zd,zD (by exact sK) ?_⟩
    dsimp only
    rw[eS]
  ·have q1:k=row.length:=by have:¬k<row.length:=sO
                            omega
   subst q1
   have hWy:=ztt W A L g fr hn H.xR hF (toE e) 167 [.yO [.sc (.int .i64 e)]] (by simp[zb,Pure]) (λx h1 _=>zxi e x h1) (T row.length) zo ht1 (zE g e)
   rw[←hhE] at hWy
   generalize UK g o e=l at *
   have hln:=List.length_pos_iff.2 hh1
   refine sE (Wx (args0:=[.yO (Zh W A L g fr),.own 1 c 0 c,.fn (.func 167) [] [.loc 0 0],zB (vM g),.sc (.int .i64 (zE g e))]) (H0:=[.row true [.sc (.int .i64 e)],.vec true c 1 (zI (T row.length))])
    (.cons _ _ _ _ (.refl _) (.cons _ _ _ _ (.own _ _ _ _ _ _ _ _ rfl (by rw[zw (by simp[zI];omega)];exact z8 _)) (.cons _ _ _ _ (.fn _ _ _ _ _ .nil (.cons _ _ _ _ (.loc _ _ _ _ _ rfl (xy _)) .nil)) (.cons _ _ _ _ (.refl _) (.cons _ _ _ _ (.refl _) .nil))))) hWy (zj _) [0,2] rfl zc (by simp[zl,zt,zr _ hp]) ⟨zr _ (by simp[zb,Pure]),zi _ (zfb _),trivial⟩ (by simp only[yE,D.yG,vN,xe _ hp];rfl) (λi o ho=>by
     rcases i with _|_|i
     ·simp at ho;subst ho;rfl
     ·simp at ho;subst ho;simp only[zf.yG,qW];rfl
     ·simp at ho)) ?_
   rw[List.length_map]
   refine sI ?_
   refine⟨zo,zo,zs,?_⟩
   refine sW ?_
   refine sJ ?_
   rw[eE]
   refine .own _ _ _ _ _ _ _ _ rfl ?_
   rw[show(((l.length:Nat):Int)-1).toNat=l.length-1 by omega]
   have hh:=zgM o l 0 (l.length-1)
   rw[List.drop_zero] at hh
   rw[show List.drop 0 (List.take o.length (zI o))++List.drop 0 (List.take (l.length-1) (List.map (λn=>[D.sc (Value.int .i64 n)]) l))=zI (o++l.take (l.length-1)) from hh]
   rw[zw (by simp[zI])]
   exact z8 _
end
section
open Go.RowKit
def nxE (W:zA) (A:yl) (p:Pr):List Pr:=wa W A (W.next.getD p.1.toNat []) (A.next.getD p.2.toNat [])
structure UD (W:zA) (A:yl):Prop where
 two:zms W A
 sw:W.start.length≤1048576
 sa:A.start.length≤1048576
 rw_:∀l∈W.next,l.length≤1048576
 ra:∀l∈A.next,l.length≤1048576
theorem UD.next {W:zA} {A:yl} (h:UD W A) (p:Pr):(∀q∈nxE W A p,uu W A q)∧(nxE W A p).length≤1099511627776:=by
 obtain⟨_,_,_,_,w5,_⟩:=qg W h.two.cw
 obtain⟨_,_,_,_,_,a6,_⟩:=YQ A h.two.ca
 refine⟨zcw (xa w5 _) (xa a6 _),?_⟩
 have h1:=zfc W A (W.next.getD p.1.toNat []) (A.next.getD p.2.toNat [])
 have h2:=Nat.mul_le_mul (Qv h.rw_ p.1.toNat) (Qv h.ra p.2.toNat)
 unfold nxE
 omega
theorem UD.begin {W:zA} {A:yl} (h:UD W A):(∀q∈wa W A W.start A.start,uu W A q)∧(wa W A W.start A.start).length≤1099511627776:=by
 obtain⟨_,_,_,w4,_,_⟩:=qg W h.two.cw
 obtain⟨_,_,_,_,a5,_,_⟩:=YQ A h.two.ca
 refine⟨zcw w4 a5,?_⟩
 have h1:=zfc W A W.start A.start
 have h2:=Nat.mul_le_mul h.sw h.sa
 omega
theorem Qs {Q:Pr→Prop} {ps L:List Pr} {o:List Int} (h:∀p∈L,Q p) (k:∀p∈ps,Q p):∀p∈(uP ps L o).1,Q p:=λp hp=>((Vr ps L o p).1 hp).elim (h p) (k p)
theorem znf {W:zA} {A:yl} (h:UD W A) {start:List Pr}:∀(f n:Nat) (L:List Pr) (T:List (List Int)),zfs start (nxE W A) n L T→(∀p∈L,uu W A p)→W.next.length*A.next.length+2≤f+n →
  zcO start (nxE W A) (zcK (nxE W A) f n L T).1 (zcK (nxE W A) f n L T).2∧∀p∈(zcK (nxE W A) f n L T).1,uu W A p
 | 0,n,L,T,hI,hg,hf=>by have:=hI.le;have:=uu.le h.two hI.nd hg;omega
 | f+1,n,L,T,hI,hg,hf=>by
  rw[zcK]
  split
  ·rename_i q
   exact znf h f (n+1) _ _ (hI.next q) (Qs hg (h.next _).1) zo
  ·rename_i q
   exact⟨hI.fin q,hg⟩
def xn (W:zA) (A:yl):List Pr × List Int:=uP (wa W A W.start A.start) [] []
def xj (W:zA) (A:yl):List Pr × List (List Int):=zcK (nxE W A) (W.next.length*A.next.length+2) 0 (xn W A).1 []
theorem Wr {W:zA} {A:yl} (h:UD W A):zcO (wa W A W.start A.start) (nxE W A) (xj W A).1 (xj W A).2∧∀p∈(xj W A).1,uu W A p :=
 znf h _ 0 _ [] (zfs.begin _ _) (Qs zs h.begin.1) zo
theorem zkf (nx:Pr→List Pr):∀(f n:Nat) (L:List Pr) (T:List (List Int)),∃X,(zcK nx f n L T).1=L++X
 | 0,n,L,T=>⟨[],by simp[zcK]⟩
 | f+1,n,L,T=>by
  rw[zcK]
  split
  ·obtain⟨X,hX⟩:=WS (nx (L.getD n (0,0))) L []
   obtain⟨Y,hY⟩:=zkf nx f (n+1) (uP (nx (L.getD n (0,0))) L []).1 (T++[(uP (nx (L.getD n (0,0))) L []).2])
   exact⟨X++Y,by rw[hY,hX,List.append_assoc]⟩
  ·exact⟨[],zs⟩
theorem zgZ {W:zA} {A:yl}:(xn W A).2=(wa W A W.start A.start).map λp=>(vt (xj W A).1 p:Int):=by
 obtain⟨X,hX⟩:=zkf (nxE W A) (W.next.length*A.next.length+2) 0 (xn W A).1 []
 have hX':(xj W A).1=(xn W A).1++X:=hX
 rw[hX']
 unfold xn
 rw[zej,List.nil_append]
 refine List.map_congr_left λp hp=>?_
 rw[zhZ ((Vr _ [] [] p).2 (.inr hp))]
theorem zcO.fits {W:zA} {A:yl} (h:UD W A) {start L:List Pr} {G:List (List Int)} (hN:zcO start (nxE W A) L G) (hg:∀p∈L,uu W A p):G.length≤1228800∧uZ G:=by
 have h1:=uu.le h.two hN.nd hg
 have h2:=zmw h.two
 have h3:=hN.len
 refine⟨zo,zo,λl hl=>?_⟩
 obtain⟨i,hi,rfl⟩:=List.mem_iff_getElem.1 hl
 have:=hN.row i zo
 rw[List.getD_eq_getElem?_getD,List.getElem?_eq_getElem hi] at this
 simp only[Option.getD_some] at this
 rw[this,List.length_map]
 have:=(h.next (L.getD i (0,0))).2
 omega
theorem zkl {W:zA} {A:yl} (h:UD W A):xJ (xn W A).2 (xj W A).2.length=true∧(xn W A).2.length≤1099511627776:=by
 obtain⟨hN,hg⟩:=Wr h
 rw[zgZ]
 refine⟨wA λx hx=>?_,by rw[List.length_map];exact h.begin.2⟩
 obtain⟨p,hp,rfl⟩:=List.mem_map.1 hx
 have:=UG (hN.st p hp)
 have:=hN.len
 omega
theorem ztq {g:List (List Int)} {ok:Nat→Bool} (h:∀v,ok v=true) {u v:Nat} (k:To g u v):To (zj6 g ok) u v:=by
 unfold To at k
 induction k with
 | base m=>exact .base m
 | step k hx ih=>exact .step ih (zeu.2 ⟨hx,h _⟩)
theorem zpX {g:List (List Int)} (xR:∀l∈g,xJ l g.length=true) {F:List (Nat→Bool)} {i:Nat} (h:Xj g F i=true):(∃v,v<g.length∧zE g v=(i:Int))∧∀e,e<g.length→zE g e=(i:Int)→RH g F e:=by
 unfold Xj at h
 rw[Bool.and_eq_true,List.all_eq_true] at h
 obtain⟨h1,h2⟩:=h
 unfold okT at h1
 obtain⟨v,hv,h3⟩:=List.any_eq_true.1 h1
 rw[Bool.and_eq_true,beq_iff_eq] at h3
 have hv:=List.mem_range.1 hv
 refine⟨⟨v,hv,h3.1⟩,λe he hp=>⟨he,xR,?_,λS hS=>?_⟩⟩
 ·have hn:=(Ur (λv x hx=>(ze1 xR v x hx).2) hv).1 h3.2
  obtain⟨m1,m2⟩:=xu.1 ((parts_eq hv he).1 (h3.1.trans hp.symm))
  exact UZ hn m1 m2
 ·have:=h2 S hS
  unfold Jq at this
  obtain⟨d,hd,h4⟩:=List.any_eq_true.1 this
  rw[Bool.and_eq_true,beq_iff_eq] at h4
  exact⟨d,List.mem_range.1 hd,h4.2,h4.1.trans hp.symm⟩
noncomputable def pE (g:List (List Int)) (F:List (Nat→Bool)):Int:=wQ (λb=>true==b) ((List.range g.length).map (Xj g F))
noncomputable def x7 (g:List (List Int)) (F:List (Nat→Bool)) (fr:List Int):List Int:=XK g (λk=>zE g k==pE g F) (Wg g (-1)) fr
def qS (L:List Pr) (l:List Int):List Int:=l.map λn=>(L.getD n.toNat (0,0)).1
noncomputable def U6 (W:zA) (A:yl) (L:List Pr) (g:List (List Int)) (fr:List Int):D :=
 if pE g (vk W A L)<0 then .yP [.agg [zB [],zB []],.sc (.bool false),.sc (.int .i64 0)] else
  .yP [.agg [zB (qS L ((x7 g (vk W A L) fr).take ((x7 g (vk W A L) fr).length-1))),zB (qS L (Uk g (vk W A L) (yV (x7 g (vk W A L) fr)).toNat))],.sc (.bool true),.sc (.int .i64 0)]
theorem zuR {g:List (List Int)} {F:List (Nat→Bool)} (h:¬pE g F<0):∃i:Nat,pE g F=(i:Int)∧Xj g F i=true:=by
 obtain⟨k,h1,hk,h2,_⟩:=za5 (show 0≤wQ (λb=>true==b) ((List.range g.length).map (Xj g F)) from by unfold pE at h;omega)
 refine⟨k,h1,?_⟩
 simpa using h2
theorem zBK {g:List (List Int)} (xR:∀l∈g,xJ l g.length=true) {F:List (Nat→Bool)}:(¬pE g F<0)↔∃v,v<g.length∧Fw g F v:=by
 rw[←zoT (λv x hx=>(ze1 xR v x hx).2) F]
 have h1:=uR (λb=>true==b) ((List.range g.length).map (Xj g F))
 have h2:(¬pE g F<0)↔decide (pE g F≥0)=true:=by rw[decide_eq_true_iff];omega
 rw[h2,pE,h1,List.any_eq_true]
 constructor
 ·rintro⟨b,hb,hb2⟩
  obtain⟨i,hi,rfl⟩:=List.mem_map.1 hb
  exact⟨i,List.mem_range.1 hi,by simpa using hb2⟩
 ·rintro⟨i,hi,h⟩
  exact⟨_,List.mem_map.2 ⟨i,List.mem_range.2 hi,rfl⟩,by simpa using h⟩
theorem zfg {W:zA} {A:yl} (h:UD W A) {F:List (Nat→Bool)} (hp:¬pE (xj W A).2 F<0) :
  xJ (x7 (xj W A).2 F (xn W A).2) (xj W A).2.length=true∧(x7 (xj W A).2 F (xn W A).2).length≤(xj W A).2.length∧x7 (xj W A).2 F (xn W A).2≠[]∧RH (xj W A).2 F (yV (x7 (xj W A).2 F (xn W A).2)).toNat:=by
 obtain⟨hN,hg⟩:=Wr h
 obtain⟨i,e1,hG⟩:=zuR hp
 obtain⟨⟨v,hv,hpv⟩,hR⟩:=zpX hN.inG hG
 obtain⟨b1,_⟩:=zkl h
 obtain⟨w1,w2,w3⟩:=zh8 hN.inG (λk=>zE (xj W A).2 k==pE (xj W A).2 F) (Wg (xj W A).2 (-1)) b1
 obtain⟨q,hq,hT⟩:=hN.come v (by have:=hN.len;omega)
 obtain⟨init,last,s1,s2,_⟩:=w3 ⟨(vt (xj W A).1 q:Int),by rw[zgZ];exact List.mem_map.2 ⟨q,hq,rfl⟩,v,by
  rw[Int.toNat_natCast]
  exact ztq (λv=>by unfold Wg;rw[decide_eq_true (by omega:(-1:Int)<0)];rfl) hT,by rw[hpv,e1];simp⟩
 refine⟨w1,w2,by unfold x7;rw[s1];simp,?_⟩
 have hl:yV (x7 (xj W A).2 F (xn W A).2)=last:=by unfold x7;rw[s1,zbZ]
 have hr:=z1 w1 (x:=last) (by rw[s1];simp)
 rw[hl]
 exact hR last.toNat zo (by rw[beq_iff_eq] at s2;rw[s2,e1])
def zhg (d:Nat) (W:zA) (A:yl) (n t:Nat) (S:D):List D:=[zB W.start,yd W.next,uV W.label,yd W.fair,zB A.start,yd A.next,uV A.Xo,uV A.WR,yd A.fair,.mp d,.own (d+2) n 0 n,.own (d+3) t 0 t,S]
noncomputable def zeD (d:Nat) (W:zA) (A:yl) (L:List Pr) (S:D) (T:List (List Int)):List zf :=
 [.wg true (uQ Tryz.prog 185 (fP L)),.row true (zhg d W A L.length T.length S),.vec true L.length 2 (Vm L),.vec true T.length 1 (vV T)]
theorem zg7 {ρ:Nat→Nat} (l:List Int):D.yG ρ (uV l)=uV l:=yM _ (uC l)
theorem QT {W:zA} {A:yl} {L:List Pr} {S:D} (hS:Pure S) {T:List (List Int)}:(vD W A L S T).map (zf.yG λi=>3+i)=zeD 3 W A L S T:=by
 simp only[vD,zeD,zhC,zhg,List.map_cons,List.map_nil,zf.yG,yE,D.yG,yA _ (JZ L),yA _ (uT T),yM _ hS,vN,zhb,zg7]
def zDx:PC:=.seq (.seq (OP [qm 42 10,qm 43 9,q 44 (.zq 43),Fa 45 10 44,Lo 46 45,Ln 47 46,Bi 48 .lss 42 47]) (.cond 48 .skip (.exit 0))) (.seq (.block 1 (.ops [qm 51 9,qm 52 9,qd 53 (.zq 52) 2,qd 54 (.zy 11 53) 6,qd 55 (.zg 54) 14,qm 56 9,Fa 57 1 2,qd 58 (.zg 57) 64,qm 59 9,qd 60 (.zq 59) 256,qd 61 (.zy 10 60) 768,qd 62 (.zg 61) 1792,qm 63 10,qd 64 (.zM 2 62 63) 7936,qd 65 (.zy 0 64) 16128,qd 66 (.zg 65) 32512,qd 67 (.zM 1 58 66) 65472,qd 68 (.zg 67) 131008,Fa 69 1 3,qd 70 (.zg 69) 262144,qm 71 9,qd 72 (.zq 71) 1048576,qd 73 (.zy 10 72) 3145728,qd 74 (.zg 73) 7340032,qm 75 10,qd 76 (.zM 2 74 75) 32505856,qd 77 (.zy 1 76) 66060288,qd 78 (.zg 77) 133169152,qd 79 (.zM 1 70 78) 268173312,qd 80 (.zg 79) 536608768,qd 81 (.call 93 [56,68,80]) 1073741792,qd 82 (.wz 1 1 [81]) 2147483616,qd 83 (.append 1 24 55 82) 4294967294,qd 84 (.zq 51) 8589934591,qd 85 (.zy 11 84) 17179869183,qk (.store 1 85 83) 34359738367] true)) (OP [qm 49 10,Bi 50 .add 49 (cI 1),qm 10 50]))
def c47:PC:=.seq (OP [Bx 2 0,Bx 3 1,q 4 (.alloc [(.slice none 0 0),(.slice none 0 0)]),Mv 5 cF,Mv 6 (cI 0)]) (.seq (.seq (OP [LA 16 4 2,Ca 17 45 [16],qm 7 17]) (.seq (OP [qm 18 7,Bi 19 .neq 18 (cI 0)]) (.cond 19 (.seq (OP [q 20 (.build [(.slice none 0 0),(.slice none 0 0)] []),qm 21 7,So 2 4 20,Mv 5 cF,qm 6 21]) .ret) .skip))) (.seq (.seq (OP [LA 22 5 3,Ca 23 92 [22],qm 8 23]) (.seq (OP [qm 24 8,Bi 25 .neq 24 (cI 0)]) (.cond 25 (.seq (OP [q 26 (.build [(.slice none 0 0),(.slice none 0 0)] []),qm 27 8,So 2 4 26,Mv 5 cF,qm 6 27]) .ret) .skip))) (.seq (OP [LA 28 4 2,LA 29 5 3,q 30 (.zhk 185),q 31 (.build [(.slice none 0 0),(.slice none 0 0),(.slice none 0 0),(.slice none 0 0),(.slice none 0 0),(.slice none 0 0),(.slice none 0 0),(.slice none 0 0),(.slice none 0 0),(.map none),(.slice none 0 0),(.slice none 0 0),(.slice none 0 0)] [(0,4,28),(4,5,29),(9,1,30)]),Bx 32 31,qm 9 32]) (.seq (.stop (OP [qm 33 9,qm 34 9,Fa 35 0 2,Lo 36 35,Fa 37 0 3,Lo 38 37,Ca 39 93 [34,36,38],q 40 (.zq 33),Fa 41 12 40,So 1 41 39])) (.seq (.seq (OP [Mv 10 (cI 0)]) (.block 0 (.loop zDx))) (.seq (.stop (OP [qm 86 9,q 87 (.zq 86),Fa 88 11 87,Lo 89 88,Ca 90 94 [89],q 11 (.alloc [(.slice none 0 0)]),So 1 11 90])) (.seq (OP [qm 91 9,Ca 92 95 [91],qm 12 92]) (.seq (OP [qm 93 9,Lo 94 11,qm 95 12,Ca 96 96 [93,94,95],q 13 (.alloc [(.int .i64 0)]),So 1 13 96]) (.seq (.seq (OP [Lo 97 13,Bi 98 .lss 97 (cI 0)]) (.cond 98 (.seq (OP [q 99 (.build [(.slice none 0 0),(.slice none 0 0)] []),So 2 4 99,Mv 5 cF,Mv 6 (cI 0)]) .ret) .skip)) (.seq (.ops [qm 100 9,qm 101 9,qd 102 (.zq 101) 2,qd 103 (.zy 12 102) 6,qd 104 (.zg 103) 14,q 105 (.uG (.func 98) [] [11,13]),Lo 106 11,qd 107 (.call 97 [100,104,105,106,(cI (-1))]) 127,qw 14 107 255] true) (.seq (.ops [qm 108 9,qm 109 14,qm 110 14,qd 111 (.len 110) 4,qd 112 (.bin .sub 111 (cI 1)) 12,qd 113 (.zM 1 109 112) 30,qd 114 (.zg 113) 62,Lo 115 11,qm 116 12,qd 117 (.call 99 [108,114,115,116]) 511,qw 15 117 1023] true) (.seq (OP [qm 118 9,qm 119 14,qm 120 14,Ln 121 120,Bi 122 .sub 121 (cI 1),q 123 (.slc 1 119 none (some 122) none),Ca 124 100 [118,123],qm 125 9,qm 126 15,Ca 127 100 [125,126],q 128 (.build [(.slice none 0 0),(.slice none 0 0)] [(0,1,124),(1,1,127)]),So 2 4 128,Mv 5 cT,Mv 6 (cI 0)]) .ret))))))))))))
theorem zzk:zv Tryz.prog 47 129 [.agg 4 2,.tmp 5,.tmp 6] c47:=fK Tryz.func47
theorem zxj {W:zA} {A:yl} (h:UD W A):zn Tryz.prog 47 [wb W,Ui A] (U6 W A (xj W A).1 (xj W A).2 (xn W A).2):=by
 obtain⟨w1,w2,w3,w4,w5,w6⟩:=qg W h.two.cw
 obtain⟨a1,a2,a3,a4,a5,a6,a7⟩:=YQ A h.two.ca
 have hN2:=zmw h.two
 have hCW:=zaJ W h.two.fw
 rw[h.two.cw] at hCW
 have hCA:=zsn A h.two.fa
 rw[h.two.ca] at hCA
 have hX:=λL hnd hLg S hS T=>zkN h.two W.start A.start h.sw h.sa w4 a5 L hnd hLg S hS T
 have hX2:=λ(p:Pr) L hnd hLg S hS T=>zkN h.two (W.next.getD p.1.toNat []) (A.next.getD p.2.toNat []) (Qv h.rw_ p.1.toNat) (Qv h.ra p.2.toNat) (xa w5 p.1.toNat) (xa a6 p.2.toNat) L hnd hLg S hS T
 have hpW:=ZJ W
 have hpA:=za7 A
 refine za zzk zs (by simp[zb,we,qX]) ?_ (by unfold U6;split<;>simp[Pure,zb,zj])
 have hfin:xj W A=zcK (nxE W A) (W.next.length*A.next.length+2) 0 (xn W A).1 []:=rfl
 unfold wb Ui at *
 unfold zA.cells yl.cells at *
 refine sR ?_
 refine sC hCW ?_
 refine sC hCA ?_
 refine zH (wZ (yZ 4 10 2 zs rfl rfl) (yZ 4 11 1 zs rfl rfl)) ?_
 refine sR ?_
 have hnil:Pure zdL:=trivial
 have hX0:=hX [] .nil zs zdL hnil []
 rw[show uP (wa W A W.start A.start) [] []=xn W A from rfl] at hX0
 have hN0:=zfs.begin (wa W A W.start A.start) (nxE W A)
 rw[show uP (wa W A W.start A.start) [] []=xn W A from rfl] at hN0
 have hG0:∀p∈(xn W A).1,uu W A p:=Qs zs h.begin.1
 have hRR:∀L G,xj W A=(L,G)→zcO (wa W A W.start A.start) (nxE W A) L G∧(∀p∈L,uu W A p)∧xJ (xn W A).2 G.length=true∧(xn W A).2.length≤1099511627776∧∀F,¬pE G F<0→xJ (x7 G F (xn W A).2) G.length=true∧(x7 G F (xn W A).2).length≤G.length∧x7 G F (xn W A).2≠[]∧RH G F (yV (x7 G F (xn W A).2)).toNat:=λL G e=>by
  have k1:=Wr h
  have k2:=zkl h
  have k3:=λF hp=>zfg h (F:=F) hp
  rw[e] at k1 k2 k3
  exact⟨k1.1,k1.2,k2.1,k2.2,k3⟩
 generalize xn W A=B at *
 obtain⟨L0,fr⟩:=B
 dsimp only at *
 have hSf:=zj fr
 refine sA (vI hX0 [.row true [zB W.start,yd W.next,uV W.label,yd W.fair],.row true [zB A.start,yd A.next,uV A.Xo,uV A.WR,yd A.fair],.row true [zdL,zdL]] [] rfl (by simp[vD,zl,zt]) (VY hnil (by simp[vD])) (by simp only[yE,D.yG,vN];rfl) (vN _) (congrArg (_++·) ((List.append_nil _).trans (QT hnil))) (congrArg (_++·) ((List.append_nil _).trans (QT hnil)))) ?_
 refine ye [2,3,4,9] (λ((n,M,T):Nat × List Pr × List (List Int))=>[(10,.sc (.int .i64 n))]) (λ(n,M,T)=>[.row true [zB W.start,yd W.next,uV W.label,yd W.fair],.row true [zB A.start,yd A.next,uV A.Xo,uV A.WR,yd A.fair],.row true [zdL,zdL]]++zeD 3 W A M (zB fr) T)
  (λ(n,M,T)=>zfs (wa W A W.start A.start) (nxE W A) n M T∧(∀p∈M,uu W A p)∧zcK (nxE W A) (W.next.length*A.next.length+2-n) n M T=xj W A) (λ(n,M,T)=>W.next.length*A.next.length+2-n) (0,L0,[]) ?_
 refine sW ?_
 refine⟨⟨hN0,hG0,hfin.symm⟩,by exact sK,rfl,?_⟩
 rintro⟨n,M,T⟩ ⟨hI,hMg,hF⟩
 have hMl:=uu.le h.two hI.nd hMg
 have hIl:=hI.le
 have hTl:=hI.len
 rw[show W.next.length*A.next.length+2-n=(W.next.length*A.next.length+1-n)+1 by omega,zcK] at hF
 unfold zeD zhg
 refine sW ?_
 refine sR ?_
 refine sS (λq0=>?_) λq0=>?_
 ·have q0:n<M.length:=sO
  rw[if_pos q0] at hF
  have hgp:=hMg _ (Qx q0)
  obtain⟨⟨g1,g2⟩,g3,g4⟩:=hgp
  have hNx:=hI.next q0
  have hnx:=h.next (M.getD n (0,0))
  have hC:=vI (hX2 (M.getD n (0,0)) M hI.nd hMg (zB fr) hSf T) [.row true [zB W.start,yd W.next,uV W.label,yd W.fair],.row true [zB A.start,yd A.next,uV A.Xo,uV A.WR,yd A.fair],.row true [zdL,zdL]] [] rfl (by simp[vD,zl,zt]) (VY hSf (by simp[vD])) (by simp only[yE,D.yG,vN];rfl) (vN _) (congrArg (_++·) ((List.append_nil _).trans (QT hSf))) (congrArg (_++·) ((List.append_nil _).trans (QT hSf)))
  rw[show wa W A (W.next.getD (M.getD n (0,0)).1.toNat []) (A.next.getD (M.getD n (0,0)).2.toNat [])=nxE W A (M.getD n (0,0)) from rfl] at hC
  refine sB ?_
  refine⟨_,za2 (l:=M) (k:=n) zo q0,?_⟩
  refine sW ?_
  refine sL (xX (g:=W.next) (k:=(M.getD n (0,0)).1.toNat) zo zo) ?_
  refine sB ?_
  refine⟨_,za2 (l:=M) (k:=n) zo q0,?_⟩
  refine sW ?_
  refine sL (xX (g:=A.next) (k:=(M.getD n (0,0)).2.toNat) zo zo) ?_
  unfold zeD zhg at hC
  have hgd:=Qs (o:=[]) hMg hnx.1
  generalize nxE W A (M.getD n (0,0))=ps at *
  generalize uP ps M []=Q at *
  obtain⟨M',o⟩:=Q
  dsimp only at *
  (refine .inr (.inr (.inr (.inl ⟨_,_,by simp[zl,zF,wJ,zf.under,zt],by simp[zl,zF,wJ,zf.under,zt],hC,?_⟩)));((conv=>whnf);repeat(refine⟨rfl,?_⟩;conv=>whnf)))
  refine sJ ?_
  refine sI ?_
  refine⟨(n+1,M',T++[o]),⟨hNx,hgd,by rw[show W.next.length*A.next.length+2-(n+1)=W.next.length*A.next.length+1-n by omega];exact hF⟩,zd,?_⟩
  dsimp only
  rw[show(T++[o]).length=T.length+1 by simp]
  (refine zm 7 zs rfl ?_ ?_<;>(repeat' (first|exact trivial|exact rfl|exact ym.refl _|exact zX.refl _|exact zN.refl _|refine And.intro ?_ ?_|(simp[zt,zl,zF,-List.map_take,-List.map_drop];done))))
  all_goals first|exact zr _ hpW|exact zr _ hpA|exact zp (zlc rfl)|(simp[zz _ (uC _)];done)|skip
 ·have q0:¬n<M.length:=sO
  rw[if_neg q0] at hF
  obtain⟨hNF,hg2,hfi,hfl,hst⟩:=hRR M T hF.symm
  obtain⟨hTn,hTF⟩:=hNF.fits h hg2
  have xR:=hNF.inG
  rw[←hF]
  have hTM:=hNF.len
  have hSe:=zv5 h.two M zo hg2 T fr
  rw[←hTM] at hSe
  have hFl:(vk W A M).length≤1000:=by unfold vk;rw[List.length_append,YX (Nat.le_refl _),YX (Nat.le_refl _)];omega
  have hfr:U6 W A M T fr=if pE T (vk W A M)<0 then .yP [.agg [zB [],zB []],.sc (.bool false),.sc (.int .i64 0)] else
    .yP [.agg [zB (qS M ((x7 T (vk W A M) fr).take ((x7 T (vk W A M) fr).length-1))),zB (qS M (Uk T (vk W A M) (yV (x7 T (vk W A M) fr)).toNat))],.sc (.bool true),.sc (.int .i64 0)]:=rfl
  have hps:=Zm W A M T fr
  generalize vk W A M=F at *
  have hGo:=zuF W A M T hTM fr zo xR hTF F hFl
  rw[show wQ (λb=>true==b) ((List.range T.length).map (Xj T F))=pE T F from rfl] at hGo
  have hst:=hst F
  refine zH (Yj (λi=>i==4||i==5||i==6) (env':=[(4,.loc 2 0),(9,.yO (Zh W A M T fr))]) (H':=[.row true [zB W.start,yd W.next,uV W.label,yd W.fair],.row true [zB A.start,yd A.next,uV A.Xo,uV A.WR,yd A.fair],.row true [zdL,zdL],.wg true (uQ Tryz.prog 185 (fP M)),.row false (zhg 3 W A M.length T.length (zB fr)),.vec false M.length 2 (Vm M),.vec false T.length 1 (vV T)])
   ⟨.refl _,.loc _ _ _ _ _ rfl rfl (.cons _ _ _ _ (.refl _) (.cons _ _ _ _ (.refl _) (.cons _ _ _ _ (.refl _) (.cons _ _ _ _ (.refl _) (.cons _ _ _ _ (.refl _) (.cons _ _ _ _ (.refl _) (.cons _ _ _ _ (.refl _) (.cons _ _ _ _ (.refl _) (.cons _ _ _ _ (.refl _) (.cons _ _ _ _ (.xP _) (.cons _ _ _ _ (.own _ _ _ _ _ _ _ _ rfl rfl (zp (zw zs))) (.cons _ _ _ _ (.own _ _ _ _ _ _ _ _ rfl rfl (zp (zw zs))) (.refl _))))))))))))),trivial⟩
   ⟨⟨.inl rfl,λh=>absurd h zc,.refl _⟩,⟨.inl rfl,λh=>absurd h zc,.refl _⟩,⟨.inl rfl,λh=>absurd h zc,.refl _⟩,⟨.inl rfl,λh=>absurd h zc,rfl⟩,⟨.inr ⟨rfl,rfl⟩,λ_=>rfl,.refl _⟩,⟨.inr ⟨rfl,rfl⟩,λ_=>rfl,rfl,rfl,.refl _⟩,⟨.inr ⟨rfl,rfl⟩,λ_=>rfl,rfl,rfl,.refl _⟩,trivial⟩) ?_
  have hSp:=zhr T zo xR hTF
  unfold Zh at hSe hGo
  unfold Zh zhg
  refine sR ?_
  refine sC hSp ?_
  refine sC hSe ?_
  refine sC hGo ?_
  rw[hfr]
  refine sS (λp0=>?_) λp0=>?_
  ·have p0:pE T F<0:=of_decide_eq_true p0
   rw[if_pos p0]
   exact .yP _ _ (.cons _ _ _ _ (.agg _ _ (.cons _ _ _ _ (.none _) (.cons _ _ _ _ (.none _) .nil))) (.cons _ _ _ _ (.refl _) (.cons _ _ _ _ (.refl _) .nil)))
  ·have p0:¬pE T F<0:=of_decide_eq_false p0
   rw[if_neg p0]
   obtain⟨s1,s2,s3,s4⟩:=hst p0
   have hsn:=List.length_pos_iff.2 s3
   have hlE:=z1 s1 (zbo s3)
   have hWy:=ztt W A M T fr zo xR hTF (λk=>zE T k==pE T F) 98 [.yO [zB (vM T)],.yO [.sc (.int .i64 (pE T F))]] (by simp[zb,Pure,zj]) (λx h1 h2=>zqb T (pE T F) x h1 h2) fr zo hfi (-1)
   rw[show XK T (λk=>zE T k==pE T F) (Wg T (-1)) fr=x7 T F fr from rfl] at hWy
   have hRd:=zsu W A M T fr zo hTF F hFl (yV (x7 T F fr)).toNat s4
   rw[show(((yV (x7 T F fr)).toNat:Nat):Int)=yV (x7 T F fr) by omega] at hRd
   obtain⟨r1,r2⟩:=zm0 s4
   have hS1:=zgh W A M T fr ((x7 T F fr).take ((x7 T F fr).length-1)) (by rw[List.length_take];omega) (by rw[←hTM];exact wA λx hx=>z1 s1 (List.mem_of_mem_take hx))
   have hrl:(Uk T F (yV (x7 T F fr)).toNat).length≤1000000000000:=by
    have:=Nat.mul_le_mul hFl hTn
    omega
   have hS2:=zgh W A M T fr (Uk T F (yV (x7 T F fr)).toNat) hrl (by rw[←hTM];exact r1)
   rw[show((x7 T F fr).take ((x7 T F fr).length-1)).map (λn=>(M.getD n.toNat (0,0)).1)=qS M ((x7 T F fr).take ((x7 T F fr).length-1)) from rfl] at hS1
   rw[show(Uk T F (yV (x7 T F fr)).toNat).map (λn=>(M.getD n.toNat (0,0)).1)=qS M (Uk T F (yV (x7 T F fr)).toNat) from rfl] at hS2
   generalize Uk T F (yV (x7 T F fr)).toNat=rnd at *
   generalize x7 T F fr=st at *
   generalize pE T F=p at *
   unfold Zh at hWy hRd hS1 hS2 hps
   refine sW ?_
   refine sE (Wx (args0:=[.yO [zB W.start,yd W.next,uV W.label,yd W.fair,zB A.start,yd A.next,uV A.Xo,uV A.WR,yd A.fair,.xP,Uq M,yd T,zB fr],zB fr,.fn (.func 98) [] [.loc 0 0,.loc 1 0],zB (vM T),.sc (.int .i64 (-1))]) (H0:=[.row true [zB (vM T)],.row true [.sc (.int .i64 p)]])
    (.cons _ _ _ _ (.refl _) (.cons _ _ _ _ (.refl _) (.cons _ _ _ _ (.fn _ _ _ _ _ .nil (.cons _ _ _ _ (.loc _ _ _ _ _ rfl (xy _)) (.cons _ _ _ _ (.loc _ _ _ _ _ rfl (xy _)) .nil))) (.cons _ _ _ _ (.refl _) (.cons _ _ _ _ (.refl _) .nil))))) hWy (zj _) [7,8] rfl zc ⟨zz _ (Y0 hps),zz _ (zj _),by simp[zl,zt],zz _ (zj _),trivial,trivial⟩ ⟨zr _ ⟨zj _,trivial⟩,zr _ ⟨trivial,trivial⟩,trivial⟩ (by simp only[yE,D.yG,vN,zhb,zg7,yM _ (UY _)];rfl) (λi o ho=>by
     rcases i with _|_|i
     ·simp at ho;subst ho;simp only[zf.yG,yE,vN];rfl
     ·simp at ho;subst ho;rfl
     ·simp at ho)) ?_
   rw[List.length_map]
   refine sI ?_
   refine sL (yc (l:=st) (k:=st.length-1) zo zo) ?_
   rw[show st.getD (st.length-1) 0=yV st from rfl,show D.yG (λi=>[7,8].getD i 0) (zB (vM T))=zB (vM T) from vN _]
   refine sC hRd ?_
   rw[List.length_map]
   refine sI ?_
   refine⟨zo,zo,zs,?_⟩
   refine sW ?_
   rw[show(D.xl 1 (List.drop 0 (List.take (((st.length:Nat):Int)-1).toNat (List.map (λn=>[D.sc (Value.int .i64 n)]) st))))=zB (st.take (st.length-1)) by
    rw[show(((st.length:Nat):Int)-1).toNat=st.length-1 by omega,List.drop_zero,←List.map_take];rfl]
   refine sC hS1 ?_
   refine sC hS2 ?_
   exact .refl _
end
end
section
open Go.RowKit
theorem Zs (k n:Int):Small (vE k n):=.mk _ (by simp[vE,Tree.width,Tree.kids]) λj hj=>by simp[vE,Tree.width,Tree.kids] at hj
theorem vW {k:Int} {a:Tree} (h:Small a):Small (x6 k a):=.mk _ (by simp[x6,Tree.width,Tree.kids]) λj hj=>by
 simp[x6,Tree.width,Tree.kids] at hj
 subst hj
 exact h
theorem Zy {k:Int} {a b:Tree} (h:Small a) (h':Small b):Small (u9 k a b):=.mk _ (by simp[u9,Tree.width,Tree.kids]) λj hj=>by
 simp[u9,Tree.width,Tree.kids] at hj
 match j with
 | 0=>exact h
 | 1=>exact h'
theorem XD (p:Prop) [Decidable p] {a b:Tree} (h:Small a) (k:Small b):Small (if p then a else b):=by split<;>assumption
def c190:PC:=.seq (OP [Bx 4 1,Bx 5 2,q 6 (.alloc [(.int .i64 0),(.int .i64 0),(.slice none 0 0)])]) (.seq (OP [qm 7 0,LA 8 3 4,LA 9 3 5,Bs 10 3 2 [8,9],q 11 (.build [(.int .i64 0),(.int .i64 0),(.slice none 0 0)] [(0,1,7),(2,1,10)]),So 3 6 11]) .ret)
theorem zwG:zv Tryz.prog 190 12 [.agg 6 3] c190:=fK Tryz.func190
theorem ziW (k:Int) (a b:Tree):zn Tryz.prog 190 [.sc (.int .i64 k),zQ a,zQ b] (zQ (u9 k a b)):=by
 refine za zwG zs (by simp[zb,Pure,zh]) ?_ (zh _)
 refine sR ?_
 exact sP
def c144:PC:=.seq (OP [Bx 3 1,q 4 (.alloc [(.int .i64 0),(.int .i64 0),(.slice none 0 0)])]) (.seq (OP [qm 5 0,LA 6 3 3,Bs 7 3 1 [6],q 8 (.build [(.int .i64 0),(.int .i64 0),(.slice none 0 0)] [(0,1,5),(2,1,7)]),So 3 4 8]) .ret)
theorem zxd:zv Tryz.prog 144 9 [.agg 4 3] c144:=fK Tryz.func144
theorem V3 (k:Int) (a:Tree):zn Tryz.prog 144 [.sc (.int .i64 k),zQ a] (zQ (x6 k a)):=by
 refine za zxd zs (by simp[zb,Pure,zh]) ?_ (zh _)
 refine sR ?_
 exact sP
def c140:PC:=.seq (OP [Bx 4 1,Bx 5 2,q 6 (.alloc [(.int .i64 0),(.int .i64 0),(.slice none 0 0)])]) (.seq (OP [qm 7 0,LA 8 3 4,LA 9 3 5,Bs 10 3 2 [8,9],q 11 (.build [(.int .i64 0),(.int .i64 0),(.slice none 0 0)] [(0,1,7),(2,1,10)]),So 3 6 11]) .ret)
theorem zuM:zv Tryz.prog 140 12 [.agg 6 3] c140:=fK Tryz.func140
theorem zdd (k:Int) (a b:Tree):zn Tryz.prog 140 [.sc (.int .i64 k),zQ a,zQ b] (zQ (u9 k a b)):=by
 refine za zuM zs (by simp[zb,Pure,zh]) ?_ (zh _)
 refine sR ?_
 exact sP
def c125:PC:=.seq (OP [Bx 3 1,q 4 (.alloc [(.int .i64 0),(.int .i64 0),(.slice none 0 0)])]) (.seq (OP [qm 5 0,LA 6 3 3,Bs 7 3 1 [6],q 8 (.build [(.int .i64 0),(.int .i64 0),(.slice none 0 0)] [(0,1,5),(2,1,7)]),So 3 4 8]) .ret)
theorem zvT:zv Tryz.prog 125 9 [.agg 4 3] c125:=fK Tryz.func125
theorem VK (k:Int) (a:Tree):zn Tryz.prog 125 [.sc (.int .i64 k),zQ a] (zQ (x6 k a)):=by
 refine za zvT zs (by simp[zb,Pure,zh]) ?_ (zh _)
 refine sR ?_
 exact sP
def c182:PC:=.seq (OP [Bx 4 1,Bx 5 2,q 6 (.alloc [(.int .i64 0),(.int .i64 0),(.slice none 0 0)])]) (.seq (OP [qm 7 0,LA 8 3 4,LA 9 3 5,Bs 10 3 2 [8,9],q 11 (.build [(.int .i64 0),(.int .i64 0),(.slice none 0 0)] [(0,1,7),(2,1,10)]),So 3 6 11]) .ret)
theorem zux:zv Tryz.prog 182 12 [.agg 6 3] c182:=fK Tryz.func182
theorem zhx (k:Int) (a b:Tree):zn Tryz.prog 182 [.sc (.int .i64 k),zQ a,zQ b] (zQ (u9 k a b)):=by
 refine za zux zs (by simp[zb,Pure,zh]) ?_ (zh _)
 refine sR ?_
 exact sP
def c191:PC:=.seq (OP [q 2 (.alloc [(.int .i64 0),(.int .i64 0),(.slice none 0 0)])]) (.seq (OP [qm 3 0,q 4 (.build [(.int .i64 0),(.int .i64 0),(.slice none 0 0)] [(0,1,3)]),So 3 2 4]) .ret)
theorem zuA:zv Tryz.prog 191 5 [.agg 2 3] c191:=fK Tryz.func191
theorem zho (k:Int):zn Tryz.prog 191 [.sc (.int .i64 k)] (zQ (vE k 0)):=by
 refine za zuA zs (by simp[zb,Pure]) ?_ (zh _)
 refine sR ?_
 exact sP
def c122:PC:=.seq (OP [q 2 (.alloc [(.int .i64 0),(.int .i64 0),(.slice none 0 0)])]) (.seq (OP [qm 3 0,q 4 (.build [(.int .i64 0),(.int .i64 0),(.slice none 0 0)] [(0,1,(cI 3)),(1,1,3)]),So 3 2 4]) .ret)
theorem zu5:zv Tryz.prog 122 5 [.agg 2 3] c122:=fK Tryz.func122
theorem qO (n:Int):zn Tryz.prog 122 [.sc (.int .i64 n)] (zQ (vE 3 n)):=by
 refine za zu5 zs (by simp[zb,Pure]) ?_ (zh _)
 refine sR ?_
 exact sP
def c143:PC:=.seq (OP [q 2 (.alloc [(.int .i64 0),(.int .i64 0),(.slice none 0 0)])]) (.seq (OP [qm 3 0,q 4 (.build [(.int .i64 0),(.int .i64 0),(.slice none 0 0)] [(0,1,(cI 3)),(1,1,3)]),So 3 2 4]) .ret)
theorem zwL:zv Tryz.prog 143 5 [.agg 2 3] c143:=fK Tryz.func143
theorem zeU (n:Int):zn Tryz.prog 143 [.sc (.int .i64 n)] (zQ (vE 3 n)):=by
 refine za zwL zs (by simp[zb,Pure]) ?_ (zh _)
 refine sR ?_
 exact sP
def c137:PC:=.seq (OP [Bx 1 0,q 2 (.alloc [(.int .i64 0),(.int .i64 0),(.slice none 0 0)])]) (.seq (OP [LA 3 3 1,Ca 4 144 [(cI 4),3],So 3 2 4]) .ret)
theorem zwX:zv Tryz.prog 137 5 [.agg 2 3] c137:=fK Tryz.func137
theorem zc6 (a:Tree):zn Tryz.prog 137 [zQ a] (zQ (x6 4 a)):=by
 refine za zwX zs (by simp[zb,Pure,zh]) ?_ (zh _)
 refine sR ?_
 refine sC (V3 4 a) ?_
 exact sP
def c138:PC:=.seq (OP [Bx 1 0,q 2 (.alloc [(.int .i64 0),(.int .i64 0),(.slice none 0 0)])]) (.seq (OP [LA 3 3 1,Ca 4 144 [(cI 10),3],So 3 2 4]) .ret)
theorem zwg:zv Tryz.prog 138 5 [.agg 2 3] c138:=fK Tryz.func138
theorem zaV (a:Tree):zn Tryz.prog 138 [zQ a] (zQ (x6 10 a)):=by
 refine za zwg zs (by simp[zb,Pure,zh]) ?_ (zh _)
 refine sR ?_
 refine sC (V3 10 a) ?_
 exact sP
def c135:PC:=.seq (OP [Bx 1 0,q 2 (.alloc [(.int .i64 0),(.int .i64 0),(.slice none 0 0)])]) (.seq (OP [LA 3 3 1,Ca 4 144 [(cI 11),3],So 3 2 4]) .ret)
theorem zw5:zv Tryz.prog 135 5 [.agg 2 3] c135:=fK Tryz.func135
theorem Jw (a:Tree):zn Tryz.prog 135 [zQ a] (zQ (x6 11 a)):=by
 refine za zw5 zs (by simp[zb,Pure,zh]) ?_ (zh _)
 refine sR ?_
 refine sC (V3 11 a) ?_
 exact sP
def c142:PC:=.seq (OP [Bx 2 0,Bx 3 1,q 4 (.alloc [(.int .i64 0),(.int .i64 0),(.slice none 0 0)])]) (.seq (OP [LA 5 3 2,LA 6 3 3,Ca 7 140 [(cI 5),5,6],So 3 4 7]) .ret)
theorem zxH:zv Tryz.prog 142 8 [.agg 4 3] c142:=fK Tryz.func142
theorem zhR (a b:Tree):zn Tryz.prog 142 [zQ a,zQ b] (zQ (u9 5 a b)):=by
 refine za zxH zs (by simp[zb,Pure,zh]) ?_ (zh _)
 refine sR ?_
 refine sC (zdd 5 a b) ?_
 exact sP
def c136:PC:=.seq (OP [Bx 2 0,Bx 3 1,q 4 (.alloc [(.int .i64 0),(.int .i64 0),(.slice none 0 0)])]) (.seq (OP [LA 5 3 2,LA 6 3 3,Ca 7 140 [(cI 6),5,6],So 3 4 7]) .ret)
theorem zww:zv Tryz.prog 136 8 [.agg 4 3] c136:=fK Tryz.func136
theorem zlJ (a b:Tree):zn Tryz.prog 136 [zQ a,zQ b] (zQ (u9 6 a b)):=by
 refine za zww zs (by simp[zb,Pure,zh]) ?_ (zh _)
 refine sR ?_
 refine sC (zdd 6 a b) ?_
 exact sP
def c123:PC:=.seq (OP [Bx 1 0,q 2 (.alloc [(.int .i64 0),(.int .i64 0),(.slice none 0 0)])]) (.seq (OP [LA 3 3 1,Ca 4 125 [(cI 4),3],So 3 2 4]) .ret)
theorem zxf:zv Tryz.prog 123 5 [.agg 2 3] c123:=fK Tryz.func123
theorem VI (a:Tree):zn Tryz.prog 123 [zQ a] (zQ (x6 4 a)):=by
 refine za zxf zs (by simp[zb,Pure,zh]) ?_ (zh _)
 refine sR ?_
 refine sC (VK 4 a) ?_
 exact sP
def c127:PC:=.seq (OP [Bx 1 0,q 2 (.alloc [(.int .i64 0),(.int .i64 0),(.slice none 0 0)])]) (.seq (OP [LA 3 3 1,Ca 4 125 [(cI 11),3],So 3 2 4]) .ret)
theorem zu8:zv Tryz.prog 127 5 [.agg 2 3] c127:=fK Tryz.func127
theorem V1 (a:Tree):zn Tryz.prog 127 [zQ a] (zQ (x6 11 a)):=by
 refine za zu8 zs (by simp[zb,Pure,zh]) ?_ (zh _)
 refine sR ?_
 refine sC (VK 11 a) ?_
 exact sP
def c129:PC:=.seq (OP [Bx 2 0,Bx 3 1,q 4 (.alloc [(.int .i64 0),(.int .i64 0),(.slice none 0 0)])]) (.seq (OP [LA 5 3 2,LA 6 3 3,Ca 7 182 [(cI 5),5,6],So 3 4 7]) .ret)
theorem zwn:zv Tryz.prog 129 8 [.agg 4 3] c129:=fK Tryz.func129
theorem Qj (a b:Tree):zn Tryz.prog 129 [zQ a,zQ b] (zQ (u9 5 a b)):=by
 refine za zwn zs (by simp[zb,Pure,zh]) ?_ (zh _)
 refine sR ?_
 refine sC (zhx 5 a b) ?_
 exact sP
def c124:PC:=.seq (OP [Bx 2 0,Bx 3 1,q 4 (.alloc [(.int .i64 0),(.int .i64 0),(.slice none 0 0)])]) (.seq (OP [LA 5 3 2,LA 6 3 3,Ca 7 182 [(cI 6),5,6],So 3 4 7]) .ret)
theorem zvZ:zv Tryz.prog 124 8 [.agg 4 3] c124:=fK Tryz.func124
theorem Jk (a b:Tree):zn Tryz.prog 124 [zQ a,zQ b] (zQ (u9 6 a b)):=by
 refine za zvZ zs (by simp[zb,Pure,zh]) ?_ (zh _)
 refine sR ?_
 refine sC (zhx 6 a b) ?_
 exact sP
def c128:PC:=.seq (OP [Bx 2 0,Bx 3 1,q 4 (.alloc [(.int .i64 0),(.int .i64 0),(.slice none 0 0)])]) (.seq (OP [LA 5 3 2,LA 6 3 3,Ca 7 182 [(cI 8),5,6],So 3 4 7]) .ret)
theorem zvG:zv Tryz.prog 128 8 [.agg 4 3] c128:=fK Tryz.func128
theorem XA (a b:Tree):zn Tryz.prog 128 [zQ a,zQ b] (zQ (u9 8 a b)):=by
 refine za zvG zs (by simp[zb,Pure,zh]) ?_ (zh _)
 refine sR ?_
 refine sC (zhx 8 a b) ?_
 exact sP
end
section
open Go.RowKit
def c145:PC:=.seq (OP [Mv 2 (cI 0)]) (.seq (.seq (OP [qm 3 0]) (.block 0 (.seq (.seq (OP [Bi 5 .eql 3 (cI 1),qm 4 5]) (.cond 4 .skip (.seq (OP [Bi 6 .eql 3 (cI 2),qm 4 6]) (.cond 4 .skip (OP [Bi 7 .eql 3 (cI 3),qm 4 7]))))) (.cond 4 (.seq (OP [Mv 2 (cI 0)]) .ret) (.seq (.seq (OP [Bi 9 .eql 3 (cI 4),qm 8 9]) (.cond 8 .skip (.seq (OP [Bi 10 .eql 3 (cI 7),qm 8 10]) (.cond 8 .skip (.seq (OP [Bi 11 .eql 3 (cI 10),qm 8 11]) (.cond 8 .skip (OP [Bi 12 .eql 3 (cI 11),qm 8 12]))))))) (.cond 8 (.seq (OP [Mv 2 (cI 1)]) .ret) (.seq (.seq (OP [Bi 14 .eql 3 (cI 5),qm 13 14]) (.cond 13 .skip (.seq (OP [Bi 15 .eql 3 (cI 6),qm 13 15]) (.cond 13 .skip (.seq (OP [Bi 16 .eql 3 (cI 8),qm 13 16]) (.cond 13 .skip (OP [Bi 17 .eql 3 (cI 9),qm 13 17]))))))) (.cond 13 (.seq (OP [Mv 2 (cI 2)]) .ret) .skip)))))))) (.seq (OP [Mv 2 (cI (-1))]) .ret))
theorem zu1:zv Tryz.prog 145 18 [.tmp 2] c145:=fK Tryz.func145
def zCk:PC:=.seq (OP [Bi 51 .lss 50 49]) (.seq (.cond 51 .skip (.exit 1)) (.seq (.block 2 (.seq (OP [Ia 52 3 48 50,LA 53 3 52,q 8 (.alloc [(.int .i64 0),(.int .i64 0),(.slice none 0 0)]),So 3 8 53]) (.seq (OP [LA 54 3 8,qm 55 1,Bi 56 .add 55 (cI 1),qm 57 2,Ca 58 80 [54,56,57],qm 9 58]) (.seq (OP [qm 59 9,Bi 60 .neq 59 (cI 0)]) (.cond 60 (.seq (OP [qm 61 9,qm 6 61]) .ret) .skip))))) (OP [Bi 62 .add 50 (cI 1),qm 50 62])))
def c80:PC:=.seq (OP [Bx 3 0,Mv 6 (cI 0)]) (.seq (OP [qm 10 2,q 11 (.zq 10),Lo 12 11,Bi 13 .add 12 (cI 1),q 14 (.zq 10),So 1 14 13]) (.seq (.block 0 (.seq (OP [qm 16 2,q 17 (.zq 16),Lo 18 17,Bi 19 .gtr 18 (cI 60),qm 15 19]) (.cond 15 (.seq (OP [Mv 6 (cI 2)]) .ret) (.seq (OP [qm 21 1,Bi 22 .gtr 21 (cI 20),qm 20 22]) (.cond 20 (.seq (OP [Mv 6 (cI 5)]) .ret) (.seq (.seq (.ops [Fa 24 0 3,qd 25 (.zg 24) 1,qd 26 (.call 145 [25]) 3,Fa 27 2 3,qd 28 (.zg 27) 8,qd 29 (.len 28) 24,qd 30 (.bin .neq 26 29) 63,qw 23 30 127] true) (.cond 23 .skip (.seq (OP [Fa 31 1 3,Lo 32 31,Bi 33 .lss 32 (cI 0),qm 34 33,GF 35 34 (.zy 1 3),GF 36 34 (.zg 35),GF 37 34 (.bin .gtr 36 (cI 63)),Pk 38 34 cT 37,qm 23 38]) (.cond 23 .skip (OP [Fa 39 0 3,Lo 40 39,Bi 41 .neq 40 (cI 3),qm 42 41,GT 43 42 (.zy 1 3),GT 44 42 (.zg 43),GT 45 42 (.bin .neq 44 (cI 0)),Pk 46 42 45 cF,qm 23 46]))))) (.cond 23 (.seq (OP [Mv 6 (cI 1)]) .ret) .skip))))))) (.seq (.seq (OP [Fa 47 2 3,Lo 48 47,Ln 49 48,Mv 50 (cI 0)]) (.block 1 (.loop zCk))) (.seq (OP [Mv 6 (cI 0)]) .ret))))
theorem zAi:zv Tryz.prog 80 63 [.tmp 6] c80:=fK Tryz.func80
def c43:PC:=.seq (OP [Bx 1 0,Mv 2 (cI 0)]) (.seq (OP [q 3 (.alloc [(.int .i64 0)]),So 1 3 (cI 0)]) (.seq (OP [LA 4 3 1,Ca 5 80 [4,(cI 1),3],qm 2 5]) .ret))
theorem zAu:zv Tryz.prog 43 6 [.tmp 2] c43:=fK Tryz.func43
theorem ztB (k:Int):zn Tryz.prog 145 [.sc (.int .i64 k)] (.sc (.int .i64 (zU k))):=by
 refine za zu1 zs (by simp[zb,Pure]) ?_ (by simp[Pure])
 refine sR ?_
 repeat' (first|refine sS (λh=>?_) λh=>?_|exact zR (by simp_all [zU]))
theorem zo6:∀(t:Tree) (d n:Int),Small t→0≤d→d≤21→0≤n→n≤60→yr Tryz.prog 80 ([zQ t,.sc (.int .i64 d)]++.loc 0 0::[]) [.row true [.sc (.int .i64 n)]] (.sc (.int .i64 (vA zU t d n).1)) [.row true [.sc (.int .i64 (vA zU t d n).2)]]:=by
 intro t
 induction t using Tree.ind with
 | h t ih =>
  intro d n hs hd hd' hn hn'
  have hsz:=hs.width
  refine zS zAi zs zs ?_ (by simp[zt]) (by simp[zf.under,zl,zt])
  refine sR ?_
  refine .inl ⟨by unfold JL;rw[IntKind.wrap_i64];omega,?_⟩
  refine sW ?_
  have e:=znp zU t d n
  refine sS (λh1=>?_) λh1=>?_
  ·simp at h1
   rw[e,if_pos h1]
   exact⟨rfl,rfl,zs⟩
  rw[if_neg (by simpa using h1)] at e
  refine sS (λh2=>?_) λh2=>?_
  ·simp at h2
   rw[e,if_pos h2]
   exact⟨rfl,rfl,zs⟩
  rw[if_neg (by simpa using h2)] at e
  refine sC (ztB t.kind) ?_
  have odd:yI zU t→vA zU t d n=(1,n+1):=λh=>by rw[e,if_pos h]
  have bad:yI zU t→(D.sc (Value.int IntKind.i64 1)=.sc (.int .i64 (vA zU t d n).1)∧List.take [zf.row true [D.sc (Value.int IntKind.i64 (vA zU t d n).2)]].length [zf.row true [D.sc (Value.int IntKind.i64 (n+1))],zf.row true (yy t)]=[zf.row true [D.sc (Value.int IntKind.i64 (vA zU t d n).2)]]∧[zf.row true [D.sc (Value.int IntKind.i64 (vA zU t d n).2)]].length≤2):=λh=>by
   rw[odd h];exact⟨rfl,rfl,zs⟩
  repeat' (first
   | refine sS (λh=>?_) λh=>?_
   | exact bad (by unfold yI Tree.width;simp_all;try omega))
  all_goals
   have hno:¬yI zU t:=by unfold yI Tree.width;simp_all;try omega
   rw[if_neg hno] at e
   have hn1:n+1≤60:=by simp at h1;omega
   have hd1:d≤20:=by simp at h2;omega
   refine Ve (λx:Nat × Int=>[(1,.sc (.int .i64 d)),(2,.loc 0 0),(48,.xl 3 (t.kids.map y6)),(49,.sc (.int .i64 (t.kids.map y6).length)),(50,.sc (.int .i64 x.1))])
    (λx=>[.row true [.sc (.int .i64 x.2)],.row true (yy t)]) (λx=>x.1≤t.width∧0≤x.2∧x.2≤60∧Yx zU t.kids (d+1) (n+1)=Yx zU (t.kids.drop x.1) (d+1) x.2) (λx=>t.width-x.1) (0,n+1)
    ⟨zs,by simp;omega,hn1,rfl⟩ (za1 ⟨rfl,rfl,rfl,rfl,rfl,trivial⟩) ?_
   clear h1 h2
   rintro⟨k,m⟩ ⟨hk,hm0,hm1,hF⟩
   refine sR ?_
   refine sS (λh4=>?_) λh4=>?_
   ·have hk':k<t.width:=by simpa [Tree.width] using h4
    rw[zg3 _ hk'] at hF
    refine sL (xb hk') ?_
    refine .inl ⟨by unfold JL;rw[IntKind.wrap_i64];omega,?_⟩
    refine sW ?_
    refine sA (w8 (ih k hk' (d+1) m (hs.yK hk') zo zo hm0 hm1) (by simp[zb,zh,Pure]) (by simp[zb]) (by simp[zb,Pure]) (by simp[zb,Pure]) (by simp[Pure]) (id:=0) rfl) ?_
    refine sS (λh5=>?_) λh5=>?_
    ·rw[e,hF,if_neg (by simpa using h5)]
     exact⟨rfl,rfl,zs⟩
    ·have h5':(vA zU (t.yK k) (d+1) m).1=0:=by simpa using h5
     rw[if_pos h5'] at hF
     have b1:=(zbd zU (t.yK k) (d+1) m).1
     have b2:=zc3 zU (t.yK k) (d+1) m h5'
     refine .inl ⟨by unfold JL;rw[IntKind.wrap_i64];unfold Tree.width at *;omega,?_⟩
     refine sW ?_
     refine⟨(k+1,(vA zU (t.yK k) (d+1) m).2),⟨by dsimp only at *;omega,by dsimp only at *;omega,b2,hF⟩,by dsimp only at *;omega,zm 2 zs rfl ⟨.refl _,by simp[zt],.refl _,by simp[zt],.refl _,by simp only[zt];exact zi _ (xI t),.refl _,by simp[zt],.refl _,by simp[zt],trivial⟩
      ⟨⟨rfl,.refl _,by simp[zl,zt]⟩,⟨rfl,.refl _,zr _ (yq t)⟩,trivial⟩⟩
   ·have hk':k=t.width:=by have:¬k<t.width:=by simpa [Tree.width] using h4
                           dsimp only at hk;omega
    rw[e,hF,hk',zhe]
    exact⟨rfl,rfl,zs⟩
theorem Ys (t:Tree) (hs:Small t):zn Tryz.prog 43 [zQ t] (.sc (.int .i64 (yF zU t))):=by
 refine za zAu zs (by simp[zb,zh]) ?_ (by simp[Pure])
 refine sR ?_
 refine sA (w8 (zo6 t 1 0 hs zo zo zo zo) (by simp[zb,zh,Pure]) (by simp[zb]) (by simp[zb,Pure]) (by simp[zb,Pure]) (by simp[Pure]) (H:=[.row true (yy t),.row true [.sc (.int .i64 0)]]) (id:=1) rfl) ?_
 exact .refl _
def c180:PC:=.seq (OP [Mv 2 (cI 0)]) (.seq (.seq (OP [qm 3 0]) (.block 0 (.seq (.seq (OP [Bi 5 .eql 3 (cI 1),qm 4 5]) (.cond 4 .skip (.seq (OP [Bi 6 .eql 3 (cI 2),qm 4 6]) (.cond 4 .skip (OP [Bi 7 .eql 3 (cI 3),qm 4 7]))))) (.cond 4 (.seq (OP [Mv 2 (cI 0)]) .ret) (.seq (.seq (OP [Bi 9 .eql 3 (cI 4),qm 8 9]) (.cond 8 .skip (.seq (OP [Bi 10 .eql 3 (cI 7),qm 8 10]) (.cond 8 .skip (.seq (OP [Bi 11 .eql 3 (cI 8),qm 8 11]) (.cond 8 .skip (.seq (OP [Bi 12 .eql 3 (cI 9),qm 8 12]) (.cond 8 .skip (.seq (OP [Bi 13 .eql 3 (cI 11),qm 8 13]) (.cond 8 .skip (.seq (OP [Bi 14 .eql 3 (cI 12),qm 8 14]) (.cond 8 .skip (OP [Bi 15 .eql 3 (cI 13),qm 8 15]))))))))))))) (.cond 8 (.seq (OP [Mv 2 (cI 1)]) .ret) (.seq (.seq (OP [Bi 17 .eql 3 (cI 5),qm 16 17]) (.cond 16 .skip (.seq (OP [Bi 18 .eql 3 (cI 6),qm 16 18]) (.cond 16 .skip (.seq (OP [Bi 19 .eql 3 (cI 10),qm 16 19]) (.cond 16 .skip (OP [Bi 20 .eql 3 (cI 14),qm 16 20]))))))) (.cond 16 (.seq (OP [Mv 2 (cI 2)]) .ret) .skip)))))))) (.seq (OP [Mv 2 (cI (-1))]) .ret))
theorem zwh:zv Tryz.prog 180 21 [.tmp 2] c180:=fK Tryz.func180
def zzv:PC:=.seq (OP [Bi 51 .lss 50 49]) (.seq (.cond 51 .skip (.exit 1)) (.seq (.block 2 (.seq (OP [Ia 52 3 48 50,LA 53 3 52,q 8 (.alloc [(.int .i64 0),(.int .i64 0),(.slice none 0 0)]),So 3 8 53]) (.seq (OP [LA 54 3 8,qm 55 1,Bi 56 .add 55 (cI 1),qm 57 2,Ca 58 116 [54,56,57],qm 9 58]) (.seq (OP [qm 59 9,Bi 60 .neq 59 (cI 0)]) (.cond 60 (.seq (OP [qm 61 9,qm 6 61]) .ret) .skip))))) (OP [Bi 62 .add 50 (cI 1),qm 50 62])))
def c116:PC:=.seq (OP [Bx 3 0,Mv 6 (cI 0)]) (.seq (OP [qm 10 2,q 11 (.zq 10),Lo 12 11,Bi 13 .add 12 (cI 1),q 14 (.zq 10),So 1 14 13]) (.seq (.block 0 (.seq (OP [qm 16 2,q 17 (.zq 16),Lo 18 17,Bi 19 .gtr 18 (cI 60),qm 15 19]) (.cond 15 (.seq (OP [Mv 6 (cI 2)]) .ret) (.seq (OP [qm 21 1,Bi 22 .gtr 21 (cI 20),qm 20 22]) (.cond 20 (.seq (OP [Mv 6 (cI 5)]) .ret) (.seq (.seq (.ops [Fa 24 0 3,qd 25 (.zg 24) 1,qd 26 (.call 180 [25]) 3,Fa 27 2 3,qd 28 (.zg 27) 8,qd 29 (.len 28) 24,qd 30 (.bin .neq 26 29) 63,qw 23 30 127] true) (.cond 23 .skip (.seq (OP [Fa 31 1 3,Lo 32 31,Bi 33 .lss 32 (cI 0),qm 34 33,GF 35 34 (.zy 1 3),GF 36 34 (.zg 35),GF 37 34 (.bin .gtr 36 (cI 63)),Pk 38 34 cT 37,qm 23 38]) (.cond 23 .skip (OP [Fa 39 0 3,Lo 40 39,Bi 41 .neq 40 (cI 3),qm 42 41,GT 43 42 (.zy 1 3),GT 44 42 (.zg 43),GT 45 42 (.bin .neq 44 (cI 0)),Pk 46 42 45 cF,qm 23 46]))))) (.cond 23 (.seq (OP [Mv 6 (cI 1)]) .ret) .skip))))))) (.seq (.seq (OP [Fa 47 2 3,Lo 48 47,Ln 49 48,Mv 50 (cI 0)]) (.block 1 (.loop zzv))) (.seq (OP [Mv 6 (cI 0)]) .ret))))
theorem zxr:zv Tryz.prog 116 63 [.tmp 6] c116:=fK Tryz.func116
def c65:PC:=.seq (OP [Bx 1 0,Mv 2 (cI 0)]) (.seq (OP [q 3 (.alloc [(.int .i64 0)]),So 1 3 (cI 0)]) (.seq (OP [LA 4 3 1,Ca 5 116 [4,(cI 1),3],qm 2 5]) .ret))
theorem zAY:zv Tryz.prog 65 6 [.tmp 2] c65:=fK Tryz.func65
theorem zr6 (k:Int):zn Tryz.prog 180 [.sc (.int .i64 k)] (.sc (.int .i64 (xN k))):=by
 refine za zwh zs (by simp[zb,Pure]) ?_ (by simp[Pure])
 refine sR ?_
 repeat' (first|refine sS (λh=>?_) λh=>?_|exact zR (by simp_all [xN]))
theorem zoy:∀(t:Tree) (d n:Int),Small t→0≤d→d≤21→0≤n→n≤60→yr Tryz.prog 116 ([zQ t,.sc (.int .i64 d)]++.loc 0 0::[]) [.row true [.sc (.int .i64 n)]] (.sc (.int .i64 (vA xN t d n).1)) [.row true [.sc (.int .i64 (vA xN t d n).2)]]:=by
 intro t
 induction t using Tree.ind with
 | h t ih =>
  intro d n hs hd hd' hn hn'
  have hsz:=hs.width
  refine zS zxr zs zs ?_ (by simp[zt]) (by simp[zf.under,zl,zt])
  refine sR ?_
  refine .inl ⟨by unfold JL;rw[IntKind.wrap_i64];omega,?_⟩
  refine sW ?_
  have e:=znp xN t d n
  refine sS (λh1=>?_) λh1=>?_
  ·simp at h1
   rw[e,if_pos h1]
   exact⟨rfl,rfl,zs⟩
  rw[if_neg (by simpa using h1)] at e
  refine sS (λh2=>?_) λh2=>?_
  ·simp at h2
   rw[e,if_pos h2]
   exact⟨rfl,rfl,zs⟩
  rw[if_neg (by simpa using h2)] at e
  refine sC (zr6 t.kind) ?_
  have odd:yI xN t→vA xN t d n=(1,n+1):=λh=>by rw[e,if_pos h]
  have bad:yI xN t→(D.sc (Value.int IntKind.i64 1)=.sc (.int .i64 (vA xN t d n).1)∧List.take [zf.row true [D.sc (Value.int IntKind.i64 (vA xN t d n).2)]].length [zf.row true [D.sc (Value.int IntKind.i64 (n+1))],zf.row true (yy t)]=[zf.row true [D.sc (Value.int IntKind.i64 (vA xN t d n).2)]]∧[zf.row true [D.sc (Value.int IntKind.i64 (vA xN t d n).2)]].length≤2):=λh=>by
   rw[odd h];exact⟨rfl,rfl,zs⟩
  repeat' (first
   | refine sS (λh=>?_) λh=>?_
   | exact bad (by unfold yI Tree.width;simp_all;try omega))
  all_goals
   have hno:¬yI xN t:=by unfold yI Tree.width;simp_all;try omega
   rw[if_neg hno] at e
   have hn1:n+1≤60:=by simp at h1;omega
   have hd1:d≤20:=by simp at h2;omega
   refine Ve (λx:Nat × Int=>[(1,.sc (.int .i64 d)),(2,.loc 0 0),(48,.xl 3 (t.kids.map y6)),(49,.sc (.int .i64 (t.kids.map y6).length)),(50,.sc (.int .i64 x.1))])
    (λx=>[.row true [.sc (.int .i64 x.2)],.row true (yy t)]) (λx=>x.1≤t.width∧0≤x.2∧x.2≤60∧Yx xN t.kids (d+1) (n+1)=Yx xN (t.kids.drop x.1) (d+1) x.2) (λx=>t.width-x.1) (0,n+1)
    ⟨zs,by simp;omega,hn1,rfl⟩ (za1 ⟨rfl,rfl,rfl,rfl,rfl,trivial⟩) ?_
   clear h1 h2
   rintro⟨k,m⟩ ⟨hk,hm0,hm1,hF⟩
   refine sR ?_
   refine sS (λh4=>?_) λh4=>?_
   ·have hk':k<t.width:=by simpa [Tree.width] using h4
    rw[zg3 _ hk'] at hF
    refine sL (xb hk') ?_
    refine .inl ⟨by unfold JL;rw[IntKind.wrap_i64];omega,?_⟩
    refine sW ?_
    refine sA (w8 (ih k hk' (d+1) m (hs.yK hk') zo zo hm0 hm1) (by simp[zb,zh,Pure]) (by simp[zb]) (by simp[zb,Pure]) (by simp[zb,Pure]) (by simp[Pure]) (id:=0) rfl) ?_
    refine sS (λh5=>?_) λh5=>?_
    ·rw[e,hF,if_neg (by simpa using h5)]
     exact⟨rfl,rfl,zs⟩
    ·have h5':(vA xN (t.yK k) (d+1) m).1=0:=by simpa using h5
     rw[if_pos h5'] at hF
     have b1:=(zbd xN (t.yK k) (d+1) m).1
     have b2:=zc3 xN (t.yK k) (d+1) m h5'
     refine .inl ⟨by unfold JL;rw[IntKind.wrap_i64];unfold Tree.width at *;omega,?_⟩
     refine sW ?_
     refine⟨(k+1,(vA xN (t.yK k) (d+1) m).2),⟨by dsimp only at *;omega,by dsimp only at *;omega,b2,hF⟩,by dsimp only at *;omega,zm 2 zs rfl ⟨.refl _,by simp[zt],.refl _,by simp[zt],.refl _,by simp only[zt];exact zi _ (xI t),.refl _,by simp[zt],.refl _,by simp[zt],trivial⟩
      ⟨⟨rfl,.refl _,by simp[zl,zt]⟩,⟨rfl,.refl _,zr _ (yq t)⟩,trivial⟩⟩
   ·have hk':k=t.width:=by have:¬k<t.width:=by simpa [Tree.width] using h4
                           dsimp only at hk;omega
    rw[e,hF,hk',zhe]
    exact⟨rfl,rfl,zs⟩
theorem zgB (t:Tree) (hs:Small t):zn Tryz.prog 65 [zQ t] (.sc (.int .i64 (yF xN t))):=by
 refine za zAY zs (by simp[zb,zh]) ?_ (by simp[Pure])
 refine sR ?_
 refine sA (w8 (zoy t 1 0 hs zo zo zo zo) (by simp[zb,zh,Pure]) (by simp[zb]) (by simp[zb,Pure]) (by simp[zb,Pure]) (by simp[Pure]) (H:=[.row true (yy t),.row true [.sc (.int .i64 0)]]) (id:=1) rfl) ?_
 exact .refl _
end
end Go.Proofs.YteedlhkjaolahaaGreatDoor
