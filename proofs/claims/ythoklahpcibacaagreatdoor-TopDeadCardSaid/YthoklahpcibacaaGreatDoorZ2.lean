/-
  Parts of a proof, joined. No statement is proved here.
-/
import Derived.Test.YthoklahpcibacaaGreatDoorZ1
import Derived.DeepKeys4
import Derived.Test.YthoklahpcibacaaGreatDoorProg
namespace Go.Proofs.YthoklahpcibacaaGreatDoor
set_option linter.unusedSimpArgs false
set_option linter.unusedVariables false
set_option maxRecDepth 100000
section
open Go.RowKit
structure z7 where
 start:List Int
 next:List (List Int)
 YJ:List Int
 WA:List Int
 fair:List (List Int)
def z7.cells (A:z7):List D:=[zw A.start,z8 A.next,uM A.YJ,uM A.WA,z8 A.fair]
def Vl (A:z7):D:=.agg A.cells
theorem Q7 (A:z7):ze A.cells:=by simp[z7.cells,ze,zh,yc,uI]
theorem qp (A:z7):Pure (Vl A):=by simp[Vl,Pure,Q7]
def zq3:z7:=⟨[],[],[],[],[]⟩
structure z7.Fits (A:z7):Prop where
 start:A.start.length≤17592186043904
 next:A.next.length≤17592186043904
 YJ:A.YJ.length≤17592186043904
 WA:A.WA.length≤17592186043904
 fair:A.fair.length≤17592186043904
 zdy:∀l∈A.next,l.length≤17592186043904
 Vx:∀l∈A.fair,l.length≤17592186043904
def z7.xc (A:z7):Int :=
 if 2048<A.next.length∨80<A.fair.length then 2
 else if A.YJ.length≠A.next.length∨A.WA.length≠A.next.length∨xv A.start A.next.length=false then 1
 else if (A.next.any λl=>!(xv l A.next.length))=true then 1
 else if (A.fair.any λl=>!(xv l A.next.length))=true then 1
 else 0
theorem Z3 (A:z7) (h:A.xc=0):A.YJ.length=A.next.length∧A.WA.length=A.next.length∧A.next.length≤2048∧A.fair.length≤80∧xv A.start A.next.length=true∧(∀l∈A.next,xv l A.next.length=true)∧∀l∈A.fair,xv l A.next.length=true:=by
 unfold z7.xc at h
 split at h
 ·exact absurd h zc
 split at h
 ·exact absurd h zc
 split at h
 ·exact absurd h zc
 split at h
 ·exact absurd h zc
 rename_i h1 h2 h3 h4
 have h2':=not_or.1 h2
 have h2'':=not_or.1 h2'.2
 refine⟨zo,zo,zo,zo,by simpa using h2''.2,λl hl=>?_,λl hl=>?_⟩
 ·rw[Bool.not_eq_true,List.any_eq_false] at h3
  simpa using h3 l hl
 ·rw[Bool.not_eq_true,List.any_eq_false] at h4
  simpa using h4 l hl
def Jo (A:z7) (s:Nat) (x:Int):Bool:=vj .and .u64 x (A.YJ.getD s 0)==A.YJ.getD s 0&&vj .and .u64 x (A.WA.getD s 0)==0
theorem UH (a:BitVec 64):IntKind.wrap .u64 (a.toNat:Int)=(a.toNat:Int):=by
 have:=a.isLt
 simp only[IntKind.wrap,IntKind.signed,IntKind.bits]
 simp
 omega
theorem znq {x m:Int} (hm:0≤m∧m<18446744073709551616):(vj .and .u64 x m==m)=(vj .andNot .u64 m x==0):=by
 show(IntKind.wrap .u64 (((BitVec.ofInt 64 x) &&& (BitVec.ofInt 64 m)).toNat:Int)==m)=(IntKind.wrap .u64 (((BitVec.ofInt 64 m) &&& ~~~(BitVec.ofInt 64 x)).toNat:Int)==0)
 rw[UH,UH]
 have e:m=((BitVec.ofInt 64 m).toNat:Int):=by
  rw[BitVec.toNat_ofInt]
  omega
 generalize BitVec.ofInt 64 x=a
 rw[Bool.eq_iff_iff,beq_iff_eq,beq_iff_eq]
 generalize hb:BitVec.ofInt 64 m=b at e
 constructor
 ·intro h
  rw[e] at h
  have h:a &&& b=b:=BitVec.eq_of_toNat_eq zo
  have:b &&& ~~~a=0#64:=by
   rw[←h]
   ext i hi
   simp
   intro h1 _
   exact h1
  rw[this];rfl
 ·intro h
  have h:b &&& ~~~a=0#64:=BitVec.eq_of_toNat_eq (by simpa using h)
  have:a &&& b=b:=by
   ext i hi
   have:=congrArg (λz:BitVec 64=>z[i]) h
   simp at this
   cases q:b[i]
   ·simp[q]
   ·simp[q,this q]
  rw[this];omega
theorem zcs {l:List Int} {z k:Nat} (hz:z=k) (h:k<l.length):(l.map λn=>[D.sc (.int .u64 n)])[z]? = some [.sc (.int .u64 (l.getD k 0))]:=by
 subst hz
 rw[List.getElem?_map,List.getElem?_eq_getElem h,List.getD_eq_getElem?_getD,List.getElem?_eq_getElem h];rfl
def c220:PC:=.seq (OP [Bx 3 0,Mv 6 cF]) (.seq (.ops [qm 7 2,Fa 8 2 3,qd 9 (.zi 8) 2,qm 10 1,qd 11 (.zM 1 9 10) 14,qd 12 (.zi 11) 30,qd 13 (.bin .and 7 12) 63,Fa 14 2 3,qd 15 (.zi 14) 128,qm 16 1,qd 17 (.zM 1 15 16) 896,qd 18 (.zi 17) 1920,qd 19 (.bin .eql 13 18) 4095,qw 20 19 8191,⟨some 21,.move 2,some (20,true),16383⟩,⟨some 22,.zv 3 3,some (20,true),16383⟩,⟨some 23,.zi 22,some (20,true),49151⟩,⟨some 24,.move 1,some (20,true),16383⟩,⟨some 25,.zM 1 23 24,some (20,true),245759⟩,⟨some 26,.zi 25,some (20,true),507903⟩,⟨some 27,.bin .and 21 26,some (20,true),1048575⟩,⟨some 28,.bin .eql 27 (.const (.int .u64 0)),some (20,true),2097151⟩,qd 29 (.pick 20 28 cF) 4194303,qw 6 29 8388607] true) .ret)
theorem ztc:zz Tryz.prog 220 30 [.tmp 6] c220:=fK Tryz.func220
theorem zu2 (A:z7) (hm:A.YJ.length=A.next.length) (hn:A.WA.length=A.next.length) (s:Nat) (hs:s<A.next.length) (x:Int):zu Tryz.prog 220 [Vl A,.sc (.int .i64 s),.sc (.int .u64 x)] (.sc (.bool (Jo A s x))):=by
 refine zb ztc zs (by simp[ze,Pure,qp]) ?_ (by simp[Pure])
 have e:Jo A s x=(vj .and .u64 x (A.YJ.getD s 0)==A.YJ.getD s 0&&vj .and .u64 x (A.WA.getD s 0)==0):=rfl
 unfold Vl z7.cells uM
 refine sR ?_
 refine sL (zcs (k:=s) zo zo) ?_
 refine sL (zcs (k:=s) zo zo) ?_
 cases r:(vj .and .u64 x (A.YJ.getD s 0)==A.YJ.getD s 0)
 ·rw[r,Bool.false_and] at e
  rw[e]
  refine sW ?_
  exact .refl _
 ·rw[r,Bool.true_and] at e
  rw[e]
  refine sW ?_
  refine sL (zcs (k:=s) zo zo) ?_
  exact .refl _
def c219:PC:=.seq (OP [Mv 3 cF]) (.seq (OP [qm 4 0,Bi 5 .lss 4 (cI 0),qm 6 5,GF 7 6 (.move 0),GF 8 6 (.zi 1),GF 9 6 (.bin .geq 7 8),Pk 10 6 cT 9,qm 3 10]) .ret)
theorem zt2:zz Tryz.prog 219 11 [.tmp 3] c219:=fK Tryz.func219
theorem zuh (x:Int) (n:Nat):zu Tryz.prog 219 [.sc (.int .i64 x),.xk [.sc (.int .i64 n)]] (.sc (.bool (decide (x<0)||decide (x≥(n:Int))))):=by
 refine zb zt2 zs (by simp[ze,Pure]) ?_ (by simp[Pure])
 refine sR ?_
 refine sS (λh=>?_) λh=>?_
 ·exact yu zs
 ·exact yu zs
def c167:PC:=.seq (OP [Bx 3 1,Mv 4 cF]) (.seq (OP [qm 5 0,q 6 (.ZP (.func 219) [] [3]),Ca 7 27 [5,6],qm 4 7]) .ret)
theorem ztZ:zz Tryz.prog 167 8 [.tmp 4] c167:=fK Tryz.func167
theorem zlu (l:List Int) (hl:l.length≤9223372036854775807) (n:Nat):zu Tryz.prog 167 [zw l,.sc (.int .i64 n)] (.sc (.bool !(xv l n))):=by
 refine zb ztZ zs (by simp[ze,Pure,zh]) ?_ (by simp[Pure])
 refine sR ?_
 refine sN (xa (λn=>.sc (.int .i64 n)) (λa=>by simp[Pure]) l hl (λx=>decide (x<0)||decide (x≥(n:Int))) 219 [.xk [.sc (.int .i64 n)]] (by simp[ze,Pure]) λa _=>zuh a n) ?_
 rw[zhC]
 exact .refl _
def c168:PC:=.seq (OP [Mv 3 cF]) (.seq (OP [qm 4 0,Lo 5 1,Ca 6 167 [4,5],qm 3 6]) .ret)
theorem zuH:zz Tryz.prog 168 7 [.tmp 3] c168:=fK Tryz.func168
theorem znA (l:List Int) (hl:l.length≤9223372036854775807) (n:Nat):zu Tryz.prog 168 [zw l,.xk [.sc (.int .i64 n)]] (.sc (.bool !(xv l n))):=by
 refine zb zuH zs (by simp[ze,Pure,zh]) ?_ (by simp[Pure])
 refine sR ?_
 refine sC (zlu l hl n) ?_
 exact .refl _
def c169:PC:=.seq (OP [Mv 3 cF]) (.seq (OP [qm 4 0,Lo 5 1,Ca 6 167 [4,5],qm 3 6]) .ret)
theorem zux:zz Tryz.prog 169 7 [.tmp 3] c169:=fK Tryz.func169
theorem zot (l:List Int) (hl:l.length≤9223372036854775807) (n:Nat):zu Tryz.prog 169 [zw l,.xk [.sc (.int .i64 n)]] (.sc (.bool !(xv l n))):=by
 refine zb zux zs (by simp[ze,Pure,zh]) ?_ (by simp[Pure])
 refine sR ?_
 refine sC (zlu l hl n) ?_
 exact .refl _
def c100:PC:=.seq (OP [Bx 1 0,Mv 2 (cI 0)]) (.seq (OP [Fa 4 1 1,Lo 5 4,Ln 6 5,q 3 (.alloc [(.int .i64 0)]),So 1 3 6]) (.seq (.seq (OP [Lo 7 3,Bi 8 .gtr 7 (cI 2048),qm 9 8,GF 10 9 (.zv 4 1),GF 11 9 (.zi 10),GF 12 9 (.len 11),GF 13 9 (.bin .gtr 12 (cI 80)),Pk 14 9 cT 13]) (.cond 14 (.seq (OP [Mv 2 (cI 2)]) .ret) .skip)) (.seq (.seq (OP [Fa 15 2 1,Lo 16 15,Ln 17 16,Lo 18 3,Bi 19 .neq 17 18,qm 20 19,GF 21 20 (.zv 3 1),GF 22 20 (.zi 21),GF 23 20 (.len 22),GF 24 20 (.zi 3),GF 25 20 (.bin .neq 23 24),Pk 26 20 cT 25,qm 27 26,GF 28 27 (.zv 0 1),GF 29 27 (.zi 28),GF 30 27 (.zi 3),GF 31 27 (.call 167 [29,30]),Pk 32 27 cT 31]) (.cond 32 (.seq (OP [Mv 2 (cI 1)]) .ret) .skip)) (.seq (.seq (OP [Fa 33 1 1,Lo 34 33,q 35 (.ZP (.func 168) [] [3]),Ca 36 90 [34,35],qm 37 36,GF 38 37 (.zv 4 1),GF 39 37 (.zi 38),GF 40 37 (.ZP (.func 169) [] [3]),GF 41 37 (.call 90 [39,40]),Pk 42 37 cT 41]) (.cond 42 (.seq (OP [Mv 2 (cI 1)]) .ret) .skip)) (.seq (OP [Mv 2 (cI 0)]) .ret)))))
theorem ztB:zz Tryz.prog 100 43 [.tmp 2] c100:=fK Tryz.func100
theorem zpj (A:z7) (hA:A.Fits):zu Tryz.prog 100 [Vl A] (.sc (.int .i64 A.xc)):=by
 have b1:=hA.start
 have b2:=hA.next
 have b3:=hA.YJ
 have b4:=hA.fair
 have b5:=hA.WA
 refine zb ztB zs (by simp[ze,Pure,qp]) ?_ (by simp[Pure])
 refine sR ?_
 rw[List.length_map]
 have fin:∀{H:List zf} {z:Int},z=A.xc→Deep H (.sc (.int .i64 z)) (.sc (.int .i64 A.xc)):=λh=>h▸.refl _
 refine sS (λh1=>?_) λh1=>?_
 ·exact fin (by unfold z7.xc;rw[if_pos (sO)])
 rw[List.length_map]
 refine sS (λh2=>?_) λh2=>?_
 ·exact fin (by unfold z7.xc;rw[if_pos (sO)])
 have c1:¬(2048<A.next.length∨80<A.fair.length):=sO
 rw[List.length_map]
 refine sS (λh3=>?_) λh3=>?_
 ·exact fin (by unfold z7.xc;rw[if_neg c1,if_pos (sO)])
 rw[List.length_map]
 refine sS (λh3'=>?_) λh3'=>?_
 ·exact fin (by unfold z7.xc;rw[if_neg c1,if_pos (sO)])
 refine sC (zlu A.start zo A.next.length) ?_
 refine sS (λh4=>?_) λh4=>?_
 ·exact fin (by unfold z7.xc;rw[if_neg c1,if_pos (.inr (.inr (by simpa using h4)))])
 have c2:¬(A.YJ.length≠A.next.length∨A.WA.length≠A.next.length∨xv A.start A.next.length=false):=by
  rintro(q|q|q)
  ·exact sO
  ·exact sO
  ·rw[q] at h4;cases h4
 refine sN (Xv zw zh A.next zo (λl=>!(xv l A.next.length)) 168 [.xk [.sc (.int .i64 A.next.length)]] (by simp[ze,Pure]) λa ha=>znA a (by have:=hA.zdy a ha;omega) _) ?_
 refine sS (λg2=>?_) λg2=>?_
 ·exact fin (by unfold z7.xc;rw[if_neg c1,if_neg c2,if_pos g2])
 have c3:¬(A.next.any λl=>!(xv l A.next.length))=true:=by rw[g2];simp
 refine sN (Xv zw zh A.fair zo (λl=>!(xv l A.next.length)) 169 [.xk [.sc (.int .i64 A.next.length)]] (by simp[ze,Pure]) λa ha=>zot a (by have:=hA.Vx a ha;omega) _) ?_
 refine sS (λg3=>?_) λg3=>?_
 ·exact fin (by unfold z7.xc;rw[if_neg c1,if_neg c2,if_neg c3,if_pos g3])
 ·exact fin (by unfold z7.xc;rw[if_neg c1,if_neg c2,if_neg c3,if_neg (by rw[g3];simp)])
end
section
open Go.RowKit
def gl (n:Nat) (g:Nat→Int):List Int:=(List.range n).map g
@[simp] theorem zhb (n:Nat) (g:Nat→Int):(gl n g).length=n:=by simp[gl]
theorem UR {n k:Nat} {g:Nat→Int} (h:k<n):(gl n g).getD k 0=g k:=by
 rw[List.getD_eq_getElem?_getD]
 simp[gl,List.getElem?_map,List.getElem?_range h]
@[simp] theorem zzk (l:List Int):(zI l).length=l.length:=by simp[zI]
theorem zsP {l:List Int} {z k:Nat} (hz:z=k) (h:k<l.length):(zI l)[z]? = some [.sc (.int .i64 (l.getD k 0))]:=yb hz h
theorem zT {n:Nat} {g:Nat→Int} {z:Nat} (k:Nat) (hz:z=k) (h:k<n):(zI (gl n g))[z]? = some [.sc (.int .i64 (g k))]:=by
 rw[zsP hz (by rw[zhb];exact h),UR h]
theorem vc {n:Nat} {g g':Nat→Int} (h:∀i,i<n→g i=g' i):gl n g=gl n g':=List.map_congr_left λi hi=>h i (List.mem_range.1 hi)
def X2 (g:Nat→Int) (k:Nat) (v:Int):Nat→Int:=λi=>if i=k then v else g i
@[simp] theorem uC (g:Nat→Int) (k:Nat) (v:Int):X2 g k v k=v:=by simp[X2]
theorem WR {g:Nat→Int} {k i:Nat} {v:Int} (h:i≠k):X2 g k v i=g i:=by simp[X2,h]
theorem uf {n z k:Nat} {g:Nat→Int} {v:Int} (hz:z=k):(zI (gl n g)).set z [.sc (.int .i64 v)]=zI (gl n (X2 g k v)):=by
 subst hz
 apply List.ext_getElem?
 intro i
 by_cases hi:i<n
 ·rw[List.getElem?_set]
  by_cases e:z=i
  ·subst e
   rw[if_pos rfl,if_pos (by simp;exact hi),zT z rfl hi,uC]
  ·rw[if_neg e,zT i rfl hi,zT i rfl hi,WR (λq=>e q.symm)]
 ·rw[List.getElem?_eq_none (by simp;omega),List.getElem?_eq_none (by simp;omega)]
theorem zal (n:Nat):List.replicate n [D.sc (.int .i64 0)]=zI (gl n λ_=>0):=by
 apply List.ext_getElem?
 intro i
 by_cases hi:i<n
 ·rw[zT i rfl hi,List.getElem?_replicate,if_pos hi]
 ·rw[List.getElem?_eq_none (by simp;omega),List.getElem?_eq_none (by simp;omega)]
theorem J8 {H:List zf} {id v n:Nat} {q:Bool} {g:Nat→Int} (h:H[id]? = some (.vec q v 1 (zI (gl n g)))):Deep H (.own id v 0 n) (zw (gl n g)):=.own _ _ _ _ _ _ _ _ h (by rw[List.drop_zero,List.take_of_length_le (by simp[zI,gl])];exact zU _)
end
section
open Go.RowKit
def gn (f:Nat→Nat):Nat→Int:=λi=>(f i:Int)
def wb (g:List (List Int)) (num low:Nat→Nat) (part:Nat→Int) (Z:List Int) (h zW count ZU:Nat):List zf :=
 [.vec true 0 1 (zI (gl g.length (gn num))),.vec true 0 1 (zI (gl g.length (gn low))),.vec true 0 1 (zI (gl g.length part)),.row true [z8 g,.own 0 0 0 g.length,.own 1 0 0 g.length,.own 2 0 0 g.length,.own 4 zW 0 h,.sc (.int .i64 count),.sc (.int .i64 ZU)],.vec true zW 1 (zI Z)]
theorem Ul {g:List (List Int)} {num low:Nat→Nat} {part:Nat→Int} {Z:List Int} {h zW count ZU:Nat}:∀o∈wb g num low part Z h zW count ZU,o.under 5:=by
 intro o ho
 simp only[wb,List.mem_cons,List.not_mem_nil,or_false] at ho
 rcases ho with rfl|rfl|rfl|rfl|rfl<;>simp[zf.under,zl,zp,zq _ (yc g)]
theorem zlY (f:Nat→Nat) (k v:Nat):X2 (gn f) k (v:Int)=gn (up f k v):=by
 funext i
 unfold X2 gn up
 split<;>rfl
theorem zpr {Z:List Int} {h:Nat} {x:Int}:List.drop 0 (List.take h (zI Z))++List.drop 0 (List.take 1 [[D.sc (.int .i64 x)]])=zI (Z.take h++[x]):=by simp[zI,List.map_take]
def c221:PC:=.seq (OP [qm 4 0,q 5 (.zm 4),Fa 6 5 5,Lo 7 6,Bi 8 .add 7 (cI 1),q 9 (.zm 4),Fa 10 5 9,So 1 10 8]) (.seq (.ops [qm 11 0,qd 12 (.zm 11) 1,qd 13 (.zv 1 12) 3,qd 14 (.zi 13) 7,qm 15 1,qm 16 0,qd 17 (.zm 16) 32,qd 18 (.zv 2 17) 96,qd 19 (.zi 18) 224,qm 20 1,qm 21 0,qd 22 (.zm 21) 1024,qd 23 (.zv 5 22) 3072,qd 24 (.zi 23) 7168,qm 25 0,qd 26 (.zm 25) 16384,qd 27 (.zv 5 26) 49152,qd 28 (.zi 27) 114688,qd 29 (.zM 1 14 15) 261631,qk (.store 1 29 24) 523775,qd 30 (.zM 1 19 20) 1048575,qk (.store 1 30 28) 2097151] true) (OP [qm 31 0,qm 32 0,q 33 (.zm 32),Fa 34 4 33,Lo 35 34,qm 36 1,Bs 37 1 1 [36],Ap 38 1 8 35 37,q 39 (.zm 31),Fa 40 4 39,So 1 40 38]))
theorem zt4:zz Tryz.prog 221 41 [] c221:=fK Tryz.func221
theorem zju (g:List (List Int)) (hn:g.length≤1000000000) (num low:Nat→Nat) (part:Nat→Int) (Z:List Int) (h zW count ZU:Nat) (hh:h≤Z.length) (hh':h≤1000000000) (hc:count≤1000000000) (v:Nat) (hv:v<g.length) :
  yB Tryz.prog 221 [.loc 3 0,.sc (.int .i64 v)] (wb g num low part Z h zW count ZU) (.yI []) (wb g (up num v (count+1)) (up low v (count+1)) part (Z.take h++[(v:Int)]) (h+1) (zW+1) (count+1) ZU):=by
 refine yp zt4 zs (by simp[wb]) ?_ (by simp[zp,zl]) Ul
 unfold wb
 refine sR ?_
 refine sI ?_
 refine sB ?_
 refine⟨_,zT v zo hv,?_⟩
 refine sW ?_
 refine sB ?_
 refine⟨_,zT v zo hv,?_⟩
 refine sW ?_
 refine sJ ?_
 refine⟨?_,zs⟩
 rw[show(count:Int)+1=((count+1:Nat):Int) from rfl,uf (k:=v) zo,uf (k:=v) zo,zlY,zlY,zpr]
 rfl
def zjt (part:Nat→Int) (st:List Nat) (ZU:Nat):Nat→Int:=λv=>if v∈st then (ZU:Int) else part v
theorem zqD (part:Nat→Int) (ZU:Nat):zjt part [] ZU=part:=by funext v;simp[zjt]
theorem zfJ (part:Nat→Int) (st:List Nat) (ZU k:Nat):X2 (zjt part st ZU) k (ZU:Int)=zjt part (st++[k]) ZU:=by
 funext i
 unfold X2 zjt
 by_cases e:i=k
 ·subst e;simp
 ·simp[e]
def zv7:PC:=.block 1 (.seq (.ops [qm 5 0,qd 6 (.zm 5) 1,qd 7 (.zv 4 6) 3,qd 8 (.zi 7) 7,qm 9 0,qd 10 (.zm 9) 16,qd 11 (.zv 4 10) 48,qd 12 (.zi 11) 112,qd 13 (.len 12) 240,qd 14 (.bin .sub 13 (cI 1)) 496,qd 15 (.zM 1 8 14) 1023,qd 16 (.zi 15) 2047,qw 4 16 4095] true) (.seq (.ops [qm 17 0,qm 18 0,qd 19 (.zm 18) 2,qd 20 (.zv 4 19) 6,qd 21 (.zi 20) 14,qm 22 0,qd 23 (.zm 22) 32,qd 24 (.zv 4 23) 96,qd 25 (.zi 24) 224,qd 26 (.len 25) 480,qd 27 (.bin .sub 26 (cI 1)) 992,qd 28 (.slc 1 21 none (some 27) none) 2046,qd 29 (.zm 17) 4095,qd 30 (.zv 4 29) 8191,qk (.store 1 30 28) 16383] true) (.seq (.ops [qm 31 0,qd 32 (.zm 31) 1,qd 33 (.zv 3 32) 3,qd 34 (.zi 33) 7,qm 35 4,qm 36 0,qd 37 (.zm 36) 32,qd 38 (.zv 6 37) 96,qd 39 (.zi 38) 224,qd 40 (.zM 1 34 35) 511,qk (.store 1 40 39) 1023] true) (.seq (OP [qm 41 4,qm 42 1,Bi 43 .eql 41 42]) (.cond 43 (.exit 0) .skip)))))
def c222:PC:=.seq (.block 0 (.loop zv7)) (OP [qm 44 0,q 45 (.zm 44),Fa 46 6 45,Lo 47 46,Bi 48 .add 47 (cI 1),q 49 (.zm 44),Fa 50 6 49,So 1 50 48])
theorem zuO:zz Tryz.prog 222 51 [] c222:=fK Tryz.func222
theorem zq7 (g:List (List Int)) (hn:g.length≤1000000000) (num low:Nat→Nat) (part:Nat→Int) (Z:List Int) (pre post:List Nat) (n:Nat) (zW count ZU:Nat) (hh:(pre++n::post).length≤Z.length) (hh':(pre++n::post).length≤1000000000) (hg:ZU≤1000000000)
  (hZ:∀j,j<(pre++n::post).length→Z.getD ((pre++n::post).length-1-j) 0=(((pre++n::post).getD j 0:Nat):Int)) (hst:∀v∈pre++n::post,v<g.length) (hp:n ∉ pre) :
  yB Tryz.prog 222 [.loc 3 0,.sc (.int .i64 n)] (wb g num low part Z (pre++n::post).length zW count ZU) (.yI []) (wb g num low (zjt part (pre++[n]) ZU) Z post.length zW count (ZU+1)):=by
 refine yp zuO zs (by simp[wb]) ?_ (by simp[zp,zl]) Ul
 (apply ziD;focus (repeat' constructor))
 generalize hst0:pre++n::post=st at *
 refine zZ [0,1] (λ_:Nat=>[]) (λj=>wb g num low (zjt part (st.take j) ZU) Z (st.length-j) zW count ZU)
  (λj=>j≤pre.length) (λj=>pre.length-j) 0 ?_
 refine sW ?_
 refine⟨zo,by exact sK,by rw[List.take_zero,zqD];rfl,?_⟩
 rintro j hj
 have hlen:st.length=pre.length+post.length+1:=by rw[←hst0];simp;omega
 have hkz:=hZ j zo
 have hks:st.getD j 0∈st:=by rw[List.getD_eq_getElem?_getD,List.getElem?_eq_getElem zo];exact List.getElem_mem _
 have hkn:=hst _ hks
 have htk:st.take (j+1)=st.take j++[st.getD j 0]:=by
  rw[List.take_add_one,List.getElem?_eq_getElem zo,List.getD_eq_getElem?_getD,List.getElem?_eq_getElem zo];rfl
 have hend:st.getD j 0=n↔j=pre.length:=by
  rw[←hst0]
  constructor
  ·intro e
   rcases Nat.lt_or_ge j pre.length with q|q
   ·exfalso
    rw[List.getD_eq_getElem?_getD,List.getElem?_append_left q,List.getElem?_eq_getElem q] at e
    exact hp (e▸List.getElem_mem q)
   ·omega
  ·intro e
   subst e
   rw[List.getD_eq_getElem?_getD,List.getElem?_append_right (Nat.le_refl _),Nat.sub_self]
   rfl
 generalize hk:st.getD j 0=k at *
 unfold wb
 refine sW ?_
 refine sR ?_
 refine sI ?_
 refine sB ?_
 refine⟨_,yb (l:=Z) (k:=st.length-1-j) zo zo,?_⟩
 rw[hkz]
 refine sW ?_
 refine sI ?_
 refine⟨zo,zo,zo,?_⟩
 refine sW ?_
 refine sB ?_
 refine⟨_,zT k zo hkn,?_⟩
 refine sW ?_
 refine sS (λq=>?_) λq=>?_
 ·have q:k=n:=sO
  have q':=hend.1 q
  refine sI ?_
  have hpn:st.take (j+1)=pre++[n]:=by
   rw[←hst0,q',show pre++n::post=(pre++[n])++post by simp,List.take_left' zs]
  refine⟨?_,zs⟩
  rw[uf (k:=k) zo,zfJ,←htk,hpn,show 0+((st.length-j-0:Nat)-1:Int).toNat=post.length by omega]
  rfl
 ·have q:k≠n:=sO
  have q':=λz=>q (hend.2 z)
  refine⟨j+1,zo,zd,zC (by exact sK) ?_⟩
  rw[uf (k:=k) zo,zfJ,←htk,show 0+((st.length-j-0:Nat)-1:Int).toNat=st.length-(j+1) by omega]
end
section
structure TR where
 S:TJ
 Z:List Int
 zW:Nat
structure ZOK (st:List Nat) (Z:List Int):Prop where
 len:st.length≤Z.length
 at_:∀j,j<st.length→Z.getD (st.length-1-j) 0=((st.getD j 0:Nat):Int)
theorem ZOK.push {st:List Nat} {Z:List Int} (h:ZOK st Z) (v:Nat):ZOK (v::st) (Z.take st.length++[(v:Int)]) where
 len:=by have:=h.len;simp;omega
 at_ j hj:=by
  have hl:=h.len
  simp only[List.length_cons] at hj ⊢
  cases j with
  | zero =>
   rw[List.getD_eq_getElem?_getD,List.getElem?_append_right (by simp;omega)]
   rw[show st.length+1-1-0-(Z.take st.length).length=0 by simp;omega]
   rfl
  | succ j =>
   have:=h.at_ j zo
   rw[List.getD_cons_succ,←this,List.getD_eq_getElem?_getD,List.getD_eq_getElem?_getD,List.getElem?_append_left (by simp;omega),List.getElem?_take,if_pos zo,show st.length+1-1-(j+1)=st.length-1-j by omega]
theorem ZOK.drop {pre post:List Nat} {Z:List Int} (h:ZOK (pre++post) Z):ZOK post Z where
 len:=by have:=h.len;simp at this;omega
 at_ j hj:=by
  have:=h.at_ (pre.length+j) (by simp;omega)
  rw[List.getD_eq_getElem?_getD (l:=pre++post),List.getElem?_append_right zo,Nat.add_sub_cancel_left,←List.getD_eq_getElem?_getD,List.length_append,show pre.length+post.length-1-(pre.length+j)=post.length-1-j by omega] at this
  exact this
structure TRI (g:List (List Int)) (R:TR):Prop where
 tj:TjI g R.S
 zok:ZOK R.S.stack R.Z
def TR.open (R:TR) (v:Nat) (path:List (Nat × Nat)):TR:=⟨R.S.open v path,R.Z.take R.S.stack.length++[(v:Int)],R.zW+1⟩
def stepT (g:List (List Int)) (R:TR):TR :=
 match R.S.path with
 | []=>R
 | (p,i)::r =>
  if i<(g.getD p []).length then
   if R.S.num ((g.getD p []).getD i 0).toNat=0 then R.open ((g.getD p []).getD i 0).toNat ((p,i+1)::r)
   else ⟨R.S.skip p i r ((g.getD p []).getD i 0).toNat,R.Z,R.zW⟩
  else match r with
   | []=>⟨R.S.shut p [] R.S.low,R.Z,R.zW⟩
   | (q,j)::r'=>if R.S.low p=R.S.num p then ⟨R.S.shut p ((q,j)::r') (up R.S.low q (min (R.S.low q) (R.S.low p))),R.Z,R.zW⟩ else ⟨R.S.back p q j r',R.Z,R.zW⟩
def runT (g:List (List Int)):Nat→TR→TR
 | 0,R=>R
 | k+1,R=>if R.S.path=[] then R else runT g k (stepT g R)
theorem zqG {g:List (List Int)} {R:TR} (h:R.S.path=[]):∀k,runT g k R=R
 | 0=>rfl
 | k+1=>by simp only[runT,if_pos h]
theorem TjI.split {g:List (List Int)} {S:TJ} (h:TjI g S) {n:Nat} (hn:n∈S.stack):∃pre post,S.stack=pre++n::post∧n ∉ pre∧(∀v,v∈pre++[n]↔v∈S.stack∧S.num n≤S.num v)∧S.stack.filter (λv=>decide (S.num v<S.num n))=post:=by
 obtain⟨pre,post,e⟩:=List.append_of_mem hn
 have hs:=h.srt
 rw[e,List.pairwise_append] at hs
 obtain⟨s1,s2,s3⟩:=hs
 rw[List.pairwise_cons] at s2
 have p1:∀v∈pre,S.num n<S.num v:=λv hv=>s3 v hv n zs
 have p2:∀v∈post,S.num v<S.num n:=λv hv=>s2.1 v hv
 refine⟨pre,post,e,λq=>by have:=p1 n q;omega,λv=>?_,?_⟩
 ·rw[e]
  simp only[List.mem_append,List.mem_cons,List.not_mem_nil,or_false]
  constructor
  ·rintro(q|q)
   ·exact⟨.inl q,Nat.le_of_lt (p1 v q)⟩
   ·subst q;exact⟨.inr (.inl rfl),Nat.le_refl _⟩
  ·rintro⟨q|q|q,k⟩
   ·exact .inl q
   ·exact .inr q
   ·have:=p2 v q;omega
 ·rw[e,List.filter_append,List.filter_cons,if_neg zs]
  have f1:pre.filter (λv=>decide (S.num v<S.num n))=[]:=List.filter_eq_nil_iff.2 λv hv=>by have:=p1 v hv;simp;omega
  have f2:post.filter (λv=>decide (S.num v<S.num n))=post:=List.filter_eq_self.2 λv hv=>by simpa using p2 v hv
  rw[f1,f2];rfl
theorem TjI.ziU {g:List (List Int)} {S:TJ} (h:TjI g S) {p i:Nat} (hp:S.path=[(p,i)]):S.low p=S.num p:=by
 have hseg:=h.seg
 rw[hp] at hseg
 obtain⟨g1,g2,g3,g4,g5,⟨w,w1,w2,w3⟩,g7,g8,g9⟩:=hseg
 have:=g9 w w1
 omega
theorem TRI.shut {g:List (List Int)} {R:TR} (h:TRI g R) {n i:Nat} {r:List (Nat × Nat)} (hp:R.S.path=(n,i)::r) (hi:(g.getD n []).length≤i) (hl:R.S.low n=R.S.num n) {low:Nat→Nat} (hlow:∀v,R.S.num v<R.S.num n→low v=R.S.low v):TRI g ⟨R.S.shut n r low,R.Z,R.zW⟩:=by
 refine⟨h.tj.shut hp hi hl hlow,?_⟩
 have hn:n∈R.S.stack:=by have:=h.tj.seg;rw[hp] at this;exact this.1
 obtain⟨pre,post,e,e1,e2,e3⟩:=h.tj.split hn
 show ZOK (R.S.stack.filter _) R.Z
 rw[e3]
 have:=h.zok
 rw[e,show pre++n::post=(pre++[n])++post by simp] at this
 exact this.drop
theorem zh4 {g:List (List Int)} (yT:∀v x,x∈g.getD v []→x.toNat<g.length) {R:TR} (h:TRI g R) (hp:R.S.path≠[]):TRI g (stepT g R)∧TJ.fuel g (stepT g R).S<TJ.fuel g R.S∧∀x,R.S.num x≠0→(stepT g R).S.num x≠0:=by
 unfold stepT
 cases e:R.S.path with
 | nil=>exact absurd e hp
 | cons q r =>
  obtain⟨p,i⟩:=q
  dsimp only
  by_cases hi:i<(g.getD p []).length
  ·rw[if_pos hi]
   have hv:=yT p _ (yr hi)
   by_cases h0:R.S.num ((g.getD p []).getD i 0).toNat=0
   ·rw[if_pos h0]
    refine⟨⟨h.tj.push e hi hv h0,h.zok.push _⟩,by have:=zm9 e hi hv h0;show TJ.fuel g (R.S.open _ _)<_;omega,λx hx=>?_⟩
    show up R.S.num _ _ x≠0
    rw[vp (λq=>hx (by rw[q];exact h0))]
    exact hx
   ·rw[if_neg h0]
    exact⟨⟨h.tj.skip e hi h0,h.zok⟩,by have:=zov (x:=((g.getD p []).getD i 0).toNat) e hi;show TJ.fuel g (R.S.skip _ _ _ _)<_;omega,λx hx=>hx⟩
  ·rw[if_neg hi]
   cases r with
   | nil =>
    exact⟨h.shut e zo (h.tj.ziU e) (λ_ _=>rfl),zgb e,λx hx=>hx⟩
   | cons q r =>
    obtain⟨q,j⟩:=q
    dsimp only
    by_cases hl:R.S.low p=R.S.num p
    ·rw[if_pos hl]
     have hseg:=h.tj.seg
     rw[e] at hseg
     obtain⟨g1,g2,g3,g4,g5,g6,g7,g8,f1,f2,f3,f4,f5,f6,f7,f8,f9⟩:=hseg
     refine⟨h.shut e zo hl (λv _=>?_),zgb e,λx hx=>hx⟩
     by_cases ev:v=q
     ·subst ev;rw[wi];omega
     ·rw[vp ev]
    ·rw[if_neg hl]
     exact⟨⟨h.tj.back e zo hl,h.zok⟩,znD e,λx hx=>hx⟩
theorem zmd {g:List (List Int)} (yT:∀v x,x∈g.getD v []→x.toNat<g.length):∀(k:Nat) {R:TR},TRI g R→TJ.fuel g R.S≤k→TRI g (runT g k R)∧(runT g k R).S.path=[]∧∀x,R.S.num x≠0→(runT g k R).S.num x≠0
 | 0,R,h,hk=>by
  have hp:R.S.path=[]:=by
   cases e:R.S.path with
   | nil=>rfl
   | cons q r=>obtain⟨p,i⟩:=q;unfold TJ.fuel at hk;rw[e] at hk;simp only[XK] at hk;omega
  exact⟨h,hp,λx hx=>hx⟩
 | k+1,R,h,hk=>by
  simp only[runT]
  by_cases hp:R.S.path=[]
  ·rw[if_pos hp];exact⟨h,hp,λx hx=>hx⟩
  ·rw[if_neg hp]
   obtain⟨a,b,c⟩:=zh4 yT h hp
   obtain⟨a',b',c'⟩:=zmd yT k a zo
   exact⟨a',b',λx hx=>c' x (c x hx)⟩
theorem TRI.root {g:List (List Int)} {R:TR} (h:TRI g R) (hp:R.S.path=[]) {v:Nat} (hv:v<g.length) (h0:R.S.num v=0):TRI g (R.open v []):=by
 refine⟨h.tj.opened hv h0 (Nat.zero_le _) ?_ trivial,h.zok.push v⟩
 have:=h.tj.seg
 rw[hp] at this
 exact this
def WK (g:List (List Int)) (R:TR) (v:Nat):TR:=runT g (TJ.fuel g (R.open v []).S) (R.open v [])
def xb (g:List (List Int)):Nat→TR
 | 0=>⟨⟨λ_=>0,λ_=>0,λ_=>-1,[],[],0,0⟩,[],0⟩
 | k+1=>if (xb g k).S.num k=0 then WK g (xb g k) k else xb g k
theorem znt {g:List (List Int)} (yT:∀v x,x∈g.getD v []→x.toNat<g.length) {R:TR} (h:TRI g R) (hp:R.S.path=[]) {v:Nat} (hv:v<g.length) (h0:R.S.num v=0) :
  TRI g (WK g R v)∧(WK g R v).S.path=[]∧(WK g R v).S.num v≠0∧∀x,R.S.num x≠0→(WK g R v).S.num x≠0:=by
 obtain⟨a,b,c⟩:=zmd yT _ (h.root hp hv h0) (Nat.le_refl _)
 refine⟨a,b,c v ?_,λx hx=>c x ?_⟩
 ·show up R.S.num v (R.S.count+1) v≠0;rw[wi];omega
 ·show up R.S.num v (R.S.count+1) x≠0
  by_cases e:x=v
  ·subst e;rw[wi];omega
  ·rw[vp e];exact hx
theorem Wg {g:List (List Int)} (yT:∀v x,x∈g.getD v []→x.toNat<g.length):∀k,k≤g.length→TRI g (xb g k)∧(xb g k).S.path=[]∧∀j,j<k→(xb g k).S.num j≠0
 | 0,_=>⟨⟨TjI.zero g,⟨Nat.le_refl _,λj hj=>by cases hj⟩⟩,rfl,λj hj=>by cases hj⟩
 | k+1,hk=>by
  obtain⟨a,b,c⟩:=Wg yT k zo
  simp only[xb]
  by_cases h0:(xb g k).S.num k=0
  ·rw[if_pos h0]
   obtain⟨a',b',c',d'⟩:=znt yT a b (show k<g.length by omega) h0
   refine⟨a',b',λj hj=>?_⟩
   by_cases e:j=k
   ·subst e;exact c'
   ·exact d' j (c j zo)
  ·rw[if_neg h0]
   refine⟨a,b,λj hj=>?_⟩
   by_cases e:j=k
   ·subst e;exact h0
   ·exact c j zo
theorem zn9 {g:List (List Int)} (yT:∀v x,x∈g.getD v []→x.toNat<g.length):(∀i,i<g.length→0≤(xb g g.length).S.part i∧(xb g g.length).S.part i<((xb g g.length).S.ZU:Int)) ∧
  (∀i j,i<g.length→j<g.length→((xb g g.length).S.part i=(xb g g.length).S.part j↔Q3 g i j=true))∧(xb g g.length).S.ZU≤g.length:=by
 obtain⟨a,b,c⟩:=Wg yT g.length (Nat.le_refl _)
 have hd:=λi (hi:i<g.length)=>a.tj.done b (c i hi)
 refine⟨λi hi=>⟨hd i hi,(a.tj.par i (hd i hi)).1⟩,λi j hi hj=>?_,?_⟩
 ·rw[a.tj.same i j (hd i hi) (hd j hj),xx]
 ·have h1:=a.tj.size
  have h2:=a.tj.seen
  omega
end
section
open Go.RowKit
def pz (l:List (Nat × Nat)):List (List D):=l.map λq=>[.sc (.int .i64 q.1),.sc (.int .i64 q.2)]
theorem zud (l:List (Nat × Nat)):yv (pz l):=zB _ (λl=>by simp[ze,Pure]) l
@[simp] theorem zyk {m:Nat} (l:List (Nat × Nat)):zD m (pz l)↔True:=⟨λ_=>trivial,λ_=>zg _ (zud l)⟩
theorem zqd {l:List (Nat × Nat)} {z k:Nat} (hz:z=k) (h:k<l.length):(pz l)[z]? = some [.sc (.int .i64 (l.getD k (0,0)).1),.sc (.int .i64 (l.getD k (0,0)).2)]:=by
 subst hz
 rw[List.getD_eq_getElem?_getD,List.getElem?_eq_getElem h]
 simp[pz,h]
theorem zyo {l:List (Nat × Nat)} {z k a b:Nat} (hz:z=k):(pz l).set z [.sc (.int .i64 a),.sc (.int .i64 b)]=pz (l.set k (a,b)):=by
 subst hz;simp[pz,List.map_set]
theorem zxs {Z:List (Nat × Nat)} {h a:Nat}:List.drop 0 (List.take h (pz Z))++List.drop 0 (List.take 1 [[D.sc (.int .i64 a),D.sc (.int .i64 0)]])=pz (Z.take h++[(a,0)]):=by simp[pz,List.map_take]
structure POK (pa:List (Nat × Nat)) (PZ:List (Nat × Nat)):Prop where
 len:pa.length≤PZ.length
 eq:PZ.take pa.length=pa.reverse
theorem POK.top {q:Nat × Nat} {r PZ:List (Nat × Nat)} (h:POK (q::r) PZ):PZ.getD r.length (0,0)=q:=by
 have h1:=h.len
 have h2:=h.eq
 simp only[List.length_cons,List.reverse_cons] at h1 h2
 have h3:(PZ.take (r.length+1)).getD r.length (0,0)=(r.reverse++[q]).getD r.length (0,0):=by rw[h2]
 rw[List.getD_eq_getElem?_getD,List.getD_eq_getElem?_getD,List.getElem?_take,if_pos zo,List.getElem?_append_right zs] at h3
 rw[List.getD_eq_getElem?_getD,h3]
 simp
theorem POK.set {q q':Nat × Nat} {r PZ:List (Nat × Nat)} (h:POK (q::r) PZ):POK (q'::r) (PZ.set r.length q') where
 len:=by have:=h.len;simpa using this
 eq:=by
  have h1:=h.len
  have h2:=h.eq
  simp only[List.length_cons,List.reverse_cons] at h1 h2 ⊢
  rw[List.take_set,h2,List.set_append_right _ _ zs]
  simp
theorem POK.push {r PZ:List (Nat × Nat)} (h:POK r PZ) (q:Nat × Nat):POK (q::r) (PZ.take r.length++[q]) where
 len:=by have:=h.len;simp;omega
 eq:=by
  have h1:=h.len
  rw[List.take_of_length_le (by simp;omega),h.eq]
  simp
theorem POK.pop {q:Nat × Nat} {r PZ:List (Nat × Nat)} (h:POK (q::r) PZ):POK r PZ where
 len:=by have:=h.len;simp at this;omega
 eq:=by
  have h2:=h.eq
  simp only[List.length_cons,List.reverse_cons] at h2
  have h3:(PZ.take (r.length+1)).take r.length=(r.reverse++[q]).take r.length:=by rw[h2]
  rw[List.take_take,Nat.min_eq_left zo,List.take_left' zs] at h3
  exact h3
def Zz (g:List (List Int)) (R:TR):List zf:=wb g R.S.num R.S.low R.S.part R.Z R.S.stack.length R.zW R.S.count R.S.ZU
theorem zfP {g:List (List Int)} {num low:Nat→Nat} {part:Nat→Int} {Z:List Int} {h zW count ZU:Nat} (X:List zf) :
  []++((wb g num low part Z h zW count ZU).map (zf.yy λi=>([]:List zf).length+i)++X)=wb g num low part Z h zW count ZU++X:=by
 have e:(λi=>([]:List zf).length+i)=λi=>0+i:=rfl
 have hg:=λρ=>yx (ρ:=ρ) _ (yc g)
 have h1:=λρ l=>yo (ρ:=ρ) _ (zB (λn:Int=>[D.sc (.int .i64 n)]) (λl=>by simp[ze,Pure]) l)
 simp only[wb,List.map_cons,List.map_nil,zf.yy,yG,hg,zI,h1,List.nil_append,List.cons_append]
 simp only[D.yy,Nat.zero_add,List.length_nil]
theorem zg5 {g:List (List Int)} {num low:Nat→Nat} {part:Nat→Int} {Z:List Int} {h zW count ZU:Nat}:wq 5 (wb g num low part Z h zW count ZU):=by
 simp[wb,wq,zf.under,zl,zp,zq _ (yc g)]
theorem Va {g:List (List Int)} {f:FuncId} {v:Int} {num low num' low':Nat→Nat} {part part':Nat→Int} {Z Z':List Int} {h zW count ZU h' ver' count' got':Nat}
  (hA:yB Tryz.prog f [.loc 3 0,.sc (.int .i64 v)] (wb g num low part Z h zW count ZU) (.yI []) (wb g num' low' part' Z' h' ver' count' got')) (X:List zf) :
  yB Tryz.prog f [.loc 3 0,.sc (.int .i64 v)] (wb g num low part Z h zW count ZU++X) (.yI []) (wb g num' low' part' Z' h' ver' count' got'++X) :=
 vg hA [] X (by simp[wb]) (by simp[wb,zl,zp]) zg5 (by simp[yG,D.yy]) (by simp[D.yy,yG]) (zfP X) (zfP X)
theorem TRI.bounds {g:List (List Int)} {R:TR} (h:TRI g R) (hn:g.length≤1000000000):R.S.stack.length≤1000000000∧R.S.count≤1000000000∧R.S.ZU≤1000000000∧R.S.path.length≤1000000000:=by
 have h1:=h.tj.size
 have h2:=h.tj.seen
 have h3:=h.tj.deep
 omega
theorem Jd {g:List (List Int)} (hn:g.length≤1000000000) {R:TR} (hI:TRI g R) {p:Nat} (hp:p∈R.S.stack) (low:Nat→Nat) (path:List (Nat × Nat)) (X:List zf) :
  yB Tryz.prog 222 [.loc 3 0,.sc (.int .i64 p)] (wb g R.S.num low R.S.part R.Z R.S.stack.length R.zW R.S.count R.S.ZU++X) (.yI []) (Zz g ⟨R.S.shut p path low,R.Z,R.zW⟩++X):=by
 have hb:=hI.bounds hn
 obtain⟨pre,post,e,e1,e2,e3⟩:=hI.tj.split hp
 have hst:∀v∈pre++p::post,v<g.length:=λv hv=>hI.tj.node v ((hI.tj.stk v).1 (e▸hv)).1
 have hl:=hI.zok.len
 have ha:=hI.zok.at_
 rw[e] at hl ha hb
 have hC:=zq7 g hn R.S.num low R.S.part R.Z pre post p R.zW R.S.count R.S.ZU hl hb.1 hb.2.2.1 ha hst e1
 have ep:zjt R.S.part (pre++[p]) R.S.ZU=(R.S.shut p path low).part:=by
  funext v
  show(if v∈pre++[p] then _ else _)=if v∈R.S.stack∧R.S.num p≤R.S.num v then _ else _
  by_cases q:v∈pre++[p]
  ·rw[if_pos q,if_pos ((e2 v).1 q)]
  ·rw[if_neg q,if_neg (λz=>q ((e2 v).2 z))]
 have es:(R.S.shut p path low).stack=post:=e3
 have:=Va hC X
 rw[ep,←e,←es] at this
 exact this
def zwH:PC:=.seq (.seq (OP [qm 15 4,Ln 16 15,Bi 17 .gtr 16 (cI 0)]) (.cond 17 .skip (.exit 0))) (.block 1 (.seq (OP [qm 18 4,qm 19 4,Ln 20 19,Bi 21 .sub 20 (cI 1),Ia 22 2 18 21,qm 5 22]) (.seq (.seq (.ops [qm 23 5,qd 24 (.zm 23) 1,qd 25 (.zv 1 24) 3,qd 26 (.zi 25) 7,qm 27 0,qd 28 (.zm 27) 16,qd 29 (.zv 0 28) 48,qd 30 (.zi 29) 112,qm 31 5,qd 32 (.zm 31) 256,qd 33 (.zv 0 32) 768,qd 34 (.zi 33) 1792,qd 35 (.zM 1 30 34) 4080,qd 36 (.zi 35) 8176,qd 37 (.len 36) 16368,qd 38 (.bin .lss 26 37) 32767] true) (.cond 38 (.seq (.ops [qm 39 0,qd 40 (.zm 39) 1,qd 41 (.zv 0 40) 3,qd 42 (.zi 41) 7,qm 43 5,qd 44 (.zm 43) 16,qd 45 (.zv 0 44) 48,qd 46 (.zi 45) 112,qd 47 (.zM 1 42 46) 255,qd 48 (.zi 47) 511,qm 49 5,qd 50 (.zm 49) 1024,qd 51 (.zv 1 50) 3072,qd 52 (.zi 51) 7168,qd 53 (.zM 1 48 52) 16383,qd 54 (.zi 53) 32767,qw 6 54 65535] true) (.seq (OP [qm 55 5,q 56 (.zm 55),Fa 57 1 56,Lo 58 57,Bi 59 .add 58 (cI 1),q 60 (.zm 55),Fa 61 1 60,So 1 61 59]) (.seq (.block 2 (.seq (OP [qm 63 0,q 64 (.zm 63),Fa 65 1 64,Lo 66 65,qm 67 6,Ia 68 1 66 67,Lo 69 68,Bi 70 .eql 69 (cI 0),qm 62 70]) (.cond 62 (.seq (OP [qm 71 0,qm 72 6,Ca 73 221 [71,72]]) (OP [qm 74 4,qm 75 6,q 76 (.build [(.int .i64 0),(.int .i64 0)] [(0,1,75),(1,1,(cI 0))]),Bs 77 2 1 [76],Ap 78 2 16 74 77,qm 4 78])) (.seq (OP [qm 80 0,q 81 (.zm 80),Fa 82 3 81,Lo 83 82,qm 84 6,Ia 85 1 83 84,Lo 86 85,Bi 87 .lss 86 (cI 0),qm 79 87]) (.cond 79 (.ops [qm 88 0,qd 89 (.zm 88) 1,qd 90 (.zv 2 89) 3,qd 91 (.zi 90) 7,qm 92 5,qd 93 (.zm 92) 16,qd 94 (.zv 0 93) 48,qd 95 (.zi 94) 112,qm 96 0,qd 97 (.zm 96) 256,qd 98 (.zv 2 97) 768,qd 99 (.zi 98) 1792,qm 100 5,qd 101 (.zm 100) 4096,qd 102 (.zv 0 101) 12288,qd 103 (.zi 102) 28672,qd 104 (.zM 1 99 103) 65280,qd 105 (.zi 104) 130816,qm 106 0,qd 107 (.zm 106) 262144,qd 108 (.zv 1 107) 786432,qd 109 (.zi 108) 1835008,qm 110 6,qd 111 (.zM 1 109 110) 8126464,qd 112 (.zi 111) 16515072,qd 113 (.mx false 105 112) 33554176,qd 114 (.zM 1 91 95) 67108863,qk (.store 1 114 113) 134217727] true) .skip))))) (.exit 1)))) .skip)) (.seq (OP [qm 115 5,q 116 (.zm 115),Fa 117 0 116,Lo 118 117,qm 7 118]) (.seq (OP [qm 119 4,qm 120 4,Ln 121 120,Bi 122 .sub 121 (cI 1),q 123 (.slc 2 119 none (some 122) none),qm 4 123]) (.seq (.seq (OP [qm 124 4,Ln 125 124,Bi 126 .gtr 125 (cI 0)]) (.cond 126 (.seq (OP [qm 127 4,qm 128 4,Ln 129 128,Bi 130 .sub 129 (cI 1),Ia 131 2 127 130,Fa 132 0 131,Lo 133 132,qm 8 133]) (.ops [qm 134 0,qd 135 (.zm 134) 1,qd 136 (.zv 2 135) 3,qd 137 (.zi 136) 7,qm 138 8,qm 139 0,qd 140 (.zm 139) 32,qd 141 (.zv 2 140) 96,qd 142 (.zi 141) 224,qm 143 8,qd 144 (.zM 1 142 143) 992,qd 145 (.zi 144) 2016,qm 146 0,qd 147 (.zm 146) 4096,qd 148 (.zv 2 147) 12288,qd 149 (.zi 148) 28672,qm 150 7,qd 151 (.zM 1 149 150) 126976,qd 152 (.zi 151) 258048,qd 153 (.mx false 145 152) 524256,qd 154 (.zM 1 137 138) 1048575,qk (.store 1 154 153) 2097151] true)) .skip)) (.seq (.ops [qm 155 0,qd 156 (.zm 155) 1,qd 157 (.zv 2 156) 3,qd 158 (.zi 157) 7,qm 159 7,qd 160 (.zM 1 158 159) 31,qd 161 (.zi 160) 63,qm 162 0,qd 163 (.zm 162) 128,qd 164 (.zv 1 163) 384,qd 165 (.zi 164) 896,qm 166 7,qd 167 (.zM 1 165 166) 3968,qd 168 (.zi 167) 8064,qd 169 (.bin .eql 161 168) 16383] true) (.cond 169 (OP [qm 170 0,qm 171 7,Ca 172 222 [170,171]]) .skip))))))))
def c171:PC:=.seq (OP [qm 9 1,q 10 (.build [(.int .i64 0),(.int .i64 0)] [(0,1,9),(1,1,(cI 0))]),Bs 11 2 1 [10],qm 4 11]) (.seq (OP [qm 12 0,qm 13 1,Ca 14 221 [12,13]]) (.block 0 (.loop zwH)))
theorem zt6:zz Tryz.prog 171 173 [] c171:=fK Tryz.func171
theorem zpg (g:List (List Int)) (hn:g.length≤1000000000) (hin0:∀l∈g,xv l g.length=true) (hF:qV g) (R:TR) (hR:TRI g R) (hp:R.S.path=[]) (v:Nat) (hv:v<g.length) (h0:R.S.num v=0) :
  yB Tryz.prog 171 [.loc 3 0,.sc (.int .i64 v)] (Zz g R) (.yI []) (Zz g (WK g R v)):=by
 have hrow:=λk=>y9 hin0 k
 have yT:∀v x,x∈g.getD v []→x.toNat<g.length:=λv x hx=>by have:=ye (hrow v) hx;omega
 have hb:=hR.bounds hn
 have hB:=Va (zju g hn R.S.num R.S.low R.S.part R.Z R.S.stack.length R.zW R.S.count R.S.ZU hR.zok.len hb.1 hb.2.1 v hv) [.vec true 0 2 (pz [(v,0)])]
 refine yp zt6 zs (by simp[Zz,wb]) ?_ (by simp[zp,zl]) Ul
 have hI0:=hR.root hp hv h0
 have eF:WK g R v=runT g (TJ.fuel g (R.open v []).S) (R.open v []):=rfl
 generalize WK g R v=Fin at *
 have eO:Zz g (R.open v [])=wb g (up R.S.num v (R.S.count+1)) (up R.S.low v (R.S.count+1)) R.S.part (R.Z.take R.S.stack.length++[(v:Int)]) (R.S.stack.length+1) (R.zW+1) (R.S.count+1) R.S.ZU:=rfl
 rw[←eO] at hB
 clear eO
 have ep:(R.open v []).S.path=[(v,0)]:=rfl
 generalize R.open v []=R0 at *
 unfold Zz wb at hB ⊢
 refine sR ?_
 refine sA hB ?_
 refine zZ [0] (λ((R,PZ,pver,k):TR × List (Nat × Nat) × Nat × Nat)=>[(4,.own 5 pver 0 R.S.path.length)]) (λ(R,PZ,pver,k)=>Zz g R++[.vec true pver 2 (pz PZ)])
  (λ(R,PZ,pver,k)=>TRI g R∧POK R.S.path PZ∧TJ.fuel g R.S≤k∧runT g k R=Fin) (λ(R,PZ,pver,k)=>TJ.fuel g R.S) (R0,[(v,0)],0,TJ.fuel g R0.S) ?_
 refine sW ?_
 refine⟨⟨hI0,by rw[ep];exact⟨zs,rfl⟩,Nat.le_refl _,eF.symm⟩,⟨by rw[ep];rfl,by exact sK⟩,rfl,?_⟩
 clear hB hI0 ep eF
 rintro⟨R,PZ,pver,k⟩ ⟨hI,hPZ,hk,hF'⟩
 have hb:=hI.bounds hn
 cases ep:R.S.path with
 | nil =>
  rw[zqG ep] at hF'
  subst hF'
  have hph:R.S.path.length=0:=by rw[ep];rfl
  unfold Zz wb
  refine sW ?_
  refine sR ?_
  rw[hph]
  refine sW ?_
  show(5:Nat)≤6
  omega
 | cons q r =>
  obtain⟨p,i⟩:=q
  have hst:=hI.tj.seg
  rw[ep] at hst hPZ
  have hps:=hst.1
  have hpn:=hI.tj.node p ((hI.tj.stk p).1 hps).1
  have hsO:=zh4 yT hI (by rw[ep];simp)
  obtain⟨k',rfl⟩:∃k',k=k'+1:=⟨k-1,by have:=hsO.2.1;omega⟩
  have hF'':runT g k' (stepT g R)=Fin:=by rw[←hF'];simp only[runT];rw[if_neg (by rw[ep];simp)]
  have hlt:=hsO.2.1
  have hI':=hsO.1
  have htop:=hPZ.top
  have hPl:=hPZ.len
  rw[ep] at hb
  simp only[List.length_cons] at hb hPl
  have hgF:=hF.at p
  have hph:R.S.path.length=r.length+1:=by rw[ep];rfl
  generalize hS':stepT g R=R' at *
  unfold Zz wb z8
  refine sW ?_
  refine sR ?_
  rw[hph]
  refine sS (λq0=>?_) λq0=>?_
  ·have hat:(pz PZ)[r.length]? = some [.sc (.int .i64 p),.sc (.int .i64 i)]:=by rw[zqd rfl zo,htop]
   refine sI ?_
   refine sB ?_
   rw[show 0+(((r.length+1-0:Nat):Int)-1).toNat=r.length by omega]
   refine⟨_,hat,?_⟩
   refine sW ?_
   refine⟨_,hat,?_⟩
   refine sW ?_
   refine sL (wG (k:=p) zo hpn) ?_
   rw[List.length_map]
   refine sS (λhi=>?_) λhi=>?_
   ·have hi:i<(g.getD p []).length:=sO
    have hx:=ye (hrow p) (yr hi)
    refine⟨_,hat,?_⟩
    refine sW ?_
    refine sL (wG (k:=p) zo hpn) ?_
    refine⟨_,hat,?_⟩
    refine sW ?_
    refine sL (yb (l:=g.getD p []) (k:=i) zo hi) ?_
    refine⟨_,hat,?_⟩
    refine sW ?_
    refine sI ?_
    refine⟨_,hat,?_⟩
    refine sW ?_
    rw[show(i:Int)+1=((i+1:Nat):Int) from rfl,zyo (k:=r.length) rfl]
    have hPS:=hPZ.set (q':=(p,i+1))
    have hSl:(PZ.set r.length (p,i+1)).length=PZ.length:=zs
    have hto:stepT g R=if R.S.num ((g.getD p []).getD i 0).toNat=0 then R.open ((g.getD p []).getD i 0).toNat ((p,i+1)::r) else ⟨R.S.skip p i r ((g.getD p []).getD i 0).toNat,R.Z,R.zW⟩:=by
     unfold stepT;rw[ep];simp only[if_pos hi]
    have hxe:∀k,k=i→(g.getD p []).getD k 0=(g.getD p []).getD i 0:=λk e=>by rw[e]
    generalize (g.getD p []).getD i 0=x at *
    obtain⟨to,rfl⟩:∃to:Nat,x=to:=⟨x.toNat,zo⟩
    rw[Int.toNat_natCast] at hto
    have htn:to<g.length:=zo
    refine sB ?_
    refine⟨_,zT to zo htn,?_⟩
    refine sW ?_
    rw[show gn R.S.num to=(R.S.num to:Int) from rfl]
    refine sS (λh1=>?_) λh1=>?_
    ·have h1:R.S.num to=0:=sO
     rw[if_pos h1,hS'] at hto
     subst hto
     have hB:=Va (zju g hn R.S.num R.S.low R.S.part R.Z R.S.stack.length R.zW R.S.count R.S.ZU hI.zok.len hb.1 hb.2.1 to htn) [.vec true pver 2 (pz (PZ.set r.length (p,i+1)))]
     unfold wb z8 at hB
     refine sA hB ?_
     refine sJ ?_
     refine⟨(R.open to ((p,i+1)::r),(PZ.set r.length (p,i+1)).take (r.length+1)++[(to,0)],pver+1,k'),⟨hI',hPS.push (to,0),zo,hF''⟩,zd,?_⟩
     refine zj 6 zs rfl sQ (sU ?_)
     exact zk zxs
    ·have h1:R.S.num to≠0:=sO
     rw[if_neg h1,hS'] at hto
     subst hto
     have hcn:=hI.tj.cnt to
     have hcp:=hI.tj.cnt p
     refine sB ?_
     refine⟨_,zT to zo htn,?_⟩
     refine sW ?_
     refine sS (λh2=>?_) λh2=>?_
     ·have h2:R.S.part to<0:=sO
      have hat':(pz (PZ.set r.length (p,i+1)))[r.length]? = some [.sc (.int .i64 p),.sc (.int .i64 ((i+1:Nat):Int))]:=by
       rw[zqd rfl zo,hPS.top]
      refine⟨_,hat',?_⟩
      refine sW ?_
      refine⟨_,hat',?_⟩
      refine sW ?_
      refine sB ?_
      refine⟨_,zT p zo hpn,?_⟩
      refine sW ?_
      refine sB ?_
      refine⟨_,zT to zo htn,?_⟩
      refine sW ?_
      refine sB ?_
      refine⟨_,zT p zo hpn,?_⟩
      refine sW ?_
      have el:(R.S.skip p i r to).low=up R.S.low p (min (R.S.low p) (R.S.num to)):=if_pos h2
      refine⟨(⟨R.S.skip p i r to,R.Z,R.zW⟩,PZ.set r.length (p,i+1),pver,k'),⟨hI',hPS,zo,hF''⟩,zd,zC (by exact sK) ?_⟩
      dsimp only
      rw[el,show min (gn R.S.low p) (gn R.S.num to)=((min (R.S.low p) (R.S.num to):Nat):Int) by unfold gn;omega,uf (k:=p) zo,zlY]
      rfl
     ·have h2:¬R.S.part to<0:=sO
      have el:(R.S.skip p i r to).low=R.S.low:=if_neg h2
      refine⟨(⟨R.S.skip p i r to,R.Z,R.zW⟩,PZ.set r.length (p,i+1),pver,k'),⟨hI',hPS,zo,hF''⟩,zd,zC (by exact sK) ?_⟩
      dsimp only
      rw[el]
      rfl
   ·have hi:(g.getD p []).length≤i:=by have:¬i<(g.getD p []).length:=sO
                                       omega
    refine⟨_,hat,?_⟩
    refine sW ?_
    refine sI ?_
    refine⟨zo,zo,zo,?_⟩
    refine sW ?_
    rw[show 0+(((r.length+1-0:Nat):Int)-1).toNat=r.length by omega]
    have hPP:=hPZ.pop
    have hpl:=hI.tj.cnt p
    have hlp:R.S.low p≤R.S.num p:=hst.2.2.2.2.1
    cases r with
    | nil =>
     have hto:stepT g R=⟨R.S.shut p [] R.S.low,R.Z,R.zW⟩:=by
      unfold stepT;rw[ep];simp only[if_neg (Nat.not_lt.2 hi)]
     rw[hS'] at hto
     refine sW ?_
     refine sB ?_
     refine⟨_,zT p zo hpn,?_⟩
     refine sW ?_
     refine sB ?_
     refine⟨_,zT p zo hpn,?_⟩
     refine sW ?_
     rw[show gn R.S.low p=(R.S.low p:Int) from rfl,show gn R.S.num p=(R.S.num p:Int) from rfl]
     have hll:=hI.tj.ziU ep
     refine sS (λh3=>?_) λh3=>?_
     ·have hC:=Jd hn hI hps R.S.low [] [.vec true pver 2 (pz PZ)]
      unfold Zz wb z8 at hC
      refine sA hC ?_
      subst hto
      refine⟨(⟨R.S.shut p [] R.S.low,R.Z,R.zW⟩,PZ,pver,k'),⟨hI',hPP,zo,hF''⟩,zd,zC (by exact sK) rfl⟩
     ·exfalso;exact sO
    | cons q r =>
     obtain⟨q,j⟩:=q
     have hqp:=hst.2.2.2.2.2.2.2.2
     have hqs:=hqp.1
     have hqn:=hI.tj.node q ((hI.tj.stk q).1 hqs).1
     have hne:p≠q:=λe=>by
      have:=hqp.2.1
      rw[e] at this
      omega
     have hto:stepT g R=if R.S.low p=R.S.num p then ⟨R.S.shut p ((q,j)::r) (up R.S.low q (min (R.S.low q) (R.S.low p))),R.Z,R.zW⟩ else ⟨R.S.back p q j r,R.Z,R.zW⟩:=by
      unfold stepT;rw[ep];simp only[if_neg (Nat.not_lt.2 hi)]
     rw[hS'] at hto
     have hat2:(pz PZ)[r.length]? = some [.sc (.int .i64 q),.sc (.int .i64 j)]:=by rw[zqd rfl (by simp at hPl;omega),hPP.top]
     rw[List.length_cons] at hPl hb
     rw[List.length_cons]
     refine sS (λq5=>?_) λq5=>?_
     ·refine sI ?_
      refine sB ?_
      rw[show 0+(((r.length+1-(0+0):Nat):Int)-1).toNat=r.length by omega]
      refine⟨_,hat2,?_⟩
      refine sW ?_
      refine sB ?_
      refine⟨_,zT q zo hqn,?_⟩
      refine sW ?_
      refine sB ?_
      refine⟨_,zT p zo hpn,?_⟩
      refine sW ?_
      refine sB ?_
      refine⟨_,zT q zo hqn,?_⟩
      refine sW ?_
      rw[show min (gn R.S.low q) (gn R.S.low p)=((min (R.S.low q) (R.S.low p):Nat):Int) by unfold gn;omega,uf (k:=q) zo,zlY]
      refine sB ?_
      refine⟨_,zT p zo hpn,?_⟩
      refine sW ?_
      refine sB ?_
      refine⟨_,zT p zo hpn,?_⟩
      refine sW ?_
      rw[show gn (up R.S.low q (min (R.S.low q) (R.S.low p))) p=(R.S.low p:Int) by unfold gn;rw[vp hne],show gn R.S.num p=(R.S.num p:Int) from rfl]
      refine sS (λh3=>?_) λh3=>?_
      ·have h3:R.S.low p=R.S.num p:=sO
       rw[if_pos h3] at hto
       have hC:=Jd hn hI hps (up R.S.low q (min (R.S.low q) (R.S.low p))) ((q,j)::r) [.vec true pver 2 (pz PZ)]
       unfold Zz wb z8 at hC
       refine sA hC ?_
       subst hto
       refine⟨(⟨R.S.shut p ((q,j)::r) (up R.S.low q (min (R.S.low q) (R.S.low p))),R.Z,R.zW⟩,PZ,pver,k'),⟨hI',hPP,zo,hF''⟩,zd,zC (by exact sK) rfl⟩
      ·have h3:R.S.low p≠R.S.num p:=sO
       rw[if_neg h3] at hto
       subst hto
       refine⟨(⟨R.S.back p q j r,R.Z,R.zW⟩,PZ,pver,k'),⟨hI',hPP,zo,hF''⟩,zd,zC (by exact sK) rfl⟩
     ·exfalso;exact sO
  ·exfalso;exact sO
end
section
open Go.RowKit
noncomputable def zH (g:List (List Int)):Nat→Int:=gn (Ud (Q3 g))
noncomputable def uN (g:List (List Int)):List Int:=gl g.length (zH g)
def zja (same:Nat→Nat→Bool) (part:Nat→Int) (name:Nat→Int) (k:Nat):Prop:=∀i:Nat,(∃b,b<k∧part b=(i:Int)∧name i=(Ud same b:Int)+1)∨((∀b,b<k→part b≠(i:Int))∧name i=0)
theorem zoW {same:Nat→Nat→Bool} {part:Nat→Int} {name:Nat→Int} {n k:Nat} (hk:k<n) (h:zja same part name k) (hp:∀i,i<n→0≤part i) (hs:∀i j,i<n→j<n→(part i=part j↔same i j=true)) (h0:name (part k).toNat=0) :
  Ud same k=ZR same k∧ZR same (k+1)=ZR same k+1∧zja same part (X2 name (part k).toNat ((ZR same k:Int)+1)) (k+1):=by
 have hk0:=hp k hk
 have hno:∀c,c<k→same c k=false:=λc hc=>by
  rw[Bool.eq_false_iff]
  intro q
  have e:=(hs c k zo hk).2 q
  rcases h (part k).toNat with⟨b,b1,b2,b3⟩|⟨b1,b2⟩
  ·omega
  ·exact b1 c hc zo
 obtain⟨e1,e2⟩:=zeD hno
 refine⟨e1,by simp[ZR,e2],λi=>?_⟩
 unfold X2
 by_cases e:i=(part k).toNat
 ·left
  refine⟨k,zo,zo,by rw[if_pos e,e1]⟩
 ·rw[if_neg e]
  rcases h i with⟨b,b1,b2,b3⟩|⟨b1,b2⟩
  ·exact .inl ⟨b,zo,b2,b3⟩
  ·refine .inr ⟨λb hb q=>?_,b2⟩
   by_cases eb:b=k
   ·subst eb;omega
   ·exact b1 b zo q
theorem zoa {same:Nat→Nat→Bool} {part:Nat→Int} {name:Nat→Int} {n k:Nat} (he:Eqv same n) (hk:k<n) (h:zja same part name k) (hp:∀i,i<n→0≤part i) (hs:∀i j,i<n→j<n→(part i=part j↔same i j=true)) (h0:name (part k).toNat≠0) :
  name (part k).toNat=(Ud same k:Int)+1∧ZR same (k+1)=ZR same k∧zja same part name (k+1):=by
 have hk0:=hp k hk
 rcases h (part k).toNat with⟨b,b1,b2,b3⟩|⟨b1,b2⟩
 ·obtain⟨e1,e2⟩:=zcP he hk b1 ((hs b k zo hk).1 zo)
  refine⟨by rw[b3,e1],by simp[ZR,e2],λi=>?_⟩
  rcases h i with⟨c,c1,c2,c3⟩|⟨c1,c2⟩
  ·exact .inl ⟨c,zo,c2,c3⟩
  ·refine .inr ⟨λc hc q=>?_,c2⟩
   by_cases ec:c=k
   ·subst ec
    have:i=(part c).toNat:=zo
    subst this
    exact h0 c2
   ·exact c1 c zo q
 ·exact absurd b2 h0
def zxO:PC:=.seq (OP [Bi 24 .lss 23 22]) (.seq (.cond 24 .skip (.exit 0)) (.seq (.block 1 (.seq (OP [qm 25 23,qm 5 25]) (OP [qm 26 4,q 27 (.zm 26),Fa 28 3 27,Lo 29 28,qm 30 5,Ia 31 1 29 30,So 1 31 (cI (-1))]))) (OP [Bi 32 .add 23 (cI 1),qm 23 32])))
def zvT:PC:=.seq (OP [Bi 35 .lss 34 33]) (.seq (.cond 35 .skip (.exit 2)) (.seq (.block 3 (.seq (OP [qm 36 34,qm 6 36]) (.seq (OP [qm 37 4,q 38 (.zm 37),Fa 39 1 38,Lo 40 39,qm 41 6,Ia 42 1 40 41,Lo 43 42,Bi 44 .eql 43 (cI 0)]) (.cond 44 (OP [qm 45 4,qm 46 6,Ca 47 171 [45,46]]) .skip)))) (OP [Bi 48 .add 34 (cI 1),qm 34 48])))
def zyD:PC:=.seq (OP [Bi 58 .lss 57 56]) (.seq (.cond 58 .skip (.exit 4)) (.seq (.block 5 (.seq (OP [qm 59 57,qm 10 59]) (.seq (.seq (OP [qm 60 7,qm 61 4,q 62 (.zm 61),Fa 63 3 62,Lo 64 63,qm 65 10,Ia 66 1 64 65,Lo 67 66,Ia 68 1 60 67,Lo 69 68,Bi 70 .eql 69 (cI 0)]) (.cond 70 (.seq (OP [qm 71 8,Bi 72 .add 71 (cI 1),qm 8 72]) (OP [qm 73 7,qm 74 4,q 75 (.zm 74),Fa 76 3 75,Lo 77 76,qm 78 10,Ia 79 1 77 78,Lo 80 79,qm 81 8,Ia 82 1 73 80,So 1 82 81])) .skip)) (OP [qm 83 9,qm 84 10,qm 85 7,qm 86 4,q 87 (.zm 86),Fa 88 3 87,Lo 89 88,qm 90 10,Ia 91 1 89 90,Lo 92 91,Ia 93 1 85 92,Lo 94 93,Bi 95 .sub 94 (cI 1),Ia 96 1 83 84,So 1 96 95])))) (OP [Bi 97 .add 57 (cI 1),qm 57 97])))
def c102:PC:=.seq (OP [Mv 2 cN]) (.seq (OP [qm 11 0,Ln 12 11,qm 3 12]) (.seq (.ops [qm 13 0,qm 14 3,qd 15 (.x5 1 8 [(.int .i64 0)] 14 14) 2,qm 16 3,qd 17 (.x5 1 8 [(.int .i64 0)] 16 16) 8,qm 18 3,qd 19 (.x5 1 8 [(.int .i64 0)] 18 18) 32,qd 20 (.build [(.slice none 0 0),(.slice none 0 0),(.slice none 0 0),(.slice none 0 0),(.slice none 0 0),(.int .i64 0),(.int .i64 0)] [(0,1,13),(1,1,15),(2,1,17),(3,1,19)]) 127,qd 21 (.box 20) 255,qw 4 21 511] true) (.seq (.seq (OP [qm 22 3,Mv 23 (cI 0)]) (.block 0 (.loop zxO))) (.seq (.seq (OP [qm 33 3,Mv 34 (cI 0)]) (.block 2 (.loop zvT))) (.seq (OP [qm 49 4,q 50 (.zm 49),Fa 51 6 50,Lo 52 51,q 53 (.x5 1 8 [(.int .i64 0)] 52 52),qm 7 53]) (.seq (OP [Mv 8 (cI 0)]) (.seq (OP [qm 54 3,q 55 (.x5 1 8 [(.int .i64 0)] 54 54),qm 9 55]) (.seq (.seq (OP [qm 56 3,Mv 57 (cI 0)]) (.block 4 (.loop zyD))) (.seq (OP [qm 98 9,qm 2 98]) .ret)))))))))
theorem zr7:zz Tryz.prog 102 99 [.tmp 2] c102:=fK Tryz.func102
theorem zn0 (g:List (List Int)) (hn:g.length≤1000000000) (hin0:∀l∈g,xv l g.length=true) (hF:qV g):zu Tryz.prog 102 [z8 g] (zw (uN g)):=by
 have hrow:=λk=>y9 hin0 k
 have yT:∀v x,x∈g.getD v []→x.toNat<g.length:=λv x hx=>by have:=ye (hrow v) hx;omega
 refine zb zr7 zs (by simp[ze,yc]) ?_ (zh _)
 have hV:=λk (hk:k<g.length) h0=>zpg g hn hin0 hF (xb g k) (Wg yT k zo).1 (Wg yT k zo).2.1 k hk h0
 have hSp:=λk hk=>Wg yT k hk
 have e00:∀k,List.replicate k (List.map D.sc [Value.int .i64 0])=zI (gl k λ_=>0):=zal
 unfold z8
 refine sR ?_
 rw[List.length_map]
 refine⟨zo,zo,zo,?_⟩
 rw[Int.toNat_natCast]
 refine sW ?_
 refine⟨zo,zo,zo,?_⟩
 rw[Int.toNat_natCast]
 refine sW ?_
 refine⟨zo,zo,zo,?_⟩
 rw[Int.toNat_natCast]
 refine sW ?_
 refine zL [3,4,22] (λk:Nat=>[(23,.sc (.int .i64 k))]) (λk=>[(2,.vec true 0 1 (zI (gl g.length λi=>if i<k then -1 else 0)))]) (λk=>k≤g.length) (λk=>g.length-k) 0 ?_
 refine sW ?_
 refine⟨zo,by exact sK,by rw[e00];simp;rfl,?_⟩
 rintro k hk
 refine sW ?_
 refine sR ?_
 refine sS (λq0=>?_) λq0=>?_
 ·have q0:k<g.length:=sO
  refine sB ?_
  refine⟨_,zT k zo q0,?_⟩
  refine sW ?_
  refine sI ?_
  refine⟨k+1,zo,zd,zC (by exact sK) ?_⟩
  rw[uf (k:=k) zo,vc (g':=λi=>if i<k+1 then -1 else 0) λi _=>by
   show X2 (λi=>if i<k then -1 else 0) k (-1) i=if i<k+1 then -1 else 0
   unfold X2
   by_cases e:i=k
   ·subst e;simp
   ·by_cases e2:i<k
    ·rw[if_neg e,if_pos (show i<k+1 by omega)];exact if_pos e2
    ·rw[if_neg e,if_neg (show ¬i<k+1 by omega)];exact if_neg e2]
  rfl
 have q0:k=g.length:=by have:¬k<g.length:=sO
                        omega
 subst q0
 rw[vc (g':=λ_=>-1) λi hi=>if_pos hi]
 refine zE (yP 3 4 1 zs rfl rfl) ?_
 have e0:List.replicate g.length (List.map D.sc [Value.int .i64 0])=zI (gl g.length (gn λ_=>0)):=zal _
 rw[e0]
 refine zZ [3,4,33] (λk:Nat=>[(34,.sc (.int .i64 k))]) (λk=>Zz g (xb g k)) (λk=>k≤g.length) (λk=>g.length-k) 0 ?_
 refine sW ?_
 refine⟨zo,by exact sK,rfl,?_⟩
 rintro k hk
 obtain⟨s1,s2,s3⟩:=hSp k hk
 unfold Zz wb z8 at hV ⊢
 refine sW ?_
 refine sR ?_
 refine sS (λq0=>?_) λq0=>?_
 ·have q0:k<g.length:=sO
  have hVk:=hV k q0
  refine sB ?_
  refine⟨_,zT k zo q0,?_⟩
  refine sW ?_
  rw[show gn (xb g k).S.num k=((xb g k).S.num k:Int) from rfl]
  refine sS (λh0=>?_) λh0=>?_
  ·have h0:(xb g k).S.num k=0:=sO
   refine sA (hVk h0) ?_
   refine sI ?_
   refine⟨k+1,zo,zd,zC (by exact sK) ?_⟩
   dsimp only
   rw[show xb g (k+1)=WK g (xb g k) k from if_pos h0]
  ·have h0:¬(xb g k).S.num k=0:=sO
   refine sI ?_
   refine⟨k+1,zo,zd,zC (by exact sK) ?_⟩
   dsimp only
   rw[show xb g (k+1)=xb g k from if_neg h0]
 have q0:k=g.length:=by have:¬k<g.length:=sO
                        omega
 subst q0
 obtain⟨f1,f2,f3⟩:=zn9 yT
 clear hV hSp s1 s2 s3 e0
 generalize (xb g g.length).S.num=num at *
 generalize (xb g g.length).S.low=low at *
 generalize (xb g g.length).S.part=part at *
 generalize (xb g g.length).S.ZU=ZU at *
 generalize (xb g g.length).S.count=count at *
 generalize (xb g g.length).S.stack.length=h at *
 generalize (xb g g.length).zW=zW at *
 generalize (xb g g.length).Z=Z at *
 refine⟨zo,zo,zo,?_⟩
 rw[Int.toNat_natCast]
 refine sW ?_
 refine⟨zo,zo,zo,?_⟩
 rw[Int.toNat_natCast]
 refine sW ?_
 have e0:∀k,List.replicate k (List.map D.sc [Value.int .i64 0])=zI (gl k λ_=>0):=zal
 rw[e0,e0]
 have hq:=zgK g g.length
 have hp:=λi hi=>(f1 i hi).1
 refine zL [4,7,9,56] (λ((k,name):Nat × (Nat→Int))=>[(8,.sc (.int .i64 ((ZR (Q3 g) k:Nat):Int))),(57,.sc (.int .i64 k))]) (λ(k,name)=>[(5,.vec true 0 1 (zI (gl ZU name))),(6,.vec true 0 1 (zI (gl g.length λi=>if i<k then zH g i else 0)))])
  (λ(k,name)=>k≤g.length∧zja (Q3 g) part name k) (λ(k,name)=>g.length-k) (0,λ_=>0) ?_
 refine sW ?_
 refine⟨⟨zo,λi=>.inr ⟨λb hb=>zo,rfl⟩⟩,by exact sK,by simp;rfl,?_⟩
 rintro⟨k,name⟩ ⟨hk,hN⟩
 have hpc:=zhi (Q3 g) k
 refine sW ?_
 refine sR ?_
 refine sS (λq0=>?_) λq0=>?_
 ·have q0:k<g.length:=sO
  have hpk:=f1 k q0
  have hnew:=zoW q0 hN hp f2
  have hold:=zoa hq q0 hN hp f2
  obtain⟨pk,hpk'⟩:∃pk:Nat,part k=pk:=⟨(part k).toNat,zo⟩
  rw[hpk'] at hpk hnew hold
  rw[Int.toNat_natCast] at hnew hold
  refine sB ?_
  refine⟨_,zT k zo q0,?_⟩
  rw[hpk']
  refine sW ?_
  refine sB ?_
  refine⟨_,zT pk zo zo,?_⟩
  refine sW ?_
  have hout:∀v,v=zH g k→zI (gl g.length (X2 (λi=>if i<k then zH g i else 0) k v))=zI (gl g.length λi=>if i<k+1 then zH g i else 0):=λv hv=>by
   rw[vc λi _=>?_]
   show X2 (λi=>if i<k then zH g i else 0) k v i=if i<k+1 then zH g i else 0
   unfold X2
   by_cases e:i=k
   ·subst e;rw[if_pos rfl,if_pos zo,hv]
   ·by_cases e2:i<k
    ·rw[if_neg e,if_pos (show i<k+1 by omega)];exact if_pos e2
    ·rw[if_neg e,if_neg (show ¬i<k+1 by omega)];exact if_neg e2
  refine sS (λh0=>?_) λh0=>?_
  ·have h0:name pk=0:=sO
   obtain⟨n1,n2,n3⟩:=hnew h0
   refine sI ?_
   refine sB ?_
   refine⟨_,zT k zo q0,?_⟩
   rw[hpk']
   refine sW ?_
   refine sB ?_
   refine⟨_,zT pk zo zo,?_⟩
   refine sW ?_
   rw[uf (k:=pk) zo]
   refine sB ?_
   refine⟨_,zT k zo q0,?_⟩
   rw[hpk']
   refine sW ?_
   refine sB ?_
   refine⟨_,zT pk zo zo,?_⟩
   refine sW ?_
   rw[uC]
   refine sI ?_
   refine sB ?_
   refine⟨_,zT k zo q0,?_⟩
   refine sW ?_
   refine sI ?_
   have e8:D.sc (.int .i64 (((ZR (Q3 g) k:Nat):Int)+1))=D.sc (.int .i64 ((ZR (Q3 g) (k+1):Nat):Int)):=by rw[n2];rfl
   refine⟨(k+1,X2 name pk ((ZR (Q3 g) k:Int)+1)),⟨zo,n3⟩,zd,zC ⟨e8,by exact sK⟩ ?_⟩
   dsimp only
   rw[uf (k:=k) zo,hout _ (by unfold zH gn;rw[n1];omega)]
   rfl
  ·have h0:¬name pk=0:=sO
   obtain⟨n1,n2,n3⟩:=hold h0
   refine sB ?_
   refine⟨_,zT k zo q0,?_⟩
   rw[hpk']
   refine sW ?_
   refine sB ?_
   refine⟨_,zT pk zo zo,?_⟩
   refine sW ?_
   have hpl:=zl3 hq q0
   rw[n1]
   refine sI ?_
   refine sB ?_
   refine⟨_,zT k zo q0,?_⟩
   refine sW ?_
   refine sI ?_
   have e8:D.sc (.int .i64 ((ZR (Q3 g) k:Nat):Int))=D.sc (.int .i64 ((ZR (Q3 g) (k+1):Nat):Int)):=by rw[n2]
   refine⟨(k+1,name),⟨zo,n3⟩,zd,zC ⟨e8,by exact sK⟩ ?_⟩
   dsimp only
   rw[uf (k:=k) zo,hout _ (by unfold zH gn;omega)]
   rfl
 ·have q0:k=g.length:=by have:¬k<g.length:=sO
                         omega
  subst q0
  rw[vc (g':=zH g) λi hi=>if_pos hi]
  exact J8 rfl
end
section
section
def Wlk (g:List (List Int)) (to:Nat→Bool):Nat→Nat→Prop
 | 0,v=>to v=true
 | d+1,v=>∃x,x∈g.getD v []∧Wlk g to d x.toNat
def Far (g:List (List Int)) (to:Nat→Bool) (v d:Nat):Prop:=Wlk g to d v∧∀e,e<d→¬Wlk g to e v
theorem Jc {g:List (List Int)} {to:Nat→Bool} {v d e:Nat} (h:Far g to v d) (k:Far g to v e):d=e:=by
 rcases Nat.lt_trichotomy d e with q|q|q
 ·exact absurd h.1 (k.2 d q)
 ·exact q
 ·exact absurd k.1 (h.2 e q)
theorem zqT {g:List (List Int)} {to:Nat→Bool} {v:Nat}:∀{d:Nat},Wlk g to d v→∃e,e≤d∧Far g to v e
 | d,h=>by
  induction d using Nat.strongRecOn with
  | ind d ih =>
   by_cases q:∃e,e<d∧Wlk g to e v
   ·obtain⟨e,h1,h2⟩:=q
    obtain⟨f,h3,h4⟩:=ih e h1 h2
    exact⟨f,zo,h4⟩
   ·exact⟨d,Nat.le_refl _,h,λe he w=>q ⟨e,he,w⟩⟩
theorem zj4 {g:List (List Int)} {to:Nat→Bool} {v:Nat}:Far g to v 0↔to v=true:=⟨λh=>h.1,λh=>⟨h,λe he=>zo⟩⟩
theorem JA {g:List (List Int)} {to:Nat→Bool} {v d:Nat} (h:Far g to v (d+1)):∃x,x∈g.getD v []∧Far g to x.toNat d:=by
 obtain⟨x,h1,h2⟩:=h.1
 obtain⟨e,h3,h4⟩:=zqT h2
 by_cases q:e=d
 ·subst q;exact⟨x,h1,h4⟩
 ·exact absurd ⟨x,h1,h4.1⟩ (h.2 (e+1) zo)
theorem zrv {g:List (List Int)} {to:Nat→Bool} {v d:Nat} {x:Int} (hx:x∈g.getD v []) (h:Far g to x.toNat d):∃e,e≤d+1∧Far g to v e:=zqT (d:=d+1) ⟨x,hx,h.1⟩
theorem zup {g:List (List Int)} {to:Nat→Bool} {v d:Nat}:Far g to v (d+1)↔(∃x,x∈g.getD v []∧Far g to x.toNat d)∧∀e,e≤d→¬Far g to v e:=by
 constructor
 ·intro h
  exact⟨JA h,λe he k=>by have:=Jc h k;omega⟩
 ·rintro⟨⟨x,h1,h2⟩,h3⟩
  obtain⟨e,h4,h5⟩:=zrv h1 h2
  by_cases q:e=d+1
  ·subst q;exact h5
  ·exact absurd h5 (h3 e zo)
theorem zl6 {g:List (List Int)} {to:Nat→Bool} {n:Nat} (yT:∀v x,x∈g.getD v []→x.toNat<n):∀{d v:Nat},v<n→Far g to v d→∀e,e≤d→∃u,u<n∧Far g to u e
 | 0,v,hv,h,e,he=>⟨v,hv,by rw[show e=0 by omega];exact h⟩
 | d+1,v,hv,h,e,he=>by
  by_cases q:e=d+1
  ·subst q;exact⟨v,hv,h⟩
  ·obtain⟨x,h1,h2⟩:=JA h
   exact zl6 yT (yT v x h1) h2 e zo
theorem zx1 {g:List (List Int)} {to:Nat→Bool} {n d v:Nat} (yT:∀v x,x∈g.getD v []→x.toNat<n) (hv:v<n) (h:Far g to v d):d<n:=by
 have key:∀k,k≤d+1→∃s:Nat→Bool,xu s n+k≤n∧∀u,s u=true→∃e,e<k∧Far g to u e:=by
  intro k
  induction k with
  | zero=>intro _;exact⟨λ_=>false,by have:=YS (λ_=>false) n;omega,λu hu=>by cases hu⟩
  | succ k ih =>
   intro hk
   obtain⟨s,h1,h2⟩:=ih zo
   obtain⟨u,h3,h4⟩:=zl6 yT hv h k zo
   have hs:s u=false:=by
    cases q:s u with
    | false=>rfl
    | true =>
     obtain⟨e,h5,h6⟩:=h2 u q
     have:=Jc h4 h6
     omega
   have:=YQ (s:=s) (s':=mark s u) h3 (λj _ hj=>wP hj) hs (vN _ _)
   refine⟨mark s u,zo,λw hw=>?_⟩
   rcases Xb.1 hw with rfl|hw
   ·exact⟨k,zo,h4⟩
   ·obtain⟨e,h5,h6⟩:=h2 w hw
    exact⟨e,zo,h6⟩
 obtain⟨s,h1,_⟩:=key (d+1) (Nat.le_refl _)
 omega
end
section
structure Bfs (g:List (List Int)) (to:Nat→Bool) (o:Nat→Int) (Q:List Nat):Prop where
 sound:∀n,0≤o n→Far g to n (o n).toNat
 node:∀n∈Q,0≤o n
 sort:∀i j,i<j→j<Q.length→o (Q.getD i 0)≤o (Q.getD j 0)∧o (Q.getD j 0)≤o (Q.getD i 0)+1
 done:∀n,0≤o n→n∈Q∨∀k x,x∈g.getD k []→x.toNat=n→0≤o k
 all:∀n d,Far g to n d→(∀q∈Q,(d:Int)≤o q)→0≤o n
structure zeW (g:List (List Int)) (to:Nat→Bool) (o:Nat→Int) (Q:List Nat) (n:Nat) (B:List Nat):Prop where
 sound:∀n,0≤o n→Far g to n (o n).toNat
 node:∀n∈Q,0≤o n
 here:0≤o n
 low:∀q∈Q,o n≤o q∧o q≤o n+1
 sort:∀i j,i<j→j<Q.length→o (Q.getD i 0)≤o (Q.getD j 0)
 done:∀m,0≤o m→m∈Q∨(m=n∧∀k∈B,0≤o k)∨(m≠n∧∀k x,x∈g.getD k []→x.toNat=m→0≤o k)
 all:∀m d,Far g to m d→(d:Int)≤o n→0≤o m
theorem zeW.skip {g:List (List Int)} {to:Nat→Bool} {o:Nat→Int} {Q:List Nat} {n:Nat} {B:List Nat} {k:Nat} (h:zeW g to o Q n B) (hk:0≤o k):zeW g to o Q n (B++[k]) where
 sound:=h.sound
 node:=h.node
 here:=h.here
 low:=h.low
 sort:=h.sort
 done m hm:=by
  rcases h.done m hm with q|⟨rfl,q⟩|q
  ·exact .inl q
  ·refine .inr (.inl ⟨rfl,λj hj=>?_⟩)
   rcases List.mem_append.1 hj with w|w
   ·exact q j w
   ·rw[List.mem_singleton] at w;subst w;exact hk
  ·exact .inr (.inr q)
 all:=h.all
theorem zae {l r:List Nat} {a:Nat} (h:a<l.length):(l++r).getD a 0=l.getD a 0:=by
 rw[List.getD_eq_getElem?_getD,List.getD_eq_getElem?_getD,List.getElem?_append_left h]
theorem zkY {l:List Nat} {x:Nat}:(l++[x]).getD l.length 0=x:=by
 rw[List.getD_eq_getElem?_getD,List.getElem?_append_right (Nat.le_refl _),Nat.sub_self]
 rfl
theorem qD {l:List Nat} {k:Nat} (h:k<l.length):l.getD k 0∈l:=by
 rw[List.getD_eq_getElem?_getD,List.getElem?_eq_getElem h];exact List.getElem_mem h
def zaP (o:Nat→Int) (k:Nat) (v:Int):Nat→Int:=λi=>if i=k then v else o i
theorem XR {o:Nat→Int} {k i:Nat} {v:Int} (h:i≠k):zaP o k v i=o i:=by simp[zaP,h]
@[simp] theorem uE (o:Nat→Int) (k:Nat) (v:Int):zaP o k v k=v:=by simp[zaP]
theorem zeW.push {g:List (List Int)} {to:Nat→Bool} {o:Nat→Int} {Q:List Nat} {n:Nat} {B:List Nat} {k:Nat} {x:Int} (h:zeW g to o Q n B) (hk:o k<0) (hx:x∈g.getD k []) (hn:x.toNat=n) :
  zeW g to (zaP o k (o n+1)) (Q++[k]) n (B++[k]):=by
 have hkn:k≠n:=λe=>by subst e;have:=h.here;omega
 have old:∀m,0≤o m→zaP o k (o n+1) m=o m:=λm hm=>XR λe=>by subst e;omega
 have en:zaP o k (o n+1) n=o n:=old n h.here
 have ge:∀m,0≤zaP o k (o n+1) m→m=k∨0≤o m:=λm hm=>by
  by_cases e:m=k
  ·exact .inl e
  ·rw[XR e] at hm;exact .inr hm
 have up:∀m,0≤o m→0≤zaP o k (o n+1) m:=λm hm=>by rw[old m hm];exact hm
 have hfar:Far g to k ((o n).toNat+1):=by
  refine zup.2 ⟨⟨x,hx,by rw[hn];exact h.sound n h.here⟩,λe he w=>?_⟩
  have:=h.all k e w (by have:=h.here;omega)
  omega
 have h0:=h.here
 constructor
 ·intro m hm
  rcases ge m hm with rfl|q
  ·rw[uE,show(o n+1).toNat=(o n).toNat+1 by omega];exact hfar
  ·rw[old m q];exact h.sound m q
 ·intro m hm
  rcases List.mem_append.1 hm with w|w
  ·exact up m (h.node m w)
  ·rw[List.mem_singleton] at w;subst w;rw[uE];omega
 ·rw[en];exact h0
 ·intro q hq
  rw[en]
  rcases List.mem_append.1 hq with w|w
  ·rw[old q (h.node q w)];exact h.low q w
  ·rw[List.mem_singleton] at w;subst w;rw[uE];omega
 ·intro i j hij hj
  rw[List.length_append,List.length_singleton] at hj
  by_cases e:j=Q.length
  ·subst e
   rw[zae hij,zkY,uE,old _ (h.node _ (qD hij))]
   exact(h.low _ (qD hij)).2
  ·rw[zae zo,zae zo,old _ (h.node _ (qD zo)),old _ (h.node _ (qD zo))]
   exact h.sort i j hij zo
 ·intro m hm
  rcases ge m hm with rfl|q
  ·exact .inl zs
  ·rcases h.done m q with w|⟨rfl,w⟩|⟨w,w2⟩
   ·exact .inl (List.mem_append_left _ w)
   ·refine .inr (.inl ⟨rfl,λj hj=>?_⟩)
    rcases List.mem_append.1 hj with z|z
    ·exact up j (w j z)
    ·rw[List.mem_singleton] at z;subst z;rw[uE];omega
   ·exact .inr (.inr ⟨w,λj y h1 h2=>up j (w2 j y h1 h2)⟩)
 ·intro m d h1 h2
  rw[en] at h2
  exact up m (h.all m d h1 h2)
theorem Bfs.pop {g:List (List Int)} {to:Nat→Bool} {o:Nat→Int} {Q:List Nat} {n:Nat} (h:Bfs g to o (n::Q)):zeW g to o Q n [] where
 sound:=h.sound
 node m hm:=h.node m (List.mem_cons_of_mem _ hm)
 here:=h.node n List.mem_cons_self
 low q hq:=by
  obtain⟨k,hk,rfl⟩:=List.mem_iff_getElem.1 hq
  have:=h.sort 0 (k+1) zo (by simp;omega)
  simpa [List.getD_eq_getElem?_getD,List.getElem?_eq_getElem hk] using this
 sort i j hij hj:=by
  have:=(h.sort (i+1) (j+1) zo (by simp;omega)).1
  simpa using this
 done m hm:=by
  rcases h.done m hm with q|q
  ·rcases List.mem_cons.1 q with q|q
   ·exact .inr (.inl ⟨q,λk hk=>by cases hk⟩)
   ·exact .inl q
  ·by_cases e:m=n
   ·exact .inr (.inl ⟨e,λk hk=>by cases hk⟩)
   ·exact .inr (.inr ⟨e,q⟩)
 all m d h1 h2:=h.all m d h1 λq hq=>by
  rcases List.mem_cons.1 hq with w|w
  ·subst w;exact h2
  ·obtain⟨k,hk,rfl⟩:=List.mem_iff_getElem.1 w
   have:=(h.sort 0 (k+1) zo (by simp;omega)).1
   have e:(n::Q).getD (k+1) 0=Q[k]:=by simp[List.getD_eq_getElem?_getD,List.getElem?_eq_getElem hk]
   rw[e] at this
   have e0:(n::Q).getD 0 0=n:=rfl
   rw[e0] at this
   omega
theorem zeW.fin {g:List (List Int)} {to:Nat→Bool} {o:Nat→Int} {Q:List Nat} {n:Nat} {B:List Nat} (h:zeW g to o Q n B) (hB:∀k x,x∈g.getD k []→x.toNat=n→k∈B):Bfs g to o Q where
 sound:=h.sound
 node:=h.node
 sort i j hij hj:=by
  have h1:=h.sort i j hij hj
  have h2:=h.low _ (qD (l:=Q) (k:=i) zo)
  have h3:=h.low _ (qD hj)
  omega
 done m hm:=by
  rcases h.done m hm with q|⟨rfl,q⟩|⟨_,q⟩
  ·exact .inl q
  ·exact .inr λk x h1 h2=>q k (hB k x h1 h2)
  ·exact .inr q
 all m d h1 h2:=by
  have step:∀d m,Far g to m d→(∀q∈Q,(d:Int)≤o q)→0≤o m:=by
   intro d
   induction d using Nat.strongRecOn with
   | ind d ih =>
    intro m h1 h2
    by_cases e:(d:Int)≤o n
    ·exact h.all m d h1 e
    ·cases d with
     | zero=>exfalso;have:=h.here;omega
     | succ d =>
      obtain⟨x,hx,hf⟩:=JA h1
      have hx0:0≤o x.toNat:=ih d zo x.toNat hf λq hq=>by have:=h2 q hq;omega
      have ex:=Jc hf (h.sound _ hx0)
      rcases h.done x.toNat hx0 with q|⟨q1,q2⟩|⟨_,q⟩
      ·have:=h2 _ q
       omega
      ·exact q2 m (hB m x hx q1)
      ·exact q m x hx rfl
  exact step d m h1 h2
theorem Bfs.fin {g:List (List Int)} {to:Nat→Bool} {o:Nat→Int} (h:Bfs g to o []) {n d:Nat}:Far g to n d↔o n=d:=by
 constructor
 ·intro k
  have h1:=h.all n d k λq hq=>by cases hq
  have:=Jc k (h.sound n h1)
  omega
 ·intro k
  have:=h.sound n zo
  rw[k,Int.toNat_natCast] at this
  exact this
theorem Bfs.begin {g:List (List Int)} {to:Nat→Bool} {o:Nat→Int} {Q:List Nat} (ho:∀n,o n=if to n=true∧n∈Q then 0 else -1) (hQ:∀n,to n=true↔n∈Q):Bfs g to o Q where
 sound n hn:=by
  rw[ho] at hn
  split at hn
  ·rename_i q
   rw[ho,if_pos q]
   exact zj4.2 q.1
  ·omega
 node n hn:=by rw[ho,if_pos ⟨(hQ n).2 hn,hn⟩];exact Int.le_refl _
 sort i j hij hj:=by
  have h1:=qD (l:=Q) (k:=i) zo
  have h2:=qD (l:=Q) (k:=j) hj
  rw[ho (Q.getD i 0),ho (Q.getD j 0),if_pos ⟨(hQ _).2 h1,h1⟩,if_pos ⟨(hQ _).2 h2,h2⟩]
  omega
 done n hn:=by
  rw[ho] at hn
  split at hn
  ·rename_i q;exact .inl q.2
  ·omega
 all n d h1 h2:=by
  by_cases e:Q=[]
  ·subst e
   have none:∀d m,¬Wlk g to d m:=by
    intro d
    induction d with
    | zero=>intro m h;exact absurd ((hQ m).1 h) zs
    | succ d ih=>rintro m ⟨x,_,h⟩;exact ih _ h
   exact absurd h1.1 (none d n)
  ·obtain⟨q,hq⟩:=List.exists_mem_of_ne_nil Q e
   have:=h2 q hq
   rw[ho,if_pos ⟨(hQ q).2 hq,hq⟩] at this
   have:d=0:=zo
   subst this
   have ht:=zj4.1 h1
   rw[ho,if_pos ⟨ht,(hQ n).1 ht⟩]
   exact Int.le_refl _
end
section
end
section
def x8 (p:Nat→Bool) (l:List Int):Nat→Int
 | 0=>-1
 | k+1=>if p (l.getD k 0).toNat=true∧(x8 p l k<0∨l.getD k 0<x8 p l k) then l.getD k 0 else x8 p l k
theorem zaL {p:Nat→Bool} {l:List Int} (h0:∀k,k<l.length→0≤l.getD k 0):∀k,k≤l.length →
  (x8 p l k=-1∧∀j,j<k→p (l.getD j 0).toNat=false)∨(0≤x8 p l k∧p (x8 p l k).toNat=true∧(∃j,j<k∧l.getD j 0=x8 p l k)∧∀j,j<k→p (l.getD j 0).toNat=true→x8 p l k≤l.getD j 0)
 | 0,_=>.inl ⟨rfl,λj h=>zo⟩
 | k+1,hk=>by
  have hk0:=h0 k zo
  simp only[x8]
  rcases zaL (p:=p) h0 k zo with⟨e,h⟩|⟨h1,h2,⟨i,h3,h3'⟩,h4⟩
  ·split
   ·rename_i q
    refine .inr ⟨hk0,q.1,⟨k,zo,rfl⟩,λj hj hp=>?_⟩
    by_cases w:j=k
    ·subst w;omega
    ·rw[h j zo] at hp;cases hp
   ·rename_i q
    refine .inl ⟨e,λj hj=>?_⟩
    by_cases w:j=k
    ·subst w
     cases hp:p (l.getD j 0).toNat with
     | false=>rfl
     | true=>exact absurd ⟨hp,.inl zo⟩ q
    ·exact h j zo
  ·split
   ·rename_i q
    refine .inr ⟨hk0,q.1,⟨k,zo,rfl⟩,λj hj hp=>?_⟩
    by_cases w:j=k
    ·subst w;omega
    ·have:=h4 j zo hp;omega
   ·rename_i q
    refine .inr ⟨h1,h2,⟨i,zo,h3'⟩,λj hj hp=>?_⟩
    by_cases w:j=k
    ·subst w
     rcases Int.lt_or_le (l.getD j 0) (x8 p l j) with z|z
     ·exact absurd ⟨hp,.inr z⟩ q
     ·exact z
    ·exact h4 j zo hp
def yV (o:Nat→Int) (l:List Int):Nat→Int
 | 0=>-1
 | k+1=>if 0≤o (l.getD k 0).toNat∧(yV o l k<0∨o (l.getD k 0).toNat<o (yV o l k).toNat∨(o (l.getD k 0).toNat=o (yV o l k).toNat∧l.getD k 0<yV o l k)) then l.getD k 0 else yV o l k
theorem QD {o:Nat→Int} {l:List Int} (h0:∀k,k<l.length→0≤l.getD k 0):∀k,k≤l.length →
  (yV o l k=-1∧∀j,j<k→o (l.getD j 0).toNat<0)∨(0≤yV o l k∧0≤o (yV o l k).toNat∧(∃j,j<k∧l.getD j 0=yV o l k) ∧
   ∀j,j<k→0≤o (l.getD j 0).toNat→o (yV o l k).toNat<o (l.getD j 0).toNat∨(o (yV o l k).toNat=o (l.getD j 0).toNat∧yV o l k≤l.getD j 0))
 | 0,_=>.inl ⟨rfl,λj h=>zo⟩
 | k+1,hk=>by
  have hk0:=h0 k zo
  simp only[yV]
  rcases QD (o:=o) h0 k zo with⟨e,h⟩|⟨h1,h2,⟨i,h3,h3'⟩,h4⟩
  ·split
   ·rename_i q
    refine .inr ⟨hk0,q.1,⟨k,zo,rfl⟩,λj hj hp=>?_⟩
    by_cases w:j=k
    ·subst w;exact .inr ⟨rfl,Int.le_refl _⟩
    ·have:=h j zo;omega
   ·rename_i q
    refine .inl ⟨e,λj hj=>?_⟩
    by_cases w:j=k
    ·subst w
     rcases Int.lt_or_le (o (l.getD j 0).toNat) 0 with z|z
     ·exact z
     ·exact absurd ⟨z,.inl zo⟩ q
    ·exact h j zo
  ·split
   ·rename_i q
    refine .inr ⟨hk0,q.1,⟨k,zo,rfl⟩,λj hj hp=>?_⟩
    by_cases w:j=k
    ·subst w;exact .inr ⟨rfl,Int.le_refl _⟩
    ·have h5:=h4 j zo hp
     have h6:=q.2
     omega
   ·rename_i q
    refine .inr ⟨h1,h2,⟨i,zo,h3'⟩,λj hj hp=>?_⟩
    by_cases w:j=k
    ·subst w
     by_cases z:o (l.getD j 0).toNat<o (yV o l j).toNat∨(o (l.getD j 0).toNat=o (yV o l j).toNat∧l.getD j 0<yV o l j)
     ·exact absurd ⟨hp,.inr z⟩ q
     ·omega
    ·exact h4 j zo hp
end
section
def U2 (L:List (List Int)) (n t:Nat):List (List Int) :=
 if (L.getD t []).length=0∨(L.getD t []).getD ((L.getD t []).length-1) 0≠(n:Int) then L.set t (L.getD t []++[(n:Int)]) else L
theorem zoH (L:List (List Int)) (n t:Nat):(U2 L n t).length=L.length:=by unfold U2;split<;>simp
theorem zfq {L:List (List Int)} {t m:Nat} {l:List Int} (h:t<L.length):(L.set t l).getD m []=if m=t then l else L.getD m []:=by
 rw[List.getD_eq_getElem?_getD,List.getElem?_set]
 by_cases e:t=m
 ·subst e;simp[h]
 ·rw[if_neg e,if_neg (λq=>e q.symm),List.getD_eq_getElem?_getD]
theorem znc {L:List (List Int)} {n t m:Nat} {x:Int} (h:t<L.length):x∈(U2 L n t).getD m []↔x∈L.getD m []∨(m=t∧x=(n:Int)):=by
 unfold U2
 split
 ·rw[zfq h]
  split
  ·rename_i e;subst e
   rw[List.mem_append,List.mem_singleton]
   constructor
   ·rintro(q|q)
    ·exact .inl q
    ·exact .inr ⟨rfl,q⟩
   ·rintro(q|⟨_,q⟩)
    ·exact .inl q
    ·exact .inr q
  ·rename_i e
   exact⟨.inl,λq=>q.elim id λw=>absurd w.1 e⟩
 ·rename_i q
  refine⟨.inl,λw=>w.elim id ?_⟩
  rintro⟨rfl,rfl⟩
  have q1:(L.getD m []).length≠0:=λe=>q (.inl e)
  have q2:(L.getD m []).getD ((L.getD m []).length-1) 0=(n:Int):=by
   by_cases e:(L.getD m []).getD ((L.getD m []).length-1) 0=(n:Int)
   ·exact e
   ·exact absurd (.inr e) q
  have:=yr (l:=L.getD m []) (k:=(L.getD m []).length-1) zo
  rw[q2] at this
  exact this
def YA (g:List (List Int)) (n:Nat):Nat→List (List Int)→List (List Int)
 | 0,L=>L
 | k+1,L=>U2 (YA g n k L) n ((g.getD n []).getD k 0).toNat
def xH (g:List (List Int)):Nat→List (List Int)
 | 0=>List.replicate g.length []
 | n+1=>YA g n (g.getD n []).length (xH g n)
theorem UL (g:List (List Int)) (n:Nat):∀(k:Nat) (L:List (List Int)),(YA g n k L).length=L.length
 | 0,_=>rfl
 | k+1,L=>by simp only[YA];rw[zoH,UL g n k L]
theorem YZ (g:List (List Int)):∀n,(xH g n).length=g.length
 | 0=>by simp[xH]
 | n+1=>by simp only[xH];rw[UL,YZ g n]
theorem zf6 {g:List (List Int)} {n m:Nat} {x:Int} (hg:∀v y,y∈g.getD v []→y.toNat<g.length) {L:List (List Int)} (hL:L.length=g.length):∀{k:Nat},k≤(g.getD n []).length →
  (x∈(YA g n k L).getD m []↔x∈L.getD m []∨(x=(n:Int)∧∃j,j<k∧((g.getD n []).getD j 0).toNat=m))
 | 0,_=>⟨.inl,λh=>h.elim id λ⟨_,j,hj,_⟩=>zo⟩
 | k+1,hk=>by
  simp only[YA]
  have hm:=yr (l:=g.getD n []) (k:=k) zo
  rw[znc (by rw[UL,hL];exact hg n _ hm),zf6 hg hL zo]
  constructor
  ·rintro((h|⟨h,j,hj,e⟩)|⟨e,h⟩)
   ·exact .inl h
   ·exact .inr ⟨h,j,zo,e⟩
   ·exact .inr ⟨h,k,zo,e.symm⟩
  ·rintro(h|⟨h,j,hj,e⟩)
   ·exact .inl (.inl h)
   ·by_cases q:j=k
    ·subst q;exact .inr ⟨e.symm,h⟩
    ·exact .inl (.inr ⟨h,j,zo,e⟩)
theorem za2 {g:List (List Int)} {m:Nat} {x:Int} (hg:∀v y,y∈g.getD v []→y.toNat<g.length):∀{n:Nat},n≤g.length →
  (x∈(xH g n).getD m []↔∃k,k<n∧x=(k:Int)∧∃y,y∈g.getD k []∧y.toNat=m)
 | 0,_=>by
  simp only[xH]
  rw[List.getD_eq_getElem?_getD,List.getElem?_replicate]
  constructor
  ·intro h;split at h<;>simp at h
  ·rintro⟨k,h,_⟩;omega
 | n+1,hn=>by
  simp only[xH]
  rw[zf6 hg (YZ g n) (Nat.le_refl _),za2 hg zo]
  constructor
  ·rintro(⟨k,h1,h2,h3⟩|⟨h,j,hj,e⟩)
   ·exact⟨k,zo,h2,h3⟩
   ·exact⟨n,zo,h,_,yr hj,e⟩
  ·rintro⟨k,h1,h2,y,h3,h4⟩
   by_cases q:k=n
   ·subst q
    obtain⟨j,hj,e⟩:=Xy h3
    exact .inr ⟨h2,j,hj,by rw[e];exact h4⟩
   ·exact .inl ⟨k,zo,h2,y,h3,h4⟩
theorem zn6 {L:List (List Int)} {n t m:Nat}:(U2 L n t).getD m []=L.getD m []∨((U2 L n t).getD m []=L.getD m []++[(n:Int)]∧((L.getD m []).length=0∨(L.getD m []).getD ((L.getD m []).length-1) 0≠(n:Int))):=by
 unfold U2
 split
 ·rename_i q
  by_cases h:t<L.length
  ·rw[zfq h]
   split
   ·rename_i e;subst e;exact .inr ⟨rfl,q⟩
   ·exact .inl rfl
  ·rw[List.set_eq_of_length_le zo];exact .inl rfl
 ·exact .inl rfl
theorem Uy {g:List (List Int)} {n m:Nat} {L:List (List Int)}:∀k,(YA g n k L).getD m []=L.getD m []∨(YA g n k L).getD m []=L.getD m []++[(n:Int)]
 | 0=>.inl rfl
 | k+1=>by
  simp only[YA]
  rcases zn6 (L:=YA g n k L) (n:=n) (t:=((g.getD n []).getD k 0).toNat) (m:=m) with h|⟨h,q⟩
  ·rw[h];exact Uy k
  ·rcases Uy (g:=g) (n:=n) (m:=m) (L:=L) k with w|w
   ·rw[h,w];exact .inr rfl
   ·rw[w] at q
    exfalso
    rcases q with q|q
    ·simp at q
    ·apply q
     rw[List.length_append,List.length_singleton,Nat.add_sub_cancel,List.getD_eq_getElem?_getD,List.getElem?_append_right (Nat.le_refl _),Nat.sub_self]
     rfl
theorem Ut (g:List (List Int)):∀n m,((xH g n).getD m []).length≤n
 | 0,m=>by
  simp only[xH]
  rw[List.getD_eq_getElem?_getD,List.getElem?_replicate]
  split<;>simp
 | n+1,m=>by
  simp only[xH]
  have:=Ut g n m
  rcases Uy (g:=g) (n:=n) (m:=m) (L:=xH g n) (g.getD n []).length with h|h
  ·rw[h];omega
  ·rw[h,List.length_append,List.length_singleton];omega
end
end
section

end
section
open Go.RowKit
def Qs (l:List Int):Nat→Bool:=λv=>l.contains (v:Int)
noncomputable def zgp (g:List (List Int)) (n:Nat):Bool:=(g.getD n []).any λx=>zH g x.toNat==zH g n
noncomputable def okT (g:List (List Int)) (k i:Nat):Bool:=(List.range k).any λn=>zH g n==(i:Int)&&zgp g n
theorem parts_eq {g:List (List Int)} {a b:Nat} (ha:a<g.length) (hb:b<g.length):zH g a=zH g b↔Q3 g a b=true:=by
 rw[←zuq (zgK g g.length) ha hb]
 unfold zH gn
 omega
theorem VQ {g:List (List Int)} {a:Nat} (ha:a<g.length):0≤zH g a∧zH g a<(g.length:Int):=by
 have:=zl3 (zgK g g.length) ha
 unfold zH gn
 omega
theorem zdg {g:List (List Int)} (yT:∀v x,x∈g.getD v []→x.toNat<g.length) {n:Nat} (hn:n<g.length):zgp g n=true↔Uo g n:=by
 unfold zgp
 rw[List.any_eq_true]
 constructor
 ·rintro⟨x,hx,e⟩
  rw[beq_iff_eq,parts_eq (yT n x hx) hn,xx] at e
  exact⟨x,hx,e.1⟩
 ·rintro⟨x,hx,e⟩
  exact⟨x,hx,by rw[beq_iff_eq,parts_eq (yT n x hx) hn,xx];exact⟨e,u5 hx⟩⟩
theorem zp0 (g:List (List Int)) (k i:Nat):okT g (k+1) i=(okT g k i||(zH g k==(i:Int)&&zgp g k)):=by
 unfold okT;rw[List.range_succ,List.any_append];simp
theorem zqp {α:Type} {p:α→Bool} {l:List α} {k:Nat} (h:k<l.length) (d:α):(l.take (k+1)).all p=((l.take k).all p&&p (l.getD k d)):=by
 rw[List.take_add_one,List.getElem?_eq_getElem h,List.all_append,List.getD_eq_getElem?_getD,List.getElem?_eq_getElem h]
 simp
theorem JR {n z i:Nat} {f f':Nat→Bool} {b:Bool} (hz:z=i) (h:∀v,v<n→f' v=if v=i then b else f v):(Zu n f).set z [.sc (.bool b)]=Zu n f':=by
 subst hz
 rw[zb3]
 exact w9 λv hv=>(h v hv).symm
end
section
open Go.RowKit
end
section
open Go.RowKit
structure zK where
 start:List Int
 next:List (List Int)
 label:List Int
 fair:List (List Int)
def zK.cells (W:zK):List D:=[zw W.start,z8 W.next,uM W.label,z8 W.fair]
def Yt (W:zK):D:=.agg W.cells
theorem Jh (W:zK):ze W.cells:=by simp[zK.cells,ze,zh,yc,uI]
theorem qy (W:zK):Pure (Yt W):=by simp[Yt,Pure,Jh]
structure zK.Fits (W:zK):Prop where
 start:W.start.length≤17592186043904
 next:W.next.length≤17592186043904
 label:W.label.length≤17592186043904
 fair:W.fair.length≤17592186043904
 zdy:∀l∈W.next,l.length≤17592186043904
 Vx:∀l∈W.fair,l.length≤17592186043904
def zK.xc (W:zK):Int :=
 if 600<W.next.length∨80<W.fair.length then 2
 else if W.label.length≠W.next.length∨xv W.start W.next.length=false then 1
 else if (W.next.any λl=>l.isEmpty||!(xv l W.next.length))=true then 1
 else if (W.fair.any λl=>!(xv l W.next.length))=true then 1
 else 0
def c159:PC:=.seq (OP [Mv 3 cF]) (.seq (OP [qm 4 0,Bi 5 .lss 4 (cI 0),qm 6 5,GF 7 6 (.move 0),GF 8 6 (.zi 1),GF 9 6 (.bin .geq 7 8),Pk 10 6 cT 9,qm 3 10]) .ret)
theorem ztm:zz Tryz.prog 159 11 [.tmp 3] c159:=fK Tryz.func159
def c89:PC:=.seq (OP [Bx 3 1,Mv 4 cF]) (.seq (OP [qm 5 0,q 6 (.ZP (.func 159) [] [3]),Ca 7 27 [5,6],qm 4 7]) .ret)
theorem zvQ:zz Tryz.prog 89 8 [.tmp 4] c89:=fK Tryz.func89
def c91:PC:=.seq (OP [Mv 3 cF]) (.seq (OP [qm 4 0,Lo 5 1,Ca 6 89 [4,5],qm 3 6]) .ret)
theorem zx7:zz Tryz.prog 91 7 [.tmp 3] c91:=fK Tryz.func91
def zyY:PC:=.seq (OP [Bi 32 .lss 31 30]) (.seq (.cond 32 .skip (.exit 0)) (.seq (.block 1 (.seq (OP [Ia 33 1 29 31,Lo 34 33,qm 5 34]) (.seq (OP [qm 35 5,Ln 36 35,Bi 37 .eql 36 (cI 0),qm 38 37,GF 39 38 (.move 5),GF 40 38 (.zi 3),GF 41 38 (.call 89 [39,40]),Pk 42 38 cT 41]) (.cond 42 (.seq (OP [Mv 2 (cI 1)]) .ret) .skip)))) (OP [Bi 43 .add 31 (cI 1),qm 31 43])))
def c51:PC:=.seq (OP [Bx 1 0,Mv 2 (cI 0)]) (.seq (OP [Fa 6 1 1,Lo 7 6,Ln 8 7,q 3 (.alloc [(.int .i64 0)]),So 1 3 8]) (.seq (.seq (OP [Lo 9 3,Bi 10 .gtr 9 (cI 600),qm 11 10,GF 12 11 (.zv 3 1),GF 13 11 (.zi 12),GF 14 11 (.len 13),GF 15 11 (.bin .gtr 14 (cI 80)),Pk 16 11 cT 15]) (.cond 16 (.seq (OP [Mv 2 (cI 2)]) .ret) .skip)) (.seq (.seq (OP [Fa 17 2 1,Lo 18 17,Ln 19 18,Lo 20 3,Bi 21 .neq 19 20,qm 22 21,GF 23 22 (.zv 0 1),GF 24 22 (.zi 23),GF 25 22 (.zi 3),GF 26 22 (.call 89 [24,25]),Pk 27 22 cT 26]) (.cond 27 (.seq (OP [Mv 2 (cI 1)]) .ret) .skip)) (.seq (.seq (OP [Fa 28 1 1,Lo 29 28,Ln 30 29,Mv 31 (cI 0)]) (.block 0 (.loop zyY))) (.seq (.seq (OP [Fa 44 3 1,Lo 45 44,q 46 (.ZP (.func 91) [] [3]),Ca 47 90 [45,46]]) (.cond 47 (.seq (OP [Mv 2 (cI 1)]) .ret) .skip)) (.seq (OP [Mv 2 (cI 0)]) .ret))))))
theorem zwi:zz Tryz.prog 51 48 [.tmp 2] c51:=fK Tryz.func51
theorem zr6 (x:Int) (n:Nat):zu Tryz.prog 159 [.sc (.int .i64 x),.xk [.sc (.int .i64 n)]] (.sc (.bool (decide (x<0)||decide (x≥(n:Int))))):=by
 refine zb ztm zs (by simp[ze,Pure]) ?_ (by simp[Pure])
 refine sR ?_
 refine sS (λh=>?_) λh=>?_
 ·exact yu zs
 ·exact yu zs
theorem zkJ (l:List Int) (hl:l.length≤9223372036854775807) (n:Nat):zu Tryz.prog 89 [zw l,.sc (.int .i64 n)] (.sc (.bool !(xv l n))):=by
 refine zb zvQ zs (by simp[ze,Pure,zh]) ?_ (by simp[Pure])
 refine sR ?_
 refine sN (xa (λn=>.sc (.int .i64 n)) (λa=>by simp[Pure]) l hl (λx=>decide (x<0)||decide (x≥(n:Int))) 159 [.xk [.sc (.int .i64 n)]] (by simp[ze,Pure]) λa _=>zr6 a n) ?_
 rw[zhC]
 exact .refl _
theorem zoV (l:List Int) (hl:l.length≤9223372036854775807) (n:Nat):zu Tryz.prog 91 [zw l,.xk [.sc (.int .i64 n)]] (.sc (.bool !(xv l n))):=by
 refine zb zx7 zs (by simp[ze,Pure,zh]) ?_ (by simp[Pure])
 refine sR ?_
 refine sC (zkJ l hl n) ?_
 exact .refl _
theorem ziW (W:zK) (hW:W.Fits):zu Tryz.prog 51 [Yt W] (.sc (.int .i64 W.xc)):=by
 have b1:=hW.start
 have b2:=hW.next
 have b3:=hW.label
 have b4:=hW.fair
 refine zb zwi zs (by simp[ze,Pure,qy]) ?_ (by simp[Pure])
 refine sR ?_
 rw[List.length_map]
 have fin:∀{H:List zf} {z:Int},z=W.xc→Deep H (.sc (.int .i64 z)) (.sc (.int .i64 W.xc)):=λh=>h▸.refl _
 refine sS (λh1=>?_) λh1=>?_
 ·exact fin (by unfold zK.xc;rw[if_pos (sO)])
 rw[List.length_map]
 refine sS (λh2=>?_) λh2=>?_
 ·exact fin (by unfold zK.xc;rw[if_pos (sO)])
 have c1:¬(600<W.next.length∨80<W.fair.length):=sO
 rw[List.length_map]
 refine sS (λh3=>?_) λh3=>?_
 ·exact fin (by unfold zK.xc;rw[if_neg c1,if_pos (sO)])
 refine sC (zkJ W.start zo W.next.length) ?_
 refine sS (λh4=>?_) λh4=>?_
 ·exact fin (by unfold zK.xc;rw[if_neg c1,if_pos (.inr (by simpa using h4))])
 have c2:¬(W.label.length≠W.next.length∨xv W.start W.next.length=false):=by
  rintro(q|q)
  ·exact sO
  ·rw[q] at h4;cases h4
 refine zL [1,3,29,30] (λk:Nat=>[(31,.sc (.int .i64 k))]) (λ_=>[]) (λk=>k≤W.next.length∧∀j (hj:j<k) (hl:j<W.next.length),(W.next[j].isEmpty||!(xv W.next[j] W.next.length))=false) (λk=>W.next.length-k) 0 ?_
 refine sW ?_
 refine⟨⟨zo,λj hj=>zo⟩,by exact sK,rfl,?_⟩
 rintro k ⟨hk,hall⟩
 refine sW ?_
 refine sR ?_
 refine sS (λg=>?_) λg=>?_
 ·have hk':k<W.next.length:=sO
  refine sL (zg9 (k:=k) zo hk') ?_
  rw[List.length_map]
  have bk:=hW.zdy _ (List.getElem_mem hk')
  refine sS (λg1=>?_) λg1=>?_
  ·have e1:(W.next[k]).isEmpty=true:=by rw[List.isEmpty_iff_length_eq_zero];exact sO
   exact fin (by unfold zK.xc;rw[if_neg c1,if_neg c2,if_pos (zhu hk' (by rw[e1];rfl))])
  have e1:(W.next[k]).isEmpty=false:=by rw[←Bool.not_eq_true,List.isEmpty_iff_length_eq_zero];exact sO
  refine sC (zkJ W.next[k] zo W.next.length) ?_
  refine sS (λg2=>?_) λg2=>?_
  ·exact fin (by unfold zK.xc;rw[if_neg c1,if_neg c2,if_pos (zhu hk' (by rw[g2,e1];rfl))])
  ·refine sI ?_
   refine⟨k+1,⟨zo,λj hj hl=>?_⟩,zd,zC (by exact sK) rfl⟩
   by_cases e:j=k
   ·subst e;rw[e1,g2];rfl
   ·exact hall j zo hl
 ·have hk':¬k<W.next.length:=sO
  have c3:¬(W.next.any λl=>l.isEmpty||!(xv l W.next.length))=true:=by rw[zqj λj hj=>hall j zo hj];simp
  refine sN (Xv zw zh W.fair zo (λl=>!(xv l W.next.length)) 91 [.xk [.sc (.int .i64 W.next.length)]] (by simp[ze,Pure]) λa ha=>zoV a (by have:=hW.Vx a ha;omega) _) ?_
  refine sS (λg3=>?_) λg3=>?_
  ·exact fin (by unfold zK.xc;rw[if_neg c1,if_neg c2,if_neg c3,if_pos g3])
  ·exact fin (by unfold zK.xc;rw[if_neg c1,if_neg c2,if_neg c3,if_neg (by rw[g3];simp)])
end
section
open Go.RowKit
end
section
section
open Go.RowKit
def Vg (n:Int):List D:=[.sc (.int .i64 n)]
@[simp] theorem V1 {m:Nat} (n:Int):zl m (Vg n):=by simp[Vg,zl,zp]
def zzU:PC:=.seq (OP [Bi 22 .lss 21 20]) (.seq (.cond 22 .skip (.exit 2)) (.seq (.block 3 (.seq (OP [Ia 23 1 19 21,Lo 24 23,qm 7 24]) (.seq (OP [qm 25 3,qm 26 7,Ia 27 1 25 26,Lo 28 27,Ln 29 28,qm 8 29]) (.seq (OP [qm 30 8,Bi 31 .eql 30 (cI 0),qm 32 31,GF 33 32 (.move 3),GF 34 32 (.move 7),GF 35 32 (.zM 1 33 34),GF 36 32 (.zi 35),GF 37 32 (.move 8),GF 38 32 (.bin .sub 37 (cI 1)),GF 39 32 (.zM 1 36 38),GF 40 32 (.zi 39),GF 41 32 (.move 4),GF 42 32 (.bin .neq 40 41),Pk 43 32 cT 42]) (.cond 43 (OP [qm 44 3,qm 45 7,qm 46 3,qm 47 7,Ia 48 1 46 47,Lo 49 48,qm 50 4,Bs 51 1 1 [50],Ap 52 1 8 49 51,Ia 53 1 44 45,So 1 53 52]) .skip))))) (OP [Bi 54 .add 21 (cI 1),qm 21 54])))
def zzE:PC:=.seq (OP [Bi 15 .lss 14 13]) (.seq (.cond 15 .skip (.exit 0)) (.seq (.block 1 (.seq (OP [qm 16 14,Ia 17 1 12 14,Lo 18 17,qm 4 16,qm 5 18]) (.seq (OP [qm 19 5,Ln 20 19,Mv 21 (cI 0)]) (.block 2 (.loop zzU))))) (OP [Bi 55 .add 14 (cI 1),qm 14 55])))
def c30:PC:=.seq (OP [Mv 2 cN]) (.seq (OP [qm 9 0,Ln 10 9,q 11 (.x5 1 24 [(.slice none 0 0)] 10 10),qm 3 11]) (.seq (.seq (OP [qm 12 0,Ln 13 12,Mv 14 (cI 0)]) (.block 0 (.loop zzE))) (.seq (OP [qm 56 3,qm 2 56]) .ret)))
theorem zxh:zz Tryz.prog 30 57 [.tmp 2] c30:=fK Tryz.func30
theorem zf4 (g:List (List Int)) (hg:Vv g=0) (hF:qV g):zu Tryz.prog 30 [z8 g] (z8 (xH g g.length)):=by
 obtain⟨hn,yT⟩:=uK.1 hg
 refine zb zxh zs (by simp[ze,Pure,yc]) ?_ (yc _)
 unfold z8
 refine sR ?_
 rw[List.length_map]
 refine⟨zo,zo,zo,?_⟩
 rw[Int.toNat_natCast]
 refine sW ?_
 refine zE (Js 0 1 g.length 0 zs rfl) ?_
 refine zZ [3,12,13] (λn:Nat=>[(14,.sc (.int .i64 n))]) (λn=>.vec true 0 1 (wJ 1 (xH g n))::yR 1 Vg (xH g n)) (λn=>n≤g.length) (λn=>g.length-n) 0 ?_
 refine sW ?_
 refine⟨zo,by exact sK,?_,?_⟩
 ·show _::_=_::_
  rw[XT 1 _ Vg]
  exact congrArg (λx=>zf.vec true 0 1 x::_) (XP (α:=Int) 1 _)
 rintro n hnn
 refine sW ?_
 refine sR ?_
 rw[List.length_map]
 have lG:=YZ g n
 refine sS (λh1=>?_) λh1=>?_
 ·have hn':n<g.length:=sO
  refine sL (wG (k:=n) zo hn') ?_
  rw[List.length_map]
  have lx:=hF.at n
  have lR:∀k,(YA g n k (xH g n)).length=g.length:=λk=>by rw[UL,lG]
  refine zZ [3,4,12,13,14,19,20] (λk:Nat=>[(21,.sc (.int .i64 k))]) (λk=>.vec true 0 1 (wJ 1 (YA g n k (xH g n)))::yR 1 Vg (YA g n k (xH g n))) (λk=>k≤(g.getD n []).length) (λk=>(g.getD n []).length-k) 0 ?_
  refine sW ?_
  refine⟨zo,by exact sK,rfl,?_⟩
  rintro k hk
  have hl:=lR k
  refine sW ?_
  refine sR ?_
  refine sS (λh2=>?_) λh2=>?_
  ·have hk':k<(g.getD n []).length:=sO
   have hx:=uy (y9 yT n) hk'
   refine sL (yb (k:=k) zo hk') ?_
   have et:YA g n (k+1) (xH g n)=U2 (YA g n k (xH g n)) n ((g.getD n []).getD k 0).toNat:=rfl
   generalize (g.getD n []).getD k 0=x at hx et
   refine sB ?_
   refine⟨_,xX (i:=x.toNat) zo zo,?_⟩
   refine sW ?_
   refine zlJ zo ?_
   refine sW ?_
   generalize hR:YA g n k (xH g n)=R at hl et ⊢
   rw[Nat.sub_zero]
   have hrow:(R.getD x.toNat []).length≤n+1:=by
    have h5:=Ut g n x.toNat
    rcases Uy (g:=g) (n:=n) (m:=x.toNat) (L:=xH g n) k with h|h
    ·rw[←hR,h];omega
    ·rw[←hR,h,List.length_append,List.length_singleton];omega
   have eE:U2 R n x.toNat=if (R.getD x.toNat []).length=0∨(R.getD x.toNat []).getD ((R.getD x.toNat []).length-1) 0≠(n:Int) then R.set x.toNat (R.getD x.toNat []++[(n:Int)]) else R:=rfl
   cases h3:(((R.getD x.toNat []).length:Int)==0)
   ·refine sW ?_
    have hne:(R.getD x.toNat []).length≠0:=sO
    refine sB ?_
    refine⟨_,xX (i:=x.toNat) zo zo,?_⟩
    refine sW ?_
    refine sI ?_
    refine zlJ zo ?_
    refine sW ?_
    refine⟨zo,zo,?_⟩
    refine sW ?_
    refine zlJ zo ?_
    refine sW ?_
    refine⟨_,yb (l:=R.getD x.toNat []) (k:=(R.getD x.toNat []).length-1) zo zo,?_⟩
    refine sW ?_
    refine sS (λh4=>?_) λh4=>?_
    ·have hap:(R.getD x.toNat []).length=0∨(R.getD x.toNat []).getD ((R.getD x.toNat []).length-1) 0≠(n:Int):=.inr (sO)
     refine sB ?_
     refine⟨_,xX (i:=x.toNat) zo zo,?_⟩
     refine sW ?_
     refine Jf ?_
     refine sW ?_
     (repeat (first|(refine y7 0 rfl ?_;((conv=>whnf);repeat(refine⟨rfl,?_⟩;conv=>whnf)))|(refine y4 0 rfl ?_;((conv=>whnf);repeat(refine⟨rfl,?_⟩;conv=>whnf)))|(refine y7 1 rfl ?_;((conv=>whnf);repeat(refine⟨rfl,?_⟩;conv=>whnf)))|(refine y4 1 rfl ?_;((conv=>whnf);repeat(refine⟨rfl,?_⟩;conv=>whnf)))))
     refine J5 zo ?_
     refine sW ?_
     refine⟨by unfold y5;simp only[List.length_drop,List.length_take,List.length_cons,List.length_nil];omega,?_⟩
     refine sW ?_
     refine zb5 (R.getD x.toNat []++[(n:Int)]) zo ?_ ?_
     ·exact zeG
     refine sW ?_
     refine sB ?_
     refine⟨_,xX (i:=x.toNat) zo zo,?_⟩
     refine sW ?_
     refine sI ?_
     refine⟨k+1,zo,zd,?_⟩
     dsimp only
     rw[et,eE,if_pos hap]
     refine zj (g.length+1) (by simp[lG]) (by simp[hl]) (by exact sQ) ⟨⟨rfl,rfl,rfl,zk (Xc zo zo _ zs),ur (by simp;omega)⟩,X6 V1⟩
    ·have hap:¬((R.getD x.toNat []).length=0∨(R.getD x.toNat []).getD ((R.getD x.toNat []).length-1) 0≠(n:Int)):=by
      rintro(q|q)
      ·exact hne q
      ·exact sO
     refine sI ?_
     refine⟨k+1,zo,zd,?_⟩
     dsimp only
     rw[et,eE,if_neg hap]
     exact zC (by exact sK) rfl
   ·refine sW ?_
    have hne:(R.getD x.toNat []).length=0:=sO
    have hap:(R.getD x.toNat []).length=0∨(R.getD x.toNat []).getD ((R.getD x.toNat []).length-1) 0≠(n:Int):=.inl hne
    refine sB ?_
    refine⟨_,xX (i:=x.toNat) zo zo,?_⟩
    refine sW ?_
    refine Jf ?_
    refine sW ?_
    (repeat (first|(refine y7 0 rfl ?_;((conv=>whnf);repeat(refine⟨rfl,?_⟩;conv=>whnf)))|(refine y4 0 rfl ?_;((conv=>whnf);repeat(refine⟨rfl,?_⟩;conv=>whnf)))|(refine y7 1 rfl ?_;((conv=>whnf);repeat(refine⟨rfl,?_⟩;conv=>whnf)))|(refine y4 1 rfl ?_;((conv=>whnf);repeat(refine⟨rfl,?_⟩;conv=>whnf)))))
    refine J5 zo ?_
    refine sW ?_
    refine⟨by unfold y5;simp only[List.length_drop,List.length_take,List.length_cons,List.length_nil];omega,?_⟩
    refine sW ?_
    refine zb5 (R.getD x.toNat []++[(n:Int)]) zo ?_ ?_
    ·exact zeG
    refine sW ?_
    refine sB ?_
    refine⟨_,xX (i:=x.toNat) zo zo,?_⟩
    refine sW ?_
    refine sI ?_
    refine⟨k+1,zo,zd,?_⟩
    dsimp only
    rw[et,eE,if_pos hap]
    refine zj (g.length+1) (by simp[lG]) (by simp[hl]) (by exact sQ) ⟨⟨rfl,rfl,rfl,zk (Xc zo zo _ zs),ur (by simp;omega)⟩,X6 V1⟩
  ·have hk':k=(g.getD n []).length:=by have:¬k<(g.getD n []).length:=sO
                                       omega
   subst hk'
   refine sI ?_
   refine⟨n+1,zo,zd,?_⟩
   exact zC (by exact sK) rfl
 ·have hn':n=g.length:=by have:¬n<g.length:=sO
                          omega
  subst hn'
  have:=zbr (H:=zf.vec true 0 1 (wJ 1 (xH g g.length))::yR 1 Vg (xH g g.length)) (b:=1) (zF:=1) (c:=Vg) (L:=xH g g.length) (λi hi=>by
   rw[show i+1=i+1 from rfl,List.getElem?_cons_succ]
   exact YT hi)
  refine .own _ _ _ _ _ _ _ _ rfl ?_
  rw[zr (by simp[lG])]
  exact this
end
section
open Go.RowKit
open Classical in
noncomputable def XI (g:List (List Int)) (to:Nat→Bool) (n:Nat):Int:=if h:∃d,Far g to n d then ((Classical.choose h:Nat):Int) else -1
theorem J7 {g:List (List Int)} {to:Nat→Bool} {n d:Nat}:Far g to n d↔XI g to n=d:=by
 unfold XI
 constructor
 ·intro h
  have hx:∃d,Far g to n d:=⟨d,h⟩
  rw[dif_pos hx]
  exact congrArg _ (Jc (Classical.choose_spec hx) h)
 ·intro h
  split at h
  ·rename_i hx
   have e:Classical.choose hx=d:=zo
   rw[←e]
   exact Classical.choose_spec hx
  ·omega
theorem zib {g:List (List Int)} {to:Nat→Bool} {n:Nat} (h:XI g to n<0):XI g to n=-1:=by
 unfold XI at h ⊢
 split at h
 ·omega
 ·rename_i q;rw[dif_neg q]
theorem zuo {g:List (List Int)} {to:Nat→Bool} {o:Nat→Int} (h:Bfs g to o []) (hm:∀n,-1≤o n) (n:Nat):o n=XI g to n:=by
 rcases Int.lt_or_le (o n) 0 with q|q
 ·rcases Int.lt_or_le (XI g to n) 0 with w|w
  ·rw[zib w];have:=hm n;omega
  ·have:=h.fin.1 (J7.2 (show XI g to n=((XI g to n).toNat:Nat) by omega))
   omega
 ·have:=J7.1 (h.fin.2 (show o n=((o n).toNat:Nat) by omega))
  omega
def yU (to:Nat→Bool):Nat→List Int
 | 0=>[]
 | n+1=>if to n=true then yU to n++[(n:Int)] else yU to n
theorem Z2 {to:Nat→Bool} {x:Int}:∀{n:Nat},x∈yU to n↔∃i,i<n∧to i=true∧x=(i:Int)
 | 0=>by simp[yU]
 | n+1=>by
  simp only[yU]
  split
  ·rename_i h
   rw[List.mem_append,Z2,List.mem_singleton]
   constructor
   ·rintro(⟨i,h1,h2,h3⟩|h1)
    ·exact⟨i,zo,h2,h3⟩
    ·exact⟨n,zo,h,h1⟩
   ·rintro⟨i,h1,h2,h3⟩
    by_cases e:i=n
    ·subst e;exact .inr h3
    ·exact .inl ⟨i,zo,h2,h3⟩
  ·rename_i h
   rw[Z2]
   constructor
   ·rintro⟨i,h1,h2,h3⟩;exact⟨i,zo,h2,h3⟩
   ·rintro⟨i,h1,h2,h3⟩
    refine⟨i,?_,h2,h3⟩
    by_cases e:i=n
    ·subst e;exact absurd h2 h
    ·omega
theorem zbB (to:Nat→Bool):∀n,(yU to n).length≤n
 | 0=>by simp[yU]
 | n+1=>by simp only[yU];have:=zbB to n;split<;>simp<;>omega
theorem zrs {Z:List Int} {lo hi:Nat} (h1:lo<hi) (h2:hi≤Z.length):(Z.take hi).drop lo=Z.getD lo 0::(Z.take hi).drop (lo+1):=by
 rw[List.drop_eq_getElem_cons (by rw[List.length_take];omega),List.getElem_take,List.getD_eq_getElem?_getD,List.getElem?_eq_getElem zo]
 rfl
theorem Yq {Z:List Int} {lo hi:Nat} {k:Int}:((zI Z).take hi).drop lo++[[D.sc (.int .i64 k)]]=zI ((Z.take hi).drop lo++[k]):=by
 simp[zI]
end
section
open Go.RowKit
def U1 (l:List Int):List Nat:=l.map Int.toNat
theorem ziB (l r:List Int):U1 (l++r)=U1 l++U1 r:=by simp[U1]
theorem zjb {l:List Int} {n:Nat}:n∈U1 l↔∃x∈l,x.toNat=n:=by simp[U1]
theorem zcY {n z k:Nat} {o:Nat→Int} {v:Int} (hz:z=k):(zI (gl n o)).set z [.sc (.int .i64 v)]=zI (gl n (zaP o k v)):=uf hz
def zcB (to:Nat→Bool) (k:Nat):Nat→Int:=λi=>if i<k then (if to i=true then 0 else -1) else 0
theorem zfx {to:Nat→Bool} {k:Nat} {v:Int} (h:v=if to k=true then 0 else -1) (o:Nat→Int) (ho:∀i,i≠k→o i=zcB to k i) (hk:o k=v):∀i,o i=zcB to (k+1) i:=by
 intro i
 by_cases e:i=k
 ·subst e;rw[hk,h];simp[zcB]
 ·rw[ho i e]
  by_cases q:i<k
  ·simp[zcB,q,show i<k+1 by omega]
  ·simp[zcB,q,show ¬i<k+1 by omega]
theorem znS {g:List (List Int)} {to:Nat→Bool} {N:Nat} (hto:∀i,N≤i→to i=false):Bfs g to (λi=>if to i=true then 0 else -1) (U1 (yU to N)):=by
 have hQ:∀n,to n=true↔n∈U1 (yU to N):=λn=>by
  rw[zjb]
  constructor
  ·intro h
   have hn:n<N:=by
    rcases Nat.lt_or_ge n N with q|q
    ·exact q
    ·rw[hto n q] at h;cases h
   exact⟨(n:Int),Z2.2 ⟨n,hn,h,rfl⟩,zs⟩
  ·rintro⟨x,hx,rfl⟩
   obtain⟨i,_,h2,rfl⟩:=Z2.1 hx
   simpa using h2
 exact Bfs.begin (λn=>by
  by_cases h:to n=true
  ·rw[if_pos h,if_pos ⟨h,(hQ n).1 h⟩]
  ·rw[if_neg h,if_neg λq=>h q.1]) hQ
structure QOk (g:List (List Int)) (to:Nat→Bool) (o:Nat→Int) (Z:List Int):Prop where
 rng:∀x∈Z,0≤x∧x<(g.length:Int)
 low:∀n,-1≤o n
 out:∀n,g.length≤n→o n=-1
theorem zgG {g:List (List Int)} (yT:∀l∈g,xv l g.length=true) {to:Nat→Bool} {n d:Nat} (hn:n<g.length) (h:Far g to n d):d<g.length :=
 zx1 (λv x hx=>by have:=ye (y9 yT v) hx;omega) hn h
theorem Uk (to:Nat→Bool):∀n,(yU to n).length+xu to n=n
 | 0=>rfl
 | n+1=>by
  have:=Uk to n
  unfold xu at this ⊢
  simp only[yU,vr]
  cases h:to n<;>simp<;>omega
def lost (o:Nat→Int) (n:Nat):Nat:=xu (λi=>decide (0≤o i)) n
theorem zlU (to:Nat→Bool) (n:Nat):(yU to n).length+lost (λi=>if to i=true then 0 else -1) n=n:=by
 have h:=Uk to n
 have e:lost (λi=>if to i=true then 0 else -1) n=xu to n:=Uc n λj _=>by
  by_cases h:to j=true<;>simp[h]
 rw[e];exact h
theorem zqa {o:Nat→Int} {n k:Nat} {v:Int} (hk:k<n) (h:o k<0) (hv:0≤v):lost (zaP o k v) n<lost o n :=
 YQ hk (λj _ hj=>by
  have hj:=of_decide_eq_true hj
  rw[decide_eq_true_eq,XR λe=>by subst e;omega]
  exact hj) (by simpa using h) (by simpa using hv)
theorem znK (x:Int) (r:List Int):U1 (x::r)=x.toNat::U1 r:=rfl
theorem QOk.put {g:List (List Int)} {to:Nat→Bool} {o:Nat→Int} {Z:List Int} (h:QOk g to o Z) {k:Nat} (hk:k<g.length) {v:Int} (hv:0≤v) {lo hi:Nat}:QOk g to (zaP o k v) ((Z.take hi).drop lo++[(k:Int)]) where
 rng x hx:=by
  rcases List.mem_append.1 hx with q|q
  ·exact h.rng x (List.mem_of_mem_take (List.mem_of_mem_drop q))
  ·rw[List.mem_singleton] at q;subst q;omega
 low n:=by
  by_cases e:n=k
  ·subst e;rw[uE];omega
  ·rw[XR e];exact h.low n
 out n hn:=by rw[XR zo];exact h.out n hn
def zyW:PC:=.seq (OP [Bi 21 .lss 20 19]) (.seq (.cond 21 .skip (.exit 0)) (.seq (.block 1 (.seq (OP [qm 22 20,Ia 23 1 18 20,Lo 24 23,qm 8 22,qm 9 24]) (.seq (OP [qm 25 6,qm 26 8,Ia 27 1 25 26,So 1 27 (cI (-1))]) (.seq (OP [qm 28 9]) (.cond 28 (.seq (OP [qm 29 6,qm 30 8,Ia 31 1 29 30,So 1 31 (cI 0)]) (OP [qm 32 7,qm 33 8,Bs 34 1 1 [33],Ap 35 1 8 32 34,qm 7 35])) .skip))))) (OP [Bi 36 .add 20 (cI 1),qm 20 36])))
def zzw:PC:=.seq (OP [Bi 51 .lss 50 49]) (.seq (.cond 51 .skip (.exit 4)) (.seq (.block 5 (.seq (OP [Ia 52 1 48 50,Lo 53 52,qm 12 53]) (.seq (OP [qm 54 6,qm 55 12,Ia 56 1 54 55,Lo 57 56,Bi 58 .lss 57 (cI 0)]) (.cond 58 (.seq (OP [qm 59 6,qm 60 12,qm 61 6,qm 62 10,Ia 63 1 61 62,Lo 64 63,Bi 65 .add 64 (cI 1),Ia 66 1 59 60,So 1 66 65]) (OP [qm 67 7,qm 68 12,Bs 69 1 1 [68],Ap 70 1 8 67 69,qm 7 70])) .skip)))) (OP [Bi 71 .add 50 (cI 1),qm 50 71])))
def zAi:PC:=.seq (.seq (OP [qm 37 7,Ln 38 37,Bi 39 .gtr 38 (cI 0)]) (.cond 39 .skip (.exit 2))) (.block 3 (.seq (OP [qm 40 7,Ia 41 1 40 (cI 0),Lo 42 41,qm 10 42]) (.seq (OP [qm 43 7,q 44 (.slc 1 43 (some (cI 1)) none none),qm 7 44]) (.seq (OP [qm 45 5,qm 46 10,Ia 47 1 45 46,Lo 48 47,Ln 49 48,Mv 50 (cI 0)]) (.block 4 (.loop zzw))))))
def c65:PC:=.seq (OP [Mv 4 cN]) (.seq (OP [qm 13 0,Ca 14 30 [13],qm 5 14]) (.seq (OP [qm 15 0,Ln 16 15,q 17 (.x5 1 8 [(.int .i64 0)] 16 16),qm 6 17]) (.seq (OP [Mv 7 cN]) (.seq (.seq (OP [qm 18 1,Ln 19 18,Mv 20 (cI 0)]) (.block 0 (.loop zyW))) (.seq (.block 2 (.loop zAi)) (.seq (OP [qm 72 6,qm 4 72]) .ret))))))
theorem zwq:zz Tryz.prog 65 73 [.tmp 4] c65:=fK Tryz.func65
theorem zua (g:List (List Int)) (hg:Vv g=0) (hF:qV g) (to:Nat→Bool) (hto:∀i,g.length≤i→to i=false) :
  zu Tryz.prog 65 [z8 g,UY g.length to] (zw (gl g.length (XI g to))):=by
 obtain⟨hn,yT⟩:=uK.1 hg
 have hin':∀v y,y∈g.getD v []→y.toNat<g.length:=λv x hx=>by have:=ye (y9 yT v) hx;omega
 refine zb zwq zs (by simp[ze,Pure,yc,xm]) ?_ (zh _)
 refine sR ?_
 refine sC (zf4 g hg hF) ?_
 generalize hT:xH g g.length=T
 have lT:T.length=g.length:=by rw[←hT,YZ]
 have mT:∀(m:Nat) (x:Int),x∈T.getD m []↔∃k,k<g.length∧x=(k:Int)∧∃y,y∈g.getD k []∧y.toNat=m:=λm x=>by rw[←hT];exact za2 hin' (Nat.le_refl _)
 have rT:∀m,(T.getD m []).length≤g.length:=λm=>by rw[←hT];exact Ut g g.length m
 clear hT
 unfold z8 UY
 rw[List.length_map]
 refine⟨zo,zo,zo,?_⟩
 rw[Int.toNat_natCast,show List.map D.sc [Value.int .i64 0]=[D.sc (.int .i64 0)] from rfl,zal]
 refine sW ?_
 rw[Jp]
 refine zE (y8 7 1 zs rfl) ?_
 refine zL [5,6,18,19] (λk:Nat=>[(7,.own 1 (yU to k).length 0 (yU to k).length),(20,.sc (.int .i64 k))]) (λk=>[(0,.vec true 0 1 (zI (gl g.length (zcB to k)))),(1,.vec true (yU to k).length 1 (zI (yU to k)))])
  (λk=>k≤g.length) (λk=>g.length-k) 0 ?_
 refine sW ?_
 refine⟨zo,by exact sK,by rw[vc (g':=zcB to 0) λi _=>by simp[zcB]];rfl,?_⟩
 rintro k hk
 refine sW ?_
 refine sR ?_
 refine sS (λh1=>?_) λh1=>?_
 ·have hk':k<g.length:=sO
  refine sL (y6 k zo hk') ?_
  refine sB ?_
  refine⟨_,zT k zo hk',?_⟩
  refine sW ?_
  cases ht:to k
  ·refine sW ?_
   refine sI ?_
   refine⟨k+1,zo,zd,?_⟩
   have em:yU to (k+1)=yU to k:=by simp[yU,ht]
   dsimp only
   rw[em]
   refine zC (by exact sK) ?_
   rw[zcY (k:=k) zo,vc (g':=zcB to (k+1)) λi _=>zfx (v:=-1) (by simp[ht]) _ (λi hi=>XR hi) (uE _ _ _) i]
   rfl
  ·refine sW ?_
   refine sB ?_
   refine⟨[.sc (.int .i64 (-1))],by rw[zcY (k:=k) zo,zT k zo hk',uE],?_⟩
   refine sW ?_
   have hml:=zbB to k
   refine sJ ?_
   refine sI ?_
   refine⟨k+1,zo,zd,?_⟩
   have em:yU to (k+1)=yU to k++[(k:Int)]:=by simp[yU,ht]
   dsimp only
   rw[em]
   have el:(yU to k++[(k:Int)]).length=(yU to k).length+1:=zs
   rw[el]
   (refine zj 2 zs rfl ?_ ?_<;>(repeat' (first|exact trivial|exact rfl|exact ya.refl _|exact zP.refl _|exact zJ.refl _|refine And.intro ?_ ?_|(simp[zp,zl,zD,-List.map_take,-List.map_drop];done))))
   ·exact zk (by
     rw[zcY (k:=k) zo,zcY (k:=k) zo,vc (g':=zcB to (k+1)) λi _=>zfx (v:=0) (by simp[ht]) _ (λi hi=>by rw[XR hi,XR hi]) (uE _ _ _) i])
   ·exact zk (by
     rw[List.take_of_length_le zs,List.drop_zero]
     simp[zI])
 ·have hk':k=g.length:=by have:¬k<g.length:=sO
                          omega
  subst hk'
  refine zL [5,6] (λ((o,Z,lo,hi,zW):(Nat→Int) × List Int × Nat × Nat × Nat)=>[(7,.own 1 zW lo hi)]) (λ(o,Z,lo,hi,zW)=>[(0,.vec true 0 1 (zI (gl g.length o))),(1,.vec true zW 1 (zI Z))])
   (λ(o,Z,lo,hi,zW)=>lo≤hi∧hi≤Z.length∧QOk g to o Z∧hi-lo+lost o g.length≤g.length∧Bfs g to o (U1 ((Z.take hi).drop lo))) (λ(o,Z,lo,hi,zW)=>hi-lo+lost o g.length) (λi=>if to i=true then 0 else -1,yU to g.length,0,(yU to g.length).length,(yU to g.length).length) ?_
  refine sW ?_
  have hl0:=zlU to g.length
  refine⟨⟨zo,zo,⟨λx hx=>?_,λn=>by split<;>omega,λn hn=>by simp[hto n hn]⟩,zo,by rw[List.take_length,List.drop_zero];exact znS hto⟩,by exact sK,by rw[vc (g':=λi=>if to i=true then 0 else -1) λi hi=>by simp[zcB,hi]];rfl,?_⟩
  ·obtain⟨i,h1,_,rfl⟩:=Z2.1 hx;omega
  rintro⟨o,Z,lo,hi,zW⟩ ⟨hlo,hhi,hq,hu,hB⟩
  refine sW ?_
  refine sR ?_
  refine sS (λh1=>?_) λh1=>?_
  ·have h1:lo<hi:=sO
   rw[zrs h1 hhi,znK] at hB
   have hx:=hq.rng (Z.getD lo 0) (yr zo)
   generalize hX:Z.getD lo 0=x at hB hx
   refine sB ?_
   refine⟨_,yb (l:=Z) (k:=lo) zo zo,?_⟩
   refine sW ?_
   rw[hX]
   refine⟨zo,zo,zo,?_⟩
   refine sW ?_
   rw[show lo+(hi-lo)=hi by omega]
   refine sL (wG (g:=T) (k:=x.toNat) zo zo) ?_
   rw[List.length_map]
   have hL:=rT x.toNat
   have mL:=mT x.toNat
   generalize T.getD x.toNat []=L at hL mL
   refine zL [5,6,10,48,49] (λ((o',Z',lo',hi',ver',k):(Nat→Int) × List Int × Nat × Nat × Nat × Nat)=>[(7,.own 1 ver' lo' hi'),(50,.sc (.int .i64 k))]) (λ(o',Z',lo',hi',ver',k)=>[(0,.vec true 0 1 (zI (gl g.length o'))),(1,.vec true ver' 1 (zI Z'))])
    (λ(o',Z',lo',hi',ver',k)=>k≤L.length∧lo'≤hi'∧hi'≤Z'.length∧QOk g to o' Z'∧hi'-lo'+lost o' g.length<hi-lo+lost o g.length∧zeW g to o' (U1 ((Z'.take hi').drop lo')) x.toNat (U1 (L.take k))) (λ(o',Z',lo',hi',ver',k)=>L.length-k) (o,Z,lo+1,hi,zW,0) ?_
   refine sW ?_
   refine⟨⟨zo,zo,hhi,hq,zo,hB.pop⟩,by exact sK,rfl,?_⟩
   rintro⟨o',Z',lo',hi',ver',k⟩ ⟨hk,hlo',hhi',hq',hu',hJ⟩
   refine sW ?_
   refine sR ?_
   refine sS (λh3=>?_) λh3=>?_
   ·have hk':k<L.length:=sO
    obtain⟨v,hv1,hv2,y,hy1,hy2⟩:=(mL (L.getD k 0)).1 (yr hk')
    refine sL (yb (l:=L) (k:=k) zo hk') ?_
    rw[hv2]
    refine sB ?_
    refine⟨_,zT v zo hv1,?_⟩
    refine sW ?_
    have eT:U1 (L.take (k+1))=U1 (L.take k)++[v]:=by
     rw[List.take_add_one,List.getElem?_eq_getElem hk',ziB]
     rw[List.getD_eq_getElem?_getD,List.getElem?_eq_getElem hk'] at hv2
     simp at hv2
     simp[U1,hv2]
    refine sS (λh4=>?_) λh4=>?_
    ·have h4:o' v<0:=sO
     have hb:=zgG yT zo (hJ.sound x.toNat hJ.here)
     have h0:=hJ.here
     refine sB ?_
     refine⟨_,zT x.toNat zo zo,?_⟩
     refine sW ?_
     refine sI ?_
     refine sB ?_
     refine⟨_,zT v zo hv1,?_⟩
     refine sW ?_
     refine sJ ?_
     refine sI ?_
     have hl1:=zqa (n:=g.length) hv1 h4 (v:=o' x.toNat+1) zo
     have hp:=hJ.push h4 hy1 hy2
     refine⟨(zaP o' v (o' x.toNat+1),(Z'.take hi').drop lo'++[(v:Int)],0,hi'-lo'+1,ver'+1,k+1),⟨zo,zo,by simp;omega,hq'.put hv1 zo,zo,?_⟩,zd,?_⟩
     ·rw[List.drop_zero,List.take_of_length_le (by simp;omega),ziB,eT]
      exact hp
     ·(refine zj 2 zs rfl ?_ ?_<;>(repeat' (first|exact trivial|exact rfl|exact ya.refl _|exact zP.refl _|exact zJ.refl _|refine And.intro ?_ ?_|(simp[zp,zl,zD,-List.map_take,-List.map_drop];done))))
      ·exact zk (zcY zo)
      ·exact zk Yq
    ·have h4:0≤o' v:=sO
     refine sI ?_
     refine⟨(o',Z',lo',hi',ver',k+1),⟨zo,hlo',hhi',hq',hu',by rw[eT];exact hJ.skip h4⟩,zd,?_⟩
     exact zC (by exact sK) rfl
   ·have hk':k=L.length:=by have:¬k<L.length:=sO
                            omega
    subst hk'
    refine⟨(o',Z',lo',hi',ver'),⟨hlo',hhi',hq',zo,hJ.fin λk y h1 h2=>?_⟩,zd,?_⟩
    ·have hk:k<g.length:=by
      rcases Nat.lt_or_ge k g.length with q|q
      ·exact q
      ·rw[List.getD_eq_getElem?_getD,List.getElem?_eq_none q] at h1;cases h1
     rw[List.take_length]
     exact zjb.2 ⟨(k:Int),(mL k).2 ⟨k,hk,rfl,y,h1,h2⟩,zs⟩
    ·exact zC (by exact sK) rfl
  ·have h0:hi=lo:=sO
   subst h0
   rw[List.drop_eq_nil_of_le (by rw[List.length_take];omega)] at hB
   rw[vc (g':=XI g to) λi _=>zuo hB hq.low i]
   exact J8 rfl
end
section
open Go.RowKit
noncomputable def Yg (g:List (List Int)) (o:Nat→Int):Nat→Int→List Int
 | 0,a=>[a]
 | d+1,a=>a::Yg g o d (x8 (λn=>decide (o n=(d:Int))) (g.getD a.toNat []) (g.getD a.toNat []).length)
theorem zfV (g:List (List Int)) (o:Nat→Int):∀d a,(Yg g o d a).length=d+1
 | 0,_=>rfl
 | d+1,a=>by simp only[Yg,List.length_cons,zfV g o d]
noncomputable def V9 (g:List (List Int)) (from_:List Int) (to:Nat→Bool):Int:=yV (XI g to) from_ from_.length
noncomputable def zdH (g:List (List Int)) (from_:List Int) (to:Nat→Bool):List Int:=if 0≤V9 g from_ to then Yg g (XI g to) (XI g to (V9 g from_ to).toNat).toNat (V9 g from_ to) else []
theorem zuj (g:List (List Int)) (to:Nat→Bool) (n:Nat):-1≤XI g to n:=by
 rcases Int.lt_or_le (XI g to n) 0 with h|h
 ·rw[zib h];omega
 ·omega
theorem zhT {g:List (List Int)} (yT:∀l∈g,xv l g.length=true) {to:Nat→Bool} {a d:Nat} (h:XI g to a=(d:Int)+1) :
  0≤x8 (λn=>decide (XI g to n=(d:Int))) (g.getD a []) (g.getD a []).length∧x8 (λn=>decide (XI g to n=(d:Int))) (g.getD a []) (g.getD a []).length<(g.length:Int) ∧
   XI g to (x8 (λn=>decide (XI g to n=(d:Int))) (g.getD a []) (g.getD a []).length).toNat=(d:Int):=by
 have hB:=y9 yT a
 obtain⟨x,hx,hf⟩:=JA (J7.2 (show XI g to a=((d+1:Nat):Int) by omega))
 obtain⟨j,hj,ej⟩:=Xy hx
 rcases zaL (p:=λn=>decide (XI g to n=(d:Int))) (λk hk=>(uy hB hk).1) (g.getD a []).length (Nat.le_refl _) with⟨_,q⟩|⟨q1,q2,⟨i,q3,q4⟩,_⟩
 ·have:=q j hj
  rw[ej] at this
  have:=of_decide_eq_false this
  exact absurd (J7.1 hf) this
 ·refine⟨q1,?_,of_decide_eq_true q2⟩
  rw[←q4]
  exact(uy hB q3).2
theorem ziq {g:List (List Int)} {from_:List Int} (hf:xv from_ g.length=true) {to:Nat→Bool} (h:0≤V9 g from_ to):V9 g from_ to<(g.length:Int)∧0≤XI g to (V9 g from_ to).toNat:=by
 rcases QD (o:=XI g to) (λk hk=>(uy hf hk).1) from_.length (Nat.le_refl _) with⟨q,_⟩|⟨q1,q2,⟨i,q3,q4⟩,_⟩
 ·unfold V9 at h;omega
 ·unfold V9
  refine⟨?_,q2⟩
  rw[←q4]
  exact(uy hf q3).2
theorem zp2 {g:List (List Int)} (yT:∀l∈g,xv l g.length=true) {to:Nat→Bool} {n:Nat} (hn:n<g.length):XI g to n<(g.length:Int):=by
 rcases Int.lt_or_le (XI g to n) 0 with h|h
 ·omega
 ·have:=zgG yT hn (J7.2 (show XI g to n=((XI g to n).toNat:Int) by omega))
  omega
theorem zjD {o:Nat→Int} {l:List Int} {N:Nat} (hl:xv l N=true) (k:Nat) (hk:k≤l.length):yV o l k<(N:Int)∧-1≤yV o l k:=by
 rcases QD (o:=o) (λk hk=>(uy hl hk).1) k hk with⟨q,_⟩|⟨q1,q2,⟨i,q3,q4⟩,_⟩
 ·omega
 ·rw[←q4]
  have:=uy hl (k:=i) zo
  omega
theorem QB {g:List (List Int)} {o:Nat→Int} {d:Nat} {a:Int}:Yg g o (d+1) a=a::Yg g o d (x8 (λn=>decide (o n=(d:Int))) (g.getD a.toNat []) (g.getD a.toNat []).length):=rfl
def zzI:PC:=.seq (OP [Bi 39 .lss 38 37]) (.seq (.cond 39 .skip (.exit 0)) (.seq (.block 1 (.seq (OP [Ia 40 1 36 38,Lo 41 40,qm 13 41]) (.seq (.ops [qm 42 10,qm 43 13,qd 44 (.zM 1 42 43) 3,qd 45 (.zi 44) 7,qd 46 (.bin .geq 45 (cI 0)) 15,qw 47 46 31,⟨some 48,.move 11,some (47,true),63⟩,⟨some 49,.bin .lss 48 (cI 0),some (47,true),127⟩,⟨some 50,.move 49,some (47,true),255⟩,⟨some 51,.move 10,some (50,false),511⟩,⟨some 52,.move 13,some (50,false),511⟩,⟨some 53,.zM 1 51 52,some (50,false),2047⟩,⟨some 54,.zi 53,some (50,false),4095⟩,⟨some 55,.move 10,some (50,false),511⟩,⟨some 56,.move 11,some (50,false),511⟩,⟨some 57,.zM 1 55 56,some (50,false),25087⟩,⟨some 58,.zi 57,some (50,false),57855⟩,⟨some 59,.bin .lss 54 58,some (50,false),131071⟩,⟨some 60,.pick 50 cT 59,some (47,true),262143⟩,⟨some 61,.move 60,some (47,true),524287⟩,⟨some 62,.move 10,some (61,false),1048575⟩,⟨some 63,.move 13,some (61,false),1048575⟩,⟨some 64,.zM 1 62 63,some (61,false),4194303⟩,⟨some 65,.zi 64,some (61,false),8388607⟩,⟨some 66,.move 10,some (61,false),1048575⟩,⟨some 67,.move 11,some (61,false),1048575⟩,⟨some 68,.zM 1 66 67,some (61,false),51380223⟩,⟨some 69,.zi 68,some (61,false),118489087⟩,⟨some 70,.bin .eql 65 69,some (61,false),268435455⟩,⟨some 71,.move 70,some (61,false),536870911⟩,⟨some 72,.move 13,some (71,true),1073741823⟩,⟨some 73,.move 11,some (71,true),1073741823⟩,⟨some 74,.bin .lss 72 73,some (71,true),4294967295⟩,⟨some 75,.pick 71 74 cF,some (61,false),8589934591⟩,⟨some 76,.pick 61 cT 75,some (47,true),17179869183⟩,qd 77 (.pick 47 76 cF) 34359738367] true) (.cond 77 (OP [qm 78 13,qm 11 78]) .skip)))) (OP [Bi 79 .add 38 (cI 1),qm 38 79])))
def zAv:PC:=.seq (OP [Bi 95 .lss 94 93]) (.seq (.cond 95 .skip (.exit 4)) (.seq (.block 5 (.seq (OP [Ia 96 1 92 94,Lo 97 96,qm 17 97]) (.seq (.ops [qm 98 10,qm 99 17,qd 100 (.zM 1 98 99) 3,qd 101 (.zi 100) 7,qm 102 10,qm 103 11,qd 104 (.zM 1 102 103) 48,qd 105 (.zi 104) 112,qd 106 (.bin .sub 105 (cI 1)) 240,qd 107 (.bin .eql 101 106) 511,qw 108 107 1023,⟨some 109,.move 15,some (108,true),2047⟩,⟨some 110,.bin .lss 109 (cI 0),some (108,true),4095⟩,⟨some 111,.move 110,some (108,true),8191⟩,⟨some 112,.move 17,some (111,false),16383⟩,⟨some 113,.move 15,some (111,false),16383⟩,⟨some 114,.bin .lss 112 113,some (111,false),65535⟩,⟨some 115,.pick 111 cT 114,some (108,true),131071⟩,qd 116 (.pick 108 115 cF) 262143] true) (.cond 116 (OP [qm 117 17,qm 15 117]) .skip)))) (OP [Bi 118 .add 94 (cI 1),qm 94 118])))
def zzp:PC:=.seq (.seq (OP [qm 84 10,qm 85 11,Ia 86 1 84 85,Lo 87 86,Bi 88 .gtr 87 (cI 0)]) (.cond 88 .skip (.exit 2))) (.block 3 (.seq (OP [Mv 15 (cI (-1))]) (.seq (.seq (OP [qm 89 0,qm 90 11,Ia 91 1 89 90,Lo 92 91,Ln 93 92,Mv 94 (cI 0)]) (.block 4 (.loop zAv))) (.seq (OP [qm 119 15,qm 11 119]) (OP [qm 120 14,qm 121 11,Bs 122 1 1 [121],Ap 123 1 8 120 122,qm 14 123])))))
def c35:PC:=.seq (OP [Mv 6 cN,Mv 7 cF,Mv 8 (cI 0)]) (.seq (.seq (OP [qm 18 0,Ca 19 29 [18],qm 9 19]) (.seq (OP [qm 20 9,Bi 21 .neq 20 (cI 0)]) (.cond 21 (.seq (OP [qm 22 9,Mv 6 cN,Mv 7 cF,qm 8 22]) .ret) .skip))) (.seq (.seq (OP [qm 23 0,qm 24 1,Ca 25 31 [23,24],qm 26 25,GF 27 26 (.move 2),GF 28 26 (.len 27),GF 29 26 (.move 0),GF 30 26 (.len 29),GF 31 26 (.bin .neq 28 30),Pk 32 26 cT 31]) (.cond 32 (.seq (OP [Mv 6 cN,Mv 7 cF,Mv 8 (cI 1)]) .ret) .skip)) (.seq (OP [qm 33 0,qm 34 2,Ca 35 65 [33,34],qm 10 35]) (.seq (OP [Mv 11 (cI (-1))]) (.seq (.seq (OP [qm 36 1,Ln 37 36,Mv 38 (cI 0)]) (.block 0 (.loop zzI))) (.seq (.seq (OP [qm 80 11,Bi 81 .lss 80 (cI 0)]) (.cond 81 (.seq (OP [Mv 6 cN,Mv 7 cF,Mv 8 (cI 0)]) .ret) .skip)) (.seq (OP [qm 82 11,Bs 83 1 1 [82],qm 14 83]) (.seq (.block 2 (.loop zzp)) (.seq (OP [qm 124 14,qm 6 124,Mv 7 cT,Mv 8 (cI 0)]) .ret)))))))))
theorem zw4:zz Tryz.prog 35 125 [.tmp 6,.tmp 7,.tmp 8] c35:=fK Tryz.func35
theorem zs4 (g:List (List Int)) (hg:Vv g=0) (hF:qV g) (from_:List Int) (hf:xv from_ g.length=true) (hfl:from_.length≤9223372036854775807) (to:Nat→Bool) (hto:∀i,g.length≤i→to i=false) :
  zu Tryz.prog 35 [z8 g,zw from_,UY g.length to] (.yI [zw (zdH g from_ to),.sc (.bool (decide (0≤V9 g from_ to))),.sc (.int .i64 0)]):=by
 obtain⟨hn,yT⟩:=uK.1 hg
 refine zb zw4 zs (by simp[ze,Pure,yc,zh,xm]) ?_ (by simp[Pure,ze,zh])
 refine sR ?_
 refine sC (zaV g hF) ?_
 refine sS (λh1=>?_) λh1=>?_
 ·exfalso;exact sO
 refine sC (zhc g from_ hfl) ?_
 rw[hf]
 refine sW ?_
 rw[Jp,List.length_map]
 refine sS (λh3=>?_) λh3=>?_
 ·exfalso;exact sO
 refine sC (zua g hg hF to hto) ?_
 rw[List.length_map]
 have hdl:=λi (h:i<g.length)=>zp2 yT (to:=to) h
 have hdm:=zuj g to
 have eW:V9 g from_ to=yV (XI g to) from_ from_.length:=rfl
 have eL:zdH g from_ to=if 0≤V9 g from_ to then Yg g (XI g to) (XI g to (V9 g from_ to).toNat).toNat (V9 g from_ to) else []:=rfl
 have hst:=@ziq g from_ hf to
 have hnx:=@zhT g yT to
 generalize XI g to=o at hdl hdm eW eL hst hnx
 refine zL [0,10,36,37] (λk:Nat=>[(11,.sc (.int .i64 (yV o from_ k))),(38,.sc (.int .i64 k))]) (λ_=>[]) (λk=>k≤from_.length) (λk=>from_.length-k) 0 ?_
 refine sW ?_
 refine⟨zo,by exact sK,rfl,?_⟩
 rintro k hk
 refine sW ?_
 refine sR ?_
 refine sS (λh4=>?_) λh4=>?_
 ·have hk':k<from_.length:=sO
  have hx:=uy hf hk'
  have hr:=zjD (o:=o) hf k zo
  refine sL (yb (l:=from_) (k:=k) zo hk') ?_
  have eS:yV o from_ (k+1)=if 0≤o (from_.getD k 0).toNat∧(yV o from_ k<0∨o (from_.getD k 0).toNat<o (yV o from_ k).toNat∨(o (from_.getD k 0).toNat=o (yV o from_ k).toNat∧from_.getD k 0<yV o from_ k)) then from_.getD k 0 else yV o from_ k:=rfl
  generalize from_.getD k 0=x at eS hx
  generalize yV o from_ k=a at eS hr
  refine sL (zT x.toNat zo zo) ?_
  refine sS (λc1=>?_) λc1=>?_
  ·have c1:0≤o x.toNat:=sO
   refine sS (λc2=>?_) λc2=>?_
   ·have hc:0≤o x.toNat∧(a<0∨o x.toNat<o a.toNat∨(o x.toNat=o a.toNat∧x<a)):=⟨c1,.inl (sO)⟩
    refine sW ?_
    refine sI ?_
    refine⟨k+1,zo,zd,?_⟩
    dsimp only
    rw[eS,if_pos hc]
    exact zC (by exact sK) rfl
   ·have c2:¬a<0:=sO
    refine sL (zT x.toNat zo zo) ?_
    refine sL (zT a.toNat zo zo) ?_
    refine sS (λc3=>?_) λc3=>?_
    ·have hc:0≤o x.toNat∧(a<0∨o x.toNat<o a.toNat∨(o x.toNat=o a.toNat∧x<a)):=⟨c1,.inr (.inl (sO))⟩
     refine sW ?_
     refine sI ?_
     refine⟨k+1,zo,zd,?_⟩
     dsimp only
     rw[eS,if_pos hc]
     exact zC (by exact sK) rfl
    ·have c3:¬o x.toNat<o a.toNat:=sO
     refine sL (zT x.toNat zo zo) ?_
     refine sL (zT a.toNat zo zo) ?_
     refine sS (λc4=>?_) λc4=>?_
     ·have c4:o x.toNat=o a.toNat:=sO
      refine sS (λc5=>?_) λc5=>?_
      ·have hc:0≤o x.toNat∧(a<0∨o x.toNat<o a.toNat∨(o x.toNat=o a.toNat∧x<a)):=⟨c1,.inr (.inr ⟨c4,sO⟩)⟩
       refine sW ?_
       refine sI ?_
       refine⟨k+1,zo,zd,?_⟩
       dsimp only
       rw[eS,if_pos hc]
       exact zC (by exact sK) rfl
      ·have c5:¬x<a:=sO
       have hc:¬(0≤o x.toNat∧(a<0∨o x.toNat<o a.toNat∨(o x.toNat=o a.toNat∧x<a))):=zo
       refine sW ?_
       refine sI ?_
       refine⟨k+1,zo,zd,?_⟩
       dsimp only
       rw[eS,if_neg hc]
       exact zC (by exact sK) rfl
     ·have c4:o x.toNat≠o a.toNat:=sO
      have hc:¬(0≤o x.toNat∧(a<0∨o x.toNat<o a.toNat∨(o x.toNat=o a.toNat∧x<a))):=zo
      refine sW ?_
      refine sI ?_
      refine⟨k+1,zo,zd,?_⟩
      dsimp only
      rw[eS,if_neg hc]
      exact zC (by exact sK) rfl
  ·have hc:¬(0≤o x.toNat∧(a<0∨o x.toNat<o a.toNat∨(o x.toNat=o a.toNat∧x<a))):=λh=>sO
   refine sW ?_
   refine sI ?_
   refine⟨k+1,zo,zd,?_⟩
   dsimp only
   rw[eS,if_neg hc]
   exact zC (by exact sK) rfl
 ·have hk':k=from_.length:=by have:¬k<from_.length:=sO
                              omega
  subst hk'
  rw[←eW]
  generalize V9 g from_ to=a at eL hst
  refine sS (λh5=>?_) λh5=>?_
  ·have h5:¬0≤a:=sO
   rw[eL,if_neg h5,decide_eq_false h5]
   exact .yI _ _ (.cons _ _ _ _ (.none _) (xn _))
  ·have h5:0≤a:=sO
   obtain⟨ha1,ha2⟩:=hst h5
   rw[eL,if_pos h5,decide_eq_true h5]
   generalize hW:Yg g o (o a.toNat).toNat a=W
   have ha3:=hdl a.toNat zo
   refine zL [0,10] (λ((b,pre):Int × List Int)=>[(11,.sc (.int .i64 b)),(14,.own 0 pre.length 0 (pre.length+1))]) (λ(b,pre)=>[(0,.vec true pre.length 1 (zI (pre++[b])))])
    (λ(b,pre)=>0≤b∧b<(g.length:Int)∧0≤o b.toNat∧pre.length+(o b.toNat).toNat≤20000∧pre++Yg g o (o b.toNat).toNat b=W) (λ(b,pre)=>(o b.toNat).toNat) (a,[]) ?_
   refine sW ?_
   refine⟨⟨h5,ha1,ha2,by simp;omega,hW⟩,by exact sK,rfl,?_⟩
   rintro⟨b,pre⟩ ⟨hb1,hb2,hb3,hb4,hb5⟩
   refine sW ?_
   refine sR ?_
   refine sL (zT b.toNat zo zo) ?_
   have hb6:=hdl b.toNat zo
   refine sS (λh6=>?_) λh6=>?_
   ·obtain⟨d,ed⟩:∃d:Nat,o b.toNat=(d:Int)+1:=⟨(o b.toNat).toNat-1,by have h6:0<o b.toNat:=sO
                                                                     omega⟩
    obtain⟨n1,n2,n3⟩:=hnx ed
    rw[show(o b.toNat).toNat=d+1 by omega,QB] at hb5
    refine sL (wG (g:=g) (k:=b.toNat) zo zo) ?_
    rw[List.length_map]
    have hB:=y9 yT b.toNat
    have hBl:=hF.at b.toNat
    generalize g.getD b.toNat []=L at n1 n2 n3 hb5 hB hBl
    refine zL [0,10,11,14,92,93] (λk:Nat=>[(15,.sc (.int .i64 (x8 (λn=>decide (o n=(d:Int))) L k))),(94,.sc (.int .i64 k))]) (λ_=>[]) (λk=>k≤L.length) (λk=>L.length-k) 0 ?_
    refine sW ?_
    refine⟨zo,by exact sK,rfl,?_⟩
    rintro k hk
    refine sW ?_
    refine sR ?_
    refine sS (λh7=>?_) λh7=>?_
    ·have hk':k<L.length:=sO
     have hx:=uy hB hk'
     refine sL (yb (l:=L) (k:=k) zo hk') ?_
     have eS:x8 (λn=>decide (o n=(d:Int))) L (k+1)=if decide (o (L.getD k 0).toNat=(d:Int))=true∧(x8 (λn=>decide (o n=(d:Int))) L k<0∨L.getD k 0<x8 (λn=>decide (o n=(d:Int))) L k) then L.getD k 0 else x8 (λn=>decide (o n=(d:Int))) L k:=rfl
     simp only[decide_eq_true_eq] at eS
     generalize L.getD k 0=x at eS hx
     generalize x8 (λn=>decide (o n=(d:Int))) L k=y at eS
     refine sL (zT x.toNat zo zo) ?_
     refine sL (zT b.toNat zo zo) ?_
     refine sI ?_
     refine sS (λc1=>?_) λc1=>?_
     ·have c1:o x.toNat=d:=sO
      refine sS (λc2=>?_) λc2=>?_
      ·have hc:o x.toNat=(d:Int)∧(y<0∨x<y):=⟨c1,.inl (sO)⟩
       refine sW ?_
       refine sI ?_
       refine⟨k+1,zo,zd,?_⟩
       dsimp only
       rw[eS,if_pos hc]
       exact zC (by exact sK) rfl
      ·have c2:¬y<0:=sO
       refine sS (λc3=>?_) λc3=>?_
       ·have hc:o x.toNat=(d:Int)∧(y<0∨x<y):=⟨c1,.inr (sO)⟩
        refine sW ?_
        refine sI ?_
        refine⟨k+1,zo,zd,?_⟩
        dsimp only
        rw[eS,if_pos hc]
        exact zC (by exact sK) rfl
       ·have hc:¬(o x.toNat=(d:Int)∧(y<0∨x<y)):=λh=>sO
        refine sW ?_
        refine sI ?_
        refine⟨k+1,zo,zd,?_⟩
        dsimp only
        rw[eS,if_neg hc]
        exact zC (by exact sK) rfl
     ·have hc:¬(o x.toNat=(d:Int)∧(y<0∨x<y)):=λh=>sO
      refine sW ?_
      refine sI ?_
      refine⟨k+1,zo,zd,?_⟩
      dsimp only
      rw[eS,if_neg hc]
      exact zC (by exact sK) rfl
    ·have hk':k=L.length:=by have:¬k<L.length:=sO
                             omega
     subst hk'
     generalize x8 (λn=>decide (o n=(d:Int))) L L.length=y at n1 n2 n3 hb5
     refine sJ ?_
     refine⟨(y,pre++[b]),⟨n1,n2,zo,by simp;omega,?_⟩,zd,?_⟩
     ·rw[n3,Int.toNat_natCast,←hb5];simp
     ·dsimp only
      rw[show(pre++[b]).length=pre.length+1 by simp]
      refine zj 1 zs rfl sQ (sU ?_)
      exact zk (by rw[List.take_of_length_le zs,List.drop_zero];simp[zI])
   ·have h6:o b.toNat=0:=sO
    rw[h6] at hb5
    refine .yI _ _ (.cons _ _ _ _ ?_ (xn _))
    rw[←hb5]
    exact .own _ _ _ _ _ _ _ _ rfl (by rw[List.drop_zero,List.take_of_length_le zs];exact zU _)
end
end
section
open Go.RowKit
theorem zoR {P:Program} {f:FuncId} {args args':List D} {d:D} {H:List zf} (hd:vJ H args args') (h:zu P f args' d):yB P f args H d (W3 H):=by
 obtain⟨hf,hp⟩:=h
 refine⟨hf,by rw[wU,List.length_map];exact Nat.le_refl _,λJ F w vs hok hdom hargs=>?_⟩
 have hlt:∀b,F b∨Zm J b→b<w.heap.size:=λb hb=>hb.elim (hok.lt b) λ⟨i,s,hi,hs⟩=>hok.xd hi hs
 refine(hp J (λb=>F b∨Zm J b) w _ (hok.lt.mono (λ_ h=>.inl h) (λ_ _=>rfl) hlt) (vx hok (λ_ _ h=>h) _ _ _ hd hargs)).mono λe w' hR=>?_
 obtain⟨v,F',rfl,h1,h2,h3⟩:=hR
 have hblk:∀b,b<w.heap.size→w'.heap[b]? = w.heap[b]?:=λb hb=>h3.block b hb (Ze b)
 refine⟨v,J,F',rfl,⟨λi s hs=>?_,hok.one,λi s b o g1 g2 g3 g4=>?_,hok.lt.mono (λb hb=>h3.grow b (.inl hb)) (λb hb=>hblk b (hok.lt b hb)) h1⟩,λid hid=>?_,yE (JS J) (λ_ h=>h) (λ_ _=>rfl) _ _ h2,?_⟩
 ·obtain⟨o,q1,q2⟩:=hok.obj i s hs
  refine⟨o.frozen,?_,?_⟩
  ·rw[wU,List.getElem?_map,q1];rfl
  ·have q3:=xE (J':=J) (F':=F') (w':=w') (yK.le_refl J) (λb hb=>h3.grow b (.inl hb)) (λb hb=>hblk b (hok.lt b hb)) (λb hb=>hblk b (hok.xd hs hb)) q2
   cases o with
   | row m cs =>
    obtain⟨k1,k2,k3,k4,k5,b,vals,te,t1,t2,t3,t4,t5⟩:=q3
    exact⟨k1,k2,k3,k4,k5,b,vals,te,t1,t2,t3,t4,λ_=>h3.grow b (.inr ⟨i,s,hs,by simp[Site.uB,k1,t1]⟩)⟩
   | vec m v e xs =>
    obtain⟨k1,k2,k3,k4,k5,k6⟩:=q3
    refine⟨k1,k2,k3,k4,k5,?_⟩
    by_cases hz:s.cap=0
    ·exact .inl hz
    ·rcases k6 with k6|⟨b,o,vals,te,t1,t2,t3,t4,t5⟩
     ·exact .inl k6
     ·exact .inr ⟨b,o,vals,te,t1,t2,t3,t4,λ_=>h3.grow b (.inr ⟨i,s,hs,by simp[Site.uB,k1,hz,t1]⟩)⟩
   | xL m I=>exact q3
 ·exfalso
  rw[wU,List.getElem?_map] at g3
  cases e:H[i]? with
  | none=>rw[e] at g3;cases g3
  | some x =>
   rw[e] at g3
   cases x<;>cases g3<;>cases g4
 ·rw[wU,List.length_map]
  exact hdom id hid
 ·exact⟨h3.os,h3.tape,h3.output,h3.size,λb hb _=>hblk b hb,λb hb=>hblk b (hok.lt b hb),yK.le_refl J,λb hb=>h3.grow b (.inl hb),λb hb=>.inl hb,λb hb=>by
   rcases h3.we b hb with q|q|q
   ·rcases q with q|q
    ·exact .inl q
    ·exact .inr (.inl q)
   ·exact absurd q (Ze b)
   ·exact .inr (.inr q)⟩
theorem V2 {P:Program} {f:FuncId} {args0 args' args:List D} {d:D} {H0 H:List zf} (hd:vJ H0 args0 args') (h:zu P f args' d) (hp:Pure d) (L:List Nat) (hL:L.length=H0.length) (hnd:L.Nodup)
  (hargs:zl H0.length args0) (hobj:wq H0.length H0) (e1:yG (λi=>L.getD i 0) args0=args)
  (h1:∀i o,H0[i]? = some o→H[L.getD i 0]? = some (o.yy λi=>L.getD i 0)):Zk P f args H d (WJ H L ((W3 H0).map (zf.yy λi=>L.getD i 0))) L :=
 zc8 (zoR hd h) (by rw[wU,List.length_map]) L hL hnd hargs hobj e1 (yx _ hp) h1
end
section
open Go.RowKit
def c12:PC:=.seq (OP [Mv 2 cN,Mv 3 (cI 0)]) (.seq (.seq (OP [qm 5 0,Ca 6 29 [5],qm 4 6]) (.seq (OP [qm 7 4,Bi 8 .neq 7 (cI 0)]) (.cond 8 (.seq (OP [qm 9 4,Mv 2 cN,qm 3 9]) .ret) .skip))) (.seq (OP [qm 10 0,Ca 11 30 [10],qm 2 11,Mv 3 (cI 0)]) .ret))
theorem zw0:zz Tryz.prog 12 12 [.tmp 2,.tmp 3] c12:=fK Tryz.func12
theorem znM (g:List (List Int)) (hg:Vv g=0) (hF:qV g):zu Tryz.prog 12 [z8 g] (.yI [z8 (xH g g.length),.sc (.int .i64 0)]):=by
 refine zb zw0 zs (by simp[ze,yc]) ?_ (by simp[Pure,ze,yc])
 refine sR ?_
 refine sC (zaV g hF) ?_
 refine sS (λh1=>?_) λh1=>?_
 ·exfalso;exact sO
 refine sC (zf4 g hg hF) ?_
 exact .refl _
@[simp] theorem zvd {m:Nat} (l:List Int):zp m (uM l)↔True:=⟨λ_=>trivial,λ_=>zq _ (uI l)⟩
end
section
open Go.RowKit Go.ChangeShapes Go.WideShapes Go.ChangeAt
end
section
open Go.RowKit Go.ChangeShapes Go.WideShapes Go.ChangeAt
end
section
section
open Go.RowKit
noncomputable def QK (g:List (List Int)) (S:Nat→Bool) (k i:Nat):Bool:=(List.range k).any λv=>zH g v==(i:Int)&&S v
noncomputable def YF (g:List (List Int)) (sets:List (Nat→Bool)) (i:Nat):Bool:=okT g g.length i&&sets.all λS=>QK g S g.length i
theorem zni (g:List (List Int)) (S:Nat→Bool) (k i:Nat):QK g S (k+1) i=(QK g S k i||(zH g k==(i:Int)&&S k)):=by
 unfold QK;rw[List.range_succ,List.any_append];simp
theorem zns {g:List (List Int)} (yT:∀v x,x∈g.getD v []→x.toNat<g.length) (sets:List (Nat→Bool)):(∃i,i<g.length∧YF g sets i=true)↔∃v,v<g.length∧Fw g sets v:=by
 constructor
 ·rintro⟨i,hi,h⟩
  unfold YF at h
  rw[Bool.and_eq_true,List.all_eq_true] at h
  obtain⟨h1,h2⟩:=h
  unfold okT at h1
  rw[List.any_eq_true] at h1
  obtain⟨n,hn,q⟩:=h1
  have hn:=List.mem_range.1 hn
  rw[Bool.and_eq_true,beq_iff_eq] at q
  refine⟨n,hn,n,wO g n,(zdg yT hn).1 q.2,λS hS=>?_⟩
  have:=h2 S hS
  unfold QK at this
  rw[List.any_eq_true] at this
  obtain⟨d,hd,r⟩:=this
  have hd:=List.mem_range.1 hd
  rw[Bool.and_eq_true,beq_iff_eq,←q.1,parts_eq hd hn,xx] at r
  exact⟨d,r.2,r.1.2,r.1.1⟩
 ·rintro⟨v,hv,c,h1,h2,h3⟩
  have hc:=zjv yT hv h1
  have hp:=VQ hc
  refine⟨(zH g c).toNat,zo,?_⟩
  unfold YF
  rw[Bool.and_eq_true,List.all_eq_true]
  have e:((zH g c).toNat:Int)=zH g c:=zo
  refine⟨?_,λS hS=>?_⟩
  ·unfold okT
   rw[List.any_eq_true]
   exact⟨c,List.mem_range.2 hc,by rw[Bool.and_eq_true,beq_iff_eq,e];exact⟨rfl,(zdg yT hc).2 h2⟩⟩
  ·obtain⟨d,d1,d2,d3⟩:=h3 S hS
   have hd:=zjv yT hc d2
   unfold QK
   rw[List.any_eq_true]
   exact⟨d,List.mem_range.2 hd,by rw[Bool.and_eq_true,beq_iff_eq,e,parts_eq hd hc,xx];exact⟨⟨d3,d2⟩,d1⟩⟩
end
section
open Go.RowKit
end
section
open Go.RowKit
end
section
open Go.RowKit
end
end
section
section
open Go.RowKit
end
section
open Go.RowKit
end
section
open Go.RowKit
theorem zhe:∀(n m:Nat) (h:Nat→Nat),(∀i,i<m→h i<n)→(∀i j,i<m→j<m→h i=h j→i=j)→m≤n
 | 0,m,h,h1,_=>by
  rcases Nat.eq_zero_or_pos m with e|e
  ·omega
  ·have:=h1 0 e;omega
 | n+1,m,h,h1,h2=>by
  by_cases q:∃i,i<m∧h i=n
  ·obtain⟨i0,q1,q2⟩:=q
   have:=zhe n (m-1) (λi=>h (if i=i0 then m-1 else i)) (λi hi=>by
    split
    ·rename_i e
     have a1:=h1 (m-1) zo
     have a2:h (m-1)≠n:=λe2=>by have:=h2 (m-1) i0 zo q1 (by rw[e2,q2]);omega
     omega
    ·rename_i e
     have a1:=h1 i zo
     have a2:h i≠n:=λe2=>e (h2 i i0 zo q1 (by rw[e2,q2]))
     omega) (λi j hi hj e=>by
    have:=h2 _ _ (by split<;>omega) (by split<;>omega) e
    split at this<;>split at this<;>omega)
   omega
  ·have:=zhe n m h (λi hi=>by have:=h1 i hi;have:h i≠n:=λe=>q ⟨i,hi,e⟩;omega) h2
   omega
end
section
open Go.RowKit
end
end
section
open Go.RowKit
def YB (a b:Int):List D:=[.sc (.int .i64 a),.sc (.int .i64 b)]
def Ww (l:List Pr):List (List D):=l.map λo=>YB o.1 o.2
def Uh (l:List Pr):D:=.xj 2 (Ww l)
@[simp] theorem UD (l:List Pr):(Ww l).length=l.length:=by simp[Ww]
theorem QC (l:List Pr):yv (Ww l):=zB _ (λl=>by simp[YB,ze,Pure]) l
theorem V5 (l:List Pr):Pure (Uh l):=by simp only[Uh,Pure];exact QC l
@[simp] theorem zrK {m:Nat} (l:List Pr):zD m (Ww l)↔True:=⟨λ_=>trivial,λ_=>zg _ (QC l)⟩
@[simp] theorem zul {m:Nat} (l:List Pr):zp m (Uh l)↔True:=⟨λ_=>trivial,λ_=>zq _ (V5 l)⟩
theorem Q4 {l:List Pr} {z k:Nat} (hz:z=k) (h:k<l.length):(Ww l)[z]? = some (YB (l.getD k (0,0)).1 (l.getD k (0,0)).2):=by
 subst hz
 unfold Ww
 rw[List.getElem?_map,List.getElem?_eq_getElem h,List.getD_eq_getElem?_getD,List.getElem?_eq_getElem h]
 rfl
def vd (L:List (List Int)):List (List D):=L.map λl=>[zw l]
@[simp] theorem zwE (L:List (List Int)):(vd L).length=L.length:=by simp[vd]
theorem ui (L:List (List Int)):yv (vd L):=zB _ (λl=>by simp[ze,zh]) L
@[simp] theorem zpP {m:Nat} (l:List (List Int)):zD m (vd l)↔True:=⟨λ_=>trivial,λ_=>zg _ (ui l)⟩
theorem zjF {L:List (List Int)} {c:Nat} {l:List Int} (h:c=L.length):List.drop 0 (List.take c (vd L))++[[zw l]]=vd (L++[l]):=by
 subst h
 rw[zr zs]
 simp[vd]
theorem xB (l:List Int) (x:Int):List.drop 0 (List.take l.length (zI l))++List.drop 0 (List.take 1 [[D.sc (.int .i64 x)]])=zI (l++[x]):=by
 rw[zr (by simp[zI])]
 simp[zI]
theorem zjf (L:List Pr) (p:Pr):List.drop 0 (List.take L.length (Ww L))++List.drop 0 (List.take 1 [[D.sc (.int .i64 p.1),D.sc (.int .i64 p.2)]])=Ww (L++[p]):=by
 rw[zr zs]
 simp[Ww,YB]
theorem zob {P : Program} {k e : TypeId} {f0 f1 : Field} (hsz : 0 < P.types.size) (hk : P.keyType k = true) (hu : P.underlying k = some (.struct #[f0, f1])) (h0 : f0.type = e) (h1 : f1.type = e) (o0 : f0.offset = 0) (o1 : f1.offset = 1) (n0 : (f0.name != "_") = true) (n1 : (f1.name != "_") = true) (he : P.underlying e = some (.int .i64)) (hce : P.cellsOf e = 1) (hck : P.cellsOf k = 2) (a b : Int) (ha : (Lit.int .i64 a).wf = true) (hb : (Lit.int .i64 b).wf = true) :
  ∃l,keyOf P k (.agg #[.int .i64 a,.int .i64 b])=some l:=by
 obtain⟨d,hd⟩:∃d,P.types.size=d+1:=⟨P.types.size-1,zo⟩
 unfold keyOf
 rw[hu]
 simp only[hk,Value.formed,hu,hck,Bool.true_and]
 rw[if_pos zs,hd]
 show ∃l,(P.keyLits (d+1+1) k [.int .i64 a,.int .i64 b]).map _=some l
 rw[Program.keyLits.eq_def]
 simp only[hu]
 rw[if_pos ⟨by simp[hck],by simp[n0,n1]⟩]
 simp[List.mapM_cons,h0,h1,o0,o1,hce,Program.keyLits,he,ha,hb]
def zeX (p:Pr):Value:=.agg #[.int .i64 p.1,.int .i64 p.2]
theorem zik {p q:Pr} (h:zeX p=zeX q):p=q:=by
 unfold zeX at h
 have h:=(Value.agg.injEq _ _).mp h
 have h:=congrArg Array.toList h
 simp at h
 exact Prod.ext h.1 h.2
noncomputable def ze7 (L:List Pr):Nat→Value→Option Value
 | 0=>λ_=>none
 | k+1=>QZ (ze7 L k) (zeX (L.getD k (0,0))) (.int .i64 k)
noncomputable def fP (L:List Pr):Value→Option Value:=ze7 L L.length
theorem ziV {L:List Pr} {m:Pr}:∀k,k≤L.length→ze7 (L++[m]) k=ze7 L k
 | 0,_=>rfl
 | k+1,h=>by
  simp only[ze7]
  rw[ziV k zo,List.getD_eq_getElem?_getD,List.getElem?_append_left zo,←List.getD_eq_getElem?_getD]
theorem zxy (L:List Pr) (m:Pr):fP (L++[m])=QZ (fP L) (zeX m) (.int .i64 L.length):=by
 unfold fP
 rw[List.length_append,List.length_singleton]
 simp only[ze7]
 rw[ziV _ (Nat.le_refl _),List.getD_eq_getElem?_getD,List.getElem?_append_right (Nat.le_refl _),Nat.sub_self]
 rfl
theorem Uw {l:List Pr} {k:Nat} (h:k<l.length):l.getD k (0,0)∈l:=by
 rw[List.getD_eq_getElem?_getD,List.getElem?_eq_getElem h];simp
theorem zfh {L:List Pr} {m:Pr} (hm:¬m∈L):∀k,k≤L.length→ze7 L k (zeX m)=none
 | 0,_=>rfl
 | k+1,h=>by
  simp only[ze7,QZ]
  rw[if_neg ?_,zfh hm k zo]
  intro e
  exact hm (zik e▸Uw zo)
theorem zfp {L:List Pr} {m:Pr} (hn:L.Nodup) {i:Nat} (hi:i<L.length) (hm:L.getD i (0,0)=m):∀k,i<k→k≤L.length→ze7 L k (zeX m)=some (.int .i64 i)
 | 0,h,_=>zo
 | k+1,h,hk=>by
  simp only[ze7,QZ]
  by_cases e:i=k
  ·subst e
   rw[hm,if_pos rfl]
  ·rw[if_neg ?_,zfp hn hi hm k zo zo]
   intro q
   have:=zik q
   rw[←hm,List.getD_eq_getElem?_getD,List.getD_eq_getElem?_getD,List.getElem?_eq_getElem hi,List.getElem?_eq_getElem zo] at this
   exact List.pairwise_iff_getElem.1 hn i k hi zo zo this
theorem znh {L:List Pr} {m:Pr} (h:m∈L):wR L m<L.length∧L.getD (wR L m) (0,0)=m:=by
 have h1:=VO h
 refine⟨h1,?_⟩
 unfold wR at h1 ⊢
 rw[List.getD_eq_getElem?_getD,List.getElem?_eq_getElem h1,List.getElem_idxOf h1]
 rfl
theorem zmM {L:List Pr} {m:Pr} (hn:L.Nodup) (h:m∈L):fP L (zeX m)=some (.int .i64 (wR L m)):=by
 obtain⟨h1,h2⟩:=znh h
 exact zfp hn h1 h2 _ h1 (Nat.le_refl _)
theorem zsE {L:List Pr} {m:Pr} (h:¬m∈L):fP L (zeX m)=none:=zfh h _ (Nat.le_refl _)
def WfP (p:Pr):Prop:=(Lit.int .i64 p.1).wf=true∧(Lit.int .i64 p.2).wf=true
theorem zv4 {p:Pr} (h:0≤p.1∧p.1≤1000000000∧0≤p.2∧p.2≤1000000000):WfP p:=by
 have h1:IntKind.min .i64=-9223372036854775808:=zc
 have h2:IntKind.max .i64=9223372036854775807:=zc
 constructor
 ·simp only[Lit.wf,Bool.and_eq_true,decide_eq_true_eq];omega
 ·simp only[Lit.wf,Bool.and_eq_true,decide_eq_true_eq];omega
def zdJ:D:=.sc (.slice none 0 0)
@[simp] theorem zv3 {m:Nat}:zp m zdJ↔True:=⟨λ_=>trivial,λ_=>trivial⟩
end
section
open Go.RowKit
def noT:Nat→Bool:=λ_=>false
def zkn (n:Nat) (F:List (Nat→Bool)):D:=.xj 1 (F.map λS=>[UY n S])
theorem zaU (n:Nat) (F:List (Nat→Bool)):Pure (zkn n F):=by simp only[zkn,Pure];exact zB _ (λS=>by simp[ze,xm]) F
theorem zmO {n:Nat} {F:List (Nat→Bool)} {z k:Nat} (hz:z=k) (h:k<F.length):(F.map λS=>[UY n S])[z]? = some [UY n (F.getD k noT)]:=by
 subst hz
 rw[List.getElem?_map,List.getElem?_eq_getElem h,List.getD_eq_getElem?_getD,List.getElem?_eq_getElem h];rfl
end
section
section
def ud:List Pr→List Pr→List Int→List Pr × List Int
 | [],L,o=>(L,o)
 | p::r,L,o=>ud r (qS L p) (o++[(wR (qS L p) p:Int)])
theorem zpe (L:List Pr) (p:Pr):∃X,qS L p=L++X:=by
 unfold qS
 split
 ·exact⟨[],zs⟩
 ·exact⟨[p],rfl⟩
theorem zhJ {L X:List Pr} {p:Pr} (h:p∈L):wR (L++X) p=wR L p:=by
 unfold wR;rw[List.idxOf_append,if_pos h]
theorem WC:∀(ps L:List Pr) (o:List Int),∃X,(ud ps L o).1=L++X
 | [],L,o=>⟨[],by simp[ud]⟩
 | p::r,L,o=>by
  obtain⟨X,hX⟩:=zpe L p
  obtain⟨Y,hY⟩:=WC r (qS L p) (o++[(wR (qS L p) p:Int)])
  exact⟨X++Y,by rw[ud,hY,hX,List.append_assoc]⟩
theorem Wq:∀(ps L:List Pr) (o:List Int) (q:Pr),q∈(ud ps L o).1↔q∈L∨q∈ps
 | [],L,o,q=>by simp[ud]
 | p::r,L,o,q=>by
  rw[ud,Wq r,zc3,List.mem_cons]
  constructor
  ·rintro((h|h)|h)
   ·exact .inl h
   ·exact .inr (.inl h)
   ·exact .inr (.inr h)
  ·rintro(h|h|h)
   ·exact .inl (.inl h)
   ·exact .inl (.inr h)
   ·exact .inr h
theorem WL:∀(ps:List Pr) {L:List Pr} (o:List Int),L.Nodup→(ud ps L o).1.Nodup
 | [],_,_,h=>h
 | p::r,_,_,h=>WL r _ (zcW h p)
theorem zdS:∀(ps L:List Pr) (o:List Int),(ud ps L o).2=o++ps.map λp=>(wR (ud ps L o).1 p:Int)
 | [],L,o=>by simp[ud]
 | p::r,L,o=>by
  rw[ud,zdS r]
  obtain⟨X,hX⟩:=WC r (qS L p) (o++[(wR (qS L p) p:Int)])
  have:wR (ud r (qS L p) (o++[(wR (qS L p) p:Int)])).1 p=wR (qS L p) p:=by
   rw[hX];exact zhJ (zc3.2 (.inr rfl))
  rw[List.map_cons,this,List.append_assoc]
  rfl
theorem zqw {ps L:List Pr} {o:List Int} {i:Nat} (h:i<L.length):(ud ps L o).1.getD i (0,0)=L.getD i (0,0):=by
 obtain⟨X,hX⟩:=WC ps L o
 rw[hX,List.getD_eq_getElem?_getD,List.getElem?_append_left h,←List.getD_eq_getElem?_getD]
theorem znj (ps L:List Pr) (o:List Int):L.length≤(ud ps L o).1.length:=by
 obtain⟨X,hX⟩:=WC ps L o
 rw[hX];simp
def zbW (nx:Pr→List Pr):Nat→Nat→List Pr→List (List Int)→List Pr × List (List Int)
 | 0,_,L,T=>(L,T)
 | k+1,n,L,T=>if n<L.length then zbW nx k (n+1) (ud (nx (L.getD n (0,0))) L []).1 (T++[(ud (nx (L.getD n (0,0))) L []).2]) else (L,T)
structure zcJ (start:List Pr) (nx:Pr→List Pr) (n:Nat) (L:List Pr) (T:List (List Int)):Prop where
 nd:L.Nodup
 st:∀p∈start,p∈L
 len:T.length=n
 le:n≤L.length
 row:∀i,i<n→T.getD i []=(nx (L.getD i (0,0))).map λq=>(wR L q:Int)
 cl:∀i,i<n→∀q∈nx (L.getD i (0,0)),q∈L
 fr:∀j,j<L.length→L.getD j (0,0)∈start∨∃i,i<n∧i<j∧L.getD j (0,0)∈nx (L.getD i (0,0))
theorem xo {L:List Pr} {j:Nat} (h:j<L.length):L.getD j (0,0)∈L:=by
 rw[List.getD_eq_getElem?_getD,List.getElem?_eq_getElem h];simp
theorem zcJ.begin (start:List Pr) (nx:Pr→List Pr):zcJ start nx 0 (ud start [] []).1 [] where
 nd:=WL start [] .nil
 st p hp:=(Wq start [] [] p).2 (.inr hp)
 len:=rfl
 le:=Nat.zero_le _
 row i hi:=zo
 cl i hi:=zo
 fr j hj:=.inl (((Wq start [] [] _).1 (xo hj)).resolve_left zs)
theorem zcJ.next {start:List Pr} {nx:Pr→List Pr} {n:Nat} {L:List Pr} {T:List (List Int)} (h:zcJ start nx n L T) (hn:n<L.length) :
  zcJ start nx (n+1) (ud (nx (L.getD n (0,0))) L []).1 (T++[(ud (nx (L.getD n (0,0))) L []).2]):=by
 generalize hp:L.getD n (0,0)=p
 have hm:=Wq (nx p) L []
 have ho:=zdS (nx p) L []
 have hold:=λi (hi:i<L.length)=>zqw (ps:=nx p) (o:=[]) hi
 have hmono:=znj (nx p) L []
 obtain⟨X,hX⟩:=WC (nx p) L []
 refine⟨WL _ _ h.nd,λq hq=>(hm q).2 (.inl (h.st q hq)),by simp[h.len],zo,λi hi=>?_,λi hi q hq=>?_,λj hj=>?_⟩
 ·by_cases e:i=n
  ·subst e
   rw[hold _ hn,hp,List.getD_eq_getElem?_getD,List.getElem?_append_right (by rw[h.len];exact Nat.le_refl _),h.len,Nat.sub_self]
   show(ud (nx p) L []).2=_
   rw[ho,List.nil_append]
  ·have hi:i<n:=zo
   rw[hold i zo,List.getD_eq_getElem?_getD,List.getElem?_append_left (by rw[h.len];exact hi),←List.getD_eq_getElem?_getD,h.row i hi,hX]
   refine List.map_congr_left λq hq=>?_
   rw[zhJ (h.cl i hi q hq)]
 ·by_cases e:i=n
  ·subst e
   rw[hold _ hn,hp] at hq
   exact(hm q).2 (.inr hq)
  ·rw[hold i zo] at hq
   exact(hm q).2 (.inl (h.cl i zo q hq))
 ·by_cases hl:j<L.length
  ·rw[hold j hl]
   rcases h.fr j hl with k|⟨i,k1,k2,k3⟩
   ·exact .inl k
   ·exact .inr ⟨i,zo,k2,by rw[hold i zo];exact k3⟩
  ·refine .inr ⟨n,zo,zo,?_⟩
   rw[hold n hn,hp]
   have hq:(ud (nx p) L []).1.getD j (0,0)∈X:=by
    rw[hX,List.getD_eq_getElem?_getD,List.getElem?_append_right zo]
    rw[hX,List.length_append] at hj
    rw[List.getElem?_eq_getElem zo]
    simp
   have hnd:=WL (nx p) [] h.nd
   rw[hX] at hnd
   have hnot:¬(ud (nx p) L []).1.getD j (0,0)∈L:=λq=>(List.nodup_append.1 hnd).2.2 _ q _ hq rfl
   exact((hm _).1 (xo hj)).resolve_left hnot
structure zbT (start:List Pr) (nx:Pr→List Pr) (L:List Pr) (G:List (List Int)):Prop where
 nd:L.Nodup
 st:∀p∈start,p∈L
 len:G.length=L.length
 row:∀i,i<L.length→G.getD i []=(nx (L.getD i (0,0))).map λq=>(wR L q:Int)
 cl:∀i,i<L.length→∀q∈nx (L.getD i (0,0)),q∈L
 fr:∀j,j<L.length→L.getD j (0,0)∈start∨∃i,i<j∧L.getD j (0,0)∈nx (L.getD i (0,0))
theorem zcJ.fin {start:List Pr} {nx:Pr→List Pr} {n:Nat} {L:List Pr} {T:List (List Int)} (h:zcJ start nx n L T) (hn:¬n<L.length):zbT start nx L T:=by
 have e:n=L.length:=by have:=h.le;omega
 subst e
 exact⟨h.nd,h.st,h.len,h.row,h.cl,λj hj=>(h.fr j hj).imp_right λ⟨i,_,k2,k3⟩=>⟨i,k2,k3⟩⟩
theorem zp4 {L:List Pr} (hnd:L.Nodup) {n m:Nat} (h:∀p∈L,(0≤p.1∧p.1<(n:Int))∧0≤p.2∧p.2<(m:Int)):L.length≤n*m:=by
 refine zhe (n*m) L.length (λi=>(L.getD i (0,0)).1.toNat * m+(L.getD i (0,0)).2.toNat) (λi hi=>?_) λi j hi hj he=>?_
 ·obtain⟨⟨a,b⟩,c,d⟩:=h _ (xo hi)
  generalize L.getD i (0,0)=p at *
  have:(p.1.toNat+1)*m≤n*m:=Nat.mul_le_mul_right _ zo
  rw[Nat.add_mul,Nat.one_mul] at this
  omega
 ·obtain⟨⟨a,b⟩,c,d⟩:=h _ (xo hi)
  obtain⟨⟨a',b'⟩,c',d'⟩:=h _ (xo hj)
  have hxy:L.getD i (0,0)=L.getD j (0,0):=by
   generalize L.getD i (0,0)=p at *
   generalize L.getD j (0,0)=q at *
   have e1:p.2.toNat=q.2.toNat:=by
    have:=congrArg (·%m) he
    simp only[Nat.mul_add_mod_self_right] at this
    rwa [Nat.mod_eq_of_lt zo,Nat.mod_eq_of_lt zo] at this
   have e2:p.1.toNat=q.1.toNat:=by
    rw[e1] at he
    exact Nat.eq_of_mul_eq_mul_right zo (Nat.add_right_cancel he)
   exact Prod.ext zo zo
  rw[List.getD_eq_getElem?_getD,List.getD_eq_getElem?_getD,List.getElem?_eq_getElem hi,List.getElem?_eq_getElem hj] at hxy
  simp only[Option.getD_some] at hxy
  rcases Nat.lt_trichotomy i j with q|q|q
  ·exact absurd hxy (List.pairwise_iff_getElem.1 hnd i j hi hj q)
  ·exact q
  ·exact absurd hxy.symm (List.pairwise_iff_getElem.1 hnd j i hj hi q)
theorem Xo {L:List Pr} {q:Pr} (h:q∈L):L.getD (wR L q) (0,0)=q:=by
 have h1:=VO h
 unfold wR at h1 ⊢
 rw[List.getD_eq_getElem?_getD,List.getElem?_eq_getElem h1,List.getElem_idxOf h1]
 rfl
section
variable {start:List Pr} {nx:Pr→List Pr} {L:List Pr} {G:List (List Int)}
theorem zbT.zkF (h:zbT start nx L G) {v:Nat} {x:Int} (hx:x∈G.getD v []):v<L.length∧∃q,q∈nx (L.getD v (0,0))∧q∈L∧x=(wR L q:Int)∧wR L q<L.length:=by
 have hv:v<L.length:=by
  rcases Nat.lt_or_ge v L.length with q|q
  ·exact q
  ·rw[List.getD_eq_getElem?_getD,List.getElem?_eq_none (by have:=h.len;omega)] at hx;cases hx
 rw[h.row v hv] at hx
 obtain⟨q,hq,rfl⟩:=List.mem_map.1 hx
 have:=h.cl v hv q hq
 exact⟨hv,q,hq,this,rfl,VO this⟩
theorem zbT.inG (h:zbT start nx L G):∀l∈G,xv l G.length=true:=λl hl=>by
 obtain⟨v,hv,rfl⟩:=List.mem_iff_getElem.1 hl
 refine xN λx hx=>?_
 obtain⟨_,q,_,_,rfl,k⟩:=h.zkF (v:=v) (x:=x) (by rw[List.getD_eq_getElem?_getD,List.getElem?_eq_getElem hv];exact hx)
 have:=h.len
 omega
theorem zbT.come (h:zbT start nx L G):∀j,j<L.length→∃p∈start,To G (wR L p) j:=by
 intro j
 induction j using Nat.strongRecOn with
 | ind j ih =>
  intro hj
  have hid:wR L (L.getD j (0,0))=j:=by
   have h1:=VO (xo hj)
   have h2:=Xo (xo hj)
   have hx:L[wR L (L.getD j (0,0))]'h1=L[j]:=by
    rw[List.getD_eq_getElem?_getD,List.getElem?_eq_getElem h1] at h2
    simp only[Option.getD_some] at h2
    rw[h2,List.getD_eq_getElem?_getD,List.getElem?_eq_getElem hj];rfl
   rcases Nat.lt_trichotomy (wR L (L.getD j (0,0))) j with q|q|q
   ·exact absurd hx (List.pairwise_iff_getElem.1 h.nd _ _ h1 hj q)
   ·exact q
   ·exact absurd hx.symm (List.pairwise_iff_getElem.1 h.nd _ _ hj h1 q)
  rcases h.fr j hj with k|⟨i,k2,k3⟩
  ·exact⟨_,k,by rw[hid];exact wO G j⟩
  ·obtain⟨p,hp,hT⟩:=ih i k2 zo
   refine⟨p,hp,xO hT ?_⟩
   have:((j:Nat):Int)∈G.getD i []:=by
    rw[h.row i zo]
    exact List.mem_map.2 ⟨_,k3,by rw[hid]⟩
   have:=u5 this
   simpa using this
end
end
section
open Go.RowKit
def zjl (W:zK) (A:z7) (p:Pr):Bool:=Jo A p.2.toNat (W.label.getD p.1.toNat 0)
def zhy (W:zK) (A:z7) (n t:Nat) (S:D):List D:=[zw W.start,z8 W.next,uM W.label,z8 W.fair,zw A.start,z8 A.next,uM A.YJ,uM A.WA,z8 A.fair,.mp 0,.own 2 n 0 n,.own 3 t 0 t,S]
noncomputable def w7 (W:zK) (A:z7) (L:List Pr) (S:D) (T:List (List Int)):List zf :=
 [.xL true (uA Tryz.prog 199 (fP L)),.row true (zhy W A L.length T.length S),.vec true L.length 2 (Ww L),.vec true T.length 1 (vd T)]
theorem VN {W:zK} {A:z7} {L:List Pr} {S:D} (hS:Pure S) {T:List (List Int)} {m:Nat} (hm:4≤m):∀o∈w7 W A L S T,o.under m:=by
 have:=zq (m:=m) S hS
 have h1:=λl=>zq (m:=m) _ (zh l)
 have h2:=λl=>zq (m:=m) _ (yc l)
 have h3:=λl=>zq (m:=m) _ (uI l)
 intro o ho
 simp only[w7,List.mem_cons,List.not_mem_nil,or_false] at ho
 rcases ho with rfl|rfl|rfl|rfl<;>simp[zf.under,zhy,zl,zp,this,h1,h2,h3]<;>omega
theorem WG {W:zK} {A:z7} {L:List Pr} {S:D} (hS:Pure S) {T:List (List Int)} {m:Nat} (hm:4≤m):wq m (w7 W A L S T):=by
 have:=VN (W:=W) (A:=A) (L:=L) hS (T:=T) hm
 unfold w7 at *
 exact⟨this _ zs,this _ zs,this _ zs,this _ zs,trivial⟩
theorem zqk:laidOutB Tryz.prog=true:=by kernel_rfl
theorem zqb:Maps.Keyed Tryz.prog 199:=Maps.Keyed.of_law (deep_law_laid zqk (m:=2) zo (of_decide_eq_true (by kernel_rfl)) (by kernel_rfl) (by rw[Tryz.underlying199]))
theorem zia {p:Pr} (hp:WfP p):∃l,keyOf Tryz.prog 199 (zeX p)=some l :=
 zob (of_decide_eq_true (by kernel_rfl)) (by kernel_rfl) Tryz.underlying199 rfl rfl rfl rfl zc zc Tryz.underlying3 (by kernel_rfl) (by kernel_rfl) _ _ hp.1 hp.2
def c170:PC:=.seq (OP [Bx 3 1,Mv 4 (cI 0)]) (.seq (.seq (.ops [qm 7 0,qd 8 (.zm 7) 1,qd 9 (.zv 4 8) 3,qd 10 (.v7 5 9) 7,Fa 11 1 3,qd 12 (.zi 11) 16,qm 13 0,qd 14 (.zm 13) 64,qd 15 (.zv 0 14) 192,qd 16 (.zv 2 15) 448,qd 17 (.zi 16) 960,Fa 18 0 3,qd 19 (.zi 18) 2048,qd 20 (.zM 1 17 19) 8128,qd 21 (.zi 20) 16320,qd 22 (.call 220 [10,12,21]) 32767,qd 23 (.un .not 22) 65535] true) (.cond 23 (.seq (OP [Mv 4 (cI (-1))]) .ret) .skip)) (.seq (.ops [qm 25 0,qd 26 (.zm 25) 1,qd 27 (.zv 9 26) 3,qd 28 (.zi 27) 7,LA 29 2 3,qd 30 (.look 199 (.int .i64 0) 28 29) 31,qw 24 30 63,qd 31 (.ext 0 24) 127,qd 32 (.ext 1 24) 127,qw 5 31 255,qw 6 32 1023] true) (.seq (.seq (OP [qm 33 6,Nt 34 33]) (.cond 34 (.seq (OP [qm 35 0,q 36 (.zm 35),Fa 37 10 36,Lo 38 37,Ln 39 38,qm 5 39]) (.seq (.ops [qm 40 0,qd 41 (.zm 40) 1,qd 42 (.zv 9 41) 3,qd 43 (.zi 42) 7,LA 44 2 3,qm 45 5,qk (.zkm 199 43 44 45) 63] true) (.ops [qm 46 0,qm 47 0,qd 48 (.zm 47) 2,qd 49 (.zv 10 48) 6,qd 50 (.zi 49) 14,LA 51 2 3,qd 52 (.wh 2 1 [51]) 32,qd 53 (.append 2 16 50 52) 126,qd 54 (.zm 46) 255,qd 55 (.zv 10 54) 511,qk (.store 1 55 53) 1023] true))) .skip)) (.seq (OP [qm 56 5,qm 4 56]) .ret))))
theorem zsG:zz Tryz.prog 170 57 [.tmp 4] c170:=fK Tryz.func170
structure zko (W:zK) (A:z7):Prop where
 fw:W.Fits
 fa:A.Fits
 cw:W.xc=0
 ca:A.xc=0
def vK (W:zK) (A:z7) (p:Pr):Prop:=(0≤p.1∧p.1<(W.next.length:Int))∧0≤p.2∧p.2<(A.next.length:Int)
theorem vO (W:zK) (h:W.xc=0):W.label.length=W.next.length∧W.next.length≤600∧W.fair.length≤80∧xv W.start W.next.length=true∧(∀l∈W.next,xv l W.next.length=true)∧∀l∈W.fair,xv l W.next.length=true:=by
 unfold zK.xc at h
 split at h
 ·exact absurd h zc
 split at h
 ·exact absurd h zc
 split at h
 ·exact absurd h zc
 split at h
 ·exact absurd h zc
 rename_i h1 h2 h3 h4
 have h2':=not_or.1 h2
 refine⟨zo,zo,zo,by simpa using h2'.2,λl hl=>?_,λl hl=>?_⟩
 ·rw[Bool.not_eq_true,List.any_eq_false] at h3
  have:=h3 l hl
  simp only[Bool.or_eq_true,Bool.not_eq_true',not_or,Bool.not_eq_false] at this
  exact this.2
 ·rw[Bool.not_eq_true,List.any_eq_false] at h4
  simpa using h4 l hl
theorem vK.wf {W:zK} {A:z7} (h:zko W A) {p:Pr} (hp:vK W A p):WfP p:=by
 obtain⟨⟨a,b⟩,c,d⟩:=hp
 have:=(vO W h.cw).2.1
 have:=(Z3 A h.ca).2.2.1
 exact zv4 ⟨a,zo,c,zo⟩
theorem zxb {W:zK} {A:z7} (hWA:zko W A) (L:List Pr) (hnd:L.Nodup) (hL:L.length≤2000000) (S:D) (hS:Pure S) (T:List (List Int)) (p:Pr) (hg:vK W A p) :
  yB Tryz.prog 170 [.loc 1 0,.agg (YB p.1 p.2)] (w7 W A L S T) (.sc (.int .i64 (if zjl W A p=true then (wR (qS L p) p:Int) else -1))) (w7 W A (if zjl W A p=true then qS L p else L) S T):=by
 have hp:=vK.wf hWA hg
 have hkey:=zia hp
 obtain⟨⟨g1,g2⟩,g3,g4⟩:=hg
 obtain⟨hlab,_⟩:=vO W hWA.cw
 obtain⟨hm,hn,_⟩:=Z3 A hWA.ca
 have hF:=zu2 A hm hn p.2.toNat zo (W.label.getD p.1.toNat 0)
 rw[show((p.2.toNat:Nat):Int)=p.2 by omega] at hF
 refine yp zsG zs (by simp[w7]) ?_ (by simp[zp]) (by
  intro x hx
  exact VN hS (by simp[w7]) x hx)
 have ef:zjl W A p=Jo A p.2.toNat (W.label.getD p.1.toNat 0):=rfl
 rw[←ef] at hF
 generalize zjl W A p=fit at *
 unfold w7 zhy YB
 unfold Vl z7.cells at hF
 refine sR ?_
 refine sL (zcs (l:=W.label) (k:=p.1.toNat) zo zo) ?_
 refine sC hF ?_
 cases fit
 ·refine sW ?_
  simp
 refine sW ?_
 refine⟨fP L,rfl,zqb,hkey,λv hv=>?_,λhv=>?_⟩
 ·by_cases h2:p∈L
  ·have hs:=zmM hnd h2
   have hv':some v=some (Value.int .i64 (wR L p)):=hv.symm.trans hs
   cases hv'
   have eA:qS L p=L:=if_pos h2
   have eI:wR (qS L p) p=wR L p:=by rw[eA]
   rw[eI,eA]
   refine sW ?_
   simp
  ·exfalso
   have hv':some v=none:=hv.symm.trans (zsE h2)
   cases hv'
 ·have h2:¬p∈L:=λh2=>by
   have hv':(none:Option Value)=some (Value.int .i64 (wR L p)):=hv.symm.trans (zmM hnd h2)
   cases hv'
  have eA:qS L p=L++[p]:=if_neg h2
  have eI:wR (qS L p) p=L.length:=by rw[zrk,if_neg h2]
  rw[eI,eA]
  refine sW ?_
  refine⟨fP L,rfl,zqb,hkey,hv,?_⟩
  refine sW ?_
  refine sJ ?_
  refine⟨?_,zs⟩
  rw[if_pos rfl,zxy,show(L++[p]).length=L.length+1 by simp,←zjf]
  rfl
def ze6 (W:zK) (A:z7) (x:Int) (k:List Int):List Pr:=(k.filter λy=>zjl W A (x,y)).map λy=>(x,y)
def xP (W:zK) (A:z7) (l k:List Int):List Pr:=l.flatMap λx=>ze6 W A x k
theorem znz (W:zK) (A:z7) (x y:Int) (k:List Int):ze6 W A x (y::k)=if zjl W A (x,y)=true then (x,y)::ze6 W A x k else ze6 W A x k:=by
 unfold ze6
 rw[List.filter_cons]
 split<;>simp
theorem zrA (W:zK) (A:z7) (x:Int) (k:List Int):(ze6 W A x k).length≤k.length:=by unfold ze6;rw[List.length_map];exact List.length_filter_le _ _
theorem zcv (W:zK) (A:z7) (l k:List Int):(xP W A l k).length≤l.length*k.length:=by
 induction l with
 | nil=>simp[xP]
 | cons x r ih =>
  have:=zrA W A x k
  simp only[xP,List.flatMap_cons,List.length_append,List.length_cons] at ih ⊢
  rw[Nat.add_mul,Nat.one_mul]
  omega
theorem zbs {W:zK} {A:z7} {l k:List Int} (hl:xv l W.next.length=true) (hk:xv k A.next.length=true):∀p∈xP W A l k,vK W A p:=by
 intro p hp
 obtain⟨x,hx,hp⟩:=List.mem_flatMap.1 hp
 obtain⟨y,hy,rfl⟩:=List.mem_map.1 hp
 exact⟨ye hl hx,ye hk (List.mem_filter.1 hy).1⟩
theorem Y2 {l:List Int} {k:Nat} (h:k<l.length):l.drop k=l.getD k 0::l.drop (k+1):=by
 rw[List.drop_eq_getElem_cons h,List.getD_eq_getElem?_getD,List.getElem?_eq_getElem h]
 rfl
theorem vK.le {W:zK} {A:z7} (hWA:zko W A) {L:List Pr} (hnd:L.Nodup) (hg:∀p∈L,vK W A p):L.length≤W.next.length*A.next.length:=zp4 hnd hg
theorem zlO {W:zK} {A:z7} (hWA:zko W A):W.next.length*A.next.length≤1228800 :=
 Nat.le_trans (Nat.mul_le_mul (vO W hWA.cw).2.1 (Z3 A hWA.ca).2.2.1) zc
def zxj:PC:=.seq (OP [Bi 22 .lss 21 20]) (.seq (.cond 22 .skip (.exit 2)) (.seq (.block 3 (.seq (OP [Ia 23 1 19 21,Lo 24 23,qm 11 24]) (.seq (OP [qm 25 0,qm 26 9,qm 27 11,q 28 (.build [(.int .i64 0),(.int .i64 0)] [(0,1,26),(1,1,27)]),Ca 29 170 [25,28],qm 12 29]) (.seq (OP [qm 30 12,Bi 31 .geq 30 (cI 0)]) (.cond 31 (OP [qm 32 7,qm 33 12,Bs 34 1 1 [33],Ap 35 1 8 32 34,qm 7 35]) .skip))))) (OP [Bi 36 .add 21 (cI 1),qm 21 36])))
def zyl:PC:=.seq (OP [Bi 16 .lss 15 14]) (.seq (.cond 16 .skip (.exit 0)) (.seq (.block 1 (.seq (OP [Ia 17 1 13 15,Lo 18 17,qm 9 18]) (.seq (OP [qm 19 2,Ln 20 19,Mv 21 (cI 0)]) (.block 2 (.loop zxj))))) (OP [Bi 37 .add 15 (cI 1),qm 15 37])))
def c101:PC:=.seq (OP [Mv 6 cN]) (.seq (OP [Mv 7 cN]) (.seq (.seq (OP [qm 13 1,Ln 14 13,Mv 15 (cI 0)]) (.block 0 (.loop zyl))) (.seq (OP [qm 38 7,qm 6 38]) .ret)))
theorem zsB:zz Tryz.prog 101 39 [.tmp 6] c101:=fK Tryz.func101
theorem zj8 {W:zK} {A:z7} (hWA:zko W A) (l k:List Int) (hl:l.length≤1048576) (hk:k.length≤1048576) (il:xv l W.next.length=true) (ik:xv k A.next.length=true) (L:List Pr) (hnd:L.Nodup) (hLg:∀p∈L,vK W A p) (S:D) (hS:Pure S) (T:List (List Int)) :
  yB Tryz.prog 101 [.loc 1 0,zw l,zw k] (w7 W A L S T) (zw (ud (xP W A l k) L []).2) (w7 W A (ud (xP W A l k) L []).1 S T):=by
 refine wo zsB zs (by simp[w7]) ?_ (zq _ (zh _))
 have hSu:=λm=>zq (m:=m) S hS
 have hu1:=λm l=>zq (m:=m) _ (zh l)
 have hu2:=λm l=>zq (m:=m) _ (yc l)
 have hu3:=λm l=>zq (m:=m) _ (uI l)
 have h2:=zlO hWA
 generalize hR:ud (xP W A l k) L []=R
 have hlk:l.length*k.length≤1048576*1048576:=Nat.mul_le_mul hl hk
 unfold w7 zhy
 refine sR ?_
 rw[List.length_map]
 refine zE (y8 7 1 zs rfl) ?_
 refine zZ [0,2,13,14] (λ((i,M,o):Nat × List Pr × List Int)=>[(7,.own 4 o.length 0 o.length),(15,.sc (.int .i64 i))]) (λ(i,M,o)=>w7 W A M S T++[.vec true o.length 1 (zI o)])
  (λ(i,M,o)=>i≤l.length∧M.Nodup∧(∀p∈M,vK W A p)∧o.length≤i*k.length∧ud (xP W A (l.drop i) k) M o=R) (λ(i,M,o)=>l.length-i) (0,L,[]) ?_
 refine sW ?_
 refine⟨⟨zo,hnd,hLg,zs,hR⟩,by exact sK,rfl,?_⟩
 rintro⟨i,M,o⟩ ⟨hi,hMn,hMg,hol,hF⟩
 unfold w7 zhy
 refine sW ?_
 refine sR ?_
 refine sS (λq0=>?_) λq0=>?_
 ·have q0:i<l.length:=sO
  have hx:=ye il (yr q0)
  refine⟨zo,_,yb (l:=l) (k:=i) zo q0,?_⟩
  rw[Y2 q0,xP,List.flatMap_cons] at hF
  rw[show(l.drop (i+1)).flatMap (λx=>ze6 W A x k)=xP W A (l.drop (i+1)) k from rfl] at hF
  have hik:(i+1)*k.length≤1048576*1048576:=Nat.le_trans (Nat.mul_le_mul_right _ zo) hlk
  have hik2:(i+1)*k.length=i*k.length+k.length:=by rw[Nat.add_mul,Nat.one_mul]
  refine sW ?_
  rw[List.length_map]
  generalize l.getD i 0=x at *
  refine zZ [0,2,9,13,14,15,19,20] (λ((j,M,o):Nat × List Pr × List Int)=>[(7,.own 4 o.length 0 o.length),(21,.sc (.int .i64 j))]) (λ(j,M,o)=>w7 W A M S T++[.vec true o.length 1 (zI o)])
   (λ(j,M,o)=>j≤k.length∧M.Nodup∧(∀p∈M,vK W A p)∧o.length≤i*k.length+j∧ud (ze6 W A x (k.drop j)++xP W A (l.drop (i+1)) k) M o=R) (λ(j,M,o)=>k.length-j) (0,M,o) ?_
  refine sW ?_
  refine⟨⟨zo,hMn,hMg,zo,hF⟩,by exact sK,rfl,?_⟩
  rintro⟨j,M,o⟩ ⟨hj,hMn,hMg,hol,hF⟩
  unfold w7 zhy
  refine sW ?_
  refine sR ?_
  refine sS (λq1=>?_) λq1=>?_
  ·have q1:j<k.length:=sO
   have hy:=ye ik (yr q1)
   refine sL (yb (l:=k) (k:=j) zo q1) ?_
   rw[Y2 q1,znz] at hF
   generalize k.getD j 0=y at *
   have hgp:vK W A (x,y):=⟨hx,hy⟩
   have hMl:=vK.le hWA hMn hMg
   have hA:=vf (zxb hWA M hMn zo S hS T (x,y) hgp) [.vec true o.length 1 (zI o)] (by simp[w7]) (by simp[w7,zl,zp,YB]) (WG hS (by simp[w7]))
   have hap:=zq9 M (x,y)
   cases r:zjl W A (x,y)
   ·rw[r,if_neg zc,if_neg zc] at hA
    rw[r,if_neg zc] at hF
    unfold w7 zhy YB at hA
    refine sA hA ?_
    refine sI ?_
    refine⟨(j+1,M,o),⟨zo,hMn,hMg,zo,hF⟩,zd,?_⟩
    dsimp only
    (refine zj 5 zs rfl ?_ ?_<;>(repeat' (first|exact trivial|exact rfl|exact ya.refl _|exact zP.refl _|exact zJ.refl _|refine And.intro ?_ ?_|(simp[zp,zl,zD,-List.map_take,-List.map_drop];done))))
    all_goals first|exact hSu _|exact hu1 _ _|exact hu2 _ _|exact hu3 _ _|skip
   ·rw[r,if_pos rfl,if_pos rfl] at hA
    rw[r,if_pos rfl,List.cons_append,ud] at hF
    unfold w7 zhy YB at hA
    refine sA hA ?_
    refine sJ ?_
    refine sI ?_
    ·refine⟨(j+1,qS M (x,y),o++[(wR (qS M (x,y)) (x,y):Int)]),⟨zo,zcW hMn _,λq hq=>(zc3.1 hq).elim (hMg q) (λe=>e▸hgp),by simp;omega,hF⟩,zd,?_⟩
     dsimp only
     rw[show(o++[(wR (qS M (x,y)) (x,y):Int)]).length=o.length+1 by simp]
     (refine zj 5 zs rfl ?_ ?_<;>(repeat' (first|exact trivial|exact rfl|exact ya.refl _|exact zP.refl _|exact zJ.refl _|refine And.intro ?_ ?_|(simp[zp,zl,zD,-List.map_take,-List.map_drop];done))))
     all_goals first|exact hSu _|exact hu1 _ _|exact hu2 _ _|exact hu3 _ _|exact zk (xB o _)|skip
  ·have q1:j=k.length:=by have:¬j<k.length:=sO
                          omega
   subst q1
   rw[List.drop_length] at hF
   refine sI ?_
   refine⟨(i+1,M,o),⟨zo,hMn,hMg,zo,hF⟩,zd,?_⟩
   dsimp only
   (refine zj 5 zs rfl ?_ ?_<;>(repeat' (first|exact trivial|exact rfl|exact ya.refl _|exact zP.refl _|exact zJ.refl _|refine And.intro ?_ ?_|(simp[zp,zl,zD,-List.map_take,-List.map_drop];done))))
   all_goals first|exact hSu _|exact hu1 _ _|exact hu2 _ _|exact hu3 _ _|skip
 ·have q0:i=l.length:=by have:¬i<l.length:=sO
                         omega
  subst q0
  rw[List.drop_length] at hF
  have hF:(M,o)=R:=hF
  subst hF
  exact⟨.own _ _ _ _ _ _ _ _ rfl rfl (zk (zr (by simp[zI]))),yN _ [_] (VN hS (Nat.le_refl _))⟩
end
section
open Go.RowKit
def u6 (W:zK) (A:z7) (L:List Pr) (G:List (List Int)) (fr:List Int):List D:=[zw W.start,z8 W.next,uM W.label,z8 W.fair,zw A.start,z8 A.next,uM A.YJ,uM A.WA,z8 A.fair,.xt,Uh L,z8 G,zw fr]
theorem qH (W:zK) (A:z7) (L:List Pr) (G:List (List Int)) (fr:List Int):ze (u6 W A L G fr):=by simp[u6,ze,Pure,zh,yc,uI,V5]
theorem Z1 {cs:List D} (h:ze cs):Pure (.xk cs):=by simpa only[Pure] using h
theorem UJ {g:List (List Int)} {L:Nat} (h:∀l∈g,l.length≤L) (k:Nat):(g.getD k []).length≤L:=by
 rw[List.getD_eq_getElem?_getD]
 cases e:g[k]? with
 | none=>simp
 | some l=>exact h l (List.mem_of_getElem? e)
def VK (n:Nat) (F:List (Nat→Bool)):List (List D):=F.map λS=>[UY n S]
@[simp] theorem zyI (n:Nat) (F:List (Nat→Bool)):(VK n F).length=F.length:=by simp[VK]
theorem zdm (n:Nat) (F:List (Nat→Bool)):yv (VK n F):=zB _ (λS=>by simp[ze,xm]) F
@[simp] theorem zrS {m n:Nat} (F:List (Nat→Bool)):zD m (VK n F)↔True:=⟨λ_=>trivial,λ_=>zg _ (zdm n F)⟩
def zgZ (L:List Pr) (sel:Pr→Int) (l:List Int):Nat→Bool:=λi=>Qs l (sel (L.getD i (0,0))).toNat
theorem zng {l:List Int} {n k:Nat} (yT:xv l n=true) (hk:k<l.length) (v:Nat):Qs (l.take (k+1)) v=if v=(l.getD k 0).toNat then true else Qs (l.take k) v:=by
 have hx:=ye yT (yr hk)
 unfold Qs
 rw[List.getD_eq_getElem?_getD,List.getElem?_eq_getElem hk] at hx ⊢
 simp only[Option.getD_some] at hx ⊢
 rw[Bool.eq_iff_iff,List.contains_iff_mem,List.take_add_one,List.getElem?_eq_getElem hk]
 split
 ·rename_i q
  rw[List.mem_append,Option.toList_some,List.mem_singleton]
  exact⟨λ_=>rfl,λ_=>.inr zo⟩
 ·rename_i q
  rw[List.contains_iff_mem,List.mem_append,Option.toList_some,List.mem_singleton]
  exact⟨λh=>h.resolve_right zo,.inl⟩
def zv0:PC:=.seq (OP [Bi 11 .lss 10 9]) (.seq (.cond 11 .skip (.exit 0)) (.seq (.block 1 (.seq (OP [Ia 12 1 8 10,Lo 13 12,qm 7 13]) (OP [qm 14 5,qm 15 0,q 16 (.zm 15),Fa 17 10 16,Lo 18 17,qm 19 7,Ia 20 2 18 19,Fa 21 0 20,Lo 22 21,Bs 23 1 1 [22],Ap 24 1 8 14 23,qm 5 24]))) (OP [Bi 25 .add 10 (cI 1),qm 10 25])))
def c108:PC:=.seq (OP [Mv 4 cN]) (.seq (OP [Mv 5 cN]) (.seq (.seq (OP [qm 8 1,Ln 9 8,Mv 10 (cI 0)]) (.block 0 (.loop zv0))) (.seq (OP [qm 26 5,qm 4 26]) .ret)))
theorem ztD:zz Tryz.prog 108 27 [.tmp 4] c108:=fK Tryz.func108
theorem zf7 (W:zK) (A:z7) (L:List Pr) (G:List (List Int)) (fr l:List Int) (hl:l.length≤1000000000000) (yT:xv l L.length=true):zu Tryz.prog 108 [.xk (u6 W A L G fr),zw l] (zw (l.map λn=>(L.getD n.toNat (0,0)).1)):=by
 have hp:=qH W A L G fr
 refine zb ztD zs (by simp[ze,Pure,zh,hp]) ?_ (zh _)
 unfold u6 Uh
 refine sR ?_
 rw[List.length_map]
 refine zE (y8 5 1 zs rfl) ?_
 refine zL [0,8,9] (λk:Nat=>[(5,.own 0 k 0 k),(10,.sc (.int .i64 k))]) (λk=>[(0,.vec true k 1 (zI ((l.take k).map λn=>(L.getD n.toNat (0,0)).1)))]) (λk=>k≤l.length) (λk=>l.length-k) 0 ?_
 refine sW ?_
 refine⟨zo,by exact sK,rfl,?_⟩
 rintro k hk
 refine sW ?_
 refine sR ?_
 refine sS (λq0=>?_) λq0=>?_
 ·have q0:k<l.length:=sO
  have hx:=ye yT (yr q0)
  have eS:(l.take (k+1)).map (λn=>(L.getD n.toNat (0,0)).1)=(l.take k).map (λn=>(L.getD n.toNat (0,0)).1)++[(L.getD (l.getD k 0).toNat (0,0)).1]:=by
   rw[List.take_add_one,List.getElem?_eq_getElem q0,List.getD_eq_getElem?_getD (l:=l),List.getElem?_eq_getElem q0,List.map_append];rfl
  refine sL (yb (l:=l) (k:=k) zo q0) ?_
  generalize l.getD k 0=x at *
  refine sL (Q4 (l:=L) (k:=x.toNat) zo zo) ?_
  refine sJ ?_
  refine sI ?_
  refine⟨k+1,zo,zd,?_⟩
  dsimp only
  rw[eS]
  refine zj 1 zs rfl sQ (sU ?_)
  exact zk (by
   have:=xB ((l.take k).map λn=>(L.getD n.toNat (0,0)).1) (L.getD x.toNat (0,0)).1
   rw[List.length_map,List.length_take,Nat.min_eq_left hk] at this
   exact this)
 ·have q0:k=l.length:=by have:¬k<l.length:=sO
                         omega
  subst q0
  rw[List.take_length]
  exact .own _ _ _ _ _ _ _ _ rfl (by rw[zr (by simp[zI])];exact zU _)
def zvM:PC:=.seq (OP [Bi 19 .lss 18 17]) (.seq (.cond 19 .skip (.exit 0)) (.seq (.block 1 (.seq (OP [Ia 20 1 16 18,Lo 21 20,qm 10 21]) (OP [qm 22 8,qm 23 10,Ia 24 1 22 23,So 1 24 cT]))) (OP [Bi 25 .add 18 (cI 1),qm 18 25])))
def zys:PC:=.seq (OP [Bi 38 .lss 37 36]) (.seq (.cond 38 .skip (.exit 2)) (.seq (.block 3 (.seq (OP [qm 39 37,Ia 40 2 35 37,LA 41 2 40,q 13 (.alloc [(.int .i64 0),(.int .i64 0)]),qm 12 39,So 2 13 41]) (OP [qm 42 11,qm 43 12,qm 44 8,qm 45 1,LA 46 2 13,q 47 (.vI 45 [46]),Ia 48 1 44 47,Lo 49 48,Ia 50 1 42 43,So 1 50 49]))) (OP [Bi 51 .add 37 (cI 1),qm 37 51])))
def c172:PC:=.seq (OP [qm 14 2,q 15 (.x5 1 1 [(.bool false)] 14 14),qm 8 15]) (.seq (.seq (OP [qm 16 0,Ln 17 16,Mv 18 (cI 0)]) (.block 0 (.loop zvM))) (.seq (OP [Lo 26 3,q 27 (.zm 26),Fa 28 10 27,Lo 29 28,Ln 30 29,q 31 (.x5 1 1 [(.bool false)] 30 30),qm 11 31]) (.seq (.seq (OP [Lo 32 3,q 33 (.zm 32),Fa 34 10 33,Lo 35 34,Ln 36 35,Mv 37 (cI 0)]) (.block 2 (.loop zys))) (OP [Lo 52 4,qm 53 11,Bs 54 1 1 [53],Ap 55 1 24 52 54,So 1 4 55]))))
theorem ztb:zz Tryz.prog 172 56 [] c172:=fK Tryz.func172
theorem zqI (W:zK) (A:z7) (L:List Pr) (hL:L.length≤2000000) (G:List (List Int)) (fr:List Int) (g:FuncId) (sel:Pr→Int) (n:Nat) (hn:n≤2048) (hsel:∀p∈L,zu Tryz.prog g [.agg (YB p.1 p.2)] (.sc (.int .i64 (sel p)))) (yT:∀p∈L,0≤sel p∧sel p<(n:Int))
  (l:List Int) (hl:l.length≤17592186043904) (hli:xv l n=true) (F:List (Nat→Bool)) (hF:F.length≤1000) :
  yB Tryz.prog 172 [zw l,.fn (.func g) [] [],.sc (.int .i64 n),.loc 0 0,.loc 1 0] [.row true [.xk (u6 W A L G fr)],.row true [.own 2 F.length 0 F.length],.vec true F.length 1 (VK L.length F)]
   (.yI []) [.row true [.xk (u6 W A L G fr)],.row true [.own 2 (F.length+1) 0 (F.length+1)],.vec true (F.length+1) 1 (VK L.length (F++[zgZ L sel l]))]:=by
 have hp:=qH W A L G fr
 have hpU:=λm=>zq (m:=m) _ (Z1 hp)
 refine wo ztb zs zs ?_ (by simp[zp,zl])
 obtain⟨sd,hsd⟩:∃sd:D,sd=.xk (u6 W A L G fr):=⟨_,rfl⟩
 have hsl:ze [sd]:=by subst hsd;exact⟨Z1 hp,trivial⟩
 rw[←hsd] at hpU ⊢
 refine sR ?_
 refine⟨zo,zo,zo,?_⟩
 rw[Int.toNat_natCast,show List.map D.sc [Value.bool false]=[D.sc (.bool false)] from rfl,ZT]
 refine sW ?_
 rw[List.length_map]
 refine zL [1,3,4,8,16,17] (λk:Nat=>[(18,.sc (.int .i64 k))]) (λk=>[(3,.vec true 0 1 (Zu n (Qs (l.take k))))]) (λk=>k≤l.length) (λk=>l.length-k) 0 ?_
 refine sW ?_
 refine⟨zo,by exact sK,rfl,?_⟩
 rintro k hk
 refine sW ?_
 refine sR ?_
 refine sS (λq0=>?_) λq0=>?_
 ·have q0:k<l.length:=sO
  have hx:=ye hli (yr q0)
  have e:=zng hli q0
  refine sL (yb (l:=l) (k:=k) zo q0) ?_
  generalize l.getD k 0=x at *
  refine sB ?_
  refine⟨_,y6 x.toNat zo zo,?_⟩
  refine sW ?_
  refine sI ?_
  refine⟨k+1,zo,zd,zC (by exact sK) ?_⟩
  rw[JR (i:=x.toNat) (f':=Qs (l.take (k+1))) zo λv _=>e v]
  rfl
 have q0:k=l.length:=by have:¬k<l.length:=sO
                        omega
 subst q0
 rw[List.take_length]
 subst hsd
 unfold u6 Uh
 refine sW ?_
 rw[UD]
 refine⟨zo,zo,zo,?_⟩
 rw[Int.toNat_natCast,show List.map D.sc [Value.bool false]=[D.sc (.bool false)] from rfl,ZT]
 refine sW ?_
 rw[UD]
 refine zL [1,4,8,11,35,36] (λk:Nat=>[(37,.sc (.int .i64 k))]) (λk=>[(4,.vec true 0 1 (Zu L.length λv=>decide (v<k)&&zgZ L sel l v))]) (λk=>k≤L.length) (λk=>L.length-k) 0 ?_
 refine sW ?_
 refine⟨zo,by exact sK,by rw[show(λv=>decide (v<0)&&zgZ L sel l v)=λ_=>false from funext λv=>zs];rfl,?_⟩
 rintro k hk
 refine sW ?_
 refine sR ?_
 refine sS (λq0=>?_) λq0=>?_
 ·have q0:k<L.length:=sO
  have hse:=hsel _ (Uw q0)
  have hii:=yT _ (Uw q0)
  have eS:zgZ L sel l k=Qs l (sel (L.getD k (0,0))).toNat:=rfl
  refine sL (Q4 (k:=k) zo q0) ?_
  generalize L.getD k (0,0)=p at *
  refine sC hse ?_
  generalize sel p=x at *
  refine sB ?_
  refine⟨_,y6 x.toNat zo zo,?_⟩
  refine sW ?_
  refine sB ?_
  refine⟨_,y6 k zo q0,?_⟩
  refine sW ?_
  refine sI ?_
  refine⟨k+1,zo,zd,?_⟩
  rw[JR (i:=k) (f':=λv=>decide (v<k+1)&&zgZ L sel l v) zo λv _=>by
   by_cases e:v=k
   ·subst e;rw[if_pos rfl,←eS];simp
   ·rw[if_neg e]
    by_cases e2:v<k
    ·rw[decide_eq_true e2,decide_eq_true (show v<k+1 by omega)]
    ·rw[decide_eq_false e2,decide_eq_false (show ¬v<k+1 by omega)]]
  (refine zj 5 zs rfl ?_ ?_<;>(repeat' (first|exact trivial|exact rfl|exact ya.refl _|exact zP.refl _|exact zJ.refl _|refine And.intro ?_ ?_|(simp[zp,zl,zD,-List.map_take,-List.map_drop];done))))
  all_goals first|exact zt _ hp|simp[zh,yc,uI,zjO,ziY]|skip
 have q0:k=L.length:=by have:¬k<L.length:=sO
                        omega
 subst q0
 refine sJ ?_
 refine⟨.refl _,⟨rfl,.refl _,hpU _,trivial⟩,⟨rfl,.refl _,by simp[zl,zp]⟩,⟨rfl,rfl,rfl,?_,zg _ (zdm _ _)⟩,trivial⟩
 rw[show VK L.length (F++[zgZ L sel l])=VK L.length F++[[UY L.length (zgZ L sel l)]] by simp[VK]]
 exact .append _ _ _ _ (zk (zr zs)) (.cons _ _ _ _ (.cons _ _ _ _ (.own _ _ _ _ _ _ _ _ rfl rfl (zk (by rw[zr zs];exact w9 λv hv=>by rw[decide_eq_true hv];simp))) (.refl _)) (.refl _))
def c173:PC:=.seq (OP [Bx 1 0,Mv 2 (cI 0)]) (.seq (OP [Fa 3 0 1,Lo 4 3,qm 2 4]) .ret)
theorem ztM:zz Tryz.prog 173 5 [.tmp 2] c173:=fK Tryz.func173
def c174:PC:=.seq (OP [Bx 1 0,Mv 2 (cI 0)]) (.seq (OP [Fa 3 1 1,Lo 4 3,qm 2 4]) .ret)
theorem ztI:zz Tryz.prog 174 5 [.tmp 2] c174:=fK Tryz.func174
theorem zp5 (p:Pr):zu Tryz.prog 173 [.agg (YB p.1 p.2)] (.sc (.int .i64 p.1)):=by
 refine zb ztM zs (by simp[ze,Pure,YB]) ?_ (by simp[Pure])
 unfold YB
 refine sR ?_
 exact .refl _
theorem znB (p:Pr):zu Tryz.prog 174 [.agg (YB p.1 p.2)] (.sc (.int .i64 p.2)):=by
 refine zb ztI zs (by simp[ze,Pure,YB]) ?_ (by simp[Pure])
 unfold YB
 refine sR ?_
 exact .refl _
def XH (L:List Pr) (sel:Pr→Int) (G:List (List Int)) (k:Nat):List (Nat→Bool):=(G.take k).map (zgZ L sel)
theorem zgA {L:List Pr} {sel:Pr→Int} {G:List (List Int)} {k:Nat} (h:k<G.length):XH L sel G (k+1)=XH L sel G k++[zgZ L sel (G.getD k [])]:=by
 unfold XH
 rw[List.take_add_one,List.getElem?_eq_getElem h,List.map_append,List.getD_eq_getElem?_getD,List.getElem?_eq_getElem h]
 rfl
theorem Yd {L:List Pr} {sel:Pr→Int} {G:List (List Int)} {k:Nat} (h:k≤G.length):(XH L sel G k).length=k:=by simp[XH];omega
def wQ (W:zK) (A:z7) (L:List Pr):List (Nat→Bool):=XH L (·.1) W.fair W.fair.length++XH L (·.2) A.fair A.fair.length
def zwe:PC:=.seq (OP [Bi 17 .lss 16 15]) (.seq (.cond 17 .skip (.exit 0)) (.seq (.block 1 (.seq (OP [Ia 18 1 14 16,Lo 19 18,qm 6 19]) (OP [qm 20 4,qm 21 6,Lo 22 1,q 23 (.zm 22),Fa 24 0 23,Fa 25 1 24,Lo 26 25,Ln 27 26,q 28 (.vI 20 [21,(.func 173),27])]))) (OP [Bi 29 .add 16 (cI 1),qm 16 29])))
def zwg:PC:=.seq (OP [Bi 37 .lss 36 35]) (.seq (.cond 37 .skip (.exit 2)) (.seq (.block 3 (.seq (OP [Ia 38 1 34 36,Lo 39 38,qm 8 39]) (OP [qm 40 4,qm 41 8,Lo 42 1,q 43 (.zm 42),Fa 44 4 43,Fa 45 1 44,Lo 46 45,Ln 47 46,q 48 (.vI 40 [41,(.func 174),47])]))) (OP [Bi 49 .add 36 (cI 1),qm 36 49])))
def c103:PC:=.seq (OP [Bx 1 0,Mv 2 cN]) (.seq (OP [q 3 (.alloc [(.slice none 0 0)])]) (.seq (OP [q 9 (.ZP (.func 172) [] [1,3]),qm 4 9]) (.seq (.seq (OP [Lo 10 1,q 11 (.zm 10),Fa 12 0 11,Fa 13 3 12,Lo 14 13,Ln 15 14,Mv 16 (cI 0)]) (.block 0 (.loop zwe))) (.seq (.seq (OP [Lo 30 1,q 31 (.zm 30),Fa 32 4 31,Fa 33 4 32,Lo 34 33,Ln 35 34,Mv 36 (cI 0)]) (.block 2 (.loop zwg))) (.seq (OP [Lo 50 3,qm 2 50]) .ret)))))
theorem zsA:zz Tryz.prog 103 51 [.tmp 2] c103:=fK Tryz.func103
theorem zu1 {W:zK} {A:z7} (hWA:zko W A) (L:List Pr) (hL:L.length≤2000000) (hg:∀p∈L,vK W A p) (G:List (List Int)) (fr:List Int):zu Tryz.prog 103 [.xk (u6 W A L G fr)] (zkn L.length (wQ W A L)):=by
 have hp:=qH W A L G fr
 obtain⟨w1,w2,w3,w4,w5,w6⟩:=vO W hWA.cw
 obtain⟨a1,a2,a3,a4,a5,a6,a7⟩:=Z3 A hWA.ca
 have hP1:=λk (hk:k<W.fair.length) F (hF:F.length≤1000)=>zqI W A L hL G fr 173 (·.1) W.next.length zo (λp _=>zp5 p) (λp hp=>(hg p hp).1) (W.fair.getD k []) (UJ hWA.fw.Vx k) (y9 w6 k) F hF
 have hP2:=λk (hk:k<A.fair.length) F (hF:F.length≤1000)=>zqI W A L hL G fr 174 (·.2) A.next.length zo (λp _=>znB p) (λp hp=>(hg p hp).2) (A.fair.getD k []) (UJ hWA.fa.Vx k) (y9 a7 k) F hF
 refine zb zsA zs (by simp[ze,Z1 hp]) ?_ (zaU _ _)
 have hpU:=λm=>zq (m:=m) _ (Z1 hp)
 obtain⟨sd,hsd⟩:∃sd:List D,sd=u6 W A L G fr:=⟨_,rfl⟩
 rw[←hsd] at hp hpU hP1 hP2 ⊢
 refine sR ?_
 subst hsd
 unfold u6
 refine sW ?_
 rw[List.length_map]
 refine zE (yP 1 0 1 zs rfl rfl) ?_
 refine zZ [1,3,4,14,15] (λk:Nat=>[(16,.sc (.int .i64 k))]) (λk=>[.row true [.xk (u6 W A L G fr)],.row true [.own 2 (XH L (·.1) W.fair k).length 0 (XH L (·.1) W.fair k).length],.vec true (XH L (·.1) W.fair k).length 1 (VK L.length (XH L (·.1) W.fair k))]) (λk=>k≤W.fair.length) (λk=>W.fair.length-k) 0 ?_
 refine sW ?_
 refine⟨zo,by exact sK,rfl,?_⟩
 rintro k hk
 have eL:=Yd (L:=L) (sel:=(·.1)) hk
 refine sW ?_
 refine sR ?_
 refine sS (λq0=>?_) λq0=>?_
 ·have q0:k<W.fair.length:=sO
  have hP:=hP1 k q0 (XH L (·.1) W.fair k) zo
  have eS:=zgA (L:=L) (sel:=(·.1)) q0
  refine⟨zo,_,wG (g:=W.fair) (k:=k) zo q0,?_⟩
  rw[←eS] at hP
  refine sW ?_
  rw[List.length_map]
  unfold u6 at hP
  refine sA hP ?_
  refine sI ?_
  refine⟨k+1,zo,zd,?_⟩
  have eL2:=Yd (L:=L) (sel:=(·.1)) (k:=k+1) (show k+1≤W.fair.length by omega)
  dsimp only
  rw[eL2,eL]
  (refine zj 3 zs rfl ?_ ?_<;>(repeat' (first|exact trivial|exact rfl|exact ya.refl _|exact zP.refl _|exact zJ.refl _|refine And.intro ?_ ?_|(simp[zp,zl,zD,-List.map_take,-List.map_drop];done))))
  all_goals first|exact hpU _|skip
 have q0:k=W.fair.length:=by have:¬k<W.fair.length:=sO
                             omega
 subst q0
 generalize hF0:XH L (·.1) W.fair W.fair.length=F0 at *
 refine sW ?_
 rw[List.length_map]
 refine zZ [1,3,4,34,35] (λk:Nat=>[(36,.sc (.int .i64 k))]) (λk=>[.row true [.xk (u6 W A L G fr)],.row true [.own 2 (F0++XH L (·.2) A.fair k).length 0 (F0++XH L (·.2) A.fair k).length],.vec true (F0++XH L (·.2) A.fair k).length 1 (VK L.length (F0++XH L (·.2) A.fair k))]) (λk=>k≤A.fair.length) (λk=>A.fair.length-k) 0 ?_
 refine sW ?_
 refine⟨zo,by exact sK,by simp[XH],?_⟩
 rintro k hk
 have eL':=Yd (L:=L) (sel:=(·.2)) hk
 refine sW ?_
 refine sR ?_
 refine sS (λq0=>?_) λq0=>?_
 ·have q0:k<A.fair.length:=sO
  have hP:=hP2 k q0 (F0++XH L (·.2) A.fair k) (by rw[List.length_append];omega)
  have eS:=zgA (L:=L) (sel:=(·.2)) q0
  refine⟨zo,_,wG (g:=A.fair) (k:=k) zo q0,?_⟩
  rw[List.append_assoc,←eS] at hP
  refine sW ?_
  rw[List.length_map]
  unfold u6 at hP
  refine sA hP ?_
  refine sI ?_
  refine⟨k+1,zo,zd,?_⟩
  have eL2:(F0++XH L (·.2) A.fair (k+1)).length=(F0++XH L (·.2) A.fair k).length+1:=by rw[List.length_append,List.length_append,Yd zo,eL'];rfl
  dsimp only
  rw[eL2]
  (refine zj 3 zs rfl ?_ ?_<;>(repeat' (first|exact trivial|exact rfl|exact ya.refl _|exact zP.refl _|exact zJ.refl _|refine And.intro ?_ ?_|(simp[zp,zl,zD,-List.map_take,-List.map_drop];done))))
  all_goals first|exact hpU _|skip
 have q0:k=A.fair.length:=by have:¬k<A.fair.length:=sO
                             omega
 subst q0
 unfold wQ
 rw[hF0]
 exact .own _ _ _ _ _ _ _ _ rfl (by rw[zr zs];exact zU _)
end
section
open Go.RowKit
noncomputable def qQ (g:List (List Int)) (F:List (Nat→Bool)) (k:Nat):Nat→Bool:=λi=>okT g g.length i&&(F.take k).all λS=>QK g S g.length i
theorem zkC {g:List (List Int)} {F:List (Nat→Bool)} {k:Nat} (h:k<F.length) (i:Nat):qQ g F (k+1) i=(qQ g F k i&&QK g (F.getD k noT) g.length i):=by
 unfold qQ
 rw[zqp h noT,Bool.and_assoc]
theorem zne {g:List (List Int)} {F:List (Nat→Bool)}:qQ g F F.length=YF g F:=by
 funext i;unfold qQ YF;rw[List.take_length]
def c175:PC:=.seq (OP [Mv 4 cF]) (.seq (.ops [Lo 5 1,qm 6 0,qd 7 (.zM 1 5 6) 3,qd 8 (.zi 7) 7,Lo 9 1,Lo 10 2,qd 11 (.zM 1 9 10) 48,qd 12 (.zi 11) 112,qd 13 (.bin .eql 8 12) 255,qw 4 13 511] true) .ret)
theorem ztj:zz Tryz.prog 175 14 [.tmp 4] c175:=fK Tryz.func175
theorem zuW (g:List (List Int)) (x:Int) (hx:0≤x∧x<(g.length:Int)) (n:Nat) (hn:n<g.length):zu Tryz.prog 175 [.sc (.int .i64 x),.xk [zw (uN g)],.xk [.sc (.int .i64 n)]] (.sc (.bool (zH g x.toNat==zH g n))):=by
 refine zb ztj zs (by simp[ze,Pure,zh]) ?_ (by simp[Pure])
 unfold uN zw
 refine sR ?_
 refine sL (zT x.toNat zo zo) ?_
 refine sL (zT n zo hn) ?_
 exact .refl _
def zwd:PC:=.seq (OP [Bi 28 .lss 27 26]) (.seq (.cond 28 .skip (.exit 0)) (.seq (.block 1 (.seq (OP [qm 29 27,Ia 30 1 25 27,Lo 31 30,q 8 (.alloc [(.int .i64 0)]),So 1 8 29,qm 9 31]) (.seq (OP [qm 32 9,q 33 (.ZP (.func 175) [] [4,8]),Ca 34 27 [32,33]]) (.cond 34 (OP [qm 35 7,Lo 36 4,Lo 37 8,Ia 38 1 36 37,Lo 39 38,Ia 40 1 35 39,So 1 40 cT]) .skip)))) (OP [Bi 41 .add 27 (cI 1),qm 27 41])))
def zyn:PC:=.seq (OP [Bi 57 .lss 56 55]) (.seq (.cond 57 .skip (.exit 4)) (.seq (.block 5 (.seq (OP [qm 58 56,Ia 59 1 54 56,Lo 60 59,qm 13 58,qm 14 60]) (.ops [qm 61 12,Lo 62 4,qm 63 13,qd 64 (.zM 1 62 63) 6,qd 65 (.zi 64) 14,qm 66 12,Lo 67 4,qm 68 13,qd 69 (.zM 1 67 68) 192,qd 70 (.zi 69) 448,qd 71 (.zM 1 66 70) 992,qd 72 (.zi 71) 2016,qw 73 72 4064,⟨some 74,.move 14,some (73,false),8160⟩,qd 75 (.pick 73 cT 74) 16352,qd 76 (.zM 1 61 65) 32767,qk (.store 1 76 75) 65535] true))) (OP [Bi 77 .add 56 (cI 1),qm 56 77])))
def zw1:PC:=.seq (OP [Bi 81 .lss 80 79]) (.seq (.cond 81 .skip (.exit 6)) (.seq (.block 7 (.seq (OP [qm 82 80,qm 15 82]) (OP [qm 83 7,qm 84 15,qm 85 7,qm 86 15,Ia 87 1 85 86,Lo 88 87,qm 89 88,GT 90 89 (.move 12),GT 91 89 (.move 15),GT 92 89 (.zM 1 90 91),GT 93 89 (.zi 92),Pk 94 89 93 cF,Ia 95 1 83 84,So 1 95 94]))) (OP [Bi 96 .add 80 (cI 1),qm 80 96])))
def zxw:PC:=.seq (OP [Bi 45 .lss 44 43]) (.seq (.cond 45 .skip (.exit 2)) (.seq (.block 3 (.seq (OP [Ia 46 1 42 44,Lo 47 46,qm 11 47]) (.seq (OP [qm 48 0,q 49 (.zm 48),Fa 50 10 49,Lo 51 50,Ln 52 51,q 53 (.x5 1 1 [(.bool false)] 52 52),qm 12 53]) (.seq (.seq (OP [qm 54 11,Ln 55 54,Mv 56 (cI 0)]) (.block 4 (.loop zyn))) (.seq (OP [qm 78 7,Ln 79 78,Mv 80 (cI 0)]) (.block 6 (.loop zw1))))))) (OP [Bi 97 .add 44 (cI 1),qm 44 97])))
def c104:PC:=.seq (OP [Bx 4 1,Mv 6 (cI 0)]) (.seq (OP [qm 16 0,q 17 (.zm 16),Fa 18 10 17,Lo 19 18,Ln 20 19,q 21 (.x5 1 1 [(.bool false)] 20 20),qm 7 21]) (.seq (.seq (OP [qm 22 0,q 23 (.zm 22),Fa 24 11 23,Lo 25 24,Ln 26 25,Mv 27 (cI 0)]) (.block 0 (.loop zwd))) (.seq (.seq (OP [qm 42 2,Ln 43 42,Mv 44 (cI 0)]) (.block 2 (.loop zxw))) (.seq (OP [qm 98 7,Ca 99 34 [98,cT],qm 6 99]) .ret))))
theorem ztH:zz Tryz.prog 104 100 [.tmp 6] c104:=fK Tryz.func104
theorem zum (W:zK) (A:z7) (L:List Pr) (g:List (List Int)) (hLg:g.length=L.length) (fr:List Int) (hn:g.length≤2000000) (hin0:∀l∈g,xv l g.length=true) (hF:qV g) (F:List (Nat→Bool)) (hFl:F.length≤1000) :
  zu Tryz.prog 104 [.xk (u6 W A L g fr),zw (uN g),zkn g.length F] (.sc (.int .i64 (wc (λb=>true==b) ((List.range g.length).map (YF g F))))):=by
 have hrow:=λk=>y9 hin0 k
 have hp:=qH W A L g fr
 have hc:=λk (hk:k<g.length)=>xa (λn=>.sc (.int .i64 n)) (λa=>by simp[Pure]) (g.getD k []) (by have:=hF.at k;omega) (λx=>zH g x.toNat==zH g k) 175 [.xk [zw (uN g)],.xk [.sc (.int .i64 k)]] (by simp[ze,Pure,zh]) λa ha=>zuW g a (ye (hrow k) ha) k hk
 have hI:=QN ((List.range g.length).map (YF g F)) (by simp;omega) true
 refine zb ztH zs (by simp[ze,Pure,zh,hp,zaU]) ?_ (by simp[Pure])
 unfold u6 Uh zkn z8
 refine sR ?_
 rw[UD,←hLg]
 refine⟨zo,zo,zo,?_⟩
 rw[Int.toNat_natCast,show List.map D.sc [Value.bool false]=[D.sc (.bool false)] from rfl,ZT]
 refine sW ?_
 rw[List.length_map]
 refine zL [0,2,4,7,25,26] (λk:Nat=>[(27,.sc (.int .i64 k))]) (λk=>[(1,.vec true 0 1 (Zu g.length (okT g k)))]) (λk=>k≤g.length) (λk=>g.length-k) 0 ?_
 refine sW ?_
 refine⟨zo,by exact sK,rfl,?_⟩
 rintro k hk
 refine sW ?_
 refine sR ?_
 refine sS (λq0=>?_) λq0=>?_
 ·have q0:k<g.length:=sO
  have hpl:=VQ q0
  have e1:=zp0 g k
  refine sL (wG (k:=k) zo q0) ?_
  refine sN (hc k q0) ?_
  rw[show((g.getD k []).any λx=>zH g x.toNat==zH g k)=zgp g k from rfl]
  cases r:zgp g k
  ·refine sW ?_
   refine sI ?_
   refine⟨k+1,zo,zd,?_⟩
   (refine zj 2 zs rfl ?_ ?_<;>(repeat' (first|exact trivial|exact rfl|exact ya.refl _|exact zP.refl _|exact zJ.refl _|refine And.intro ?_ ?_|(simp[zp,zl,zD,-List.map_take,-List.map_drop];done))))
   all_goals first|exact zt _ hp|exact zk (w9 λi _=>by rw[e1,r,Bool.and_false,Bool.or_false])|skip
  ·refine sW ?_
   refine sL (zT k zo q0) ?_
   refine sB ?_
   refine⟨_,y6 (zH g k).toNat zo zo,?_⟩
   refine sW ?_
   refine sI ?_
   refine⟨k+1,zo,zd,?_⟩
   rw[JR (i:=(zH g k).toNat) (f':=okT g (k+1)) zo λv _=>by
    rw[e1,r,Bool.and_true]
    by_cases e:v=(zH g k).toNat
    ·rw[if_pos e,show(zH g k==(v:Int))=true by rw[beq_iff_eq];omega,Bool.or_true]
    ·rw[if_neg e,show(zH g k==(v:Int))=false by rw[beq_eq_false_iff_ne];omega,Bool.or_false]]
   (refine zj 2 zs rfl ?_ ?_<;>(repeat' (first|exact trivial|exact rfl|exact ya.refl _|exact zP.refl _|exact zJ.refl _|refine And.intro ?_ ?_|(simp[zp,zl,zD,-List.map_take,-List.map_drop];done))))
   all_goals first|exact zt _ hp|skip
 have q0:k=g.length:=by have:¬k<g.length:=sO
                        omega
 subst q0
 clear hc
 rw[List.length_map]
 refine zL [0,4,7,42,43] (λk:Nat=>[(44,.sc (.int .i64 k))]) (λk=>[(1,.vec true 0 1 (Zu g.length (qQ g F k)))]) (λk=>k≤F.length) (λk=>F.length-k) 0 ?_
 refine sW ?_
 refine⟨zo,by exact sK,by rw[show qQ g F 0=okT g g.length from funext λi=>by simp[qQ]];rfl,?_⟩
 rintro k hk
 refine sW ?_
 refine sR ?_
 refine sS (λq0=>?_) λq0=>?_
 ·have q0:k<F.length:=sO
  have eG:=λi=>zkC (g:=g) q0 i
  refine sL (zmO (n:=g.length) (F:=F) (k:=k) zo q0) ?_
  generalize F.getD k noT=S at *
  rw[UD,←hLg]
  refine⟨zo,zo,zo,?_⟩
  rw[Int.toNat_natCast,show List.map D.sc [Value.bool false]=[D.sc (.bool false)] from rfl,ZT]
  refine sW ?_
  rw[Jp]
  refine zL [0,4,7,12,42,43,44,54,55] (λj:Nat=>[(56,.sc (.int .i64 j))]) (λj=>[(2,.vec true 0 1 (Zu g.length (QK g S j)))]) (λj=>j≤g.length) (λj=>g.length-j) 0 ?_
  refine sW ?_
  refine⟨zo,by exact sK,by rw[show QK g S 0=λ_=>false from funext λi=>rfl];rfl,?_⟩
  rintro j hj
  refine sW ?_
  refine sR ?_
  refine sS (λq2=>?_) λq2=>?_
  ·have q2:j<g.length:=sO
   have eH:=λi=>zni g S j i
   have hpj:=VQ (g:=g) q2
   refine sL (y6 j zo q2) ?_
   refine sL (zT j zo q2) ?_
   refine sL (zT j zo q2) ?_
   refine sB ?_
   refine⟨_,y6 (zH g j).toNat zo zo,?_⟩
   refine sW ?_
   have fin:∀v,(v=true↔QK g S j (zH g j).toNat=true∨S j=true)→(Zu g.length (QK g S j)).set (zH g j).toNat [.sc (.bool v)]=Zu g.length (QK g S (j+1)):=λv hv =>
    JR rfl λq _=>by
     rw[eH]
     by_cases e:q=(zH g j).toNat
     ·subst e
      rw[if_pos rfl,show(zH g j==(((zH g j).toNat:Nat):Int))=true by rw[beq_iff_eq];omega,Bool.true_and,Bool.eq_iff_iff,Bool.or_eq_true,hv]
     ·rw[if_neg e,show(zH g j==(q:Int))=false by rw[beq_eq_false_iff_ne];omega,Bool.false_and,Bool.or_false]
   cases r:QK g S j (zH g j).toNat
   ·refine sW ?_
    refine sB ?_
    refine⟨_,y6 (zH g j).toNat zo zo,?_⟩
    refine sW ?_
    refine sI ?_
    refine⟨j+1,zo,zd,zC (by exact sK) ?_⟩
    have:=fin (S j) (by rw[r];simp)
    rw[Nat.zero_add,this]
    rfl
   ·refine sW ?_
    refine sB ?_
    refine⟨_,y6 (zH g j).toNat zo zo,?_⟩
    refine sW ?_
    refine sI ?_
    refine⟨j+1,zo,zd,zC (by exact sK) ?_⟩
    have:=fin true (by rw[r];simp)
    rw[Nat.zero_add,this]
    rfl
  have q2:j=g.length:=by have:¬j<g.length:=sO
                         omega
  rw[q2]
  clear q2
  refine zL [0,4,7,12,42,43,44,79] (λi:Nat=>[(80,.sc (.int .i64 i))]) (λi=>[(1,.vec true 0 1 (Zu g.length λx=>if x<i then qQ g F (k+1) x else qQ g F k x))]) (λi=>i≤g.length) (λi=>g.length-i) 0 ?_
  refine sW ?_
  refine⟨zo,by exact sK,by simp;rfl,?_⟩
  rintro i hi
  refine sW ?_
  refine sR ?_
  refine sS (λq3=>?_) λq3=>?_
  ·have q3:i<g.length:=sO
   have fin:(Zu g.length λx=>if x<i then qQ g F (k+1) x else qQ g F k x).set i [.sc (.bool (qQ g F (k+1) i))]=Zu g.length λx=>if x<i+1 then qQ g F (k+1) x else qQ g F k x :=
    JR rfl λq _=>by
     by_cases e:q=i
     ·subst e;rw[if_pos zo,if_pos rfl]
     ·rw[if_neg e]
      by_cases e2:q<i
      ·rw[if_pos e2,if_pos zo]
      ·rw[if_neg e2,if_neg zo]
   have eGi:=eG i
   have hat:(Zu g.length λx=>if x<i then qQ g F (k+1) x else qQ g F k x)[i]? = some [.sc (.bool (qQ g F k i))]:=by
    rw[y6 i rfl q3,if_neg zo]
   refine sB ?_
   refine⟨_,by rw[Nat.zero_add];exact hat,?_⟩
   refine sW ?_
   cases r:qQ g F k i
   ·rw[r,Bool.false_and] at eGi
    rw[eGi] at fin
    refine sW ?_
    refine sB ?_
    refine⟨_,by rw[Nat.zero_add];exact hat,?_⟩
    refine sW ?_
    refine sI ?_
    refine⟨i+1,zo,zd,zC (by exact sK) ?_⟩
    rw[Nat.zero_add,show(i:Int).toNat=i from Int.toNat_natCast i,fin]
    rfl
   ·rw[r,Bool.true_and] at eGi
    rw[eGi] at fin
    refine sW ?_
    refine sB ?_
    refine⟨_,y6 i zo q3,?_⟩
    refine sW ?_
    refine sB ?_
    refine⟨_,by rw[Nat.zero_add];exact hat,?_⟩
    refine sW ?_
    refine sI ?_
    refine⟨i+1,zo,zd,zC (by exact sK) ?_⟩
    rw[Nat.zero_add,show(i:Int).toNat=i from Int.toNat_natCast i,fin]
    rfl
  ·have q3:i=g.length:=by have:¬i<g.length:=sO
                          omega
   subst q3
   refine sI ?_
   refine⟨k+1,zo,zd,?_⟩
   dsimp only
   (refine zj 2 zs rfl ?_ ?_<;>(repeat' (first|exact trivial|exact rfl|exact ya.refl _|exact zP.refl _|exact zJ.refl _|refine And.intro ?_ ?_|(simp[zp,zl,zD,-List.map_take,-List.map_drop];done))))
   all_goals first|exact zt _ hp|exact zg _ (zB _ (λS=>by simp[ze,xm]) F)|exact zk (w9 λv hv=>by rw[if_pos hv])|skip
 have q0:k=F.length:=by have:¬k<F.length:=sO
                        omega
 subst q0
 rw[zne]
 rw[show((List.range g.length).map (YF g F)).map (λa=>[D.sc (.bool a)])=List.drop 0 (List.take g.length (Zu g.length (YF g F))) by rw[zb4,zgP]] at hI
 refine sN hI ?_
 exact .refl _
end
end
section
open Go.RowKit
def zig (Z:List Int) (i:Nat) (p:Nat):Int:=if p<i∨Z.length-i≤p then Z.getD (Z.length-1-p) 0 else Z.getD p 0
theorem zsD (Z:List Int):gl Z.length (λp=>Z.getD p 0)=Z:=by
 apply List.ext_getElem zs
 intro i h1 h2
 have:=UR (n:=Z.length) (g:=λp=>Z.getD p 0) h2
 rw[List.getD_eq_getElem?_getD,List.getElem?_eq_getElem h1,List.getD_eq_getElem?_getD,List.getElem?_eq_getElem h2] at this
 exact this
theorem zxp {Z:List Int} {g:Nat→Int} (h:∀p,p<Z.length→g p=Z.getD (Z.length-1-p) 0):gl Z.length g=Z.reverse:=by
 apply List.ext_getElem zs
 intro i h1 h2
 have hi:i<Z.length:=by simpa using h1
 have:=UR (n:=Z.length) (g:=g) hi
 rw[List.getD_eq_getElem?_getD,List.getElem?_eq_getElem h1,h i hi,List.getD_eq_getElem?_getD,List.getElem?_eq_getElem zo] at this
 rw[List.getElem_reverse]
 exact this
def zvP:PC:=.seq (.seq (OP [qm 7 2,qm 8 3,Bi 9 .lss 7 8]) (.cond 9 .skip (.exit 0))) (.seq (.block 1 (.ops [qm 14 0,qm 15 2,qm 16 0,qm 17 3,qm 18 0,qm 19 3,qd 20 (.zM 1 18 19) 48,qd 21 (.zi 20) 112,qm 22 0,qm 23 2,qd 24 (.zM 1 22 23) 768,qd 25 (.zi 24) 1792,qd 26 (.zM 1 14 15) 4083,qk (.store 1 26 21) 8179,qd 27 (.zM 1 16 17) 16383,qk (.store 1 27 25) 32767] true)) (OP [qm 10 2,Bi 11 .add 10 (cI 1),qm 12 3,Bi 13 .sub 12 (cI 1),qm 2 11,qm 3 13]))
def c176:PC:=.seq (OP [qm 4 0,Ln 5 4,Bi 6 .sub 5 (cI 1),Mv 2 (cI 0),qm 3 6]) (.block 0 (.loop zvP))
theorem zuL:zz Tryz.prog 176 28 [] c176:=fK Tryz.func176
theorem zbF (Z:List Int) (hl:Z.length≤17592186044416) (v:Nat):yB Tryz.prog 176 [.own 0 v 0 Z.length] [.vec true v 1 (zI Z)] (.yI []) [.vec true v 1 (zI Z.reverse)]:=by
 refine yp zuL zs zs ?_ (by simp[zp,zl]) (by simp[zf.under])
 refine sR ?_
 rw[Nat.sub_zero]
 refine sI ?_
 refine zL [0] (λi:Nat=>[(2,.sc (.int .i64 i)),(3,.sc (.int .i64 ((Z.length:Int)-1-i)))]) (λi=>[(0,.vec true v 1 (zI (gl Z.length (zig Z i))))]) (λi=>2*i≤Z.length+1) (λi=>Z.length+1-i) 0 ?_
 refine sW ?_
 refine⟨zo,⟨rfl,by show D.sc _=D.sc _;simp,trivial⟩,by
  rw[vc (g':=λp=>Z.getD p 0) λp hp=>by unfold zig;rw[if_neg zo],zsD];rfl,?_⟩
 rintro i hi
 refine sW ?_
 refine sR ?_
 refine sS (λh1=>?_) λh1=>?_
 ·have h1:(i:Int)<(Z.length:Int)-1-i:=sO
  refine sB ?_
  refine⟨_,zT (Z.length-1-i) zo zo,?_⟩
  refine sW ?_
  refine sB ?_
  refine⟨_,zT i zo zo,?_⟩
  refine sW ?_
  refine sB ?_
  refine⟨_,zT i zo zo,?_⟩
  refine sW ?_
  refine sB ?_
  rw[uf (k:=i) zo]
  refine⟨_,zT (Z.length-1-i) zo zo,?_⟩
  refine sW ?_
  refine sI ?_
  refine sI ?_
  refine⟨i+1,zo,zd,?_⟩
  refine zC ⟨rfl,by show D.sc _=D.sc _;simp;omega,by exact sK⟩ ?_
  rw[uf (k:=Z.length-1-i) zo,vc (g':=zig Z (i+1)) λp hp=>?_]
  ·rfl
  ·by_cases e1:p=Z.length-1-i
   ·subst e1
    rw[uC]
    unfold zig
    rw[if_neg zo,if_pos zo]
    congr 1
    omega
   ·rw[WR e1]
    by_cases e2:p=i
    ·subst e2
     rw[uC]
     unfold zig
     rw[if_neg zo,if_pos zo]
    ·rw[WR e2]
     unfold zig
     by_cases q:p<i∨Z.length-i≤p
     ·rw[if_pos q,if_pos zo]
     ·rw[if_neg q,if_neg zo]
 ·have h1:¬(i:Int)<(Z.length:Int)-1-i:=sO
  refine⟨?_,zs⟩
  rw[←zxp (Z:=Z) (g:=zig Z i) λp hp=>?_]
  ·rfl
  ·unfold zig
   split
   ·rfl
   ·congr 1
    omega
end
section
section
def yi (M:List Pr):List Int:=M.map (·.1)
def Wd (ok:Nat→Bool) (n:Int):List Int→List Pr→List Pr
 | [],M=>M
 | k::r,M=>Wd ok n r (if (yi M).contains k=false∧ok k.toNat=true then M++[(k,n)] else M)
def wSt:List Int→List Pr→List Pr
 | [],M=>M
 | k::r,M=>wSt r (if (yi M).contains k=false then M++[(k,-1)] else M)
def yq (M:List Pr) (h:Nat):Int:=(M.getD h (0,0)).1
def U0 (g:List (List Int)) (to ok:Nat→Bool):Nat→Nat→List Pr→Option (List Pr × Nat)
 | 0,_,_=>none
 | f+1,h,M=>if h<M.length then (if to (yq M h).toNat=true then some (M,h) else U0 g to ok f (h+1) (Wd ok (yq M h) (g.getD (yq M h).toNat []) M)) else none
def upM (M:List Pr) (n:Int):Int:=((M.find? λp=>p.1==n).map (·.2)).getD (-1)
def ux (M:List Pr):Nat→Int→List Int
 | 0,_=>[]
 | f+1,n=>if n<0 then [] else n::ux M f (upM M n)
def Xk (g:List (List Int)) (to ok:Nat→Bool) (from_:List Int):List Int :=
 match U0 g to ok (g.length+1) 0 (wSt from_ []) with
 | some (M,h)=>(ux M (M.length+1) (yq M h)).reverse
 | none=>[]
structure Zf (g:List (List Int)) (ok:Nat→Bool) (from_:List Int) (M:List Pr):Prop where
 nd:(yi M).Nodup
 rng:∀p∈M,0≤p.1∧p.1<(g.length:Int)
 par:∀j,j<M.length→(M.getD j (0,0)).2=-1∨∃i,i<j∧(M.getD j (0,0)).2=yq M i
 okF:∀p∈M,p.1∈from_∨ok p.1.toNat=true
theorem qX (M:List Pr):(yi M).length=M.length:=by simp[yi]
theorem Xd (M:List Pr) (p:Pr):yi (M++[p])=yi M++[p.1]:=by simp[yi]
theorem ZE {M:List Pr} {p:Pr} {i:Nat} (h:i<M.length):yq (M++[p]) i=yq M i:=by
 unfold yq
 rw[List.getD_eq_getElem?_getD,List.getElem?_append_left h,←List.getD_eq_getElem?_getD]
theorem Zf.len {g:List (List Int)} {ok:Nat→Bool} {from_:List Int} {M:List Pr} (h:Zf g ok from_ M):M.length≤g.length:=by
 rw[←qX]
 have hnd:=h.nd
 refine zhe g.length (yi M).length (λi=>((yi M).getD i 0).toNat) (λi hi=>?_) λi j hi hj he=>?_
 ·have hm:(yi M).getD i 0∈yi M:=by rw[List.getD_eq_getElem?_getD,List.getElem?_eq_getElem hi];simp
  obtain⟨p,hp,e⟩:=List.mem_map.1 hm
  have:=h.rng p hp
  rw[←e];omega
 ·have hi':(yi M).getD i 0∈yi M:=by rw[List.getD_eq_getElem?_getD,List.getElem?_eq_getElem hi];simp
  have hj':(yi M).getD j 0∈yi M:=by rw[List.getD_eq_getElem?_getD,List.getElem?_eq_getElem hj];simp
  obtain⟨p,hp,e1⟩:=List.mem_map.1 hi'
  obtain⟨q,hq,e2⟩:=List.mem_map.1 hj'
  have a:=h.rng p hp
  have b:=h.rng q hq
  have hx:(yi M).getD i 0=(yi M).getD j 0:=by rw[←e1,←e2] at he ⊢;omega
  rw[List.getD_eq_getElem?_getD,List.getD_eq_getElem?_getD,List.getElem?_eq_getElem hi,List.getElem?_eq_getElem hj] at hx
  simp only[Option.getD_some] at hx
  rcases Nat.lt_trichotomy i j with q|q|q
  ·exact absurd hx (List.pairwise_iff_getElem.1 hnd i j hi hj q)
  ·exact q
  ·exact absurd hx.symm (List.pairwise_iff_getElem.1 hnd j i hj hi q)
theorem Zf.push {g:List (List Int)} {ok:Nat→Bool} {from_:List Int} {M:List Pr} (h:Zf g ok from_ M) {k n:Int} (hk:0≤k∧k<(g.length:Int)) (hn:¬k∈yi M) (hp:n=-1∨∃i,i<M.length∧n=yq M i) (hf:k∈from_∨ok k.toNat=true):Zf g ok from_ (M++[(k,n)]) where
 nd:=by
  rw[Xd,List.nodup_append]
  exact⟨h.nd,zs,λa ha b hb=>by rw[List.mem_singleton] at hb;subst hb;exact λe=>hn (e▸ha)⟩
 rng p hp:=by
  rcases List.mem_append.1 hp with q|q
  ·exact h.rng p q
  ·rw[List.mem_singleton] at q;subst q;exact hk
 par j hj:=by
  by_cases e:j<M.length
  ·rw[List.getD_eq_getElem?_getD,List.getElem?_append_left e,←List.getD_eq_getElem?_getD]
   rcases h.par j e with k1|⟨i,k1,k2⟩
   ·exact .inl k1
   ·exact .inr ⟨i,k1,by rw[k2,ZE zo]⟩
  ·have ej:j=M.length:=by simp at hj;omega
   subst ej
   rw[List.getD_eq_getElem?_getD,List.getElem?_append_right (Nat.le_refl _),Nat.sub_self]
   show n=-1∨_
   rcases hp with k1|⟨i,k1,k2⟩
   ·exact .inl k1
   ·exact .inr ⟨i,k1,by show n=_;rw[k2,ZE k1]⟩
 okF p hp:=by
  rcases List.mem_append.1 hp with q|q
  ·exact h.okF p q
  ·rw[List.mem_singleton] at q;subst q;exact hf
theorem xp {l:List Int} {k:Int} (h:l.contains k=false):¬k∈l:=λq=>by rw[List.contains_iff_mem.2 q] at h;cases h
theorem JM {l:List Int} {k:Int} (h:¬l.contains k=false):k∈l:=List.contains_iff_mem.1 (by cases e:l.contains k<;>simp_all)
theorem zha {g:List (List Int)} {ok:Nat→Bool} {from_:List Int}:∀(r:List Int) {M:List Pr},Zf g ok from_ M→(∀x∈r,x∈from_∧0≤x∧x<(g.length:Int)) →
  Zf g ok from_ (wSt r M)∧(∀x∈r,x∈yi (wSt r M))∧∃X,wSt r M=M++X
 | [],M,h,_=>⟨h,zs,[],by simp[wSt]⟩
 | k::r,M,h,hr=>by
  rw[wSt]
  by_cases q:(yi M).contains k=false
  ·rw[if_pos q]
   obtain⟨a,b,X,hX⟩:=zha r (h.push (hr k zs).2 (xp q) (.inl rfl) (.inl (hr k zs).1)) λx hx=>hr x (by simp[hx])
   refine⟨a,λx hx=>?_,(k,-1)::X,by rw[hX];simp⟩
   rcases List.mem_cons.1 hx with rfl|hx
   ·rw[hX];simp[yi]
   ·exact b x hx
  ·rw[if_neg q]
   obtain⟨a,b,X,hX⟩:=zha r h λx hx=>hr x (by simp[hx])
   refine⟨a,λx hx=>?_,X,hX⟩
   rcases List.mem_cons.1 hx with rfl|hx
   ·have:=JM q
    rw[hX];unfold yi at this ⊢;rw[List.map_append];exact List.mem_append.2 (.inl this)
   ·exact b x hx
theorem zcr {g:List (List Int)} {ok:Nat→Bool} {from_:List Int} {n:Int} {i0:Nat}:∀(r:List Int) {M:List Pr},Zf g ok from_ M→i0<M.length→n=yq M i0→(∀x∈r,0≤x∧x<(g.length:Int)) →
  Zf g ok from_ (Wd ok n r M)∧(∀x∈r,ok x.toNat=true→x∈yi (Wd ok n r M))∧∃X,Wd ok n r M=M++X
 | [],M,h,_,_,_=>⟨h,zs,[],by simp[Wd]⟩
 | k::r,M,h,hi,hn,hr=>by
  rw[Wd]
  by_cases q:(yi M).contains k=false∧ok k.toNat=true
  ·rw[if_pos q]
   obtain⟨a,b,X,hX⟩:=zcr (n:=n) (i0:=i0) r (h.push (hr k zs) (xp q.1) (.inr ⟨i0,hi,hn⟩) (.inr q.2)) (by rw[List.length_append];omega) (by rw[ZE hi];exact hn) λx hx=>hr x (by simp[hx])
   refine⟨a,λx hx hx2=>?_,(k,n)::X,by rw[hX];simp⟩
   rcases List.mem_cons.1 hx with rfl|hx
   ·rw[hX];simp[yi]
   ·exact b x hx hx2
  ·rw[if_neg q]
   obtain⟨a,b,X,hX⟩:=zcr (i0:=i0) r h hi hn λx hx=>hr x (by simp[hx])
   refine⟨a,λx hx hx2=>?_,X,hX⟩
   rcases List.mem_cons.1 hx with rfl|hx
   ·have:=JM λz=>q ⟨z,hx2⟩
    rw[hX];unfold yi at this ⊢;rw[List.map_append];exact List.mem_append.2 (.inl this)
   ·exact b x hx hx2
theorem Zf.none (g:List (List Int)) (ok:Nat→Bool) (from_:List Int):Zf g ok from_ [] where
 nd:=.nil
 rng p hp:=by cases hp
 par j hj:=by cases hj
 okF p hp:=by cases hp
theorem znU {M:List Pr} (hnd:(yi M).Nodup) {i:Nat} (hi:i<M.length):M.find? (λp=>p.1==yq M i)=some (M.getD i (0,0)):=by
 have:M.getD i (0,0)=M[i]:=by rw[List.getD_eq_getElem?_getD,List.getElem?_eq_getElem hi];rfl
 rw[this,List.find?_eq_some_iff_getElem]
 unfold yq
 rw[this]
 refine⟨zs,i,hi,rfl,λj hj=>?_⟩
 have:=List.pairwise_iff_getElem.1 hnd j i (by simp[yi];omega) (by simp[yi];omega) hj
 simp only[yi,List.getElem_map] at this
 simpa using this
theorem zsy {M:List Pr} (hnd:(yi M).Nodup) {i:Nat} (hi:i<M.length):upM M (yq M i)=(M.getD i (0,0)).2:=by
 unfold upM;rw[znU hnd hi];rfl
def YE (M:List Pr) (t:Nat):Int:=if t=0 then -1 else yq M (t-1)
theorem Zf.up {g:List (List Int)} {ok:Nat→Bool} {from_:List Int} {M:List Pr} (h:Zf g ok from_ M) {t:Nat} (ht:0<t) (hl:t≤M.length):∃t',t'<t∧upM M (YE M t)=YE M t'∧(M.getD (t-1) (0,0)).2=YE M t'∧0≤YE M t∧YE M t<(g.length:Int):=by
 have e:YE M t=yq M (t-1):=by unfold YE;rw[if_neg zo]
 rw[e,zsy h.nd zo]
 have hr:=h.rng _ (xo (show t-1<M.length by omega))
 rcases h.par (t-1) zo with k|⟨i,k1,k2⟩
 ·exact⟨0,ht,by rw[k];rfl,by rw[k];rfl,hr⟩
 ·refine⟨i+1,zo,?_,?_,hr⟩
  ·rw[k2];unfold YE;rw[if_neg zo];rfl
  ·rw[k2];unfold YE;rw[if_neg zo];rfl
theorem Zf.back {g:List (List Int)} {ok:Nat→Bool} {from_:List Int} {M:List Pr} (h:Zf g ok from_ M):∀(f t:Nat),t≤M.length→(∀x∈ux M f (YE M t),0≤x∧x<(g.length:Int))∧(ux M f (YE M t)).length≤t
 | 0,t,_=>by simp[ux]
 | f+1,t,ht=>by
  rw[ux]
  by_cases h0:t=0
  ·subst h0
   rw[if_pos (by simp[YE])];simp
  ·obtain⟨t',k1,k2,_,k3,k4⟩:=h.up (t:=t) zo ht
   rw[if_neg zo,k2]
   obtain⟨a,b⟩:=h.back f t' zo
   refine⟨λx hx=>?_,by simp;omega⟩
   rcases List.mem_cons.1 hx with rfl|hx
   ·exact⟨k3,k4⟩
   ·exact a x hx
def zjM (g:List (List Int)) (ok:Nat→Bool):List (List Int):=g.map λl=>l.filter λx=>ok x.toNat
theorem zdL {g:List (List Int)} {ok:Nat→Bool} {v:Nat} {x:Int}:x∈(zjM g ok).getD v []↔x∈g.getD v []∧ok x.toNat=true:=by
 unfold zjM
 rw[List.getD_eq_getElem?_getD,List.getD_eq_getElem?_getD,List.getElem?_map]
 cases g[v]? with
 | none=>simp
 | some l=>simp
theorem zg2 {g:List (List Int)} (yT:∀l∈g,xv l g.length=true) {to ok:Nat→Bool} {from_:List Int}:∀(f h:Nat) (M:List Pr),Zf g ok from_ M→h≤M.length→g.length+1≤f+h→(∀x∈from_,x∈yi M)→(∀i,i<h→to (yq M i).toNat=false∧∀y∈g.getD (yq M i).toNat [],ok y.toNat=true→y∈yi M) →
  match U0 g to ok f h M with
  | some (M',h')=>Zf g ok from_ M'∧h'<M'.length∧to (yq M' h').toNat=true
  | none=>∀x∈from_,∀v,To (zjM g ok) x.toNat v→to v=false
 | 0,h,M,hI,hh,hf,_,_=>by have:=hI.len;omega
 | f+1,h,M,hI,hh,hf,hst,hcl=>by
  rw[U0]
  by_cases q:h<M.length
  ·rw[if_pos q]
   by_cases q2:to (yq M h).toNat=true
   ·rw[if_pos q2]
    exact⟨hI,q,q2⟩
   ·rw[if_neg q2]
    obtain⟨a,b,X,hX⟩:=zcr (n:=yq M h) (g.getD (yq M h).toNat []) hI q rfl λx hx=>ye (y9 yT _) hx
    have hsub:∀x,x∈yi M→x∈yi (Wd ok (yq M h) (g.getD (yq M h).toNat []) M):=λx hx=>by
     rw[hX];unfold yi at hx ⊢;rw[List.map_append];exact List.mem_append.2 (.inl hx)
    have hnode:∀i,i<M.length→yq (Wd ok (yq M h) (g.getD (yq M h).toNat []) M) i=yq M i:=λi hi=>by
     rw[hX];unfold yq;rw[List.getD_eq_getElem?_getD,List.getElem?_append_left hi,←List.getD_eq_getElem?_getD]
    have hlen:M.length≤(Wd ok (yq M h) (g.getD (yq M h).toNat []) M).length:=by rw[hX];simp
    refine zg2 yT f (h+1) _ a zo zo (λx hx=>hsub x (hst x hx)) λi hi=>?_
    by_cases e:i=h
    ·subst e
     rw[hnode i q]
     exact⟨by simpa using q2,b⟩
    ·rw[hnode i zo]
     obtain⟨c,d⟩:=hcl i zo
     exact⟨c,λy hy hy2=>hsub y (d y hy hy2)⟩
  ·rw[if_neg q]
   intro x hx v hv
   have eh:h=M.length:=zo
   subst eh
   have key:((v:Nat):Int)∈yi M:=Ux (g:=zjM g ok) (s:=λv=>((v:Nat):Int)∈yi M) (λu hu y hy=>by
    obtain⟨y1,y2⟩:=zdL.1 hy
    have hy0:=ye (y9 yT u) y1
    obtain⟨p,hp,ep⟩:=List.mem_map.1 hu
    obtain⟨i,hi,rfl⟩:=List.mem_iff_getElem.1 hp
    have en:yq M i=(u:Int):=by unfold yq;rw[List.getD_eq_getElem?_getD,List.getElem?_eq_getElem hi];exact ep
    have:=(hcl i hi).2 y (by rw[en];exact y1) y2
    rwa [show((y.toNat:Nat):Int)=y by omega]) hv (by
    have h1:=hst x hx
    obtain⟨p,hp,ep⟩:=List.mem_map.1 h1
    have:=hI.rng p hp
    have ep:p.1=x:=ep
    rwa [show((x.toNat:Nat):Int)=x by omega])
   obtain⟨p,hp,ep⟩:=List.mem_map.1 key
   obtain⟨i,hi,rfl⟩:=List.mem_iff_getElem.1 hp
   have en:yq M i=(v:Int):=by unfold yq;rw[List.getD_eq_getElem?_getD,List.getElem?_eq_getElem hi];exact ep
   have:=(hcl i hi).1
   rw[en] at this
   simpa using this
theorem zho {g:List (List Int)} (yT:∀l∈g,xv l g.length=true) (to ok:Nat→Bool) {from_:List Int} (hf:xv from_ g.length=true):xv (Xk g to ok from_) g.length=true∧(Xk g to ok from_).length≤g.length ∧
  ((∃x∈from_,∃v,To (zjM g ok) x.toNat v∧to v=true)→∃init last,Xk g to ok from_=init++[last]∧to last.toNat=true∧(last∈from_∨ok last.toNat=true)):=by
 obtain⟨a,b,_⟩:=zha (ok:=ok) (from_:=from_) from_ (Zf.none g ok from_) λx hx=>⟨hx,ye hf hx⟩
 have hR:=zg2 yT (to:=to) (ok:=ok) (g.length+1) 0 (wSt from_ []) a (Nat.zero_le _) zo b λi hi=>zo
 unfold Xk
 cases e:U0 g to ok (g.length+1) 0 (wSt from_ []) with
 | none =>
  rw[e] at hR
  refine⟨rfl,zs,λ⟨x,hx,v,h1,h2⟩=>?_⟩
  have:=hR x hx v h1
  rw[h2] at this;cases this
 | some q =>
  obtain⟨M,h⟩:=q
  rw[e] at hR
  obtain⟨hI,hh,ht⟩:=hR
  have en:yq M h=YE M (h+1):=by unfold YE;rw[if_neg zo];rfl
  obtain⟨c,d⟩:=hI.back (M.length+1) (h+1) zo
  have hl:=hI.len
  dsimp only
  rw[en]
  refine⟨xN λx hx=>c x (List.mem_reverse.1 hx),by rw[List.length_reverse];omega,λ_=>?_⟩
  have hr:=hI.rng _ (xo hh)
  rw[ux,if_neg (by rw[←en];unfold yq;omega),←en]
  exact⟨_,_,by rw[List.reverse_cons],ht,hI.okF _ (xo hh)⟩
end
section
open Go.RowKit
noncomputable def fIa (f:Value→Option Value) (M:List Pr):Value→Option Value:=M.foldl (λf p=>QZ f (.int .i64 p.1) (.int .i64 p.2)) f
noncomputable def fI (M:List Pr):Value→Option Value:=fIa (λ_=>none) M
theorem UE (M:List Pr) (p:Pr):fI (M++[p])=QZ (fI M) (.int .i64 p.1) (.int .i64 p.2):=by
 unfold fI fIa;rw[List.foldl_append];rfl
theorem zar {n:Int}:∀(M:List Pr) (f:Value→Option Value),¬n∈yi M→fIa f M (.int .i64 n)=f (.int .i64 n)
 | [],f,_=>rfl
 | p::r,f,h=>by
  have h1:p.1≠n:=λe=>h (by simp[yi,e])
  show fIa _ r _=_
  rw[zar r _ λq=>h (by simp only[yi,List.map_cons,List.mem_cons] at q ⊢;exact .inr q)]
  unfold QZ
  dsimp only
  rw[if_neg λe=>h1 (by injection e with _ e;exact e.symm)]
theorem zb7 {n:Int} {M:List Pr} (h:¬n∈yi M):fI M (.int .i64 n)=none:=zar M _ h
theorem zqM:∀(M:List Pr) (f:Value→Option Value),(yi M).Nodup→∀j,j<M.length→fIa f M (.int .i64 (yq M j))=some (.int .i64 (M.getD j (0,0)).2)
 | [],_,_,j,hj=>by cases hj
 | p::r,f,hnd,j,hj=>by
  have h1:=List.nodup_cons.1 (show(p.1::yi r).Nodup from hnd)
  cases j with
  | zero =>
   show fIa _ r (.int .i64 p.1)=_
   rw[zar r _ h1.1]
   unfold QZ
   dsimp only
   rw[if_pos rfl]
   rfl
  | succ j =>
   show fIa _ r (.int .i64 (yq r j))=_
   rw[zqM r _ h1.2 j (by simpa using hj)]
   rfl
theorem zqe {M:List Pr} (hnd:(yi M).Nodup) {j:Nat} (hj:j<M.length):fI M (.int .i64 (yq M j))=some (.int .i64 (M.getD j (0,0)).2):=zqM M _ hnd j hj
theorem zhB {n:Int} {M:List Pr} (hnd:(yi M).Nodup) (h:n∈yi M):∃v,fI M (.int .i64 n)=some v:=by
 obtain⟨p,hp,rfl⟩:=List.mem_map.1 h
 obtain⟨i,hi,rfl⟩:=List.mem_iff_getElem.1 hp
 have:=zqe hnd hi
 rw[show yq M i=M[i].1 by unfold yq;rw[List.getD_eq_getElem?_getD,List.getElem?_eq_getElem hi];rfl] at this
 exact⟨_,this⟩
theorem zqU {P:Program} {k:TypeId} {q:IntKind} (hu:P.underlying k=some (.int q)):Maps.Keyed P k:=Maps.int_keyed hu
theorem zfo {P:Program} {k:TypeId} (hu:P.underlying k=some (.int .i64)) {n:Int} (hn:(Lit.int .i64 n).wf=true):∃l,keyOf P k (.int .i64 n)=some l:=by
 unfold keyOf
 rw[hu]
 simp only[mapKey,hu]
 rw[if_pos ⟨trivial,hn⟩]
 exact⟨_,rfl⟩
theorem zdO {n:Int} (h:0≤n∧n≤1000000000000):(Lit.int .i64 n).wf=true:=by
 have h1:IntKind.min .i64=-9223372036854775808:=zc
 have h2:IntKind.max .i64=9223372036854775807:=zc
 simp only[Lit.wf,Bool.and_eq_true,decide_eq_true_eq];omega
theorem qb {ρ:Nat→Nat} (l:List Int):vw ρ (zI l)=zI l:=yo _ (zB _ (λ_=>by simp[ze,Pure]) l)
noncomputable def XD (g:List (List Int)) (only:Int):Nat→Bool:=λk=>decide (only<0)||zH g k==only
def zwO:PC:=.seq (OP [Bi 27 .lss 26 25]) (.seq (.cond 27 .skip (.exit 0)) (.seq (.block 1 (.seq (OP [Ia 28 1 24 26,Lo 29 28,qm 14 29]) (.seq (OP [qm 31 11,qm 32 14,q 33 (.look 3 (.int .i64 0) 31 32),qm 30 33,Xt 34 0 30,Xt 35 1 30,qm 15 34,qm 16 35]) (.seq (OP [qm 36 16,Nt 37 36]) (.cond 37 (.seq (OP [qm 38 11,qm 39 14,qn (.zkm 3 38 39 (cI (-1)))]) (OP [qm 40 12,qm 41 14,Bs 42 1 1 [41],Ap 43 1 8 40 42,qm 12 43])) .skip))))) (OP [Bi 44 .add 26 (cI 1),qm 26 44])))
def zyv:PC:=.seq (.seq (OP [qm 56 17,Bi 57 .geq 56 (cI 0)]) (.cond 57 .skip (.exit 4))) (.seq (.block 5 (OP [qm 61 18,qm 62 17,Bs 63 1 1 [62],Ap 64 1 8 61 63,qm 18 64])) (OP [qm 58 11,qm 59 17,q 60 (.zme 3 58 59),qm 17 60]))
def zxv:PC:=.seq (OP [Bi 77 .lss 76 75]) (.seq (.cond 77 .skip (.exit 6)) (.seq (.block 7 (.seq (OP [Ia 78 1 74 76,Lo 79 78,qm 20 79]) (.seq (OP [qm 81 11,qm 82 20,q 83 (.look 3 (.int .i64 0) 81 82),qm 80 83,Xt 84 0 80,Xt 85 1 80,qm 21 84,qm 22 85]) (.seq (OP [qm 86 22,Nt 87 86,qm 88 87,GT 89 88 (.move 4),GT 90 88 (.bin .lss 89 (cI 0)),GT 91 88 (.move 90),GF 92 91 (.move 3),GF 93 91 (.move 20),GF 94 91 (.zM 1 92 93),GF 95 91 (.zi 94),GF 96 91 (.move 4),GF 97 91 (.bin .eql 95 96),GT 98 88 (.pick 91 cT 97),Pk 99 88 98 cF]) (.cond 99 (.seq (OP [qm 100 11,qm 101 20,qm 102 17,qn (.zkm 3 100 101 102)]) (OP [qm 103 12,qm 104 20,Bs 105 1 1 [104],Ap 106 1 8 103 105,qm 12 106])) .skip))))) (OP [Bi 107 .add 76 (cI 1),qm 76 107])))
def zwP:PC:=.seq (.seq (OP [qm 45 12,Ln 46 45,Bi 47 .gtr 46 (cI 0)]) (.cond 47 .skip (.exit 2))) (.block 3 (.seq (OP [qm 48 12,Ia 49 1 48 (cI 0),Lo 50 49,qm 17 50]) (.seq (OP [qm 51 12,q 52 (.slc 1 51 (some (cI 1)) none none),qm 12 52]) (.seq (.seq (OP [qm 53 2,qm 54 17,q 55 (.vI 53 [54])]) (.cond 55 (.seq (OP [Mv 18 cN]) (.seq (.block 4 (.loop zyv)) (.seq (OP [qm 65 18,Ca 66 176 [65]]) (.seq (OP [qm 67 18,qm 10 67]) .ret)))) .skip)) (.seq (OP [qm 68 0,q 69 (.zm 68),Fa 70 11 69,Lo 71 70,qm 72 17,Ia 73 1 71 72,Lo 74 73,Ln 75 74,Mv 76 (cI 0)]) (.block 6 (.loop zxv)))))))
def c105:PC:=.seq (OP [Mv 10 cN]) (.seq (OP [q 23 (.zfR 3),qm 11 23]) (.seq (OP [Mv 12 cN]) (.seq (.seq (OP [qm 24 1,Ln 25 24,Mv 26 (cI 0)]) (.block 0 (.loop zwO))) (.seq (.block 2 (.loop zwP)) (.seq (OP [Mv 10 cN]) .ret)))))
theorem zmJ:zz Tryz.prog 105 108 [.tmp 10] c105:=fK Tryz.func105
theorem zpO (W:zK) (A:z7) (L:List Pr) (g:List (List Int)) (fr:List Int) (hn:g.length≤2000000) (hin0:∀l∈g,xv l g.length=true) (hF:qV g) (to:Nat→Bool) (cl:FuncId) (caps:List D) (hcp:ze caps)
  (hcl:∀x:Int,0≤x→x<(g.length:Int)→zu Tryz.prog cl (.sc (.int .i64 x)::caps) (.sc (.bool (to x.toNat)))) (from_:List Int) (hfl:from_.length≤17592186043904) (hf:xv from_ g.length=true) (only:Int) :
  zu Tryz.prog 105 [.xk (u6 W A L g fr),zw from_,.fn (.func cl) [] caps,zw (uN g),.sc (.int .i64 only)] (zw (Xk g to (XD g only) from_)):=by
 have hp:=qH W A L g fr
 have hkd:=zqU (P:=Tryz.prog) Tryz.underlying3
 have hkey:=λx (h:0≤x∧x<(g.length:Int))=>zfo (P:=Tryz.prog) Tryz.underlying3 (n:=x) (zdO ⟨h.1,zo⟩)
 refine zb zmJ zs (by simp[ze,Pure,zh,hp,hcp]) ?_ (zh _)
 have hWE:Xk g to (XD g only) from_=match U0 g to (XD g only) (g.length+1) 0 (wSt from_ []) with|some (M,h)=>(ux M (M.length+1) (yq M h)).reverse|none=>[]:=rfl
 obtain⟨sd,hsd⟩:∃sd:D,sd=.xk (u6 W A L g fr):=⟨_,rfl⟩
 have hsl:ze [sd]:=by subst hsd;exact⟨Z1 hp,trivial⟩
 rw[←hsd]
 refine sR ?_
 rw[List.length_map]
 refine zE (y8 12 1 zs rfl) ?_
 refine zZ [0,2,3,4,11,24,25] (λ((k,M):Nat × List Pr)=>[(12,.own 1 M.length 0 M.length),(26,.sc (.int .i64 k))]) (λ(k,M)=>[.xL true (uA Tryz.prog 3 (fI M)),.vec true M.length 1 (zI (yi M))])
  (λ(k,M)=>k≤from_.length∧Zf g (XD g only) from_ M∧wSt (from_.drop k) M=wSt from_ []) (λ(k,M)=>from_.length-k) (0,[]) ?_
 refine sW ?_
 refine⟨⟨zo,Zf.none _ _ _,rfl⟩,by exact sK,rfl,?_⟩
 rintro⟨k,M⟩ ⟨hk,hI,hS⟩
 have hMl:=hI.len
 have hKl:=qX M
 refine sW ?_
 refine sR ?_
 refine sS (λq0=>?_) λq0=>?_
 ·have q0:k<from_.length:=sO
  have hx:=ye hf (yr q0)
  have hxm:=yr q0
  refine sL (yb (l:=from_) (k:=k) zo q0) ?_
  rw[Y2 q0,wSt] at hS
  generalize from_.getD k 0=x at *
  refine⟨fI M,rfl,hkd,hkey x hx,λv hv=>?_,λhv=>?_⟩
  ·have hc:¬(yi M).contains x=false:=λe=>by
    have:=(zb7 (xp e)).symm.trans hv
    cases this
   rw[if_neg hc] at hS
   refine sW ?_
   refine sI ?_
   refine⟨(k+1,M),⟨zo,hI,hS⟩,zd,?_⟩
   exact zC (by exact sK) rfl
  ·have hc:(yi M).contains x=false:=by
    cases e:(yi M).contains x
    ·rfl
    ·obtain⟨v,h⟩:=zhB hI.nd (List.contains_iff_mem.1 e)
     have:=hv.symm.trans h
     cases this
   rw[if_pos hc] at hS
   have hI2:=hI.push hx (xp hc) (.inl rfl) (.inl hxm)
   refine sW ?_
   refine⟨fI M,rfl,hkd,hkey x hx,hv,?_⟩
   refine sW ?_
   refine sJ ?_
   refine sI ?_
   refine⟨(k+1,M++[(x,-1)]),⟨zo,hI2,hS⟩,zd,?_⟩
   dsimp only
   rw[UE,show(M++[(x,(-1:Int))]).length=M.length+1 by simp]
   (refine zj 2 zs rfl ?_ ?_<;>(repeat' (first|exact trivial|exact rfl|exact ya.refl _|exact zP.refl _|exact zJ.refl _|refine And.intro ?_ ?_|(simp[zp,zl,zD,-List.map_take,-List.map_drop];done))))
   all_goals first|exact zq _ hsl.1|exact zt _ hcp|exact zt _ hcp|exact zk (by rw[Xd,←xB,qX])|skip
 have q0:k=from_.length:=by have:¬k<from_.length:=sO
                            omega
 subst q0
 rw[List.drop_length] at hS
 have hS:M=wSt from_ []:=hS
 rw[←hS] at hWE
 generalize hRes:U0 g to (XD g only) (g.length+1) 0 M=R at hWE
 refine zZ [0,2,3,4,11] (λ((h,M,Z,lo,hi,zW):Nat × List Pr × List Int × Nat × Nat × Nat)=>[(12,.own 1 zW lo hi)]) (λ(h,M,Z,lo,hi,zW)=>[.xL true (uA Tryz.prog 3 (fI M)),.vec true zW 1 (zI Z)])
  (λ(h,M,Z,lo,hi,zW)=>Zf g (XD g only) from_ M∧h≤M.length∧lo≤hi∧hi≤Z.length∧(Z.take hi).drop lo=(yi M).drop h∧U0 g to (XD g only) (g.length+1-h) h M=R) (λ(h,M,Z,lo,hi,zW)=>g.length+1-h) (0,M,yi M,0,M.length,M.length) ?_
 refine sW ?_
 refine⟨⟨hI,zo,zo,zo,by rw[List.take_of_length_le zo],hRes⟩,by exact sK,rfl,?_⟩
 rintro⟨h,M,Z,lo,hi,zW⟩ ⟨hI,hh,hlo,hhi,hZ,hR⟩
 have hMl:=hI.len
 have hKl:=qX M
 have hZl:hi-lo=M.length-h:=by
  have:=congrArg List.length hZ
  rw[List.length_drop,List.length_drop,List.length_take] at this
  omega
 rw[show g.length+1-h=(g.length-h)+1 by omega,U0] at hR
 refine sW ?_
 refine sR ?_
 refine sS (λq1=>?_) λq1=>?_
 ·have q1:lo<hi:=sO
  have hhM:h<M.length:=zo
  rw[if_pos hhM] at hR
  have hx:=hI.rng _ (xo hhM)
  have eN:(M.getD h (0,0)).1=yq M h:=rfl
  rw[eN] at hx
  have hd:(yi M).drop h=yq M h::(yi M).drop (h+1):=by
   rw[List.drop_eq_getElem_cons zo]
   unfold yq yi
   rw[List.getElem_map,List.getD_eq_getElem?_getD,List.getElem?_eq_getElem hhM]
   rfl
  rw[zrs q1 hhi,hd] at hZ
  obtain⟨hz1,hz2⟩:=List.cons.inj hZ
  refine sB ?_
  refine⟨_,yb (l:=Z) (k:=lo) zo zo,?_⟩
  refine sW ?_
  rw[hz1]
  refine⟨zo,zo,zo,?_⟩
  refine sW ?_
  rw[show lo+(hi-lo)=hi by omega]
  have hcx:=hcl (yq M h) hx.1 hx.2
  have en1:yq M h=YE M (h+1):=by unfold YE;rw[if_neg zo];rfl
  generalize hxe:yq M h=x at *
  refine sC hcx ?_
  cases hto:to x.toNat
  ·rw[hto,if_neg zc] at hR
   refine sW ?_
   subst hsd
   unfold u6 z8
   refine sW ?_
   refine sL (wG (g:=g) (k:=x.toNat) zo zo) ?_
   rw[List.length_map]
   have hrow:=λy hy=>ye (y9 hin0 x.toNat) (x:=y) hy
   have hrl:=hF.at x.toNat
   generalize g.getD x.toNat []=row at *
   refine zZ [0,2,3,4,11,17,74,75] (λ((k,M',Z',lo',hi',ver'):Nat × List Pr × List Int × Nat × Nat × Nat)=>[(12,.own 1 ver' lo' hi'),(76,.sc (.int .i64 k))]) (λ(k,M',Z',lo',hi',ver')=>[.xL true (uA Tryz.prog 3 (fI M')),.vec true ver' 1 (zI Z')])
    (λ(k,M',Z',lo',hi',ver')=>k≤row.length∧Zf g (XD g only) from_ M'∧h<M'.length∧yq M' h=x∧lo'≤hi'∧hi'≤Z'.length∧(Z'.take hi').drop lo'=(yi M').drop (h+1)∧Wd (XD g only) x (row.drop k) M'=Wd (XD g only) x row M) (λ(k,M',Z',lo',hi',ver')=>row.length-k) (0,M,Z,lo+1,hi,zW) ?_
   refine sW ?_
   refine⟨⟨zo,hI,hhM,hxe,zo,hhi,hz2,rfl⟩,by exact sK,rfl,?_⟩
   rintro⟨k,M',Z',lo',hi',ver'⟩ ⟨hk,hI',hhM',hx',hlo',hhi',hZ',hA'⟩
   have hMl':=hI'.len
   have hKl':=qX M'
   have hZl':hi'-lo'=M'.length-(h+1):=by
    have:=congrArg List.length hZ'
    rw[List.length_drop,List.length_drop,List.length_take] at this
    omega
   refine sW ?_
   refine sR ?_
   refine sS (λq2=>?_) λq2=>?_
   ·have q2:k<row.length:=sO
    have hy:=hrow _ (yr q2)
    refine sL (yb (l:=row) (k:=k) zo q2) ?_
    rw[Y2 q2,Wd] at hA'
    generalize row.getD k 0=y at *
    refine⟨fI M',rfl,hkd,hkey y hy,λv hv=>?_,λhv=>?_⟩
    ·have hc:¬(yi M').contains y=false:=λe=>by
      have:=(zb7 (xp e)).symm.trans hv
      cases this
     rw[if_neg λq=>hc q.1] at hA'
     refine sW ?_
     refine sI ?_
     refine⟨(k+1,M',Z',lo',hi',ver'),⟨zo,hI',hhM',hx',hlo',hhi',hZ',hA'⟩,zd,?_⟩
     exact zC (by exact sK) rfl
    ·have hc:(yi M').contains y=false:=by
      cases e:(yi M').contains y
      ·rfl
      ·obtain⟨v,h⟩:=zhB hI'.nd (List.contains_iff_mem.1 e)
       have:=hv.symm.trans h
       cases this
     have eok:XD g only y.toNat=(decide (only<0)||zH g y.toNat==only):=rfl
     refine sW ?_
     refine sS (λr=>?_) λr=>?_
     ·rw[r,Bool.true_or] at eok
      rw[if_pos ⟨hc,eok⟩] at hA'
      have hI2:=hI'.push hy (xp hc) (.inr ⟨h,hhM',hx'.symm⟩) (.inr eok)
      refine⟨fI M',rfl,hkd,hkey y hy,hv,?_⟩
      refine sW ?_
      refine sJ ?_
      refine sI ?_
      refine⟨(k+1,M'++[(y,x)],(Z'.take hi').drop lo'++[y],0,hi'-lo'+1,ver'+1),⟨zo,hI2,by simp;omega,by rw[ZE hhM'];exact hx',zo,by simp;omega,?_,hA'⟩,zd,?_⟩
      ·rw[List.drop_zero,List.take_of_length_le (by simp;omega),hZ',Xd,List.drop_append_of_le_length zo]
      ·dsimp only
       rw[UE]
       (refine zj 2 zs rfl ?_ ?_<;>(repeat' (first|exact trivial|exact rfl|exact ya.refl _|exact zP.refl _|exact zJ.refl _|refine And.intro ?_ ?_|(simp[zp,zl,zD,-List.map_take,-List.map_drop];done))))
       all_goals first|exact zk Yq|exact zt _ hp|exact zt _ hcp|(simp;done)|skip
     ·refine sL (zT y.toNat zo zo) ?_
      rw[r,Bool.false_or] at eok
      refine sS (λr2=>?_) λr2=>?_
      ·have r2:(zH g y.toNat==only)=true:=r2
       rw[r2] at eok
       rw[if_pos ⟨hc,eok⟩] at hA'
       have hI2:=hI'.push hy (xp hc) (.inr ⟨h,hhM',hx'.symm⟩) (.inr eok)
       refine⟨fI M',rfl,hkd,hkey y hy,hv,?_⟩
       refine sW ?_
       refine sJ ?_
       refine sI ?_
       refine⟨(k+1,M'++[(y,x)],(Z'.take hi').drop lo'++[y],0,hi'-lo'+1,ver'+1),⟨zo,hI2,by simp;omega,by rw[ZE hhM'];exact hx',zo,by simp;omega,?_,hA'⟩,zd,?_⟩
       ·rw[List.drop_zero,List.take_of_length_le (by simp;omega),hZ',Xd,List.drop_append_of_le_length zo]
       ·dsimp only
        rw[UE]
        (refine zj 2 zs rfl ?_ ?_<;>(repeat' (first|exact trivial|exact rfl|exact ya.refl _|exact zP.refl _|exact zJ.refl _|refine And.intro ?_ ?_|(simp[zp,zl,zD,-List.map_take,-List.map_drop];done))))
        all_goals first|exact zk Yq|exact zt _ hp|exact zt _ hcp|(simp;done)|skip
      ·have r2:(zH g y.toNat==only)=false:=r2
       rw[r2] at eok
       rw[if_neg λq=>by rw[eok] at q;cases q.2] at hA'
       refine sI ?_
       refine⟨(k+1,M',Z',lo',hi',ver'),⟨zo,hI',hhM',hx',hlo',hhi',hZ',hA'⟩,zd,?_⟩
       exact zC (by exact sK) rfl
   ·have q2:k=row.length:=by have:¬k<row.length:=sO
                             omega
    subst q2
    rw[List.drop_length] at hA'
    have hA':M'=Wd (XD g only) x row M:=hA'
    rw[←hA'] at hR
    refine⟨(h+1,M',Z',lo',hi',ver'),⟨hI',zo,hlo',hhi',hZ',by rw[show g.length+1-(h+1)=g.length-h by omega];exact hR⟩,zd,?_⟩
    exact zC (by exact sK) rfl
  ·rw[hto,if_pos rfl] at hR
   subst hR
   refine sW ?_
   generalize hB0:ux M (M.length+1) x=B
   refine zE (y8 18 1 zs rfl) ?_
   refine zZ [11] (λ((f,t,o):Nat × Nat × List Int)=>[(17,.sc (.int .i64 (YE M t))),(18,.own 2 o.length 0 o.length)]) (λ(f,t,o)=>[.xL true (uA Tryz.prog 3 (fI M)),.vec true zW 1 (zI Z),.vec true o.length 1 (zI o)])
    (λ(f,t,o)=>t≤f∧t≤M.length∧o.length+t≤M.length+1∧o++ux M f (YE M t)=B) (λ(f,t,o)=>t) (M.length+1,h+1,[]) ?_
   refine sW ?_
   refine⟨⟨zo,zo,by simp;omega,by rw[←en1];exact hB0⟩,⟨by show D.sc (.int .i64 x)=_;rw[en1],by exact sK⟩,rfl,?_⟩
   rintro⟨f,t,o⟩ ⟨hf1,ht,ho,hB⟩
   refine sW ?_
   refine sR ?_
   refine sS (λq2=>?_) λq2=>?_
   ·have t0:0<t:=by
     rcases Nat.eq_zero_or_pos t with e|e
     ·subst e;simp[YE] at q2
     ·exact e
    obtain⟨t',k1,k2,k3,k4,k5⟩:=hI.up t0 ht
    have eA:YE M t=yq M (t-1):=by unfold YE;rw[if_neg zo]
    obtain⟨f',rfl⟩:∃f',f=f'+1:=⟨f-1,zo⟩
    rw[ux,if_neg zo,k2] at hB
    have hlook:fI M (.int .i64 (YE M t))=some (.int .i64 (YE M t')):=by rw[eA,zqe hI.nd zo,k3]
    refine sJ ?_
    refine⟨fI M,rfl,hkd,hkey _ ⟨k4,k5⟩,_,hlook,?_⟩
    refine sW ?_
    refine⟨(f',t',o++[YE M t]),⟨zo,zo,by simp;omega,by rw[List.append_assoc];exact hB⟩,zd,?_⟩
    dsimp only
    rw[show(o++[YE M t]).length=o.length+1 by simp]
    (refine zj 3 zs rfl ?_ ?_<;>(repeat' (first|exact trivial|exact rfl|exact ya.refl _|exact zP.refl _|exact zJ.refl _|refine And.intro ?_ ?_|(simp[zp,zl,zD,-List.map_take,-List.map_drop];done))))
    all_goals first|exact zk (xB o _)|skip
   ·have t0:t=0:=by
     rcases Nat.eq_zero_or_pos t with e|e
     ·exact e
     ·obtain⟨t',k1,k2,k3,k4,k5⟩:=hI.up e ht
      exfalso;simp at q2;omega
    subst t0
    have hB:o=B:=by
     rw[←hB]
     cases f<;>simp[ux,YE]
    subst hB
    refine sA (vg (zbF o zo o.length) [.xL true (uA Tryz.prog 3 (fI M)),.vec true zW 1 (zI Z)] [] rfl (by simp[zl,zp]) (by simp[wq,zf.under]) (by simp only[yG,D.yy];rfl) rfl (by simp only[List.map_cons,List.map_nil,zf.yy,qb];rfl) (by simp only[List.map_cons,List.map_nil,zf.yy,qb];rfl)) ?_
    have hEE:Xk g to (XD g only) from_=o.reverse:=by
     rw[hWE]
     show(ux M (M.length+1) (yq M h)).reverse=_
     rw[hxe,hB0]
    rw[hEE]
    exact .own _ _ _ _ _ _ _ _ rfl (by rw[List.drop_zero,List.take_of_length_le (by simp[zI])];exact zU _)
 ·have h0:hi=lo:=sO
  have hhM:¬h<M.length:=zo
  rw[if_neg hhM] at hR
  subst hR
  rw[hWE]
  exact sP
theorem zt7 (W:zK) (A:z7) (L:List Pr) (g:List (List Int)) (fr:List Int) (hn:g.length≤2000000) (hin0:∀l∈g,xv l g.length=true) (hF:qV g) (to:Nat→Bool) (cl:FuncId)
  (hcl:∀x:Int,0≤x→x<(g.length:Int)→zu Tryz.prog cl [.sc (.int .i64 x),.xk [UY g.length to]] (.sc (.bool (to x.toNat)))) (Z0:List Int) (v0:Nat) (hz0:0<Z0.length) (hz1:Z0.length≤1000000000000) (from_:List Int) (hfr:from_=[Z0.getD (Z0.length-1) 0]) (hf:xv from_ g.length=true) (only:Int) :
  yB Tryz.prog 105 [.xk (u6 W A L g fr),.own 0 v0 (Z0.length-1) Z0.length,.fn (.func cl) [] [.loc 1 0],zw (uN g),.sc (.int .i64 only)] [.vec true v0 1 (zI Z0),.row true [UY g.length to]] (zw (Xk g to (XD g only) from_)) [.vec true v0 1 (zI Z0),.row true [UY g.length to]]:=by
 have hp:=qH W A L g fr
 have hfl:from_.length≤17592186043904:=by rw[hfr];simp
 have hkd:=zqU (P:=Tryz.prog) Tryz.underlying3
 have hkey:=λx (h:0≤x∧x<(g.length:Int))=>zfo (P:=Tryz.prog) Tryz.underlying3 (n:=x) (zdO ⟨h.1,zo⟩)
 have hUO:∀o∈[zf.vec true v0 1 (zI Z0),zf.row true [UY g.length to]],o.under 2:=by
  intro o ho
  simp only[List.mem_cons,List.not_mem_nil,or_false] at ho
  rcases ho with rfl|rfl
  ·exact zg _ (zB _ (λ_=>by simp[ze,Pure]) _)
  ·exact zt _ ⟨xm _ _,trivial⟩
 refine wo zmJ zs zs ?_ (zq _ (zh _))
 have hWE:Xk g to (XD g only) from_=match U0 g to (XD g only) (g.length+1) 0 (wSt from_ []) with|some (M,h)=>(ux M (M.length+1) (yq M h)).reverse|none=>[]:=rfl
 obtain⟨sd,hsd⟩:∃sd:D,sd=.xk (u6 W A L g fr):=⟨_,rfl⟩
 have hsl:ze [sd]:=by subst hsd;exact⟨Z1 hp,trivial⟩
 rw[←hsd]
 refine sR ?_
 rw[show Z0.length-(Z0.length-1)=from_.length by rw[hfr];simp;omega]
 refine zE (y8 12 1 zs rfl) ?_
 refine zZ [0,2,3,4,11,24,25] (λ((k,M):Nat × List Pr)=>[(12,.own 3 M.length 0 M.length),(26,.sc (.int .i64 k))]) (λ(k,M)=>[.vec true v0 1 (zI Z0),.row true [UY g.length to],.xL true (uA Tryz.prog 3 (fI M)),.vec true M.length 1 (zI (yi M))])
  (λ(k,M)=>k≤from_.length∧Zf g (XD g only) from_ M∧wSt (from_.drop k) M=wSt from_ []) (λ(k,M)=>from_.length-k) (0,[]) ?_
 refine sW ?_
 refine⟨⟨zo,Zf.none _ _ _,rfl⟩,by exact sK,rfl,?_⟩
 rintro⟨k,M⟩ ⟨hk,hI,hS⟩
 have hMl:=hI.len
 have hKl:=qX M
 refine sW ?_
 refine sR ?_
 refine sS (λq0=>?_) λq0=>?_
 ·have q0:k<from_.length:=sO
  have hx:=ye hf (yr q0)
  have hxm:=yr q0
  have hk0:k=0:=by
   have h1:from_.length=1:=by rw[hfr];rfl
   omega
  refine sB ?_
  refine⟨_,yb (l:=Z0) (k:=Z0.length-1) zo zo,?_⟩
  refine sW ?_
  rw[show Z0.getD (Z0.length-1) 0=from_.getD k 0 by rw[hfr,hk0];rfl]
  rw[Y2 q0,wSt] at hS
  generalize from_.getD k 0=x at *
  refine⟨fI M,rfl,hkd,hkey x hx,λv hv=>?_,λhv=>?_⟩
  ·have hc:¬(yi M).contains x=false:=λe=>by
    have:=(zb7 (xp e)).symm.trans hv
    cases this
   rw[if_neg hc] at hS
   refine sW ?_
   refine sI ?_
   refine⟨(k+1,M),⟨zo,hI,hS⟩,zd,?_⟩
   exact zC (by exact sK) rfl
  ·have hc:(yi M).contains x=false:=by
    cases e:(yi M).contains x
    ·rfl
    ·obtain⟨v,h⟩:=zhB hI.nd (List.contains_iff_mem.1 e)
     have:=hv.symm.trans h
     cases this
   rw[if_pos hc] at hS
   have hI2:=hI.push hx (xp hc) (.inl rfl) (.inl hxm)
   refine sW ?_
   refine⟨fI M,rfl,hkd,hkey x hx,hv,?_⟩
   refine sW ?_
   refine sJ ?_
   refine sI ?_
   refine⟨(k+1,M++[(x,-1)]),⟨zo,hI2,hS⟩,zd,?_⟩
   dsimp only
   rw[UE,show(M++[(x,(-1:Int))]).length=M.length+1 by simp]
   (refine zj 4 zs rfl ?_ ?_<;>(repeat' (first|exact trivial|exact rfl|exact ya.refl _|exact zP.refl _|exact zJ.refl _|refine And.intro ?_ ?_|(simp[zp,zl,zD,-List.map_take,-List.map_drop];done))))
   all_goals first|exact zq _ hsl.1|(simp;done)|(simp;done)|exact zk (by rw[Xd,←xB,qX])|skip
 have q0:k=from_.length:=by have:¬k<from_.length:=sO
                            omega
 subst q0
 rw[List.drop_length] at hS
 have hS:M=wSt from_ []:=hS
 rw[←hS] at hWE
 generalize hRes:U0 g to (XD g only) (g.length+1) 0 M=R at hWE
 refine zZ [0,2,3,4,11] (λ((h,M,Z,lo,hi,zW):Nat × List Pr × List Int × Nat × Nat × Nat)=>[(12,.own 3 zW lo hi)]) (λ(h,M,Z,lo,hi,zW)=>[.vec true v0 1 (zI Z0),.row true [UY g.length to],.xL true (uA Tryz.prog 3 (fI M)),.vec true zW 1 (zI Z)])
  (λ(h,M,Z,lo,hi,zW)=>Zf g (XD g only) from_ M∧h≤M.length∧lo≤hi∧hi≤Z.length∧(Z.take hi).drop lo=(yi M).drop h∧U0 g to (XD g only) (g.length+1-h) h M=R) (λ(h,M,Z,lo,hi,zW)=>g.length+1-h) (0,M,yi M,0,M.length,M.length) ?_
 refine sW ?_
 refine⟨⟨hI,zo,zo,zo,by rw[List.take_of_length_le zo],hRes⟩,by exact sK,rfl,?_⟩
 rintro⟨h,M,Z,lo,hi,zW⟩ ⟨hI,hh,hlo,hhi,hZ,hR⟩
 have hMl:=hI.len
 have hKl:=qX M
 have hZl:hi-lo=M.length-h:=by
  have:=congrArg List.length hZ
  rw[List.length_drop,List.length_drop,List.length_take] at this
  omega
 rw[show g.length+1-h=(g.length-h)+1 by omega,U0] at hR
 refine sW ?_
 refine sR ?_
 refine sS (λq1=>?_) λq1=>?_
 ·have q1:lo<hi:=sO
  have hhM:h<M.length:=zo
  rw[if_pos hhM] at hR
  have hx:=hI.rng _ (xo hhM)
  have eN:(M.getD h (0,0)).1=yq M h:=rfl
  rw[eN] at hx
  have hd:(yi M).drop h=yq M h::(yi M).drop (h+1):=by
   rw[List.drop_eq_getElem_cons zo]
   unfold yq yi
   rw[List.getElem_map,List.getD_eq_getElem?_getD,List.getElem?_eq_getElem hhM]
   rfl
  rw[zrs q1 hhi,hd] at hZ
  obtain⟨hz1,hz2⟩:=List.cons.inj hZ
  refine sB ?_
  refine⟨_,yb (l:=Z) (k:=lo) zo zo,?_⟩
  refine sW ?_
  rw[hz1]
  refine⟨zo,zo,zo,?_⟩
  refine sW ?_
  rw[show lo+(hi-lo)=hi by omega]
  have hcx:=hcl (yq M h) hx.1 hx.2
  have en1:yq M h=YE M (h+1):=by unfold YE;rw[if_neg zo];rfl
  generalize hxe:yq M h=x at *
  refine sN hcx ?_
  cases hto:to x.toNat
  ·rw[hto,if_neg zc] at hR
   refine sW ?_
   subst hsd
   unfold u6 z8
   refine sW ?_
   refine sL (wG (g:=g) (k:=x.toNat) zo zo) ?_
   rw[List.length_map]
   have hrow:=λy hy=>ye (y9 hin0 x.toNat) (x:=y) hy
   have hrl:=hF.at x.toNat
   generalize g.getD x.toNat []=row at *
   refine zZ [0,2,3,4,11,17,74,75] (λ((k,M',Z',lo',hi',ver'):Nat × List Pr × List Int × Nat × Nat × Nat)=>[(12,.own 3 ver' lo' hi'),(76,.sc (.int .i64 k))]) (λ(k,M',Z',lo',hi',ver')=>[.vec true v0 1 (zI Z0),.row true [UY g.length to],.xL true (uA Tryz.prog 3 (fI M')),.vec true ver' 1 (zI Z')])
    (λ(k,M',Z',lo',hi',ver')=>k≤row.length∧Zf g (XD g only) from_ M'∧h<M'.length∧yq M' h=x∧lo'≤hi'∧hi'≤Z'.length∧(Z'.take hi').drop lo'=(yi M').drop (h+1)∧Wd (XD g only) x (row.drop k) M'=Wd (XD g only) x row M) (λ(k,M',Z',lo',hi',ver')=>row.length-k) (0,M,Z,lo+1,hi,zW) ?_
   refine sW ?_
   refine⟨⟨zo,hI,hhM,hxe,zo,hhi,hz2,rfl⟩,by exact sK,rfl,?_⟩
   rintro⟨k,M',Z',lo',hi',ver'⟩ ⟨hk,hI',hhM',hx',hlo',hhi',hZ',hA'⟩
   have hMl':=hI'.len
   have hKl':=qX M'
   have hZl':hi'-lo'=M'.length-(h+1):=by
    have:=congrArg List.length hZ'
    rw[List.length_drop,List.length_drop,List.length_take] at this
    omega
   refine sW ?_
   refine sR ?_
   refine sS (λq2=>?_) λq2=>?_
   ·have q2:k<row.length:=sO
    have hy:=hrow _ (yr q2)
    refine sL (yb (l:=row) (k:=k) zo q2) ?_
    rw[Y2 q2,Wd] at hA'
    generalize row.getD k 0=y at *
    refine⟨fI M',rfl,hkd,hkey y hy,λv hv=>?_,λhv=>?_⟩
    ·have hc:¬(yi M').contains y=false:=λe=>by
      have:=(zb7 (xp e)).symm.trans hv
      cases this
     rw[if_neg λq=>hc q.1] at hA'
     refine sW ?_
     refine sI ?_
     refine⟨(k+1,M',Z',lo',hi',ver'),⟨zo,hI',hhM',hx',hlo',hhi',hZ',hA'⟩,zd,?_⟩
     exact zC (by exact sK) rfl
    ·have hc:(yi M').contains y=false:=by
      cases e:(yi M').contains y
      ·rfl
      ·obtain⟨v,h⟩:=zhB hI'.nd (List.contains_iff_mem.1 e)
       have:=hv.symm.trans h
       cases this
     have eok:XD g only y.toNat=(decide (only<0)||zH g y.toNat==only):=rfl
     refine sW ?_
     refine sS (λr=>?_) λr=>?_
     ·rw[r,Bool.true_or] at eok
      rw[if_pos ⟨hc,eok⟩] at hA'
      have hI2:=hI'.push hy (xp hc) (.inr ⟨h,hhM',hx'.symm⟩) (.inr eok)
      refine⟨fI M',rfl,hkd,hkey y hy,hv,?_⟩
      refine sW ?_
      refine sJ ?_
      refine sI ?_
      refine⟨(k+1,M'++[(y,x)],(Z'.take hi').drop lo'++[y],0,hi'-lo'+1,ver'+1),⟨zo,hI2,by simp;omega,by rw[ZE hhM'];exact hx',zo,by simp;omega,?_,hA'⟩,zd,?_⟩
      ·rw[List.drop_zero,List.take_of_length_le (by simp;omega),hZ',Xd,List.drop_append_of_le_length zo]
      ·dsimp only
       rw[UE]
       (refine zj 4 zs rfl ?_ ?_<;>(repeat' (first|exact trivial|exact rfl|exact ya.refl _|exact zP.refl _|exact zJ.refl _|refine And.intro ?_ ?_|(simp[zp,zl,zD,-List.map_take,-List.map_drop];done))))
       all_goals first|exact zk Yq|exact zt _ hp|exact zt _ hcp|(simp;done)|skip
     ·refine sL (zT y.toNat zo zo) ?_
      rw[r,Bool.false_or] at eok
      refine sS (λr2=>?_) λr2=>?_
      ·have r2:(zH g y.toNat==only)=true:=r2
       rw[r2] at eok
       rw[if_pos ⟨hc,eok⟩] at hA'
       have hI2:=hI'.push hy (xp hc) (.inr ⟨h,hhM',hx'.symm⟩) (.inr eok)
       refine⟨fI M',rfl,hkd,hkey y hy,hv,?_⟩
       refine sW ?_
       refine sJ ?_
       refine sI ?_
       refine⟨(k+1,M'++[(y,x)],(Z'.take hi').drop lo'++[y],0,hi'-lo'+1,ver'+1),⟨zo,hI2,by simp;omega,by rw[ZE hhM'];exact hx',zo,by simp;omega,?_,hA'⟩,zd,?_⟩
       ·rw[List.drop_zero,List.take_of_length_le (by simp;omega),hZ',Xd,List.drop_append_of_le_length zo]
       ·dsimp only
        rw[UE]
        (refine zj 4 zs rfl ?_ ?_<;>(repeat' (first|exact trivial|exact rfl|exact ya.refl _|exact zP.refl _|exact zJ.refl _|refine And.intro ?_ ?_|(simp[zp,zl,zD,-List.map_take,-List.map_drop];done))))
        all_goals first|exact zk Yq|exact zt _ hp|exact zt _ hcp|(simp;done)|skip
      ·have r2:(zH g y.toNat==only)=false:=r2
       rw[r2] at eok
       rw[if_neg λq=>by rw[eok] at q;cases q.2] at hA'
       refine sI ?_
       refine⟨(k+1,M',Z',lo',hi',ver'),⟨zo,hI',hhM',hx',hlo',hhi',hZ',hA'⟩,zd,?_⟩
       exact zC (by exact sK) rfl
   ·have q2:k=row.length:=by have:¬k<row.length:=sO
                             omega
    subst q2
    rw[List.drop_length] at hA'
    have hA':M'=Wd (XD g only) x row M:=hA'
    rw[←hA'] at hR
    refine⟨(h+1,M',Z',lo',hi',ver'),⟨hI',zo,hlo',hhi',hZ',by rw[show g.length+1-(h+1)=g.length-h by omega];exact hR⟩,zd,?_⟩
    exact zC (by exact sK) rfl
  ·rw[hto,if_pos rfl] at hR
   subst hR
   refine sW ?_
   generalize hB0:ux M (M.length+1) x=B
   refine zE (y8 18 1 zs rfl) ?_
   refine zZ [11] (λ((f,t,o):Nat × Nat × List Int)=>[(17,.sc (.int .i64 (YE M t))),(18,.own 4 o.length 0 o.length)]) (λ(f,t,o)=>[.vec true v0 1 (zI Z0),.row true [UY g.length to],.xL true (uA Tryz.prog 3 (fI M)),.vec true zW 1 (zI Z),.vec true o.length 1 (zI o)])
    (λ(f,t,o)=>t≤f∧t≤M.length∧o.length+t≤M.length+1∧o++ux M f (YE M t)=B) (λ(f,t,o)=>t) (M.length+1,h+1,[]) ?_
   refine sW ?_
   refine⟨⟨zo,zo,by simp;omega,by rw[←en1];exact hB0⟩,⟨by show D.sc (.int .i64 x)=_;rw[en1],by exact sK⟩,rfl,?_⟩
   rintro⟨f,t,o⟩ ⟨hf1,ht,ho,hB⟩
   refine sW ?_
   refine sR ?_
   refine sS (λq2=>?_) λq2=>?_
   ·have t0:0<t:=by
     rcases Nat.eq_zero_or_pos t with e|e
     ·subst e;simp[YE] at q2
     ·exact e
    obtain⟨t',k1,k2,k3,k4,k5⟩:=hI.up t0 ht
    have eA:YE M t=yq M (t-1):=by unfold YE;rw[if_neg zo]
    obtain⟨f',rfl⟩:∃f',f=f'+1:=⟨f-1,zo⟩
    rw[ux,if_neg zo,k2] at hB
    have hlook:fI M (.int .i64 (YE M t))=some (.int .i64 (YE M t')):=by rw[eA,zqe hI.nd zo,k3]
    refine sJ ?_
    refine⟨fI M,rfl,hkd,hkey _ ⟨k4,k5⟩,_,hlook,?_⟩
    refine sW ?_
    refine⟨(f',t',o++[YE M t]),⟨zo,zo,by simp;omega,by rw[List.append_assoc];exact hB⟩,zd,?_⟩
    dsimp only
    rw[show(o++[YE M t]).length=o.length+1 by simp]
    (refine zj 5 zs rfl ?_ ?_<;>(repeat' (first|exact trivial|exact rfl|exact ya.refl _|exact zP.refl _|exact zJ.refl _|refine And.intro ?_ ?_|(simp[zp,zl,zD,-List.map_take,-List.map_drop];done))))
    all_goals first|exact zk (xB o _)|skip
   ·have t0:t=0:=by
     rcases Nat.eq_zero_or_pos t with e|e
     ·exact e
     ·obtain⟨t',k1,k2,k3,k4,k5⟩:=hI.up e ht
      exfalso;simp at q2;omega
    subst t0
    have hB:o=B:=by
     rw[←hB]
     cases f<;>simp[ux,YE]
    subst hB
    refine sA (vg (zbF o zo o.length) [.vec true v0 1 (zI Z0),.row true [UY g.length to],.xL true (uA Tryz.prog 3 (fI M)),.vec true zW 1 (zI Z)] [] rfl (by simp[zl,zp]) (by simp[wq,zf.under]) (by simp only[yG,D.yy];rfl) rfl (by simp only[List.map_cons,List.map_nil,zf.yy,qb];rfl) (by simp only[List.map_cons,List.map_nil,zf.yy,qb];rfl)) ?_
    have hEE:Xk g to (XD g only) from_=o.reverse:=by
     rw[hWE]
     show(ux M (M.length+1) (yq M h)).reverse=_
     rw[hxe,hB0]
    rw[hEE]
    exact⟨.own _ _ _ _ _ _ _ _ rfl rfl (zk (by rw[List.drop_zero,List.take_of_length_le (by simp[zI])];rfl)),yN _ [_,_,_] hUO⟩
 ·have h0:hi=lo:=sO
  have hhM:¬h<M.length:=zo
  rw[if_neg hhM] at hR
  subst hR
  rw[hWE]
  exact⟨.none _,yN _ [_,_] hUO⟩
end
section
open Go.RowKit
def yD (l:List Int):Int:=l.getD (l.length-1) 0
theorem zaK (l:List Int) (x:Int):yD (l++[x])=x:=by
 unfold yD
 rw[List.length_append,List.length_singleton,Nat.add_sub_cancel,List.getD_eq_getElem?_getD,List.getElem?_append_right (Nat.le_refl _),Nat.sub_self]
 rfl
theorem za1 {l:List Int} (h:l≠[]):yD l∈l:=by
 have:=List.length_pos_iff.2 h
 unfold yD
 rw[List.getD_eq_getElem?_getD,List.getElem?_eq_getElem zo]
 simp
noncomputable def vn (g:List (List Int)) (F:List (Nat→Bool)) (e:Nat):Nat→List Int
 | 0=>[(e:Int)]
 | k+1=>if (vn g F e k).any (λx=>(F.getD k noT) x.toNat)=true then vn g F e k else vn g F e k++(Xk g (F.getD k noT) (XD g (zH g e)) [yD (vn g F e k)]).drop 1
def toE (e:Nat):Nat→Bool:=λk=>((k:Nat):Int)==(e:Int)
noncomputable def Vj (g:List (List Int)) (o:List Int) (e:Nat) (k:Nat):List Int:=((g.getD (yD o).toNat []).take k).filter λx=>zH g x.toNat==zH g e
noncomputable def VS (g:List (List Int)) (o:List Int) (e:Nat):List Int:=Xk g (toE e) (XD g (zH g e)) (Vj g o e (g.getD (yD o).toNat []).length)
noncomputable def Vs (g:List (List Int)) (F:List (Nat→Bool)) (e:Nat):List Int :=
 vn g F e F.length++(VS g (vn g F e F.length) e).take ((VS g (vn g F e F.length) e).length-1)
structure RH (g:List (List Int)) (F:List (Nat→Bool)) (e:Nat):Prop where
 he:e<g.length
 yT:∀l∈g,xv l g.length=true
 nt:Uo g e
 has:∀S∈F,∃d,d<g.length∧S d=true∧zH g d=zH g e
theorem zmU {g:List (List Int)} {e v:Nat} (he:e<g.length):XD g (zH g e) v=true↔zH g v=zH g e:=by
 have:=(VQ he).1
 unfold XD
 rw[decide_eq_false (show ¬zH g e<0 by omega),Bool.false_or,beq_iff_eq]
theorem zdn {g:List (List Int)} (yT:∀l∈g,xv l g.length=true) (v:Nat) (x:Int) (hx:x∈g.getD v []):0≤x∧x.toNat<g.length:=by
 have:=ye (y9 yT v) hx;omega
theorem zvV {g:List (List Int)} (yT:∀l∈g,xv l g.length=true) {u v:Nat} (hu:u<g.length) (h:To g u v):v<g.length:=zjv (λv x hx=>(zdn yT v x hx).2) hu h
theorem zmo {g:List (List Int)} (yT:∀l∈g,xv l g.length=true) {e a b:Nat} (he:e<g.length) (ha:a<g.length) (hb:b<g.length) (h1:zH g a=zH g e) (h2:zH g b=zH g e):To (zjM g (XD g (zH g e))) a b:=by
 obtain⟨m1,m2⟩:=xx.1 ((parts_eq ha hb).1 (h1.trans h2.symm))
 have key:∀v,To g a v→To g v a→To (zjM g (XD g (zH g e))) a v:=by
  intro v hv
  induction hv with
  | base m=>intro _;exact .base m
  | step k hx ih =>
   rename_i u x
   intro hba
   have hu:=ih (xO (u5 hx) hba)
   refine .step hu (zdL.2 ⟨hx,(zmU he).2 ?_⟩)
   have hul:=zvV yT ha k
   have hxl:=(zdn yT u x hx).2
   rw[(parts_eq hxl ha).2 (xx.2 ⟨hba,.step k hx⟩),h1]
 exact key b m1 m2
structure zbv (g:List (List Int)) (e:Nat) (o:List Int):Prop where
 ne:o≠[]
 rng:xv o g.length=true
 last:zH g (yD o).toNat=zH g e
theorem zbv.lt {g:List (List Int)} {e:Nat} {o:List Int} (h:zbv g e o):0≤yD o∧yD o<(g.length:Int):=ye h.rng (za1 h.ne)
theorem zcZ {l m:List Int} {n:Nat} (h:xv l n=true) (k:xv m n=true):xv (l++m) n=true:=xN λx hx=>(List.mem_append.1 hx).elim (ye h) (ye k)
theorem zbv.Vi {g:List (List Int)} {F:List (Nat→Bool)} {e:Nat} {o:List Int} (H:RH g F e) (h:zbv g e o) {S:Nat→Bool} (hS:S∈F) :
  zbv g e (o++(Xk g S (XD g (zH g e)) [yD o]).drop 1)∧(Xk g S (XD g (zH g e)) [yD o])≠[]∧(Xk g S (XD g (zH g e)) [yD o]).length≤g.length:=by
 have hl:=h.lt
 obtain⟨w1,w2,w3⟩:=zho H.yT S (XD g (zH g e)) (from_:=[yD o]) (xN λx hx=>by rw[List.mem_singleton] at hx;subst hx;exact hl)
 obtain⟨d,d1,d2,d3⟩:=H.has S hS
 obtain⟨init,last,e1,e2,e3⟩:=w3 ⟨yD o,zs,d,zmo H.yT H.he zo d1 h.last d3,d2⟩
 refine⟨⟨by simp[h.ne],zcZ h.rng (xN λx hx=>ye w1 (List.mem_of_mem_drop hx)),?_⟩,by rw[e1];simp,w2⟩
 cases init with
 | nil=>rw[e1];simp[h.last]
 | cons a r =>
  rw[e1,List.cons_append,List.drop_succ_cons,List.drop_zero,←List.append_assoc,zaK]
  rcases e3 with q|q
  ·rw[List.mem_singleton] at q;rw[q];exact h.last
  ·exact(zmU H.he).1 q
theorem zdQ {g:List (List Int)} {F:List (Nat→Bool)} {e:Nat} (H:RH g F e):∀k,k≤F.length→zbv g e (vn g F e k)∧(vn g F e k).length≤1+k*g.length
 | 0,_=>by
  have:=H.he
  exact⟨⟨by simp[vn],xN λx hx=>by simp[vn] at hx;omega,by simp[vn,yD]⟩,by simp[vn]⟩
 | k+1,hk=>by
  obtain⟨h1,h2⟩:=zdQ H k zo
  rw[vn]
  have:(k+1)*g.length=k*g.length+g.length:=by rw[Nat.add_mul,Nat.one_mul]
  split
  ·exact⟨h1,zo⟩
  ·have hS:F.getD k noT∈F:=by rw[List.getD_eq_getElem?_getD,List.getElem?_eq_getElem (show k<F.length by omega)];simp
   obtain⟨a,b,c⟩:=h1.Vi H hS
   refine⟨a,?_⟩
   rw[List.length_append,List.length_drop]
   omega
theorem zbv.home {g:List (List Int)} {F:List (Nat→Bool)} {e:Nat} {o:List Int} (H:RH g F e) (h:zbv g e o):xv (Vj g o e (g.getD (yD o).toNat []).length) g.length=true∧VS g o e≠[]∧xv (VS g o e) g.length=true∧(VS g o e).length≤g.length:=by
 have hl:=h.lt
 have hT:xv (Vj g o e (g.getD (yD o).toNat []).length) g.length=true:=xN λx hx=>ye (y9 H.yT _) (List.mem_of_mem_take (List.mem_filter.1 hx).1)
 obtain⟨w1,w2,w3⟩:=zho H.yT (toE e) (XD g (zH g e)) hT
 have hlt:(yD o).toNat<g.length:=zo
 obtain⟨m1,m2⟩:=xx.1 ((parts_eq hlt H.he).1 h.last)
 obtain⟨x,x1,x2⟩:=zbd H.nt m2 m1
 have hx:=zdn H.yT _ x x1
 have hpx:zH g x.toNat=zH g e:=by rw[(parts_eq hx.2 hlt).2 (xx.2 ⟨x2,u5 x1⟩),h.last]
 obtain⟨init,last,e1,_,_⟩:=w3 ⟨x,List.mem_filter.2 ⟨by rw[List.take_length];exact x1,by rw[hpx];simp⟩,e,zmo H.yT H.he hx.2 H.he hpx rfl,by simp[toE]⟩
 exact⟨hT,by unfold VS;rw[e1];simp,w1,w2⟩
theorem zmH {g:List (List Int)} {F:List (Nat→Bool)} {e:Nat} (H:RH g F e):xv (Vs g F e) g.length=true∧(Vs g F e).length≤1+F.length*g.length+g.length:=by
 obtain⟨h1,h2⟩:=zdQ H F.length (Nat.le_refl _)
 obtain⟨_,_,h4,h5⟩:=h1.home H
 refine⟨zcZ h1.rng (xN λx hx=>ye h4 (List.mem_of_mem_take hx)),?_⟩
 unfold Vs
 rw[List.length_append,List.length_take]
 omega
end
section
open Go.RowKit
theorem zgv (o l:List Int) (a b:Nat):List.drop 0 (List.take o.length (zI o))++List.drop a (List.take b (zI l))=zI (o++(l.take b).drop a):=by
 rw[zr (by simp[zI])]
 simp[zI,List.map_drop,List.map_take]
theorem zcC (l:List Int):yv (zI l):=zB _ (λ_=>by simp[ze,Pure]) l
def c177:PC:=.seq (OP [Mv 3 cF]) (.seq (OP [Lo 4 1,qm 5 0,Ia 6 1 4 5,Lo 7 6,qm 3 7]) .ret)
theorem zr3:zz Tryz.prog 177 8 [.tmp 3] c177:=fK Tryz.func177
theorem zpb (n:Nat) (S:Nat→Bool) (x:Int) (h0:0≤x) (hx:x<(n:Int)):zu Tryz.prog 177 [.sc (.int .i64 x),.xk [UY n S]] (.sc (.bool (S x.toNat))):=by
 refine zb zr3 zs (by simp[ze,Pure,xm]) ?_ (by simp[Pure])
 unfold UY
 refine sR ?_
 refine sL (y6 x.toNat zo zo) ?_
 exact .refl _
def c178:PC:=.seq (OP [Mv 3 cF]) (.seq (OP [Lo 4 1,qm 5 0,Ia 6 1 4 5,Lo 7 6,qm 3 7]) .ret)
theorem ztP:zz Tryz.prog 178 8 [.tmp 3] c178:=fK Tryz.func178
theorem zrB (n:Nat) (S:Nat→Bool) (x:Int) (h0:0≤x) (hx:x<(n:Int)):zu Tryz.prog 178 [.sc (.int .i64 x),.xk [UY n S]] (.sc (.bool (S x.toNat))):=by
 refine zb ztP zs (by simp[ze,Pure,xm]) ?_ (by simp[Pure])
 unfold UY
 refine sR ?_
 refine sL (y6 x.toNat zo zo) ?_
 exact .refl _
def c179:PC:=.seq (OP [Mv 3 cF]) (.seq (OP [qm 4 0,Lo 5 1,Bi 6 .eql 4 5,qm 3 6]) .ret)
theorem ztT:zz Tryz.prog 179 7 [.tmp 3] c179:=fK Tryz.func179
theorem zt0 (e:Nat) (x:Int) (h0:0≤x):zu Tryz.prog 179 [.sc (.int .i64 x),.xk [.sc (.int .i64 e)]] (.sc (.bool (toE e x.toNat))):=by
 refine zb ztT zs (by simp[ze,Pure]) ?_ (by simp[Pure])
 refine sR ?_
 exact yu (by unfold toE;rw[Int.toNat_of_nonneg h0])
def c106:PC:=.seq (OP [Mv 4 cF]) (.seq (.ops [Lo 5 1,qm 6 0,qd 7 (.zM 1 5 6) 3,qd 8 (.zi 7) 7,Lo 9 2,qd 10 (.bin .eql 8 9) 31,qw 4 10 63] true) .ret)
theorem zuK:zz Tryz.prog 106 11 [.tmp 4] c106:=fK Tryz.func106
theorem zoG (g:List (List Int)) (p:Int) (x:Int) (h0:0≤x) (hx:x<(g.length:Int)):zu Tryz.prog 106 [.sc (.int .i64 x),.xk [zw (uN g)],.xk [.sc (.int .i64 p)]] (.sc (.bool (zH g x.toNat==p))):=by
 refine zb zuK zs (by simp[ze,Pure,zh]) ?_ (by simp[Pure])
 unfold uN zw
 refine sR ?_
 refine sL (zT x.toNat zo zo) ?_
 exact .refl _
theorem zlq {g:List (List Int)} {o:List Int} {e k:Nat} (h:k<(g.getD (yD o).toNat []).length):Vj g o e (k+1)=if (zH g ((g.getD (yD o).toNat []).getD k 0).toNat==zH g e)=true then Vj g o e k++[(g.getD (yD o).toNat []).getD k 0] else Vj g o e k:=by
 unfold Vj
 rw[List.take_add_one,List.getElem?_eq_getElem h,List.filter_append,List.getD_eq_getElem?_getD (l:=g.getD (yD o).toNat []),List.getElem?_eq_getElem h]
 simp only[Option.toList_some,Option.getD_some,List.filter_cons,List.filter_nil]
 split<;>simp
theorem zoO (g:List (List Int)) (o:List Int) (e k:Nat):(Vj g o e k).length≤k:=Nat.le_trans (List.length_filter_le _ _) (by simp;omega)
def zwV:PC:=.seq (OP [Bi 27 .lss 26 25]) (.seq (.cond 27 .skip (.exit 0)) (.seq (.block 1 (.seq (OP [Ia 28 1 24 26,Lo 29 28,q 12 (.alloc [(.slice none 0 0)]),So 1 12 29]) (.seq (.seq (OP [qm 30 10,q 31 (.ZP (.func 177) [] [12]),Ca 32 27 [30,31]]) (.cond 32 (.exit 1) .skip)) (.seq (OP [qm 33 0,qm 34 10,qm 35 10,Ln 36 35,Bi 37 .sub 36 (cI 1),q 38 (.slc 1 34 (some 37) none none),q 39 (.ZP (.func 178) [] [12]),qm 40 2,qm 41 9,Ca 42 105 [33,38,39,40,41],qm 13 42]) (OP [qm 43 10,qm 44 13,q 45 (.slc 1 44 (some (cI 1)) none none),Ap 46 1 8 43 45,qm 10 46]))))) (OP [Bi 47 .add 26 (cI 1),qm 26 47])))
def zyy:PC:=.seq (OP [Bi 62 .lss 61 60]) (.seq (.cond 62 .skip (.exit 2)) (.seq (.block 3 (.seq (OP [Ia 63 1 59 61,Lo 64 63,qm 16 64]) (.seq (OP [qm 65 2,qm 66 16,Ia 67 1 65 66,Lo 68 67,qm 69 9,Bi 70 .eql 68 69]) (.cond 70 (OP [qm 71 14,qm 72 16,Bs 73 1 1 [72],Ap 74 1 8 71 73,qm 14 74]) .skip)))) (OP [Bi 75 .add 61 (cI 1),qm 61 75])))
def c107:PC:=.seq (OP [Bx 5 1,Mv 8 cN]) (.seq (OP [qm 18 2,Lo 19 5,Ia 20 1 18 19,Lo 21 20,qm 9 21]) (.seq (OP [Lo 22 5,Bs 23 1 1 [22],qm 10 23]) (.seq (.seq (OP [qm 24 3,Ln 25 24,Mv 26 (cI 0)]) (.block 0 (.loop zwV))) (.seq (OP [Mv 14 cN]) (.seq (.seq (.ops [qm 48 0,qd 49 (.zm 48) 1,qd 50 (.zv 11 49) 3,qd 51 (.zi 50) 7,qm 52 10,qm 53 10,qd 54 (.len 53) 32,qd 55 (.bin .sub 54 (cI 1)) 96,qd 56 (.zM 1 52 55) 240,qd 57 (.zi 56) 496,qd 58 (.zM 1 51 57) 1023,qd 59 (.zi 58) 2047,qd 60 (.len 59) 4095,Mv 61 (cI 0)] true) (.block 2 (.loop zyy))) (.seq (OP [qm 76 0,qm 77 14,q 78 (.ZP (.func 179) [] [5]),qm 79 2,qm 80 9,Ca 81 105 [76,77,78,79,80],qm 17 81]) (.seq (OP [qm 82 10,qm 83 17,qm 84 17,Ln 85 84,Bi 86 .sub 85 (cI 1),q 87 (.slc 1 83 none (some 86) none),Ap 88 1 8 82 87,qm 8 88]) .ret)))))))
theorem zsq:zz Tryz.prog 107 89 [.tmp 8] c107:=fK Tryz.func107
theorem zq0 (W:zK) (A:z7) (L:List Pr) (g:List (List Int)) (fr:List Int) (hn:g.length≤2000000) (hF:qV g) (F:List (Nat→Bool)) (hFl:F.length≤1000) (e:Nat) (H:RH g F e) :
  zu Tryz.prog 107 [.xk (u6 W A L g fr),.sc (.int .i64 e),zw (uN g),zkn g.length F] (zw (Vs g F e)):=by
 have hp:=qH W A L g fr
 have he:=H.he
 have hpe:=VQ he
 refine zb zsq zs (by simp[ze,Pure,zh,hp,zaU]) ?_ (zh _)
 obtain⟨sd,hsd⟩:∃sd:D,sd=.xk (u6 W A L g fr):=⟨_,rfl⟩
 have hsl:ze [sd]:=by subst hsd;exact⟨Z1 hp,trivial⟩
 have hsr:∀ρ,D.yy ρ sd=sd:=λρ=>yx _ hsl.1
 rw[←hsd]
 unfold zkn
 refine sR ?_
 refine sL (zT e zo he) ?_
 rw[List.length_map]
 refine zZ [0,2,5,9,24,25] (λ((k,zW):Nat × Nat)=>[(10,.own 1 zW 0 (vn g F e k).length),(26,.sc (.int .i64 k))]) (λ(k,zW)=>[.row true [.sc (.int .i64 e)],.vec true zW 1 (zI (vn g F e k))]) (λ(k,zW)=>k≤F.length) (λ(k,zW)=>F.length-k) (0,0) ?_
 refine sW ?_
 refine⟨zo,by exact sK,rfl,?_⟩
 rintro⟨k,zW⟩ hk
 obtain⟨hO,hOl⟩:=zdQ H k hk
 have hOl2:(vn g F e k).length≤4000000000:=by
  have:=Nat.mul_le_mul (show k≤1000 by omega) hn
  omega
 have hOn:=List.length_pos_iff.2 hO.ne
 have eR:vn g F e (k+1)=if (vn g F e k).any (λx=>(F.getD k noT) x.toNat)=true then vn g F e k else vn g F e k++(Xk g (F.getD k noT) (XD g (zH g e)) [yD (vn g F e k)]).drop 1:=rfl
 refine sW ?_
 refine sR ?_
 refine sS (λq0=>?_) λq0=>?_
 ·have q0:k<F.length:=sO
  have hS:F.getD k noT∈F:=by rw[List.getD_eq_getElem?_getD,List.getElem?_eq_getElem q0];simp
  refine⟨zo,_,zmO (n:=g.length) (F:=F) (k:=k) zo q0,?_⟩
  obtain⟨_,hw2,hw3⟩:=hO.Vi H hS
  generalize F.getD k noT=S at *
  refine sW ?_
  generalize hoe:vn g F e k=o at *
  have hC:=xa (λn=>.sc (.int .i64 n)) (λa=>by simp[Pure]) o zo (λx=>S x.toNat) 177 [.xk [UY g.length S]] (by simp[ze,Pure,xm]) λa ha=>zpb g.length S a (ye hO.rng ha).1 (ye hO.rng ha).2
  rw[show(o.map λn=>[D.sc (.int .i64 n)])=List.drop 0 (List.take o.length (zI o)) from(zr (by simp[zI])).symm] at hC
  refine sN hC ?_
  cases r:o.any (λx=>S x.toNat)
  ·rw[r,if_neg zc] at eR
   refine sW ?_
   refine sI ?_
   refine⟨zo,zo,zo,?_⟩
   refine sW ?_
   have hWy:=zt7 W A L g fr hn H.yT hF S 178 (λx h1 h2=>zrB g.length S x h1 h2) o zW hOn zo [yD o] rfl (xN λx hx=>by rw[List.mem_singleton] at hx;subst hx;exact hO.lt) (zH g e)
   rw[←hsd] at hWy
   generalize Xk g S (XD g (zH g e)) [yD o]=l at *
   have hln:=List.length_pos_iff.2 hw2
   rw[show 0+(((o.length-0:Nat):Int)-1).toNat=o.length-1 by omega,show 0+(o.length-0)=o.length by omega]
   refine sA (vg hWy [.row true [.sc (.int .i64 e)]] [] rfl (by simp[zl,zp,zq _ hsl.1]) ⟨zg _ (zcC _),zt _ ⟨xm _ _,trivial⟩,trivial⟩ (by simp only[yG,D.yy,hsr,vi];rfl) (vi _) (by simp only[List.map_cons,List.map_nil,zf.yy,qb,yG,yx _ (xm _ _)];rfl) (by simp only[List.map_cons,List.map_nil,zf.yy,qb,yG,yx _ (xm _ _)];rfl)) ?_
   rw[List.length_map]
   refine⟨zo,zo,zo,?_⟩
   refine sW ?_
   refine sJ ?_
   refine sI ?_
   refine⟨(k+1,zW+1),zo,zd,?_⟩
   dsimp only
   rw[eR]
   have hle:(o++l.drop 1).length=o.length+(l.length-1):=by rw[List.length_append,List.length_drop]
   rw[hle,show(List.drop (Int.toNat 1) (List.take l.length (List.map (λn=>[D.sc (Value.int .i64 n)]) l))).length=l.length-1 by simp]
   (refine zj 2 zs rfl ?_ ?_<;>(repeat' (first|exact trivial|exact rfl|exact ya.refl _|exact zP.refl _|exact zJ.refl _|refine And.intro ?_ ?_|(simp[zp,zl,zD,-List.map_take,-List.map_drop];done))))
   all_goals first|exact zq _ hsl.1|exact zg _ (zB _ (λS=>by simp[ze,xm]) F)|exact zk (by have:=zgv o l 1 l.length;rw[List.take_length] at this;exact this)|skip
  ·rw[r,if_pos rfl] at eR
   refine sW ?_
   refine sI ?_
   refine⟨(k+1,zW),zo,zd,?_⟩
   dsimp only
   rw[eR]
   (refine zj 2 zs rfl ?_ ?_<;>(repeat' (first|exact trivial|exact rfl|exact ya.refl _|exact zP.refl _|exact zJ.refl _|refine And.intro ?_ ?_|(simp[zp,zl,zD,-List.map_take,-List.map_drop];done))))
   all_goals first|exact zq _ hsl.1|exact zg _ (zB _ (λS=>by simp[ze,xm]) F)|skip
 ·have q0:k=F.length:=by have:¬k<F.length:=sO
                         omega
  subst q0
  have eE:Vs g F e=vn g F e F.length++(VS g (vn g F e F.length) e).take ((VS g (vn g F e F.length) e).length-1):=rfl
  subst hsd
  unfold u6 z8
  refine sW ?_
  obtain⟨ht1,hh1,hh2,hh3⟩:=hO.home H
  have hlt:=hO.lt
  refine sI ?_
  refine sB ?_
  generalize hoe:vn g F e F.length=o at *
  refine⟨_,yb (l:=o) (k:=o.length-1) zo zo,?_⟩
  refine sW ?_
  rw[show o.getD (o.length-1) 0=yD o from rfl]
  refine sL (wG (g:=g) (k:=(yD o).toNat) zo zo) ?_
  rw[List.length_map]
  have hrl:=hF.at (yD o).toNat
  have eT:=λk hk=>zlq (g:=g) (o:=o) (e:=e) (k:=k) hk
  have hTl:=λk=>zoO g o e k
  have hrow:=λy hy=>ye (y9 H.yT (yD o).toNat) (x:=y) hy
  have hhE:VS g o e=Xk g (toE e) (XD g (zH g e)) (Vj g o e (g.getD (yD o).toNat []).length):=rfl
  have hT0:Vj g o e 0=[]:=by simp[Vj]
  generalize g.getD (yD o).toNat []=row at *
  generalize Vj g o e=T at *
  refine zE (y8 14 1 zs rfl) ?_
  refine zZ [0,2,5,9,10,59,60] (λ((k,c):Nat × Nat)=>[(14,.own 2 c 0 c),(61,.sc (.int .i64 k))]) (λ(k,c)=>[.row true [.sc (.int .i64 e)],.vec true zW 1 (zI o),.vec true c 1 (zI (T k))]) (λ(k,c)=>k≤row.length∧(T k).length=c) (λ(k,c)=>row.length-k) (0,0) ?_
  refine sW ?_
  refine⟨⟨zo,by rw[hT0];rfl⟩,by exact sK,by dsimp only;rw[hT0,←hoe];rfl,?_⟩
  rintro⟨k,c⟩ ⟨hk,hc⟩
  have hTk:=hTl k
  refine sW ?_
  refine sR ?_
  refine sS (λq1=>?_) λq1=>?_
  ·have q1:k<row.length:=sO
   have hy:=hrow _ (yr q1)
   have eS:=eT k q1
   refine sL (yb (l:=row) (k:=k) zo q1) ?_
   generalize row.getD k 0=y at *
   refine sL (zT y.toNat zo zo) ?_
   refine sS (λr2=>?_) λr2=>?_
   ·have r2:(zH g y.toNat==zH g e)=true:=r2
    rw[r2,if_pos rfl] at eS
    refine sJ ?_
    refine sI ?_
    refine⟨(k+1,c+1),⟨zo,by rw[eS,List.length_append,hc];rfl⟩,zd,?_⟩
    dsimp only
    rw[eS]
    (refine zj 3 zs rfl ?_ ?_<;>(repeat' (first|exact trivial|exact rfl|exact ya.refl _|exact zP.refl _|exact zJ.refl _|refine And.intro ?_ ?_|(simp[zp,zl,zD,-List.map_take,-List.map_drop];done))))
    all_goals first|exact zt _ hp|exact zk (by rw[←hc,xB])|skip
   ·have r2:(zH g y.toNat==zH g e)=false:=r2
    rw[r2,if_neg zc] at eS
    refine sI ?_
    refine⟨(k+1,c),⟨zo,by rw[eS];exact hc⟩,zd,zC (by exact sK) ?_⟩
    dsimp only
    rw[eS]
  ·have q1:k=row.length:=by have:¬k<row.length:=sO
                            omega
   subst q1
   have hWy:=zpO W A L g fr hn H.yT hF (toE e) 179 [.xk [.sc (.int .i64 e)]] (by simp[ze,Pure]) (λx h1 _=>zt0 e x h1) (T row.length) zo ht1 (zH g e)
   rw[←hhE] at hWy
   generalize VS g o e=l at *
   have hln:=List.length_pos_iff.2 hh1
   refine sE (V2 (args0:=[.xk (u6 W A L g fr),.own 1 c 0 c,.fn (.func 179) [] [.loc 0 0],zw (uN g),.sc (.int .i64 (zH g e))]) (H0:=[.row true [.sc (.int .i64 e)],.vec true c 1 (zI (T row.length))])
    (.cons _ _ _ _ (.refl _) (.cons _ _ _ _ (.own _ _ _ _ _ _ _ _ rfl (by rw[zr (by simp[zI];omega)];exact zU _)) (.cons _ _ _ _ (.fn _ _ _ _ _ .nil (.cons _ _ _ _ (.loc _ _ _ _ _ rfl (xn _)) .nil)) (.cons _ _ _ _ (.refl _) (.cons _ _ _ _ (.refl _) .nil))))) hWy (zh _) [0,2] rfl zc (by simp[zl,zp,zt _ hp]) ⟨zt _ (by simp[ze,Pure]),zg _ (zcC _),trivial⟩ (by simp only[yG,D.yy,vi,xU _ hp];rfl) (λi o ho=>by
     rcases i with _|_|i
     ·simp at ho;subst ho;rfl
     ·simp at ho;subst ho;simp only[zf.yy,qb];rfl
     ·simp at ho)) ?_
   rw[List.length_map]
   refine sI ?_
   refine⟨zo,zo,zs,?_⟩
   refine sW ?_
   refine sJ ?_
   rw[eE]
   refine .own _ _ _ _ _ _ _ _ rfl ?_
   rw[show(((l.length:Nat):Int)-1).toNat=l.length-1 by omega]
   have hh:=zgv o l 0 (l.length-1)
   rw[List.drop_zero] at hh
   rw[show List.drop 0 (List.take o.length (zI o))++List.drop 0 (List.take (l.length-1) (List.map (λn=>[D.sc (Value.int .i64 n)]) l))=zI (o++l.take (l.length-1)) from hh]
   rw[zr (by simp[zI])]
   exact zU _
end
section
open Go.RowKit
def nxE (W:zK) (A:z7) (p:Pr):List Pr:=xP W A (W.next.getD p.1.toNat []) (A.next.getD p.2.toNat [])
structure Ui (W:zK) (A:z7):Prop where
 two:zko W A
 sw:W.start.length≤1048576
 sa:A.start.length≤1048576
 rw_:∀l∈W.next,l.length≤1048576
 ra:∀l∈A.next,l.length≤1048576
theorem Ui.next {W:zK} {A:z7} (h:Ui W A) (p:Pr):(∀q∈nxE W A p,vK W A q)∧(nxE W A p).length≤1099511627776:=by
 obtain⟨_,_,_,_,w5,_⟩:=vO W h.two.cw
 obtain⟨_,_,_,_,_,a6,_⟩:=Z3 A h.two.ca
 refine⟨zbs (y9 w5 _) (y9 a6 _),?_⟩
 have h1:=zcv W A (W.next.getD p.1.toNat []) (A.next.getD p.2.toNat [])
 have h2:=Nat.mul_le_mul (UJ h.rw_ p.1.toNat) (UJ h.ra p.2.toNat)
 unfold nxE
 omega
theorem Ui.begin {W:zK} {A:z7} (h:Ui W A):(∀q∈xP W A W.start A.start,vK W A q)∧(xP W A W.start A.start).length≤1099511627776:=by
 obtain⟨_,_,_,w4,_,_⟩:=vO W h.two.cw
 obtain⟨_,_,_,_,a5,_,_⟩:=Z3 A h.two.ca
 refine⟨zbs w4 a5,?_⟩
 have h1:=zcv W A W.start A.start
 have h2:=Nat.mul_le_mul h.sw h.sa
 omega
theorem UP {Q:Pr→Prop} {ps L:List Pr} {o:List Int} (h:∀p∈L,Q p) (k:∀p∈ps,Q p):∀p∈(ud ps L o).1,Q p:=λp hp=>((Wq ps L o p).1 hp).elim (h p) (k p)
theorem zlZ {W:zK} {A:z7} (h:Ui W A) {start:List Pr}:∀(f n:Nat) (L:List Pr) (T:List (List Int)),zcJ start (nxE W A) n L T→(∀p∈L,vK W A p)→W.next.length*A.next.length+2≤f+n →
  zbT start (nxE W A) (zbW (nxE W A) f n L T).1 (zbW (nxE W A) f n L T).2∧∀p∈(zbW (nxE W A) f n L T).1,vK W A p
 | 0,n,L,T,hI,hg,hf=>by have:=hI.le;have:=vK.le h.two hI.nd hg;omega
 | f+1,n,L,T,hI,hg,hf=>by
  rw[zbW]
  split
  ·rename_i q
   exact zlZ h f (n+1) _ _ (hI.next q) (UP hg (h.next _).1) zo
  ·rename_i q
   exact⟨hI.fin q,hg⟩
def yY (W:zK) (A:z7):List Pr × List Int:=ud (xP W A W.start A.start) [] []
def yW (W:zK) (A:z7):List Pr × List (List Int):=zbW (nxE W A) (W.next.length*A.next.length+2) 0 (yY W A).1 []
theorem XN {W:zK} {A:z7} (h:Ui W A):zbT (xP W A W.start A.start) (nxE W A) (yW W A).1 (yW W A).2∧∀p∈(yW W A).1,vK W A p :=
 zlZ h _ 0 _ [] (zcJ.begin _ _) (UP zs h.begin.1) zo
theorem zh9 (nx:Pr→List Pr):∀(f n:Nat) (L:List Pr) (T:List (List Int)),∃X,(zbW nx f n L T).1=L++X
 | 0,n,L,T=>⟨[],by simp[zbW]⟩
 | f+1,n,L,T=>by
  rw[zbW]
  split
  ·obtain⟨X,hX⟩:=WC (nx (L.getD n (0,0))) L []
   obtain⟨Y,hY⟩:=zh9 nx f (n+1) (ud (nx (L.getD n (0,0))) L []).1 (T++[(ud (nx (L.getD n (0,0))) L []).2])
   exact⟨X++Y,by rw[hY,hX,List.append_assoc]⟩
  ·exact⟨[],zs⟩
theorem zfQ {W:zK} {A:z7}:(yY W A).2=(xP W A W.start A.start).map λp=>(wR (yW W A).1 p:Int):=by
 obtain⟨X,hX⟩:=zh9 (nxE W A) (W.next.length*A.next.length+2) 0 (yY W A).1 []
 have hX':(yW W A).1=(yY W A).1++X:=hX
 rw[hX']
 unfold yY
 rw[zdS,List.nil_append]
 refine List.map_congr_left λp hp=>?_
 rw[zhJ ((Wq _ [] [] p).2 (.inr hp))]
theorem zbT.fits {W:zK} {A:z7} (h:Ui W A) {start L:List Pr} {G:List (List Int)} (hN:zbT start (nxE W A) L G) (hg:∀p∈L,vK W A p):G.length≤1228800∧qV G:=by
 have h1:=vK.le h.two hN.nd hg
 have h2:=zlO h.two
 have h3:=hN.len
 refine⟨zo,zo,λl hl=>?_⟩
 obtain⟨i,hi,rfl⟩:=List.mem_iff_getElem.1 hl
 have:=hN.row i zo
 rw[List.getD_eq_getElem?_getD,List.getElem?_eq_getElem hi] at this
 simp only[Option.getD_some] at this
 rw[this,List.length_map]
 have:=(h.next (L.getD i (0,0))).2
 omega
theorem zi9 {W:zK} {A:z7} (h:Ui W A):xv (yY W A).2 (yW W A).2.length=true∧(yY W A).2.length≤1099511627776:=by
 obtain⟨hN,hg⟩:=XN h
 rw[zfQ]
 refine⟨xN λx hx=>?_,by rw[List.length_map];exact h.begin.2⟩
 obtain⟨p,hp,rfl⟩:=List.mem_map.1 hx
 have:=VO (hN.st p hp)
 have:=hN.len
 omega
theorem zqv {g:List (List Int)} {ok:Nat→Bool} (h:∀v,ok v=true) {u v:Nat} (k:To g u v):To (zjM g ok) u v:=by
 unfold To at k
 induction k with
 | base m=>exact .base m
 | step k hx ih=>exact .step ih (zdL.2 ⟨hx,h _⟩)
theorem zoh {g:List (List Int)} (yT:∀l∈g,xv l g.length=true) {F:List (Nat→Bool)} {i:Nat} (h:YF g F i=true):(∃v,v<g.length∧zH g v=(i:Int))∧∀e,e<g.length→zH g e=(i:Int)→RH g F e:=by
 unfold YF at h
 rw[Bool.and_eq_true,List.all_eq_true] at h
 obtain⟨h1,h2⟩:=h
 unfold okT at h1
 obtain⟨v,hv,h3⟩:=List.any_eq_true.1 h1
 rw[Bool.and_eq_true,beq_iff_eq] at h3
 have hv:=List.mem_range.1 hv
 refine⟨⟨v,hv,h3.1⟩,λe he hp=>⟨he,yT,?_,λS hS=>?_⟩⟩
 ·have hn:=(zdg (λv x hx=>(zdn yT v x hx).2) hv).1 h3.2
  obtain⟨m1,m2⟩:=xx.1 ((parts_eq hv he).1 (h3.1.trans hp.symm))
  exact zbd hn m1 m2
 ·have:=h2 S hS
  unfold QK at this
  obtain⟨d,hd,h4⟩:=List.any_eq_true.1 this
  rw[Bool.and_eq_true,beq_iff_eq] at h4
  exact⟨d,List.mem_range.1 hd,h4.2,h4.1.trans hp.symm⟩
noncomputable def pE (g:List (List Int)) (F:List (Nat→Bool)):Int:=wc (λb=>true==b) ((List.range g.length).map (YF g F))
noncomputable def xG (g:List (List Int)) (F:List (Nat→Bool)) (fr:List Int):List Int:=Xk g (λk=>zH g k==pE g F) (XD g (-1)) fr
def u0 (L:List Pr) (l:List Int):List Int:=l.map λn=>(L.getD n.toNat (0,0)).1
noncomputable def Vk (W:zK) (A:z7) (L:List Pr) (g:List (List Int)) (fr:List Int):D :=
 if pE g (wQ W A L)<0 then .yI [.agg [zw [],zw []],.sc (.bool false),.sc (.int .i64 0)] else
  .yI [.agg [zw (u0 L ((xG g (wQ W A L) fr).take ((xG g (wQ W A L) fr).length-1))),zw (u0 L (Vs g (wQ W A L) (yD (xG g (wQ W A L) fr)).toNat))],.sc (.bool true),.sc (.int .i64 0)]
theorem zs9 {g:List (List Int)} {F:List (Nat→Bool)} (h:¬pE g F<0):∃i:Nat,pE g F=(i:Int)∧YF g F i=true:=by
 obtain⟨k,h1,hk,h2,_⟩:=JI (show 0≤wc (λb=>true==b) ((List.range g.length).map (YF g F)) from by unfold pE at h;omega)
 refine⟨k,h1,?_⟩
 simpa using h2
theorem zvO {g:List (List Int)} (yT:∀l∈g,xv l g.length=true) {F:List (Nat→Bool)}:(¬pE g F<0)↔∃v,v<g.length∧Fw g F v:=by
 rw[←zns (λv x hx=>(zdn yT v x hx).2) F]
 have h1:=um (λb=>true==b) ((List.range g.length).map (YF g F))
 have h2:(¬pE g F<0)↔decide (pE g F≥0)=true:=by rw[decide_eq_true_iff];omega
 rw[h2,pE,h1,List.any_eq_true]
 constructor
 ·rintro⟨b,hb,hb2⟩
  obtain⟨i,hi,rfl⟩:=List.mem_map.1 hb
  exact⟨i,List.mem_range.1 hi,by simpa using hb2⟩
 ·rintro⟨i,hi,h⟩
  exact⟨_,List.mem_map.2 ⟨i,List.mem_range.2 hi,rfl⟩,by simpa using h⟩
theorem zej {W:zK} {A:z7} (h:Ui W A) {F:List (Nat→Bool)} (hp:¬pE (yW W A).2 F<0) :
  xv (xG (yW W A).2 F (yY W A).2) (yW W A).2.length=true∧(xG (yW W A).2 F (yY W A).2).length≤(yW W A).2.length∧xG (yW W A).2 F (yY W A).2≠[]∧RH (yW W A).2 F (yD (xG (yW W A).2 F (yY W A).2)).toNat:=by
 obtain⟨hN,hg⟩:=XN h
 obtain⟨i,e1,hG⟩:=zs9 hp
 obtain⟨⟨v,hv,hpv⟩,hR⟩:=zoh hN.inG hG
 obtain⟨b1,_⟩:=zi9 h
 obtain⟨w1,w2,w3⟩:=zho hN.inG (λk=>zH (yW W A).2 k==pE (yW W A).2 F) (XD (yW W A).2 (-1)) b1
 obtain⟨q,hq,hT⟩:=hN.come v (by have:=hN.len;omega)
 obtain⟨init,last,s1,s2,_⟩:=w3 ⟨(wR (yW W A).1 q:Int),by rw[zfQ];exact List.mem_map.2 ⟨q,hq,rfl⟩,v,by
  rw[Int.toNat_natCast]
  exact zqv (λv=>by unfold XD;rw[decide_eq_true (by omega:(-1:Int)<0)];rfl) hT,by rw[hpv,e1];simp⟩
 refine⟨w1,w2,by unfold xG;rw[s1];simp,?_⟩
 have hl:yD (xG (yW W A).2 F (yY W A).2)=last:=by unfold xG;rw[s1,zaK]
 have hr:=ye w1 (x:=last) (by rw[s1];simp)
 rw[hl]
 exact hR last.toNat zo (by rw[beq_iff_eq] at s2;rw[s2,e1])
def zgj (d:Nat) (W:zK) (A:z7) (n t:Nat) (S:D):List D:=[zw W.start,z8 W.next,uM W.label,z8 W.fair,zw A.start,z8 A.next,uM A.YJ,uM A.WA,z8 A.fair,.mp d,.own (d+2) n 0 n,.own (d+3) t 0 t,S]
noncomputable def zdW (d:Nat) (W:zK) (A:z7) (L:List Pr) (S:D) (T:List (List Int)):List zf :=
 [.xL true (uA Tryz.prog 199 (fP L)),.row true (zgj d W A L.length T.length S),.vec true L.length 2 (Ww L),.vec true T.length 1 (vd T)]
theorem zfU {ρ:Nat→Nat} (l:List Int):D.yy ρ (uM l)=uM l:=yx _ (uI l)
theorem UA {W:zK} {A:z7} {L:List Pr} {S:D} (hS:Pure S) {T:List (List Int)}:(w7 W A L S T).map (zf.yy λi=>3+i)=zdW 3 W A L S T:=by
 simp only[w7,zdW,zhy,zgj,List.map_cons,List.map_nil,zf.yy,yG,D.yy,yo _ (QC L),yo _ (ui T),yx _ hS,vi,zgc,zfU]
def zze:PC:=.seq (.seq (OP [qm 42 10,qm 43 9,q 44 (.zm 43),Fa 45 10 44,Lo 46 45,Ln 47 46,Bi 48 .lss 42 47]) (.cond 48 .skip (.exit 0))) (.seq (.block 1 (.ops [qm 51 9,qm 52 9,qd 53 (.zm 52) 2,qd 54 (.zv 11 53) 6,qd 55 (.zi 54) 14,qm 56 9,Fa 57 1 2,qd 58 (.zi 57) 64,qm 59 9,qd 60 (.zm 59) 256,qd 61 (.zv 10 60) 768,qd 62 (.zi 61) 1792,qm 63 10,qd 64 (.zM 2 62 63) 7936,qd 65 (.zv 0 64) 16128,qd 66 (.zi 65) 32512,qd 67 (.zM 1 58 66) 65472,qd 68 (.zi 67) 131008,Fa 69 1 3,qd 70 (.zi 69) 262144,qm 71 9,qd 72 (.zm 71) 1048576,qd 73 (.zv 10 72) 3145728,qd 74 (.zi 73) 7340032,qm 75 10,qd 76 (.zM 2 74 75) 32505856,qd 77 (.zv 1 76) 66060288,qd 78 (.zi 77) 133169152,qd 79 (.zM 1 70 78) 268173312,qd 80 (.zi 79) 536608768,qd 81 (.call 101 [56,68,80]) 1073741792,qd 82 (.wh 1 1 [81]) 2147483616,qd 83 (.append 1 24 55 82) 4294967294,qd 84 (.zm 51) 8589934591,qd 85 (.zv 11 84) 17179869183,qk (.store 1 85 83) 34359738367] true)) (OP [qm 49 10,Bi 50 .add 49 (cI 1),qm 10 50]))
def c53:PC:=.seq (OP [Bx 2 0,Bx 3 1,q 4 (.alloc [(.slice none 0 0),(.slice none 0 0)]),Mv 5 cF,Mv 6 (cI 0)]) (.seq (.seq (OP [LA 16 4 2,Ca 17 51 [16],qm 7 17]) (.seq (OP [qm 18 7,Bi 19 .neq 18 (cI 0)]) (.cond 19 (.seq (OP [q 20 (.build [(.slice none 0 0),(.slice none 0 0)] []),qm 21 7,So 2 4 20,Mv 5 cF,qm 6 21]) .ret) .skip))) (.seq (.seq (OP [LA 22 5 3,Ca 23 100 [22],qm 8 23]) (.seq (OP [qm 24 8,Bi 25 .neq 24 (cI 0)]) (.cond 25 (.seq (OP [q 26 (.build [(.slice none 0 0),(.slice none 0 0)] []),qm 27 8,So 2 4 26,Mv 5 cF,qm 6 27]) .ret) .skip))) (.seq (OP [LA 28 4 2,LA 29 5 3,q 30 (.zfR 199),q 31 (.build [(.slice none 0 0),(.slice none 0 0),(.slice none 0 0),(.slice none 0 0),(.slice none 0 0),(.slice none 0 0),(.slice none 0 0),(.slice none 0 0),(.slice none 0 0),(.map none),(.slice none 0 0),(.slice none 0 0),(.slice none 0 0)] [(0,4,28),(4,5,29),(9,1,30)]),Bx 32 31,qm 9 32]) (.seq (.stop (OP [qm 33 9,qm 34 9,Fa 35 0 2,Lo 36 35,Fa 37 0 3,Lo 38 37,Ca 39 101 [34,36,38],q 40 (.zm 33),Fa 41 12 40,So 1 41 39])) (.seq (.seq (OP [Mv 10 (cI 0)]) (.block 0 (.loop zze))) (.seq (.stop (OP [qm 86 9,q 87 (.zm 86),Fa 88 11 87,Lo 89 88,Ca 90 102 [89],q 11 (.alloc [(.slice none 0 0)]),So 1 11 90])) (.seq (OP [qm 91 9,Ca 92 103 [91],qm 12 92]) (.seq (OP [qm 93 9,Lo 94 11,qm 95 12,Ca 96 104 [93,94,95],q 13 (.alloc [(.int .i64 0)]),So 1 13 96]) (.seq (.seq (OP [Lo 97 13,Bi 98 .lss 97 (cI 0)]) (.cond 98 (.seq (OP [q 99 (.build [(.slice none 0 0),(.slice none 0 0)] []),So 2 4 99,Mv 5 cF,Mv 6 (cI 0)]) .ret) .skip)) (.seq (.ops [qm 100 9,qm 101 9,qd 102 (.zm 101) 2,qd 103 (.zv 12 102) 6,qd 104 (.zi 103) 14,q 105 (.ZP (.func 106) [] [11,13]),Lo 106 11,qd 107 (.call 105 [100,104,105,106,(cI (-1))]) 127,qw 14 107 255] true) (.seq (.ops [qm 108 9,qm 109 14,qm 110 14,qd 111 (.len 110) 4,qd 112 (.bin .sub 111 (cI 1)) 12,qd 113 (.zM 1 109 112) 30,qd 114 (.zi 113) 62,Lo 115 11,qm 116 12,qd 117 (.call 107 [108,114,115,116]) 511,qw 15 117 1023] true) (.seq (OP [qm 118 9,qm 119 14,qm 120 14,Ln 121 120,Bi 122 .sub 121 (cI 1),q 123 (.slc 1 119 none (some 122) none),Ca 124 108 [118,123],qm 125 9,qm 126 15,Ca 127 108 [125,126],q 128 (.build [(.slice none 0 0),(.slice none 0 0)] [(0,1,124),(1,1,127)]),So 2 4 128,Mv 5 cT,Mv 6 (cI 0)]) .ret))))))))))))
theorem zvU:zz Tryz.prog 53 129 [.agg 4 2,.tmp 5,.tmp 6] c53:=fK Tryz.func53
theorem zsr {W:zK} {A:z7} (h:Ui W A):zu Tryz.prog 53 [Yt W,Vl A] (Vk W A (yW W A).1 (yW W A).2 (yY W A).2):=by
 obtain⟨w1,w2,w3,w4,w5,w6⟩:=vO W h.two.cw
 obtain⟨a1,a2,a3,a4,a5,a6,a7⟩:=Z3 A h.two.ca
 have hN2:=zlO h.two
 have hCW:=ziW W h.two.fw
 rw[h.two.cw] at hCW
 have hCA:=zpj A h.two.fa
 rw[h.two.ca] at hCA
 have hX:=λL hnd hLg S hS T=>zj8 h.two W.start A.start h.sw h.sa w4 a5 L hnd hLg S hS T
 have hX2:=λ(p:Pr) L hnd hLg S hS T=>zj8 h.two (W.next.getD p.1.toNat []) (A.next.getD p.2.toNat []) (UJ h.rw_ p.1.toNat) (UJ h.ra p.2.toNat) (y9 w5 p.1.toNat) (y9 a6 p.2.toNat) L hnd hLg S hS T
 have hpW:=Jh W
 have hpA:=Q7 A
 refine zb zvU zs (by simp[ze,qy,qp]) ?_ (by unfold Vk;split<;>simp[Pure,ze,zh])
 have hfin:yW W A=zbW (nxE W A) (W.next.length*A.next.length+2) 0 (yY W A).1 []:=rfl
 unfold Yt Vl at *
 unfold zK.cells z7.cells at *
 refine sR ?_
 refine sC hCW ?_
 refine sC hCA ?_
 refine zE (wA (yP 4 10 2 zs rfl rfl) (yP 4 11 1 zs rfl rfl)) ?_
 refine sR ?_
 have hnil:Pure zdJ:=trivial
 have hX0:=hX [] .nil zs zdJ hnil []
 rw[show ud (xP W A W.start A.start) [] []=yY W A from rfl] at hX0
 have hN0:=zcJ.begin (xP W A W.start A.start) (nxE W A)
 rw[show ud (xP W A W.start A.start) [] []=yY W A from rfl] at hN0
 have hG0:∀p∈(yY W A).1,vK W A p:=UP zs h.begin.1
 have hRR:∀L G,yW W A=(L,G)→zbT (xP W A W.start A.start) (nxE W A) L G∧(∀p∈L,vK W A p)∧xv (yY W A).2 G.length=true∧(yY W A).2.length≤1099511627776∧∀F,¬pE G F<0→xv (xG G F (yY W A).2) G.length=true∧(xG G F (yY W A).2).length≤G.length∧xG G F (yY W A).2≠[]∧RH G F (yD (xG G F (yY W A).2)).toNat:=λL G e=>by
  have k1:=XN h
  have k2:=zi9 h
  have k3:=λF hp=>zej h (F:=F) hp
  rw[e] at k1 k2 k3
  exact⟨k1.1,k1.2,k2.1,k2.2,k3⟩
 generalize yY W A=B at *
 obtain⟨L0,fr⟩:=B
 dsimp only at *
 have hSf:=zh fr
 refine sA (vg hX0 [.row true [zw W.start,z8 W.next,uM W.label,z8 W.fair],.row true [zw A.start,z8 A.next,uM A.YJ,uM A.WA,z8 A.fair],.row true [zdJ,zdJ]] [] rfl (by simp[w7,zl,zp]) (WG hnil (by simp[w7])) (by simp only[yG,D.yy,vi];rfl) (vi _) (congrArg (_++·) ((List.append_nil _).trans (UA hnil))) (congrArg (_++·) ((List.append_nil _).trans (UA hnil)))) ?_
 refine zZ [2,3,4,9] (λ((n,M,T):Nat × List Pr × List (List Int))=>[(10,.sc (.int .i64 n))]) (λ(n,M,T)=>[.row true [zw W.start,z8 W.next,uM W.label,z8 W.fair],.row true [zw A.start,z8 A.next,uM A.YJ,uM A.WA,z8 A.fair],.row true [zdJ,zdJ]]++zdW 3 W A M (zw fr) T)
  (λ(n,M,T)=>zcJ (xP W A W.start A.start) (nxE W A) n M T∧(∀p∈M,vK W A p)∧zbW (nxE W A) (W.next.length*A.next.length+2-n) n M T=yW W A) (λ(n,M,T)=>W.next.length*A.next.length+2-n) (0,L0,[]) ?_
 refine sW ?_
 refine⟨⟨hN0,hG0,hfin.symm⟩,by exact sK,rfl,?_⟩
 rintro⟨n,M,T⟩ ⟨hI,hMg,hF⟩
 have hMl:=vK.le h.two hI.nd hMg
 have hIl:=hI.le
 have hTl:=hI.len
 rw[show W.next.length*A.next.length+2-n=(W.next.length*A.next.length+1-n)+1 by omega,zbW] at hF
 unfold zdW zgj
 refine sW ?_
 refine sR ?_
 refine sS (λq0=>?_) λq0=>?_
 ·have q0:n<M.length:=sO
  rw[if_pos q0] at hF
  have hgp:=hMg _ (Uw q0)
  obtain⟨⟨g1,g2⟩,g3,g4⟩:=hgp
  have hNx:=hI.next q0
  have hnx:=h.next (M.getD n (0,0))
  have hC:=vg (hX2 (M.getD n (0,0)) M hI.nd hMg (zw fr) hSf T) [.row true [zw W.start,z8 W.next,uM W.label,z8 W.fair],.row true [zw A.start,z8 A.next,uM A.YJ,uM A.WA,z8 A.fair],.row true [zdJ,zdJ]] [] rfl (by simp[w7,zl,zp]) (WG hSf (by simp[w7])) (by simp only[yG,D.yy,vi];rfl) (vi _) (congrArg (_++·) ((List.append_nil _).trans (UA hSf))) (congrArg (_++·) ((List.append_nil _).trans (UA hSf)))
  rw[show xP W A (W.next.getD (M.getD n (0,0)).1.toNat []) (A.next.getD (M.getD n (0,0)).2.toNat [])=nxE W A (M.getD n (0,0)) from rfl] at hC
  refine sB ?_
  refine⟨_,Q4 (l:=M) (k:=n) zo q0,?_⟩
  refine sW ?_
  refine sL (wG (g:=W.next) (k:=(M.getD n (0,0)).1.toNat) zo zo) ?_
  refine sB ?_
  refine⟨_,Q4 (l:=M) (k:=n) zo q0,?_⟩
  refine sW ?_
  refine sL (wG (g:=A.next) (k:=(M.getD n (0,0)).2.toNat) zo zo) ?_
  unfold zdW zgj at hC
  have hgd:=UP (o:=[]) hMg hnx.1
  generalize nxE W A (M.getD n (0,0))=ps at *
  generalize ud ps M []=Q at *
  obtain⟨M',o⟩:=Q
  dsimp only at *
  (refine .inr (.inr (.inr (.inl ⟨_,_,by simp[zl,zD,wq,zf.under,zp],by simp[zl,zD,wq,zf.under,zp],hC,?_⟩)));((conv=>whnf);repeat(refine⟨rfl,?_⟩;conv=>whnf)))
  refine sJ ?_
  refine sI ?_
  refine⟨(n+1,M',T++[o]),⟨hNx,hgd,by rw[show W.next.length*A.next.length+2-(n+1)=W.next.length*A.next.length+1-n by omega];exact hF⟩,zd,?_⟩
  dsimp only
  rw[show(T++[o]).length=T.length+1 by simp]
  (refine zj 7 zs rfl ?_ ?_<;>(repeat' (first|exact trivial|exact rfl|exact ya.refl _|exact zP.refl _|exact zJ.refl _|refine And.intro ?_ ?_|(simp[zp,zl,zD,-List.map_take,-List.map_drop];done))))
  all_goals first|exact zt _ hpW|exact zt _ hpA|exact zk (zjF rfl)|(simp[zq _ (uI _)];done)|skip
 ·have q0:¬n<M.length:=sO
  rw[if_neg q0] at hF
  obtain⟨hNF,hg2,hfi,hfl,hst⟩:=hRR M T hF.symm
  obtain⟨hTn,hTF⟩:=hNF.fits h hg2
  have yT:=hNF.inG
  rw[←hF]
  have hTM:=hNF.len
  have hSe:=zu1 h.two M zo hg2 T fr
  rw[←hTM] at hSe
  have hFl:(wQ W A M).length≤1000:=by unfold wQ;rw[List.length_append,Yd (Nat.le_refl _),Yd (Nat.le_refl _)];omega
  have hfr:Vk W A M T fr=if pE T (wQ W A M)<0 then .yI [.agg [zw [],zw []],.sc (.bool false),.sc (.int .i64 0)] else
    .yI [.agg [zw (u0 M ((xG T (wQ W A M) fr).take ((xG T (wQ W A M) fr).length-1))),zw (u0 M (Vs T (wQ W A M) (yD (xG T (wQ W A M) fr)).toNat))],.sc (.bool true),.sc (.int .i64 0)]:=rfl
  have hps:=qH W A M T fr
  generalize wQ W A M=F at *
  have hGo:=zum W A M T hTM fr zo yT hTF F hFl
  rw[show wc (λb=>true==b) ((List.range T.length).map (YF T F))=pE T F from rfl] at hGo
  have hst:=hst F
  refine zE (qf (λi=>i==4||i==5||i==6) (env':=[(4,.loc 2 0),(9,.xk (u6 W A M T fr))]) (H':=[.row true [zw W.start,z8 W.next,uM W.label,z8 W.fair],.row true [zw A.start,z8 A.next,uM A.YJ,uM A.WA,z8 A.fair],.row true [zdJ,zdJ],.xL true (uA Tryz.prog 199 (fP M)),.row false (zgj 3 W A M.length T.length (zw fr)),.vec false M.length 2 (Ww M),.vec false T.length 1 (vd T)])
   ⟨.refl _,.loc _ _ _ _ _ rfl rfl (.cons _ _ _ _ (.refl _) (.cons _ _ _ _ (.refl _) (.cons _ _ _ _ (.refl _) (.cons _ _ _ _ (.refl _) (.cons _ _ _ _ (.refl _) (.cons _ _ _ _ (.refl _) (.cons _ _ _ _ (.refl _) (.cons _ _ _ _ (.refl _) (.cons _ _ _ _ (.refl _) (.cons _ _ _ _ (.xt _) (.cons _ _ _ _ (.own _ _ _ _ _ _ _ _ rfl rfl (zk (zr zs))) (.cons _ _ _ _ (.own _ _ _ _ _ _ _ _ rfl rfl (zk (zr zs))) (.refl _))))))))))))),trivial⟩
   ⟨⟨.inl rfl,λh=>absurd h zc,.refl _⟩,⟨.inl rfl,λh=>absurd h zc,.refl _⟩,⟨.inl rfl,λh=>absurd h zc,.refl _⟩,⟨.inl rfl,λh=>absurd h zc,rfl⟩,⟨.inr ⟨rfl,rfl⟩,λ_=>rfl,.refl _⟩,⟨.inr ⟨rfl,rfl⟩,λ_=>rfl,rfl,rfl,.refl _⟩,⟨.inr ⟨rfl,rfl⟩,λ_=>rfl,rfl,rfl,.refl _⟩,trivial⟩) ?_
  have hSp:=zn0 T zo yT hTF
  unfold u6 at hSe hGo
  unfold u6 zgj
  refine sR ?_
  refine sC hSp ?_
  refine sC hSe ?_
  refine sC hGo ?_
  rw[hfr]
  refine sS (λp0=>?_) λp0=>?_
  ·have p0:pE T F<0:=of_decide_eq_true p0
   rw[if_pos p0]
   exact .yI _ _ (.cons _ _ _ _ (.agg _ _ (.cons _ _ _ _ (.none _) (.cons _ _ _ _ (.none _) .nil))) (.cons _ _ _ _ (.refl _) (.cons _ _ _ _ (.refl _) .nil)))
  ·have p0:¬pE T F<0:=of_decide_eq_false p0
   rw[if_neg p0]
   obtain⟨s1,s2,s3,s4⟩:=hst p0
   have hsn:=List.length_pos_iff.2 s3
   have hlE:=ye s1 (za1 s3)
   have hWy:=zpO W A M T fr zo yT hTF (λk=>zH T k==pE T F) 106 [.xk [zw (uN T)],.xk [.sc (.int .i64 (pE T F))]] (by simp[ze,Pure,zh]) (λx h1 h2=>zoG T (pE T F) x h1 h2) fr zo hfi (-1)
   rw[show Xk T (λk=>zH T k==pE T F) (XD T (-1)) fr=xG T F fr from rfl] at hWy
   have hRd:=zq0 W A M T fr zo hTF F hFl (yD (xG T F fr)).toNat s4
   rw[show(((yD (xG T F fr)).toNat:Nat):Int)=yD (xG T F fr) by omega] at hRd
   obtain⟨r1,r2⟩:=zmH s4
   have hS1:=zf7 W A M T fr ((xG T F fr).take ((xG T F fr).length-1)) (by rw[List.length_take];omega) (by rw[←hTM];exact xN λx hx=>ye s1 (List.mem_of_mem_take hx))
   have hrl:(Vs T F (yD (xG T F fr)).toNat).length≤1000000000000:=by
    have:=Nat.mul_le_mul hFl hTn
    omega
   have hS2:=zf7 W A M T fr (Vs T F (yD (xG T F fr)).toNat) hrl (by rw[←hTM];exact r1)
   rw[show((xG T F fr).take ((xG T F fr).length-1)).map (λn=>(M.getD n.toNat (0,0)).1)=u0 M ((xG T F fr).take ((xG T F fr).length-1)) from rfl] at hS1
   rw[show(Vs T F (yD (xG T F fr)).toNat).map (λn=>(M.getD n.toNat (0,0)).1)=u0 M (Vs T F (yD (xG T F fr)).toNat) from rfl] at hS2
   generalize Vs T F (yD (xG T F fr)).toNat=rnd at *
   generalize xG T F fr=st at *
   generalize pE T F=p at *
   unfold u6 at hWy hRd hS1 hS2 hps
   refine sW ?_
   refine sE (V2 (args0:=[.xk [zw W.start,z8 W.next,uM W.label,z8 W.fair,zw A.start,z8 A.next,uM A.YJ,uM A.WA,z8 A.fair,.xt,Uh M,z8 T,zw fr],zw fr,.fn (.func 106) [] [.loc 0 0,.loc 1 0],zw (uN T),.sc (.int .i64 (-1))]) (H0:=[.row true [zw (uN T)],.row true [.sc (.int .i64 p)]])
    (.cons _ _ _ _ (.refl _) (.cons _ _ _ _ (.refl _) (.cons _ _ _ _ (.fn _ _ _ _ _ .nil (.cons _ _ _ _ (.loc _ _ _ _ _ rfl (xn _)) (.cons _ _ _ _ (.loc _ _ _ _ _ rfl (xn _)) .nil))) (.cons _ _ _ _ (.refl _) (.cons _ _ _ _ (.refl _) .nil))))) hWy (zh _) [7,8] rfl zc ⟨zq _ (Z1 hps),zq _ (zh _),by simp[zl,zp],zq _ (zh _),trivial,trivial⟩ ⟨zt _ ⟨zh _,trivial⟩,zt _ ⟨trivial,trivial⟩,trivial⟩ (by simp only[yG,D.yy,vi,zgc,zfU,yx _ (V5 _)];rfl) (λi o ho=>by
     rcases i with _|_|i
     ·simp at ho;subst ho;simp only[zf.yy,yG,vi];rfl
     ·simp at ho;subst ho;rfl
     ·simp at ho)) ?_
   rw[List.length_map]
   refine sI ?_
   refine sL (yb (l:=st) (k:=st.length-1) zo zo) ?_
   rw[show st.getD (st.length-1) 0=yD st from rfl,show D.yy (λi=>[7,8].getD i 0) (zw (uN T))=zw (uN T) from vi _]
   refine sC hRd ?_
   rw[List.length_map]
   refine sI ?_
   refine⟨zo,zo,zs,?_⟩
   refine sW ?_
   rw[show(D.xj 1 (List.drop 0 (List.take (((st.length:Nat):Int)-1).toNat (List.map (λn=>[D.sc (Value.int .i64 n)]) st))))=zw (st.take (st.length-1)) by
    rw[show(((st.length:Nat):Int)-1).toNat=st.length-1 by omega,List.drop_zero,←List.map_take];rfl]
   refine sC hS1 ?_
   refine sC hS2 ?_
   exact .refl _
end
end
section
open Go.RowKit
theorem qF (k n:Int):Small (xD k n):=.mk _ (by simp[xD,Tree.width,Tree.kids]) λj hj=>by simp[xD,Tree.width,Tree.kids] at hj
theorem vh {k:Int} {a:Tree} (h:Small a):Small (xS k a):=.mk _ (by simp[xS,Tree.width,Tree.kids]) λj hj=>by
 simp[xS,Tree.width,Tree.kids] at hj
 subst hj
 exact h
theorem qG {k:Int} {a b:Tree} (h:Small a) (h':Small b):Small (uS k a b):=.mk _ (by simp[uS,Tree.width,Tree.kids]) λj hj=>by
 simp[uS,Tree.width,Tree.kids] at hj
 match j with
 | 0=>exact h
 | 1=>exact h'
theorem Y1 (p:Prop) [Decidable p] {a b:Tree} (h:Small a) (k:Small b):Small (if p then a else b):=by split<;>assumption
def c203:PC:=.seq (OP [Bx 4 1,Bx 5 2,q 6 (.alloc [(.int .i64 0),(.int .i64 0),(.slice none 0 0)])]) (.seq (OP [qm 7 0,LA 8 3 4,LA 9 3 5,Bs 10 3 2 [8,9],q 11 (.build [(.int .i64 0),(.int .i64 0),(.slice none 0 0)] [(0,1,7),(2,1,10)]),So 3 6 11]) .ret)
theorem zth:zz Tryz.prog 203 12 [.agg 6 3] c203:=fK Tryz.func203
theorem zil (k:Int) (a b:Tree):zu Tryz.prog 203 [.sc (.int .i64 k),yk a,yk b] (yk (uS k a b)):=by
 refine zb zth zs (by simp[ze,Pure,zA]) ?_ (zA _)
 refine sR ?_
 exact sP
def c138:PC:=.seq (OP [Bx 3 1,q 4 (.alloc [(.int .i64 0),(.int .i64 0),(.slice none 0 0)])]) (.seq (OP [qm 5 0,LA 6 3 3,Bs 7 3 1 [6],q 8 (.build [(.int .i64 0),(.int .i64 0),(.slice none 0 0)] [(0,1,5),(2,1,7)]),So 3 4 8]) .ret)
theorem ztY:zz Tryz.prog 138 9 [.agg 4 3] c138:=fK Tryz.func138
theorem WV (k:Int) (a:Tree):zu Tryz.prog 138 [.sc (.int .i64 k),yk a] (yk (xS k a)):=by
 refine zb ztY zs (by simp[ze,Pure,zA]) ?_ (zA _)
 refine sR ?_
 exact sP
def c195:PC:=.seq (OP [Bx 4 1,Bx 5 2,q 6 (.alloc [(.int .i64 0),(.int .i64 0),(.slice none 0 0)])]) (.seq (OP [qm 7 0,LA 8 3 4,LA 9 3 5,Bs 10 3 2 [8,9],q 11 (.build [(.int .i64 0),(.int .i64 0),(.slice none 0 0)] [(0,1,7),(2,1,10)]),So 3 6 11]) .ret)
theorem zr0:zz Tryz.prog 195 12 [.agg 6 3] c195:=fK Tryz.func195
theorem zhD (k:Int) (a b:Tree):zu Tryz.prog 195 [.sc (.int .i64 k),yk a,yk b] (yk (uS k a b)):=by
 refine zb zr0 zs (by simp[ze,Pure,zA]) ?_ (zA _)
 refine sR ?_
 exact sP
def c204:PC:=.seq (OP [q 2 (.alloc [(.int .i64 0),(.int .i64 0),(.slice none 0 0)])]) (.seq (OP [qm 3 0,q 4 (.build [(.int .i64 0),(.int .i64 0),(.slice none 0 0)] [(0,1,3)]),So 3 2 4]) .ret)
theorem zs5:zz Tryz.prog 204 5 [.agg 2 3] c204:=fK Tryz.func204
theorem zfz (k:Int):zu Tryz.prog 204 [.sc (.int .i64 k)] (yk (xD k 0)):=by
 refine zb zs5 zs (by simp[ze,Pure]) ?_ (zA _)
 refine sR ?_
 exact sP
def c135:PC:=.seq (OP [q 2 (.alloc [(.int .i64 0),(.int .i64 0),(.slice none 0 0)])]) (.seq (OP [qm 3 0,q 4 (.build [(.int .i64 0),(.int .i64 0),(.slice none 0 0)] [(0,1,(cI 3)),(1,1,3)]),So 3 2 4]) .ret)
theorem zsn:zz Tryz.prog 135 5 [.agg 2 3] c135:=fK Tryz.func135
theorem uU (n:Int):zu Tryz.prog 135 [.sc (.int .i64 n)] (yk (xD 3 n)):=by
 refine zb zsn zs (by simp[ze,Pure]) ?_ (zA _)
 refine sR ?_
 exact sP
def c136:PC:=.seq (OP [Bx 1 0,q 2 (.alloc [(.int .i64 0),(.int .i64 0),(.slice none 0 0)])]) (.seq (OP [LA 3 3 1,Ca 4 138 [(cI 4),3],So 3 2 4]) .ret)
theorem zsC:zz Tryz.prog 136 5 [.agg 2 3] c136:=fK Tryz.func136
theorem WQ (a:Tree):zu Tryz.prog 136 [yk a] (yk (xS 4 a)):=by
 refine zb zsC zs (by simp[ze,Pure,zA]) ?_ (zA _)
 refine sR ?_
 refine sC (WV 4 a) ?_
 exact sP
def c140:PC:=.seq (OP [Bx 1 0,q 2 (.alloc [(.int .i64 0),(.int .i64 0),(.slice none 0 0)])]) (.seq (OP [LA 3 3 1,Ca 4 138 [(cI 11),3],So 3 2 4]) .ret)
theorem ztG:zz Tryz.prog 140 5 [.agg 2 3] c140:=fK Tryz.func140
theorem WW (a:Tree):zu Tryz.prog 140 [yk a] (yk (xS 11 a)):=by
 refine zb ztG zs (by simp[ze,Pure,zA]) ?_ (zA _)
 refine sR ?_
 refine sC (WV 11 a) ?_
 exact sP
def c142:PC:=.seq (OP [Bx 2 0,Bx 3 1,q 4 (.alloc [(.int .i64 0),(.int .i64 0),(.slice none 0 0)])]) (.seq (OP [LA 5 3 2,LA 6 3 3,Ca 7 195 [(cI 5),5,6],So 3 4 7]) .ret)
theorem zuY:zz Tryz.prog 142 8 [.agg 4 3] c142:=fK Tryz.func142
theorem UN (a b:Tree):zu Tryz.prog 142 [yk a,yk b] (yk (uS 5 a b)):=by
 refine zb zuY zs (by simp[ze,Pure,zA]) ?_ (zA _)
 refine sR ?_
 refine sC (zhD 5 a b) ?_
 exact sP
def c137:PC:=.seq (OP [Bx 2 0,Bx 3 1,q 4 (.alloc [(.int .i64 0),(.int .i64 0),(.slice none 0 0)])]) (.seq (OP [LA 5 3 2,LA 6 3 3,Ca 7 195 [(cI 6),5,6],So 3 4 7]) .ret)
theorem zr8:zz Tryz.prog 137 8 [.agg 4 3] c137:=fK Tryz.func137
theorem QA (a b:Tree):zu Tryz.prog 137 [yk a,yk b] (yk (uS 6 a b)):=by
 refine zb zr8 zs (by simp[ze,Pure,zA]) ?_ (zA _)
 refine sR ?_
 refine sC (zhD 6 a b) ?_
 exact sP
def c141:PC:=.seq (OP [Bx 2 0,Bx 3 1,q 4 (.alloc [(.int .i64 0),(.int .i64 0),(.slice none 0 0)])]) (.seq (OP [LA 5 3 2,LA 6 3 3,Ca 7 195 [(cI 8),5,6],So 3 4 7]) .ret)
theorem zuR:zz Tryz.prog 141 8 [.agg 4 3] c141:=fK Tryz.func141
theorem Y0 (a b:Tree):zu Tryz.prog 141 [yk a,yk b] (yk (uS 8 a b)):=by
 refine zb zuR zs (by simp[ze,Pure,zA]) ?_ (zA _)
 refine sR ?_
 refine sC (zhD 8 a b) ?_
 exact sP
end
section
open Go.RowKit
def c158:PC:=.seq (OP [Mv 2 (cI 0)]) (.seq (.seq (OP [qm 3 0]) (.block 0 (.seq (.seq (OP [Bi 5 .eql 3 (cI 1),qm 4 5]) (.cond 4 .skip (.seq (OP [Bi 6 .eql 3 (cI 2),qm 4 6]) (.cond 4 .skip (OP [Bi 7 .eql 3 (cI 3),qm 4 7]))))) (.cond 4 (.seq (OP [Mv 2 (cI 0)]) .ret) (.seq (.seq (OP [Bi 9 .eql 3 (cI 4),qm 8 9]) (.cond 8 .skip (.seq (OP [Bi 10 .eql 3 (cI 7),qm 8 10]) (.cond 8 .skip (.seq (OP [Bi 11 .eql 3 (cI 10),qm 8 11]) (.cond 8 .skip (OP [Bi 12 .eql 3 (cI 11),qm 8 12]))))))) (.cond 8 (.seq (OP [Mv 2 (cI 1)]) .ret) (.seq (.seq (OP [Bi 14 .eql 3 (cI 5),qm 13 14]) (.cond 13 .skip (.seq (OP [Bi 15 .eql 3 (cI 6),qm 13 15]) (.cond 13 .skip (.seq (OP [Bi 16 .eql 3 (cI 8),qm 13 16]) (.cond 13 .skip (OP [Bi 17 .eql 3 (cI 9),qm 13 17]))))))) (.cond 13 (.seq (OP [Mv 2 (cI 2)]) .ret) .skip)))))))) (.seq (OP [Mv 2 (cI (-1))]) .ret))
theorem ztS:zz Tryz.prog 158 18 [.tmp 2] c158:=fK Tryz.func158
def zAj:PC:=.seq (OP [Bi 51 .lss 50 49]) (.seq (.cond 51 .skip (.exit 1)) (.seq (.block 2 (.seq (OP [Ia 52 3 48 50,LA 53 3 52,q 8 (.alloc [(.int .i64 0),(.int .i64 0),(.slice none 0 0)]),So 3 8 53]) (.seq (OP [LA 54 3 8,qm 55 1,Bi 56 .add 55 (cI 1),qm 57 2,Ca 58 88 [54,56,57],qm 9 58]) (.seq (OP [qm 59 9,Bi 60 .neq 59 (cI 0)]) (.cond 60 (.seq (OP [qm 61 9,qm 6 61]) .ret) .skip))))) (OP [Bi 62 .add 50 (cI 1),qm 50 62])))
def c88:PC:=.seq (OP [Bx 3 0,Mv 6 (cI 0)]) (.seq (OP [qm 10 2,q 11 (.zm 10),Lo 12 11,Bi 13 .add 12 (cI 1),q 14 (.zm 10),So 1 14 13]) (.seq (.block 0 (.seq (OP [qm 16 2,q 17 (.zm 16),Lo 18 17,Bi 19 .gtr 18 (cI 60),qm 15 19]) (.cond 15 (.seq (OP [Mv 6 (cI 2)]) .ret) (.seq (OP [qm 21 1,Bi 22 .gtr 21 (cI 20),qm 20 22]) (.cond 20 (.seq (OP [Mv 6 (cI 5)]) .ret) (.seq (.seq (.ops [Fa 24 0 3,qd 25 (.zi 24) 1,qd 26 (.call 158 [25]) 3,Fa 27 2 3,qd 28 (.zi 27) 8,qd 29 (.len 28) 24,qd 30 (.bin .neq 26 29) 63,qw 23 30 127] true) (.cond 23 .skip (.seq (OP [Fa 31 1 3,Lo 32 31,Bi 33 .lss 32 (cI 0),qm 34 33,GF 35 34 (.zv 1 3),GF 36 34 (.zi 35),GF 37 34 (.bin .gtr 36 (cI 63)),Pk 38 34 cT 37,qm 23 38]) (.cond 23 .skip (OP [Fa 39 0 3,Lo 40 39,Bi 41 .neq 40 (cI 3),qm 42 41,GT 43 42 (.zv 1 3),GT 44 42 (.zi 43),GT 45 42 (.bin .neq 44 (cI 0)),Pk 46 42 45 cF,qm 23 46]))))) (.cond 23 (.seq (OP [Mv 6 (cI 1)]) .ret) .skip))))))) (.seq (.seq (OP [Fa 47 2 3,Lo 48 47,Ln 49 48,Mv 50 (cI 0)]) (.block 1 (.loop zAj))) (.seq (OP [Mv 6 (cI 0)]) .ret))))
theorem zwM:zz Tryz.prog 88 63 [.tmp 6] c88:=fK Tryz.func88
def c49:PC:=.seq (OP [Bx 1 0,Mv 2 (cI 0)]) (.seq (OP [q 3 (.alloc [(.int .i64 0)]),So 1 3 (cI 0)]) (.seq (OP [LA 4 3 1,Ca 5 88 [4,(cI 1),3],qm 2 5]) .ret))
theorem zv1:zz Tryz.prog 49 6 [.tmp 2] c49:=fK Tryz.func49
theorem zpW (k:Int):zu Tryz.prog 158 [.sc (.int .i64 k)] (.sc (.int .i64 (zS k))):=by
 refine zb ztS zs (by simp[ze,Pure]) ?_ (by simp[Pure])
 refine sR ?_
 repeat' (first|refine sS (λh=>?_) λh=>?_|exact yu (by simp_all [zS]))
theorem zod:∀(t:Tree) (d n:Int),Small t→0≤d→d≤21→0≤n→n≤60→yB Tryz.prog 88 ([yk t,.sc (.int .i64 d)]++.loc 0 0::[]) [.row true [.sc (.int .i64 n)]] (.sc (.int .i64 (uG zS t d n).1)) [.row true [.sc (.int .i64 (uG zS t d n).2)]]:=by
 intro t
 induction t using Tree.ind with
 | h t ih =>
  intro d n hs hd hd' hn hn'
  have hsz:=hs.width
  refine yp zwM zs zs ?_ (by simp[zp]) (by simp[zf.under,zl,zp])
  refine sR ?_
  refine .inl ⟨by unfold InR;rw[IntKind.wrap_i64];omega,?_⟩
  refine sW ?_
  have e:=ztq zS t d n
  refine sS (λh1=>?_) λh1=>?_
  ·simp at h1
   rw[e,if_pos h1]
   exact⟨rfl,rfl,zs⟩
  rw[if_neg (by simpa using h1)] at e
  refine sS (λh2=>?_) λh2=>?_
  ·simp at h2
   rw[e,if_pos h2]
   exact⟨rfl,rfl,zs⟩
  rw[if_neg (by simpa using h2)] at e
  refine sC (zpW t.kind) ?_
  have odd:yZ zS t→uG zS t d n=(1,n+1):=λh=>by rw[e,if_pos h]
  have bad:yZ zS t→(D.sc (Value.int IntKind.i64 1)=.sc (.int .i64 (uG zS t d n).1)∧List.take [zf.row true [D.sc (Value.int IntKind.i64 (uG zS t d n).2)]].length [zf.row true [D.sc (Value.int IntKind.i64 (n+1))],zf.row true (yS t)]=[zf.row true [D.sc (Value.int IntKind.i64 (uG zS t d n).2)]]∧[zf.row true [D.sc (Value.int IntKind.i64 (uG zS t d n).2)]].length≤2):=λh=>by
   rw[odd h];exact⟨rfl,rfl,zs⟩
  repeat' (first
   | refine sS (λh=>?_) λh=>?_
   | exact bad (by unfold yZ Tree.width;simp_all;try omega))
  all_goals
   have hno:¬yZ zS t:=by unfold yZ Tree.width;simp_all;try omega
   rw[if_neg hno] at e
   have hn1:n+1≤60:=by simp at h1;omega
   have hd1:d≤20:=by simp at h2;omega
   refine UU (λx:Nat × Int=>[(1,.sc (.int .i64 d)),(2,.loc 0 0),(48,.xj 3 (t.kids.map xe)),(49,.sc (.int .i64 (t.kids.map xe).length)),(50,.sc (.int .i64 x.1))])
    (λx=>[.row true [.sc (.int .i64 x.2)],.row true (yS t)]) (λx=>x.1≤t.width∧0≤x.2∧x.2≤60∧Yw zS t.kids (d+1) (n+1)=Yw zS (t.kids.drop x.1) (d+1) x.2) (λx=>t.width-x.1) (0,n+1)
    ⟨zs,by simp;omega,hn1,rfl⟩ (zck ⟨rfl,rfl,rfl,rfl,rfl,trivial⟩) ?_
   clear h1 h2
   rintro⟨k,m⟩ ⟨hk,hm0,hm1,hF⟩
   refine sR ?_
   refine sS (λh4=>?_) λh4=>?_
   ·have hk':k<t.width:=by simpa [Tree.width] using h4
    rw[zoz _ hk'] at hF
    refine sL (wa hk') ?_
    refine .inl ⟨by unfold InR;rw[IntKind.wrap_i64];omega,?_⟩
    refine sW ?_
    refine sA (zfZ (ih k hk' (d+1) m (hs.xw hk') zo zo hm0 hm1) (by simp[ze,zA,Pure]) (by simp[ze]) (by simp[ze,Pure]) (by simp[ze,Pure]) (by simp[Pure]) (id:=0) rfl) ?_
    refine sS (λh5=>?_) λh5=>?_
    ·rw[e,hF,if_neg (by simpa using h5)]
     exact⟨rfl,rfl,zs⟩
    ·have h5':(uG zS (t.xw k) (d+1) m).1=0:=by simpa using h5
     rw[if_pos h5'] at hF
     have b1:=(zfH zS (t.xw k) (d+1) m).1
     have b2:=zhE zS (t.xw k) (d+1) m h5'
     refine .inl ⟨by unfold InR;rw[IntKind.wrap_i64];unfold Tree.width at *;omega,?_⟩
     refine sW ?_
     refine⟨(k+1,(uG zS (t.xw k) (d+1) m).2),⟨by dsimp only at *;omega,by dsimp only at *;omega,b2,hF⟩,by dsimp only at *;omega,zj 2 zs rfl ⟨.refl _,by simp[zp],.refl _,by simp[zp],.refl _,by simp only[zp];exact zg _ (xC t),.refl _,by simp[zp],.refl _,by simp[zp],trivial⟩
      ⟨⟨rfl,.refl _,by simp[zl,zp]⟩,⟨rfl,.refl _,zt _ (yj t)⟩,trivial⟩⟩
   ·have hk':k=t.width:=by have:¬k<t.width:=by simpa [Tree.width] using h4
                           dsimp only at hk;omega
    rw[e,hF,hk',znv]
    exact⟨rfl,rfl,zs⟩
theorem Uz (t:Tree) (hs:Small t):zu Tryz.prog 49 [yk t] (.sc (.int .i64 (xc zS t))):=by
 refine zb zv1 zs (by simp[ze,zA]) ?_ (by simp[Pure])
 refine sR ?_
 refine sA (zfZ (zod t 1 0 hs zo zo zo zo) (by simp[ze,zA,Pure]) (by simp[ze]) (by simp[ze,Pure]) (by simp[ze,Pure]) (by simp[Pure]) (H:=[.row true (yS t),.row true [.sc (.int .i64 0)]]) (id:=1) rfl) ?_
 exact .refl _
end
end Go.Proofs.YthoklahpcibacaaGreatDoor
