/-
  Parts of a proof, joined. No statement is proved here.
-/
import Derived.Test.YtoehflejhaakpaaGreatDoorZ1
import Derived.DeepKeys4
import Derived.Test.YtoehflejhaakpaaGreatDoorProg
namespace Go.Proofs.YtoehflejhaakpaaGreatDoor
set_option linter.unusedSimpArgs false
set_option linter.unusedVariables false
set_option maxRecDepth 100000
section
open Go.RowKit
structure yh where
 start:List Int
 next:List (List Int)
 Y4:List Int
 Vm:List Int
 fair:List (List Int)
def yh.cells (A:yh):List D:=[zB A.start,ya A.next,uX A.Y4,uX A.Vm,ya A.fair]
def V4 (A:yh):D:=.agg A.cells
theorem J6 (A:yh):ze A.cells:=by simp[yh.cells,ze,zi,z7,ur]
theorem qU (A:yh):Pure (V4 A):=by simp[V4,Pure,J6]
def zp4:yh:=⟨[],[],[],[],[]⟩
structure yh.Fits (A:yh):Prop where
 start:A.start.length≤17592186043904
 next:A.next.length≤17592186043904
 Y4:A.Y4.length≤17592186043904
 Vm:A.Vm.length≤17592186043904
 fair:A.fair.length≤17592186043904
 WI:∀l∈A.next,l.length≤17592186043904
 WJ:∀l∈A.fair,l.length≤17592186043904
def yh.yJ (A:yh):Int :=
 if 2048<A.next.length∨80<A.fair.length then 2
 else if A.Y4.length≠A.next.length∨A.Vm.length≠A.next.length∨xH A.start A.next.length=false then 1
 else if (A.next.any λl=>!(xH l A.next.length))=true then 1
 else if (A.fair.any λl=>!(xH l A.next.length))=true then 1
 else 0
theorem YG (A:yh) (h:A.yJ=0):A.Y4.length=A.next.length∧A.Vm.length=A.next.length∧A.next.length≤2048∧A.fair.length≤80∧xH A.start A.next.length=true∧(∀l∈A.next,xH l A.next.length=true)∧∀l∈A.fair,xH l A.next.length=true:=by
 unfold yh.yJ at h
 split at h
 ·exact absurd h zc
 split at h
 ·exact absurd h zc
 split at h
 ·exact absurd h zc
 split at h
 ·exact absurd h zc
 rename_i h1 h2 h3 h4
 have h2':=not_or.1 h2
 have h2'':=not_or.1 h2'.2
 refine⟨zo,zo,zo,zo,by simpa using h2''.2,λl hl=>?_,λl hl=>?_⟩
 ·rw[Bool.not_eq_true,List.any_eq_false] at h3
  simpa using h3 l hl
 ·rw[Bool.not_eq_true,List.any_eq_false] at h4
  simpa using h4 l hl
def J3 (A:yh) (s:Nat) (x:Int):Bool:=vd .and .u64 x (A.Y4.getD s 0)==A.Y4.getD s 0&&vd .and .u64 x (A.Vm.getD s 0)==0
theorem U2 (a:BitVec 64):IntKind.wrap .u64 (a.toNat:Int)=(a.toNat:Int):=by
 have:=a.isLt
 simp only[IntKind.wrap,IntKind.signed,IntKind.bits]
 simp
 omega
theorem zpz {x m:Int} (hm:0≤m∧m<18446744073709551616):(vd .and .u64 x m==m)=(vd .andNot .u64 m x==0):=by
 show(IntKind.wrap .u64 (((BitVec.ofInt 64 x) &&& (BitVec.ofInt 64 m)).toNat:Int)==m)=(IntKind.wrap .u64 (((BitVec.ofInt 64 m) &&& ~~~(BitVec.ofInt 64 x)).toNat:Int)==0)
 rw[U2,U2]
 have e:m=((BitVec.ofInt 64 m).toNat:Int):=by
  rw[BitVec.toNat_ofInt]
  omega
 generalize BitVec.ofInt 64 x=a
 rw[Bool.eq_iff_iff,beq_iff_eq,beq_iff_eq]
 generalize hb:BitVec.ofInt 64 m=b at e
 constructor
 ·intro h
  rw[e] at h
  have h:a &&& b=b:=BitVec.eq_of_toNat_eq zo
  have:b &&& ~~~a=0#64:=by
   rw[←h]
   ext i hi
   simp
   intro h1 _
   exact h1
  rw[this];rfl
 ·intro h
  have h:b &&& ~~~a=0#64:=BitVec.eq_of_toNat_eq (by simpa using h)
  have:a &&& b=b:=by
   ext i hi
   have:=congrArg (λz:BitVec 64=>z[i]) h
   simp at this
   cases q:b[i]
   ·simp[q]
   ·simp[q,this q]
  rw[this];omega
theorem zcZ {l:List Int} {z k:Nat} (hz:z=k) (h:k<l.length):(l.map λn=>[D.sc (.int .u64 n)])[z]? = some [.sc (.int .u64 (l.getD k 0))]:=by
 subst hz
 rw[List.getElem?_map,List.getElem?_eq_getElem h,List.getD_eq_getElem?_getD,List.getElem?_eq_getElem h];rfl
def c209:PC:=.seq (OP [Bx 3 0,Mv 6 cF]) (.seq (.ops [qm 7 2,Fa 8 2 3,qd 9 (.zg 8) 2,qm 10 1,qd 11 (.zM 1 9 10) 14,qd 12 (.zg 11) 30,qd 13 (.bin .and 7 12) 63,Fa 14 2 3,qd 15 (.zg 14) 128,qm 16 1,qd 17 (.zM 1 15 16) 896,qd 18 (.zg 17) 1920,qd 19 (.bin .eql 13 18) 4095,qw 20 19 8191,⟨some 21,.move 2,some (20,true),16383⟩,⟨some 22,.zz 3 3,some (20,true),16383⟩,⟨some 23,.zg 22,some (20,true),49151⟩,⟨some 24,.move 1,some (20,true),16383⟩,⟨some 25,.zM 1 23 24,some (20,true),245759⟩,⟨some 26,.zg 25,some (20,true),507903⟩,⟨some 27,.bin .and 21 26,some (20,true),1048575⟩,⟨some 28,.bin .eql 27 (.const (.int .u64 0)),some (20,true),2097151⟩,qd 29 (.pick 20 28 cF) 4194303,qw 6 29 8388607] true) .ret)
theorem zty:zy Tryz.prog 209 30 [.tmp 6] c209:=fK Tryz.func209
theorem zti (A:yh) (hm:A.Y4.length=A.next.length) (hn:A.Vm.length=A.next.length) (s:Nat) (hs:s<A.next.length) (x:Int):zq Tryz.prog 209 [V4 A,.sc (.int .i64 s),.sc (.int .u64 x)] (.sc (.bool (J3 A s x))):=by
 refine za zty zs (by simp[ze,Pure,qU]) ?_ (by simp[Pure])
 have e:J3 A s x=(vd .and .u64 x (A.Y4.getD s 0)==A.Y4.getD s 0&&vd .and .u64 x (A.Vm.getD s 0)==0):=rfl
 unfold V4 yh.cells uX
 refine sR ?_
 refine sL (zcZ (k:=s) zo zo) ?_
 refine sL (zcZ (k:=s) zo zo) ?_
 cases r:(vd .and .u64 x (A.Y4.getD s 0)==A.Y4.getD s 0)
 ·rw[r,Bool.false_and] at e
  rw[e]
  refine sW ?_
  exact .refl _
 ·rw[r,Bool.true_and] at e
  rw[e]
  refine sW ?_
  refine sL (zcZ (k:=s) zo zo) ?_
  exact .refl _
def c208:PC:=.seq (OP [Mv 3 cF]) (.seq (OP [qm 4 0,Bi 5 .lss 4 (cI 0),qm 6 5,GF 7 6 (.move 0),GF 8 6 (.zg 1),GF 9 6 (.bin .geq 7 8),Pk 10 6 cT 9,qm 3 10]) .ret)
theorem zuE:zy Tryz.prog 208 11 [.tmp 3] c208:=fK Tryz.func208
theorem zuu (x:Int) (n:Nat):zq Tryz.prog 208 [.sc (.int .i64 x),.y7 [.sc (.int .i64 n)]] (.sc (.bool (decide (x<0)||decide (x≥(n:Int))))):=by
 refine za zuE zs (by simp[ze,Pure]) ?_ (by simp[Pure])
 refine sR ?_
 refine sS (λh=>?_) λh=>?_
 ·exact yA zs
 ·exact yA zs
def c151:PC:=.seq (OP [Bx 3 1,Mv 4 cF]) (.seq (OP [qm 5 0,q 6 (.qj (.func 208) [] [3]),Ca 7 49 [5,6],qm 4 7]) .ret)
theorem zuH:zy Tryz.prog 151 8 [.tmp 4] c151:=fK Tryz.func151
theorem zkL (l:List Int) (hl:l.length≤9223372036854775807) (n:Nat):zq Tryz.prog 151 [zB l,.sc (.int .i64 n)] (.sc (.bool !(xH l n))):=by
 refine za zuH zs (by simp[ze,Pure,zi]) ?_ (by simp[Pure])
 refine sR ?_
 refine sN (y4 (λn=>.sc (.int .i64 n)) (λa=>by simp[Pure]) l hl (λx=>decide (x<0)||decide (x≥(n:Int))) 208 [.y7 [.sc (.int .i64 n)]] (by simp[ze,Pure]) λa _=>zuu a n) ?_
 rw[zhv]
 exact .refl _
def c152:PC:=.seq (OP [Mv 3 cF]) (.seq (OP [qm 4 0,Lo 5 1,Ca 6 151 [4,5],qm 3 6]) .ret)
theorem zuW:zy Tryz.prog 152 7 [.tmp 3] c152:=fK Tryz.func152
theorem zoZ (l:List Int) (hl:l.length≤9223372036854775807) (n:Nat):zq Tryz.prog 152 [zB l,.y7 [.sc (.int .i64 n)]] (.sc (.bool !(xH l n))):=by
 refine za zuW zs (by simp[ze,Pure,zi]) ?_ (by simp[Pure])
 refine sR ?_
 refine sC (zkL l hl n) ?_
 exact .refl _
def c153:PC:=.seq (OP [Mv 3 cF]) (.seq (OP [qm 4 0,Lo 5 1,Ca 6 151 [4,5],qm 3 6]) .ret)
theorem zuy:zy Tryz.prog 153 7 [.tmp 3] c153:=fK Tryz.func153
theorem zoe (l:List Int) (hl:l.length≤9223372036854775807) (n:Nat):zq Tryz.prog 153 [zB l,.y7 [.sc (.int .i64 n)]] (.sc (.bool !(xH l n))):=by
 refine za zuy zs (by simp[ze,Pure,zi]) ?_ (by simp[Pure])
 refine sR ?_
 refine sC (zkL l hl n) ?_
 exact .refl _
def c80:PC:=.seq (OP [Bx 1 0,Mv 2 (cI 0)]) (.seq (OP [Fa 4 1 1,Lo 5 4,Ln 6 5,q 3 (.alloc [(.int .i64 0)]),So 1 3 6]) (.seq (.seq (OP [Lo 7 3,Bi 8 .gtr 7 (cI 2048),qm 9 8,GF 10 9 (.zz 4 1),GF 11 9 (.zg 10),GF 12 9 (.len 11),GF 13 9 (.bin .gtr 12 (cI 80)),Pk 14 9 cT 13]) (.cond 14 (.seq (OP [Mv 2 (cI 2)]) .ret) .skip)) (.seq (.seq (OP [Fa 15 2 1,Lo 16 15,Ln 17 16,Lo 18 3,Bi 19 .neq 17 18,qm 20 19,GF 21 20 (.zz 3 1),GF 22 20 (.zg 21),GF 23 20 (.len 22),GF 24 20 (.zg 3),GF 25 20 (.bin .neq 23 24),Pk 26 20 cT 25,qm 27 26,GF 28 27 (.zz 0 1),GF 29 27 (.zg 28),GF 30 27 (.zg 3),GF 31 27 (.call 151 [29,30]),Pk 32 27 cT 31]) (.cond 32 (.seq (OP [Mv 2 (cI 1)]) .ret) .skip)) (.seq (.seq (OP [Fa 33 1 1,Lo 34 33,q 35 (.qj (.func 152) [] [3]),Ca 36 69 [34,35],qm 37 36,GF 38 37 (.zz 4 1),GF 39 37 (.zg 38),GF 40 37 (.qj (.func 153) [] [3]),GF 41 37 (.call 69 [39,40]),Pk 42 37 cT 41]) (.cond 42 (.seq (OP [Mv 2 (cI 1)]) .ret) .skip)) (.seq (OP [Mv 2 (cI 0)]) .ret)))))
theorem zzv:zy Tryz.prog 80 43 [.tmp 2] c80:=fK Tryz.func80
theorem zqp (A:yh) (hA:A.Fits):zq Tryz.prog 80 [V4 A] (.sc (.int .i64 A.yJ)):=by
 have b1:=hA.start
 have b2:=hA.next
 have b3:=hA.Y4
 have b4:=hA.fair
 have b5:=hA.Vm
 refine za zzv zs (by simp[ze,Pure,qU]) ?_ (by simp[Pure])
 refine sR ?_
 rw[List.length_map]
 have fin:∀{H:List zf} {z:Int},z=A.yJ→Deep H (.sc (.int .i64 z)) (.sc (.int .i64 A.yJ)):=λh=>h▸.refl _
 refine sS (λh1=>?_) λh1=>?_
 ·exact fin (by unfold yh.yJ;rw[if_pos (sO)])
 rw[List.length_map]
 refine sS (λh2=>?_) λh2=>?_
 ·exact fin (by unfold yh.yJ;rw[if_pos (sO)])
 have c1:¬(2048<A.next.length∨80<A.fair.length):=sO
 rw[List.length_map]
 refine sS (λh3=>?_) λh3=>?_
 ·exact fin (by unfold yh.yJ;rw[if_neg c1,if_pos (sO)])
 rw[List.length_map]
 refine sS (λh3'=>?_) λh3'=>?_
 ·exact fin (by unfold yh.yJ;rw[if_neg c1,if_pos (sO)])
 refine sC (zkL A.start zo A.next.length) ?_
 refine sS (λh4=>?_) λh4=>?_
 ·exact fin (by unfold yh.yJ;rw[if_neg c1,if_pos (.inr (.inr (by simpa using h4)))])
 have c2:¬(A.Y4.length≠A.next.length∨A.Vm.length≠A.next.length∨xH A.start A.next.length=false):=by
  rintro(q|q|q)
  ·exact sO
  ·exact sO
  ·rw[q] at h4;cases h4
 refine sN (X5 zB zi A.next zo (λl=>!(xH l A.next.length)) 152 [.y7 [.sc (.int .i64 A.next.length)]] (by simp[ze,Pure]) λa ha=>zoZ a (by have:=hA.WI a ha;omega) _) ?_
 refine sS (λg2=>?_) λg2=>?_
 ·exact fin (by unfold yh.yJ;rw[if_neg c1,if_neg c2,if_pos g2])
 have c3:¬(A.next.any λl=>!(xH l A.next.length))=true:=by rw[g2];simp
 refine sN (X5 zB zi A.fair zo (λl=>!(xH l A.next.length)) 153 [.y7 [.sc (.int .i64 A.next.length)]] (by simp[ze,Pure]) λa ha=>zoe a (by have:=hA.WJ a ha;omega) _) ?_
 refine sS (λg3=>?_) λg3=>?_
 ·exact fin (by unfold yh.yJ;rw[if_neg c1,if_neg c2,if_neg c3,if_pos g3])
 ·exact fin (by unfold yh.yJ;rw[if_neg c1,if_neg c2,if_neg c3,if_neg (by rw[g3];simp)])
end
section
open Go.RowKit
def gl (n:Nat) (g:Nat→Int):List Int:=(List.range n).map g
@[simp] theorem zhw (n:Nat) (g:Nat→Int):(gl n g).length=n:=by simp[gl]
theorem Qe {n k:Nat} {g:Nat→Int} (h:k<n):(gl n g).getD k 0=g k:=by
 rw[List.getD_eq_getElem?_getD]
 simp[gl,List.getElem?_map,List.getElem?_range h]
@[simp] theorem zA9 (l:List Int):(zL l).length=l.length:=by simp[zL]
theorem zu9 {l:List Int} {z k:Nat} (hz:z=k) (h:k<l.length):(zL l)[z]? = some [.sc (.int .i64 (l.getD k 0))]:=yb hz h
theorem yl {n:Nat} {g:Nat→Int} {z:Nat} (k:Nat) (hz:z=k) (h:k<n):(zL (gl n g))[z]? = some [.sc (.int .i64 (g k))]:=by
 rw[zu9 hz (by rw[zhw];exact h),Qe h]
theorem Yx {n:Nat} {g g':Nat→Int} (h:∀i,i<n→g i=g' i):gl n g=gl n g':=List.map_congr_left λi hi=>h i (List.mem_range.1 hi)
def Ww (g:Nat→Int) (k:Nat) (v:Int):Nat→Int:=λi=>if i=k then v else g i
@[simp] theorem qb (g:Nat→Int) (k:Nat) (v:Int):Ww g k v k=v:=by simp[Ww]
theorem Vw {g:Nat→Int} {k i:Nat} {v:Int} (h:i≠k):Ww g k v i=g i:=by simp[Ww,h]
theorem qo {n z k:Nat} {g:Nat→Int} {v:Int} (hz:z=k):(zL (gl n g)).set z [.sc (.int .i64 v)]=zL (gl n (Ww g k v)):=by
 subst hz
 apply List.ext_getElem?
 intro i
 by_cases hi:i<n
 ·rw[List.getElem?_set]
  by_cases e:z=i
  ·subst e
   rw[if_pos rfl,if_pos (by simp;exact hi),yl z rfl hi,qb]
  ·rw[if_neg e,yl i rfl hi,yl i rfl hi,Vw (λq=>e q.symm)]
 ·rw[List.getElem?_eq_none (by simp;omega),List.getElem?_eq_none (by simp;omega)]
theorem ze3 (n:Nat):List.replicate n [D.sc (.int .i64 0)]=zL (gl n λ_=>0):=by
 apply List.ext_getElem?
 intro i
 by_cases hi:i<n
 ·rw[yl i rfl hi,List.getElem?_replicate,if_pos hi]
 ·rw[List.getElem?_eq_none (by simp;omega),List.getElem?_eq_none (by simp;omega)]
theorem zcJ {H:List zf} {id v n:Nat} {q:Bool} {g:Nat→Int} (h:H[id]? = some (.vec q v 1 (zL (gl n g)))):Deep H (.own id v 0 n) (zB (gl n g)):=.own _ _ _ _ _ _ _ _ h (by rw[List.drop_zero,List.take_of_length_le (by simp[zL,gl])];exact z6 _)
end
section
open Go.RowKit
def gn (f:Nat→Nat):Nat→Int:=λi=>(f i:Int)
def wv (g:List (List Int)) (num low:Nat→Nat) (part:Nat→Int) (Z:List Int) (h zY count Ym:Nat):List zf :=
 [.vec true 0 1 (zL (gl g.length (gn num))),.vec true 0 1 (zL (gl g.length (gn low))),.vec true 0 1 (zL (gl g.length part)),.row true [ya g,.own 0 0 0 g.length,.own 1 0 0 g.length,.own 2 0 0 g.length,.own 4 zY 0 h,.sc (.int .i64 count),.sc (.int .i64 Ym)],.vec true zY 1 (zL Z)]
theorem UN {g:List (List Int)} {num low:Nat→Nat} {part:Nat→Int} {Z:List Int} {h zY count Ym:Nat}:∀o∈wv g num low part Z h zY count Ym,o.under 5:=by
 intro o ho
 simp only[wv,List.mem_cons,List.not_mem_nil,or_false] at ho
 rcases ho with rfl|rfl|rfl|rfl|rfl<;>simp[zf.under,zl,zt,zw _ (z7 g)]
theorem znq (f:Nat→Nat) (k v:Nat):Ww (gn f) k (v:Int)=gn (up f k v):=by
 funext i
 unfold Ww gn up
 split<;>rfl
theorem zaD {Z:List Int} {h:Nat} {x:Int}:List.drop 0 (List.take h (zL Z))++List.drop 0 (List.take 1 [[D.sc (.int .i64 x)]])=zL (Z.take h++[x]):=by simp[zL,List.map_take]
def c210:PC:=.seq (OP [qm 4 0,q 5 (.zn 4),Fa 6 5 5,Lo 7 6,Bi 8 .add 7 (cI 1),q 9 (.zn 4),Fa 10 5 9,So 1 10 8]) (.seq (.ops [qm 11 0,qd 12 (.zn 11) 1,qd 13 (.zz 1 12) 3,qd 14 (.zg 13) 7,qm 15 1,qm 16 0,qd 17 (.zn 16) 32,qd 18 (.zz 2 17) 96,qd 19 (.zg 18) 224,qm 20 1,qm 21 0,qd 22 (.zn 21) 1024,qd 23 (.zz 5 22) 3072,qd 24 (.zg 23) 7168,qm 25 0,qd 26 (.zn 25) 16384,qd 27 (.zz 5 26) 49152,qd 28 (.zg 27) 114688,qd 29 (.zM 1 14 15) 261631,qk (.store 1 29 24) 523775,qd 30 (.zM 1 19 20) 1048575,qk (.store 1 30 28) 2097151] true) (OP [qm 31 0,qm 32 0,q 33 (.zn 32),Fa 34 4 33,Lo 35 34,qm 36 1,Bs 37 1 1 [36],Ap 38 1 8 35 37,q 39 (.zn 31),Fa 40 4 39,So 1 40 38]))
theorem ztX:zy Tryz.prog 210 41 [] c210:=fK Tryz.func210
theorem zis (g:List (List Int)) (hn:g.length≤1000000000) (num low:Nat→Nat) (part:Nat→Int) (Z:List Int) (h zY count Ym:Nat) (hh:h≤Z.length) (hh':h≤1000000000) (hc:count≤1000000000) (v:Nat) (hv:v<g.length) :
  yu Tryz.prog 210 [.loc 3 0,.sc (.int .i64 v)] (wv g num low part Z h zY count Ym) (.yO []) (wv g (up num v (count+1)) (up low v (count+1)) part (Z.take h++[(v:Int)]) (h+1) (zY+1) (count+1) Ym):=by
 refine z1 ztX zs (by simp[wv]) ?_ (by simp[zt,zl]) UN
 unfold wv
 refine sR ?_
 refine sI ?_
 refine sB ?_
 refine⟨_,yl v zo hv,?_⟩
 refine sW ?_
 refine sB ?_
 refine⟨_,yl v zo hv,?_⟩
 refine sW ?_
 refine sJ ?_
 refine⟨?_,zs⟩
 rw[show(count:Int)+1=((count+1:Nat):Int) from rfl,qo (k:=v) zo,qo (k:=v) zo,znq,znq,zaD]
 rfl
def zi6 (part:Nat→Int) (st:List Nat) (Ym:Nat):Nat→Int:=λv=>if v∈st then (Ym:Int) else part v
theorem zrj (part:Nat→Int) (Ym:Nat):zi6 part [] Ym=part:=by funext v;simp[zi6]
theorem zgN (part:Nat→Int) (st:List Nat) (Ym k:Nat):Ww (zi6 part st Ym) k (Ym:Int)=zi6 part (st++[k]) Ym:=by
 funext i
 unfold Ww zi6
 by_cases e:i=k
 ·subst e;simp
 ·simp[e]
def zz8:PC:=.block 1 (.seq (.ops [qm 5 0,qd 6 (.zn 5) 1,qd 7 (.zz 4 6) 3,qd 8 (.zg 7) 7,qm 9 0,qd 10 (.zn 9) 16,qd 11 (.zz 4 10) 48,qd 12 (.zg 11) 112,qd 13 (.len 12) 240,qd 14 (.bin .sub 13 (cI 1)) 496,qd 15 (.zM 1 8 14) 1023,qd 16 (.zg 15) 2047,qw 4 16 4095] true) (.seq (.ops [qm 17 0,qm 18 0,qd 19 (.zn 18) 2,qd 20 (.zz 4 19) 6,qd 21 (.zg 20) 14,qm 22 0,qd 23 (.zn 22) 32,qd 24 (.zz 4 23) 96,qd 25 (.zg 24) 224,qd 26 (.len 25) 480,qd 27 (.bin .sub 26 (cI 1)) 992,qd 28 (.slc 1 21 none (some 27) none) 2046,qd 29 (.zn 17) 4095,qd 30 (.zz 4 29) 8191,qk (.store 1 30 28) 16383] true) (.seq (.ops [qm 31 0,qd 32 (.zn 31) 1,qd 33 (.zz 3 32) 3,qd 34 (.zg 33) 7,qm 35 4,qm 36 0,qd 37 (.zn 36) 32,qd 38 (.zz 6 37) 96,qd 39 (.zg 38) 224,qd 40 (.zM 1 34 35) 511,qk (.store 1 40 39) 1023] true) (.seq (OP [qm 41 4,qm 42 1,Bi 43 .eql 41 42]) (.cond 43 (.exit 0) .skip)))))
def c211:PC:=.seq (.block 0 (.loop zz8)) (OP [qm 44 0,q 45 (.zn 44),Fa 46 6 45,Lo 47 46,Bi 48 .add 47 (cI 1),q 49 (.zn 44),Fa 50 6 49,So 1 50 48])
theorem ztw:zy Tryz.prog 211 51 [] c211:=fK Tryz.func211
theorem zqT (g:List (List Int)) (hn:g.length≤1000000000) (num low:Nat→Nat) (part:Nat→Int) (Z:List Int) (pre post:List Nat) (n:Nat) (zY count Ym:Nat) (hh:(pre++n::post).length≤Z.length) (hh':(pre++n::post).length≤1000000000) (hg:Ym≤1000000000)
  (hZ:∀j,j<(pre++n::post).length→Z.getD ((pre++n::post).length-1-j) 0=(((pre++n::post).getD j 0:Nat):Int)) (hst:∀v∈pre++n::post,v<g.length) (hp:n ∉ pre) :
  yu Tryz.prog 211 [.loc 3 0,.sc (.int .i64 n)] (wv g num low part Z (pre++n::post).length zY count Ym) (.yO []) (wv g num low (zi6 part (pre++[n]) Ym) Z post.length zY count (Ym+1)):=by
 refine z1 ztw zs (by simp[wv]) ?_ (by simp[zt,zl]) UN
 (apply ziI;focus (repeat' constructor))
 generalize hst0:pre++n::post=st at *
 refine z8 [0,1] (λ_:Nat=>[]) (λj=>wv g num low (zi6 part (st.take j) Ym) Z (st.length-j) zY count Ym)
  (λj=>j≤pre.length) (λj=>pre.length-j) 0 ?_
 refine sW ?_
 refine⟨zo,by exact sK,by rw[List.take_zero,zrj];rfl,?_⟩
 rintro j hj
 have hlen:st.length=pre.length+post.length+1:=by rw[←hst0];simp;omega
 have hkz:=hZ j zo
 have hks:st.getD j 0∈st:=by rw[List.getD_eq_getElem?_getD,List.getElem?_eq_getElem zo];exact List.getElem_mem _
 have hkn:=hst _ hks
 have htk:st.take (j+1)=st.take j++[st.getD j 0]:=by
  rw[List.take_add_one,List.getElem?_eq_getElem zo,List.getD_eq_getElem?_getD,List.getElem?_eq_getElem zo];rfl
 have hend:st.getD j 0=n↔j=pre.length:=by
  rw[←hst0]
  constructor
  ·intro e
   rcases Nat.lt_or_ge j pre.length with q|q
   ·exfalso
    rw[List.getD_eq_getElem?_getD,List.getElem?_append_left q,List.getElem?_eq_getElem q] at e
    exact hp (e▸List.getElem_mem q)
   ·omega
  ·intro e
   subst e
   rw[List.getD_eq_getElem?_getD,List.getElem?_append_right (Nat.le_refl _),Nat.sub_self]
   rfl
 generalize hk:st.getD j 0=k at *
 unfold wv
 refine sW ?_
 refine sR ?_
 refine sI ?_
 refine sB ?_
 refine⟨_,yb (l:=Z) (k:=st.length-1-j) zo zo,?_⟩
 rw[hkz]
 refine sW ?_
 refine sI ?_
 refine⟨zo,zo,zo,?_⟩
 refine sW ?_
 refine sB ?_
 refine⟨_,yl k zo hkn,?_⟩
 refine sW ?_
 refine sS (λq=>?_) λq=>?_
 ·have q:k=n:=sO
  have q':=hend.1 q
  refine sI ?_
  have hpn:st.take (j+1)=pre++[n]:=by
   rw[←hst0,q',show pre++n::post=(pre++[n])++post by simp,List.take_left' zs]
  refine⟨?_,zs⟩
  rw[qo (k:=k) zo,zgN,←htk,hpn,show 0+((st.length-j-0:Nat)-1:Int).toNat=post.length by omega]
  rfl
 ·have q:k≠n:=sO
  have q':=λz=>q (hend.2 z)
  refine⟨j+1,zo,zd,zD (by exact sK) ?_⟩
  rw[qo (k:=k) zo,zgN,←htk,show 0+((st.length-j-0:Nat)-1:Int).toNat=st.length-(j+1) by omega]
end
section
structure TR where
 S:TJ
 Z:List Int
 zY:Nat
structure ZOK (st:List Nat) (Z:List Int):Prop where
 len:st.length≤Z.length
 at_:∀j,j<st.length→Z.getD (st.length-1-j) 0=((st.getD j 0:Nat):Int)
theorem ZOK.push {st:List Nat} {Z:List Int} (h:ZOK st Z) (v:Nat):ZOK (v::st) (Z.take st.length++[(v:Int)]) where
 len:=by have:=h.len;simp;omega
 at_ j hj:=by
  have hl:=h.len
  simp only[List.length_cons] at hj ⊢
  cases j with
  | zero =>
   rw[List.getD_eq_getElem?_getD,List.getElem?_append_right (by simp;omega)]
   rw[show st.length+1-1-0-(Z.take st.length).length=0 by simp;omega]
   rfl
  | succ j =>
   have:=h.at_ j zo
   rw[List.getD_cons_succ,←this,List.getD_eq_getElem?_getD,List.getD_eq_getElem?_getD,List.getElem?_append_left (by simp;omega),List.getElem?_take,if_pos zo,show st.length+1-1-(j+1)=st.length-1-j by omega]
theorem ZOK.drop {pre post:List Nat} {Z:List Int} (h:ZOK (pre++post) Z):ZOK post Z where
 len:=by have:=h.len;simp at this;omega
 at_ j hj:=by
  have:=h.at_ (pre.length+j) (by simp;omega)
  rw[List.getD_eq_getElem?_getD (l:=pre++post),List.getElem?_append_right zo,Nat.add_sub_cancel_left,←List.getD_eq_getElem?_getD,List.length_append,show pre.length+post.length-1-(pre.length+j)=post.length-1-j by omega] at this
  exact this
structure TRI (g:List (List Int)) (R:TR):Prop where
 tj:TjI g R.S
 zok:ZOK R.S.stack R.Z
def TR.open (R:TR) (v:Nat) (path:List (Nat × Nat)):TR:=⟨R.S.open v path,R.Z.take R.S.stack.length++[(v:Int)],R.zY+1⟩
def stepT (g:List (List Int)) (R:TR):TR :=
 match R.S.path with
 | []=>R
 | (p,i)::r =>
  if i<(g.getD p []).length then
   if R.S.num ((g.getD p []).getD i 0).toNat=0 then R.open ((g.getD p []).getD i 0).toNat ((p,i+1)::r)
   else ⟨R.S.skip p i r ((g.getD p []).getD i 0).toNat,R.Z,R.zY⟩
  else match r with
   | []=>⟨R.S.shut p [] R.S.low,R.Z,R.zY⟩
   | (q,j)::r'=>if R.S.low p=R.S.num p then ⟨R.S.shut p ((q,j)::r') (up R.S.low q (min (R.S.low q) (R.S.low p))),R.Z,R.zY⟩ else ⟨R.S.back p q j r',R.Z,R.zY⟩
def runT (g:List (List Int)):Nat→TR→TR
 | 0,R=>R
 | k+1,R=>if R.S.path=[] then R else runT g k (stepT g R)
theorem zq1 {g:List (List Int)} {R:TR} (h:R.S.path=[]):∀k,runT g k R=R
 | 0=>rfl
 | k+1=>by simp only[runT,if_pos h]
theorem TjI.split {g:List (List Int)} {S:TJ} (h:TjI g S) {n:Nat} (hn:n∈S.stack):∃pre post,S.stack=pre++n::post∧n ∉ pre∧(∀v,v∈pre++[n]↔v∈S.stack∧S.num n≤S.num v)∧S.stack.filter (λv=>decide (S.num v<S.num n))=post:=by
 obtain⟨pre,post,e⟩:=List.append_of_mem hn
 have hs:=h.srt
 rw[e,List.pairwise_append] at hs
 obtain⟨s1,s2,s3⟩:=hs
 rw[List.pairwise_cons] at s2
 have p1:∀v∈pre,S.num n<S.num v:=λv hv=>s3 v hv n zs
 have p2:∀v∈post,S.num v<S.num n:=λv hv=>s2.1 v hv
 refine⟨pre,post,e,λq=>by have:=p1 n q;omega,λv=>?_,?_⟩
 ·rw[e]
  simp only[List.mem_append,List.mem_cons,List.not_mem_nil,or_false]
  constructor
  ·rintro(q|q)
   ·exact⟨.inl q,Nat.le_of_lt (p1 v q)⟩
   ·subst q;exact⟨.inr (.inl rfl),Nat.le_refl _⟩
  ·rintro⟨q|q|q,k⟩
   ·exact .inl q
   ·exact .inr q
   ·have:=p2 v q;omega
 ·rw[e,List.filter_append,List.filter_cons,if_neg zs]
  have f1:pre.filter (λv=>decide (S.num v<S.num n))=[]:=List.filter_eq_nil_iff.2 λv hv=>by have:=p1 v hv;simp;omega
  have f2:post.filter (λv=>decide (S.num v<S.num n))=post:=List.filter_eq_self.2 λv hv=>by simpa using p2 v hv
  rw[f1,f2];rfl
theorem TjI.zkg {g:List (List Int)} {S:TJ} (h:TjI g S) {p i:Nat} (hp:S.path=[(p,i)]):S.low p=S.num p:=by
 have hseg:=h.seg
 rw[hp] at hseg
 obtain⟨g1,g2,g3,g4,g5,⟨w,w1,w2,w3⟩,g7,g8,g9⟩:=hseg
 have:=g9 w w1
 omega
theorem TRI.shut {g:List (List Int)} {R:TR} (h:TRI g R) {n i:Nat} {r:List (Nat × Nat)} (hp:R.S.path=(n,i)::r) (hi:(g.getD n []).length≤i) (hl:R.S.low n=R.S.num n) {low:Nat→Nat} (hlow:∀v,R.S.num v<R.S.num n→low v=R.S.low v):TRI g ⟨R.S.shut n r low,R.Z,R.zY⟩:=by
 refine⟨h.tj.shut hp hi hl hlow,?_⟩
 have hn:n∈R.S.stack:=by have:=h.tj.seg;rw[hp] at this;exact this.1
 obtain⟨pre,post,e,e1,e2,e3⟩:=h.tj.split hn
 show ZOK (R.S.stack.filter _) R.Z
 rw[e3]
 have:=h.zok
 rw[e,show pre++n::post=(pre++[n])++post by simp] at this
 exact this.drop
theorem zj0 {g:List (List Int)} (xL:∀v x,x∈g.getD v []→x.toNat<g.length) {R:TR} (h:TRI g R) (hp:R.S.path≠[]):TRI g (stepT g R)∧TJ.fuel g (stepT g R).S<TJ.fuel g R.S∧∀x,R.S.num x≠0→(stepT g R).S.num x≠0:=by
 unfold stepT
 cases e:R.S.path with
 | nil=>exact absurd e hp
 | cons q r =>
  obtain⟨p,i⟩:=q
  dsimp only
  by_cases hi:i<(g.getD p []).length
  ·rw[if_pos hi]
   have hv:=xL p _ (yv hi)
   by_cases h0:R.S.num ((g.getD p []).getD i 0).toNat=0
   ·rw[if_pos h0]
    refine⟨⟨h.tj.push e hi hv h0,h.zok.push _⟩,by have:=zo7 e hi hv h0;show TJ.fuel g (R.S.open _ _)<_;omega,λx hx=>?_⟩
    show up R.S.num _ _ x≠0
    rw[vR (λq=>hx (by rw[q];exact h0))]
    exact hx
   ·rw[if_neg h0]
    exact⟨⟨h.tj.skip e hi h0,h.zok⟩,by have:=zpc (x:=((g.getD p []).getD i 0).toNat) e hi;show TJ.fuel g (R.S.skip _ _ _ _)<_;omega,λx hx=>hx⟩
  ·rw[if_neg hi]
   cases r with
   | nil =>
    exact⟨h.shut e zo (h.tj.zkg e) (λ_ _=>rfl),zfY e,λx hx=>hx⟩
   | cons q r =>
    obtain⟨q,j⟩:=q
    dsimp only
    by_cases hl:R.S.low p=R.S.num p
    ·rw[if_pos hl]
     have hseg:=h.tj.seg
     rw[e] at hseg
     obtain⟨g1,g2,g3,g4,g5,g6,g7,g8,f1,f2,f3,f4,f5,f6,f7,f8,f9⟩:=hseg
     refine⟨h.shut e zo hl (λv _=>?_),zfY e,λx hx=>hx⟩
     by_cases ev:v=q
     ·subst ev;rw[wB];omega
     ·rw[vR ev]
    ·rw[if_neg hl]
     exact⟨⟨h.tj.back e zo hl,h.zok⟩,znU e,λx hx=>hx⟩
theorem zmE {g:List (List Int)} (xL:∀v x,x∈g.getD v []→x.toNat<g.length):∀(k:Nat) {R:TR},TRI g R→TJ.fuel g R.S≤k→TRI g (runT g k R)∧(runT g k R).S.path=[]∧∀x,R.S.num x≠0→(runT g k R).S.num x≠0
 | 0,R,h,hk=>by
  have hp:R.S.path=[]:=by
   cases e:R.S.path with
   | nil=>rfl
   | cons q r=>obtain⟨p,i⟩:=q;unfold TJ.fuel at hk;rw[e] at hk;simp only[Wf] at hk;omega
  exact⟨h,hp,λx hx=>hx⟩
 | k+1,R,h,hk=>by
  simp only[runT]
  by_cases hp:R.S.path=[]
  ·rw[if_pos hp];exact⟨h,hp,λx hx=>hx⟩
  ·rw[if_neg hp]
   obtain⟨a,b,c⟩:=zj0 xL h hp
   obtain⟨a',b',c'⟩:=zmE xL k a zo
   exact⟨a',b',λx hx=>c' x (c x hx)⟩
theorem TRI.root {g:List (List Int)} {R:TR} (h:TRI g R) (hp:R.S.path=[]) {v:Nat} (hv:v<g.length) (h0:R.S.num v=0):TRI g (R.open v []):=by
 refine⟨h.tj.opened hv h0 (Nat.zero_le _) ?_ trivial,h.zok.push v⟩
 have:=h.tj.seg
 rw[hp] at this
 exact this
def Vu (g:List (List Int)) (R:TR) (v:Nat):TR:=runT g (TJ.fuel g (R.open v []).S) (R.open v [])
def xp (g:List (List Int)):Nat→TR
 | 0=>⟨⟨λ_=>0,λ_=>0,λ_=>-1,[],[],0,0⟩,[],0⟩
 | k+1=>if (xp g k).S.num k=0 then Vu g (xp g k) k else xp g k
theorem zpf {g:List (List Int)} (xL:∀v x,x∈g.getD v []→x.toNat<g.length) {R:TR} (h:TRI g R) (hp:R.S.path=[]) {v:Nat} (hv:v<g.length) (h0:R.S.num v=0) :
  TRI g (Vu g R v)∧(Vu g R v).S.path=[]∧(Vu g R v).S.num v≠0∧∀x,R.S.num x≠0→(Vu g R v).S.num x≠0:=by
 obtain⟨a,b,c⟩:=zmE xL _ (h.root hp hv h0) (Nat.le_refl _)
 refine⟨a,b,c v ?_,λx hx=>c x ?_⟩
 ·show up R.S.num v (R.S.count+1) v≠0;rw[wB];omega
 ·show up R.S.num v (R.S.count+1) x≠0
  by_cases e:x=v
  ·subst e;rw[wB];omega
  ·rw[vR e];exact hx
theorem WW {g:List (List Int)} (xL:∀v x,x∈g.getD v []→x.toNat<g.length):∀k,k≤g.length→TRI g (xp g k)∧(xp g k).S.path=[]∧∀j,j<k→(xp g k).S.num j≠0
 | 0,_=>⟨⟨TjI.zero g,⟨Nat.le_refl _,λj hj=>by cases hj⟩⟩,rfl,λj hj=>by cases hj⟩
 | k+1,hk=>by
  obtain⟨a,b,c⟩:=WW xL k zo
  simp only[xp]
  by_cases h0:(xp g k).S.num k=0
  ·rw[if_pos h0]
   obtain⟨a',b',c',d'⟩:=zpf xL a b (show k<g.length by omega) h0
   refine⟨a',b',λj hj=>?_⟩
   by_cases e:j=k
   ·subst e;exact c'
   ·exact d' j (c j zo)
  ·rw[if_neg h0]
   refine⟨a,b,λj hj=>?_⟩
   by_cases e:j=k
   ·subst e;exact h0
   ·exact c j zo
theorem zoN {g:List (List Int)} (xL:∀v x,x∈g.getD v []→x.toNat<g.length):(∀i,i<g.length→0≤(xp g g.length).S.part i∧(xp g g.length).S.part i<((xp g g.length).S.Ym:Int)) ∧
  (∀i j,i<g.length→j<g.length→((xp g g.length).S.part i=(xp g g.length).S.part j↔JW g i j=true))∧(xp g g.length).S.Ym≤g.length:=by
 obtain⟨a,b,c⟩:=WW xL g.length (Nat.le_refl _)
 have hd:=λi (hi:i<g.length)=>a.tj.done b (c i hi)
 refine⟨λi hi=>⟨hd i hi,(a.tj.par i (hd i hi)).1⟩,λi j hi hj=>?_,?_⟩
 ·rw[a.tj.same i j (hd i hi) (hd j hj),xo]
 ·have h1:=a.tj.size
  have h2:=a.tj.seen
  omega
end
section
open Go.RowKit
def pz (l:List (Nat × Nat)):List (List D):=l.map λq=>[.sc (.int .i64 q.1),.sc (.int .i64 q.2)]
theorem zv5 (l:List (Nat × Nat)):yE (pz l):=zC _ (λl=>by simp[ze,Pure]) l
@[simp] theorem zyf {m:Nat} (l:List (Nat × Nat)):zF m (pz l)↔True:=⟨λ_=>trivial,λ_=>zh _ (zv5 l)⟩
theorem zsd {l:List (Nat × Nat)} {z k:Nat} (hz:z=k) (h:k<l.length):(pz l)[z]? = some [.sc (.int .i64 (l.getD k (0,0)).1),.sc (.int .i64 (l.getD k (0,0)).2)]:=by
 subst hz
 rw[List.getD_eq_getElem?_getD,List.getElem?_eq_getElem h]
 simp[pz,h]
theorem zzi {l:List (Nat × Nat)} {z k a b:Nat} (hz:z=k):(pz l).set z [.sc (.int .i64 a),.sc (.int .i64 b)]=pz (l.set k (a,b)):=by
 subst hz;simp[pz,List.map_set]
theorem zxZ {Z:List (Nat × Nat)} {h a:Nat}:List.drop 0 (List.take h (pz Z))++List.drop 0 (List.take 1 [[D.sc (.int .i64 a),D.sc (.int .i64 0)]])=pz (Z.take h++[(a,0)]):=by simp[pz,List.map_take]
structure POK (pa:List (Nat × Nat)) (PZ:List (Nat × Nat)):Prop where
 len:pa.length≤PZ.length
 eq:PZ.take pa.length=pa.reverse
theorem POK.top {q:Nat × Nat} {r PZ:List (Nat × Nat)} (h:POK (q::r) PZ):PZ.getD r.length (0,0)=q:=by
 have h1:=h.len
 have h2:=h.eq
 simp only[List.length_cons,List.reverse_cons] at h1 h2
 have h3:(PZ.take (r.length+1)).getD r.length (0,0)=(r.reverse++[q]).getD r.length (0,0):=by rw[h2]
 rw[List.getD_eq_getElem?_getD,List.getD_eq_getElem?_getD,List.getElem?_take,if_pos zo,List.getElem?_append_right zs] at h3
 rw[List.getD_eq_getElem?_getD,h3]
 simp
theorem POK.set {q q':Nat × Nat} {r PZ:List (Nat × Nat)} (h:POK (q::r) PZ):POK (q'::r) (PZ.set r.length q') where
 len:=by have:=h.len;simpa using this
 eq:=by
  have h1:=h.len
  have h2:=h.eq
  simp only[List.length_cons,List.reverse_cons] at h1 h2 ⊢
  rw[List.take_set,h2,List.set_append_right _ _ zs]
  simp
theorem POK.push {r PZ:List (Nat × Nat)} (h:POK r PZ) (q:Nat × Nat):POK (q::r) (PZ.take r.length++[q]) where
 len:=by have:=h.len;simp;omega
 eq:=by
  have h1:=h.len
  rw[List.take_of_length_le (by simp;omega),h.eq]
  simp
theorem POK.pop {q:Nat × Nat} {r PZ:List (Nat × Nat)} (h:POK (q::r) PZ):POK r PZ where
 len:=by have:=h.len;simp at this;omega
 eq:=by
  have h2:=h.eq
  simp only[List.length_cons,List.reverse_cons] at h2
  have h3:(PZ.take (r.length+1)).take r.length=(r.reverse++[q]).take r.length:=by rw[h2]
  rw[List.take_take,Nat.min_eq_left zo,List.take_left' zs] at h3
  exact h3
def Yc (g:List (List Int)) (R:TR):List zf:=wv g R.S.num R.S.low R.S.part R.Z R.S.stack.length R.zY R.S.count R.S.Ym
theorem zfR {g:List (List Int)} {num low:Nat→Nat} {part:Nat→Int} {Z:List Int} {h zY count Ym:Nat} (X:List zf) :
  []++((wv g num low part Z h zY count Ym).map (zf.yI λi=>([]:List zf).length+i)++X)=wv g num low part Z h zY count Ym++X:=by
 have e:(λi=>([]:List zf).length+i)=λi=>0+i:=rfl
 have hg:=λρ=>yH (ρ:=ρ) _ (z7 g)
 have h1:=λρ l=>yw (ρ:=ρ) _ (zC (λn:Int=>[D.sc (.int .i64 n)]) (λl=>by simp[ze,Pure]) l)
 simp only[wv,List.map_cons,List.map_nil,zf.yI,yG,hg,zL,h1,List.nil_append,List.cons_append]
 simp only[D.yI,Nat.zero_add,List.length_nil]
theorem zhE {g:List (List Int)} {num low:Nat→Nat} {part:Nat→Int} {Z:List Int} {h zY count Ym:Nat}:wD 5 (wv g num low part Z h zY count Ym):=by
 simp[wv,wD,zf.under,zl,zt,zw _ (z7 g)]
theorem VL {g:List (List Int)} {f:FuncId} {v:Int} {num low num' low':Nat→Nat} {part part':Nat→Int} {Z Z':List Int} {h zY count Ym h' ver' count' got':Nat}
  (hA:yu Tryz.prog f [.loc 3 0,.sc (.int .i64 v)] (wv g num low part Z h zY count Ym) (.yO []) (wv g num' low' part' Z' h' ver' count' got')) (X:List zf) :
  yu Tryz.prog f [.loc 3 0,.sc (.int .i64 v)] (wv g num low part Z h zY count Ym++X) (.yO []) (wv g num' low' part' Z' h' ver' count' got'++X) :=
 vB hA [] X (by simp[wv]) (by simp[wv,zl,zt]) zhE (by simp[yG,D.yI]) (by simp[D.yI,yG]) (zfR X) (zfR X)
theorem TRI.bounds {g:List (List Int)} {R:TR} (h:TRI g R) (hn:g.length≤1000000000):R.S.stack.length≤1000000000∧R.S.count≤1000000000∧R.S.Ym≤1000000000∧R.S.path.length≤1000000000:=by
 have h1:=h.tj.size
 have h2:=h.tj.seen
 have h3:=h.tj.deep
 omega
theorem zad {g:List (List Int)} (hn:g.length≤1000000000) {R:TR} (hI:TRI g R) {p:Nat} (hp:p∈R.S.stack) (low:Nat→Nat) (path:List (Nat × Nat)) (X:List zf) :
  yu Tryz.prog 211 [.loc 3 0,.sc (.int .i64 p)] (wv g R.S.num low R.S.part R.Z R.S.stack.length R.zY R.S.count R.S.Ym++X) (.yO []) (Yc g ⟨R.S.shut p path low,R.Z,R.zY⟩++X):=by
 have hb:=hI.bounds hn
 obtain⟨pre,post,e,e1,e2,e3⟩:=hI.tj.split hp
 have hst:∀v∈pre++p::post,v<g.length:=λv hv=>hI.tj.node v ((hI.tj.stk v).1 (e▸hv)).1
 have hl:=hI.zok.len
 have ha:=hI.zok.at_
 rw[e] at hl ha hb
 have hC:=zqT g hn R.S.num low R.S.part R.Z pre post p R.zY R.S.count R.S.Ym hl hb.1 hb.2.2.1 ha hst e1
 have ep:zi6 R.S.part (pre++[p]) R.S.Ym=(R.S.shut p path low).part:=by
  funext v
  show(if v∈pre++[p] then _ else _)=if v∈R.S.stack∧R.S.num p≤R.S.num v then _ else _
  by_cases q:v∈pre++[p]
  ·rw[if_pos q,if_pos ((e2 v).1 q)]
  ·rw[if_neg q,if_neg (λz=>q ((e2 v).2 z))]
 have es:(R.S.shut p path low).stack=post:=e3
 have:=VL hC X
 rw[ep,←e,←es] at this
 exact this
def zx4:PC:=.seq (.seq (OP [qm 15 4,Ln 16 15,Bi 17 .gtr 16 (cI 0)]) (.cond 17 .skip (.exit 0))) (.block 1 (.seq (OP [qm 18 4,qm 19 4,Ln 20 19,Bi 21 .sub 20 (cI 1),Ia 22 2 18 21,qm 5 22]) (.seq (.seq (.ops [qm 23 5,qd 24 (.zn 23) 1,qd 25 (.zz 1 24) 3,qd 26 (.zg 25) 7,qm 27 0,qd 28 (.zn 27) 16,qd 29 (.zz 0 28) 48,qd 30 (.zg 29) 112,qm 31 5,qd 32 (.zn 31) 256,qd 33 (.zz 0 32) 768,qd 34 (.zg 33) 1792,qd 35 (.zM 1 30 34) 4080,qd 36 (.zg 35) 8176,qd 37 (.len 36) 16368,qd 38 (.bin .lss 26 37) 32767] true) (.cond 38 (.seq (.ops [qm 39 0,qd 40 (.zn 39) 1,qd 41 (.zz 0 40) 3,qd 42 (.zg 41) 7,qm 43 5,qd 44 (.zn 43) 16,qd 45 (.zz 0 44) 48,qd 46 (.zg 45) 112,qd 47 (.zM 1 42 46) 255,qd 48 (.zg 47) 511,qm 49 5,qd 50 (.zn 49) 1024,qd 51 (.zz 1 50) 3072,qd 52 (.zg 51) 7168,qd 53 (.zM 1 48 52) 16383,qd 54 (.zg 53) 32767,qw 6 54 65535] true) (.seq (OP [qm 55 5,q 56 (.zn 55),Fa 57 1 56,Lo 58 57,Bi 59 .add 58 (cI 1),q 60 (.zn 55),Fa 61 1 60,So 1 61 59]) (.seq (.block 2 (.seq (OP [qm 63 0,q 64 (.zn 63),Fa 65 1 64,Lo 66 65,qm 67 6,Ia 68 1 66 67,Lo 69 68,Bi 70 .eql 69 (cI 0),qm 62 70]) (.cond 62 (.seq (OP [qm 71 0,qm 72 6,Ca 73 210 [71,72]]) (OP [qm 74 4,qm 75 6,q 76 (.build [(.int .i64 0),(.int .i64 0)] [(0,1,75),(1,1,(cI 0))]),Bs 77 2 1 [76],Ap 78 2 16 74 77,qm 4 78])) (.seq (OP [qm 80 0,q 81 (.zn 80),Fa 82 3 81,Lo 83 82,qm 84 6,Ia 85 1 83 84,Lo 86 85,Bi 87 .lss 86 (cI 0),qm 79 87]) (.cond 79 (.ops [qm 88 0,qd 89 (.zn 88) 1,qd 90 (.zz 2 89) 3,qd 91 (.zg 90) 7,qm 92 5,qd 93 (.zn 92) 16,qd 94 (.zz 0 93) 48,qd 95 (.zg 94) 112,qm 96 0,qd 97 (.zn 96) 256,qd 98 (.zz 2 97) 768,qd 99 (.zg 98) 1792,qm 100 5,qd 101 (.zn 100) 4096,qd 102 (.zz 0 101) 12288,qd 103 (.zg 102) 28672,qd 104 (.zM 1 99 103) 65280,qd 105 (.zg 104) 130816,qm 106 0,qd 107 (.zn 106) 262144,qd 108 (.zz 1 107) 786432,qd 109 (.zg 108) 1835008,qm 110 6,qd 111 (.zM 1 109 110) 8126464,qd 112 (.zg 111) 16515072,qd 113 (.mx false 105 112) 33554176,qd 114 (.zM 1 91 95) 67108863,qk (.store 1 114 113) 134217727] true) .skip))))) (.exit 1)))) .skip)) (.seq (OP [qm 115 5,q 116 (.zn 115),Fa 117 0 116,Lo 118 117,qm 7 118]) (.seq (OP [qm 119 4,qm 120 4,Ln 121 120,Bi 122 .sub 121 (cI 1),q 123 (.slc 2 119 none (some 122) none),qm 4 123]) (.seq (.seq (OP [qm 124 4,Ln 125 124,Bi 126 .gtr 125 (cI 0)]) (.cond 126 (.seq (OP [qm 127 4,qm 128 4,Ln 129 128,Bi 130 .sub 129 (cI 1),Ia 131 2 127 130,Fa 132 0 131,Lo 133 132,qm 8 133]) (.ops [qm 134 0,qd 135 (.zn 134) 1,qd 136 (.zz 2 135) 3,qd 137 (.zg 136) 7,qm 138 8,qm 139 0,qd 140 (.zn 139) 32,qd 141 (.zz 2 140) 96,qd 142 (.zg 141) 224,qm 143 8,qd 144 (.zM 1 142 143) 992,qd 145 (.zg 144) 2016,qm 146 0,qd 147 (.zn 146) 4096,qd 148 (.zz 2 147) 12288,qd 149 (.zg 148) 28672,qm 150 7,qd 151 (.zM 1 149 150) 126976,qd 152 (.zg 151) 258048,qd 153 (.mx false 145 152) 524256,qd 154 (.zM 1 137 138) 1048575,qk (.store 1 154 153) 2097151] true)) .skip)) (.seq (.ops [qm 155 0,qd 156 (.zn 155) 1,qd 157 (.zz 2 156) 3,qd 158 (.zg 157) 7,qm 159 7,qd 160 (.zM 1 158 159) 31,qd 161 (.zg 160) 63,qm 162 0,qd 163 (.zn 162) 128,qd 164 (.zz 1 163) 384,qd 165 (.zg 164) 896,qm 166 7,qd 167 (.zM 1 165 166) 3968,qd 168 (.zg 167) 8064,qd 169 (.bin .eql 161 168) 16383] true) (.cond 169 (OP [qm 170 0,qm 171 7,Ca 172 211 [170,171]]) .skip))))))))
def c155:PC:=.seq (OP [qm 9 1,q 10 (.build [(.int .i64 0),(.int .i64 0)] [(0,1,9),(1,1,(cI 0))]),Bs 11 2 1 [10],qm 4 11]) (.seq (OP [qm 12 0,qm 13 1,Ca 14 210 [12,13]]) (.block 0 (.loop zx4)))
theorem zuN:zy Tryz.prog 155 173 [] c155:=fK Tryz.func155
theorem zsD (g:List (List Int)) (hn:g.length≤1000000000) (hin0:∀l∈g,xH l g.length=true) (hF:uU g) (R:TR) (hR:TRI g R) (hp:R.S.path=[]) (v:Nat) (hv:v<g.length) (h0:R.S.num v=0) :
  yu Tryz.prog 155 [.loc 3 0,.sc (.int .i64 v)] (Yc g R) (.yO []) (Yc g (Vu g R v)):=by
 have hrow:=λk=>y3 hin0 k
 have xL:∀v x,x∈g.getD v []→x.toNat<g.length:=λv x hx=>by have:=zT (hrow v) hx;omega
 have hb:=hR.bounds hn
 have hB:=VL (zis g hn R.S.num R.S.low R.S.part R.Z R.S.stack.length R.zY R.S.count R.S.Ym hR.zok.len hb.1 hb.2.1 v hv) [.vec true 0 2 (pz [(v,0)])]
 refine z1 zuN zs (by simp[Yc,wv]) ?_ (by simp[zt,zl]) UN
 have hI0:=hR.root hp hv h0
 have eF:Vu g R v=runT g (TJ.fuel g (R.open v []).S) (R.open v []):=rfl
 generalize Vu g R v=Fin at *
 have eO:Yc g (R.open v [])=wv g (up R.S.num v (R.S.count+1)) (up R.S.low v (R.S.count+1)) R.S.part (R.Z.take R.S.stack.length++[(v:Int)]) (R.S.stack.length+1) (R.zY+1) (R.S.count+1) R.S.Ym:=rfl
 rw[←eO] at hB
 clear eO
 have ep:(R.open v []).S.path=[(v,0)]:=rfl
 generalize R.open v []=R0 at *
 unfold Yc wv at hB ⊢
 refine sR ?_
 refine sA hB ?_
 refine z8 [0] (λ((R,PZ,pver,k):TR × List (Nat × Nat) × Nat × Nat)=>[(4,.own 5 pver 0 R.S.path.length)]) (λ(R,PZ,pver,k)=>Yc g R++[.vec true pver 2 (pz PZ)])
  (λ(R,PZ,pver,k)=>TRI g R∧POK R.S.path PZ∧TJ.fuel g R.S≤k∧runT g k R=Fin) (λ(R,PZ,pver,k)=>TJ.fuel g R.S) (R0,[(v,0)],0,TJ.fuel g R0.S) ?_
 refine sW ?_
 refine⟨⟨hI0,by rw[ep];exact⟨zs,rfl⟩,Nat.le_refl _,eF.symm⟩,⟨by rw[ep];rfl,by exact sK⟩,rfl,?_⟩
 clear hB hI0 ep eF
 rintro⟨R,PZ,pver,k⟩ ⟨hI,hPZ,hk,hF'⟩
 have hb:=hI.bounds hn
 cases ep:R.S.path with
 | nil =>
  rw[zq1 ep] at hF'
  subst hF'
  have hph:R.S.path.length=0:=by rw[ep];rfl
  unfold Yc wv
  refine sW ?_
  refine sR ?_
  rw[hph]
  refine sW ?_
  show(5:Nat)≤6
  omega
 | cons q r =>
  obtain⟨p,i⟩:=q
  have hst:=hI.tj.seg
  rw[ep] at hst hPZ
  have hps:=hst.1
  have hpn:=hI.tj.node p ((hI.tj.stk p).1 hps).1
  have hsO:=zj0 xL hI (by rw[ep];simp)
  obtain⟨k',rfl⟩:∃k',k=k'+1:=⟨k-1,by have:=hsO.2.1;omega⟩
  have hF'':runT g k' (stepT g R)=Fin:=by rw[←hF'];simp only[runT];rw[if_neg (by rw[ep];simp)]
  have hlt:=hsO.2.1
  have hI':=hsO.1
  have htop:=hPZ.top
  have hPl:=hPZ.len
  rw[ep] at hb
  simp only[List.length_cons] at hb hPl
  have hgF:=hF.at p
  have hph:R.S.path.length=r.length+1:=by rw[ep];rfl
  generalize hS':stepT g R=R' at *
  unfold Yc wv ya
  refine sW ?_
  refine sR ?_
  rw[hph]
  refine sS (λq0=>?_) λq0=>?_
  ·have hat:(pz PZ)[r.length]? = some [.sc (.int .i64 p),.sc (.int .i64 i)]:=by rw[zsd rfl zo,htop]
   refine sI ?_
   refine sB ?_
   rw[show 0+(((r.length+1-0:Nat):Int)-1).toNat=r.length by omega]
   refine⟨_,hat,?_⟩
   refine sW ?_
   refine⟨_,hat,?_⟩
   refine sW ?_
   refine sL (xS (k:=p) zo hpn) ?_
   rw[List.length_map]
   refine sS (λhi=>?_) λhi=>?_
   ·have hi:i<(g.getD p []).length:=sO
    have hx:=zT (hrow p) (yv hi)
    refine⟨_,hat,?_⟩
    refine sW ?_
    refine sL (xS (k:=p) zo hpn) ?_
    refine⟨_,hat,?_⟩
    refine sW ?_
    refine sL (yb (l:=g.getD p []) (k:=i) zo hi) ?_
    refine⟨_,hat,?_⟩
    refine sW ?_
    refine sI ?_
    refine⟨_,hat,?_⟩
    refine sW ?_
    rw[show(i:Int)+1=((i+1:Nat):Int) from rfl,zzi (k:=r.length) rfl]
    have hPS:=hPZ.set (q':=(p,i+1))
    have hSl:(PZ.set r.length (p,i+1)).length=PZ.length:=zs
    have hto:stepT g R=if R.S.num ((g.getD p []).getD i 0).toNat=0 then R.open ((g.getD p []).getD i 0).toNat ((p,i+1)::r) else ⟨R.S.skip p i r ((g.getD p []).getD i 0).toNat,R.Z,R.zY⟩:=by
     unfold stepT;rw[ep];simp only[if_pos hi]
    have hxe:∀k,k=i→(g.getD p []).getD k 0=(g.getD p []).getD i 0:=λk e=>by rw[e]
    generalize (g.getD p []).getD i 0=x at *
    obtain⟨to,rfl⟩:∃to:Nat,x=to:=⟨x.toNat,zo⟩
    rw[Int.toNat_natCast] at hto
    have htn:to<g.length:=zo
    refine sB ?_
    refine⟨_,yl to zo htn,?_⟩
    refine sW ?_
    rw[show gn R.S.num to=(R.S.num to:Int) from rfl]
    refine sS (λh1=>?_) λh1=>?_
    ·have h1:R.S.num to=0:=sO
     rw[if_pos h1,hS'] at hto
     subst hto
     have hB:=VL (zis g hn R.S.num R.S.low R.S.part R.Z R.S.stack.length R.zY R.S.count R.S.Ym hI.zok.len hb.1 hb.2.1 to htn) [.vec true pver 2 (pz (PZ.set r.length (p,i+1)))]
     unfold wv ya at hB
     refine sA hB ?_
     refine sJ ?_
     refine⟨(R.open to ((p,i+1)::r),(PZ.set r.length (p,i+1)).take (r.length+1)++[(to,0)],pver+1,k'),⟨hI',hPS.push (to,0),zo,hF''⟩,zd,?_⟩
     refine zj 6 zs rfl sQ (sU ?_)
     exact zp zxZ
    ·have h1:R.S.num to≠0:=sO
     rw[if_neg h1,hS'] at hto
     subst hto
     have hcn:=hI.tj.cnt to
     have hcp:=hI.tj.cnt p
     refine sB ?_
     refine⟨_,yl to zo htn,?_⟩
     refine sW ?_
     refine sS (λh2=>?_) λh2=>?_
     ·have h2:R.S.part to<0:=sO
      have hat':(pz (PZ.set r.length (p,i+1)))[r.length]? = some [.sc (.int .i64 p),.sc (.int .i64 ((i+1:Nat):Int))]:=by
       rw[zsd rfl zo,hPS.top]
      refine⟨_,hat',?_⟩
      refine sW ?_
      refine⟨_,hat',?_⟩
      refine sW ?_
      refine sB ?_
      refine⟨_,yl p zo hpn,?_⟩
      refine sW ?_
      refine sB ?_
      refine⟨_,yl to zo htn,?_⟩
      refine sW ?_
      refine sB ?_
      refine⟨_,yl p zo hpn,?_⟩
      refine sW ?_
      have el:(R.S.skip p i r to).low=up R.S.low p (min (R.S.low p) (R.S.num to)):=if_pos h2
      refine⟨(⟨R.S.skip p i r to,R.Z,R.zY⟩,PZ.set r.length (p,i+1),pver,k'),⟨hI',hPS,zo,hF''⟩,zd,zD (by exact sK) ?_⟩
      dsimp only
      rw[el,show min (gn R.S.low p) (gn R.S.num to)=((min (R.S.low p) (R.S.num to):Nat):Int) by unfold gn;omega,qo (k:=p) zo,znq]
      rfl
     ·have h2:¬R.S.part to<0:=sO
      have el:(R.S.skip p i r to).low=R.S.low:=if_neg h2
      refine⟨(⟨R.S.skip p i r to,R.Z,R.zY⟩,PZ.set r.length (p,i+1),pver,k'),⟨hI',hPS,zo,hF''⟩,zd,zD (by exact sK) ?_⟩
      dsimp only
      rw[el]
      rfl
   ·have hi:(g.getD p []).length≤i:=by have:¬i<(g.getD p []).length:=sO
                                       omega
    refine⟨_,hat,?_⟩
    refine sW ?_
    refine sI ?_
    refine⟨zo,zo,zo,?_⟩
    refine sW ?_
    rw[show 0+(((r.length+1-0:Nat):Int)-1).toNat=r.length by omega]
    have hPP:=hPZ.pop
    have hpl:=hI.tj.cnt p
    have hlp:R.S.low p≤R.S.num p:=hst.2.2.2.2.1
    cases r with
    | nil =>
     have hto:stepT g R=⟨R.S.shut p [] R.S.low,R.Z,R.zY⟩:=by
      unfold stepT;rw[ep];simp only[if_neg (Nat.not_lt.2 hi)]
     rw[hS'] at hto
     refine sW ?_
     refine sB ?_
     refine⟨_,yl p zo hpn,?_⟩
     refine sW ?_
     refine sB ?_
     refine⟨_,yl p zo hpn,?_⟩
     refine sW ?_
     rw[show gn R.S.low p=(R.S.low p:Int) from rfl,show gn R.S.num p=(R.S.num p:Int) from rfl]
     have hll:=hI.tj.zkg ep
     refine sS (λh3=>?_) λh3=>?_
     ·have hC:=zad hn hI hps R.S.low [] [.vec true pver 2 (pz PZ)]
      unfold Yc wv ya at hC
      refine sA hC ?_
      subst hto
      refine⟨(⟨R.S.shut p [] R.S.low,R.Z,R.zY⟩,PZ,pver,k'),⟨hI',hPP,zo,hF''⟩,zd,zD (by exact sK) rfl⟩
     ·exfalso;exact sO
    | cons q r =>
     obtain⟨q,j⟩:=q
     have hqp:=hst.2.2.2.2.2.2.2.2
     have hqs:=hqp.1
     have hqn:=hI.tj.node q ((hI.tj.stk q).1 hqs).1
     have hne:p≠q:=λe=>by
      have:=hqp.2.1
      rw[e] at this
      omega
     have hto:stepT g R=if R.S.low p=R.S.num p then ⟨R.S.shut p ((q,j)::r) (up R.S.low q (min (R.S.low q) (R.S.low p))),R.Z,R.zY⟩ else ⟨R.S.back p q j r,R.Z,R.zY⟩:=by
      unfold stepT;rw[ep];simp only[if_neg (Nat.not_lt.2 hi)]
     rw[hS'] at hto
     have hat2:(pz PZ)[r.length]? = some [.sc (.int .i64 q),.sc (.int .i64 j)]:=by rw[zsd rfl (by simp at hPl;omega),hPP.top]
     rw[List.length_cons] at hPl hb
     rw[List.length_cons]
     refine sS (λq5=>?_) λq5=>?_
     ·refine sI ?_
      refine sB ?_
      rw[show 0+(((r.length+1-(0+0):Nat):Int)-1).toNat=r.length by omega]
      refine⟨_,hat2,?_⟩
      refine sW ?_
      refine sB ?_
      refine⟨_,yl q zo hqn,?_⟩
      refine sW ?_
      refine sB ?_
      refine⟨_,yl p zo hpn,?_⟩
      refine sW ?_
      refine sB ?_
      refine⟨_,yl q zo hqn,?_⟩
      refine sW ?_
      rw[show min (gn R.S.low q) (gn R.S.low p)=((min (R.S.low q) (R.S.low p):Nat):Int) by unfold gn;omega,qo (k:=q) zo,znq]
      refine sB ?_
      refine⟨_,yl p zo hpn,?_⟩
      refine sW ?_
      refine sB ?_
      refine⟨_,yl p zo hpn,?_⟩
      refine sW ?_
      rw[show gn (up R.S.low q (min (R.S.low q) (R.S.low p))) p=(R.S.low p:Int) by unfold gn;rw[vR hne],show gn R.S.num p=(R.S.num p:Int) from rfl]
      refine sS (λh3=>?_) λh3=>?_
      ·have h3:R.S.low p=R.S.num p:=sO
       rw[if_pos h3] at hto
       have hC:=zad hn hI hps (up R.S.low q (min (R.S.low q) (R.S.low p))) ((q,j)::r) [.vec true pver 2 (pz PZ)]
       unfold Yc wv ya at hC
       refine sA hC ?_
       subst hto
       refine⟨(⟨R.S.shut p ((q,j)::r) (up R.S.low q (min (R.S.low q) (R.S.low p))),R.Z,R.zY⟩,PZ,pver,k'),⟨hI',hPP,zo,hF''⟩,zd,zD (by exact sK) rfl⟩
      ·have h3:R.S.low p≠R.S.num p:=sO
       rw[if_neg h3] at hto
       subst hto
       refine⟨(⟨R.S.back p q j r,R.Z,R.zY⟩,PZ,pver,k'),⟨hI',hPP,zo,hF''⟩,zd,zD (by exact sK) rfl⟩
     ·exfalso;exact sO
  ·exfalso;exact sO
end
section
open Go.RowKit
noncomputable def zE (g:List (List Int)):Nat→Int:=gn (Uu (JW g))
noncomputable def vD (g:List (List Int)):List Int:=gl g.length (zE g)
def zkb (same:Nat→Nat→Bool) (part:Nat→Int) (name:Nat→Int) (k:Nat):Prop:=∀i:Nat,(∃b,b<k∧part b=(i:Int)∧name i=(Uu same b:Int)+1)∨((∀b,b<k→part b≠(i:Int))∧name i=0)
theorem zpL {same:Nat→Nat→Bool} {part:Nat→Int} {name:Nat→Int} {n k:Nat} (hk:k<n) (h:zkb same part name k) (hp:∀i,i<n→0≤part i) (hs:∀i j,i<n→j<n→(part i=part j↔same i j=true)) (h0:name (part k).toNat=0) :
  Uu same k=Yf same k∧Yf same (k+1)=Yf same k+1∧zkb same part (Ww name (part k).toNat ((Yf same k:Int)+1)) (k+1):=by
 have hk0:=hp k hk
 have hno:∀c,c<k→same c k=false:=λc hc=>by
  rw[Bool.eq_false_iff]
  intro q
  have e:=(hs c k zo hk).2 q
  rcases h (part k).toNat with⟨b,b1,b2,b3⟩|⟨b1,b2⟩
  ·omega
  ·exact b1 c hc zo
 obtain⟨e1,e2⟩:=zd3 hno
 refine⟨e1,by simp[Yf,e2],λi=>?_⟩
 unfold Ww
 by_cases e:i=(part k).toNat
 ·left
  refine⟨k,zo,zo,by rw[if_pos e,e1]⟩
 ·rw[if_neg e]
  rcases h i with⟨b,b1,b2,b3⟩|⟨b1,b2⟩
  ·exact .inl ⟨b,zo,b2,b3⟩
  ·refine .inr ⟨λb hb q=>?_,b2⟩
   by_cases eb:b=k
   ·subst eb;omega
   ·exact b1 b zo q
theorem zpN {same:Nat→Nat→Bool} {part:Nat→Int} {name:Nat→Int} {n k:Nat} (he:Eqv same n) (hk:k<n) (h:zkb same part name k) (hp:∀i,i<n→0≤part i) (hs:∀i j,i<n→j<n→(part i=part j↔same i j=true)) (h0:name (part k).toNat≠0) :
  name (part k).toNat=(Uu same k:Int)+1∧Yf same (k+1)=Yf same k∧zkb same part name (k+1):=by
 have hk0:=hp k hk
 rcases h (part k).toNat with⟨b,b1,b2,b3⟩|⟨b1,b2⟩
 ·obtain⟨e1,e2⟩:=ze0 he hk b1 ((hs b k zo hk).1 zo)
  refine⟨by rw[b3,e1],by simp[Yf,e2],λi=>?_⟩
  rcases h i with⟨c,c1,c2,c3⟩|⟨c1,c2⟩
  ·exact .inl ⟨c,zo,c2,c3⟩
  ·refine .inr ⟨λc hc q=>?_,c2⟩
   by_cases ec:c=k
   ·subst ec
    have:i=(part c).toNat:=zo
    subst this
    exact h0 c2
   ·exact c1 c zo q
 ·exact absurd b2 h0
def zBe:PC:=.seq (OP [Bi 24 .lss 23 22]) (.seq (.cond 24 .skip (.exit 0)) (.seq (.block 1 (.seq (OP [qm 25 23,qm 5 25]) (OP [qm 26 4,q 27 (.zn 26),Fa 28 3 27,Lo 29 28,qm 30 5,Ia 31 1 29 30,So 1 31 (cI (-1))]))) (OP [Bi 32 .add 23 (cI 1),qm 23 32])))
def zBG:PC:=.seq (OP [Bi 35 .lss 34 33]) (.seq (.cond 35 .skip (.exit 2)) (.seq (.block 3 (.seq (OP [qm 36 34,qm 6 36]) (.seq (OP [qm 37 4,q 38 (.zn 37),Fa 39 1 38,Lo 40 39,qm 41 6,Ia 42 1 40 41,Lo 43 42,Bi 44 .eql 43 (cI 0)]) (.cond 44 (OP [qm 45 4,qm 46 6,Ca 47 155 [45,46]]) .skip)))) (OP [Bi 48 .add 34 (cI 1),qm 34 48])))
def zAA:PC:=.seq (OP [Bi 58 .lss 57 56]) (.seq (.cond 58 .skip (.exit 4)) (.seq (.block 5 (.seq (OP [qm 59 57,qm 10 59]) (.seq (.seq (OP [qm 60 7,qm 61 4,q 62 (.zn 61),Fa 63 3 62,Lo 64 63,qm 65 10,Ia 66 1 64 65,Lo 67 66,Ia 68 1 60 67,Lo 69 68,Bi 70 .eql 69 (cI 0)]) (.cond 70 (.seq (OP [qm 71 8,Bi 72 .add 71 (cI 1),qm 8 72]) (OP [qm 73 7,qm 74 4,q 75 (.zn 74),Fa 76 3 75,Lo 77 76,qm 78 10,Ia 79 1 77 78,Lo 80 79,qm 81 8,Ia 82 1 73 80,So 1 82 81])) .skip)) (OP [qm 83 9,qm 84 10,qm 85 7,qm 86 4,q 87 (.zn 86),Fa 88 3 87,Lo 89 88,qm 90 10,Ia 91 1 89 90,Lo 92 91,Ia 93 1 85 92,Lo 94 93,Bi 95 .sub 94 (cI 1),Ia 96 1 83 84,So 1 96 95])))) (OP [Bi 97 .add 57 (cI 1),qm 57 97])))
def c82:PC:=.seq (OP [Mv 2 cN]) (.seq (OP [qm 11 0,Ln 12 11,qm 3 12]) (.seq (.ops [qm 13 0,qm 14 3,qd 15 (.wE 1 8 [(.int .i64 0)] 14 14) 2,qm 16 3,qd 17 (.wE 1 8 [(.int .i64 0)] 16 16) 8,qm 18 3,qd 19 (.wE 1 8 [(.int .i64 0)] 18 18) 32,qd 20 (.build [(.slice none 0 0),(.slice none 0 0),(.slice none 0 0),(.slice none 0 0),(.slice none 0 0),(.int .i64 0),(.int .i64 0)] [(0,1,13),(1,1,15),(2,1,17),(3,1,19)]) 127,qd 21 (.box 20) 255,qw 4 21 511] true) (.seq (.seq (OP [qm 22 3,Mv 23 (cI 0)]) (.block 0 (.loop zBe))) (.seq (.seq (OP [qm 33 3,Mv 34 (cI 0)]) (.block 2 (.loop zBG))) (.seq (OP [qm 49 4,q 50 (.zn 49),Fa 51 6 50,Lo 52 51,q 53 (.wE 1 8 [(.int .i64 0)] 52 52),qm 7 53]) (.seq (OP [Mv 8 (cI 0)]) (.seq (OP [qm 54 3,q 55 (.wE 1 8 [(.int .i64 0)] 54 54),qm 9 55]) (.seq (.seq (OP [qm 56 3,Mv 57 (cI 0)]) (.block 4 (.loop zAA))) (.seq (OP [qm 98 9,qm 2 98]) .ret)))))))))
theorem zxW:zy Tryz.prog 82 99 [.tmp 2] c82:=fK Tryz.func82
theorem zgO (g:List (List Int)) (hn:g.length≤1000000000) (hin0:∀l∈g,xH l g.length=true) (hF:uU g):zq Tryz.prog 82 [ya g] (zB (vD g)):=by
 have hrow:=λk=>y3 hin0 k
 have xL:∀v x,x∈g.getD v []→x.toNat<g.length:=λv x hx=>by have:=zT (hrow v) hx;omega
 refine za zxW zs (by simp[ze,z7]) ?_ (zi _)
 have hV:=λk (hk:k<g.length) h0=>zsD g hn hin0 hF (xp g k) (WW xL k zo).1 (WW xL k zo).2.1 k hk h0
 have hSp:=λk hk=>WW xL k hk
 have e00:∀k,List.replicate k (List.map D.sc [Value.int .i64 0])=zL (gl k λ_=>0):=ze3
 unfold ya
 refine sR ?_
 rw[List.length_map]
 refine⟨zo,zo,zo,?_⟩
 rw[Int.toNat_natCast]
 refine sW ?_
 refine⟨zo,zo,zo,?_⟩
 rw[Int.toNat_natCast]
 refine sW ?_
 refine⟨zo,zo,zo,?_⟩
 rw[Int.toNat_natCast]
 refine sW ?_
 refine zO [3,4,22] (λk:Nat=>[(23,.sc (.int .i64 k))]) (λk=>[(2,.vec true 0 1 (zL (gl g.length λi=>if i<k then -1 else 0)))]) (λk=>k≤g.length) (λk=>g.length-k) 0 ?_
 refine sW ?_
 refine⟨zo,by exact sK,by rw[e00];simp;rfl,?_⟩
 rintro k hk
 refine sW ?_
 refine sR ?_
 refine sS (λq0=>?_) λq0=>?_
 ·have q0:k<g.length:=sO
  refine sB ?_
  refine⟨_,yl k zo q0,?_⟩
  refine sW ?_
  refine sI ?_
  refine⟨k+1,zo,zd,zD (by exact sK) ?_⟩
  rw[qo (k:=k) zo,Yx (g':=λi=>if i<k+1 then -1 else 0) λi _=>by
   show Ww (λi=>if i<k then -1 else 0) k (-1) i=if i<k+1 then -1 else 0
   unfold Ww
   by_cases e:i=k
   ·subst e;simp
   ·by_cases e2:i<k
    ·rw[if_neg e,if_pos (show i<k+1 by omega)];exact if_pos e2
    ·rw[if_neg e,if_neg (show ¬i<k+1 by omega)];exact if_neg e2]
  rfl
 have q0:k=g.length:=by have:¬k<g.length:=sO
                        omega
 subst q0
 rw[Yx (g':=λ_=>-1) λi hi=>if_pos hi]
 refine zG (yV 3 4 1 zs rfl rfl) ?_
 have e0:List.replicate g.length (List.map D.sc [Value.int .i64 0])=zL (gl g.length (gn λ_=>0)):=ze3 _
 rw[e0]
 refine z8 [3,4,33] (λk:Nat=>[(34,.sc (.int .i64 k))]) (λk=>Yc g (xp g k)) (λk=>k≤g.length) (λk=>g.length-k) 0 ?_
 refine sW ?_
 refine⟨zo,by exact sK,rfl,?_⟩
 rintro k hk
 obtain⟨s1,s2,s3⟩:=hSp k hk
 unfold Yc wv ya at hV ⊢
 refine sW ?_
 refine sR ?_
 refine sS (λq0=>?_) λq0=>?_
 ·have q0:k<g.length:=sO
  have hVk:=hV k q0
  refine sB ?_
  refine⟨_,yl k zo q0,?_⟩
  refine sW ?_
  rw[show gn (xp g k).S.num k=((xp g k).S.num k:Int) from rfl]
  refine sS (λh0=>?_) λh0=>?_
  ·have h0:(xp g k).S.num k=0:=sO
   refine sA (hVk h0) ?_
   refine sI ?_
   refine⟨k+1,zo,zd,zD (by exact sK) ?_⟩
   dsimp only
   rw[show xp g (k+1)=Vu g (xp g k) k from if_pos h0]
  ·have h0:¬(xp g k).S.num k=0:=sO
   refine sI ?_
   refine⟨k+1,zo,zd,zD (by exact sK) ?_⟩
   dsimp only
   rw[show xp g (k+1)=xp g k from if_neg h0]
 have q0:k=g.length:=by have:¬k<g.length:=sO
                        omega
 subst q0
 obtain⟨f1,f2,f3⟩:=zoN xL
 clear hV hSp s1 s2 s3 e0
 generalize (xp g g.length).S.num=num at *
 generalize (xp g g.length).S.low=low at *
 generalize (xp g g.length).S.part=part at *
 generalize (xp g g.length).S.Ym=Ym at *
 generalize (xp g g.length).S.count=count at *
 generalize (xp g g.length).S.stack.length=h at *
 generalize (xp g g.length).zY=zY at *
 generalize (xp g g.length).Z=Z at *
 refine⟨zo,zo,zo,?_⟩
 rw[Int.toNat_natCast]
 refine sW ?_
 refine⟨zo,zo,zo,?_⟩
 rw[Int.toNat_natCast]
 refine sW ?_
 have e0:∀k,List.replicate k (List.map D.sc [Value.int .i64 0])=zL (gl k λ_=>0):=ze3
 rw[e0,e0]
 have hq:=zhj g g.length
 have hp:=λi hi=>(f1 i hi).1
 refine zO [4,7,9,56] (λ((k,name):Nat × (Nat→Int))=>[(8,.sc (.int .i64 ((Yf (JW g) k:Nat):Int))),(57,.sc (.int .i64 k))]) (λ(k,name)=>[(5,.vec true 0 1 (zL (gl Ym name))),(6,.vec true 0 1 (zL (gl g.length λi=>if i<k then zE g i else 0)))])
  (λ(k,name)=>k≤g.length∧zkb (JW g) part name k) (λ(k,name)=>g.length-k) (0,λ_=>0) ?_
 refine sW ?_
 refine⟨⟨zo,λi=>.inr ⟨λb hb=>zo,rfl⟩⟩,by exact sK,by simp;rfl,?_⟩
 rintro⟨k,name⟩ ⟨hk,hN⟩
 have hpc:=zg4 (JW g) k
 refine sW ?_
 refine sR ?_
 refine sS (λq0=>?_) λq0=>?_
 ·have q0:k<g.length:=sO
  have hpk:=f1 k q0
  have hnew:=zpL q0 hN hp f2
  have hold:=zpN hq q0 hN hp f2
  obtain⟨pk,hpk'⟩:∃pk:Nat,part k=pk:=⟨(part k).toNat,zo⟩
  rw[hpk'] at hpk hnew hold
  rw[Int.toNat_natCast] at hnew hold
  refine sB ?_
  refine⟨_,yl k zo q0,?_⟩
  rw[hpk']
  refine sW ?_
  refine sB ?_
  refine⟨_,yl pk zo zo,?_⟩
  refine sW ?_
  have hout:∀v,v=zE g k→zL (gl g.length (Ww (λi=>if i<k then zE g i else 0) k v))=zL (gl g.length λi=>if i<k+1 then zE g i else 0):=λv hv=>by
   rw[Yx λi _=>?_]
   show Ww (λi=>if i<k then zE g i else 0) k v i=if i<k+1 then zE g i else 0
   unfold Ww
   by_cases e:i=k
   ·subst e;rw[if_pos rfl,if_pos zo,hv]
   ·by_cases e2:i<k
    ·rw[if_neg e,if_pos (show i<k+1 by omega)];exact if_pos e2
    ·rw[if_neg e,if_neg (show ¬i<k+1 by omega)];exact if_neg e2
  refine sS (λh0=>?_) λh0=>?_
  ·have h0:name pk=0:=sO
   obtain⟨n1,n2,n3⟩:=hnew h0
   refine sI ?_
   refine sB ?_
   refine⟨_,yl k zo q0,?_⟩
   rw[hpk']
   refine sW ?_
   refine sB ?_
   refine⟨_,yl pk zo zo,?_⟩
   refine sW ?_
   rw[qo (k:=pk) zo]
   refine sB ?_
   refine⟨_,yl k zo q0,?_⟩
   rw[hpk']
   refine sW ?_
   refine sB ?_
   refine⟨_,yl pk zo zo,?_⟩
   refine sW ?_
   rw[qb]
   refine sI ?_
   refine sB ?_
   refine⟨_,yl k zo q0,?_⟩
   refine sW ?_
   refine sI ?_
   have e8:D.sc (.int .i64 (((Yf (JW g) k:Nat):Int)+1))=D.sc (.int .i64 ((Yf (JW g) (k+1):Nat):Int)):=by rw[n2];rfl
   refine⟨(k+1,Ww name pk ((Yf (JW g) k:Int)+1)),⟨zo,n3⟩,zd,zD ⟨e8,by exact sK⟩ ?_⟩
   dsimp only
   rw[qo (k:=k) zo,hout _ (by unfold zE gn;rw[n1];omega)]
   rfl
  ·have h0:¬name pk=0:=sO
   obtain⟨n1,n2,n3⟩:=hold h0
   refine sB ?_
   refine⟨_,yl k zo q0,?_⟩
   rw[hpk']
   refine sW ?_
   refine sB ?_
   refine⟨_,yl pk zo zo,?_⟩
   refine sW ?_
   have hpl:=znb hq q0
   rw[n1]
   refine sI ?_
   refine sB ?_
   refine⟨_,yl k zo q0,?_⟩
   refine sW ?_
   refine sI ?_
   have e8:D.sc (.int .i64 ((Yf (JW g) k:Nat):Int))=D.sc (.int .i64 ((Yf (JW g) (k+1):Nat):Int)):=by rw[n2]
   refine⟨(k+1,name),⟨zo,n3⟩,zd,zD ⟨e8,by exact sK⟩ ?_⟩
   dsimp only
   rw[qo (k:=k) zo,hout _ (by unfold zE gn;omega)]
   rfl
 ·have q0:k=g.length:=by have:¬k<g.length:=sO
                         omega
  subst q0
  rw[Yx (g':=zE g) λi hi=>if_pos hi]
  exact zcJ rfl
end
section
section
end
section
end
section
end
section
end
section
def QE (L:List (List Int)) (n t:Nat):List (List Int) :=
 if (L.getD t []).length=0∨(L.getD t []).getD ((L.getD t []).length-1) 0≠(n:Int) then L.set t (L.getD t []++[(n:Int)]) else L
theorem znF (L:List (List Int)) (n t:Nat):(QE L n t).length=L.length:=by unfold QE;split<;>simp
theorem zf9 {L:List (List Int)} {t m:Nat} {l:List Int} (h:t<L.length):(L.set t l).getD m []=if m=t then l else L.getD m []:=by
 rw[List.getD_eq_getElem?_getD,List.getElem?_set]
 by_cases e:t=m
 ·subst e;simp[h]
 ·rw[if_neg e,if_neg (λq=>e q.symm),List.getD_eq_getElem?_getD]
theorem zoa {L:List (List Int)} {n t m:Nat} {x:Int} (h:t<L.length):x∈(QE L n t).getD m []↔x∈L.getD m []∨(m=t∧x=(n:Int)):=by
 unfold QE
 split
 ·rw[zf9 h]
  split
  ·rename_i e;subst e
   rw[List.mem_append,List.mem_singleton]
   constructor
   ·rintro(q|q)
    ·exact .inl q
    ·exact .inr ⟨rfl,q⟩
   ·rintro(q|⟨_,q⟩)
    ·exact .inl q
    ·exact .inr q
  ·rename_i e
   exact⟨.inl,λq=>q.elim id λw=>absurd w.1 e⟩
 ·rename_i q
  refine⟨.inl,λw=>w.elim id ?_⟩
  rintro⟨rfl,rfl⟩
  have q1:(L.getD m []).length≠0:=λe=>q (.inl e)
  have q2:(L.getD m []).getD ((L.getD m []).length-1) 0=(n:Int):=by
   by_cases e:(L.getD m []).getD ((L.getD m []).length-1) 0=(n:Int)
   ·exact e
   ·exact absurd (.inr e) q
  have:=yv (l:=L.getD m []) (k:=(L.getD m []).length-1) zo
  rw[q2] at this
  exact this
def YW (g:List (List Int)) (n:Nat):Nat→List (List Int)→List (List Int)
 | 0,L=>L
 | k+1,L=>QE (YW g n k L) n ((g.getD n []).getD k 0).toNat
def xk (g:List (List Int)):Nat→List (List Int)
 | 0=>List.replicate g.length []
 | n+1=>YW g n (g.getD n []).length (xk g n)
theorem Qc (g:List (List Int)) (n:Nat):∀(k:Nat) (L:List (List Int)),(YW g n k L).length=L.length
 | 0,_=>rfl
 | k+1,L=>by simp only[YW];rw[znF,Qc g n k L]
theorem vc (g:List (List Int)):∀n,(xk g n).length=g.length
 | 0=>by simp[xk]
 | n+1=>by simp only[xk];rw[Qc,vc g n]
theorem zgU {g:List (List Int)} {n m:Nat} {x:Int} (hg:∀v y,y∈g.getD v []→y.toNat<g.length) {L:List (List Int)} (hL:L.length=g.length):∀{k:Nat},k≤(g.getD n []).length →
  (x∈(YW g n k L).getD m []↔x∈L.getD m []∨(x=(n:Int)∧∃j,j<k∧((g.getD n []).getD j 0).toNat=m))
 | 0,_=>⟨.inl,λh=>h.elim id λ⟨_,j,hj,_⟩=>zo⟩
 | k+1,hk=>by
  simp only[YW]
  have hm:=yv (l:=g.getD n []) (k:=k) zo
  rw[zoa (by rw[Qc,hL];exact hg n _ hm),zgU hg hL zo]
  constructor
  ·rintro((h|⟨h,j,hj,e⟩)|⟨e,h⟩)
   ·exact .inl h
   ·exact .inr ⟨h,j,zo,e⟩
   ·exact .inr ⟨h,k,zo,e.symm⟩
  ·rintro(h|⟨h,j,hj,e⟩)
   ·exact .inl (.inl h)
   ·by_cases q:j=k
    ·subst q;exact .inr ⟨e.symm,h⟩
    ·exact .inl (.inr ⟨h,j,zo,e⟩)
theorem Xj {g:List (List Int)} {m:Nat} {x:Int} (hg:∀v y,y∈g.getD v []→y.toNat<g.length):∀{n:Nat},n≤g.length →
  (x∈(xk g n).getD m []↔∃k,k<n∧x=(k:Int)∧∃y,y∈g.getD k []∧y.toNat=m)
 | 0,_=>by
  simp only[xk]
  rw[List.getD_eq_getElem?_getD,List.getElem?_replicate]
  constructor
  ·intro h;split at h<;>simp at h
  ·rintro⟨k,h,_⟩;omega
 | n+1,hn=>by
  simp only[xk]
  rw[zgU hg (vc g n) (Nat.le_refl _),Xj hg zo]
  constructor
  ·rintro(⟨k,h1,h2,h3⟩|⟨h,j,hj,e⟩)
   ·exact⟨k,zo,h2,h3⟩
   ·exact⟨n,zo,h,_,yv hj,e⟩
  ·rintro⟨k,h1,h2,y,h3,h4⟩
   by_cases q:k=n
   ·subst q
    obtain⟨j,hj,e⟩:=XK h3
    exact .inr ⟨h2,j,hj,by rw[e];exact h4⟩
   ·exact .inl ⟨k,zo,h2,y,h3,h4⟩
theorem zoO {L:List (List Int)} {n t m:Nat}:(QE L n t).getD m []=L.getD m []∨((QE L n t).getD m []=L.getD m []++[(n:Int)]∧((L.getD m []).length=0∨(L.getD m []).getD ((L.getD m []).length-1) 0≠(n:Int))):=by
 unfold QE
 split
 ·rename_i q
  by_cases h:t<L.length
  ·rw[zf9 h]
   split
   ·rename_i e;subst e;exact .inr ⟨rfl,q⟩
   ·exact .inl rfl
  ·rw[List.set_eq_of_length_le zo];exact .inl rfl
 ·exact .inl rfl
theorem Qy {g:List (List Int)} {n m:Nat} {L:List (List Int)}:∀k,(YW g n k L).getD m []=L.getD m []∨(YW g n k L).getD m []=L.getD m []++[(n:Int)]
 | 0=>.inl rfl
 | k+1=>by
  simp only[YW]
  rcases zoO (L:=YW g n k L) (n:=n) (t:=((g.getD n []).getD k 0).toNat) (m:=m) with h|⟨h,q⟩
  ·rw[h];exact Qy k
  ·rcases Qy (g:=g) (n:=n) (m:=m) (L:=L) k with w|w
   ·rw[h,w];exact .inr rfl
   ·rw[w] at q
    exfalso
    rcases q with q|q
    ·simp at q
    ·apply q
     rw[List.length_append,List.length_singleton,Nat.add_sub_cancel,List.getD_eq_getElem?_getD,List.getElem?_append_right (Nat.le_refl _),Nat.sub_self]
     rfl
theorem Xh (g:List (List Int)):∀n m,((xk g n).getD m []).length≤n
 | 0,m=>by
  simp only[xk]
  rw[List.getD_eq_getElem?_getD,List.getElem?_replicate]
  split<;>simp
 | n+1,m=>by
  simp only[xk]
  have:=Xh g n m
  rcases Qy (g:=g) (n:=n) (m:=m) (L:=xk g n) (g.getD n []).length with h|h
  ·rw[h];omega
  ·rw[h,List.length_append,List.length_singleton];omega
end
end
section
theorem Wx.one (g:List (List Int)) (v:Nat):Wx g [(v:Int)] v:=by
 have:=Wx.base (g:=g) (from_:=[(v:Int)]) (x:=(v:Int)) zs
 rwa [Int.toNat_natCast] at this
theorem Wx.trans {g:List (List Int)} {a:List Int} {u v:Nat} (h:Wx g a u) (k:Wx g [(u:Int)] v):Wx g a v:=by
 induction k with
 | base hx =>
  rw[List.mem_singleton] at hx
  subst hx
  simpa using h
 | step _ hx ih=>exact .step ih hx
theorem zsB {g:List (List Int)} (xL:∀v y,y∈g.getD v []→0≤y∧y.toNat<g.length) {u v:Nat} (hu:u<g.length):Wx g [(u:Int)] v→Wx (xk g g.length) [(v:Int)] u:=by
 intro h
 have key:∀w,Wx g [(u:Int)] w→w<g.length∧Wx (xk g g.length) [(w:Int)] u:=by
  intro w hw
  induction hw with
  | base hx =>
   rw[List.mem_singleton] at hx
   subst hx
   exact⟨by simpa using hu,by rw[Int.toNat_natCast];exact Wx.one _ u⟩
  | @step a x ha hx ih =>
   have hxr:=xL a x hx
   refine⟨hxr.2,?_⟩
   have e:(a:Int)∈(xk g g.length).getD x.toNat []:=(Xj (λv y hy=>(xL v y hy).2) (Nat.le_refl _)).2 ⟨a,ih.1,rfl,x,hx,rfl⟩
   have s:Wx (xk g g.length) [((x.toNat:Nat):Int)] a:=by
    have:=Wx.step (g:=xk g g.length) (from_:=[((x.toNat:Nat):Int)]) (u:=x.toNat) (Wx.one _ x.toNat) e
    rwa [Int.toNat_natCast] at this
   exact s.trans ih.2
 exact(key v h).2
theorem zsg {g:List (List Int)} (xL:∀v y,y∈g.getD v []→0≤y∧y.toNat<g.length) {u v:Nat}:Wx (xk g g.length) [(v:Int)] u→Wx g [(u:Int)] v:=by
 intro h
 have key:∀w,Wx (xk g g.length) [(v:Int)] w→Wx g [(w:Int)] v:=by
  intro w hw
  induction hw with
  | base hx =>
   rw[List.mem_singleton] at hx
   subst hx
   rw[Int.toNat_natCast];exact Wx.one g v
  | @step a x ha hx ih =>
   obtain⟨k,hk,rfl,y,hy,hya⟩:=(Xj (λv y hy=>(xL v y hy).2) (Nat.le_refl _)).1 hx
   rw[Int.toNat_natCast]
   have s:Wx g [(k:Int)] y.toNat:=Wx.step (u:=k) (Wx.one g k) hy
   rw[hya] at s
   exact s.trans ih
 exact key u h
theorem zyU {g:List (List Int)} {l:List Int} {v:Nat} (hl:∀x∈l,0≤x):Wx g l v↔∃x∈l,Wx g [x] v:=by
 constructor
 ·intro h
  induction h with
  | @base x hx=>exact⟨x,hx,.base zs⟩
  | step _ hx ih=>obtain⟨x,h1,h2⟩:=ih;exact⟨x,h1,.step h2 hx⟩
 ·rintro⟨x,hx,h⟩
  have e:x=((x.toNat:Nat):Int):=by have:=hl x hx;omega
  rw[e] at h
  exact Wx.trans (.base hx) h
end
section
open Go.RowKit
def XI (l:List Int):Nat→Bool:=λv=>l.contains (v:Int)
noncomputable def zbV (g:List (List Int)) (n:Nat):Bool:=(g.getD n []).any λx=>zE g x.toNat==zE g n
noncomputable def okT (g:List (List Int)) (k i:Nat):Bool:=(List.range k).any λn=>zE g n==(i:Int)&&zbV g n
noncomputable def VU (g:List (List Int)) (l:List Int) (i:Nat):Bool:=l.any λx=>zE g x.toNat==(i:Int)
noncomputable def zdN (g:List (List Int)) (F:List (List Int)) (i:Nat):Bool:=okT g g.length i&&F.all λl=>VU g l i
theorem parts_eq {g:List (List Int)} {a b:Nat} (ha:a<g.length) (hb:b<g.length):zE g a=zE g b↔JW g a b=true:=by
 rw[←zuf (zhj g g.length) ha hb]
 unfold zE gn
 omega
theorem qx {g:List (List Int)} {a:Nat} (ha:a<g.length):0≤zE g a∧zE g a<(g.length:Int):=by
 have:=znb (zhj g g.length) ha
 unfold zE gn
 omega
theorem Uj {g:List (List Int)} (xL:∀v x,x∈g.getD v []→x.toNat<g.length) {n:Nat} (hn:n<g.length):zbV g n=true↔Wo g n:=by
 unfold zbV
 rw[List.any_eq_true]
 constructor
 ·rintro⟨x,hx,e⟩
  rw[beq_iff_eq,parts_eq (xL n x hx) hn,xo] at e
  exact⟨x,hx,e.1⟩
 ·rintro⟨x,hx,e⟩
  exact⟨x,hx,by rw[beq_iff_eq,parts_eq (xL n x hx) hn,xo];exact⟨e,VS hx⟩⟩
theorem zdy {g:List (List Int)} (xL:∀v x,x∈g.getD v []→x.toNat<g.length) {F:List (List Int)} (hF:∀l∈F,xH l g.length=true) {e i:Nat} (he:e<g.length) (hi:zE g e=(i:Int)) :
  zdN g F i=true↔Wo g e∧∀S,S∈F.map XI→∃d,S d=true∧To g e d∧To g d e:=by
 unfold zdN
 rw[Bool.and_eq_true,List.all_eq_true]
 have h1:okT g g.length i=true↔Wo g e:=by
  unfold okT
  rw[List.any_eq_true]
  constructor
  ·rintro⟨n,hn,q⟩
   have hn:=List.mem_range.1 hn
   rw[Bool.and_eq_true,beq_iff_eq,←hi,parts_eq hn he,xo,Uj xL hn] at q
   exact UI q.2 q.1.1 q.1.2
  ·intro q
   exact⟨e,List.mem_range.2 he,by rw[Bool.and_eq_true,beq_iff_eq];exact⟨hi,(Uj xL he).2 q⟩⟩
 rw[h1]
 refine and_congr_right λ_=>?_
 constructor
 ·intro h S hS
  obtain⟨l,hl,rfl⟩:=List.mem_map.1 hS
  have:=h l hl
  unfold VU at this
  rw[List.any_eq_true] at this
  obtain⟨x,hx,q⟩:=this
  have hxr:=zT (hF l hl) hx
  rw[beq_iff_eq,←hi,parts_eq zo he,xo] at q
  refine⟨x.toNat,?_,q.2,q.1⟩
  unfold XI
  rw[List.contains_iff_mem,Int.toNat_of_nonneg hxr.1]
  exact hx
 ·intro h l hl
  obtain⟨d,d1,d2,d3⟩:=h (XI l) (List.mem_map.2 ⟨l,hl,rfl⟩)
  unfold XI at d1
  rw[List.contains_iff_mem] at d1
  have hxr:=zT (hF l hl) d1
  unfold VU
  rw[List.any_eq_true]
  refine⟨(d:Int),d1,?_⟩
  rw[Int.toNat_natCast,beq_iff_eq,←hi,parts_eq zo he,xo]
  exact⟨d3,d2⟩
theorem zpe {g:List (List Int)} (xL:∀l∈g,xH l g.length=true) {F:List (List Int)} (hF:∀l∈F,xH l g.length=true) {ends:List Int} (he:∀x,x∈ends↔0≤x∧x<(g.length:Int)∧zdN g F (zE g x.toNat).toNat=true) {v:Nat} (hv:v<g.length) :
  zcq (xk g g.length) ends v=fwB g (F.map XI) v:=by
 have hrow:=λk=>y3 xL k
 have hin1:∀v x,x∈g.getD v []→x.toNat<g.length:=λv x hx=>by have:=zT (hrow v) hx;omega
 have hin2:∀v x,x∈g.getD v []→0≤x∧x.toNat<g.length:=λv x hx=>by have:=zT (hrow v) hx;omega
 refine zxc ?_
 rw[WC,zyU λx hx=>((he x).1 hx).1]
 constructor
 ·rintro⟨x,hx,h⟩
  obtain⟨a1,a2,a3⟩:=(he x).1 hx
  obtain⟨e,rfl⟩:∃e:Nat,x=e:=⟨x.toNat,zo⟩
  rw[Int.toNat_natCast] at a3
  have hel:e<g.length:=zo
  have hp:=qx hel
  exact⟨e,zsg hin2 h,(zdy hin1 hF hel zo).1 a3⟩
 ·rintro⟨c,h1,h2⟩
  have hcl:=zmS hin1 hv h1
  have hp:=qx hcl
  exact⟨(c:Int),(he _).2 ⟨zo,zo,by rw[Int.toNat_natCast];exact(zdy hin1 hF hcl zo).2 h2⟩,zsB hin2 hv h1⟩
theorem zkj (g:List (List Int)) (k i:Nat):okT g (k+1) i=(okT g k i||(zE g k==(i:Int)&&zbV g k)):=by
 unfold okT;rw[List.range_succ,List.any_append];simp
theorem zpa {g:List (List Int)} {l:List Int} {k i:Nat} (h:k<l.length):VU g (l.take (k+1)) i=(VU g (l.take k) i||zE g (l.getD k 0).toNat==(i:Int)):=by
 unfold VU
 rw[List.take_add_one,List.getElem?_eq_getElem h,List.any_append,List.getD_eq_getElem?_getD,List.getElem?_eq_getElem h]
 simp
theorem ziY {α:Type} {p:α→Bool} {l:List α} {k:Nat} (h:k<l.length) (d:α):(l.take (k+1)).all p=((l.take k).all p&&p (l.getD k d)):=by
 rw[List.take_add_one,List.getElem?_eq_getElem h,List.all_append,List.getD_eq_getElem?_getD,List.getElem?_eq_getElem h]
 simp
theorem uC {n z i:Nat} {f f':Nat→Bool} {b:Bool} (hz:z=i) (h:∀v,v<n→f' v=if v=i then b else f v):(Z8 n f).set z [.sc (.bool b)]=Z8 n f':=by
 subst hz
 rw[znx]
 exact xV λv hv=>(h v hv).symm
def c225:PC:=.seq (OP [Mv 4 cF]) (.seq (.ops [Lo 5 1,qm 6 0,qd 7 (.zM 1 5 6) 3,qd 8 (.zg 7) 7,Lo 9 1,Lo 10 2,qd 11 (.zM 1 9 10) 48,qd 12 (.zg 11) 112,qd 13 (.bin .eql 8 12) 255,qw 4 13 511] true) .ret)
theorem ztp:zy Tryz.prog 225 14 [.tmp 4] c225:=fK Tryz.func225
theorem ztK (g:List (List Int)) (x:Int) (hx:0≤x∧x<(g.length:Int)) (n:Nat) (hn:n<g.length):zq Tryz.prog 225 [.sc (.int .i64 x),.y7 [zB (vD g)],.y7 [.sc (.int .i64 n)]] (.sc (.bool (zE g x.toNat==zE g n))):=by
 refine za ztp zs (by simp[ze,Pure,zi]) ?_ (by simp[Pure])
 unfold vD zB
 refine sR ?_
 refine sL (yl x.toNat zo zo) ?_
 refine sL (yl n zo hn) ?_
 exact .refl _
def zx9:PC:=.seq (OP [Bi 22 .lss 21 20]) (.seq (.cond 22 .skip (.exit 0)) (.seq (.block 1 (.seq (OP [qm 23 21,Ia 24 1 19 21,Lo 25 24,q 8 (.alloc [(.int .i64 0)]),So 1 8 23,qm 9 25]) (.seq (OP [qm 26 9,q 27 (.qj (.func 225) [] [4,8]),Ca 28 49 [26,27]]) (.cond 28 (OP [qm 29 7,Lo 30 4,Lo 31 8,Ia 32 1 30 31,Lo 33 32,Ia 34 1 29 33,So 1 34 cT]) .skip)))) (OP [Bi 35 .add 21 (cI 1),qm 21 35])))
def zyk:PC:=.seq (OP [Bi 48 .lss 47 46]) (.seq (.cond 48 .skip (.exit 4)) (.seq (.block 5 (.seq (OP [Ia 49 1 45 47,Lo 50 49,qm 14 50]) (OP [qm 51 12,Lo 52 4,qm 53 14,Ia 54 1 52 53,Lo 55 54,Ia 56 1 51 55,So 1 56 cT]))) (OP [Bi 57 .add 47 (cI 1),qm 47 57])))
def zxr:PC:=.seq (OP [Bi 61 .lss 60 59]) (.seq (.cond 61 .skip (.exit 6)) (.seq (.block 7 (.seq (OP [qm 62 60,qm 15 62]) (OP [qm 63 7,qm 64 15,qm 65 7,qm 66 15,Ia 67 1 65 66,Lo 68 67,qm 69 68,GT 70 69 (.move 12),GT 71 69 (.move 15),GT 72 69 (.zM 1 70 71),GT 73 69 (.zg 72),Pk 74 69 73 cF,Ia 75 1 63 64,So 1 75 74]))) (OP [Bi 76 .add 60 (cI 1),qm 60 76])))
def zza:PC:=.seq (OP [Bi 39 .lss 38 37]) (.seq (.cond 39 .skip (.exit 2)) (.seq (.block 3 (.seq (OP [Ia 40 1 36 38,Lo 41 40,qm 11 41]) (.seq (OP [qm 42 0,Ln 43 42,q 44 (.wE 1 1 [(.bool false)] 43 43),qm 12 44]) (.seq (.seq (OP [qm 45 11,Ln 46 45,Mv 47 (cI 0)]) (.block 4 (.loop zyk))) (.seq (OP [qm 58 7,Ln 59 58,Mv 60 (cI 0)]) (.block 6 (.loop zxr))))))) (OP [Bi 77 .add 38 (cI 1),qm 38 77])))
def c182:PC:=.seq (OP [Bx 4 1,Mv 6 cN]) (.seq (OP [qm 16 0,Ln 17 16,q 18 (.wE 1 1 [(.bool false)] 17 17),qm 7 18]) (.seq (.seq (OP [qm 19 0,Ln 20 19,Mv 21 (cI 0)]) (.block 0 (.loop zx9))) (.seq (.seq (OP [qm 36 2,Ln 37 36,Mv 38 (cI 0)]) (.block 2 (.loop zza))) (.seq (OP [qm 78 7,qm 6 78]) .ret))))
theorem zuM:zy Tryz.prog 182 79 [.tmp 6] c182:=fK Tryz.func182
theorem zrd (g:List (List Int)) (hn:g.length≤1000000) (hin0:∀l∈g,xH l g.length=true) (hF:uU g) (F:List (List Int)) (hFF:uU F) (hFi:∀l∈F,xH l g.length=true):zq Tryz.prog 182 [ya g,zB (vD g),ya F] (uh g.length (zdN g F)):=by
 have hrow:=λk=>y3 hin0 k
 have hFrow:=λk=>y3 hFi k
 have hfl:=hFF.len
 refine za zuM zs (by simp[ze,Pure,z7,zi]) ?_ (zV _ _)
 have hc:=λk (hk:k<g.length)=>y4 (λn=>.sc (.int .i64 n)) (λa=>by simp[Pure]) (g.getD k []) (by have:=hF.at k;omega) (λx=>zE g x.toNat==zE g k) 225 [.y7 [zB (vD g)],.y7 [.sc (.int .i64 k)]] (by simp[ze,Pure,zi]) λa ha=>ztK g a (zT (hrow k) ha) k hk
 unfold ya
 refine sR ?_
 rw[List.length_map]
 refine⟨zo,zo,zo,?_⟩
 rw[Int.toNat_natCast,show List.map D.sc [Value.bool false]=[D.sc (.bool false)] from rfl,ZE]
 refine sW ?_
 rw[List.length_map]
 refine zO [0,2,4,7,19,20] (λk:Nat=>[(21,.sc (.int .i64 k))]) (λk=>[(1,.vec true 0 1 (Z8 g.length (okT g k)))]) (λk=>k≤g.length) (λk=>g.length-k) 0 ?_
 refine sW ?_
 refine⟨zo,by exact sK,rfl,?_⟩
 rintro k hk
 refine sW ?_
 refine sR ?_
 refine sS (λq0=>?_) λq0=>?_
 ·have q0:k<g.length:=sO
  have hp:=qx q0
  have e1:=zkj g k
  refine sL (xS (k:=k) zo q0) ?_
  refine sN (hc k q0) ?_
  rw[show((g.getD k []).any λx=>zE g x.toNat==zE g k)=zbV g k from rfl]
  cases r:zbV g k
  ·refine sW ?_
   refine sI ?_
   refine⟨k+1,zo,zd,?_⟩
   refine zj 2 zs rfl sQ (sU ?_)
   exact zp (xV λi _=>by rw[e1,r,Bool.and_false,Bool.or_false])
  ·refine sW ?_
   refine sL (yl k zo q0) ?_
   refine sB ?_
   refine⟨_,yd (zE g k).toNat zo zo,?_⟩
   refine sW ?_
   refine sI ?_
   refine⟨k+1,zo,zd,?_⟩
   rw[uC (i:=(zE g k).toNat) (f':=okT g (k+1)) zo λv _=>by
    rw[e1,r,Bool.and_true]
    by_cases e:v=(zE g k).toNat
    ·rw[if_pos e,show(zE g k==(v:Int))=true by rw[beq_iff_eq];omega,Bool.or_true]
    ·rw[if_neg e,show(zE g k==(v:Int))=false by rw[beq_eq_false_iff_ne];omega,Bool.or_false]]
   exact zj 2 zs rfl sQ sQ
 have q0:k=g.length:=by have:¬k<g.length:=sO
                        omega
 subst q0
 clear hc
 rw[List.length_map]
 refine zO [0,4,7,36,37] (λk:Nat=>[(38,.sc (.int .i64 k))]) (λk=>[(1,.vec true 0 1 (Z8 g.length λi=>okT g g.length i&&(F.take k).all λl=>VU g l i))]) (λk=>k≤F.length) (λk=>F.length-k) 0 ?_
 refine sW ?_
 refine⟨zo,by exact sK,by simp only[List.take_zero,List.all_nil,Bool.and_true];rfl,?_⟩
 rintro k hk
 refine sW ?_
 refine sR ?_
 refine sS (λq0=>?_) λq0=>?_
 ·have q0:k<F.length:=sO
  have hFk:=hFF.at k
  refine sL (xS (g:=F) (k:=k) zo q0) ?_
  rw[List.length_map]
  refine⟨zo,zo,zo,?_⟩
  rw[Int.toNat_natCast,show List.map D.sc [Value.bool false]=[D.sc (.bool false)] from rfl,ZE]
  refine sW ?_
  rw[List.length_map]
  have hlr:=λj (hj:j<(F.getD k []).length)=>zT (hFrow k) (yv hj)
  have eall:=λi=>ziY (p:=λl=>VU g l i) q0 []
  generalize hle:F.getD k []=l at *
  refine zO [0,4,7,12,36,37,38,45,46] (λj:Nat=>[(47,.sc (.int .i64 j))]) (λj=>[(2,.vec true 0 1 (Z8 g.length (VU g (l.take j))))]) (λj=>j≤l.length) (λj=>l.length-j) 0 ?_
  refine sW ?_
  refine⟨zo,by exact sK,rfl,?_⟩
  rintro j hj
  refine sW ?_
  refine sR ?_
  refine sS (λq1=>?_) λq1=>?_
  ·have q1:j<l.length:=sO
   have hx:=hlr j q1
   have e1:=λi=>zpa (g:=g) (i:=i) q1
   refine sL (yb (l:=l) (k:=j) zo q1) ?_
   generalize l.getD j 0=x at *
   have hp:=qx (g:=g) (a:=x.toNat) zo
   refine sL (yl x.toNat zo zo) ?_
   refine sB ?_
   refine⟨_,yd (zE g x.toNat).toNat zo zo,?_⟩
   refine sW ?_
   refine sI ?_
   refine⟨j+1,zo,zd,zD (by exact sK) ?_⟩
   rw[uC (i:=(zE g x.toNat).toNat) (f':=VU g (l.take (j+1))) zo λv _=>by
    rw[e1]
    by_cases e:v=(zE g x.toNat).toNat
    ·rw[if_pos e,show(zE g x.toNat==(v:Int))=true by rw[beq_iff_eq];omega,Bool.or_true]
    ·rw[if_neg e,show(zE g x.toNat==(v:Int))=false by rw[beq_eq_false_iff_ne];omega,Bool.or_false]]
   rfl
  have q1:j=l.length:=by have:¬j<l.length:=sO
                         omega
  subst q1
  rw[List.take_length]
  generalize hA:(λi=>okT g g.length i&&(F.take k).all λl=>VU g l i)=A at *
  have eA:∀i,(okT g g.length i&&(F.take (k+1)).all λl=>VU g l i)=(A i&&VU g l i):=λi=>by rw[eall,←hA,Bool.and_assoc]
  refine zO [0,4,7,12,36,37,38,59] (λi:Nat=>[(60,.sc (.int .i64 i))]) (λi=>[(1,.vec true 0 1 (Z8 g.length λv=>if v<i then A v&&VU g l v else A v))]) (λi=>i≤g.length) (λi=>g.length-i) 0 ?_
  refine sW ?_
  refine⟨zo,by exact sK,rfl,?_⟩
  rintro i hi
  refine sW ?_
  refine sR ?_
  refine sS (λq2=>?_) λq2=>?_
  ·have q2:i<g.length:=sO
   have eat:(if i<i then A i&&VU g l i else A i)=A i:=if_neg zo
   have eput:∀b,b=(A i&&VU g l i)→∀v,v<g.length→(if v<i+1 then A v&&VU g l v else A v)=if v=i then b else if v<i then A v&&VU g l v else A v:=λb hb v _=>by
    by_cases e:v=i
    ·subst e;rw[if_pos zo,if_pos rfl,hb]
    ·rw[if_neg e]
     by_cases e2:v<i
     ·rw[if_pos e2,if_pos zo]
     ·rw[if_neg e2,if_neg zo]
   refine sB ?_
   refine⟨_,yd i zo q2,?_⟩
   rw[eat]
   cases r:A i
   ·refine sW ?_
    refine sB ?_
    refine⟨_,yd i zo q2,?_⟩
    refine sW ?_
    refine sI ?_
    refine⟨i+1,zo,zd,zD (by exact sK) ?_⟩
    rw[uC (i:=i) zo (eput false (by rw[r];rfl))]
    rfl
   ·refine sW ?_
    refine sB ?_
    refine⟨_,yd i zo q2,?_⟩
    refine sW ?_
    refine sB ?_
    refine⟨_,yd i zo q2,?_⟩
    refine sW ?_
    refine sI ?_
    refine⟨i+1,zo,zd,zD (by exact sK) ?_⟩
    rw[uC (i:=i) zo (eput (VU g l i) (by rw[r];rfl))]
    rfl
  have q2:i=g.length:=by have:¬i<g.length:=sO
                         omega
  subst q2
  refine sI ?_
  refine⟨k+1,zo,zd,?_⟩
  dsimp only
  refine zj 2 zs rfl sQ (sU ?_)
  exact zp (xV λi hi=>by rw[if_pos hi,eA])
 have q0:k=F.length:=by have:¬k<F.length:=sO
                        omega
 subst q0
 rw[List.take_length]
 exact UH rfl
end
section
open Go.RowKit
end
section
open Go.RowKit
structure zA where
 start:List Int
 next:List (List Int)
 label:List Int
 fair:List (List Int)
def zA.cells (W:zA):List D:=[zB W.start,ya W.next,uX W.label,ya W.fair]
def wC (W:zA):D:=.agg W.cells
theorem Zy (W:zA):ze W.cells:=by simp[zA.cells,ze,zi,z7,ur]
theorem wb (W:zA):Pure (wC W):=by simp[wC,Pure,Zy]
structure zA.Fits (W:zA):Prop where
 start:W.start.length≤17592186043904
 next:W.next.length≤17592186043904
 label:W.label.length≤17592186043904
 fair:W.fair.length≤17592186043904
 WI:∀l∈W.next,l.length≤17592186043904
 WJ:∀l∈W.fair,l.length≤17592186043904
def zA.yJ (W:zA):Int :=
 if 600<W.next.length∨80<W.fair.length then 2
 else if W.label.length≠W.next.length∨xH W.start W.next.length=false then 1
 else if (W.next.any λl=>l.isEmpty||!(xH l W.next.length))=true then 1
 else if (W.fair.any λl=>!(xH l W.next.length))=true then 1
 else 0
def c142:PC:=.seq (OP [Mv 3 cF]) (.seq (OP [qm 4 0,Bi 5 .lss 4 (cI 0),qm 6 5,GF 7 6 (.move 0),GF 8 6 (.zg 1),GF 9 6 (.bin .geq 7 8),Pk 10 6 cT 9,qm 3 10]) .ret)
theorem zu0:zy Tryz.prog 142 11 [.tmp 3] c142:=fK Tryz.func142
def c68:PC:=.seq (OP [Bx 3 1,Mv 4 cF]) (.seq (OP [qm 5 0,q 6 (.qj (.func 142) [] [3]),Ca 7 49 [5,6],qm 4 7]) .ret)
theorem zz6:zy Tryz.prog 68 8 [.tmp 4] c68:=fK Tryz.func68
def c70:PC:=.seq (OP [Mv 3 cF]) (.seq (OP [qm 4 0,Lo 5 1,Ca 6 68 [4,5],qm 3 6]) .ret)
theorem zw9:zy Tryz.prog 70 7 [.tmp 3] c70:=fK Tryz.func70
def zBR:PC:=.seq (OP [Bi 32 .lss 31 30]) (.seq (.cond 32 .skip (.exit 0)) (.seq (.block 1 (.seq (OP [Ia 33 1 29 31,Lo 34 33,qm 5 34]) (.seq (OP [qm 35 5,Ln 36 35,Bi 37 .eql 36 (cI 0),qm 38 37,GF 39 38 (.move 5),GF 40 38 (.zg 3),GF 41 38 (.call 68 [39,40]),Pk 42 38 cT 41]) (.cond 42 (.seq (OP [Mv 2 (cI 1)]) .ret) .skip)))) (OP [Bi 43 .add 31 (cI 1),qm 31 43])))
def c34:PC:=.seq (OP [Bx 1 0,Mv 2 (cI 0)]) (.seq (OP [Fa 6 1 1,Lo 7 6,Ln 8 7,q 3 (.alloc [(.int .i64 0)]),So 1 3 8]) (.seq (.seq (OP [Lo 9 3,Bi 10 .gtr 9 (cI 600),qm 11 10,GF 12 11 (.zz 3 1),GF 13 11 (.zg 12),GF 14 11 (.len 13),GF 15 11 (.bin .gtr 14 (cI 80)),Pk 16 11 cT 15]) (.cond 16 (.seq (OP [Mv 2 (cI 2)]) .ret) .skip)) (.seq (.seq (OP [Fa 17 2 1,Lo 18 17,Ln 19 18,Lo 20 3,Bi 21 .neq 19 20,qm 22 21,GF 23 22 (.zz 0 1),GF 24 22 (.zg 23),GF 25 22 (.zg 3),GF 26 22 (.call 68 [24,25]),Pk 27 22 cT 26]) (.cond 27 (.seq (OP [Mv 2 (cI 1)]) .ret) .skip)) (.seq (.seq (OP [Fa 28 1 1,Lo 29 28,Ln 30 29,Mv 31 (cI 0)]) (.block 0 (.loop zBR))) (.seq (.seq (OP [Fa 44 3 1,Lo 45 44,q 46 (.qj (.func 70) [] [3]),Ca 47 69 [45,46]]) (.cond 47 (.seq (OP [Mv 2 (cI 1)]) .ret) .skip)) (.seq (OP [Mv 2 (cI 0)]) .ret))))))
theorem zxS:zy Tryz.prog 34 48 [.tmp 2] c34:=fK Tryz.func34
theorem zvO (x:Int) (n:Nat):zq Tryz.prog 142 [.sc (.int .i64 x),.y7 [.sc (.int .i64 n)]] (.sc (.bool (decide (x<0)||decide (x≥(n:Int))))):=by
 refine za zu0 zs (by simp[ze,Pure]) ?_ (by simp[Pure])
 refine sR ?_
 refine sS (λh=>?_) λh=>?_
 ·exact yA zs
 ·exact yA zs
theorem zlE (l:List Int) (hl:l.length≤9223372036854775807) (n:Nat):zq Tryz.prog 68 [zB l,.sc (.int .i64 n)] (.sc (.bool !(xH l n))):=by
 refine za zz6 zs (by simp[ze,Pure,zi]) ?_ (by simp[Pure])
 refine sR ?_
 refine sN (y4 (λn=>.sc (.int .i64 n)) (λa=>by simp[Pure]) l hl (λx=>decide (x<0)||decide (x≥(n:Int))) 142 [.y7 [.sc (.int .i64 n)]] (by simp[ze,Pure]) λa _=>zvO a n) ?_
 rw[zhv]
 exact .refl _
theorem zpA (l:List Int) (hl:l.length≤9223372036854775807) (n:Nat):zq Tryz.prog 70 [zB l,.y7 [.sc (.int .i64 n)]] (.sc (.bool !(xH l n))):=by
 refine za zw9 zs (by simp[ze,Pure,zi]) ?_ (by simp[Pure])
 refine sR ?_
 refine sC (zlE l hl n) ?_
 exact .refl _
theorem J8 (W:zA) (hW:W.Fits):zq Tryz.prog 34 [wC W] (.sc (.int .i64 W.yJ)):=by
 have b1:=hW.start
 have b2:=hW.next
 have b3:=hW.label
 have b4:=hW.fair
 refine za zxS zs (by simp[ze,Pure,wb]) ?_ (by simp[Pure])
 refine sR ?_
 rw[List.length_map]
 have fin:∀{H:List zf} {z:Int},z=W.yJ→Deep H (.sc (.int .i64 z)) (.sc (.int .i64 W.yJ)):=λh=>h▸.refl _
 refine sS (λh1=>?_) λh1=>?_
 ·exact fin (by unfold zA.yJ;rw[if_pos (sO)])
 rw[List.length_map]
 refine sS (λh2=>?_) λh2=>?_
 ·exact fin (by unfold zA.yJ;rw[if_pos (sO)])
 have c1:¬(600<W.next.length∨80<W.fair.length):=sO
 rw[List.length_map]
 refine sS (λh3=>?_) λh3=>?_
 ·exact fin (by unfold zA.yJ;rw[if_neg c1,if_pos (sO)])
 refine sC (zlE W.start zo W.next.length) ?_
 refine sS (λh4=>?_) λh4=>?_
 ·exact fin (by unfold zA.yJ;rw[if_neg c1,if_pos (.inr (by simpa using h4))])
 have c2:¬(W.label.length≠W.next.length∨xH W.start W.next.length=false):=by
  rintro(q|q)
  ·exact sO
  ·rw[q] at h4;cases h4
 refine zO [1,3,29,30] (λk:Nat=>[(31,.sc (.int .i64 k))]) (λ_=>[]) (λk=>k≤W.next.length∧∀j (hj:j<k) (hl:j<W.next.length),(W.next[j].isEmpty||!(xH W.next[j] W.next.length))=false) (λk=>W.next.length-k) 0 ?_
 refine sW ?_
 refine⟨⟨zo,λj hj=>zo⟩,by exact sK,rfl,?_⟩
 rintro k ⟨hk,hall⟩
 refine sW ?_
 refine sR ?_
 refine sS (λg=>?_) λg=>?_
 ·have hk':k<W.next.length:=sO
  refine sL (zif (k:=k) zo hk') ?_
  rw[List.length_map]
  have bk:=hW.WI _ (List.getElem_mem hk')
  refine sS (λg1=>?_) λg1=>?_
  ·have e1:(W.next[k]).isEmpty=true:=by rw[List.isEmpty_iff_length_eq_zero];exact sO
   exact fin (by unfold zA.yJ;rw[if_neg c1,if_neg c2,if_pos (zia hk' (by rw[e1];rfl))])
  have e1:(W.next[k]).isEmpty=false:=by rw[←Bool.not_eq_true,List.isEmpty_iff_length_eq_zero];exact sO
  refine sC (zlE W.next[k] zo W.next.length) ?_
  refine sS (λg2=>?_) λg2=>?_
  ·exact fin (by unfold zA.yJ;rw[if_neg c1,if_neg c2,if_pos (zia hk' (by rw[g2,e1];rfl))])
  ·refine sI ?_
   refine⟨k+1,⟨zo,λj hj hl=>?_⟩,zd,zD (by exact sK) rfl⟩
   by_cases e:j=k
   ·subst e;rw[e1,g2];rfl
   ·exact hall j zo hl
 ·have hk':¬k<W.next.length:=sO
  have c3:¬(W.next.any λl=>l.isEmpty||!(xH l W.next.length))=true:=by rw[zlh λj hj=>hall j zo hj];simp
  refine sN (X5 zB zi W.fair zo (λl=>!(xH l W.next.length)) 70 [.y7 [.sc (.int .i64 W.next.length)]] (by simp[ze,Pure]) λa ha=>zpA a (by have:=hW.WJ a ha;omega) _) ?_
  refine sS (λg3=>?_) λg3=>?_
  ·exact fin (by unfold zA.yJ;rw[if_neg c1,if_neg c2,if_neg c3,if_pos g3])
  ·exact fin (by unfold zA.yJ;rw[if_neg c1,if_neg c2,if_neg c3,if_neg (by rw[g3];simp)])
end
section
open Go.RowKit
theorem qa (W:zA) (h:W.yJ=0):W.label.length=W.next.length∧W.next.length≤600∧W.fair.length≤80∧xH W.start W.next.length=true∧(∀l∈W.next,l.length≠0∧xH l W.next.length=true)∧∀l∈W.fair,xH l W.next.length=true:=by
 unfold zA.yJ at h
 split at h
 ·exact absurd h zc
 split at h
 ·exact absurd h zc
 split at h
 ·exact absurd h zc
 split at h
 ·exact absurd h zc
 rename_i h1 h2 h3 h4
 refine⟨zo,zo,zo,?_,λl hl=>?_,λl hl=>?_⟩
 ·have:=not_or.1 h2
  simpa using this.2
 ·rw[Bool.not_eq_true,List.any_eq_false] at h3
  have:=h3 l hl
  simp only[Bool.or_eq_true,Bool.not_eq_true',not_or,Bool.not_eq_false,List.isEmpty_iff_length_eq_zero] at this
  exact this
 ·rw[Bool.not_eq_true,List.any_eq_false] at h4
  simpa using h4 l hl
end
section
section
open Go.RowKit
def zeA (n:Int):List D:=[.sc (.int .i64 n)]
@[simp] theorem zcg {m:Nat} (n:Int):zl m (zeA n):=by simp[zeA,zl,zt]
def zyw:PC:=.seq (OP [Bi 22 .lss 21 20]) (.seq (.cond 22 .skip (.exit 2)) (.seq (.block 3 (.seq (OP [Ia 23 1 19 21,Lo 24 23,qm 7 24]) (.seq (OP [qm 25 3,qm 26 7,Ia 27 1 25 26,Lo 28 27,Ln 29 28,qm 8 29]) (.seq (OP [qm 30 8,Bi 31 .eql 30 (cI 0),qm 32 31,GF 33 32 (.move 3),GF 34 32 (.move 7),GF 35 32 (.zM 1 33 34),GF 36 32 (.zg 35),GF 37 32 (.move 8),GF 38 32 (.bin .sub 37 (cI 1)),GF 39 32 (.zM 1 36 38),GF 40 32 (.zg 39),GF 41 32 (.move 4),GF 42 32 (.bin .neq 40 41),Pk 43 32 cT 42]) (.cond 43 (OP [qm 44 3,qm 45 7,qm 46 3,qm 47 7,Ia 48 1 46 47,Lo 49 48,qm 50 4,Bs 51 1 1 [50],Ap 52 1 8 49 51,Ia 53 1 44 45,So 1 53 52]) .skip))))) (OP [Bi 54 .add 21 (cI 1),qm 21 54])))
def zxg:PC:=.seq (OP [Bi 15 .lss 14 13]) (.seq (.cond 15 .skip (.exit 0)) (.seq (.block 1 (.seq (OP [qm 16 14,Ia 17 1 12 14,Lo 18 17,qm 4 16,qm 5 18]) (.seq (OP [qm 19 5,Ln 20 19,Mv 21 (cI 0)]) (.block 2 (.loop zyw))))) (OP [Bi 55 .add 14 (cI 1),qm 14 55])))
def c114:PC:=.seq (OP [Mv 2 cN]) (.seq (OP [qm 9 0,Ln 10 9,q 11 (.wE 1 24 [(.slice none 0 0)] 10 10),qm 3 11]) (.seq (.seq (OP [qm 12 0,Ln 13 12,Mv 14 (cI 0)]) (.block 0 (.loop zxg))) (.seq (OP [qm 56 3,qm 2 56]) .ret)))
theorem zvx:zy Tryz.prog 114 57 [.tmp 2] c114:=fK Tryz.func114
theorem zpb (g:List (List Int)) (hg:QA g=0) (hF:uU g):zq Tryz.prog 114 [ya g] (ya (xk g g.length)):=by
 obtain⟨hn,xL⟩:=ZX.1 hg
 refine za zvx zs (by simp[ze,Pure,z7]) ?_ (z7 _)
 unfold ya
 refine sR ?_
 rw[List.length_map]
 refine⟨zo,zo,zo,?_⟩
 rw[Int.toNat_natCast]
 refine sW ?_
 refine zG (JL 0 1 g.length 0 zs rfl) ?_
 refine z8 [3,12,13] (λn:Nat=>[(14,.sc (.int .i64 n))]) (λn=>.vec true 0 1 (vo 1 (xk g n))::y9 1 zeA (xk g n)) (λn=>n≤g.length) (λn=>g.length-n) 0 ?_
 refine sW ?_
 refine⟨zo,by exact sK,?_,?_⟩
 ·show _::_=_::_
  rw[Wl 1 _ zeA]
  exact congrArg (λx=>zf.vec true 0 1 x::_) (Wt (α:=Int) 1 _)
 rintro n hnn
 refine sW ?_
 refine sR ?_
 rw[List.length_map]
 have lG:=vc g n
 refine sS (λh1=>?_) λh1=>?_
 ·have hn':n<g.length:=sO
  refine sL (xS (k:=n) zo hn') ?_
  rw[List.length_map]
  have lx:=hF.at n
  have lR:∀k,(YW g n k (xk g n)).length=g.length:=λk=>by rw[Qc,lG]
  refine z8 [3,4,12,13,14,19,20] (λk:Nat=>[(21,.sc (.int .i64 k))]) (λk=>.vec true 0 1 (vo 1 (YW g n k (xk g n)))::y9 1 zeA (YW g n k (xk g n))) (λk=>k≤(g.getD n []).length) (λk=>(g.getD n []).length-k) 0 ?_
  refine sW ?_
  refine⟨zo,by exact sK,rfl,?_⟩
  rintro k hk
  have hl:=lR k
  refine sW ?_
  refine sR ?_
  refine sS (λh2=>?_) λh2=>?_
  ·have hk':k<(g.getD n []).length:=sO
   have hx:=zj1 (y3 xL n) hk'
   refine sL (yb (k:=k) zo hk') ?_
   have et:YW g n (k+1) (xk g n)=QE (YW g n k (xk g n)) n ((g.getD n []).getD k 0).toNat:=rfl
   generalize (g.getD n []).getD k 0=x at hx et
   refine sB ?_
   refine⟨_,wh (i:=x.toNat) zo zo,?_⟩
   refine sW ?_
   refine zmb zo ?_
   refine sW ?_
   generalize hR:YW g n k (xk g n)=R at hl et ⊢
   rw[Nat.sub_zero]
   have hrow:(R.getD x.toNat []).length≤n+1:=by
    have h5:=Xh g n x.toNat
    rcases Qy (g:=g) (n:=n) (m:=x.toNat) (L:=xk g n) k with h|h
    ·rw[←hR,h];omega
    ·rw[←hR,h,List.length_append,List.length_singleton];omega
   have eE:QE R n x.toNat=if (R.getD x.toNat []).length=0∨(R.getD x.toNat []).getD ((R.getD x.toNat []).length-1) 0≠(n:Int) then R.set x.toNat (R.getD x.toNat []++[(n:Int)]) else R:=rfl
   cases h3:(((R.getD x.toNat []).length:Int)==0)
   ·refine sW ?_
    have hne:(R.getD x.toNat []).length≠0:=sO
    refine sB ?_
    refine⟨_,wh (i:=x.toNat) zo zo,?_⟩
    refine sW ?_
    refine sI ?_
    refine zmb zo ?_
    refine sW ?_
    refine⟨zo,zo,?_⟩
    refine sW ?_
    refine zmb zo ?_
    refine sW ?_
    refine⟨_,yb (l:=R.getD x.toNat []) (k:=(R.getD x.toNat []).length-1) zo zo,?_⟩
    refine sW ?_
    refine sS (λh4=>?_) λh4=>?_
    ·have hap:(R.getD x.toNat []).length=0∨(R.getD x.toNat []).getD ((R.getD x.toNat []).length-1) 0≠(n:Int):=.inr (sO)
     refine sB ?_
     refine⟨_,wh (i:=x.toNat) zo zo,?_⟩
     refine sW ?_
     refine zaj ?_
     refine sW ?_
     (repeat (first|(refine xQ 0 rfl ?_;((conv=>whnf);repeat(refine⟨rfl,?_⟩;conv=>whnf)))|(refine xP 0 rfl ?_;((conv=>whnf);repeat(refine⟨rfl,?_⟩;conv=>whnf)))|(refine xQ 1 rfl ?_;((conv=>whnf);repeat(refine⟨rfl,?_⟩;conv=>whnf)))|(refine xP 1 rfl ?_;((conv=>whnf);repeat(refine⟨rfl,?_⟩;conv=>whnf)))))
     refine zaE zo ?_
     refine sW ?_
     refine⟨by unfold xd;simp only[List.length_drop,List.length_take,List.length_cons,List.length_nil];omega,?_⟩
     refine sW ?_
     refine zcT (R.getD x.toNat []++[(n:Int)]) zo ?_ ?_
     ·exact zdH
     refine sW ?_
     refine sB ?_
     refine⟨_,wh (i:=x.toNat) zo zo,?_⟩
     refine sW ?_
     refine sI ?_
     refine⟨k+1,zo,zd,?_⟩
     dsimp only
     rw[et,eE,if_pos hap]
     refine zj (g.length+1) (by simp[lG]) (by simp[hl]) (by exact sQ) ⟨⟨rfl,rfl,rfl,zp (X1 zo zo _ zs),uO (by simp;omega)⟩,Vl zcg⟩
    ·have hap:¬((R.getD x.toNat []).length=0∨(R.getD x.toNat []).getD ((R.getD x.toNat []).length-1) 0≠(n:Int)):=by
      rintro(q|q)
      ·exact hne q
      ·exact sO
     refine sI ?_
     refine⟨k+1,zo,zd,?_⟩
     dsimp only
     rw[et,eE,if_neg hap]
     exact zD (by exact sK) rfl
   ·refine sW ?_
    have hne:(R.getD x.toNat []).length=0:=sO
    have hap:(R.getD x.toNat []).length=0∨(R.getD x.toNat []).getD ((R.getD x.toNat []).length-1) 0≠(n:Int):=.inl hne
    refine sB ?_
    refine⟨_,wh (i:=x.toNat) zo zo,?_⟩
    refine sW ?_
    refine zaj ?_
    refine sW ?_
    (repeat (first|(refine xQ 0 rfl ?_;((conv=>whnf);repeat(refine⟨rfl,?_⟩;conv=>whnf)))|(refine xP 0 rfl ?_;((conv=>whnf);repeat(refine⟨rfl,?_⟩;conv=>whnf)))|(refine xQ 1 rfl ?_;((conv=>whnf);repeat(refine⟨rfl,?_⟩;conv=>whnf)))|(refine xP 1 rfl ?_;((conv=>whnf);repeat(refine⟨rfl,?_⟩;conv=>whnf)))))
    refine zaE zo ?_
    refine sW ?_
    refine⟨by unfold xd;simp only[List.length_drop,List.length_take,List.length_cons,List.length_nil];omega,?_⟩
    refine sW ?_
    refine zcT (R.getD x.toNat []++[(n:Int)]) zo ?_ ?_
    ·exact zdH
    refine sW ?_
    refine sB ?_
    refine⟨_,wh (i:=x.toNat) zo zo,?_⟩
    refine sW ?_
    refine sI ?_
    refine⟨k+1,zo,zd,?_⟩
    dsimp only
    rw[et,eE,if_pos hap]
    refine zj (g.length+1) (by simp[lG]) (by simp[hl]) (by exact sQ) ⟨⟨rfl,rfl,rfl,zp (X1 zo zo _ zs),uO (by simp;omega)⟩,Vl zcg⟩
  ·have hk':k=(g.getD n []).length:=by have:¬k<(g.getD n []).length:=sO
                                       omega
   subst hk'
   refine sI ?_
   refine⟨n+1,zo,zd,?_⟩
   exact zD (by exact sK) rfl
 ·have hn':n=g.length:=by have:¬n<g.length:=sO
                          omega
  subst hn'
  have:=zkx (H:=zf.vec true 0 1 (vo 1 (xk g g.length))::y9 1 zeA (xk g g.length)) (b:=1) (zH:=1) (c:=zeA) (L:=xk g g.length) (λi hi=>by
   rw[show i+1=i+1 from rfl,List.getElem?_cons_succ]
   exact Xo hi)
  refine .own _ _ _ _ _ _ _ _ rfl ?_
  rw[zu (by simp[lG])]
  exact this
end
section
open Go.RowKit
open Classical in
theorem znl {Z:List Int} {lo hi:Nat} (h1:lo<hi) (h2:hi≤Z.length):(Z.take hi).drop lo=Z.getD lo 0::(Z.take hi).drop (lo+1):=by
 rw[List.drop_eq_getElem_cons (by rw[List.length_take];omega),List.getElem_take,List.getD_eq_getElem?_getD,List.getElem?_eq_getElem zo]
 rfl
theorem Zf {Z:List Int} {lo hi:Nat} {k:Int}:((zL Z).take hi).drop lo++[[D.sc (.int .i64 k)]]=zL ((Z.take hi).drop lo++[k]):=by
 simp[zL]
end
section
open Go.RowKit
def WQ (l:List Int):List Nat:=l.map Int.toNat
theorem JV (l r:List Int):WQ (l++r)=WQ l++WQ r:=by simp[WQ]
theorem W3 {l:List Int} {n:Nat}:n∈WQ l↔∃x∈l,x.toNat=n:=by simp[WQ]
theorem zgT (x:Int) (r:List Int):WQ (x::r)=x.toNat::WQ r:=rfl
end
section
open Go.RowKit
end
end
section
open Go.RowKit
theorem zpw {P:Program} {f:FuncId} {args args':List D} {d:D} {H:List zf} (hd:wP H args args') (h:zq P f args' d):yu P f args H d (Wg H):=by
 obtain⟨hf,hp⟩:=h
 refine⟨hf,by rw[vi,List.length_map];exact Nat.le_refl _,λJ F w vs hok hdom hargs=>?_⟩
 have hlt:∀b,F b∨Zs J b→b<w.heap.size:=λb hb=>hb.elim (hok.lt b) λ⟨i,s,hi,hs⟩=>hok.xu hi hs
 refine(hp J (λb=>F b∨Zs J b) w _ (hok.lt.mono (λ_ h=>.inl h) (λ_ _=>rfl) hlt) (vU hok (λ_ _ h=>h) _ _ _ hd hargs)).mono λe w' hR=>?_
 obtain⟨v,F',rfl,h1,h2,h3⟩:=hR
 have hblk:∀b,b<w.heap.size→w'.heap[b]? = w.heap[b]?:=λb hb=>h3.block b hb (ZK b)
 refine⟨v,J,F',rfl,⟨λi s hs=>?_,hok.one,λi s b o g1 g2 g3 g4=>?_,hok.lt.mono (λb hb=>h3.grow b (.inl hb)) (λb hb=>hblk b (hok.lt b hb)) h1⟩,λid hid=>?_,yT (JY J) (λ_ h=>h) (λ_ _=>rfl) _ _ h2,?_⟩
 ·obtain⟨o,q1,q2⟩:=hok.obj i s hs
  refine⟨o.frozen,?_,?_⟩
  ·rw[vi,List.getElem?_map,q1];rfl
  ·have q3:=xX (J':=J) (F':=F') (w':=w') (yX.le_refl J) (λb hb=>h3.grow b (.inl hb)) (λb hb=>hblk b (hok.lt b hb)) (λb hb=>hblk b (hok.xu hs hb)) q2
   cases o with
   | row m cs =>
    obtain⟨k1,k2,k3,k4,k5,b,vals,te,t1,t2,t3,t4,t5⟩:=q3
    exact⟨k1,k2,k3,k4,k5,b,vals,te,t1,t2,t3,t4,λ_=>h3.grow b (.inr ⟨i,s,hs,by simp[Site.u6,k1,t1]⟩)⟩
   | vec m v e xs =>
    obtain⟨k1,k2,k3,k4,k5,k6⟩:=q3
    refine⟨k1,k2,k3,k4,k5,?_⟩
    by_cases hz:s.cap=0
    ·exact .inl hz
    ·rcases k6 with k6|⟨b,o,vals,te,t1,t2,t3,t4,t5⟩
     ·exact .inl k6
     ·exact .inr ⟨b,o,vals,te,t1,t2,t3,t4,λ_=>h3.grow b (.inr ⟨i,s,hs,by simp[Site.u6,k1,hz,t1]⟩)⟩
   | wc m I=>exact q3
 ·exfalso
  rw[vi,List.getElem?_map] at g3
  cases e:H[i]? with
  | none=>rw[e] at g3;cases g3
  | some x =>
   rw[e] at g3
   cases x<;>cases g3<;>cases g4
 ·rw[vi,List.length_map]
  exact hdom id hid
 ·exact⟨h3.os,h3.tape,h3.output,h3.size,λb hb _=>hblk b hb,λb hb=>hblk b (hok.lt b hb),yX.le_refl J,λb hb=>h3.grow b (.inl hb),λb hb=>.inl hb,λb hb=>by
   rcases h3.wu b hb with q|q|q
   ·rcases q with q|q
    ·exact .inl q
    ·exact .inr (.inl q)
   ·exact absurd q (ZK b)
   ·exact .inr (.inr q)⟩
theorem Ws {P:Program} {f:FuncId} {args0 args' args:List D} {d:D} {H0 H:List zf} (hd:wP H0 args0 args') (h:zq P f args' d) (hp:Pure d) (L:List Nat) (hL:L.length=H0.length) (hnd:L.Nodup)
  (hargs:zl H0.length args0) (hobj:wD H0.length H0) (e1:yG (λi=>L.getD i 0) args0=args)
  (h1:∀i o,H0[i]? = some o→H[L.getD i 0]? = some (o.yI λi=>L.getD i 0)):u7 P f args H d (WA H L ((Wg H0).map (zf.yI λi=>L.getD i 0))) L :=
 QY (zpw hd h) (by rw[vi,List.length_map]) L hL hnd hargs hobj e1 (yH _ hp) h1
theorem qf {P:Program} {f:FuncId} {pre post:List D} {d:D} {H:List zf} {id zY lo hi zH:Nat} {q:Bool} {xs:List (List D)} (h:zq P f (pre++.xj zH ((xs.take hi).drop lo)::post) d) (hp:Pure d) (hpre:ze pre) (hpost:ze post) (hxs:yE xs)
  (hid:H[id]? = some (.vec q zY zH xs)):u7 P f (pre++.own id zY lo hi::post) H d (H.set id (.vec false zY zH xs)) [id]:=by
 have hap:∀(a b:List D) (ρ:Nat→Nat),yG ρ (a++b)=yG ρ a++yG ρ b:=λa b ρ=>by
  induction a with
  | nil=>simp only[yG,List.nil_append]
  | cons x r ih=>simp only[List.cons_append,yG,ih]
 have hua:∀(a b:List D),zl 1 a→zl 1 b→zl 1 (a++b):=λa b ha hb=>by
  induction a with
  | nil=>exact hb
  | cons x r ih=>simp only[zl,List.cons_append] at ha ⊢;exact⟨ha.1,ih ha.2⟩
 have hda:∀(a b c e:List D),wP [.vec q zY zH xs] a b→wP [.vec q zY zH xs] c e→wP [.vec q zY zH xs] (a++c) (b++e):=λa b c e ha hc=>by
  induction a generalizing b with
  | nil=>cases ha;exact hc
  | cons x r ih=>cases ha with|cons _ _ _ _ h k=>exact .cons _ _ _ _ h (ih _ k)
 have:=Ws (args0:=pre++.own 0 zY lo hi::post) (H0:=[.vec q zY zH xs]) (H:=H) (args:=pre++.own id zY lo hi::post)
  (hda _ _ _ _ (xv pre) (.cons _ _ _ _ (.own _ _ _ _ _ _ _ _ rfl (z6 _)) (xv post))) h hp [id] rfl zs (hua _ _ (zr _ hpre) ⟨by simp[zt],zr _ hpost⟩) ⟨zh _ hxs,trivial⟩
  (by rw[hap,xa _ hpre];simp only[yG,D.yI,xa _ hpost];rfl) (λi o ho=>by
   cases i with
   | zero =>
    simp at ho;subst ho
    show H[id]? = _
    rw[hid]
    simp only[zf.yI,yw _ hxs]
   | succ i=>simp at ho)
 simpa [Wg,zf.frozen,zf.yI,yw _ hxs,WA] using this
end
section
open Go.RowKit
def Z1 (N:Nat) (T:Nat→List Int) (k:Nat) (c:List Int):List (List Int):=(List.range N).map λi=>if i<k then T i else if i=k then c else []
@[simp] theorem zqW (N:Nat) (T:Nat→List Int) (k:Nat) (c:List Int):(Z1 N T k c).length=N:=by simp[Z1]
theorem zqt {N i:Nat} {T:Nat→List Int} {k:Nat} {c:List Int} (h:i<N):(Z1 N T k c).getD i []=if i<k then T i else if i=k then c else []:=by
 rw[List.getD_eq_getElem?_getD,List.getElem?_eq_getElem (by simpa using h)];simp[Z1]
theorem zvc {N:Nat} {T:Nat→List Int} {k:Nat} {c:List Int} (h:k<N):(Z1 N T k c).getD k []=c:=by
 rw[zqt h,if_neg zo,if_pos rfl]
theorem zqN {N:Nat} {T:Nat→List Int} {k:Nat} {c c':List Int} (h:k<N):(Z1 N T k c).set k c'=Z1 N T k c':=by
 refine List.ext_getElem? λi=>?_
 rw[List.getElem?_set]
 by_cases e:k=i
 ·subst e
  rw[if_pos rfl,if_pos (by simpa using h),List.getElem?_eq_getElem (by simpa using h)]
  simp[Z1]
 ·rw[if_neg e]
  by_cases hi:i<N
  ·rw[List.getElem?_eq_getElem (by simpa using hi),List.getElem?_eq_getElem (by simpa using hi)]
   simp only[Z1,List.getElem_map,List.getElem_range]
   congr 1
   by_cases q:i<k
   ·rw[if_pos q,if_pos q]
   ·rw[if_neg q,if_neg q,if_neg (λz=>e z.symm),if_neg (λz=>e z.symm)]
  ·rw[List.getElem?_eq_none (by simp;omega),List.getElem?_eq_none (by simp;omega)]
theorem zn5 {N:Nat} {T:Nat→List Int} {k:Nat}:Z1 N T k (T k)=Z1 N T (k+1) []:=by
 unfold Z1
 refine List.map_congr_left λi _=>?_
 by_cases q:i<k
 ·rw[if_pos q,if_pos zo]
 ·rw[if_neg q]
  by_cases e:i=k
  ·subst e;rw[if_pos rfl,if_pos zo]
  ·rw[if_neg e,if_neg zo];split<;>rfl
theorem zom (N:Nat) (T:Nat→List Int):Z1 N T 0 []=List.replicate N []:=by
 refine List.ext_getElem? λi=>?_
 by_cases h:i<N
 ·rw[List.getElem?_eq_getElem (by simpa using h),List.getElem?_eq_getElem (by simpa using h)]
  simp[Z1]
 ·rw[List.getElem?_eq_none (by simp;omega),List.getElem?_eq_none (by simp;omega)]
theorem zpM (N:Nat) (T:Nat→List Int) (c:List Int):Z1 N T N c=(List.range N).map T:=by
 unfold Z1
 exact List.map_congr_left λi hi=>if_pos (List.mem_range.1 hi)
theorem zeH (g:List (List Int)) (z:Nat→Bool) (v:Nat) (hv:v<g.length):(uG g z).getD v []=if z v=true then (g.getD v []).filter λx=>z x.toNat else []:=by
 rw[List.getD_eq_getElem?_getD,List.getElem?_eq_getElem (by simpa using hv)];simp[uG]
theorem zvo {g:List (List Int)} (xL:∀l∈g,xH l g.length=true) (z:Nat→Bool):∀l∈uG g z,xH l (uG g z).length=true:=by
 intro l hl
 obtain⟨v,hv,rfl⟩:=List.mem_map.1 hl
 rw[zeu]
 split
 ·exact wj λx hx=>zT (y3 xL v) (List.mem_filter.1 hx).1
 ·rfl
theorem zph {g:List (List Int)} (hF:uU g) (z:Nat→Bool):uU (uG g z):=by
 refine⟨by rw[zeu];exact hF.len,λl hl=>?_⟩
 obtain⟨v,hv,rfl⟩:=List.mem_map.1 hl
 have:=hF.at v
 split
 ·exact Nat.le_trans (List.length_filter_le _ _) this
 ·simp
theorem zoD {g:List (List Int)} (hg:QA g=0):QA (xk g g.length)=0∧uU (xk g g.length)∧zcv (xk g g.length) (λ_=>false)≤g.length*g.length:=by
 obtain⟨hn,xL⟩:=ZX.1 hg
 have hin1:∀v x,x∈g.getD v []→x.toNat<g.length:=λv x hx=>by have:=zT (y3 xL v) hx;omega
 have hr:∀l∈xk g g.length,∃m,l=(xk g g.length).getD m []:=λl hl=>by
  obtain⟨m,hm,rfl⟩:=List.mem_iff_getElem.1 hl
  exact⟨m,by rw[List.getD_eq_getElem?_getD,List.getElem?_eq_getElem hm];rfl⟩
 refine⟨ZX.2 ⟨by rw[vc];exact hn,λl hl=>?_⟩,⟨by rw[vc];omega,λl hl=>?_⟩,?_⟩
 ·obtain⟨m,rfl⟩:=hr l hl
  rw[vc]
  refine wj λx hx=>?_
  obtain⟨k,hk,rfl,_⟩:=(Xj hin1 (Nat.le_refl _)).1 hx
  omega
 ·obtain⟨m,rfl⟩:=hr l hl
  have:=Xh g g.length m
  omega
 ·have key:∀n,vh (λv=>if false=true then 0 else ((xk g g.length).getD v []).length) n≤n*g.length:=λn=>by
   induction n with
   | zero=>simp[vh]
   | succ n ih =>
    simp only[vh] at ih ⊢
    have:=Xh g g.length n
    rw[Nat.add_mul,Nat.one_mul]
    simp only[Bool.false_eq_true,if_false] at ih ⊢
    omega
  have:=key (xk g g.length).length
  rw[vc] at this
  unfold zcv
  rw[vc]
  exact this
def c54:PC:=.seq (OP [Mv 2 cN,Mv 3 (cI 0)]) (.seq (.seq (OP [qm 5 0,Ca 6 113 [5],qm 4 6]) (.seq (OP [qm 7 4,Bi 8 .neq 7 (cI 0)]) (.cond 8 (.seq (OP [qm 9 4,Mv 2 cN,qm 3 9]) .ret) .skip))) (.seq (OP [qm 10 0,Ca 11 114 [10],qm 2 11,Mv 3 (cI 0)]) .ret))
theorem zzZ:zy Tryz.prog 54 12 [.tmp 2,.tmp 3] c54:=fK Tryz.func54
theorem zfP (g:List (List Int)) (hg:QA g=0) (hF:uU g):zq Tryz.prog 54 [ya g] (.yO [ya (xk g g.length),.sc (.int .i64 0)]):=by
 refine za zzZ zs (by simp[ze,z7]) ?_ (by simp[Pure,ze,z7])
 refine sR ?_
 refine sC (zfJ g hF) ?_
 refine sS (λh1=>?_) λh1=>?_
 ·exfalso;exact sO
 refine sC (zpb g hg hF) ?_
 exact .refl _
theorem zn3 {L:List (List Int)} {n:Nat} (hn:n=L.length):D.xj 1 (((L.map λl=>[zB l]).take n).drop 0)=ya L:=by
 subst hn
 unfold ya
 rw[zu zs]
@[simp] theorem zwO {m:Nat} (l:List Int):zt m (uX l)↔True:=⟨λ_=>trivial,λ_=>zw _ (ur l)⟩
def uP (g:List (List Int)) (z:Nat→Bool) (v k:Nat):List Int:=if z v=true then ((g.getD v []).take k).filter λx=>z x.toNat else []
theorem zn9 {g:List (List Int)} {z:Nat→Bool} {v k:Nat} (h:k<(g.getD v []).length):uP g z v (k+1)=if z v=true∧z ((g.getD v []).getD k 0).toNat=true then uP g z v k++[(g.getD v []).getD k 0] else uP g z v k:=by
 unfold uP
 generalize g.getD v []=L at h ⊢
 cases hz:z v
 ·simp
 ·rw[if_pos rfl,if_pos rfl,List.take_add_one,List.getElem?_eq_getElem h,List.filter_append,List.getD_eq_getElem?_getD,List.getElem?_eq_getElem h]
  simp only[Option.toList_some,Option.getD_some,true_and,List.filter_cons,List.filter_nil]
  split<;>simp
theorem zrm (g:List (List Int)) (z:Nat→Bool) (v k:Nat):(uP g z v k).length≤k:=by
 unfold uP
 split
 ·exact Nat.le_trans (List.length_filter_le _ _) (by simp;omega)
 ·simp
theorem zqw (g:List (List Int)) (z:Nat→Bool):(List.range g.length).map (λv=>uP g z v (g.getD v []).length)=uG g z:=by
 unfold uG uP
 exact List.map_congr_left λv _=>by rw[List.take_length]
def wx (vN:Nat→Bool) (k:Nat):List Int:=((List.range k).filter vN).map λn:Nat=>(n:Int)
theorem VP (vN:Nat→Bool) (k:Nat):wx vN (k+1)=if vN k=true then wx vN k++[(k:Int)] else wx vN k:=by
 unfold wx
 rw[List.range_succ,List.filter_append,List.map_append]
 simp only[List.filter_cons,List.filter_nil]
 split<;>simp
theorem Qa (vN:Nat→Bool) (k:Nat):(wx vN k).length≤k:=by
 unfold wx
 rw[List.length_map]
 exact Nat.le_trans (List.length_filter_le _ _) zs
theorem vy {vN:Nat→Bool} {k:Nat} {x:Int}:x∈wx vN k↔0≤x∧x<(k:Int)∧vN x.toNat=true:=by
 unfold wx
 rw[List.mem_map]
 constructor
 ·rintro⟨n,hn,rfl⟩
  obtain⟨h1,h2⟩:=List.mem_filter.1 hn
  have:=List.mem_range.1 h1
  exact⟨zo,zo,by rw[Int.toNat_natCast];exact h2⟩
 ·rintro⟨h1,h2,h3⟩
  exact⟨x.toNat,List.mem_filter.2 ⟨List.mem_range.2 zo,h3⟩,zo⟩
def zz9:PC:=.seq (OP [Bi 33 .lss 32 31]) (.seq (.cond 33 .skip (.exit 2)) (.seq (.block 3 (.seq (OP [Ia 34 1 30 32,Lo 35 34,qm 9 35]) (.seq (OP [qm 36 1,qm 37 6,Ia 38 1 36 37,Lo 39 38,qm 40 39,GT 41 40 (.move 1),GT 42 40 (.move 9),GT 43 40 (.zM 1 41 42),GT 44 40 (.zg 43),Pk 45 40 44 cF]) (.cond 45 (OP [qm 46 5,qm 47 6,qm 48 5,qm 49 6,Ia 50 1 48 49,Lo 51 50,qm 52 9,Bs 53 1 1 [52],Ap 54 1 8 51 53,Ia 55 1 46 47,So 1 55 54]) .skip)))) (OP [Bi 56 .add 32 (cI 1),qm 32 56])))
def zzY:PC:=.seq (OP [Bi 26 .lss 25 24]) (.seq (.cond 26 .skip (.exit 0)) (.seq (.block 1 (.seq (OP [qm 27 25,Ia 28 1 23 25,Lo 29 28,qm 6 27,qm 7 29]) (.seq (OP [qm 30 7,Ln 31 30,Mv 32 (cI 0)]) (.block 2 (.loop zz9))))) (OP [Bi 57 .add 25 (cI 1),qm 25 57])))
def zz5:PC:=.seq (OP [Bi 68 .lss 67 66]) (.seq (.cond 68 .skip (.exit 4)) (.seq (.block 5 (.seq (OP [qm 69 67,qm 13 69]) (.seq (OP [qm 70 1,qm 71 13,Ia 72 1 70 71,Lo 73 72,qm 74 73,GT 75 74 (.move 11),GT 76 74 (.move 10),GT 77 74 (.move 13),GT 78 74 (.zM 1 76 77),GT 79 74 (.zg 78),GT 80 74 (.zM 1 75 79),GT 81 74 (.zg 80),Pk 82 74 81 cF]) (.cond 82 (OP [qm 83 12,qm 84 13,Bs 85 1 1 [84],Ap 86 1 8 83 85,qm 12 86]) .skip)))) (OP [Bi 87 .add 67 (cI 1),qm 67 87])))
def c112:PC:=.seq (OP [Bx 2 0,Mv 4 cN]) (.seq (OP [Fa 18 1 2,Lo 19 18,Ln 20 19,q 21 (.wE 1 24 [(.slice none 0 0)] 20 20),qm 5 21]) (.seq (.seq (OP [Fa 22 1 2,Lo 23 22,Ln 24 23,Mv 25 (cI 0)]) (.stop (.block 0 (.loop zzY)))) (.seq (OP [qm 58 5,Ca 59 82 [58],qm 10 59]) (.seq (OP [qm 60 5,qm 61 10,Fa 62 3 2,Lo 63 62,Ca 64 182 [60,61,63],qm 11 64]) (.seq (OP [Mv 12 cN]) (.seq (.seq (OP [qm 65 5,Ln 66 65,Mv 67 (cI 0)]) (.block 4 (.loop zz5))) (.seq (OP [qm 89 5,Ca 90 54 [89],qm 88 90,Xt 91 0 88,Xt 92 1 88,qm 14 91,qm 15 92]) (.seq (OP [qm 94 14,qm 95 12,Ca 96 98 [94,95],qm 93 96,Xt 97 0 93,Xt 98 1 93,qm 16 97,qm 17 98]) (.seq (OP [qm 99 16,qm 4 99]) .ret)))))))))
theorem ztQ:zy Tryz.prog 112 100 [.tmp 4] c112:=fK Tryz.func112
theorem zgs (W:zA) (hW:W.Fits) (hc:W.yJ=0) (z:Nat→Bool):zq Tryz.prog 112 [wC W,uh W.next.length z] (uh W.next.length (fwB (uG W.next z) (W.fair.map XI))):=by
 obtain⟨_,h600,h80,_,hnx,hfr⟩:=qa W hc
 have hin0:∀l∈W.next,xH l W.next.length=true:=λl hl=>(hnx l hl).2
 have hFN:uU W.next:=⟨hW.next,hW.WI⟩
 have hFF:uU W.fair:=⟨hW.fair,hW.WJ⟩
 have hrow:=λk=>y3 hin0 k
 refine za ztQ zs (by simp[ze,wb,zV]) ?_ (zV _ _)
 unfold wC
 refine sR ?_
 rw[List.length_map]
 refine⟨zo,zo,zo,?_⟩
 rw[Int.toNat_natCast]
 refine sW ?_
 rw[List.length_map]
 refine zcW (λ_:Unit=>[(1,uh W.next.length z),(2,.loc 0 0),(5,.own 1 0 0 W.next.length)]) (λ_=>[.row true W.cells,.vec true 0 1 ((uG W.next z).map λl=>[zB l])]) (λ_=>True) ?_ ?_
 ·refine sR ?_
  refine zG (JL 1 1 W.next.length 0 zs rfl) ?_
  refine z8 [1,2,5,23,24] (λk:Nat=>[(25,.sc (.int .i64 k))]) (λk=>.row true W.cells::.vec true 0 1 (vo 2 (Z1 W.next.length (λv=>uP W.next z v (W.next.getD v []).length) k []))::y9 1 UT (Z1 W.next.length (λv=>uP W.next z v (W.next.getD v []).length) k [])) (λk=>k≤W.next.length) (λk=>W.next.length-k) 0 ?_
  refine sW ?_
  refine⟨zo,by exact sK,?_,?_⟩
  ·rw[zom]
   show _::_::_=_::_::_
   rw[Wl 1 _ UT]
   exact congrArg (λx=>zf.row true W.cells::zf.vec true 0 1 x::_) (Wt (α:=Int) 2 _)
  rintro k hk
  refine sW ?_
  refine sR ?_
  refine sS (λq0=>?_) λq0=>?_
  ·have q0:k<W.next.length:=sO
   have hgF:=hFN.at k
   refine sL (xS (g:=W.next) (k:=k) zo q0) ?_
   rw[List.length_map]
   refine z8 [1,2,5,6,23,24,25,30,31] (λj:Nat=>[(32,.sc (.int .i64 j))]) (λj=>.row true W.cells::.vec true 0 1 (vo 2 (Z1 W.next.length (λv=>uP W.next z v (W.next.getD v []).length) k (uP W.next z k j)))::y9 1 UT (Z1 W.next.length (λv=>uP W.next z v (W.next.getD v []).length) k (uP W.next z k j)))
    (λj=>j≤(W.next.getD k []).length) (λj=>(W.next.getD k []).length-j) 0 ?_
   refine sW ?_
   refine⟨zo,by exact sK,by rw[show uP W.next z k 0=[] by unfold uP;split<;>simp],?_⟩
   rintro j hj
   refine sW ?_
   refine sR ?_
   refine sS (λq1=>?_) λq1=>?_
   ·have q1:j<(W.next.getD k []).length:=sO
    have eS:=zn9 (z:=z) q1
    have hx:=zT (hrow k) (yv q1)
    have hrl:=zrm W.next z k j
    refine sL (yb (l:=W.next.getD k []) (k:=j) zo q1) ?_
    refine sL (yd k zo q0) ?_
    generalize (W.next.getD k []).getD j 0=x at *
    have same:(z k=true∧z x.toNat=true→False)→uP W.next z k (j+1)=uP W.next z k j:=λh=>by rw[eS,if_neg h]
    cases zk:z k
    ·refine sW ?_
     refine sI ?_
     refine⟨j+1,zo,zd,zD (by exact sK) ?_⟩
     dsimp only
     rw[same λq=>by rw[zk] at q;cases q.1]
    ·refine sW ?_
     refine sL (yd x.toNat zo zo) ?_
     cases zx:z x.toNat
     ·refine sW ?_
      refine sI ?_
      refine⟨j+1,zo,zd,zD (by exact sK) ?_⟩
      dsimp only
      rw[same λq=>by rw[zx] at q;cases q.2]
     ·rw[if_pos ⟨zk,zx⟩] at eS
      refine sW ?_
      refine sB ?_
      refine⟨_,wh (i:=k) zo (by simp;omega),?_⟩
      refine sW ?_
      have hset:(Z1 W.next.length (λv=>uP W.next z v (W.next.getD v []).length) k (uP W.next z k j)).set k (uP W.next z k j++[x])=Z1 W.next.length (λv=>uP W.next z v (W.next.getD v []).length) k (uP W.next z k (j+1)):=by rw[zqN q0,←eS]
      have hlen:(Z1 W.next.length (λv=>uP W.next z v (W.next.getD v []).length) k (uP W.next z k j)).length=W.next.length:=zqW ..
      have hgk:(Z1 W.next.length (λv=>uP W.next z v (W.next.getD v []).length) k (uP W.next z k j)).getD k []=uP W.next z k j:=zvc q0
      generalize Z1 W.next.length (λv=>uP W.next z v (W.next.getD v []).length) k (uP W.next z k j)=R at *
      refine zaj ?_
      refine sW ?_
      (repeat (first|(refine xQ 0 rfl ?_;((conv=>whnf);repeat(refine⟨rfl,?_⟩;conv=>whnf)))|(refine xP 0 rfl ?_;((conv=>whnf);repeat(refine⟨rfl,?_⟩;conv=>whnf)))|(refine xQ 1 rfl ?_;((conv=>whnf);repeat(refine⟨rfl,?_⟩;conv=>whnf)))|(refine xP 1 rfl ?_;((conv=>whnf);repeat(refine⟨rfl,?_⟩;conv=>whnf)))))
      refine zaE zo ?_
      refine sW ?_
      rw[hgk]
      refine⟨by unfold xd;simp only[List.length_drop,List.length_take,List.length_cons,List.length_nil];omega,?_⟩
      refine sW ?_
      refine zcT (uP W.next z k j++[x]) zo ?_ ?_
      ·exact zdH
      refine sW ?_
      refine sB ?_
      refine⟨_,wh (i:=k) zo zo,?_⟩
      refine sW ?_
      refine sI ?_
      refine⟨j+1,zo,zd,?_⟩
      dsimp only
      rw[hset]
      refine zj (W.next.length+2) zs zs (by exact sQ) ⟨⟨rfl,.refl _,zr _ (Zy W)⟩,⟨rfl,rfl,rfl,zp ?_,uO (by simp;omega)⟩,Vl zcf⟩
      exact(X1 zo zo (uP W.next z k j++[x]) zs).trans (by rw[hset])
   ·have q1:j=(W.next.getD k []).length:=by have:¬j<(W.next.getD k []).length:=sO
                                            omega
    subst q1
    rw[show Z1 W.next.length (λv=>uP W.next z v (W.next.getD v []).length) k (uP W.next z k (W.next.getD k []).length)=Z1 W.next.length (λv=>uP W.next z v (W.next.getD v []).length) (k+1) [] from zn5]
    refine sI ?_
    exact⟨k+1,zo,zd,zD (by exact sK) rfl⟩
  ·have q0:k=W.next.length:=by have:¬k<W.next.length:=sO
                               omega
   subst q0
   rw[zpM,zqw]
   refine⟨(),trivial,zj 2 zs rfl (by exact sQ) ⟨⟨rfl,.refl _,zr _ (Zy W)⟩,⟨rfl,rfl,rfl,VN (c:=UT) (λi hi=>by simp[YZ]) (λi hi=>?_),zh _ (vq _)⟩,Jo _⟩⟩
   show(y9 1 UT (uG W.next z))[i]? = _
   exact Xo hi
 intro _ _
 have g1:=zvo hin0 z
 have g2:=zph hFN z
 have hl:=zeu W.next z
 have g3:QA (uG W.next z)=0:=ZX.2 ⟨zo,g1⟩
 obtain⟨t1,t2,t3⟩:=zoD g3
 have hSp:=zgO (uG W.next z) zo g1 g2
 have hFp:=zrd (uG W.next z) zo g1 g2 W.fair hFF (λl hl'=>by rw[hl];exact hfr l hl')
 have hTu:=zfP (uG W.next z) g3 g2
 have hpl:=λk (hk:k<(uG W.next z).length)=>qx hk
 obtain⟨vN,hgood⟩:∃vN:Nat→Bool,vN=λv=>z v&&zdN (uG W.next z) W.fair (zE (uG W.next z) v).toNat:=⟨_,rfl⟩
 have hEn:∀v,v<(uG W.next z).length→zcq (xk (uG W.next z) (uG W.next z).length) (wx vN W.next.length) v=fwB (uG W.next z) (W.fair.map XI) v:=λv hv=>zpe g1 (λl hl'=>by rw[hl];exact hfr l hl') (λx=>by
  rw[vy,hl,hgood]
  refine and_congr_right λ_=>and_congr_right λhx=>?_
  show(z x.toNat&&zdN _ _ _)=true↔_
  rw[Bool.and_eq_true]
  refine⟨λq=>q.2,λq=>⟨?_,q⟩⟩
  have hx':x.toNat<(uG W.next z).length:=by have:=hx;omega
  have hp:=hpl _ hx'
  obtain⟨⟨y,y1,_⟩,_⟩:=(zdy (λv x hx=>by have:=zT (y3 g1 v) hx;omega) (λl hl'=>by rw[hl];exact hfr l hl') hx' zo).1 q
  exact(zq9.1 y1).2.1) hv
 have hRe:=zgl _ t1 t2 (wx vN W.next.length) (by rw[vc,hl];exact wj λx hx=>⟨(vy.1 hx).1,(vy.1 hx).2.1⟩) (by have:=Qa vN W.next.length;have:=Nat.mul_le_mul (show(uG W.next z).length≤600 by omega) (show(uG W.next z).length≤600 by omega);omega)
 rw[vc,zo5 λi hi=>hEn i hi] at hRe
 have cut:=zn3 (L:=uG W.next z) hl.symm
 rw[←cut] at hSp hFp hTu
 clear hEn g1 g2 g3 t1 t2 t3
 refine sW ?_
 refine sE (qf (pre:=[]) (post:=[]) hSp (zi _) trivial trivial (vq _) rfl) ?_
 refine sE (qf (pre:=[]) (post:=[_,_]) hFp (zV _ _) trivial ⟨zi _,z7 _,trivial⟩ (vq _) rfl) ?_
 refine zG (xr 12 1 zs rfl) ?_
 refine zO [1,5,10,11,66] (λ((k,c):Nat × Nat)=>[(12,.own 2 c 0 c),(67,.sc (.int .i64 k))]) (λ(k,c)=>[(2,.vec true c 1 (zL (wx vN k)))]) (λ(k,c)=>k≤W.next.length∧c=(wx vN k).length) (λ(k,c)=>W.next.length-k) (0,0) ?_
 refine sW ?_
 refine⟨⟨zo,rfl⟩,by exact sK,rfl,?_⟩
 rintro⟨k,c⟩ ⟨hk,hc'⟩
 have hcl:=Qa vN k
 have eS:=VP vN k
 refine sW ?_
 refine sR ?_
 refine sS (λq0=>?_) λq0=>?_
 ·have q0:k<W.next.length:=sO
  have hp:=hpl k zo
  have egk:vN k=(z k&&zdN (uG W.next z) W.fair (zE (uG W.next z) k).toNat):=by rw[hgood]
  refine sL (yd k zo q0) ?_
  cases zk:z k
  ·rw[zk,Bool.false_and] at egk
   rw[egk,if_neg zc] at eS
   refine sW ?_
   refine sI ?_
   refine⟨(k+1,c),⟨zo,by rw[eS];exact hc'⟩,zd,zD (by exact sK) ?_⟩
   dsimp only
   rw[eS]
   rfl
  ·rw[zk,Bool.true_and] at egk
   refine sW ?_
   refine sL (yl k zo zo) ?_
   refine sL (yd (zE (uG W.next z) k).toNat zo zo) ?_
   rw[←egk]
   cases gk:vN k
   ·rw[gk,if_neg zc] at eS
    refine sW ?_
    refine sI ?_
    refine⟨(k+1,c),⟨zo,by rw[eS];exact hc'⟩,zd,zD (by exact sK) ?_⟩
    dsimp only
    rw[eS]
    rfl
   ·rw[gk,if_pos rfl] at eS
    refine sW ?_
    refine sJ ?_
    refine sI ?_
    refine⟨(k+1,c+1),⟨zo,by rw[eS,List.length_append,←hc'];rfl⟩,zd,?_⟩
    dsimp only
    rw[eS]
    refine zj 3 zs rfl sQ (sU ?_)
    exact zp (by rw[hc',zaD,List.take_length])
 have q0:k=W.next.length:=by have:¬k<W.next.length:=sO
                             omega
 subst q0
 refine sE (qf (pre:=[]) (post:=[]) hTu (by simp[Pure,ze,z7]) trivial trivial (vq _) rfl) ?_
 rw[show zB (wx vN W.next.length)=D.xj 1 (List.drop 0 (List.take c (zL (wx vN W.next.length)))) from by rw[zu (by simp[zL];omega)];rfl] at hRe
 refine sE (qf (pre:=[_]) (post:=[]) hRe (by simp[Pure,ze,zV]) ⟨z7 _,trivial⟩ trivial (zC _ (λl=>by simp[ze,Pure]) _) rfl) ?_
 rw[hl]
 exact .refl _
end
section
open Go.RowKit Go.ChangeShapes Go.WideShapes Go.ChangeAt
end
section
open Go.RowKit Go.ChangeShapes Go.WideShapes Go.ChangeAt
end
section
section
open Go.RowKit
noncomputable def Jv (g:List (List Int)) (S:Nat→Bool) (k i:Nat):Bool:=(List.range k).any λv=>zE g v==(i:Int)&&S v
noncomputable def Y2 (g:List (List Int)) (sets:List (Nat→Bool)) (i:Nat):Bool:=okT g g.length i&&sets.all λS=>Jv g S g.length i
theorem zoB (g:List (List Int)) (S:Nat→Bool) (k i:Nat):Jv g S (k+1) i=(Jv g S k i||(zE g k==(i:Int)&&S k)):=by
 unfold Jv;rw[List.range_succ,List.any_append];simp
theorem zop {g:List (List Int)} (xL:∀v x,x∈g.getD v []→x.toNat<g.length) (sets:List (Nat→Bool)):(∃i,i<g.length∧Y2 g sets i=true)↔∃v,v<g.length∧Fw g sets v:=by
 constructor
 ·rintro⟨i,hi,h⟩
  unfold Y2 at h
  rw[Bool.and_eq_true,List.all_eq_true] at h
  obtain⟨h1,h2⟩:=h
  unfold okT at h1
  rw[List.any_eq_true] at h1
  obtain⟨n,hn,q⟩:=h1
  have hn:=List.mem_range.1 hn
  rw[Bool.and_eq_true,beq_iff_eq] at q
  refine⟨n,hn,n,Yk g n,(Uj xL hn).1 q.2,λS hS=>?_⟩
  have:=h2 S hS
  unfold Jv at this
  rw[List.any_eq_true] at this
  obtain⟨d,hd,r⟩:=this
  have hd:=List.mem_range.1 hd
  rw[Bool.and_eq_true,beq_iff_eq,←q.1,parts_eq hd hn,xo] at r
  exact⟨d,r.2,r.1.2,r.1.1⟩
 ·rintro⟨v,hv,c,h1,h2,h3⟩
  have hc:=zmS xL hv h1
  have hp:=qx hc
  refine⟨(zE g c).toNat,zo,?_⟩
  unfold Y2
  rw[Bool.and_eq_true,List.all_eq_true]
  have e:((zE g c).toNat:Int)=zE g c:=zo
  refine⟨?_,λS hS=>?_⟩
  ·unfold okT
   rw[List.any_eq_true]
   exact⟨c,List.mem_range.2 hc,by rw[Bool.and_eq_true,beq_iff_eq,e];exact⟨rfl,(Uj xL hc).2 h2⟩⟩
  ·obtain⟨d,d1,d2,d3⟩:=h3 S hS
   have hd:=zmS xL hc d2
   unfold Jv
   rw[List.any_eq_true]
   exact⟨d,List.mem_range.2 hd,by rw[Bool.and_eq_true,beq_iff_eq,e,parts_eq hd hc,xo];exact⟨⟨d3,d2⟩,d1⟩⟩
end
section
open Go.RowKit
end
section
open Go.RowKit
end
section
open Go.RowKit
end
end
section
section
open Go.RowKit
end
section
open Go.RowKit
end
section
open Go.RowKit
theorem zhq:∀(n m:Nat) (h:Nat→Nat),(∀i,i<m→h i<n)→(∀i j,i<m→j<m→h i=h j→i=j)→m≤n
 | 0,m,h,h1,_=>by
  rcases Nat.eq_zero_or_pos m with e|e
  ·omega
  ·have:=h1 0 e;omega
 | n+1,m,h,h1,h2=>by
  by_cases q:∃i,i<m∧h i=n
  ·obtain⟨i0,q1,q2⟩:=q
   have:=zhq n (m-1) (λi=>h (if i=i0 then m-1 else i)) (λi hi=>by
    split
    ·rename_i e
     have a1:=h1 (m-1) zo
     have a2:h (m-1)≠n:=λe2=>by have:=h2 (m-1) i0 zo q1 (by rw[e2,q2]);omega
     omega
    ·rename_i e
     have a1:=h1 i zo
     have a2:h i≠n:=λe2=>e (h2 i i0 zo q1 (by rw[e2,q2]))
     omega) (λi j hi hj e=>by
    have:=h2 _ _ (by split<;>omega) (by split<;>omega) e
    split at this<;>split at this<;>omega)
   omega
  ·have:=zhq n m h (λi hi=>by have:=h1 i hi;have:h i≠n:=λe=>q ⟨i,hi,e⟩;omega) h2
   omega
end
section
open Go.RowKit
end
end
section
open Go.RowKit
def YV (a b:Int):List D:=[.sc (.int .i64 a),.sc (.int .i64 b)]
def WS (l:List Pr):List (List D):=l.map λo=>YV o.1 o.2
def Uc (l:List Pr):D:=.xj 2 (WS l)
@[simp] theorem Qd (l:List Pr):(WS l).length=l.length:=by simp[WS]
theorem Jd (l:List Pr):yE (WS l):=zC _ (λl=>by simp[YV,ze,Pure]) l
theorem UJ (l:List Pr):Pure (Uc l):=by simp only[Uc,Pure];exact Jd l
@[simp] theorem zsQ {m:Nat} (l:List Pr):zF m (WS l)↔True:=⟨λ_=>trivial,λ_=>zh _ (Jd l)⟩
@[simp] theorem zvu {m:Nat} (l:List Pr):zt m (Uc l)↔True:=⟨λ_=>trivial,λ_=>zw _ (UJ l)⟩
theorem JH {l:List Pr} {z k:Nat} (hz:z=k) (h:k<l.length):(WS l)[z]? = some (YV (l.getD k (0,0)).1 (l.getD k (0,0)).2):=by
 subst hz
 unfold WS
 rw[List.getElem?_map,List.getElem?_eq_getElem h,List.getD_eq_getElem?_getD,List.getElem?_eq_getElem h]
 rfl
def vJ (L:List (List Int)):List (List D):=L.map λl=>[zB l]
@[simp] theorem zze (L:List (List Int)):(vJ L).length=L.length:=by simp[vJ]
theorem uJ (L:List (List Int)):yE (vJ L):=zC _ (λl=>by simp[ze,zi]) L
@[simp] theorem zrY {m:Nat} (l:List (List Int)):zF m (vJ l)↔True:=⟨λ_=>trivial,λ_=>zh _ (uJ l)⟩
theorem zi2 {L:List (List Int)} {c:Nat} {l:List Int} (h:c=L.length):List.drop 0 (List.take c (vJ L))++[[zB l]]=vJ (L++[l]):=by
 subst h
 rw[zu zs]
 simp[vJ]
theorem xY (l:List Int) (x:Int):List.drop 0 (List.take l.length (zL l))++List.drop 0 (List.take 1 [[D.sc (.int .i64 x)]])=zL (l++[x]):=by
 rw[zu (by simp[zL])]
 simp[zL]
theorem ziU (L:List Pr) (p:Pr):List.drop 0 (List.take L.length (WS L))++List.drop 0 (List.take 1 [[D.sc (.int .i64 p.1),D.sc (.int .i64 p.2)]])=WS (L++[p]):=by
 rw[zu zs]
 simp[WS,YV]
theorem zn8 {P : Program} {k e : TypeId} {f0 f1 : Field} (hsz : 0 < P.types.size) (hk : P.keyType k = true) (hu : P.underlying k = some (.struct #[f0, f1])) (h0 : f0.type = e) (h1 : f1.type = e) (o0 : f0.offset = 0) (o1 : f1.offset = 1) (n0 : (f0.name != "_") = true) (n1 : (f1.name != "_") = true) (he : P.underlying e = some (.int .i64)) (hce : P.cellsOf e = 1) (hck : P.cellsOf k = 2) (a b : Int) (ha : (Lit.int .i64 a).wf = true) (hb : (Lit.int .i64 b).wf = true) :
  ∃l,keyOf P k (.agg #[.int .i64 a,.int .i64 b])=some l:=by
 obtain⟨d,hd⟩:∃d,P.types.size=d+1:=⟨P.types.size-1,zo⟩
 unfold keyOf
 rw[hu]
 simp only[hk,Value.formed,hu,hck,Bool.true_and]
 rw[if_pos zs,hd]
 show ∃l,(P.keyLits (d+1+1) k [.int .i64 a,.int .i64 b]).map _=some l
 rw[Program.keyLits.eq_def]
 simp only[hu]
 rw[if_pos ⟨by simp[hck],by simp[n0,n1]⟩]
 simp[List.mapM_cons,h0,h1,o0,o1,hce,Program.keyLits,he,ha,hb]
def zfw (p:Pr):Value:=.agg #[.int .i64 p.1,.int .i64 p.2]
theorem zkp {p q:Pr} (h:zfw p=zfw q):p=q:=by
 unfold zfw at h
 have h:=(Value.agg.injEq _ _).mp h
 have h:=congrArg Array.toList h
 simp at h
 exact Prod.ext h.1 h.2
noncomputable def zfs (L:List Pr):Nat→Value→Option Value
 | 0=>λ_=>none
 | k+1=>Q9 (zfs L k) (zfw (L.getD k (0,0))) (.int .i64 k)
noncomputable def fP (L:List Pr):Value→Option Value:=zfs L L.length
theorem zj9 {L:List Pr} {m:Pr}:∀k,k≤L.length→zfs (L++[m]) k=zfs L k
 | 0,_=>rfl
 | k+1,h=>by
  simp only[zfs]
  rw[zj9 k zo,List.getD_eq_getElem?_getD,List.getElem?_append_left zo,←List.getD_eq_getElem?_getD]
theorem zxU (L:List Pr) (m:Pr):fP (L++[m])=Q9 (fP L) (zfw m) (.int .i64 L.length):=by
 unfold fP
 rw[List.length_append,List.length_singleton]
 simp only[zfs]
 rw[zj9 _ (Nat.le_refl _),List.getD_eq_getElem?_getD,List.getElem?_append_right (Nat.le_refl _),Nat.sub_self]
 rfl
theorem UY {l:List Pr} {k:Nat} (h:k<l.length):l.getD k (0,0)∈l:=by
 rw[List.getD_eq_getElem?_getD,List.getElem?_eq_getElem h];simp
theorem zfQ {L:List Pr} {m:Pr} (hm:¬m∈L):∀k,k≤L.length→zfs L k (zfw m)=none
 | 0,_=>rfl
 | k+1,h=>by
  simp only[zfs,Q9]
  rw[if_neg ?_,zfQ hm k zo]
  intro e
  exact hm (zkp e▸UY zo)
theorem zfM {L:List Pr} {m:Pr} (hn:L.Nodup) {i:Nat} (hi:i<L.length) (hm:L.getD i (0,0)=m):∀k,i<k→k≤L.length→zfs L k (zfw m)=some (.int .i64 i)
 | 0,h,_=>zo
 | k+1,h,hk=>by
  simp only[zfs,Q9]
  by_cases e:i=k
  ·subst e
   rw[hm,if_pos rfl]
  ·rw[if_neg ?_,zfM hn hi hm k zo zo]
   intro q
   have:=zkp q
   rw[←hm,List.getD_eq_getElem?_getD,List.getD_eq_getElem?_getD,List.getElem?_eq_getElem hi,List.getElem?_eq_getElem zo] at this
   exact List.pairwise_iff_getElem.1 hn i k hi zo zo this
theorem zoq {L:List Pr} {m:Pr} (h:m∈L):ve L m<L.length∧L.getD (ve L m) (0,0)=m:=by
 have h1:=UW h
 refine⟨h1,?_⟩
 unfold ve at h1 ⊢
 rw[List.getD_eq_getElem?_getD,List.getElem?_eq_getElem h1,List.getElem_idxOf h1]
 rfl
theorem zmm {L:List Pr} {m:Pr} (hn:L.Nodup) (h:m∈L):fP L (zfw m)=some (.int .i64 (ve L m)):=by
 obtain⟨h1,h2⟩:=zoq h
 exact zfM hn h1 h2 _ h1 (Nat.le_refl _)
theorem zud {L:List Pr} {m:Pr} (h:¬m∈L):fP L (zfw m)=none:=zfQ h _ (Nat.le_refl _)
def WfP (p:Pr):Prop:=(Lit.int .i64 p.1).wf=true∧(Lit.int .i64 p.2).wf=true
theorem zxH {p:Pr} (h:0≤p.1∧p.1≤1000000000∧0≤p.2∧p.2≤1000000000):WfP p:=by
 have h1:IntKind.min .i64=-9223372036854775808:=zc
 have h2:IntKind.max .i64=9223372036854775807:=zc
 constructor
 ·simp only[Lit.wf,Bool.and_eq_true,decide_eq_true_eq];omega
 ·simp only[Lit.wf,Bool.and_eq_true,decide_eq_true_eq];omega
def zew:D:=.sc (.slice none 0 0)
@[simp] theorem zyL {m:Nat}:zt m zew↔True:=⟨λ_=>trivial,λ_=>trivial⟩
end
section
open Go.RowKit
def XL:Nat→Bool:=λ_=>true
def noT:Nat→Bool:=λ_=>false
def zmc (n:Nat) (F:List (Nat→Bool)):D:=.xj 1 (F.map λS=>[uh n S])
theorem zaO (n:Nat) (F:List (Nat→Bool)):Pure (zmc n F):=by simp only[zmc,Pure];exact zC _ (λS=>by simp[ze,zV]) F
theorem zmL {n:Nat} {F:List (Nat→Bool)} {z k:Nat} (hz:z=k) (h:k<F.length):(F.map λS=>[uh n S])[z]? = some [uh n (F.getD k noT)]:=by
 subst hz
 rw[List.getElem?_map,List.getElem?_eq_getElem h,List.getD_eq_getElem?_getD,List.getElem?_eq_getElem h];rfl
end
section
section
def uH:List Pr→List Pr→List Int→List Pr × List Int
 | [],L,o=>(L,o)
 | p::r,L,o=>uH r (Zp L p) (o++[(ve (Zp L p) p:Int)])
theorem zr8 (L:List Pr) (p:Pr):∃X,Zp L p=L++X:=by
 unfold Zp
 split
 ·exact⟨[],zs⟩
 ·exact⟨[p],rfl⟩
theorem zhc {L X:List Pr} {p:Pr} (h:p∈L):ve (L++X) p=ve L p:=by
 unfold ve;rw[List.idxOf_append,if_pos h]
theorem Vc:∀(ps L:List Pr) (o:List Int),∃X,(uH ps L o).1=L++X
 | [],L,o=>⟨[],by simp[uH]⟩
 | p::r,L,o=>by
  obtain⟨X,hX⟩:=zr8 L p
  obtain⟨Y,hY⟩:=Vc r (Zp L p) (o++[(ve (Zp L p) p:Int)])
  exact⟨X++Y,by rw[uH,hY,hX,List.append_assoc]⟩
theorem WR:∀(ps L:List Pr) (o:List Int) (q:Pr),q∈(uH ps L o).1↔q∈L∨q∈ps
 | [],L,o,q=>by simp[uH]
 | p::r,L,o,q=>by
  rw[uH,WR r,zc8,List.mem_cons]
  constructor
  ·rintro((h|h)|h)
   ·exact .inl h
   ·exact .inr (.inl h)
   ·exact .inr (.inr h)
  ·rintro(h|h|h)
   ·exact .inl (.inl h)
   ·exact .inl (.inr h)
   ·exact .inr h
theorem VM:∀(ps:List Pr) {L:List Pr} (o:List Int),L.Nodup→(uH ps L o).1.Nodup
 | [],_,_,h=>h
 | p::r,_,_,h=>VM r _ (zey h p)
theorem zc7:∀(ps L:List Pr) (o:List Int),(uH ps L o).2=o++ps.map λp=>(ve (uH ps L o).1 p:Int)
 | [],L,o=>by simp[uH]
 | p::r,L,o=>by
  rw[uH,zc7 r]
  obtain⟨X,hX⟩:=Vc r (Zp L p) (o++[(ve (Zp L p) p:Int)])
  have:ve (uH r (Zp L p) (o++[(ve (Zp L p) p:Int)])).1 p=ve (Zp L p) p:=by
   rw[hX];exact zhc (zc8.2 (.inr rfl))
  rw[List.map_cons,this,List.append_assoc]
  rfl
theorem zrO {ps L:List Pr} {o:List Int} {i:Nat} (h:i<L.length):(uH ps L o).1.getD i (0,0)=L.getD i (0,0):=by
 obtain⟨X,hX⟩:=Vc ps L o
 rw[hX,List.getD_eq_getElem?_getD,List.getElem?_append_left h,←List.getD_eq_getElem?_getD]
theorem zoz (ps L:List Pr) (o:List Int):L.length≤(uH ps L o).1.length:=by
 obtain⟨X,hX⟩:=Vc ps L o
 rw[hX];simp
def zcp (nx:Pr→List Pr):Nat→Nat→List Pr→List (List Int)→List Pr × List (List Int)
 | 0,_,L,T=>(L,T)
 | k+1,n,L,T=>if n<L.length then zcp nx k (n+1) (uH (nx (L.getD n (0,0))) L []).1 (T++[(uH (nx (L.getD n (0,0))) L []).2]) else (L,T)
structure zeP (start:List Pr) (nx:Pr→List Pr) (n:Nat) (L:List Pr) (T:List (List Int)):Prop where
 nd:L.Nodup
 st:∀p∈start,p∈L
 len:T.length=n
 le:n≤L.length
 row:∀i,i<n→T.getD i []=(nx (L.getD i (0,0))).map λq=>(ve L q:Int)
 cl:∀i,i<n→∀q∈nx (L.getD i (0,0)),q∈L
 fr:∀j,j<L.length→L.getD j (0,0)∈start∨∃i,i<n∧i<j∧L.getD j (0,0)∈nx (L.getD i (0,0))
theorem xE {L:List Pr} {j:Nat} (h:j<L.length):L.getD j (0,0)∈L:=by
 rw[List.getD_eq_getElem?_getD,List.getElem?_eq_getElem h];simp
theorem zeP.begin (start:List Pr) (nx:Pr→List Pr):zeP start nx 0 (uH start [] []).1 [] where
 nd:=VM start [] .nil
 st p hp:=(WR start [] [] p).2 (.inr hp)
 len:=rfl
 le:=Nat.zero_le _
 row i hi:=zo
 cl i hi:=zo
 fr j hj:=.inl (((WR start [] [] _).1 (xE hj)).resolve_left zs)
theorem zeP.next {start:List Pr} {nx:Pr→List Pr} {n:Nat} {L:List Pr} {T:List (List Int)} (h:zeP start nx n L T) (hn:n<L.length) :
  zeP start nx (n+1) (uH (nx (L.getD n (0,0))) L []).1 (T++[(uH (nx (L.getD n (0,0))) L []).2]):=by
 generalize hp:L.getD n (0,0)=p
 have hm:=WR (nx p) L []
 have ho:=zc7 (nx p) L []
 have hold:=λi (hi:i<L.length)=>zrO (ps:=nx p) (o:=[]) hi
 have hmono:=zoz (nx p) L []
 obtain⟨X,hX⟩:=Vc (nx p) L []
 refine⟨VM _ _ h.nd,λq hq=>(hm q).2 (.inl (h.st q hq)),by simp[h.len],zo,λi hi=>?_,λi hi q hq=>?_,λj hj=>?_⟩
 ·by_cases e:i=n
  ·subst e
   rw[hold _ hn,hp,List.getD_eq_getElem?_getD,List.getElem?_append_right (by rw[h.len];exact Nat.le_refl _),h.len,Nat.sub_self]
   show(uH (nx p) L []).2=_
   rw[ho,List.nil_append]
  ·have hi:i<n:=zo
   rw[hold i zo,List.getD_eq_getElem?_getD,List.getElem?_append_left (by rw[h.len];exact hi),←List.getD_eq_getElem?_getD,h.row i hi,hX]
   refine List.map_congr_left λq hq=>?_
   rw[zhc (h.cl i hi q hq)]
 ·by_cases e:i=n
  ·subst e
   rw[hold _ hn,hp] at hq
   exact(hm q).2 (.inr hq)
  ·rw[hold i zo] at hq
   exact(hm q).2 (.inl (h.cl i zo q hq))
 ·by_cases hl:j<L.length
  ·rw[hold j hl]
   rcases h.fr j hl with k|⟨i,k1,k2,k3⟩
   ·exact .inl k
   ·exact .inr ⟨i,zo,k2,by rw[hold i zo];exact k3⟩
  ·refine .inr ⟨n,zo,zo,?_⟩
   rw[hold n hn,hp]
   have hq:(uH (nx p) L []).1.getD j (0,0)∈X:=by
    rw[hX,List.getD_eq_getElem?_getD,List.getElem?_append_right zo]
    rw[hX,List.length_append] at hj
    rw[List.getElem?_eq_getElem zo]
    simp
   have hnd:=VM (nx p) [] h.nd
   rw[hX] at hnd
   have hnot:¬(uH (nx p) L []).1.getD j (0,0)∈L:=λq=>(List.nodup_append.1 hnd).2.2 _ q _ hq rfl
   exact((hm _).1 (xE hj)).resolve_left hnot
structure zcs (start:List Pr) (nx:Pr→List Pr) (L:List Pr) (G:List (List Int)):Prop where
 nd:L.Nodup
 st:∀p∈start,p∈L
 len:G.length=L.length
 row:∀i,i<L.length→G.getD i []=(nx (L.getD i (0,0))).map λq=>(ve L q:Int)
 cl:∀i,i<L.length→∀q∈nx (L.getD i (0,0)),q∈L
 fr:∀j,j<L.length→L.getD j (0,0)∈start∨∃i,i<j∧L.getD j (0,0)∈nx (L.getD i (0,0))
theorem zeP.fin {start:List Pr} {nx:Pr→List Pr} {n:Nat} {L:List Pr} {T:List (List Int)} (h:zeP start nx n L T) (hn:¬n<L.length):zcs start nx L T:=by
 have e:n=L.length:=by have:=h.le;omega
 subst e
 exact⟨h.nd,h.st,h.len,h.row,h.cl,λj hj=>(h.fr j hj).imp_right λ⟨i,_,k2,k3⟩=>⟨i,k2,k3⟩⟩
theorem zqg {L:List Pr} (hnd:L.Nodup) {n m:Nat} (h:∀p∈L,(0≤p.1∧p.1<(n:Int))∧0≤p.2∧p.2<(m:Int)):L.length≤n*m:=by
 refine zhq (n*m) L.length (λi=>(L.getD i (0,0)).1.toNat * m+(L.getD i (0,0)).2.toNat) (λi hi=>?_) λi j hi hj he=>?_
 ·obtain⟨⟨a,b⟩,c,d⟩:=h _ (xE hi)
  generalize L.getD i (0,0)=p at *
  have:(p.1.toNat+1)*m≤n*m:=Nat.mul_le_mul_right _ zo
  rw[Nat.add_mul,Nat.one_mul] at this
  omega
 ·obtain⟨⟨a,b⟩,c,d⟩:=h _ (xE hi)
  obtain⟨⟨a',b'⟩,c',d'⟩:=h _ (xE hj)
  have hxy:L.getD i (0,0)=L.getD j (0,0):=by
   generalize L.getD i (0,0)=p at *
   generalize L.getD j (0,0)=q at *
   have e1:p.2.toNat=q.2.toNat:=by
    have:=congrArg (·%m) he
    simp only[Nat.mul_add_mod_self_right] at this
    rwa [Nat.mod_eq_of_lt zo,Nat.mod_eq_of_lt zo] at this
   have e2:p.1.toNat=q.1.toNat:=by
    rw[e1] at he
    exact Nat.eq_of_mul_eq_mul_right zo (Nat.add_right_cancel he)
   exact Prod.ext zo zo
  rw[List.getD_eq_getElem?_getD,List.getD_eq_getElem?_getD,List.getElem?_eq_getElem hi,List.getElem?_eq_getElem hj] at hxy
  simp only[Option.getD_some] at hxy
  rcases Nat.lt_trichotomy i j with q|q|q
  ·exact absurd hxy (List.pairwise_iff_getElem.1 hnd i j hi hj q)
  ·exact q
  ·exact absurd hxy.symm (List.pairwise_iff_getElem.1 hnd j i hj hi q)
theorem Xx {L:List Pr} {q:Pr} (h:q∈L):L.getD (ve L q) (0,0)=q:=by
 have h1:=UW h
 unfold ve at h1 ⊢
 rw[List.getD_eq_getElem?_getD,List.getElem?_eq_getElem h1,List.getElem_idxOf h1]
 rfl
section
variable {start:List Pr} {nx:Pr→List Pr} {L:List Pr} {G:List (List Int)}
theorem zcs.zl0 (h:zcs start nx L G) {v:Nat} {x:Int} (hx:x∈G.getD v []):v<L.length∧∃q,q∈nx (L.getD v (0,0))∧q∈L∧x=(ve L q:Int)∧ve L q<L.length:=by
 have hv:v<L.length:=by
  rcases Nat.lt_or_ge v L.length with q|q
  ·exact q
  ·rw[List.getD_eq_getElem?_getD,List.getElem?_eq_none (by have:=h.len;omega)] at hx;cases hx
 rw[h.row v hv] at hx
 obtain⟨q,hq,rfl⟩:=List.mem_map.1 hx
 have:=h.cl v hv q hq
 exact⟨hv,q,hq,this,rfl,UW this⟩
theorem zcs.inG (h:zcs start nx L G):∀l∈G,xH l G.length=true:=λl hl=>by
 obtain⟨v,hv,rfl⟩:=List.mem_iff_getElem.1 hl
 refine wj λx hx=>?_
 obtain⟨_,q,_,_,rfl,k⟩:=h.zl0 (v:=v) (x:=x) (by rw[List.getD_eq_getElem?_getD,List.getElem?_eq_getElem hv];exact hx)
 have:=h.len
 omega
theorem zcs.come (h:zcs start nx L G):∀j,j<L.length→∃p∈start,To G (ve L p) j:=by
 intro j
 induction j using Nat.strongRecOn with
 | ind j ih =>
  intro hj
  have hid:ve L (L.getD j (0,0))=j:=by
   have h1:=UW (xE hj)
   have h2:=Xx (xE hj)
   have hx:L[ve L (L.getD j (0,0))]'h1=L[j]:=by
    rw[List.getD_eq_getElem?_getD,List.getElem?_eq_getElem h1] at h2
    simp only[Option.getD_some] at h2
    rw[h2,List.getD_eq_getElem?_getD,List.getElem?_eq_getElem hj];rfl
   rcases Nat.lt_trichotomy (ve L (L.getD j (0,0))) j with q|q|q
   ·exact absurd hx (List.pairwise_iff_getElem.1 h.nd _ _ h1 hj q)
   ·exact q
   ·exact absurd hx.symm (List.pairwise_iff_getElem.1 h.nd _ _ hj h1 q)
  rcases h.fr j hj with k|⟨i,k2,k3⟩
  ·exact⟨_,k,by rw[hid];exact Yk G j⟩
  ·obtain⟨p,hp,hT⟩:=ih i k2 zo
   refine⟨p,hp,uc hT ?_⟩
   have:((j:Nat):Int)∈G.getD i []:=by
    rw[h.row i zo]
    exact List.mem_map.2 ⟨_,k3,by rw[hid]⟩
   have:=VS this
   simpa using this
end
end
section
open Go.RowKit
def zjr (W:zA) (A:yh) (p:Pr):Bool:=J3 A p.2.toNat (W.label.getD p.1.toNat 0)
def zih (W:zA) (A:yh) (n t:Nat) (S:D):List D:=[zB W.start,ya W.next,uX W.label,ya W.fair,zB A.start,ya A.next,uX A.Y4,uX A.Vm,ya A.fair,.mp 0,.own 2 n 0 n,.own 3 t 0 t,S]
noncomputable def vv (W:zA) (A:yh) (L:List Pr) (S:D) (T:List (List Int)):List zf :=
 [.wc true (uQ Tryz.prog 177 (fP L)),.row true (zih W A L.length T.length S),.vec true L.length 2 (WS L),.vec true T.length 1 (vJ T)]
theorem Ub {W:zA} {A:yh} {L:List Pr} {S:D} (hS:Pure S) {T:List (List Int)} {m:Nat} (hm:4≤m):∀o∈vv W A L S T,o.under m:=by
 have:=zw (m:=m) S hS
 have h1:=λl=>zw (m:=m) _ (zi l)
 have h2:=λl=>zw (m:=m) _ (z7 l)
 have h3:=λl=>zw (m:=m) _ (ur l)
 intro o ho
 simp only[vv,List.mem_cons,List.not_mem_nil,or_false] at ho
 rcases ho with rfl|rfl|rfl|rfl<;>simp[zf.under,zih,zl,zt,this,h1,h2,h3]<;>omega
theorem VF {W:zA} {A:yh} {L:List Pr} {S:D} (hS:Pure S) {T:List (List Int)} {m:Nat} (hm:4≤m):wD m (vv W A L S T):=by
 have:=Ub (W:=W) (A:=A) (L:=L) hS (T:=T) hm
 unfold vv at *
 exact⟨this _ zs,this _ zs,this _ zs,this _ zs,trivial⟩
theorem zrK:laidOutB Tryz.prog=true:=by kernel_rfl
theorem zqi:Maps.Keyed Tryz.prog 177:=Maps.Keyed.of_law (deep_law_laid zrK (m:=2) zo (of_decide_eq_true (by kernel_rfl)) (by kernel_rfl) (by rw[Tryz.underlying177]))
theorem ziM {p:Pr} (hp:WfP p):∃l,keyOf Tryz.prog 177 (zfw p)=some l :=
 zn8 (of_decide_eq_true (by kernel_rfl)) (by kernel_rfl) Tryz.underlying177 rfl rfl rfl rfl zc zc Tryz.underlying3 (by kernel_rfl) (by kernel_rfl) _ _ hp.1 hp.2
def c154:PC:=.seq (OP [Bx 3 1,Mv 4 (cI 0)]) (.seq (.seq (.ops [qm 7 0,qd 8 (.zn 7) 1,qd 9 (.zz 4 8) 3,qd 10 (.vw 5 9) 7,Fa 11 1 3,qd 12 (.zg 11) 16,qm 13 0,qd 14 (.zn 13) 64,qd 15 (.zz 0 14) 192,qd 16 (.zz 2 15) 448,qd 17 (.zg 16) 960,Fa 18 0 3,qd 19 (.zg 18) 2048,qd 20 (.zM 1 17 19) 8128,qd 21 (.zg 20) 16320,qd 22 (.call 209 [10,12,21]) 32767,qd 23 (.un .not 22) 65535] true) (.cond 23 (.seq (OP [Mv 4 (cI (-1))]) .ret) .skip)) (.seq (.ops [qm 25 0,qd 26 (.zn 25) 1,qd 27 (.zz 9 26) 3,qd 28 (.zg 27) 7,LA 29 2 3,qd 30 (.look 177 (.int .i64 0) 28 29) 31,qw 24 30 63,qd 31 (.ext 0 24) 127,qd 32 (.ext 1 24) 127,qw 5 31 255,qw 6 32 1023] true) (.seq (.seq (OP [qm 33 6,Nt 34 33]) (.cond 34 (.seq (OP [qm 35 0,q 36 (.zn 35),Fa 37 10 36,Lo 38 37,Ln 39 38,qm 5 39]) (.seq (.ops [qm 40 0,qd 41 (.zn 40) 1,qd 42 (.zz 9 41) 3,qd 43 (.zg 42) 7,LA 44 2 3,qm 45 5,qk (.zlJ 177 43 44 45) 63] true) (.ops [qm 46 0,qm 47 0,qd 48 (.zn 47) 2,qd 49 (.zz 10 48) 6,qd 50 (.zg 49) 14,LA 51 2 3,qd 52 (.xe 2 1 [51]) 32,qd 53 (.append 2 16 50 52) 126,qd 54 (.zn 46) 255,qd 55 (.zz 10 54) 511,qk (.store 1 55 53) 1023] true))) .skip)) (.seq (OP [qm 56 5,qm 4 56]) .ret))))
theorem zvJ:zy Tryz.prog 154 57 [.tmp 4] c154:=fK Tryz.func154
structure zkJ (W:zA) (A:yh):Prop where
 fw:W.Fits
 fa:A.Fits
 cw:W.yJ=0
 ca:A.yJ=0
def ui (W:zA) (A:yh) (p:Pr):Prop:=(0≤p.1∧p.1<(W.next.length:Int))∧0≤p.2∧p.2<(A.next.length:Int)
theorem vK (W:zA) (h:W.yJ=0):W.label.length=W.next.length∧W.next.length≤600∧W.fair.length≤80∧xH W.start W.next.length=true∧(∀l∈W.next,xH l W.next.length=true)∧∀l∈W.fair,xH l W.next.length=true:=by
 unfold zA.yJ at h
 split at h
 ·exact absurd h zc
 split at h
 ·exact absurd h zc
 split at h
 ·exact absurd h zc
 split at h
 ·exact absurd h zc
 rename_i h1 h2 h3 h4
 have h2':=not_or.1 h2
 refine⟨zo,zo,zo,by simpa using h2'.2,λl hl=>?_,λl hl=>?_⟩
 ·rw[Bool.not_eq_true,List.any_eq_false] at h3
  have:=h3 l hl
  simp only[Bool.or_eq_true,Bool.not_eq_true',not_or,Bool.not_eq_false] at this
  exact this.2
 ·rw[Bool.not_eq_true,List.any_eq_false] at h4
  simpa using h4 l hl
theorem ui.wf {W:zA} {A:yh} (h:zkJ W A) {p:Pr} (hp:ui W A p):WfP p:=by
 obtain⟨⟨a,b⟩,c,d⟩:=hp
 have:=(vK W h.cw).2.1
 have:=(YG A h.ca).2.2.1
 exact zxH ⟨a,zo,c,zo⟩
theorem zxi {W:zA} {A:yh} (hWA:zkJ W A) (L:List Pr) (hnd:L.Nodup) (hL:L.length≤2000000) (S:D) (hS:Pure S) (T:List (List Int)) (p:Pr) (hg:ui W A p) :
  yu Tryz.prog 154 [.loc 1 0,.agg (YV p.1 p.2)] (vv W A L S T) (.sc (.int .i64 (if zjr W A p=true then (ve (Zp L p) p:Int) else -1))) (vv W A (if zjr W A p=true then Zp L p else L) S T):=by
 have hp:=ui.wf hWA hg
 have hkey:=ziM hp
 obtain⟨⟨g1,g2⟩,g3,g4⟩:=hg
 obtain⟨hlab,_⟩:=vK W hWA.cw
 obtain⟨hm,hn,_⟩:=YG A hWA.ca
 have hF:=zti A hm hn p.2.toNat zo (W.label.getD p.1.toNat 0)
 rw[show((p.2.toNat:Nat):Int)=p.2 by omega] at hF
 refine z1 zvJ zs (by simp[vv]) ?_ (by simp[zt]) (by
  intro x hx
  exact Ub hS (by simp[vv]) x hx)
 have ef:zjr W A p=J3 A p.2.toNat (W.label.getD p.1.toNat 0):=rfl
 rw[←ef] at hF
 generalize zjr W A p=fit at *
 unfold vv zih YV
 unfold V4 yh.cells at hF
 refine sR ?_
 refine sL (zcZ (l:=W.label) (k:=p.1.toNat) zo zo) ?_
 refine sC hF ?_
 cases fit
 ·refine sW ?_
  simp
 refine sW ?_
 refine⟨fP L,rfl,zqi,hkey,λv hv=>?_,λhv=>?_⟩
 ·by_cases h2:p∈L
  ·have hs:=zmm hnd h2
   have hv':some v=some (Value.int .i64 (ve L p)):=hv.symm.trans hs
   cases hv'
   have eA:Zp L p=L:=if_pos h2
   have eI:ve (Zp L p) p=ve L p:=by rw[eA]
   rw[eI,eA]
   refine sW ?_
   simp
  ·exfalso
   have hv':some v=none:=hv.symm.trans (zud h2)
   cases hv'
 ·have h2:¬p∈L:=λh2=>by
   have hv':(none:Option Value)=some (Value.int .i64 (ve L p)):=hv.symm.trans (zmm hnd h2)
   cases hv'
  have eA:Zp L p=L++[p]:=if_neg h2
  have eI:ve (Zp L p) p=L.length:=by rw[zqH,if_neg h2]
  rw[eI,eA]
  refine sW ?_
  refine⟨fP L,rfl,zqi,hkey,hv,?_⟩
  refine sW ?_
  refine sJ ?_
  refine⟨?_,zs⟩
  rw[if_pos rfl,zxU,show(L++[p]).length=L.length+1 by simp,←ziU]
  rfl
def zfl (W:zA) (A:yh) (x:Int) (k:List Int):List Pr:=(k.filter λy=>zjr W A (x,y)).map λy=>(x,y)
def x8 (W:zA) (A:yh) (l k:List Int):List Pr:=l.flatMap λx=>zfl W A x k
theorem zpI (W:zA) (A:yh) (x y:Int) (k:List Int):zfl W A x (y::k)=if zjr W A (x,y)=true then (x,y)::zfl W A x k else zfl W A x k:=by
 unfold zfl
 rw[List.filter_cons]
 split<;>simp
theorem zqq (W:zA) (A:yh) (x:Int) (k:List Int):(zfl W A x k).length≤k.length:=by unfold zfl;rw[List.length_map];exact List.length_filter_le _ _
theorem zc2 (W:zA) (A:yh) (l k:List Int):(x8 W A l k).length≤l.length*k.length:=by
 induction l with
 | nil=>simp[x8]
 | cons x r ih =>
  have:=zqq W A x k
  simp only[x8,List.flatMap_cons,List.length_append,List.length_cons] at ih ⊢
  rw[Nat.add_mul,Nat.one_mul]
  omega
theorem zbU {W:zA} {A:yh} {l k:List Int} (hl:xH l W.next.length=true) (hk:xH k A.next.length=true):∀p∈x8 W A l k,ui W A p:=by
 intro p hp
 obtain⟨x,hx,hp⟩:=List.mem_flatMap.1 hp
 obtain⟨y,hy,rfl⟩:=List.mem_map.1 hp
 exact⟨zT hl hx,zT hk (List.mem_filter.1 hy).1⟩
theorem Xu {l:List Int} {k:Nat} (h:k<l.length):l.drop k=l.getD k 0::l.drop (k+1):=by
 rw[List.drop_eq_getElem_cons h,List.getD_eq_getElem?_getD,List.getElem?_eq_getElem h]
 rfl
theorem ui.le {W:zA} {A:yh} (hWA:zkJ W A) {L:List Pr} (hnd:L.Nodup) (hg:∀p∈L,ui W A p):L.length≤W.next.length*A.next.length:=zqg hnd hg
theorem zly {W:zA} {A:yh} (hWA:zkJ W A):W.next.length*A.next.length≤1228800 :=
 Nat.le_trans (Nat.mul_le_mul (vK W hWA.cw).2.1 (YG A hWA.ca).2.2.1) zc
def zBu:PC:=.seq (OP [Bi 22 .lss 21 20]) (.seq (.cond 22 .skip (.exit 2)) (.seq (.block 3 (.seq (OP [Ia 23 1 19 21,Lo 24 23,qm 11 24]) (.seq (OP [qm 25 0,qm 26 9,qm 27 11,q 28 (.build [(.int .i64 0),(.int .i64 0)] [(0,1,26),(1,1,27)]),Ca 29 154 [25,28],qm 12 29]) (.seq (OP [qm 30 12,Bi 31 .geq 30 (cI 0)]) (.cond 31 (OP [qm 32 7,qm 33 12,Bs 34 1 1 [33],Ap 35 1 8 32 34,qm 7 35]) .skip))))) (OP [Bi 36 .add 21 (cI 1),qm 21 36])))
def zAL:PC:=.seq (OP [Bi 16 .lss 15 14]) (.seq (.cond 16 .skip (.exit 0)) (.seq (.block 1 (.seq (OP [Ia 17 1 13 15,Lo 18 17,qm 9 18]) (.seq (OP [qm 19 2,Ln 20 19,Mv 21 (cI 0)]) (.block 2 (.loop zBu))))) (OP [Bi 37 .add 15 (cI 1),qm 15 37])))
def c81:PC:=.seq (OP [Mv 6 cN]) (.seq (OP [Mv 7 cN]) (.seq (.seq (OP [qm 13 1,Ln 14 13,Mv 15 (cI 0)]) (.block 0 (.loop zAL))) (.seq (OP [qm 38 7,qm 6 38]) .ret)))
theorem zw0:zy Tryz.prog 81 39 [.tmp 6] c81:=fK Tryz.func81
theorem ziA {W:zA} {A:yh} (hWA:zkJ W A) (l k:List Int) (hl:l.length≤1048576) (hk:k.length≤1048576) (il:xH l W.next.length=true) (ik:xH k A.next.length=true) (L:List Pr) (hnd:L.Nodup) (hLg:∀p∈L,ui W A p) (S:D) (hS:Pure S) (T:List (List Int)) :
  yu Tryz.prog 81 [.loc 1 0,zB l,zB k] (vv W A L S T) (zB (uH (x8 W A l k) L []).2) (vv W A (uH (x8 W A l k) L []).1 S T):=by
 refine wI zw0 zs (by simp[vv]) ?_ (zw _ (zi _))
 have hSu:=λm=>zw (m:=m) S hS
 have hu1:=λm l=>zw (m:=m) _ (zi l)
 have hu2:=λm l=>zw (m:=m) _ (z7 l)
 have hu3:=λm l=>zw (m:=m) _ (ur l)
 have h2:=zly hWA
 generalize hR:uH (x8 W A l k) L []=R
 have hlk:l.length*k.length≤1048576*1048576:=Nat.mul_le_mul hl hk
 unfold vv zih
 refine sR ?_
 rw[List.length_map]
 refine zG (xr 7 1 zs rfl) ?_
 refine z8 [0,2,13,14] (λ((i,M,o):Nat × List Pr × List Int)=>[(7,.own 4 o.length 0 o.length),(15,.sc (.int .i64 i))]) (λ(i,M,o)=>vv W A M S T++[.vec true o.length 1 (zL o)])
  (λ(i,M,o)=>i≤l.length∧M.Nodup∧(∀p∈M,ui W A p)∧o.length≤i*k.length∧uH (x8 W A (l.drop i) k) M o=R) (λ(i,M,o)=>l.length-i) (0,L,[]) ?_
 refine sW ?_
 refine⟨⟨zo,hnd,hLg,zs,hR⟩,by exact sK,rfl,?_⟩
 rintro⟨i,M,o⟩ ⟨hi,hMn,hMg,hol,hF⟩
 unfold vv zih
 refine sW ?_
 refine sR ?_
 refine sS (λq0=>?_) λq0=>?_
 ·have q0:i<l.length:=sO
  have hx:=zT il (yv q0)
  refine⟨zo,_,yb (l:=l) (k:=i) zo q0,?_⟩
  rw[Xu q0,x8,List.flatMap_cons] at hF
  rw[show(l.drop (i+1)).flatMap (λx=>zfl W A x k)=x8 W A (l.drop (i+1)) k from rfl] at hF
  have hik:(i+1)*k.length≤1048576*1048576:=Nat.le_trans (Nat.mul_le_mul_right _ zo) hlk
  have hik2:(i+1)*k.length=i*k.length+k.length:=by rw[Nat.add_mul,Nat.one_mul]
  refine sW ?_
  rw[List.length_map]
  generalize l.getD i 0=x at *
  refine z8 [0,2,9,13,14,15,19,20] (λ((j,M,o):Nat × List Pr × List Int)=>[(7,.own 4 o.length 0 o.length),(21,.sc (.int .i64 j))]) (λ(j,M,o)=>vv W A M S T++[.vec true o.length 1 (zL o)])
   (λ(j,M,o)=>j≤k.length∧M.Nodup∧(∀p∈M,ui W A p)∧o.length≤i*k.length+j∧uH (zfl W A x (k.drop j)++x8 W A (l.drop (i+1)) k) M o=R) (λ(j,M,o)=>k.length-j) (0,M,o) ?_
  refine sW ?_
  refine⟨⟨zo,hMn,hMg,zo,hF⟩,by exact sK,rfl,?_⟩
  rintro⟨j,M,o⟩ ⟨hj,hMn,hMg,hol,hF⟩
  unfold vv zih
  refine sW ?_
  refine sR ?_
  refine sS (λq1=>?_) λq1=>?_
  ·have q1:j<k.length:=sO
   have hy:=zT ik (yv q1)
   refine sL (yb (l:=k) (k:=j) zo q1) ?_
   rw[Xu q1,zpI] at hF
   generalize k.getD j 0=y at *
   have hgp:ui W A (x,y):=⟨hx,hy⟩
   have hMl:=ui.le hWA hMn hMg
   have hA:=vH (zxi hWA M hMn zo S hS T (x,y) hgp) [.vec true o.length 1 (zL o)] (by simp[vv]) (by simp[vv,zl,zt,YV]) (VF hS (by simp[vv]))
   have hap:=zri M (x,y)
   cases r:zjr W A (x,y)
   ·rw[r,if_neg zc,if_neg zc] at hA
    rw[r,if_neg zc] at hF
    unfold vv zih YV at hA
    refine sA hA ?_
    refine sI ?_
    refine⟨(j+1,M,o),⟨zo,hMn,hMg,zo,hF⟩,zd,?_⟩
    dsimp only
    (refine zj 5 zs rfl ?_ ?_<;>(repeat' (first|exact trivial|exact rfl|exact yc.refl _|exact zQ.refl _|exact zK.refl _|refine And.intro ?_ ?_|(simp[zt,zl,zF,-List.map_take,-List.map_drop];done))))
    all_goals first|exact hSu _|exact hu1 _ _|exact hu2 _ _|exact hu3 _ _|skip
   ·rw[r,if_pos rfl,if_pos rfl] at hA
    rw[r,if_pos rfl,List.cons_append,uH] at hF
    unfold vv zih YV at hA
    refine sA hA ?_
    refine sJ ?_
    refine sI ?_
    ·refine⟨(j+1,Zp M (x,y),o++[(ve (Zp M (x,y)) (x,y):Int)]),⟨zo,zey hMn _,λq hq=>(zc8.1 hq).elim (hMg q) (λe=>e▸hgp),by simp;omega,hF⟩,zd,?_⟩
     dsimp only
     rw[show(o++[(ve (Zp M (x,y)) (x,y):Int)]).length=o.length+1 by simp]
     (refine zj 5 zs rfl ?_ ?_<;>(repeat' (first|exact trivial|exact rfl|exact yc.refl _|exact zQ.refl _|exact zK.refl _|refine And.intro ?_ ?_|(simp[zt,zl,zF,-List.map_take,-List.map_drop];done))))
     all_goals first|exact hSu _|exact hu1 _ _|exact hu2 _ _|exact hu3 _ _|exact zp (xY o _)|skip
  ·have q1:j=k.length:=by have:¬j<k.length:=sO
                          omega
   subst q1
   rw[List.drop_length] at hF
   refine sI ?_
   refine⟨(i+1,M,o),⟨zo,hMn,hMg,zo,hF⟩,zd,?_⟩
   dsimp only
   (refine zj 5 zs rfl ?_ ?_<;>(repeat' (first|exact trivial|exact rfl|exact yc.refl _|exact zQ.refl _|exact zK.refl _|refine And.intro ?_ ?_|(simp[zt,zl,zF,-List.map_take,-List.map_drop];done))))
   all_goals first|exact hSu _|exact hu1 _ _|exact hu2 _ _|exact hu3 _ _|skip
 ·have q0:i=l.length:=by have:¬i<l.length:=sO
                         omega
  subst q0
  rw[List.drop_length] at hF
  have hF:(M,o)=R:=hF
  subst hF
  exact⟨.own _ _ _ _ _ _ _ _ rfl rfl (zp (zu (by simp[zL]))),y5 _ [_] (Ub hS (Nat.le_refl _))⟩
end
section
open Go.RowKit
def qV (W:zA) (A:yh) (L:List Pr) (G:List (List Int)) (fr:List Int):List D:=[zB W.start,ya W.next,uX W.label,ya W.fair,zB A.start,ya A.next,uX A.Y4,uX A.Vm,ya A.fair,.xO,Uc L,ya G,zB fr]
theorem Za (W:zA) (A:yh) (L:List Pr) (G:List (List Int)) (fr:List Int):ze (qV W A L G fr):=by simp[qV,ze,Pure,zi,z7,ur,UJ]
theorem YC {cs:List D} (h:ze cs):Pure (.y7 cs):=by simpa only[Pure] using h
theorem U6 {g:List (List Int)} {L:Nat} (h:∀l∈g,l.length≤L) (k:Nat):(g.getD k []).length≤L:=by
 rw[List.getD_eq_getElem?_getD]
 cases e:g[k]? with
 | none=>simp
 | some l=>exact h l (List.mem_of_getElem? e)
def UL (n:Nat) (F:List (Nat→Bool)):List (List D):=F.map λS=>[uh n S]
@[simp] theorem zAl (n:Nat) (F:List (Nat→Bool)):(UL n F).length=F.length:=by simp[UL]
theorem zc4 (n:Nat) (F:List (Nat→Bool)):yE (UL n F):=zC _ (λS=>by simp[ze,zV]) F
@[simp] theorem zsN {m n:Nat} (F:List (Nat→Bool)):zF m (UL n F)↔True:=⟨λ_=>trivial,λ_=>zh _ (zc4 n F)⟩
def zhL (L:List Pr) (sel:Pr→Int) (l:List Int):Nat→Bool:=λi=>XI l (sel (L.getD i (0,0))).toNat
theorem zpF {l:List Int} {n k:Nat} (xL:xH l n=true) (hk:k<l.length) (v:Nat):XI (l.take (k+1)) v=if v=(l.getD k 0).toNat then true else XI (l.take k) v:=by
 have hx:=zT xL (yv hk)
 unfold XI
 rw[List.getD_eq_getElem?_getD,List.getElem?_eq_getElem hk] at hx ⊢
 simp only[Option.getD_some] at hx ⊢
 rw[Bool.eq_iff_iff,List.contains_iff_mem,List.take_add_one,List.getElem?_eq_getElem hk]
 split
 ·rename_i q
  rw[List.mem_append,Option.toList_some,List.mem_singleton]
  exact⟨λ_=>rfl,λ_=>.inr zo⟩
 ·rename_i q
  rw[List.contains_iff_mem,List.mem_append,Option.toList_some,List.mem_singleton]
  exact⟨λh=>h.resolve_right zo,.inl⟩
def zAO:PC:=.seq (OP [Bi 11 .lss 10 9]) (.seq (.cond 11 .skip (.exit 0)) (.seq (.block 1 (.seq (OP [Ia 12 1 8 10,Lo 13 12,qm 7 13]) (OP [qm 14 5,qm 15 0,q 16 (.zn 15),Fa 17 10 16,Lo 18 17,qm 19 7,Ia 20 2 18 19,Fa 21 0 20,Lo 22 21,Bs 23 1 1 [22],Ap 24 1 8 14 23,qm 5 24]))) (OP [Bi 25 .add 10 (cI 1),qm 10 25])))
def c88:PC:=.seq (OP [Mv 4 cN]) (.seq (OP [Mv 5 cN]) (.seq (.seq (OP [qm 8 1,Ln 9 8,Mv 10 (cI 0)]) (.block 0 (.loop zAO))) (.seq (OP [qm 26 5,qm 4 26]) .ret)))
theorem zx5:zy Tryz.prog 88 27 [.tmp 4] c88:=fK Tryz.func88
theorem zfx (W:zA) (A:yh) (L:List Pr) (G:List (List Int)) (fr l:List Int) (hl:l.length≤1000000000000) (xL:xH l L.length=true):zq Tryz.prog 88 [.y7 (qV W A L G fr),zB l] (zB (l.map λn=>(L.getD n.toNat (0,0)).1)):=by
 have hp:=Za W A L G fr
 refine za zx5 zs (by simp[ze,Pure,zi,hp]) ?_ (zi _)
 unfold qV Uc
 refine sR ?_
 rw[List.length_map]
 refine zG (xr 5 1 zs rfl) ?_
 refine zO [0,8,9] (λk:Nat=>[(5,.own 0 k 0 k),(10,.sc (.int .i64 k))]) (λk=>[(0,.vec true k 1 (zL ((l.take k).map λn=>(L.getD n.toNat (0,0)).1)))]) (λk=>k≤l.length) (λk=>l.length-k) 0 ?_
 refine sW ?_
 refine⟨zo,by exact sK,rfl,?_⟩
 rintro k hk
 refine sW ?_
 refine sR ?_
 refine sS (λq0=>?_) λq0=>?_
 ·have q0:k<l.length:=sO
  have hx:=zT xL (yv q0)
  have eS:(l.take (k+1)).map (λn=>(L.getD n.toNat (0,0)).1)=(l.take k).map (λn=>(L.getD n.toNat (0,0)).1)++[(L.getD (l.getD k 0).toNat (0,0)).1]:=by
   rw[List.take_add_one,List.getElem?_eq_getElem q0,List.getD_eq_getElem?_getD (l:=l),List.getElem?_eq_getElem q0,List.map_append];rfl
  refine sL (yb (l:=l) (k:=k) zo q0) ?_
  generalize l.getD k 0=x at *
  refine sL (JH (l:=L) (k:=x.toNat) zo zo) ?_
  refine sJ ?_
  refine sI ?_
  refine⟨k+1,zo,zd,?_⟩
  dsimp only
  rw[eS]
  refine zj 1 zs rfl sQ (sU ?_)
  exact zp (by
   have:=xY ((l.take k).map λn=>(L.getD n.toNat (0,0)).1) (L.getD x.toNat (0,0)).1
   rw[List.length_map,List.length_take,Nat.min_eq_left hk] at this
   exact this)
 ·have q0:k=l.length:=by have:¬k<l.length:=sO
                         omega
  subst q0
  rw[List.take_length]
  exact .own _ _ _ _ _ _ _ _ rfl (by rw[zu (by simp[zL])];exact z6 _)
def zwZ:PC:=.seq (OP [Bi 19 .lss 18 17]) (.seq (.cond 19 .skip (.exit 0)) (.seq (.block 1 (.seq (OP [Ia 20 1 16 18,Lo 21 20,qm 10 21]) (OP [qm 22 8,qm 23 10,Ia 24 1 22 23,So 1 24 cT]))) (OP [Bi 25 .add 18 (cI 1),qm 18 25])))
def zya:PC:=.seq (OP [Bi 38 .lss 37 36]) (.seq (.cond 38 .skip (.exit 2)) (.seq (.block 3 (.seq (OP [qm 39 37,Ia 40 2 35 37,LA 41 2 40,q 13 (.alloc [(.int .i64 0),(.int .i64 0)]),qm 12 39,So 2 13 41]) (OP [qm 42 11,qm 43 12,qm 44 8,qm 45 1,LA 46 2 13,q 47 (.vu 45 [46]),Ia 48 1 44 47,Lo 49 48,Ia 50 1 42 43,So 1 50 49]))) (OP [Bi 51 .add 37 (cI 1),qm 37 51])))
def c156:PC:=.seq (OP [qm 14 2,q 15 (.wE 1 1 [(.bool false)] 14 14),qm 8 15]) (.seq (.seq (OP [qm 16 0,Ln 17 16,Mv 18 (cI 0)]) (.block 0 (.loop zwZ))) (.seq (OP [Lo 26 3,q 27 (.zn 26),Fa 28 10 27,Lo 29 28,Ln 30 29,q 31 (.wE 1 1 [(.bool false)] 30 30),qm 11 31]) (.seq (.seq (OP [Lo 32 3,q 33 (.zn 32),Fa 34 10 33,Lo 35 34,Ln 36 35,Mv 37 (cI 0)]) (.block 2 (.loop zya))) (OP [Lo 52 4,qm 53 11,Bs 54 1 1 [53],Ap 55 1 24 52 54,So 1 4 55]))))
theorem zv1:zy Tryz.prog 156 56 [] c156:=fK Tryz.func156
theorem zqO (W:zA) (A:yh) (L:List Pr) (hL:L.length≤2000000) (G:List (List Int)) (fr:List Int) (g:FuncId) (sel:Pr→Int) (n:Nat) (hn:n≤2048) (hsel:∀p∈L,zq Tryz.prog g [.agg (YV p.1 p.2)] (.sc (.int .i64 (sel p)))) (xL:∀p∈L,0≤sel p∧sel p<(n:Int))
  (l:List Int) (hl:l.length≤17592186043904) (hli:xH l n=true) (F:List (Nat→Bool)) (hF:F.length≤1000) :
  yu Tryz.prog 156 [zB l,.fn (.func g) [] [],.sc (.int .i64 n),.loc 0 0,.loc 1 0] [.row true [.y7 (qV W A L G fr)],.row true [.own 2 F.length 0 F.length],.vec true F.length 1 (UL L.length F)]
   (.yO []) [.row true [.y7 (qV W A L G fr)],.row true [.own 2 (F.length+1) 0 (F.length+1)],.vec true (F.length+1) 1 (UL L.length (F++[zhL L sel l]))]:=by
 have hp:=Za W A L G fr
 have hpU:=λm=>zw (m:=m) _ (YC hp)
 refine wI zv1 zs zs ?_ (by simp[zt,zl])
 obtain⟨sd,hsd⟩:∃sd:D,sd=.y7 (qV W A L G fr):=⟨_,rfl⟩
 have hsl:ze [sd]:=by subst hsd;exact⟨YC hp,trivial⟩
 rw[←hsd] at hpU ⊢
 refine sR ?_
 refine⟨zo,zo,zo,?_⟩
 rw[Int.toNat_natCast,show List.map D.sc [Value.bool false]=[D.sc (.bool false)] from rfl,ZE]
 refine sW ?_
 rw[List.length_map]
 refine zO [1,3,4,8,16,17] (λk:Nat=>[(18,.sc (.int .i64 k))]) (λk=>[(3,.vec true 0 1 (Z8 n (XI (l.take k))))]) (λk=>k≤l.length) (λk=>l.length-k) 0 ?_
 refine sW ?_
 refine⟨zo,by exact sK,rfl,?_⟩
 rintro k hk
 refine sW ?_
 refine sR ?_
 refine sS (λq0=>?_) λq0=>?_
 ·have q0:k<l.length:=sO
  have hx:=zT hli (yv q0)
  have e:=zpF hli q0
  refine sL (yb (l:=l) (k:=k) zo q0) ?_
  generalize l.getD k 0=x at *
  refine sB ?_
  refine⟨_,yd x.toNat zo zo,?_⟩
  refine sW ?_
  refine sI ?_
  refine⟨k+1,zo,zd,zD (by exact sK) ?_⟩
  rw[uC (i:=x.toNat) (f':=XI (l.take (k+1))) zo λv _=>e v]
  rfl
 have q0:k=l.length:=by have:¬k<l.length:=sO
                        omega
 subst q0
 rw[List.take_length]
 subst hsd
 unfold qV Uc
 refine sW ?_
 rw[Qd]
 refine⟨zo,zo,zo,?_⟩
 rw[Int.toNat_natCast,show List.map D.sc [Value.bool false]=[D.sc (.bool false)] from rfl,ZE]
 refine sW ?_
 rw[Qd]
 refine zO [1,4,8,11,35,36] (λk:Nat=>[(37,.sc (.int .i64 k))]) (λk=>[(4,.vec true 0 1 (Z8 L.length λv=>decide (v<k)&&zhL L sel l v))]) (λk=>k≤L.length) (λk=>L.length-k) 0 ?_
 refine sW ?_
 refine⟨zo,by exact sK,by rw[show(λv=>decide (v<0)&&zhL L sel l v)=λ_=>false from funext λv=>zs];rfl,?_⟩
 rintro k hk
 refine sW ?_
 refine sR ?_
 refine sS (λq0=>?_) λq0=>?_
 ·have q0:k<L.length:=sO
  have hse:=hsel _ (UY q0)
  have hii:=xL _ (UY q0)
  have eS:zhL L sel l k=XI l (sel (L.getD k (0,0))).toNat:=rfl
  refine sL (JH (k:=k) zo q0) ?_
  generalize L.getD k (0,0)=p at *
  refine sC hse ?_
  generalize sel p=x at *
  refine sB ?_
  refine⟨_,yd x.toNat zo zo,?_⟩
  refine sW ?_
  refine sB ?_
  refine⟨_,yd k zo q0,?_⟩
  refine sW ?_
  refine sI ?_
  refine⟨k+1,zo,zd,?_⟩
  rw[uC (i:=k) (f':=λv=>decide (v<k+1)&&zhL L sel l v) zo λv _=>by
   by_cases e:v=k
   ·subst e;rw[if_pos rfl,←eS];simp
   ·rw[if_neg e]
    by_cases e2:v<k
    ·rw[decide_eq_true e2,decide_eq_true (show v<k+1 by omega)]
    ·rw[decide_eq_false e2,decide_eq_false (show ¬v<k+1 by omega)]]
  (refine zj 5 zs rfl ?_ ?_<;>(repeat' (first|exact trivial|exact rfl|exact yc.refl _|exact zQ.refl _|exact zK.refl _|refine And.intro ?_ ?_|(simp[zt,zl,zF,-List.map_take,-List.map_drop];done))))
  all_goals first|exact zr _ hp|simp[zi,z7,ur,zjm,zka]|skip
 have q0:k=L.length:=by have:¬k<L.length:=sO
                        omega
 subst q0
 refine sJ ?_
 refine⟨.refl _,⟨rfl,.refl _,hpU _,trivial⟩,⟨rfl,.refl _,by simp[zl,zt]⟩,⟨rfl,rfl,rfl,?_,zh _ (zc4 _ _)⟩,trivial⟩
 rw[show UL L.length (F++[zhL L sel l])=UL L.length F++[[uh L.length (zhL L sel l)]] by simp[UL]]
 exact .append _ _ _ _ (zp (zu zs)) (.cons _ _ _ _ (.cons _ _ _ _ (.own _ _ _ _ _ _ _ _ rfl rfl (zp (by rw[zu zs];exact xV λv hv=>by rw[decide_eq_true hv];simp))) (.refl _)) (.refl _))
def c157:PC:=.seq (OP [Bx 1 0,Mv 2 (cI 0)]) (.seq (OP [Fa 3 0 1,Lo 4 3,qm 2 4]) .ret)
theorem ztZ:zy Tryz.prog 157 5 [.tmp 2] c157:=fK Tryz.func157
def c158:PC:=.seq (OP [Bx 1 0,Mv 2 (cI 0)]) (.seq (OP [Fa 3 1 1,Lo 4 3,qm 2 4]) .ret)
theorem zv3:zy Tryz.prog 158 5 [.tmp 2] c158:=fK Tryz.func158
theorem zrl (p:Pr):zq Tryz.prog 157 [.agg (YV p.1 p.2)] (.sc (.int .i64 p.1)):=by
 refine za ztZ zs (by simp[ze,Pure,YV]) ?_ (by simp[Pure])
 unfold YV
 refine sR ?_
 exact .refl _
theorem zoP (p:Pr):zq Tryz.prog 158 [.agg (YV p.1 p.2)] (.sc (.int .i64 p.2)):=by
 refine za zv3 zs (by simp[ze,Pure,YV]) ?_ (by simp[Pure])
 unfold YV
 refine sR ?_
 exact .refl _
def Wa (L:List Pr) (sel:Pr→Int) (G:List (List Int)) (k:Nat):List (Nat→Bool):=(G.take k).map (zhL L sel)
theorem zgI {L:List Pr} {sel:Pr→Int} {G:List (List Int)} {k:Nat} (h:k<G.length):Wa L sel G (k+1)=Wa L sel G k++[zhL L sel (G.getD k [])]:=by
 unfold Wa
 rw[List.take_add_one,List.getElem?_eq_getElem h,List.map_append,List.getD_eq_getElem?_getD,List.getElem?_eq_getElem h]
 rfl
theorem YJ {L:List Pr} {sel:Pr→Int} {G:List (List Int)} {k:Nat} (h:k≤G.length):(Wa L sel G k).length=k:=by simp[Wa];omega
def vn (W:zA) (A:yh) (L:List Pr):List (Nat→Bool):=Wa L (·.1) W.fair W.fair.length++Wa L (·.2) A.fair A.fair.length
def zBS:PC:=.seq (OP [Bi 17 .lss 16 15]) (.seq (.cond 17 .skip (.exit 0)) (.seq (.block 1 (.seq (OP [Ia 18 1 14 16,Lo 19 18,qm 6 19]) (OP [qm 20 4,qm 21 6,Lo 22 1,q 23 (.zn 22),Fa 24 0 23,Fa 25 1 24,Lo 26 25,Ln 27 26,q 28 (.vu 20 [21,(.func 157),27])]))) (OP [Bi 29 .add 16 (cI 1),qm 16 29])))
def zCb:PC:=.seq (OP [Bi 37 .lss 36 35]) (.seq (.cond 37 .skip (.exit 2)) (.seq (.block 3 (.seq (OP [Ia 38 1 34 36,Lo 39 38,qm 8 39]) (OP [qm 40 4,qm 41 8,Lo 42 1,q 43 (.zn 42),Fa 44 4 43,Fa 45 1 44,Lo 46 45,Ln 47 46,q 48 (.vu 40 [41,(.func 158),47])]))) (OP [Bi 49 .add 36 (cI 1),qm 36 49])))
def c83:PC:=.seq (OP [Bx 1 0,Mv 2 cN]) (.seq (OP [q 3 (.alloc [(.slice none 0 0)])]) (.seq (OP [q 9 (.qj (.func 156) [] [1,3]),qm 4 9]) (.seq (.seq (OP [Lo 10 1,q 11 (.zn 10),Fa 12 0 11,Fa 13 3 12,Lo 14 13,Ln 15 14,Mv 16 (cI 0)]) (.block 0 (.loop zBS))) (.seq (.seq (OP [Lo 30 1,q 31 (.zn 30),Fa 32 4 31,Fa 33 4 32,Lo 34 33,Ln 35 34,Mv 36 (cI 0)]) (.block 2 (.loop zCb))) (.seq (OP [Lo 50 3,qm 2 50]) .ret)))))
theorem zw3:zy Tryz.prog 83 51 [.tmp 2] c83:=fK Tryz.func83
theorem zwa {W:zA} {A:yh} (hWA:zkJ W A) (L:List Pr) (hL:L.length≤2000000) (hg:∀p∈L,ui W A p) (G:List (List Int)) (fr:List Int):zq Tryz.prog 83 [.y7 (qV W A L G fr)] (zmc L.length (vn W A L)):=by
 have hp:=Za W A L G fr
 obtain⟨w1,w2,w3,w4,w5,w6⟩:=vK W hWA.cw
 obtain⟨a1,a2,a3,a4,a5,a6,a7⟩:=YG A hWA.ca
 have hP1:=λk (hk:k<W.fair.length) F (hF:F.length≤1000)=>zqO W A L hL G fr 157 (·.1) W.next.length zo (λp _=>zrl p) (λp hp=>(hg p hp).1) (W.fair.getD k []) (U6 hWA.fw.WJ k) (y3 w6 k) F hF
 have hP2:=λk (hk:k<A.fair.length) F (hF:F.length≤1000)=>zqO W A L hL G fr 158 (·.2) A.next.length zo (λp _=>zoP p) (λp hp=>(hg p hp).2) (A.fair.getD k []) (U6 hWA.fa.WJ k) (y3 a7 k) F hF
 refine za zw3 zs (by simp[ze,YC hp]) ?_ (zaO _ _)
 have hpU:=λm=>zw (m:=m) _ (YC hp)
 obtain⟨sd,hsd⟩:∃sd:List D,sd=qV W A L G fr:=⟨_,rfl⟩
 rw[←hsd] at hp hpU hP1 hP2 ⊢
 refine sR ?_
 subst hsd
 unfold qV
 refine sW ?_
 rw[List.length_map]
 refine zG (yV 1 0 1 zs rfl rfl) ?_
 refine z8 [1,3,4,14,15] (λk:Nat=>[(16,.sc (.int .i64 k))]) (λk=>[.row true [.y7 (qV W A L G fr)],.row true [.own 2 (Wa L (·.1) W.fair k).length 0 (Wa L (·.1) W.fair k).length],.vec true (Wa L (·.1) W.fair k).length 1 (UL L.length (Wa L (·.1) W.fair k))]) (λk=>k≤W.fair.length) (λk=>W.fair.length-k) 0 ?_
 refine sW ?_
 refine⟨zo,by exact sK,rfl,?_⟩
 rintro k hk
 have eL:=YJ (L:=L) (sel:=(·.1)) hk
 refine sW ?_
 refine sR ?_
 refine sS (λq0=>?_) λq0=>?_
 ·have q0:k<W.fair.length:=sO
  have hP:=hP1 k q0 (Wa L (·.1) W.fair k) zo
  have eS:=zgI (L:=L) (sel:=(·.1)) q0
  refine⟨zo,_,xS (g:=W.fair) (k:=k) zo q0,?_⟩
  rw[←eS] at hP
  refine sW ?_
  rw[List.length_map]
  unfold qV at hP
  refine sA hP ?_
  refine sI ?_
  refine⟨k+1,zo,zd,?_⟩
  have eL2:=YJ (L:=L) (sel:=(·.1)) (k:=k+1) (show k+1≤W.fair.length by omega)
  dsimp only
  rw[eL2,eL]
  (refine zj 3 zs rfl ?_ ?_<;>(repeat' (first|exact trivial|exact rfl|exact yc.refl _|exact zQ.refl _|exact zK.refl _|refine And.intro ?_ ?_|(simp[zt,zl,zF,-List.map_take,-List.map_drop];done))))
  all_goals first|exact hpU _|skip
 have q0:k=W.fair.length:=by have:¬k<W.fair.length:=sO
                             omega
 subst q0
 generalize hF0:Wa L (·.1) W.fair W.fair.length=F0 at *
 refine sW ?_
 rw[List.length_map]
 refine z8 [1,3,4,34,35] (λk:Nat=>[(36,.sc (.int .i64 k))]) (λk=>[.row true [.y7 (qV W A L G fr)],.row true [.own 2 (F0++Wa L (·.2) A.fair k).length 0 (F0++Wa L (·.2) A.fair k).length],.vec true (F0++Wa L (·.2) A.fair k).length 1 (UL L.length (F0++Wa L (·.2) A.fair k))]) (λk=>k≤A.fair.length) (λk=>A.fair.length-k) 0 ?_
 refine sW ?_
 refine⟨zo,by exact sK,by simp[Wa],?_⟩
 rintro k hk
 have eL':=YJ (L:=L) (sel:=(·.2)) hk
 refine sW ?_
 refine sR ?_
 refine sS (λq0=>?_) λq0=>?_
 ·have q0:k<A.fair.length:=sO
  have hP:=hP2 k q0 (F0++Wa L (·.2) A.fair k) (by rw[List.length_append];omega)
  have eS:=zgI (L:=L) (sel:=(·.2)) q0
  refine⟨zo,_,xS (g:=A.fair) (k:=k) zo q0,?_⟩
  rw[List.append_assoc,←eS] at hP
  refine sW ?_
  rw[List.length_map]
  unfold qV at hP
  refine sA hP ?_
  refine sI ?_
  refine⟨k+1,zo,zd,?_⟩
  have eL2:(F0++Wa L (·.2) A.fair (k+1)).length=(F0++Wa L (·.2) A.fair k).length+1:=by rw[List.length_append,List.length_append,YJ zo,eL'];rfl
  dsimp only
  rw[eL2]
  (refine zj 3 zs rfl ?_ ?_<;>(repeat' (first|exact trivial|exact rfl|exact yc.refl _|exact zQ.refl _|exact zK.refl _|refine And.intro ?_ ?_|(simp[zt,zl,zF,-List.map_take,-List.map_drop];done))))
  all_goals first|exact hpU _|skip
 have q0:k=A.fair.length:=by have:¬k<A.fair.length:=sO
                             omega
 subst q0
 unfold vn
 rw[hF0]
 exact .own _ _ _ _ _ _ _ _ rfl (by rw[zu zs];exact z6 _)
end
section
open Go.RowKit
noncomputable def Zr (g:List (List Int)) (F:List (Nat→Bool)) (k:Nat):Nat→Bool:=λi=>okT g g.length i&&(F.take k).all λS=>Jv g S g.length i
theorem zkU {g:List (List Int)} {F:List (Nat→Bool)} {k:Nat} (h:k<F.length) (i:Nat):Zr g F (k+1) i=(Zr g F k i&&Jv g (F.getD k noT) g.length i):=by
 unfold Zr
 rw[ziY h noT,Bool.and_assoc]
theorem znG {g:List (List Int)} {F:List (Nat→Bool)}:Zr g F F.length=Y2 g F:=by
 funext i;unfold Zr Y2;rw[List.take_length]
def c159:PC:=.seq (OP [Mv 4 cF]) (.seq (.ops [Lo 5 1,qm 6 0,qd 7 (.zM 1 5 6) 3,qd 8 (.zg 7) 7,Lo 9 1,Lo 10 2,qd 11 (.zM 1 9 10) 48,qd 12 (.zg 11) 112,qd 13 (.bin .eql 8 12) 255,qw 4 13 511] true) .ret)
theorem zvY:zy Tryz.prog 159 14 [.tmp 4] c159:=fK Tryz.func159
theorem zum (g:List (List Int)) (x:Int) (hx:0≤x∧x<(g.length:Int)) (n:Nat) (hn:n<g.length):zq Tryz.prog 159 [.sc (.int .i64 x),.y7 [zB (vD g)],.y7 [.sc (.int .i64 n)]] (.sc (.bool (zE g x.toNat==zE g n))):=by
 refine za zvY zs (by simp[ze,Pure,zi]) ?_ (by simp[Pure])
 unfold vD zB
 refine sR ?_
 refine sL (yl x.toNat zo zo) ?_
 refine sL (yl n zo hn) ?_
 exact .refl _
def zAI:PC:=.seq (OP [Bi 28 .lss 27 26]) (.seq (.cond 28 .skip (.exit 0)) (.seq (.block 1 (.seq (OP [qm 29 27,Ia 30 1 25 27,Lo 31 30,q 8 (.alloc [(.int .i64 0)]),So 1 8 29,qm 9 31]) (.seq (OP [qm 32 9,q 33 (.qj (.func 159) [] [4,8]),Ca 34 49 [32,33]]) (.cond 34 (OP [qm 35 7,Lo 36 4,Lo 37 8,Ia 38 1 36 37,Lo 39 38,Ia 40 1 35 39,So 1 40 cT]) .skip)))) (OP [Bi 41 .add 27 (cI 1),qm 27 41])))
def zB5:PC:=.seq (OP [Bi 57 .lss 56 55]) (.seq (.cond 57 .skip (.exit 4)) (.seq (.block 5 (.seq (OP [qm 58 56,Ia 59 1 54 56,Lo 60 59,qm 13 58,qm 14 60]) (.ops [qm 61 12,Lo 62 4,qm 63 13,qd 64 (.zM 1 62 63) 6,qd 65 (.zg 64) 14,qm 66 12,Lo 67 4,qm 68 13,qd 69 (.zM 1 67 68) 192,qd 70 (.zg 69) 448,qd 71 (.zM 1 66 70) 992,qd 72 (.zg 71) 2016,qw 73 72 4064,⟨some 74,.move 14,some (73,false),8160⟩,qd 75 (.pick 73 cT 74) 16352,qd 76 (.zM 1 61 65) 32767,qk (.store 1 76 75) 65535] true))) (OP [Bi 77 .add 56 (cI 1),qm 56 77])))
def zBy:PC:=.seq (OP [Bi 81 .lss 80 79]) (.seq (.cond 81 .skip (.exit 6)) (.seq (.block 7 (.seq (OP [qm 82 80,qm 15 82]) (OP [qm 83 7,qm 84 15,qm 85 7,qm 86 15,Ia 87 1 85 86,Lo 88 87,qm 89 88,GT 90 89 (.move 12),GT 91 89 (.move 15),GT 92 89 (.zM 1 90 91),GT 93 89 (.zg 92),Pk 94 89 93 cF,Ia 95 1 83 84,So 1 95 94]))) (OP [Bi 96 .add 80 (cI 1),qm 80 96])))
def zBa:PC:=.seq (OP [Bi 45 .lss 44 43]) (.seq (.cond 45 .skip (.exit 2)) (.seq (.block 3 (.seq (OP [Ia 46 1 42 44,Lo 47 46,qm 11 47]) (.seq (OP [qm 48 0,q 49 (.zn 48),Fa 50 10 49,Lo 51 50,Ln 52 51,q 53 (.wE 1 1 [(.bool false)] 52 52),qm 12 53]) (.seq (.seq (OP [qm 54 11,Ln 55 54,Mv 56 (cI 0)]) (.block 4 (.loop zB5))) (.seq (OP [qm 78 7,Ln 79 78,Mv 80 (cI 0)]) (.block 6 (.loop zBy))))))) (OP [Bi 97 .add 44 (cI 1),qm 44 97])))
def c84:PC:=.seq (OP [Bx 4 1,Mv 6 (cI 0)]) (.seq (OP [qm 16 0,q 17 (.zn 16),Fa 18 10 17,Lo 19 18,Ln 20 19,q 21 (.wE 1 1 [(.bool false)] 20 20),qm 7 21]) (.seq (.seq (OP [qm 22 0,q 23 (.zn 22),Fa 24 11 23,Lo 25 24,Ln 26 25,Mv 27 (cI 0)]) (.block 0 (.loop zAI))) (.seq (.seq (OP [qm 42 2,Ln 43 42,Mv 44 (cI 0)]) (.block 2 (.loop zBa))) (.seq (OP [qm 98 7,Ca 99 160 [98,cT],qm 6 99]) .ret))))
theorem zzU:zy Tryz.prog 84 100 [.tmp 6] c84:=fK Tryz.func84
theorem ztM (W:zA) (A:yh) (L:List Pr) (g:List (List Int)) (hLg:g.length=L.length) (fr:List Int) (hn:g.length≤2000000) (hin0:∀l∈g,xH l g.length=true) (hF:uU g) (F:List (Nat→Bool)) (hFl:F.length≤1000) :
  zq Tryz.prog 84 [.y7 (qV W A L g fr),zB (vD g),zmc g.length F] (.sc (.int .i64 (wA (λb=>true==b) ((List.range g.length).map (Y2 g F))))):=by
 have hrow:=λk=>y3 hin0 k
 have hp:=Za W A L g fr
 have hc:=λk (hk:k<g.length)=>y4 (λn=>.sc (.int .i64 n)) (λa=>by simp[Pure]) (g.getD k []) (by have:=hF.at k;omega) (λx=>zE g x.toNat==zE g k) 159 [.y7 [zB (vD g)],.y7 [.sc (.int .i64 k)]] (by simp[ze,Pure,zi]) λa ha=>zum g a (zT (hrow k) ha) k hk
 have hI:=zeo ((List.range g.length).map (Y2 g F)) (by simp;omega) true
 refine za zzU zs (by simp[ze,Pure,zi,hp,zaO]) ?_ (by simp[Pure])
 unfold qV Uc zmc ya
 refine sR ?_
 rw[Qd,←hLg]
 refine⟨zo,zo,zo,?_⟩
 rw[Int.toNat_natCast,show List.map D.sc [Value.bool false]=[D.sc (.bool false)] from rfl,ZE]
 refine sW ?_
 rw[List.length_map]
 refine zO [0,2,4,7,25,26] (λk:Nat=>[(27,.sc (.int .i64 k))]) (λk=>[(1,.vec true 0 1 (Z8 g.length (okT g k)))]) (λk=>k≤g.length) (λk=>g.length-k) 0 ?_
 refine sW ?_
 refine⟨zo,by exact sK,rfl,?_⟩
 rintro k hk
 refine sW ?_
 refine sR ?_
 refine sS (λq0=>?_) λq0=>?_
 ·have q0:k<g.length:=sO
  have hpl:=qx q0
  have e1:=zkj g k
  refine sL (xS (k:=k) zo q0) ?_
  refine sN (hc k q0) ?_
  rw[show((g.getD k []).any λx=>zE g x.toNat==zE g k)=zbV g k from rfl]
  cases r:zbV g k
  ·refine sW ?_
   refine sI ?_
   refine⟨k+1,zo,zd,?_⟩
   (refine zj 2 zs rfl ?_ ?_<;>(repeat' (first|exact trivial|exact rfl|exact yc.refl _|exact zQ.refl _|exact zK.refl _|refine And.intro ?_ ?_|(simp[zt,zl,zF,-List.map_take,-List.map_drop];done))))
   all_goals first|exact zr _ hp|exact zp (xV λi _=>by rw[e1,r,Bool.and_false,Bool.or_false])|skip
  ·refine sW ?_
   refine sL (yl k zo q0) ?_
   refine sB ?_
   refine⟨_,yd (zE g k).toNat zo zo,?_⟩
   refine sW ?_
   refine sI ?_
   refine⟨k+1,zo,zd,?_⟩
   rw[uC (i:=(zE g k).toNat) (f':=okT g (k+1)) zo λv _=>by
    rw[e1,r,Bool.and_true]
    by_cases e:v=(zE g k).toNat
    ·rw[if_pos e,show(zE g k==(v:Int))=true by rw[beq_iff_eq];omega,Bool.or_true]
    ·rw[if_neg e,show(zE g k==(v:Int))=false by rw[beq_eq_false_iff_ne];omega,Bool.or_false]]
   (refine zj 2 zs rfl ?_ ?_<;>(repeat' (first|exact trivial|exact rfl|exact yc.refl _|exact zQ.refl _|exact zK.refl _|refine And.intro ?_ ?_|(simp[zt,zl,zF,-List.map_take,-List.map_drop];done))))
   all_goals first|exact zr _ hp|skip
 have q0:k=g.length:=by have:¬k<g.length:=sO
                        omega
 subst q0
 clear hc
 rw[List.length_map]
 refine zO [0,4,7,42,43] (λk:Nat=>[(44,.sc (.int .i64 k))]) (λk=>[(1,.vec true 0 1 (Z8 g.length (Zr g F k)))]) (λk=>k≤F.length) (λk=>F.length-k) 0 ?_
 refine sW ?_
 refine⟨zo,by exact sK,by rw[show Zr g F 0=okT g g.length from funext λi=>by simp[Zr]];rfl,?_⟩
 rintro k hk
 refine sW ?_
 refine sR ?_
 refine sS (λq0=>?_) λq0=>?_
 ·have q0:k<F.length:=sO
  have eG:=λi=>zkU (g:=g) q0 i
  refine sL (zmL (n:=g.length) (F:=F) (k:=k) zo q0) ?_
  generalize F.getD k noT=S at *
  rw[Qd,←hLg]
  refine⟨zo,zo,zo,?_⟩
  rw[Int.toNat_natCast,show List.map D.sc [Value.bool false]=[D.sc (.bool false)] from rfl,ZE]
  refine sW ?_
  rw[zhf]
  refine zO [0,4,7,12,42,43,44,54,55] (λj:Nat=>[(56,.sc (.int .i64 j))]) (λj=>[(2,.vec true 0 1 (Z8 g.length (Jv g S j)))]) (λj=>j≤g.length) (λj=>g.length-j) 0 ?_
  refine sW ?_
  refine⟨zo,by exact sK,by rw[show Jv g S 0=λ_=>false from funext λi=>rfl];rfl,?_⟩
  rintro j hj
  refine sW ?_
  refine sR ?_
  refine sS (λq2=>?_) λq2=>?_
  ·have q2:j<g.length:=sO
   have eH:=λi=>zoB g S j i
   have hpj:=qx (g:=g) q2
   refine sL (yd j zo q2) ?_
   refine sL (yl j zo q2) ?_
   refine sL (yl j zo q2) ?_
   refine sB ?_
   refine⟨_,yd (zE g j).toNat zo zo,?_⟩
   refine sW ?_
   have fin:∀v,(v=true↔Jv g S j (zE g j).toNat=true∨S j=true)→(Z8 g.length (Jv g S j)).set (zE g j).toNat [.sc (.bool v)]=Z8 g.length (Jv g S (j+1)):=λv hv =>
    uC rfl λq _=>by
     rw[eH]
     by_cases e:q=(zE g j).toNat
     ·subst e
      rw[if_pos rfl,show(zE g j==(((zE g j).toNat:Nat):Int))=true by rw[beq_iff_eq];omega,Bool.true_and,Bool.eq_iff_iff,Bool.or_eq_true,hv]
     ·rw[if_neg e,show(zE g j==(q:Int))=false by rw[beq_eq_false_iff_ne];omega,Bool.false_and,Bool.or_false]
   cases r:Jv g S j (zE g j).toNat
   ·refine sW ?_
    refine sB ?_
    refine⟨_,yd (zE g j).toNat zo zo,?_⟩
    refine sW ?_
    refine sI ?_
    refine⟨j+1,zo,zd,zD (by exact sK) ?_⟩
    have:=fin (S j) (by rw[r];simp)
    rw[Nat.zero_add,this]
    rfl
   ·refine sW ?_
    refine sB ?_
    refine⟨_,yd (zE g j).toNat zo zo,?_⟩
    refine sW ?_
    refine sI ?_
    refine⟨j+1,zo,zd,zD (by exact sK) ?_⟩
    have:=fin true (by rw[r];simp)
    rw[Nat.zero_add,this]
    rfl
  have q2:j=g.length:=by have:¬j<g.length:=sO
                         omega
  rw[q2]
  clear q2
  refine zO [0,4,7,12,42,43,44,79] (λi:Nat=>[(80,.sc (.int .i64 i))]) (λi=>[(1,.vec true 0 1 (Z8 g.length λx=>if x<i then Zr g F (k+1) x else Zr g F k x))]) (λi=>i≤g.length) (λi=>g.length-i) 0 ?_
  refine sW ?_
  refine⟨zo,by exact sK,by simp;rfl,?_⟩
  rintro i hi
  refine sW ?_
  refine sR ?_
  refine sS (λq3=>?_) λq3=>?_
  ·have q3:i<g.length:=sO
   have fin:(Z8 g.length λx=>if x<i then Zr g F (k+1) x else Zr g F k x).set i [.sc (.bool (Zr g F (k+1) i))]=Z8 g.length λx=>if x<i+1 then Zr g F (k+1) x else Zr g F k x :=
    uC rfl λq _=>by
     by_cases e:q=i
     ·subst e;rw[if_pos zo,if_pos rfl]
     ·rw[if_neg e]
      by_cases e2:q<i
      ·rw[if_pos e2,if_pos zo]
      ·rw[if_neg e2,if_neg zo]
   have eGi:=eG i
   have hat:(Z8 g.length λx=>if x<i then Zr g F (k+1) x else Zr g F k x)[i]? = some [.sc (.bool (Zr g F k i))]:=by
    rw[yd i rfl q3,if_neg zo]
   refine sB ?_
   refine⟨_,by rw[Nat.zero_add];exact hat,?_⟩
   refine sW ?_
   cases r:Zr g F k i
   ·rw[r,Bool.false_and] at eGi
    rw[eGi] at fin
    refine sW ?_
    refine sB ?_
    refine⟨_,by rw[Nat.zero_add];exact hat,?_⟩
    refine sW ?_
    refine sI ?_
    refine⟨i+1,zo,zd,zD (by exact sK) ?_⟩
    rw[Nat.zero_add,show(i:Int).toNat=i from Int.toNat_natCast i,fin]
    rfl
   ·rw[r,Bool.true_and] at eGi
    rw[eGi] at fin
    refine sW ?_
    refine sB ?_
    refine⟨_,yd i zo q3,?_⟩
    refine sW ?_
    refine sB ?_
    refine⟨_,by rw[Nat.zero_add];exact hat,?_⟩
    refine sW ?_
    refine sI ?_
    refine⟨i+1,zo,zd,zD (by exact sK) ?_⟩
    rw[Nat.zero_add,show(i:Int).toNat=i from Int.toNat_natCast i,fin]
    rfl
  ·have q3:i=g.length:=by have:¬i<g.length:=sO
                          omega
   subst q3
   refine sI ?_
   refine⟨k+1,zo,zd,?_⟩
   dsimp only
   (refine zj 2 zs rfl ?_ ?_<;>(repeat' (first|exact trivial|exact rfl|exact yc.refl _|exact zQ.refl _|exact zK.refl _|refine And.intro ?_ ?_|(simp[zt,zl,zF,-List.map_take,-List.map_drop];done))))
   all_goals first|exact zr _ hp|exact zh _ (zC _ (λS=>by simp[ze,zV]) F)|exact zp (xV λv hv=>by rw[if_pos hv])|skip
 have q0:k=F.length:=by have:¬k<F.length:=sO
                        omega
 subst q0
 rw[znG]
 rw[show((List.range g.length).map (Y2 g F)).map (λa=>[D.sc (.bool a)])=List.drop 0 (List.take g.length (Z8 g.length (Y2 g F))) by rw[zcx,zmU]] at hI
 refine sN hI ?_
 exact .refl _
end
end
section
open Go.RowKit
def zjs (Z:List Int) (i:Nat) (p:Nat):Int:=if p<i∨Z.length-i≤p then Z.getD (Z.length-1-p) 0 else Z.getD p 0
theorem zvD (Z:List Int):gl Z.length (λp=>Z.getD p 0)=Z:=by
 apply List.ext_getElem zs
 intro i h1 h2
 have:=Qe (n:=Z.length) (g:=λp=>Z.getD p 0) h2
 rw[List.getD_eq_getElem?_getD,List.getElem?_eq_getElem h1,List.getD_eq_getElem?_getD,List.getElem?_eq_getElem h2] at this
 exact this
theorem zyY {Z:List Int} {g:Nat→Int} (h:∀p,p<Z.length→g p=Z.getD (Z.length-1-p) 0):gl Z.length g=Z.reverse:=by
 apply List.ext_getElem zs
 intro i h1 h2
 have hi:i<Z.length:=by simpa using h1
 have:=Qe (n:=Z.length) (g:=g) hi
 rw[List.getD_eq_getElem?_getD,List.getElem?_eq_getElem h1,h i hi,List.getD_eq_getElem?_getD,List.getElem?_eq_getElem zo] at this
 rw[List.getElem_reverse]
 exact this
def zw1:PC:=.seq (.seq (OP [qm 7 2,qm 8 3,Bi 9 .lss 7 8]) (.cond 9 .skip (.exit 0))) (.seq (.block 1 (.ops [qm 14 0,qm 15 2,qm 16 0,qm 17 3,qm 18 0,qm 19 3,qd 20 (.zM 1 18 19) 48,qd 21 (.zg 20) 112,qm 22 0,qm 23 2,qd 24 (.zM 1 22 23) 768,qd 25 (.zg 24) 1792,qd 26 (.zM 1 14 15) 4083,qk (.store 1 26 21) 8179,qd 27 (.zM 1 16 17) 16383,qk (.store 1 27 25) 32767] true)) (OP [qm 10 2,Bi 11 .add 10 (cI 1),qm 12 3,Bi 13 .sub 12 (cI 1),qm 2 11,qm 3 13]))
def c161:PC:=.seq (OP [qm 4 0,Ln 5 4,Bi 6 .sub 5 (cI 1),Mv 2 (cI 0),qm 3 6]) (.block 0 (.loop zw1))
theorem ztn:zy Tryz.prog 161 28 [] c161:=fK Tryz.func161
theorem zce (Z:List Int) (hl:Z.length≤17592186044416) (v:Nat):yu Tryz.prog 161 [.own 0 v 0 Z.length] [.vec true v 1 (zL Z)] (.yO []) [.vec true v 1 (zL Z.reverse)]:=by
 refine z1 ztn zs zs ?_ (by simp[zt,zl]) (by simp[zf.under])
 refine sR ?_
 rw[Nat.sub_zero]
 refine sI ?_
 refine zO [0] (λi:Nat=>[(2,.sc (.int .i64 i)),(3,.sc (.int .i64 ((Z.length:Int)-1-i)))]) (λi=>[(0,.vec true v 1 (zL (gl Z.length (zjs Z i))))]) (λi=>2*i≤Z.length+1) (λi=>Z.length+1-i) 0 ?_
 refine sW ?_
 refine⟨zo,⟨rfl,by show D.sc _=D.sc _;simp,trivial⟩,by
  rw[Yx (g':=λp=>Z.getD p 0) λp hp=>by unfold zjs;rw[if_neg zo],zvD];rfl,?_⟩
 rintro i hi
 refine sW ?_
 refine sR ?_
 refine sS (λh1=>?_) λh1=>?_
 ·have h1:(i:Int)<(Z.length:Int)-1-i:=sO
  refine sB ?_
  refine⟨_,yl (Z.length-1-i) zo zo,?_⟩
  refine sW ?_
  refine sB ?_
  refine⟨_,yl i zo zo,?_⟩
  refine sW ?_
  refine sB ?_
  refine⟨_,yl i zo zo,?_⟩
  refine sW ?_
  refine sB ?_
  rw[qo (k:=i) zo]
  refine⟨_,yl (Z.length-1-i) zo zo,?_⟩
  refine sW ?_
  refine sI ?_
  refine sI ?_
  refine⟨i+1,zo,zd,?_⟩
  refine zD ⟨rfl,by show D.sc _=D.sc _;simp;omega,by exact sK⟩ ?_
  rw[qo (k:=Z.length-1-i) zo,Yx (g':=zjs Z (i+1)) λp hp=>?_]
  ·rfl
  ·by_cases e1:p=Z.length-1-i
   ·subst e1
    rw[qb]
    unfold zjs
    rw[if_neg zo,if_pos zo]
    congr 1
    omega
   ·rw[Vw e1]
    by_cases e2:p=i
    ·subst e2
     rw[qb]
     unfold zjs
     rw[if_neg zo,if_pos zo]
    ·rw[Vw e2]
     unfold zjs
     by_cases q:p<i∨Z.length-i≤p
     ·rw[if_pos q,if_pos zo]
     ·rw[if_neg q,if_neg zo]
 ·have h1:¬(i:Int)<(Z.length:Int)-1-i:=sO
  refine⟨?_,zs⟩
  rw[←zyY (Z:=Z) (g:=zjs Z i) λp hp=>?_]
  ·rfl
  ·unfold zjs
   split
   ·rfl
   ·congr 1
    omega
end
section
section
def yr (M:List Pr):List Int:=M.map (·.1)
def WV (ok:Nat→Bool) (n:Int):List Int→List Pr→List Pr
 | [],M=>M
 | k::r,M=>WV ok n r (if (yr M).contains k=false∧ok k.toNat=true then M++[(k,n)] else M)
def wSt:List Int→List Pr→List Pr
 | [],M=>M
 | k::r,M=>wSt r (if (yr M).contains k=false then M++[(k,-1)] else M)
def yF (M:List Pr) (h:Nat):Int:=(M.getD h (0,0)).1
def QD (g:List (List Int)) (to ok:Nat→Bool):Nat→Nat→List Pr→Option (List Pr × Nat)
 | 0,_,_=>none
 | f+1,h,M=>if h<M.length then (if to (yF M h).toNat=true then some (M,h) else QD g to ok f (h+1) (WV ok (yF M h) (g.getD (yF M h).toNat []) M)) else none
def upM (M:List Pr) (n:Int):Int:=((M.find? λp=>p.1==n).map (·.2)).getD (-1)
def uT (M:List Pr):Nat→Int→List Int
 | 0,_=>[]
 | f+1,n=>if n<0 then [] else n::uT M f (upM M n)
def XT (g:List (List Int)) (to ok:Nat→Bool) (from_:List Int):List Int :=
 match QD g to ok (g.length+1) 0 (wSt from_ []) with
 | some (M,h)=>(uT M (M.length+1) (yF M h)).reverse
 | none=>[]
structure ZF (g:List (List Int)) (ok:Nat→Bool) (from_:List Int) (M:List Pr):Prop where
 nd:(yr M).Nodup
 rng:∀p∈M,0≤p.1∧p.1<(g.length:Int)
 par:∀j,j<M.length→(M.getD j (0,0)).2=-1∨∃i,i<j∧(M.getD j (0,0)).2=yF M i
 okF:∀p∈M,p.1∈from_∨ok p.1.toNat=true
theorem Zt (M:List Pr):(yr M).length=M.length:=by simp[yr]
theorem XY (M:List Pr) (p:Pr):yr (M++[p])=yr M++[p.1]:=by simp[yr]
theorem Yb {M:List Pr} {p:Pr} {i:Nat} (h:i<M.length):yF (M++[p]) i=yF M i:=by
 unfold yF
 rw[List.getD_eq_getElem?_getD,List.getElem?_append_left h,←List.getD_eq_getElem?_getD]
theorem ZF.len {g:List (List Int)} {ok:Nat→Bool} {from_:List Int} {M:List Pr} (h:ZF g ok from_ M):M.length≤g.length:=by
 rw[←Zt]
 have hnd:=h.nd
 refine zhq g.length (yr M).length (λi=>((yr M).getD i 0).toNat) (λi hi=>?_) λi j hi hj he=>?_
 ·have hm:(yr M).getD i 0∈yr M:=by rw[List.getD_eq_getElem?_getD,List.getElem?_eq_getElem hi];simp
  obtain⟨p,hp,e⟩:=List.mem_map.1 hm
  have:=h.rng p hp
  rw[←e];omega
 ·have hi':(yr M).getD i 0∈yr M:=by rw[List.getD_eq_getElem?_getD,List.getElem?_eq_getElem hi];simp
  have hj':(yr M).getD j 0∈yr M:=by rw[List.getD_eq_getElem?_getD,List.getElem?_eq_getElem hj];simp
  obtain⟨p,hp,e1⟩:=List.mem_map.1 hi'
  obtain⟨q,hq,e2⟩:=List.mem_map.1 hj'
  have a:=h.rng p hp
  have b:=h.rng q hq
  have hx:(yr M).getD i 0=(yr M).getD j 0:=by rw[←e1,←e2] at he ⊢;omega
  rw[List.getD_eq_getElem?_getD,List.getD_eq_getElem?_getD,List.getElem?_eq_getElem hi,List.getElem?_eq_getElem hj] at hx
  simp only[Option.getD_some] at hx
  rcases Nat.lt_trichotomy i j with q|q|q
  ·exact absurd hx (List.pairwise_iff_getElem.1 hnd i j hi hj q)
  ·exact q
  ·exact absurd hx.symm (List.pairwise_iff_getElem.1 hnd j i hj hi q)
theorem ZF.push {g:List (List Int)} {ok:Nat→Bool} {from_:List Int} {M:List Pr} (h:ZF g ok from_ M) {k n:Int} (hk:0≤k∧k<(g.length:Int)) (hn:¬k∈yr M) (hp:n=-1∨∃i,i<M.length∧n=yF M i) (hf:k∈from_∨ok k.toNat=true):ZF g ok from_ (M++[(k,n)]) where
 nd:=by
  rw[XY,List.nodup_append]
  exact⟨h.nd,zs,λa ha b hb=>by rw[List.mem_singleton] at hb;subst hb;exact λe=>hn (e▸ha)⟩
 rng p hp:=by
  rcases List.mem_append.1 hp with q|q
  ·exact h.rng p q
  ·rw[List.mem_singleton] at q;subst q;exact hk
 par j hj:=by
  by_cases e:j<M.length
  ·rw[List.getD_eq_getElem?_getD,List.getElem?_append_left e,←List.getD_eq_getElem?_getD]
   rcases h.par j e with k1|⟨i,k1,k2⟩
   ·exact .inl k1
   ·exact .inr ⟨i,k1,by rw[k2,Yb zo]⟩
  ·have ej:j=M.length:=by simp at hj;omega
   subst ej
   rw[List.getD_eq_getElem?_getD,List.getElem?_append_right (Nat.le_refl _),Nat.sub_self]
   show n=-1∨_
   rcases hp with k1|⟨i,k1,k2⟩
   ·exact .inl k1
   ·exact .inr ⟨i,k1,by show n=_;rw[k2,Yb k1]⟩
 okF p hp:=by
  rcases List.mem_append.1 hp with q|q
  ·exact h.okF p q
  ·rw[List.mem_singleton] at q;subst q;exact hf
theorem xJ {l:List Int} {k:Int} (h:l.contains k=false):¬k∈l:=λq=>by rw[List.contains_iff_mem.2 q] at h;cases h
theorem zax {l:List Int} {k:Int} (h:¬l.contains k=false):k∈l:=List.contains_iff_mem.1 (by cases e:l.contains k<;>simp_all)
theorem zhY {g:List (List Int)} {ok:Nat→Bool} {from_:List Int}:∀(r:List Int) {M:List Pr},ZF g ok from_ M→(∀x∈r,x∈from_∧0≤x∧x<(g.length:Int)) →
  ZF g ok from_ (wSt r M)∧(∀x∈r,x∈yr (wSt r M))∧∃X,wSt r M=M++X
 | [],M,h,_=>⟨h,zs,[],by simp[wSt]⟩
 | k::r,M,h,hr=>by
  rw[wSt]
  by_cases q:(yr M).contains k=false
  ·rw[if_pos q]
   obtain⟨a,b,X,hX⟩:=zhY r (h.push (hr k zs).2 (xJ q) (.inl rfl) (.inl (hr k zs).1)) λx hx=>hr x (by simp[hx])
   refine⟨a,λx hx=>?_,(k,-1)::X,by rw[hX];simp⟩
   rcases List.mem_cons.1 hx with rfl|hx
   ·rw[hX];simp[yr]
   ·exact b x hx
  ·rw[if_neg q]
   obtain⟨a,b,X,hX⟩:=zhY r h λx hx=>hr x (by simp[hx])
   refine⟨a,λx hx=>?_,X,hX⟩
   rcases List.mem_cons.1 hx with rfl|hx
   ·have:=zax q
    rw[hX];unfold yr at this ⊢;rw[List.map_append];exact List.mem_append.2 (.inl this)
   ·exact b x hx
theorem zcV {g:List (List Int)} {ok:Nat→Bool} {from_:List Int} {n:Int} {i0:Nat}:∀(r:List Int) {M:List Pr},ZF g ok from_ M→i0<M.length→n=yF M i0→(∀x∈r,0≤x∧x<(g.length:Int)) →
  ZF g ok from_ (WV ok n r M)∧(∀x∈r,ok x.toNat=true→x∈yr (WV ok n r M))∧∃X,WV ok n r M=M++X
 | [],M,h,_,_,_=>⟨h,zs,[],by simp[WV]⟩
 | k::r,M,h,hi,hn,hr=>by
  rw[WV]
  by_cases q:(yr M).contains k=false∧ok k.toNat=true
  ·rw[if_pos q]
   obtain⟨a,b,X,hX⟩:=zcV (n:=n) (i0:=i0) r (h.push (hr k zs) (xJ q.1) (.inr ⟨i0,hi,hn⟩) (.inr q.2)) (by rw[List.length_append];omega) (by rw[Yb hi];exact hn) λx hx=>hr x (by simp[hx])
   refine⟨a,λx hx hx2=>?_,(k,n)::X,by rw[hX];simp⟩
   rcases List.mem_cons.1 hx with rfl|hx
   ·rw[hX];simp[yr]
   ·exact b x hx hx2
  ·rw[if_neg q]
   obtain⟨a,b,X,hX⟩:=zcV (i0:=i0) r h hi hn λx hx=>hr x (by simp[hx])
   refine⟨a,λx hx hx2=>?_,X,hX⟩
   rcases List.mem_cons.1 hx with rfl|hx
   ·have:=zax λz=>q ⟨z,hx2⟩
    rw[hX];unfold yr at this ⊢;rw[List.map_append];exact List.mem_append.2 (.inl this)
   ·exact b x hx hx2
theorem ZF.none (g:List (List Int)) (ok:Nat→Bool) (from_:List Int):ZF g ok from_ [] where
 nd:=.nil
 rng p hp:=by cases hp
 par j hj:=by cases hj
 okF p hp:=by cases hp
theorem zpg {M:List Pr} (hnd:(yr M).Nodup) {i:Nat} (hi:i<M.length):M.find? (λp=>p.1==yF M i)=some (M.getD i (0,0)):=by
 have:M.getD i (0,0)=M[i]:=by rw[List.getD_eq_getElem?_getD,List.getElem?_eq_getElem hi];rfl
 rw[this,List.find?_eq_some_iff_getElem]
 unfold yF
 rw[this]
 refine⟨zs,i,hi,rfl,λj hj=>?_⟩
 have:=List.pairwise_iff_getElem.1 hnd j i (by simp[yr];omega) (by simp[yr];omega) hj
 simp only[yr,List.getElem_map] at this
 simpa using this
theorem zu5 {M:List Pr} (hnd:(yr M).Nodup) {i:Nat} (hi:i<M.length):upM M (yF M i)=(M.getD i (0,0)).2:=by
 unfold upM;rw[zpg hnd hi];rfl
def Y1 (M:List Pr) (t:Nat):Int:=if t=0 then -1 else yF M (t-1)
theorem ZF.up {g:List (List Int)} {ok:Nat→Bool} {from_:List Int} {M:List Pr} (h:ZF g ok from_ M) {t:Nat} (ht:0<t) (hl:t≤M.length):∃t',t'<t∧upM M (Y1 M t)=Y1 M t'∧(M.getD (t-1) (0,0)).2=Y1 M t'∧0≤Y1 M t∧Y1 M t<(g.length:Int):=by
 have e:Y1 M t=yF M (t-1):=by unfold Y1;rw[if_neg zo]
 rw[e,zu5 h.nd zo]
 have hr:=h.rng _ (xE (show t-1<M.length by omega))
 rcases h.par (t-1) zo with k|⟨i,k1,k2⟩
 ·exact⟨0,ht,by rw[k];rfl,by rw[k];rfl,hr⟩
 ·refine⟨i+1,zo,?_,?_,hr⟩
  ·rw[k2];unfold Y1;rw[if_neg zo];rfl
  ·rw[k2];unfold Y1;rw[if_neg zo];rfl
theorem ZF.back {g:List (List Int)} {ok:Nat→Bool} {from_:List Int} {M:List Pr} (h:ZF g ok from_ M):∀(f t:Nat),t≤M.length→(∀x∈uT M f (Y1 M t),0≤x∧x<(g.length:Int))∧(uT M f (Y1 M t)).length≤t
 | 0,t,_=>by simp[uT]
 | f+1,t,ht=>by
  rw[uT]
  by_cases h0:t=0
  ·subst h0
   rw[if_pos (by simp[Y1])];simp
  ·obtain⟨t',k1,k2,_,k3,k4⟩:=h.up (t:=t) zo ht
   rw[if_neg zo,k2]
   obtain⟨a,b⟩:=h.back f t' zo
   refine⟨λx hx=>?_,by simp;omega⟩
   rcases List.mem_cons.1 hx with rfl|hx
   ·exact⟨k3,k4⟩
   ·exact a x hx
def ziK (g:List (List Int)) (ok:Nat→Bool):List (List Int):=g.map λl=>l.filter λx=>ok x.toNat
theorem ze8 {g:List (List Int)} {ok:Nat→Bool} {v:Nat} {x:Int}:x∈(ziK g ok).getD v []↔x∈g.getD v []∧ok x.toNat=true:=by
 unfold ziK
 rw[List.getD_eq_getElem?_getD,List.getD_eq_getElem?_getD,List.getElem?_map]
 cases g[v]? with
 | none=>simp
 | some l=>simp
theorem zig {g:List (List Int)} (xL:∀l∈g,xH l g.length=true) {to ok:Nat→Bool} {from_:List Int}:∀(f h:Nat) (M:List Pr),ZF g ok from_ M→h≤M.length→g.length+1≤f+h→(∀x∈from_,x∈yr M)→(∀i,i<h→to (yF M i).toNat=false∧∀y∈g.getD (yF M i).toNat [],ok y.toNat=true→y∈yr M) →
  match QD g to ok f h M with
  | some (M',h')=>ZF g ok from_ M'∧h'<M'.length∧to (yF M' h').toNat=true
  | none=>∀x∈from_,∀v,To (ziK g ok) x.toNat v→to v=false
 | 0,h,M,hI,hh,hf,_,_=>by have:=hI.len;omega
 | f+1,h,M,hI,hh,hf,hst,hcl=>by
  rw[QD]
  by_cases q:h<M.length
  ·rw[if_pos q]
   by_cases q2:to (yF M h).toNat=true
   ·rw[if_pos q2]
    exact⟨hI,q,q2⟩
   ·rw[if_neg q2]
    obtain⟨a,b,X,hX⟩:=zcV (n:=yF M h) (g.getD (yF M h).toNat []) hI q rfl λx hx=>zT (y3 xL _) hx
    have hsub:∀x,x∈yr M→x∈yr (WV ok (yF M h) (g.getD (yF M h).toNat []) M):=λx hx=>by
     rw[hX];unfold yr at hx ⊢;rw[List.map_append];exact List.mem_append.2 (.inl hx)
    have hnode:∀i,i<M.length→yF (WV ok (yF M h) (g.getD (yF M h).toNat []) M) i=yF M i:=λi hi=>by
     rw[hX];unfold yF;rw[List.getD_eq_getElem?_getD,List.getElem?_append_left hi,←List.getD_eq_getElem?_getD]
    have hlen:M.length≤(WV ok (yF M h) (g.getD (yF M h).toNat []) M).length:=by rw[hX];simp
    refine zig xL f (h+1) _ a zo zo (λx hx=>hsub x (hst x hx)) λi hi=>?_
    by_cases e:i=h
    ·subst e
     rw[hnode i q]
     exact⟨by simpa using q2,b⟩
    ·rw[hnode i zo]
     obtain⟨c,d⟩:=hcl i zo
     exact⟨c,λy hy hy2=>hsub y (d y hy hy2)⟩
  ·rw[if_neg q]
   intro x hx v hv
   have eh:h=M.length:=zo
   subst eh
   have key:((v:Nat):Int)∈yr M:=Qk (g:=ziK g ok) (s:=λv=>((v:Nat):Int)∈yr M) (λu hu y hy=>by
    obtain⟨y1,y2⟩:=ze8.1 hy
    have hy0:=zT (y3 xL u) y1
    obtain⟨p,hp,ep⟩:=List.mem_map.1 hu
    obtain⟨i,hi,rfl⟩:=List.mem_iff_getElem.1 hp
    have en:yF M i=(u:Int):=by unfold yF;rw[List.getD_eq_getElem?_getD,List.getElem?_eq_getElem hi];exact ep
    have:=(hcl i hi).2 y (by rw[en];exact y1) y2
    rwa [show((y.toNat:Nat):Int)=y by omega]) hv (by
    have h1:=hst x hx
    obtain⟨p,hp,ep⟩:=List.mem_map.1 h1
    have:=hI.rng p hp
    have ep:p.1=x:=ep
    rwa [show((x.toNat:Nat):Int)=x by omega])
   obtain⟨p,hp,ep⟩:=List.mem_map.1 key
   obtain⟨i,hi,rfl⟩:=List.mem_iff_getElem.1 hp
   have en:yF M i=(v:Int):=by unfold yF;rw[List.getD_eq_getElem?_getD,List.getElem?_eq_getElem hi];exact ep
   have:=(hcl i hi).1
   rw[en] at this
   simpa using this
theorem zhs {g:List (List Int)} (xL:∀l∈g,xH l g.length=true) (to ok:Nat→Bool) {from_:List Int} (hf:xH from_ g.length=true):xH (XT g to ok from_) g.length=true∧(XT g to ok from_).length≤g.length ∧
  ((∃x∈from_,∃v,To (ziK g ok) x.toNat v∧to v=true)→∃init last,XT g to ok from_=init++[last]∧to last.toNat=true∧(last∈from_∨ok last.toNat=true)):=by
 obtain⟨a,b,_⟩:=zhY (ok:=ok) (from_:=from_) from_ (ZF.none g ok from_) λx hx=>⟨hx,zT hf hx⟩
 have hR:=zig xL (to:=to) (ok:=ok) (g.length+1) 0 (wSt from_ []) a (Nat.zero_le _) zo b λi hi=>zo
 unfold XT
 cases e:QD g to ok (g.length+1) 0 (wSt from_ []) with
 | none =>
  rw[e] at hR
  refine⟨rfl,zs,λ⟨x,hx,v,h1,h2⟩=>?_⟩
  have:=hR x hx v h1
  rw[h2] at this;cases this
 | some q =>
  obtain⟨M,h⟩:=q
  rw[e] at hR
  obtain⟨hI,hh,ht⟩:=hR
  have en:yF M h=Y1 M (h+1):=by unfold Y1;rw[if_neg zo];rfl
  obtain⟨c,d⟩:=hI.back (M.length+1) (h+1) zo
  have hl:=hI.len
  dsimp only
  rw[en]
  refine⟨wj λx hx=>c x (List.mem_reverse.1 hx),by rw[List.length_reverse];omega,λ_=>?_⟩
  have hr:=hI.rng _ (xE hh)
  rw[uT,if_neg (by rw[←en];unfold yF;omega),←en]
  exact⟨_,_,by rw[List.reverse_cons],ht,hI.okF _ (xE hh)⟩
end
section
open Go.RowKit
noncomputable def fIa (f:Value→Option Value) (M:List Pr):Value→Option Value:=M.foldl (λf p=>Q9 f (.int .i64 p.1) (.int .i64 p.2)) f
noncomputable def fI (M:List Pr):Value→Option Value:=fIa (λ_=>none) M
theorem U9 (M:List Pr) (p:Pr):fI (M++[p])=Q9 (fI M) (.int .i64 p.1) (.int .i64 p.2):=by
 unfold fI fIa;rw[List.foldl_append];rfl
theorem zaX {n:Int}:∀(M:List Pr) (f:Value→Option Value),¬n∈yr M→fIa f M (.int .i64 n)=f (.int .i64 n)
 | [],f,_=>rfl
 | p::r,f,h=>by
  have h1:p.1≠n:=λe=>h (by simp[yr,e])
  show fIa _ r _=_
  rw[zaX r _ λq=>h (by simp only[yr,List.map_cons,List.mem_cons] at q ⊢;exact .inr q)]
  unfold Q9
  dsimp only
  rw[if_neg λe=>h1 (by injection e with _ e;exact e.symm)]
theorem zcH {n:Int} {M:List Pr} (h:¬n∈yr M):fI M (.int .i64 n)=none:=zaX M _ h
theorem zqn:∀(M:List Pr) (f:Value→Option Value),(yr M).Nodup→∀j,j<M.length→fIa f M (.int .i64 (yF M j))=some (.int .i64 (M.getD j (0,0)).2)
 | [],_,_,j,hj=>by cases hj
 | p::r,f,hnd,j,hj=>by
  have h1:=List.nodup_cons.1 (show(p.1::yr r).Nodup from hnd)
  cases j with
  | zero =>
   show fIa _ r (.int .i64 p.1)=_
   rw[zaX r _ h1.1]
   unfold Q9
   dsimp only
   rw[if_pos rfl]
   rfl
  | succ j =>
   show fIa _ r (.int .i64 (yF r j))=_
   rw[zqn r _ h1.2 j (by simpa using hj)]
   rfl
theorem zqX {M:List Pr} (hnd:(yr M).Nodup) {j:Nat} (hj:j<M.length):fI M (.int .i64 (yF M j))=some (.int .i64 (M.getD j (0,0)).2):=zqn M _ hnd j hj
theorem zg5 {n:Int} {M:List Pr} (hnd:(yr M).Nodup) (h:n∈yr M):∃v,fI M (.int .i64 n)=some v:=by
 obtain⟨p,hp,rfl⟩:=List.mem_map.1 h
 obtain⟨i,hi,rfl⟩:=List.mem_iff_getElem.1 hp
 have:=zqX hnd hi
 rw[show yF M i=M[i].1 by unfold yF;rw[List.getD_eq_getElem?_getD,List.getElem?_eq_getElem hi];rfl] at this
 exact⟨_,this⟩
theorem zrq {P:Program} {k:TypeId} {q:IntKind} (hu:P.underlying k=some (.int q)):Maps.Keyed P k:=Maps.int_keyed hu
theorem zfK {P:Program} {k:TypeId} (hu:P.underlying k=some (.int .i64)) {n:Int} (hn:(Lit.int .i64 n).wf=true):∃l,keyOf P k (.int .i64 n)=some l:=by
 unfold keyOf
 rw[hu]
 simp only[mapKey,hu]
 rw[if_pos ⟨trivial,hn⟩]
 exact⟨_,rfl⟩
theorem zdP {n:Int} (h:0≤n∧n≤1000000000000):(Lit.int .i64 n).wf=true:=by
 have h1:IntKind.min .i64=-9223372036854775808:=zc
 have h2:IntKind.max .i64=9223372036854775807:=zc
 simp only[Lit.wf,Bool.and_eq_true,decide_eq_true_eq];omega
theorem qW {ρ:Nat→Nat} (l:List Int):vS ρ (zL l)=zL l:=yw _ (zC _ (λ_=>by simp[ze,Pure]) l)
noncomputable def X7 (g:List (List Int)) (only:Int):Nat→Bool:=λk=>decide (only<0)||zE g k==only
def zA8:PC:=.seq (OP [Bi 27 .lss 26 25]) (.seq (.cond 27 .skip (.exit 0)) (.seq (.block 1 (.seq (OP [Ia 28 1 24 26,Lo 29 28,qm 14 29]) (.seq (OP [qm 31 11,qm 32 14,q 33 (.look 3 (.int .i64 0) 31 32),qm 30 33,Xt 34 0 30,Xt 35 1 30,qm 15 34,qm 16 35]) (.seq (OP [qm 36 16,Nt 37 36]) (.cond 37 (.seq (OP [qm 38 11,qm 39 14,qn (.zlJ 3 38 39 (cI (-1)))]) (OP [qm 40 12,qm 41 14,Bs 42 1 1 [41],Ap 43 1 8 40 42,qm 12 43])) .skip))))) (OP [Bi 44 .add 26 (cI 1),qm 26 44])))
def zB2:PC:=.seq (.seq (OP [qm 56 17,Bi 57 .geq 56 (cI 0)]) (.cond 57 .skip (.exit 4))) (.seq (.block 5 (OP [qm 61 18,qm 62 17,Bs 63 1 1 [62],Ap 64 1 8 61 63,qm 18 64])) (OP [qm 58 11,qm 59 17,q 60 (.znd 3 58 59),qm 17 60]))
def zAK:PC:=.seq (OP [Bi 77 .lss 76 75]) (.seq (.cond 77 .skip (.exit 6)) (.seq (.block 7 (.seq (OP [Ia 78 1 74 76,Lo 79 78,qm 20 79]) (.seq (OP [qm 81 11,qm 82 20,q 83 (.look 3 (.int .i64 0) 81 82),qm 80 83,Xt 84 0 80,Xt 85 1 80,qm 21 84,qm 22 85]) (.seq (OP [qm 86 22,Nt 87 86,qm 88 87,GT 89 88 (.move 4),GT 90 88 (.bin .lss 89 (cI 0)),GT 91 88 (.move 90),GF 92 91 (.move 3),GF 93 91 (.move 20),GF 94 91 (.zM 1 92 93),GF 95 91 (.zg 94),GF 96 91 (.move 4),GF 97 91 (.bin .eql 95 96),GT 98 88 (.pick 91 cT 97),Pk 99 88 98 cF]) (.cond 99 (.seq (OP [qm 100 11,qm 101 20,qm 102 17,qn (.zlJ 3 100 101 102)]) (OP [qm 103 12,qm 104 20,Bs 105 1 1 [104],Ap 106 1 8 103 105,qm 12 106])) .skip))))) (OP [Bi 107 .add 76 (cI 1),qm 76 107])))
def zAx:PC:=.seq (.seq (OP [qm 45 12,Ln 46 45,Bi 47 .gtr 46 (cI 0)]) (.cond 47 .skip (.exit 2))) (.block 3 (.seq (OP [qm 48 12,Ia 49 1 48 (cI 0),Lo 50 49,qm 17 50]) (.seq (OP [qm 51 12,q 52 (.slc 1 51 (some (cI 1)) none none),qm 12 52]) (.seq (.seq (OP [qm 53 2,qm 54 17,q 55 (.vu 53 [54])]) (.cond 55 (.seq (OP [Mv 18 cN]) (.seq (.block 4 (.loop zB2)) (.seq (OP [qm 65 18,Ca 66 161 [65]]) (.seq (OP [qm 67 18,qm 10 67]) .ret)))) .skip)) (.seq (OP [qm 68 0,q 69 (.zn 68),Fa 70 11 69,Lo 71 70,qm 72 17,Ia 73 1 71 72,Lo 74 73,Ln 75 74,Mv 76 (cI 0)]) (.block 6 (.loop zAK)))))))
def c85:PC:=.seq (OP [Mv 10 cN]) (.seq (OP [q 23 (.zf2 3),qm 11 23]) (.seq (OP [Mv 12 cN]) (.seq (.seq (OP [qm 24 1,Ln 25 24,Mv 26 (cI 0)]) (.block 0 (.loop zA8))) (.seq (.block 2 (.loop zAx)) (.seq (OP [Mv 10 cN]) .ret)))))
theorem zqE:zy Tryz.prog 85 108 [.tmp 10] c85:=fK Tryz.func85
theorem zru (W:zA) (A:yh) (L:List Pr) (g:List (List Int)) (fr:List Int) (hn:g.length≤2000000) (hin0:∀l∈g,xH l g.length=true) (hF:uU g) (to:Nat→Bool) (cl:FuncId) (caps:List D) (hcp:ze caps)
  (hcl:∀x:Int,0≤x→x<(g.length:Int)→zq Tryz.prog cl (.sc (.int .i64 x)::caps) (.sc (.bool (to x.toNat)))) (from_:List Int) (hfl:from_.length≤17592186043904) (hf:xH from_ g.length=true) (only:Int) :
  zq Tryz.prog 85 [.y7 (qV W A L g fr),zB from_,.fn (.func cl) [] caps,zB (vD g),.sc (.int .i64 only)] (zB (XT g to (X7 g only) from_)):=by
 have hp:=Za W A L g fr
 have hkd:=zrq (P:=Tryz.prog) Tryz.underlying3
 have hkey:=λx (h:0≤x∧x<(g.length:Int))=>zfK (P:=Tryz.prog) Tryz.underlying3 (n:=x) (zdP ⟨h.1,zo⟩)
 refine za zqE zs (by simp[ze,Pure,zi,hp,hcp]) ?_ (zi _)
 have hWE:XT g to (X7 g only) from_=match QD g to (X7 g only) (g.length+1) 0 (wSt from_ []) with|some (M,h)=>(uT M (M.length+1) (yF M h)).reverse|none=>[]:=rfl
 obtain⟨sd,hsd⟩:∃sd:D,sd=.y7 (qV W A L g fr):=⟨_,rfl⟩
 have hsl:ze [sd]:=by subst hsd;exact⟨YC hp,trivial⟩
 rw[←hsd]
 refine sR ?_
 rw[List.length_map]
 refine zG (xr 12 1 zs rfl) ?_
 refine z8 [0,2,3,4,11,24,25] (λ((k,M):Nat × List Pr)=>[(12,.own 1 M.length 0 M.length),(26,.sc (.int .i64 k))]) (λ(k,M)=>[.wc true (uQ Tryz.prog 3 (fI M)),.vec true M.length 1 (zL (yr M))])
  (λ(k,M)=>k≤from_.length∧ZF g (X7 g only) from_ M∧wSt (from_.drop k) M=wSt from_ []) (λ(k,M)=>from_.length-k) (0,[]) ?_
 refine sW ?_
 refine⟨⟨zo,ZF.none _ _ _,rfl⟩,by exact sK,rfl,?_⟩
 rintro⟨k,M⟩ ⟨hk,hI,hS⟩
 have hMl:=hI.len
 have hKl:=Zt M
 refine sW ?_
 refine sR ?_
 refine sS (λq0=>?_) λq0=>?_
 ·have q0:k<from_.length:=sO
  have hx:=zT hf (yv q0)
  have hxm:=yv q0
  refine sL (yb (l:=from_) (k:=k) zo q0) ?_
  rw[Xu q0,wSt] at hS
  generalize from_.getD k 0=x at *
  refine⟨fI M,rfl,hkd,hkey x hx,λv hv=>?_,λhv=>?_⟩
  ·have hc:¬(yr M).contains x=false:=λe=>by
    have:=(zcH (xJ e)).symm.trans hv
    cases this
   rw[if_neg hc] at hS
   refine sW ?_
   refine sI ?_
   refine⟨(k+1,M),⟨zo,hI,hS⟩,zd,?_⟩
   exact zD (by exact sK) rfl
  ·have hc:(yr M).contains x=false:=by
    cases e:(yr M).contains x
    ·rfl
    ·obtain⟨v,h⟩:=zg5 hI.nd (List.contains_iff_mem.1 e)
     have:=hv.symm.trans h
     cases this
   rw[if_pos hc] at hS
   have hI2:=hI.push hx (xJ hc) (.inl rfl) (.inl hxm)
   refine sW ?_
   refine⟨fI M,rfl,hkd,hkey x hx,hv,?_⟩
   refine sW ?_
   refine sJ ?_
   refine sI ?_
   refine⟨(k+1,M++[(x,-1)]),⟨zo,hI2,hS⟩,zd,?_⟩
   dsimp only
   rw[U9,show(M++[(x,(-1:Int))]).length=M.length+1 by simp]
   (refine zj 2 zs rfl ?_ ?_<;>(repeat' (first|exact trivial|exact rfl|exact yc.refl _|exact zQ.refl _|exact zK.refl _|refine And.intro ?_ ?_|(simp[zt,zl,zF,-List.map_take,-List.map_drop];done))))
   all_goals first|exact zw _ hsl.1|exact zr _ hcp|exact zr _ hcp|exact zp (by rw[XY,←xY,Zt])|skip
 have q0:k=from_.length:=by have:¬k<from_.length:=sO
                            omega
 subst q0
 rw[List.drop_length] at hS
 have hS:M=wSt from_ []:=hS
 rw[←hS] at hWE
 generalize hRes:QD g to (X7 g only) (g.length+1) 0 M=R at hWE
 refine z8 [0,2,3,4,11] (λ((h,M,Z,lo,hi,zY):Nat × List Pr × List Int × Nat × Nat × Nat)=>[(12,.own 1 zY lo hi)]) (λ(h,M,Z,lo,hi,zY)=>[.wc true (uQ Tryz.prog 3 (fI M)),.vec true zY 1 (zL Z)])
  (λ(h,M,Z,lo,hi,zY)=>ZF g (X7 g only) from_ M∧h≤M.length∧lo≤hi∧hi≤Z.length∧(Z.take hi).drop lo=(yr M).drop h∧QD g to (X7 g only) (g.length+1-h) h M=R) (λ(h,M,Z,lo,hi,zY)=>g.length+1-h) (0,M,yr M,0,M.length,M.length) ?_
 refine sW ?_
 refine⟨⟨hI,zo,zo,zo,by rw[List.take_of_length_le zo],hRes⟩,by exact sK,rfl,?_⟩
 rintro⟨h,M,Z,lo,hi,zY⟩ ⟨hI,hh,hlo,hhi,hZ,hR⟩
 have hMl:=hI.len
 have hKl:=Zt M
 have hZl:hi-lo=M.length-h:=by
  have:=congrArg List.length hZ
  rw[List.length_drop,List.length_drop,List.length_take] at this
  omega
 rw[show g.length+1-h=(g.length-h)+1 by omega,QD] at hR
 refine sW ?_
 refine sR ?_
 refine sS (λq1=>?_) λq1=>?_
 ·have q1:lo<hi:=sO
  have hhM:h<M.length:=zo
  rw[if_pos hhM] at hR
  have hx:=hI.rng _ (xE hhM)
  have eN:(M.getD h (0,0)).1=yF M h:=rfl
  rw[eN] at hx
  have hd:(yr M).drop h=yF M h::(yr M).drop (h+1):=by
   rw[List.drop_eq_getElem_cons zo]
   unfold yF yr
   rw[List.getElem_map,List.getD_eq_getElem?_getD,List.getElem?_eq_getElem hhM]
   rfl
  rw[znl q1 hhi,hd] at hZ
  obtain⟨hz1,hz2⟩:=List.cons.inj hZ
  refine sB ?_
  refine⟨_,yb (l:=Z) (k:=lo) zo zo,?_⟩
  refine sW ?_
  rw[hz1]
  refine⟨zo,zo,zo,?_⟩
  refine sW ?_
  rw[show lo+(hi-lo)=hi by omega]
  have hcx:=hcl (yF M h) hx.1 hx.2
  have en1:yF M h=Y1 M (h+1):=by unfold Y1;rw[if_neg zo];rfl
  generalize hxe:yF M h=x at *
  refine sC hcx ?_
  cases hto:to x.toNat
  ·rw[hto,if_neg zc] at hR
   refine sW ?_
   subst hsd
   unfold qV ya
   refine sW ?_
   refine sL (xS (g:=g) (k:=x.toNat) zo zo) ?_
   rw[List.length_map]
   have hrow:=λy hy=>zT (y3 hin0 x.toNat) (x:=y) hy
   have hrl:=hF.at x.toNat
   generalize g.getD x.toNat []=row at *
   refine z8 [0,2,3,4,11,17,74,75] (λ((k,M',Z',lo',hi',ver'):Nat × List Pr × List Int × Nat × Nat × Nat)=>[(12,.own 1 ver' lo' hi'),(76,.sc (.int .i64 k))]) (λ(k,M',Z',lo',hi',ver')=>[.wc true (uQ Tryz.prog 3 (fI M')),.vec true ver' 1 (zL Z')])
    (λ(k,M',Z',lo',hi',ver')=>k≤row.length∧ZF g (X7 g only) from_ M'∧h<M'.length∧yF M' h=x∧lo'≤hi'∧hi'≤Z'.length∧(Z'.take hi').drop lo'=(yr M').drop (h+1)∧WV (X7 g only) x (row.drop k) M'=WV (X7 g only) x row M) (λ(k,M',Z',lo',hi',ver')=>row.length-k) (0,M,Z,lo+1,hi,zY) ?_
   refine sW ?_
   refine⟨⟨zo,hI,hhM,hxe,zo,hhi,hz2,rfl⟩,by exact sK,rfl,?_⟩
   rintro⟨k,M',Z',lo',hi',ver'⟩ ⟨hk,hI',hhM',hx',hlo',hhi',hZ',hA'⟩
   have hMl':=hI'.len
   have hKl':=Zt M'
   have hZl':hi'-lo'=M'.length-(h+1):=by
    have:=congrArg List.length hZ'
    rw[List.length_drop,List.length_drop,List.length_take] at this
    omega
   refine sW ?_
   refine sR ?_
   refine sS (λq2=>?_) λq2=>?_
   ·have q2:k<row.length:=sO
    have hy:=hrow _ (yv q2)
    refine sL (yb (l:=row) (k:=k) zo q2) ?_
    rw[Xu q2,WV] at hA'
    generalize row.getD k 0=y at *
    refine⟨fI M',rfl,hkd,hkey y hy,λv hv=>?_,λhv=>?_⟩
    ·have hc:¬(yr M').contains y=false:=λe=>by
      have:=(zcH (xJ e)).symm.trans hv
      cases this
     rw[if_neg λq=>hc q.1] at hA'
     refine sW ?_
     refine sI ?_
     refine⟨(k+1,M',Z',lo',hi',ver'),⟨zo,hI',hhM',hx',hlo',hhi',hZ',hA'⟩,zd,?_⟩
     exact zD (by exact sK) rfl
    ·have hc:(yr M').contains y=false:=by
      cases e:(yr M').contains y
      ·rfl
      ·obtain⟨v,h⟩:=zg5 hI'.nd (List.contains_iff_mem.1 e)
       have:=hv.symm.trans h
       cases this
     have eok:X7 g only y.toNat=(decide (only<0)||zE g y.toNat==only):=rfl
     refine sW ?_
     refine sS (λr=>?_) λr=>?_
     ·rw[r,Bool.true_or] at eok
      rw[if_pos ⟨hc,eok⟩] at hA'
      have hI2:=hI'.push hy (xJ hc) (.inr ⟨h,hhM',hx'.symm⟩) (.inr eok)
      refine⟨fI M',rfl,hkd,hkey y hy,hv,?_⟩
      refine sW ?_
      refine sJ ?_
      refine sI ?_
      refine⟨(k+1,M'++[(y,x)],(Z'.take hi').drop lo'++[y],0,hi'-lo'+1,ver'+1),⟨zo,hI2,by simp;omega,by rw[Yb hhM'];exact hx',zo,by simp;omega,?_,hA'⟩,zd,?_⟩
      ·rw[List.drop_zero,List.take_of_length_le (by simp;omega),hZ',XY,List.drop_append_of_le_length zo]
      ·dsimp only
       rw[U9]
       (refine zj 2 zs rfl ?_ ?_<;>(repeat' (first|exact trivial|exact rfl|exact yc.refl _|exact zQ.refl _|exact zK.refl _|refine And.intro ?_ ?_|(simp[zt,zl,zF,-List.map_take,-List.map_drop];done))))
       all_goals first|exact zp Zf|exact zr _ hp|exact zr _ hcp|(simp;done)|skip
     ·refine sL (yl y.toNat zo zo) ?_
      rw[r,Bool.false_or] at eok
      refine sS (λr2=>?_) λr2=>?_
      ·have r2:(zE g y.toNat==only)=true:=r2
       rw[r2] at eok
       rw[if_pos ⟨hc,eok⟩] at hA'
       have hI2:=hI'.push hy (xJ hc) (.inr ⟨h,hhM',hx'.symm⟩) (.inr eok)
       refine⟨fI M',rfl,hkd,hkey y hy,hv,?_⟩
       refine sW ?_
       refine sJ ?_
       refine sI ?_
       refine⟨(k+1,M'++[(y,x)],(Z'.take hi').drop lo'++[y],0,hi'-lo'+1,ver'+1),⟨zo,hI2,by simp;omega,by rw[Yb hhM'];exact hx',zo,by simp;omega,?_,hA'⟩,zd,?_⟩
       ·rw[List.drop_zero,List.take_of_length_le (by simp;omega),hZ',XY,List.drop_append_of_le_length zo]
       ·dsimp only
        rw[U9]
        (refine zj 2 zs rfl ?_ ?_<;>(repeat' (first|exact trivial|exact rfl|exact yc.refl _|exact zQ.refl _|exact zK.refl _|refine And.intro ?_ ?_|(simp[zt,zl,zF,-List.map_take,-List.map_drop];done))))
        all_goals first|exact zp Zf|exact zr _ hp|exact zr _ hcp|(simp;done)|skip
      ·have r2:(zE g y.toNat==only)=false:=r2
       rw[r2] at eok
       rw[if_neg λq=>by rw[eok] at q;cases q.2] at hA'
       refine sI ?_
       refine⟨(k+1,M',Z',lo',hi',ver'),⟨zo,hI',hhM',hx',hlo',hhi',hZ',hA'⟩,zd,?_⟩
       exact zD (by exact sK) rfl
   ·have q2:k=row.length:=by have:¬k<row.length:=sO
                             omega
    subst q2
    rw[List.drop_length] at hA'
    have hA':M'=WV (X7 g only) x row M:=hA'
    rw[←hA'] at hR
    refine⟨(h+1,M',Z',lo',hi',ver'),⟨hI',zo,hlo',hhi',hZ',by rw[show g.length+1-(h+1)=g.length-h by omega];exact hR⟩,zd,?_⟩
    exact zD (by exact sK) rfl
  ·rw[hto,if_pos rfl] at hR
   subst hR
   refine sW ?_
   generalize hB0:uT M (M.length+1) x=B
   refine zG (xr 18 1 zs rfl) ?_
   refine z8 [11] (λ((f,t,o):Nat × Nat × List Int)=>[(17,.sc (.int .i64 (Y1 M t))),(18,.own 2 o.length 0 o.length)]) (λ(f,t,o)=>[.wc true (uQ Tryz.prog 3 (fI M)),.vec true zY 1 (zL Z),.vec true o.length 1 (zL o)])
    (λ(f,t,o)=>t≤f∧t≤M.length∧o.length+t≤M.length+1∧o++uT M f (Y1 M t)=B) (λ(f,t,o)=>t) (M.length+1,h+1,[]) ?_
   refine sW ?_
   refine⟨⟨zo,zo,by simp;omega,by rw[←en1];exact hB0⟩,⟨by show D.sc (.int .i64 x)=_;rw[en1],by exact sK⟩,rfl,?_⟩
   rintro⟨f,t,o⟩ ⟨hf1,ht,ho,hB⟩
   refine sW ?_
   refine sR ?_
   refine sS (λq2=>?_) λq2=>?_
   ·have t0:0<t:=by
     rcases Nat.eq_zero_or_pos t with e|e
     ·subst e;simp[Y1] at q2
     ·exact e
    obtain⟨t',k1,k2,k3,k4,k5⟩:=hI.up t0 ht
    have eA:Y1 M t=yF M (t-1):=by unfold Y1;rw[if_neg zo]
    obtain⟨f',rfl⟩:∃f',f=f'+1:=⟨f-1,zo⟩
    rw[uT,if_neg zo,k2] at hB
    have hlook:fI M (.int .i64 (Y1 M t))=some (.int .i64 (Y1 M t')):=by rw[eA,zqX hI.nd zo,k3]
    refine sJ ?_
    refine⟨fI M,rfl,hkd,hkey _ ⟨k4,k5⟩,_,hlook,?_⟩
    refine sW ?_
    refine⟨(f',t',o++[Y1 M t]),⟨zo,zo,by simp;omega,by rw[List.append_assoc];exact hB⟩,zd,?_⟩
    dsimp only
    rw[show(o++[Y1 M t]).length=o.length+1 by simp]
    (refine zj 3 zs rfl ?_ ?_<;>(repeat' (first|exact trivial|exact rfl|exact yc.refl _|exact zQ.refl _|exact zK.refl _|refine And.intro ?_ ?_|(simp[zt,zl,zF,-List.map_take,-List.map_drop];done))))
    all_goals first|exact zp (xY o _)|skip
   ·have t0:t=0:=by
     rcases Nat.eq_zero_or_pos t with e|e
     ·exact e
     ·obtain⟨t',k1,k2,k3,k4,k5⟩:=hI.up e ht
      exfalso;simp at q2;omega
    subst t0
    have hB:o=B:=by
     rw[←hB]
     cases f<;>simp[uT,Y1]
    subst hB
    refine sA (vB (zce o zo o.length) [.wc true (uQ Tryz.prog 3 (fI M)),.vec true zY 1 (zL Z)] [] rfl (by simp[zl,zt]) (by simp[wD,zf.under]) (by simp only[yG,D.yI];rfl) rfl (by simp only[List.map_cons,List.map_nil,zf.yI,qW];rfl) (by simp only[List.map_cons,List.map_nil,zf.yI,qW];rfl)) ?_
    have hEE:XT g to (X7 g only) from_=o.reverse:=by
     rw[hWE]
     show(uT M (M.length+1) (yF M h)).reverse=_
     rw[hxe,hB0]
    rw[hEE]
    exact .own _ _ _ _ _ _ _ _ rfl (by rw[List.drop_zero,List.take_of_length_le (by simp[zL])];exact z6 _)
 ·have h0:hi=lo:=sO
  have hhM:¬h<M.length:=zo
  rw[if_neg hhM] at hR
  subst hR
  rw[hWE]
  exact sP
theorem zuA (W:zA) (A:yh) (L:List Pr) (g:List (List Int)) (fr:List Int) (hn:g.length≤2000000) (hin0:∀l∈g,xH l g.length=true) (hF:uU g) (to:Nat→Bool) (cl:FuncId)
  (hcl:∀x:Int,0≤x→x<(g.length:Int)→zq Tryz.prog cl [.sc (.int .i64 x),.y7 [uh g.length to]] (.sc (.bool (to x.toNat)))) (Z0:List Int) (v0:Nat) (hz0:0<Z0.length) (hz1:Z0.length≤1000000000000) (from_:List Int) (hfr:from_=[Z0.getD (Z0.length-1) 0]) (hf:xH from_ g.length=true) (only:Int) :
  yu Tryz.prog 85 [.y7 (qV W A L g fr),.own 0 v0 (Z0.length-1) Z0.length,.fn (.func cl) [] [.loc 1 0],zB (vD g),.sc (.int .i64 only)] [.vec true v0 1 (zL Z0),.row true [uh g.length to]] (zB (XT g to (X7 g only) from_)) [.vec true v0 1 (zL Z0),.row true [uh g.length to]]:=by
 have hp:=Za W A L g fr
 have hfl:from_.length≤17592186043904:=by rw[hfr];simp
 have hkd:=zrq (P:=Tryz.prog) Tryz.underlying3
 have hkey:=λx (h:0≤x∧x<(g.length:Int))=>zfK (P:=Tryz.prog) Tryz.underlying3 (n:=x) (zdP ⟨h.1,zo⟩)
 have hUO:∀o∈[zf.vec true v0 1 (zL Z0),zf.row true [uh g.length to]],o.under 2:=by
  intro o ho
  simp only[List.mem_cons,List.not_mem_nil,or_false] at ho
  rcases ho with rfl|rfl
  ·exact zh _ (zC _ (λ_=>by simp[ze,Pure]) _)
  ·exact zr _ ⟨zV _ _,trivial⟩
 refine wI zqE zs zs ?_ (zw _ (zi _))
 have hWE:XT g to (X7 g only) from_=match QD g to (X7 g only) (g.length+1) 0 (wSt from_ []) with|some (M,h)=>(uT M (M.length+1) (yF M h)).reverse|none=>[]:=rfl
 obtain⟨sd,hsd⟩:∃sd:D,sd=.y7 (qV W A L g fr):=⟨_,rfl⟩
 have hsl:ze [sd]:=by subst hsd;exact⟨YC hp,trivial⟩
 rw[←hsd]
 refine sR ?_
 rw[show Z0.length-(Z0.length-1)=from_.length by rw[hfr];simp;omega]
 refine zG (xr 12 1 zs rfl) ?_
 refine z8 [0,2,3,4,11,24,25] (λ((k,M):Nat × List Pr)=>[(12,.own 3 M.length 0 M.length),(26,.sc (.int .i64 k))]) (λ(k,M)=>[.vec true v0 1 (zL Z0),.row true [uh g.length to],.wc true (uQ Tryz.prog 3 (fI M)),.vec true M.length 1 (zL (yr M))])
  (λ(k,M)=>k≤from_.length∧ZF g (X7 g only) from_ M∧wSt (from_.drop k) M=wSt from_ []) (λ(k,M)=>from_.length-k) (0,[]) ?_
 refine sW ?_
 refine⟨⟨zo,ZF.none _ _ _,rfl⟩,by exact sK,rfl,?_⟩
 rintro⟨k,M⟩ ⟨hk,hI,hS⟩
 have hMl:=hI.len
 have hKl:=Zt M
 refine sW ?_
 refine sR ?_
 refine sS (λq0=>?_) λq0=>?_
 ·have q0:k<from_.length:=sO
  have hx:=zT hf (yv q0)
  have hxm:=yv q0
  have hk0:k=0:=by
   have h1:from_.length=1:=by rw[hfr];rfl
   omega
  refine sB ?_
  refine⟨_,yb (l:=Z0) (k:=Z0.length-1) zo zo,?_⟩
  refine sW ?_
  rw[show Z0.getD (Z0.length-1) 0=from_.getD k 0 by rw[hfr,hk0];rfl]
  rw[Xu q0,wSt] at hS
  generalize from_.getD k 0=x at *
  refine⟨fI M,rfl,hkd,hkey x hx,λv hv=>?_,λhv=>?_⟩
  ·have hc:¬(yr M).contains x=false:=λe=>by
    have:=(zcH (xJ e)).symm.trans hv
    cases this
   rw[if_neg hc] at hS
   refine sW ?_
   refine sI ?_
   refine⟨(k+1,M),⟨zo,hI,hS⟩,zd,?_⟩
   exact zD (by exact sK) rfl
  ·have hc:(yr M).contains x=false:=by
    cases e:(yr M).contains x
    ·rfl
    ·obtain⟨v,h⟩:=zg5 hI.nd (List.contains_iff_mem.1 e)
     have:=hv.symm.trans h
     cases this
   rw[if_pos hc] at hS
   have hI2:=hI.push hx (xJ hc) (.inl rfl) (.inl hxm)
   refine sW ?_
   refine⟨fI M,rfl,hkd,hkey x hx,hv,?_⟩
   refine sW ?_
   refine sJ ?_
   refine sI ?_
   refine⟨(k+1,M++[(x,-1)]),⟨zo,hI2,hS⟩,zd,?_⟩
   dsimp only
   rw[U9,show(M++[(x,(-1:Int))]).length=M.length+1 by simp]
   (refine zj 4 zs rfl ?_ ?_<;>(repeat' (first|exact trivial|exact rfl|exact yc.refl _|exact zQ.refl _|exact zK.refl _|refine And.intro ?_ ?_|(simp[zt,zl,zF,-List.map_take,-List.map_drop];done))))
   all_goals first|exact zw _ hsl.1|(simp;done)|(simp;done)|exact zp (by rw[XY,←xY,Zt])|skip
 have q0:k=from_.length:=by have:¬k<from_.length:=sO
                            omega
 subst q0
 rw[List.drop_length] at hS
 have hS:M=wSt from_ []:=hS
 rw[←hS] at hWE
 generalize hRes:QD g to (X7 g only) (g.length+1) 0 M=R at hWE
 refine z8 [0,2,3,4,11] (λ((h,M,Z,lo,hi,zY):Nat × List Pr × List Int × Nat × Nat × Nat)=>[(12,.own 3 zY lo hi)]) (λ(h,M,Z,lo,hi,zY)=>[.vec true v0 1 (zL Z0),.row true [uh g.length to],.wc true (uQ Tryz.prog 3 (fI M)),.vec true zY 1 (zL Z)])
  (λ(h,M,Z,lo,hi,zY)=>ZF g (X7 g only) from_ M∧h≤M.length∧lo≤hi∧hi≤Z.length∧(Z.take hi).drop lo=(yr M).drop h∧QD g to (X7 g only) (g.length+1-h) h M=R) (λ(h,M,Z,lo,hi,zY)=>g.length+1-h) (0,M,yr M,0,M.length,M.length) ?_
 refine sW ?_
 refine⟨⟨hI,zo,zo,zo,by rw[List.take_of_length_le zo],hRes⟩,by exact sK,rfl,?_⟩
 rintro⟨h,M,Z,lo,hi,zY⟩ ⟨hI,hh,hlo,hhi,hZ,hR⟩
 have hMl:=hI.len
 have hKl:=Zt M
 have hZl:hi-lo=M.length-h:=by
  have:=congrArg List.length hZ
  rw[List.length_drop,List.length_drop,List.length_take] at this
  omega
 rw[show g.length+1-h=(g.length-h)+1 by omega,QD] at hR
 refine sW ?_
 refine sR ?_
 refine sS (λq1=>?_) λq1=>?_
 ·have q1:lo<hi:=sO
  have hhM:h<M.length:=zo
  rw[if_pos hhM] at hR
  have hx:=hI.rng _ (xE hhM)
  have eN:(M.getD h (0,0)).1=yF M h:=rfl
  rw[eN] at hx
  have hd:(yr M).drop h=yF M h::(yr M).drop (h+1):=by
   rw[List.drop_eq_getElem_cons zo]
   unfold yF yr
   rw[List.getElem_map,List.getD_eq_getElem?_getD,List.getElem?_eq_getElem hhM]
   rfl
  rw[znl q1 hhi,hd] at hZ
  obtain⟨hz1,hz2⟩:=List.cons.inj hZ
  refine sB ?_
  refine⟨_,yb (l:=Z) (k:=lo) zo zo,?_⟩
  refine sW ?_
  rw[hz1]
  refine⟨zo,zo,zo,?_⟩
  refine sW ?_
  rw[show lo+(hi-lo)=hi by omega]
  have hcx:=hcl (yF M h) hx.1 hx.2
  have en1:yF M h=Y1 M (h+1):=by unfold Y1;rw[if_neg zo];rfl
  generalize hxe:yF M h=x at *
  refine sN hcx ?_
  cases hto:to x.toNat
  ·rw[hto,if_neg zc] at hR
   refine sW ?_
   subst hsd
   unfold qV ya
   refine sW ?_
   refine sL (xS (g:=g) (k:=x.toNat) zo zo) ?_
   rw[List.length_map]
   have hrow:=λy hy=>zT (y3 hin0 x.toNat) (x:=y) hy
   have hrl:=hF.at x.toNat
   generalize g.getD x.toNat []=row at *
   refine z8 [0,2,3,4,11,17,74,75] (λ((k,M',Z',lo',hi',ver'):Nat × List Pr × List Int × Nat × Nat × Nat)=>[(12,.own 3 ver' lo' hi'),(76,.sc (.int .i64 k))]) (λ(k,M',Z',lo',hi',ver')=>[.vec true v0 1 (zL Z0),.row true [uh g.length to],.wc true (uQ Tryz.prog 3 (fI M')),.vec true ver' 1 (zL Z')])
    (λ(k,M',Z',lo',hi',ver')=>k≤row.length∧ZF g (X7 g only) from_ M'∧h<M'.length∧yF M' h=x∧lo'≤hi'∧hi'≤Z'.length∧(Z'.take hi').drop lo'=(yr M').drop (h+1)∧WV (X7 g only) x (row.drop k) M'=WV (X7 g only) x row M) (λ(k,M',Z',lo',hi',ver')=>row.length-k) (0,M,Z,lo+1,hi,zY) ?_
   refine sW ?_
   refine⟨⟨zo,hI,hhM,hxe,zo,hhi,hz2,rfl⟩,by exact sK,rfl,?_⟩
   rintro⟨k,M',Z',lo',hi',ver'⟩ ⟨hk,hI',hhM',hx',hlo',hhi',hZ',hA'⟩
   have hMl':=hI'.len
   have hKl':=Zt M'
   have hZl':hi'-lo'=M'.length-(h+1):=by
    have:=congrArg List.length hZ'
    rw[List.length_drop,List.length_drop,List.length_take] at this
    omega
   refine sW ?_
   refine sR ?_
   refine sS (λq2=>?_) λq2=>?_
   ·have q2:k<row.length:=sO
    have hy:=hrow _ (yv q2)
    refine sL (yb (l:=row) (k:=k) zo q2) ?_
    rw[Xu q2,WV] at hA'
    generalize row.getD k 0=y at *
    refine⟨fI M',rfl,hkd,hkey y hy,λv hv=>?_,λhv=>?_⟩
    ·have hc:¬(yr M').contains y=false:=λe=>by
      have:=(zcH (xJ e)).symm.trans hv
      cases this
     rw[if_neg λq=>hc q.1] at hA'
     refine sW ?_
     refine sI ?_
     refine⟨(k+1,M',Z',lo',hi',ver'),⟨zo,hI',hhM',hx',hlo',hhi',hZ',hA'⟩,zd,?_⟩
     exact zD (by exact sK) rfl
    ·have hc:(yr M').contains y=false:=by
      cases e:(yr M').contains y
      ·rfl
      ·obtain⟨v,h⟩:=zg5 hI'.nd (List.contains_iff_mem.1 e)
       have:=hv.symm.trans h
       cases this
     have eok:X7 g only y.toNat=(decide (only<0)||zE g y.toNat==only):=rfl
     refine sW ?_
     refine sS (λr=>?_) λr=>?_
     ·rw[r,Bool.true_or] at eok
      rw[if_pos ⟨hc,eok⟩] at hA'
      have hI2:=hI'.push hy (xJ hc) (.inr ⟨h,hhM',hx'.symm⟩) (.inr eok)
      refine⟨fI M',rfl,hkd,hkey y hy,hv,?_⟩
      refine sW ?_
      refine sJ ?_
      refine sI ?_
      refine⟨(k+1,M'++[(y,x)],(Z'.take hi').drop lo'++[y],0,hi'-lo'+1,ver'+1),⟨zo,hI2,by simp;omega,by rw[Yb hhM'];exact hx',zo,by simp;omega,?_,hA'⟩,zd,?_⟩
      ·rw[List.drop_zero,List.take_of_length_le (by simp;omega),hZ',XY,List.drop_append_of_le_length zo]
      ·dsimp only
       rw[U9]
       (refine zj 4 zs rfl ?_ ?_<;>(repeat' (first|exact trivial|exact rfl|exact yc.refl _|exact zQ.refl _|exact zK.refl _|refine And.intro ?_ ?_|(simp[zt,zl,zF,-List.map_take,-List.map_drop];done))))
       all_goals first|exact zp Zf|exact zr _ hp|exact zr _ hcp|(simp;done)|skip
     ·refine sL (yl y.toNat zo zo) ?_
      rw[r,Bool.false_or] at eok
      refine sS (λr2=>?_) λr2=>?_
      ·have r2:(zE g y.toNat==only)=true:=r2
       rw[r2] at eok
       rw[if_pos ⟨hc,eok⟩] at hA'
       have hI2:=hI'.push hy (xJ hc) (.inr ⟨h,hhM',hx'.symm⟩) (.inr eok)
       refine⟨fI M',rfl,hkd,hkey y hy,hv,?_⟩
       refine sW ?_
       refine sJ ?_
       refine sI ?_
       refine⟨(k+1,M'++[(y,x)],(Z'.take hi').drop lo'++[y],0,hi'-lo'+1,ver'+1),⟨zo,hI2,by simp;omega,by rw[Yb hhM'];exact hx',zo,by simp;omega,?_,hA'⟩,zd,?_⟩
       ·rw[List.drop_zero,List.take_of_length_le (by simp;omega),hZ',XY,List.drop_append_of_le_length zo]
       ·dsimp only
        rw[U9]
        (refine zj 4 zs rfl ?_ ?_<;>(repeat' (first|exact trivial|exact rfl|exact yc.refl _|exact zQ.refl _|exact zK.refl _|refine And.intro ?_ ?_|(simp[zt,zl,zF,-List.map_take,-List.map_drop];done))))
        all_goals first|exact zp Zf|exact zr _ hp|exact zr _ hcp|(simp;done)|skip
      ·have r2:(zE g y.toNat==only)=false:=r2
       rw[r2] at eok
       rw[if_neg λq=>by rw[eok] at q;cases q.2] at hA'
       refine sI ?_
       refine⟨(k+1,M',Z',lo',hi',ver'),⟨zo,hI',hhM',hx',hlo',hhi',hZ',hA'⟩,zd,?_⟩
       exact zD (by exact sK) rfl
   ·have q2:k=row.length:=by have:¬k<row.length:=sO
                             omega
    subst q2
    rw[List.drop_length] at hA'
    have hA':M'=WV (X7 g only) x row M:=hA'
    rw[←hA'] at hR
    refine⟨(h+1,M',Z',lo',hi',ver'),⟨hI',zo,hlo',hhi',hZ',by rw[show g.length+1-(h+1)=g.length-h by omega];exact hR⟩,zd,?_⟩
    exact zD (by exact sK) rfl
  ·rw[hto,if_pos rfl] at hR
   subst hR
   refine sW ?_
   generalize hB0:uT M (M.length+1) x=B
   refine zG (xr 18 1 zs rfl) ?_
   refine z8 [11] (λ((f,t,o):Nat × Nat × List Int)=>[(17,.sc (.int .i64 (Y1 M t))),(18,.own 4 o.length 0 o.length)]) (λ(f,t,o)=>[.vec true v0 1 (zL Z0),.row true [uh g.length to],.wc true (uQ Tryz.prog 3 (fI M)),.vec true zY 1 (zL Z),.vec true o.length 1 (zL o)])
    (λ(f,t,o)=>t≤f∧t≤M.length∧o.length+t≤M.length+1∧o++uT M f (Y1 M t)=B) (λ(f,t,o)=>t) (M.length+1,h+1,[]) ?_
   refine sW ?_
   refine⟨⟨zo,zo,by simp;omega,by rw[←en1];exact hB0⟩,⟨by show D.sc (.int .i64 x)=_;rw[en1],by exact sK⟩,rfl,?_⟩
   rintro⟨f,t,o⟩ ⟨hf1,ht,ho,hB⟩
   refine sW ?_
   refine sR ?_
   refine sS (λq2=>?_) λq2=>?_
   ·have t0:0<t:=by
     rcases Nat.eq_zero_or_pos t with e|e
     ·subst e;simp[Y1] at q2
     ·exact e
    obtain⟨t',k1,k2,k3,k4,k5⟩:=hI.up t0 ht
    have eA:Y1 M t=yF M (t-1):=by unfold Y1;rw[if_neg zo]
    obtain⟨f',rfl⟩:∃f',f=f'+1:=⟨f-1,zo⟩
    rw[uT,if_neg zo,k2] at hB
    have hlook:fI M (.int .i64 (Y1 M t))=some (.int .i64 (Y1 M t')):=by rw[eA,zqX hI.nd zo,k3]
    refine sJ ?_
    refine⟨fI M,rfl,hkd,hkey _ ⟨k4,k5⟩,_,hlook,?_⟩
    refine sW ?_
    refine⟨(f',t',o++[Y1 M t]),⟨zo,zo,by simp;omega,by rw[List.append_assoc];exact hB⟩,zd,?_⟩
    dsimp only
    rw[show(o++[Y1 M t]).length=o.length+1 by simp]
    (refine zj 5 zs rfl ?_ ?_<;>(repeat' (first|exact trivial|exact rfl|exact yc.refl _|exact zQ.refl _|exact zK.refl _|refine And.intro ?_ ?_|(simp[zt,zl,zF,-List.map_take,-List.map_drop];done))))
    all_goals first|exact zp (xY o _)|skip
   ·have t0:t=0:=by
     rcases Nat.eq_zero_or_pos t with e|e
     ·exact e
     ·obtain⟨t',k1,k2,k3,k4,k5⟩:=hI.up e ht
      exfalso;simp at q2;omega
    subst t0
    have hB:o=B:=by
     rw[←hB]
     cases f<;>simp[uT,Y1]
    subst hB
    refine sA (vB (zce o zo o.length) [.vec true v0 1 (zL Z0),.row true [uh g.length to],.wc true (uQ Tryz.prog 3 (fI M)),.vec true zY 1 (zL Z)] [] rfl (by simp[zl,zt]) (by simp[wD,zf.under]) (by simp only[yG,D.yI];rfl) rfl (by simp only[List.map_cons,List.map_nil,zf.yI,qW];rfl) (by simp only[List.map_cons,List.map_nil,zf.yI,qW];rfl)) ?_
    have hEE:XT g to (X7 g only) from_=o.reverse:=by
     rw[hWE]
     show(uT M (M.length+1) (yF M h)).reverse=_
     rw[hxe,hB0]
    rw[hEE]
    exact⟨.own _ _ _ _ _ _ _ _ rfl rfl (zp (by rw[List.drop_zero,List.take_of_length_le (by simp[zL])];rfl)),y5 _ [_,_,_] hUO⟩
 ·have h0:hi=lo:=sO
  have hhM:¬h<M.length:=zo
  rw[if_neg hhM] at hR
  subst hR
  rw[hWE]
  exact⟨.none _,y5 _ [_,_] hUO⟩
end
section
open Go.RowKit
def yQ (l:List Int):Int:=l.getD (l.length-1) 0
theorem zaZ (l:List Int) (x:Int):yQ (l++[x])=x:=by
 unfold yQ
 rw[List.length_append,List.length_singleton,Nat.add_sub_cancel,List.getD_eq_getElem?_getD,List.getElem?_append_right (Nat.le_refl _),Nat.sub_self]
 rfl
theorem zbo {l:List Int} (h:l≠[]):yQ l∈l:=by
 have:=List.length_pos_iff.2 h
 unfold yQ
 rw[List.getD_eq_getElem?_getD,List.getElem?_eq_getElem zo]
 simp
noncomputable def vO (g:List (List Int)) (F:List (Nat→Bool)) (e:Nat):Nat→List Int
 | 0=>[(e:Int)]
 | k+1=>if (vO g F e k).any (λx=>(F.getD k noT) x.toNat)=true then vO g F e k else vO g F e k++(XT g (F.getD k noT) (X7 g (zE g e)) [yQ (vO g F e k)]).drop 1
def toE (e:Nat):Nat→Bool:=λk=>((k:Nat):Int)==(e:Int)
noncomputable def V6 (g:List (List Int)) (o:List Int) (e:Nat) (k:Nat):List Int:=((g.getD (yQ o).toNat []).take k).filter λx=>zE g x.toNat==zE g e
noncomputable def Uk (g:List (List Int)) (o:List Int) (e:Nat):List Int:=XT g (toE e) (X7 g (zE g e)) (V6 g o e (g.getD (yQ o).toNat []).length)
noncomputable def V9 (g:List (List Int)) (F:List (Nat→Bool)) (e:Nat):List Int :=
 vO g F e F.length++(Uk g (vO g F e F.length) e).take ((Uk g (vO g F e F.length) e).length-1)
structure RH (g:List (List Int)) (F:List (Nat→Bool)) (e:Nat):Prop where
 he:e<g.length
 xL:∀l∈g,xH l g.length=true
 nt:Wo g e
 has:∀S∈F,∃d,d<g.length∧S d=true∧zE g d=zE g e
theorem zmF {g:List (List Int)} {e v:Nat} (he:e<g.length):X7 g (zE g e) v=true↔zE g v=zE g e:=by
 have:=(qx he).1
 unfold X7
 rw[decide_eq_false (show ¬zE g e<0 by omega),Bool.false_or,beq_iff_eq]
theorem zdI {g:List (List Int)} (xL:∀l∈g,xH l g.length=true) (v:Nat) (x:Int) (hx:x∈g.getD v []):0≤x∧x.toNat<g.length:=by
 have:=zT (y3 xL v) hx;omega
theorem zxQ {g:List (List Int)} (xL:∀l∈g,xH l g.length=true) {u v:Nat} (hu:u<g.length) (h:To g u v):v<g.length:=zmS (λv x hx=>(zdI xL v x hx).2) hu h
theorem zm4 {g:List (List Int)} (xL:∀l∈g,xH l g.length=true) {e a b:Nat} (he:e<g.length) (ha:a<g.length) (hb:b<g.length) (h1:zE g a=zE g e) (h2:zE g b=zE g e):To (ziK g (X7 g (zE g e))) a b:=by
 obtain⟨m1,m2⟩:=xo.1 ((parts_eq ha hb).1 (h1.trans h2.symm))
 have key:∀v,To g a v→To g v a→To (ziK g (X7 g (zE g e))) a v:=by
  intro v hv
  induction hv with
  | base m=>intro _;exact .base m
  | step k hx ih =>
   rename_i u x
   intro hba
   have hu:=ih (uc (VS hx) hba)
   refine .step hu (ze8.2 ⟨hx,(zmF he).2 ?_⟩)
   have hul:=zxQ xL ha k
   have hxl:=(zdI xL u x hx).2
   rw[(parts_eq hxl ha).2 (xo.2 ⟨hba,.step k hx⟩),h1]
 exact key b m1 m2
structure zch (g:List (List Int)) (e:Nat) (o:List Int):Prop where
 ne:o≠[]
 rng:xH o g.length=true
 last:zE g (yQ o).toNat=zE g e
theorem zch.lt {g:List (List Int)} {e:Nat} {o:List Int} (h:zch g e o):0≤yQ o∧yQ o<(g.length:Int):=zT h.rng (zbo h.ne)
theorem zc5 {l m:List Int} {n:Nat} (h:xH l n=true) (k:xH m n=true):xH (l++m) n=true:=wj λx hx=>(List.mem_append.1 hx).elim (zT h) (zT k)
theorem zch.way {g:List (List Int)} {F:List (Nat→Bool)} {e:Nat} {o:List Int} (H:RH g F e) (h:zch g e o) {S:Nat→Bool} (hS:S∈F) :
  zch g e (o++(XT g S (X7 g (zE g e)) [yQ o]).drop 1)∧(XT g S (X7 g (zE g e)) [yQ o])≠[]∧(XT g S (X7 g (zE g e)) [yQ o]).length≤g.length:=by
 have hl:=h.lt
 obtain⟨w1,w2,w3⟩:=zhs H.xL S (X7 g (zE g e)) (from_:=[yQ o]) (wj λx hx=>by rw[List.mem_singleton] at hx;subst hx;exact hl)
 obtain⟨d,d1,d2,d3⟩:=H.has S hS
 obtain⟨init,last,e1,e2,e3⟩:=w3 ⟨yQ o,zs,d,zm4 H.xL H.he zo d1 h.last d3,d2⟩
 refine⟨⟨by simp[h.ne],zc5 h.rng (wj λx hx=>zT w1 (List.mem_of_mem_drop hx)),?_⟩,by rw[e1];simp,w2⟩
 cases init with
 | nil=>rw[e1];simp[h.last]
 | cons a r =>
  rw[e1,List.cons_append,List.drop_succ_cons,List.drop_zero,←List.append_assoc,zaZ]
  rcases e3 with q|q
  ·rw[List.mem_singleton] at q;rw[q];exact h.last
  ·exact(zmF H.he).1 q
theorem zdA {g:List (List Int)} {F:List (Nat→Bool)} {e:Nat} (H:RH g F e):∀k,k≤F.length→zch g e (vO g F e k)∧(vO g F e k).length≤1+k*g.length
 | 0,_=>by
  have:=H.he
  exact⟨⟨by simp[vO],wj λx hx=>by simp[vO] at hx;omega,by simp[vO,yQ]⟩,by simp[vO]⟩
 | k+1,hk=>by
  obtain⟨h1,h2⟩:=zdA H k zo
  rw[vO]
  have:(k+1)*g.length=k*g.length+g.length:=by rw[Nat.add_mul,Nat.one_mul]
  split
  ·exact⟨h1,zo⟩
  ·have hS:F.getD k noT∈F:=by rw[List.getD_eq_getElem?_getD,List.getElem?_eq_getElem (show k<F.length by omega)];simp
   obtain⟨a,b,c⟩:=h1.way H hS
   refine⟨a,?_⟩
   rw[List.length_append,List.length_drop]
   omega
theorem zch.home {g:List (List Int)} {F:List (Nat→Bool)} {e:Nat} {o:List Int} (H:RH g F e) (h:zch g e o):xH (V6 g o e (g.getD (yQ o).toNat []).length) g.length=true∧Uk g o e≠[]∧xH (Uk g o e) g.length=true∧(Uk g o e).length≤g.length:=by
 have hl:=h.lt
 have hT:xH (V6 g o e (g.getD (yQ o).toNat []).length) g.length=true:=wj λx hx=>zT (y3 H.xL _) (List.mem_of_mem_take (List.mem_filter.1 hx).1)
 obtain⟨w1,w2,w3⟩:=zhs H.xL (toE e) (X7 g (zE g e)) hT
 have hlt:(yQ o).toNat<g.length:=zo
 obtain⟨m1,m2⟩:=xo.1 ((parts_eq hlt H.he).1 h.last)
 obtain⟨x,x1,x2⟩:=UI H.nt m2 m1
 have hx:=zdI H.xL _ x x1
 have hpx:zE g x.toNat=zE g e:=by rw[(parts_eq hx.2 hlt).2 (xo.2 ⟨x2,VS x1⟩),h.last]
 obtain⟨init,last,e1,_,_⟩:=w3 ⟨x,List.mem_filter.2 ⟨by rw[List.take_length];exact x1,by rw[hpx];simp⟩,e,zm4 H.xL H.he hx.2 H.he hpx rfl,by simp[toE]⟩
 exact⟨hT,by unfold Uk;rw[e1];simp,w1,w2⟩
theorem zmu {g:List (List Int)} {F:List (Nat→Bool)} {e:Nat} (H:RH g F e):xH (V9 g F e) g.length=true∧(V9 g F e).length≤1+F.length*g.length+g.length:=by
 obtain⟨h1,h2⟩:=zdA H F.length (Nat.le_refl _)
 obtain⟨_,_,h4,h5⟩:=h1.home H
 refine⟨zc5 h1.rng (wj λx hx=>zT h4 (List.mem_of_mem_take hx)),?_⟩
 unfold V9
 rw[List.length_append,List.length_take]
 omega
end
section
open Go.RowKit
theorem zfI (o l:List Int) (a b:Nat):List.drop 0 (List.take o.length (zL o))++List.drop a (List.take b (zL l))=zL (o++(l.take b).drop a):=by
 rw[zu (by simp[zL])]
 simp[zL,List.map_drop,List.map_take]
theorem zeU (l:List Int):yE (zL l):=zC _ (λ_=>by simp[ze,Pure]) l
def c162:PC:=.seq (OP [Mv 3 cF]) (.seq (OP [Lo 4 1,qm 5 0,Ia 6 1 4 5,Lo 7 6,qm 3 7]) .ret)
theorem zwd:zy Tryz.prog 162 8 [.tmp 3] c162:=fK Tryz.func162
theorem zrL (n:Nat) (S:Nat→Bool) (x:Int) (h0:0≤x) (hx:x<(n:Int)):zq Tryz.prog 162 [.sc (.int .i64 x),.y7 [uh n S]] (.sc (.bool (S x.toNat))):=by
 refine za zwd zs (by simp[ze,Pure,zV]) ?_ (by simp[Pure])
 unfold uh
 refine sR ?_
 refine sL (yd x.toNat zo zo) ?_
 exact .refl _
def c163:PC:=.seq (OP [Mv 3 cF]) (.seq (OP [Lo 4 1,qm 5 0,Ia 6 1 4 5,Lo 7 6,qm 3 7]) .ret)
theorem zuD:zy Tryz.prog 163 8 [.tmp 3] c163:=fK Tryz.func163
theorem zqy (n:Nat) (S:Nat→Bool) (x:Int) (h0:0≤x) (hx:x<(n:Int)):zq Tryz.prog 163 [.sc (.int .i64 x),.y7 [uh n S]] (.sc (.bool (S x.toNat))):=by
 refine za zuD zs (by simp[ze,Pure,zV]) ?_ (by simp[Pure])
 unfold uh
 refine sR ?_
 refine sL (yd x.toNat zo zo) ?_
 exact .refl _
def c164:PC:=.seq (OP [Mv 3 cF]) (.seq (OP [qm 4 0,Lo 5 1,Bi 6 .eql 4 5,qm 3 6]) .ret)
theorem ztq:zy Tryz.prog 164 7 [.tmp 3] c164:=fK Tryz.func164
theorem zuX (e:Nat) (x:Int) (h0:0≤x):zq Tryz.prog 164 [.sc (.int .i64 x),.y7 [.sc (.int .i64 e)]] (.sc (.bool (toE e x.toNat))):=by
 refine za ztq zs (by simp[ze,Pure]) ?_ (by simp[Pure])
 refine sR ?_
 exact yA (by unfold toE;rw[Int.toNat_of_nonneg h0])
def c86:PC:=.seq (OP [Mv 4 cF]) (.seq (.ops [Lo 5 1,qm 6 0,qd 7 (.zM 1 5 6) 3,qd 8 (.zg 7) 7,Lo 9 2,qd 10 (.bin .eql 8 9) 31,qw 4 10 63] true) .ret)
theorem zzs:zy Tryz.prog 86 11 [.tmp 4] c86:=fK Tryz.func86
theorem zpp (g:List (List Int)) (p:Int) (x:Int) (h0:0≤x) (hx:x<(g.length:Int)):zq Tryz.prog 86 [.sc (.int .i64 x),.y7 [zB (vD g)],.y7 [.sc (.int .i64 p)]] (.sc (.bool (zE g x.toNat==p))):=by
 refine za zzs zs (by simp[ze,Pure,zi]) ?_ (by simp[Pure])
 unfold vD zB
 refine sR ?_
 refine sL (yl x.toNat zo zo) ?_
 exact .refl _
theorem zlY {g:List (List Int)} {o:List Int} {e k:Nat} (h:k<(g.getD (yQ o).toNat []).length):V6 g o e (k+1)=if (zE g ((g.getD (yQ o).toNat []).getD k 0).toNat==zE g e)=true then V6 g o e k++[(g.getD (yQ o).toNat []).getD k 0] else V6 g o e k:=by
 unfold V6
 rw[List.take_add_one,List.getElem?_eq_getElem h,List.filter_append,List.getD_eq_getElem?_getD (l:=g.getD (yQ o).toNat []),List.getElem?_eq_getElem h]
 simp only[Option.toList_some,Option.getD_some,List.filter_cons,List.filter_nil]
 split<;>simp
theorem znJ (g:List (List Int)) (o:List Int) (e k:Nat):(V6 g o e k).length≤k:=Nat.le_trans (List.length_filter_le _ _) (by simp;omega)
def zBo:PC:=.seq (OP [Bi 27 .lss 26 25]) (.seq (.cond 27 .skip (.exit 0)) (.seq (.block 1 (.seq (OP [Ia 28 1 24 26,Lo 29 28,q 12 (.alloc [(.slice none 0 0)]),So 1 12 29]) (.seq (.seq (OP [qm 30 10,q 31 (.qj (.func 162) [] [12]),Ca 32 49 [30,31]]) (.cond 32 (.exit 1) .skip)) (.seq (OP [qm 33 0,qm 34 10,qm 35 10,Ln 36 35,Bi 37 .sub 36 (cI 1),q 38 (.slc 1 34 (some 37) none none),q 39 (.qj (.func 163) [] [12]),qm 40 2,qm 41 9,Ca 42 85 [33,38,39,40,41],qm 13 42]) (OP [qm 43 10,qm 44 13,q 45 (.slc 1 44 (some (cI 1)) none none),Ap 46 1 8 43 45,qm 10 46]))))) (OP [Bi 47 .add 26 (cI 1),qm 26 47])))
def zAV:PC:=.seq (OP [Bi 62 .lss 61 60]) (.seq (.cond 62 .skip (.exit 2)) (.seq (.block 3 (.seq (OP [Ia 63 1 59 61,Lo 64 63,qm 16 64]) (.seq (OP [qm 65 2,qm 66 16,Ia 67 1 65 66,Lo 68 67,qm 69 9,Bi 70 .eql 68 69]) (.cond 70 (OP [qm 71 14,qm 72 16,Bs 73 1 1 [72],Ap 74 1 8 71 73,qm 14 74]) .skip)))) (OP [Bi 75 .add 61 (cI 1),qm 61 75])))
def c87:PC:=.seq (OP [Bx 5 1,Mv 8 cN]) (.seq (OP [qm 18 2,Lo 19 5,Ia 20 1 18 19,Lo 21 20,qm 9 21]) (.seq (OP [Lo 22 5,Bs 23 1 1 [22],qm 10 23]) (.seq (.seq (OP [qm 24 3,Ln 25 24,Mv 26 (cI 0)]) (.block 0 (.loop zBo))) (.seq (OP [Mv 14 cN]) (.seq (.seq (.ops [qm 48 0,qd 49 (.zn 48) 1,qd 50 (.zz 11 49) 3,qd 51 (.zg 50) 7,qm 52 10,qm 53 10,qd 54 (.len 53) 32,qd 55 (.bin .sub 54 (cI 1)) 96,qd 56 (.zM 1 52 55) 240,qd 57 (.zg 56) 496,qd 58 (.zM 1 51 57) 1023,qd 59 (.zg 58) 2047,qd 60 (.len 59) 4095,Mv 61 (cI 0)] true) (.block 2 (.loop zAV))) (.seq (OP [qm 76 0,qm 77 14,q 78 (.qj (.func 164) [] [5]),qm 79 2,qm 80 9,Ca 81 85 [76,77,78,79,80],qm 17 81]) (.seq (OP [qm 82 10,qm 83 17,qm 84 17,Ln 85 84,Bi 86 .sub 85 (cI 1),q 87 (.slc 1 83 none (some 86) none),Ap 88 1 8 82 87,qm 8 88]) .ret)))))))
theorem zzf:zy Tryz.prog 87 89 [.tmp 8] c87:=fK Tryz.func87
theorem zrT (W:zA) (A:yh) (L:List Pr) (g:List (List Int)) (fr:List Int) (hn:g.length≤2000000) (hF:uU g) (F:List (Nat→Bool)) (hFl:F.length≤1000) (e:Nat) (H:RH g F e) :
  zq Tryz.prog 87 [.y7 (qV W A L g fr),.sc (.int .i64 e),zB (vD g),zmc g.length F] (zB (V9 g F e)):=by
 have hp:=Za W A L g fr
 have he:=H.he
 have hpe:=qx he
 refine za zzf zs (by simp[ze,Pure,zi,hp,zaO]) ?_ (zi _)
 obtain⟨sd,hsd⟩:∃sd:D,sd=.y7 (qV W A L g fr):=⟨_,rfl⟩
 have hsl:ze [sd]:=by subst hsd;exact⟨YC hp,trivial⟩
 have hsr:∀ρ,D.yI ρ sd=sd:=λρ=>yH _ hsl.1
 rw[←hsd]
 unfold zmc
 refine sR ?_
 refine sL (yl e zo he) ?_
 rw[List.length_map]
 refine z8 [0,2,5,9,24,25] (λ((k,zY):Nat × Nat)=>[(10,.own 1 zY 0 (vO g F e k).length),(26,.sc (.int .i64 k))]) (λ(k,zY)=>[.row true [.sc (.int .i64 e)],.vec true zY 1 (zL (vO g F e k))]) (λ(k,zY)=>k≤F.length) (λ(k,zY)=>F.length-k) (0,0) ?_
 refine sW ?_
 refine⟨zo,by exact sK,rfl,?_⟩
 rintro⟨k,zY⟩ hk
 obtain⟨hO,hOl⟩:=zdA H k hk
 have hOl2:(vO g F e k).length≤4000000000:=by
  have:=Nat.mul_le_mul (show k≤1000 by omega) hn
  omega
 have hOn:=List.length_pos_iff.2 hO.ne
 have eR:vO g F e (k+1)=if (vO g F e k).any (λx=>(F.getD k noT) x.toNat)=true then vO g F e k else vO g F e k++(XT g (F.getD k noT) (X7 g (zE g e)) [yQ (vO g F e k)]).drop 1:=rfl
 refine sW ?_
 refine sR ?_
 refine sS (λq0=>?_) λq0=>?_
 ·have q0:k<F.length:=sO
  have hS:F.getD k noT∈F:=by rw[List.getD_eq_getElem?_getD,List.getElem?_eq_getElem q0];simp
  refine⟨zo,_,zmL (n:=g.length) (F:=F) (k:=k) zo q0,?_⟩
  obtain⟨_,hw2,hw3⟩:=hO.way H hS
  generalize F.getD k noT=S at *
  refine sW ?_
  generalize hoe:vO g F e k=o at *
  have hC:=y4 (λn=>.sc (.int .i64 n)) (λa=>by simp[Pure]) o zo (λx=>S x.toNat) 162 [.y7 [uh g.length S]] (by simp[ze,Pure,zV]) λa ha=>zrL g.length S a (zT hO.rng ha).1 (zT hO.rng ha).2
  rw[show(o.map λn=>[D.sc (.int .i64 n)])=List.drop 0 (List.take o.length (zL o)) from(zu (by simp[zL])).symm] at hC
  refine sN hC ?_
  cases r:o.any (λx=>S x.toNat)
  ·rw[r,if_neg zc] at eR
   refine sW ?_
   refine sI ?_
   refine⟨zo,zo,zo,?_⟩
   refine sW ?_
   have hWy:=zuA W A L g fr hn H.xL hF S 163 (λx h1 h2=>zqy g.length S x h1 h2) o zY hOn zo [yQ o] rfl (wj λx hx=>by rw[List.mem_singleton] at hx;subst hx;exact hO.lt) (zE g e)
   rw[←hsd] at hWy
   generalize XT g S (X7 g (zE g e)) [yQ o]=l at *
   have hln:=List.length_pos_iff.2 hw2
   rw[show 0+(((o.length-0:Nat):Int)-1).toNat=o.length-1 by omega,show 0+(o.length-0)=o.length by omega]
   refine sA (vB hWy [.row true [.sc (.int .i64 e)]] [] rfl (by simp[zl,zt,zw _ hsl.1]) ⟨zh _ (zeU _),zr _ ⟨zV _ _,trivial⟩,trivial⟩ (by simp only[yG,D.yI,hsr,vG];rfl) (vG _) (by simp only[List.map_cons,List.map_nil,zf.yI,qW,yG,yH _ (zV _ _)];rfl) (by simp only[List.map_cons,List.map_nil,zf.yI,qW,yG,yH _ (zV _ _)];rfl)) ?_
   rw[List.length_map]
   refine⟨zo,zo,zo,?_⟩
   refine sW ?_
   refine sJ ?_
   refine sI ?_
   refine⟨(k+1,zY+1),zo,zd,?_⟩
   dsimp only
   rw[eR]
   have hle:(o++l.drop 1).length=o.length+(l.length-1):=by rw[List.length_append,List.length_drop]
   rw[hle,show(List.drop (Int.toNat 1) (List.take l.length (List.map (λn=>[D.sc (Value.int .i64 n)]) l))).length=l.length-1 by simp]
   (refine zj 2 zs rfl ?_ ?_<;>(repeat' (first|exact trivial|exact rfl|exact yc.refl _|exact zQ.refl _|exact zK.refl _|refine And.intro ?_ ?_|(simp[zt,zl,zF,-List.map_take,-List.map_drop];done))))
   all_goals first|exact zw _ hsl.1|exact zh _ (zC _ (λS=>by simp[ze,zV]) F)|exact zp (by have:=zfI o l 1 l.length;rw[List.take_length] at this;exact this)|skip
  ·rw[r,if_pos rfl] at eR
   refine sW ?_
   refine sI ?_
   refine⟨(k+1,zY),zo,zd,?_⟩
   dsimp only
   rw[eR]
   (refine zj 2 zs rfl ?_ ?_<;>(repeat' (first|exact trivial|exact rfl|exact yc.refl _|exact zQ.refl _|exact zK.refl _|refine And.intro ?_ ?_|(simp[zt,zl,zF,-List.map_take,-List.map_drop];done))))
   all_goals first|exact zw _ hsl.1|exact zh _ (zC _ (λS=>by simp[ze,zV]) F)|skip
 ·have q0:k=F.length:=by have:¬k<F.length:=sO
                         omega
  subst q0
  have eE:V9 g F e=vO g F e F.length++(Uk g (vO g F e F.length) e).take ((Uk g (vO g F e F.length) e).length-1):=rfl
  subst hsd
  unfold qV ya
  refine sW ?_
  obtain⟨ht1,hh1,hh2,hh3⟩:=hO.home H
  have hlt:=hO.lt
  refine sI ?_
  refine sB ?_
  generalize hoe:vO g F e F.length=o at *
  refine⟨_,yb (l:=o) (k:=o.length-1) zo zo,?_⟩
  refine sW ?_
  rw[show o.getD (o.length-1) 0=yQ o from rfl]
  refine sL (xS (g:=g) (k:=(yQ o).toNat) zo zo) ?_
  rw[List.length_map]
  have hrl:=hF.at (yQ o).toNat
  have eT:=λk hk=>zlY (g:=g) (o:=o) (e:=e) (k:=k) hk
  have hTl:=λk=>znJ g o e k
  have hrow:=λy hy=>zT (y3 H.xL (yQ o).toNat) (x:=y) hy
  have hhE:Uk g o e=XT g (toE e) (X7 g (zE g e)) (V6 g o e (g.getD (yQ o).toNat []).length):=rfl
  have hT0:V6 g o e 0=[]:=by simp[V6]
  generalize g.getD (yQ o).toNat []=row at *
  generalize V6 g o e=T at *
  refine zG (xr 14 1 zs rfl) ?_
  refine z8 [0,2,5,9,10,59,60] (λ((k,c):Nat × Nat)=>[(14,.own 2 c 0 c),(61,.sc (.int .i64 k))]) (λ(k,c)=>[.row true [.sc (.int .i64 e)],.vec true zY 1 (zL o),.vec true c 1 (zL (T k))]) (λ(k,c)=>k≤row.length∧(T k).length=c) (λ(k,c)=>row.length-k) (0,0) ?_
  refine sW ?_
  refine⟨⟨zo,by rw[hT0];rfl⟩,by exact sK,by dsimp only;rw[hT0,←hoe];rfl,?_⟩
  rintro⟨k,c⟩ ⟨hk,hc⟩
  have hTk:=hTl k
  refine sW ?_
  refine sR ?_
  refine sS (λq1=>?_) λq1=>?_
  ·have q1:k<row.length:=sO
   have hy:=hrow _ (yv q1)
   have eS:=eT k q1
   refine sL (yb (l:=row) (k:=k) zo q1) ?_
   generalize row.getD k 0=y at *
   refine sL (yl y.toNat zo zo) ?_
   refine sS (λr2=>?_) λr2=>?_
   ·have r2:(zE g y.toNat==zE g e)=true:=r2
    rw[r2,if_pos rfl] at eS
    refine sJ ?_
    refine sI ?_
    refine⟨(k+1,c+1),⟨zo,by rw[eS,List.length_append,hc];rfl⟩,zd,?_⟩
    dsimp only
    rw[eS]
    (refine zj 3 zs rfl ?_ ?_<;>(repeat' (first|exact trivial|exact rfl|exact yc.refl _|exact zQ.refl _|exact zK.refl _|refine And.intro ?_ ?_|(simp[zt,zl,zF,-List.map_take,-List.map_drop];done))))
    all_goals first|exact zr _ hp|exact zp (by rw[←hc,xY])|skip
   ·have r2:(zE g y.toNat==zE g e)=false:=r2
    rw[r2,if_neg zc] at eS
    refine sI ?_
    refine⟨(k+1,c),⟨zo,by rw[eS];exact hc⟩,zd,zD (by exact sK) ?_⟩
    dsimp only
    rw[eS]
  ·have q1:k=row.length:=by have:¬k<row.length:=sO
                            omega
   subst q1
   have hWy:=zru W A L g fr hn H.xL hF (toE e) 164 [.y7 [.sc (.int .i64 e)]] (by simp[ze,Pure]) (λx h1 _=>zuX e x h1) (T row.length) zo ht1 (zE g e)
   rw[←hhE] at hWy
   generalize Uk g o e=l at *
   have hln:=List.length_pos_iff.2 hh1
   refine sE (Ws (args0:=[.y7 (qV W A L g fr),.own 1 c 0 c,.fn (.func 164) [] [.loc 0 0],zB (vD g),.sc (.int .i64 (zE g e))]) (H0:=[.row true [.sc (.int .i64 e)],.vec true c 1 (zL (T row.length))])
    (.cons _ _ _ _ (.refl _) (.cons _ _ _ _ (.own _ _ _ _ _ _ _ _ rfl (by rw[zu (by simp[zL];omega)];exact z6 _)) (.cons _ _ _ _ (.fn _ _ _ _ _ .nil (.cons _ _ _ _ (.loc _ _ _ _ _ rfl (xv _)) .nil)) (.cons _ _ _ _ (.refl _) (.cons _ _ _ _ (.refl _) .nil))))) hWy (zi _) [0,2] rfl zc (by simp[zl,zt,zr _ hp]) ⟨zr _ (by simp[ze,Pure]),zh _ (zeU _),trivial⟩ (by simp only[yG,D.yI,vG,xa _ hp];rfl) (λi o ho=>by
     rcases i with _|_|i
     ·simp at ho;subst ho;rfl
     ·simp at ho;subst ho;simp only[zf.yI,qW];rfl
     ·simp at ho)) ?_
   rw[List.length_map]
   refine sI ?_
   refine⟨zo,zo,zs,?_⟩
   refine sW ?_
   refine sJ ?_
   rw[eE]
   refine .own _ _ _ _ _ _ _ _ rfl ?_
   rw[show(((l.length:Nat):Int)-1).toNat=l.length-1 by omega]
   have hh:=zfI o l 0 (l.length-1)
   rw[List.drop_zero] at hh
   rw[show List.drop 0 (List.take o.length (zL o))++List.drop 0 (List.take (l.length-1) (List.map (λn=>[D.sc (Value.int .i64 n)]) l))=zL (o++l.take (l.length-1)) from hh]
   rw[zu (by simp[zL])]
   exact z6 _
end
section
open Go.RowKit
def nxE (W:zA) (A:yh) (p:Pr):List Pr:=x8 W A (W.next.getD p.1.toNat []) (A.next.getD p.2.toNat [])
structure Ur (W:zA) (A:yh):Prop where
 two:zkJ W A
 sw:W.start.length≤1048576
 sa:A.start.length≤1048576
 rw_:∀l∈W.next,l.length≤1048576
 ra:∀l∈A.next,l.length≤1048576
theorem Ur.next {W:zA} {A:yh} (h:Ur W A) (p:Pr):(∀q∈nxE W A p,ui W A q)∧(nxE W A p).length≤1099511627776:=by
 obtain⟨_,_,_,_,w5,_⟩:=vK W h.two.cw
 obtain⟨_,_,_,_,_,a6,_⟩:=YG A h.two.ca
 refine⟨zbU (y3 w5 _) (y3 a6 _),?_⟩
 have h1:=zc2 W A (W.next.getD p.1.toNat []) (A.next.getD p.2.toNat [])
 have h2:=Nat.mul_le_mul (U6 h.rw_ p.1.toNat) (U6 h.ra p.2.toNat)
 unfold nxE
 omega
theorem Ur.begin {W:zA} {A:yh} (h:Ur W A):(∀q∈x8 W A W.start A.start,ui W A q)∧(x8 W A W.start A.start).length≤1099511627776:=by
 obtain⟨_,_,_,w4,_,_⟩:=vK W h.two.cw
 obtain⟨_,_,_,_,a5,_,_⟩:=YG A h.two.ca
 refine⟨zbU w4 a5,?_⟩
 have h1:=zc2 W A W.start A.start
 have h2:=Nat.mul_le_mul h.sw h.sa
 omega
theorem U5 {Q:Pr→Prop} {ps L:List Pr} {o:List Int} (h:∀p∈L,Q p) (k:∀p∈ps,Q p):∀p∈(uH ps L o).1,Q p:=λp hp=>((WR ps L o p).1 hp).elim (h p) (k p)
theorem zmY {W:zA} {A:yh} (h:Ur W A) {start:List Pr}:∀(f n:Nat) (L:List Pr) (T:List (List Int)),zeP start (nxE W A) n L T→(∀p∈L,ui W A p)→W.next.length*A.next.length+2≤f+n →
  zcs start (nxE W A) (zcp (nxE W A) f n L T).1 (zcp (nxE W A) f n L T).2∧∀p∈(zcp (nxE W A) f n L T).1,ui W A p
 | 0,n,L,T,hI,hg,hf=>by have:=hI.le;have:=ui.le h.two hI.nd hg;omega
 | f+1,n,L,T,hI,hg,hf=>by
  rw[zcp]
  split
  ·rename_i q
   exact zmY h f (n+1) _ _ (hI.next q) (U5 hg (h.next _).1) zo
  ·rename_i q
   exact⟨hI.fin q,hg⟩
def xh (W:zA) (A:yh):List Pr × List Int:=uH (x8 W A W.start A.start) [] []
def xc (W:zA) (A:yh):List Pr × List (List Int):=zcp (nxE W A) (W.next.length*A.next.length+2) 0 (xh W A).1 []
theorem Wj {W:zA} {A:yh} (h:Ur W A):zcs (x8 W A W.start A.start) (nxE W A) (xc W A).1 (xc W A).2∧∀p∈(xc W A).1,ui W A p :=
 zmY h _ 0 _ [] (zeP.begin _ _) (U5 zs h.begin.1) zo
theorem zi1 (nx:Pr→List Pr):∀(f n:Nat) (L:List Pr) (T:List (List Int)),∃X,(zcp nx f n L T).1=L++X
 | 0,n,L,T=>⟨[],by simp[zcp]⟩
 | f+1,n,L,T=>by
  rw[zcp]
  split
  ·obtain⟨X,hX⟩:=Vc (nx (L.getD n (0,0))) L []
   obtain⟨Y,hY⟩:=zi1 nx f (n+1) (uH (nx (L.getD n (0,0))) L []).1 (T++[(uH (nx (L.getD n (0,0))) L []).2])
   exact⟨X++Y,by rw[hY,hX,List.append_assoc]⟩
  ·exact⟨[],zs⟩
theorem zg3 {W:zA} {A:yh}:(xh W A).2=(x8 W A W.start A.start).map λp=>(ve (xc W A).1 p:Int):=by
 obtain⟨X,hX⟩:=zi1 (nxE W A) (W.next.length*A.next.length+2) 0 (xh W A).1 []
 have hX':(xc W A).1=(xh W A).1++X:=hX
 rw[hX']
 unfold xh
 rw[zc7,List.nil_append]
 refine List.map_congr_left λp hp=>?_
 rw[zhc ((WR _ [] [] p).2 (.inr hp))]
theorem zcs.fits {W:zA} {A:yh} (h:Ur W A) {start L:List Pr} {G:List (List Int)} (hN:zcs start (nxE W A) L G) (hg:∀p∈L,ui W A p):G.length≤1228800∧uU G:=by
 have h1:=ui.le h.two hN.nd hg
 have h2:=zly h.two
 have h3:=hN.len
 refine⟨zo,zo,λl hl=>?_⟩
 obtain⟨i,hi,rfl⟩:=List.mem_iff_getElem.1 hl
 have:=hN.row i zo
 rw[List.getD_eq_getElem?_getD,List.getElem?_eq_getElem hi] at this
 simp only[Option.getD_some] at this
 rw[this,List.length_map]
 have:=(h.next (L.getD i (0,0))).2
 omega
theorem zju {W:zA} {A:yh} (h:Ur W A):xH (xh W A).2 (xc W A).2.length=true∧(xh W A).2.length≤1099511627776:=by
 obtain⟨hN,hg⟩:=Wj h
 rw[zg3]
 refine⟨wj λx hx=>?_,by rw[List.length_map];exact h.begin.2⟩
 obtain⟨p,hp,rfl⟩:=List.mem_map.1 hx
 have:=UW (hN.st p hp)
 have:=hN.len
 omega
theorem zrf {g:List (List Int)} {ok:Nat→Bool} (h:∀v,ok v=true) {u v:Nat} (k:To g u v):To (ziK g ok) u v:=by
 unfold To at k
 induction k with
 | base m=>exact .base m
 | step k hx ih=>exact .step ih (ze8.2 ⟨hx,h _⟩)
theorem zoW {g:List (List Int)} (xL:∀l∈g,xH l g.length=true) {F:List (Nat→Bool)} {i:Nat} (h:Y2 g F i=true):(∃v,v<g.length∧zE g v=(i:Int))∧∀e,e<g.length→zE g e=(i:Int)→RH g F e:=by
 unfold Y2 at h
 rw[Bool.and_eq_true,List.all_eq_true] at h
 obtain⟨h1,h2⟩:=h
 unfold okT at h1
 obtain⟨v,hv,h3⟩:=List.any_eq_true.1 h1
 rw[Bool.and_eq_true,beq_iff_eq] at h3
 have hv:=List.mem_range.1 hv
 refine⟨⟨v,hv,h3.1⟩,λe he hp=>⟨he,xL,?_,λS hS=>?_⟩⟩
 ·have hn:=(Uj (λv x hx=>(zdI xL v x hx).2) hv).1 h3.2
  obtain⟨m1,m2⟩:=xo.1 ((parts_eq hv he).1 (h3.1.trans hp.symm))
  exact UI hn m1 m2
 ·have:=h2 S hS
  unfold Jv at this
  obtain⟨d,hd,h4⟩:=List.any_eq_true.1 this
  rw[Bool.and_eq_true,beq_iff_eq] at h4
  exact⟨d,List.mem_range.1 hd,h4.2,h4.1.trans hp.symm⟩
noncomputable def pE (g:List (List Int)) (F:List (Nat→Bool)):Int:=wA (λb=>true==b) ((List.range g.length).map (Y2 g F))
noncomputable def x3 (g:List (List Int)) (F:List (Nat→Bool)) (fr:List Int):List Int:=XT g (λk=>zE g k==pE g F) (X7 g (-1)) fr
def qK (L:List Pr) (l:List Int):List Int:=l.map λn=>(L.getD n.toNat (0,0)).1
noncomputable def V2 (W:zA) (A:yh) (L:List Pr) (g:List (List Int)) (fr:List Int):D :=
 if pE g (vn W A L)<0 then .yO [.agg [zB [],zB []],.sc (.bool false),.sc (.int .i64 0)] else
  .yO [.agg [zB (qK L ((x3 g (vn W A L) fr).take ((x3 g (vn W A L) fr).length-1))),zB (qK L (V9 g (vn W A L) (yQ (x3 g (vn W A L) fr)).toNat))],.sc (.bool true),.sc (.int .i64 0)]
theorem zs0 {g:List (List Int)} {F:List (Nat→Bool)} (h:¬pE g F<0):∃i:Nat,pE g F=(i:Int)∧Y2 g F i=true:=by
 obtain⟨k,h1,hk,h2,_⟩:=zaG (show 0≤wA (λb=>true==b) ((List.range g.length).map (Y2 g F)) from by unfold pE at h;omega)
 refine⟨k,h1,?_⟩
 simpa using h2
theorem zzH {g:List (List Int)} (xL:∀l∈g,xH l g.length=true) {F:List (Nat→Bool)}:(¬pE g F<0)↔∃v,v<g.length∧Fw g F v:=by
 rw[←zop (λv x hx=>(zdI xL v x hx).2) F]
 have h1:=uL (λb=>true==b) ((List.range g.length).map (Y2 g F))
 have h2:(¬pE g F<0)↔decide (pE g F≥0)=true:=by rw[decide_eq_true_iff];omega
 rw[h2,pE,h1,List.any_eq_true]
 constructor
 ·rintro⟨b,hb,hb2⟩
  obtain⟨i,hi,rfl⟩:=List.mem_map.1 hb
  exact⟨i,List.mem_range.1 hi,by simpa using hb2⟩
 ·rintro⟨i,hi,h⟩
  exact⟨_,List.mem_map.2 ⟨i,List.mem_range.2 hi,rfl⟩,by simpa using h⟩
theorem zex {W:zA} {A:yh} (h:Ur W A) {F:List (Nat→Bool)} (hp:¬pE (xc W A).2 F<0) :
  xH (x3 (xc W A).2 F (xh W A).2) (xc W A).2.length=true∧(x3 (xc W A).2 F (xh W A).2).length≤(xc W A).2.length∧x3 (xc W A).2 F (xh W A).2≠[]∧RH (xc W A).2 F (yQ (x3 (xc W A).2 F (xh W A).2)).toNat:=by
 obtain⟨hN,hg⟩:=Wj h
 obtain⟨i,e1,hG⟩:=zs0 hp
 obtain⟨⟨v,hv,hpv⟩,hR⟩:=zoW hN.inG hG
 obtain⟨b1,_⟩:=zju h
 obtain⟨w1,w2,w3⟩:=zhs hN.inG (λk=>zE (xc W A).2 k==pE (xc W A).2 F) (X7 (xc W A).2 (-1)) b1
 obtain⟨q,hq,hT⟩:=hN.come v (by have:=hN.len;omega)
 obtain⟨init,last,s1,s2,_⟩:=w3 ⟨(ve (xc W A).1 q:Int),by rw[zg3];exact List.mem_map.2 ⟨q,hq,rfl⟩,v,by
  rw[Int.toNat_natCast]
  exact zrf (λv=>by unfold X7;rw[decide_eq_true (by omega:(-1:Int)<0)];rfl) hT,by rw[hpv,e1];simp⟩
 refine⟨w1,w2,by unfold x3;rw[s1];simp,?_⟩
 have hl:yQ (x3 (xc W A).2 F (xh W A).2)=last:=by unfold x3;rw[s1,zaZ]
 have hr:=zT w1 (x:=last) (by rw[s1];simp)
 rw[hl]
 exact hR last.toNat zo (by rw[beq_iff_eq] at s2;rw[s2,e1])
def zfB (d:Nat) (W:zA) (A:yh) (n t:Nat) (S:D):List D:=[zB W.start,ya W.next,uX W.label,ya W.fair,zB A.start,ya A.next,uX A.Y4,uX A.Vm,ya A.fair,.mp d,.own (d+2) n 0 n,.own (d+3) t 0 t,S]
noncomputable def zeW (d:Nat) (W:zA) (A:yh) (L:List Pr) (S:D) (T:List (List Int)):List zf :=
 [.wc true (uQ Tryz.prog 177 (fP L)),.row true (zfB d W A L.length T.length S),.vec true L.length 2 (WS L),.vec true T.length 1 (vJ T)]
theorem zgS {ρ:Nat→Nat} (l:List Int):D.yI ρ (uX l)=uX l:=yH _ (ur l)
theorem U8 {W:zA} {A:yh} {L:List Pr} {S:D} (hS:Pure S) {T:List (List Int)}:(vv W A L S T).map (zf.yI λi=>3+i)=zeW 3 W A L S T:=by
 simp only[vv,zeW,zih,zfB,List.map_cons,List.map_nil,zf.yI,yG,D.yI,yw _ (Jd L),yw _ (uJ T),yH _ hS,vG,zgi,zgS]
def zBv:PC:=.seq (.seq (OP [qm 42 10,qm 43 9,q 44 (.zn 43),Fa 45 10 44,Lo 46 45,Ln 47 46,Bi 48 .lss 42 47]) (.cond 48 .skip (.exit 0))) (.seq (.block 1 (.ops [qm 51 9,qm 52 9,qd 53 (.zn 52) 2,qd 54 (.zz 11 53) 6,qd 55 (.zg 54) 14,qm 56 9,Fa 57 1 2,qd 58 (.zg 57) 64,qm 59 9,qd 60 (.zn 59) 256,qd 61 (.zz 10 60) 768,qd 62 (.zg 61) 1792,qm 63 10,qd 64 (.zM 2 62 63) 7936,qd 65 (.zz 0 64) 16128,qd 66 (.zg 65) 32512,qd 67 (.zM 1 58 66) 65472,qd 68 (.zg 67) 131008,Fa 69 1 3,qd 70 (.zg 69) 262144,qm 71 9,qd 72 (.zn 71) 1048576,qd 73 (.zz 10 72) 3145728,qd 74 (.zg 73) 7340032,qm 75 10,qd 76 (.zM 2 74 75) 32505856,qd 77 (.zz 1 76) 66060288,qd 78 (.zg 77) 133169152,qd 79 (.zM 1 70 78) 268173312,qd 80 (.zg 79) 536608768,qd 81 (.call 81 [56,68,80]) 1073741792,qd 82 (.xe 1 1 [81]) 2147483616,qd 83 (.append 1 24 55 82) 4294967294,qd 84 (.zn 51) 8589934591,qd 85 (.zz 11 84) 17179869183,qk (.store 1 85 83) 34359738367] true)) (OP [qm 49 10,Bi 50 .add 49 (cI 1),qm 10 50]))
def c36:PC:=.seq (OP [Bx 2 0,Bx 3 1,q 4 (.alloc [(.slice none 0 0),(.slice none 0 0)]),Mv 5 cF,Mv 6 (cI 0)]) (.seq (.seq (OP [LA 16 4 2,Ca 17 34 [16],qm 7 17]) (.seq (OP [qm 18 7,Bi 19 .neq 18 (cI 0)]) (.cond 19 (.seq (OP [q 20 (.build [(.slice none 0 0),(.slice none 0 0)] []),qm 21 7,So 2 4 20,Mv 5 cF,qm 6 21]) .ret) .skip))) (.seq (.seq (OP [LA 22 5 3,Ca 23 80 [22],qm 8 23]) (.seq (OP [qm 24 8,Bi 25 .neq 24 (cI 0)]) (.cond 25 (.seq (OP [q 26 (.build [(.slice none 0 0),(.slice none 0 0)] []),qm 27 8,So 2 4 26,Mv 5 cF,qm 6 27]) .ret) .skip))) (.seq (OP [LA 28 4 2,LA 29 5 3,q 30 (.zf2 177),q 31 (.build [(.slice none 0 0),(.slice none 0 0),(.slice none 0 0),(.slice none 0 0),(.slice none 0 0),(.slice none 0 0),(.slice none 0 0),(.slice none 0 0),(.slice none 0 0),(.map none),(.slice none 0 0),(.slice none 0 0),(.slice none 0 0)] [(0,4,28),(4,5,29),(9,1,30)]),Bx 32 31,qm 9 32]) (.seq (.stop (OP [qm 33 9,qm 34 9,Fa 35 0 2,Lo 36 35,Fa 37 0 3,Lo 38 37,Ca 39 81 [34,36,38],q 40 (.zn 33),Fa 41 12 40,So 1 41 39])) (.seq (.seq (OP [Mv 10 (cI 0)]) (.block 0 (.loop zBv))) (.seq (.stop (OP [qm 86 9,q 87 (.zn 86),Fa 88 11 87,Lo 89 88,Ca 90 82 [89],q 11 (.alloc [(.slice none 0 0)]),So 1 11 90])) (.seq (OP [qm 91 9,Ca 92 83 [91],qm 12 92]) (.seq (OP [qm 93 9,Lo 94 11,qm 95 12,Ca 96 84 [93,94,95],q 13 (.alloc [(.int .i64 0)]),So 1 13 96]) (.seq (.seq (OP [Lo 97 13,Bi 98 .lss 97 (cI 0)]) (.cond 98 (.seq (OP [q 99 (.build [(.slice none 0 0),(.slice none 0 0)] []),So 2 4 99,Mv 5 cF,Mv 6 (cI 0)]) .ret) .skip)) (.seq (.ops [qm 100 9,qm 101 9,qd 102 (.zn 101) 2,qd 103 (.zz 12 102) 6,qd 104 (.zg 103) 14,q 105 (.qj (.func 86) [] [11,13]),Lo 106 11,qd 107 (.call 85 [100,104,105,106,(cI (-1))]) 127,qw 14 107 255] true) (.seq (.ops [qm 108 9,qm 109 14,qm 110 14,qd 111 (.len 110) 4,qd 112 (.bin .sub 111 (cI 1)) 12,qd 113 (.zM 1 109 112) 30,qd 114 (.zg 113) 62,Lo 115 11,qm 116 12,qd 117 (.call 87 [108,114,115,116]) 511,qw 15 117 1023] true) (.seq (OP [qm 118 9,qm 119 14,qm 120 14,Ln 121 120,Bi 122 .sub 121 (cI 1),q 123 (.slc 1 119 none (some 122) none),Ca 124 88 [118,123],qm 125 9,qm 126 15,Ca 127 88 [125,126],q 128 (.build [(.slice none 0 0),(.slice none 0 0)] [(0,1,124),(1,1,127)]),So 2 4 128,Mv 5 cT,Mv 6 (cI 0)]) .ret))))))))))))
theorem zwY:zy Tryz.prog 36 129 [.agg 4 2,.tmp 5,.tmp 6] c36:=fK Tryz.func36
theorem zus {W:zA} {A:yh} (h:Ur W A):zq Tryz.prog 36 [wC W,V4 A] (V2 W A (xc W A).1 (xc W A).2 (xh W A).2):=by
 obtain⟨w1,w2,w3,w4,w5,w6⟩:=vK W h.two.cw
 obtain⟨a1,a2,a3,a4,a5,a6,a7⟩:=YG A h.two.ca
 have hN2:=zly h.two
 have hCW:=J8 W h.two.fw
 rw[h.two.cw] at hCW
 have hCA:=zqp A h.two.fa
 rw[h.two.ca] at hCA
 have hX:=λL hnd hLg S hS T=>ziA h.two W.start A.start h.sw h.sa w4 a5 L hnd hLg S hS T
 have hX2:=λ(p:Pr) L hnd hLg S hS T=>ziA h.two (W.next.getD p.1.toNat []) (A.next.getD p.2.toNat []) (U6 h.rw_ p.1.toNat) (U6 h.ra p.2.toNat) (y3 w5 p.1.toNat) (y3 a6 p.2.toNat) L hnd hLg S hS T
 have hpW:=Zy W
 have hpA:=J6 A
 refine za zwY zs (by simp[ze,wb,qU]) ?_ (by unfold V2;split<;>simp[Pure,ze,zi])
 have hfin:xc W A=zcp (nxE W A) (W.next.length*A.next.length+2) 0 (xh W A).1 []:=rfl
 unfold wC V4 at *
 unfold zA.cells yh.cells at *
 refine sR ?_
 refine sC hCW ?_
 refine sC hCA ?_
 refine zG (wT (yV 4 10 2 zs rfl rfl) (yV 4 11 1 zs rfl rfl)) ?_
 refine sR ?_
 have hnil:Pure zew:=trivial
 have hX0:=hX [] .nil zs zew hnil []
 rw[show uH (x8 W A W.start A.start) [] []=xh W A from rfl] at hX0
 have hN0:=zeP.begin (x8 W A W.start A.start) (nxE W A)
 rw[show uH (x8 W A W.start A.start) [] []=xh W A from rfl] at hN0
 have hG0:∀p∈(xh W A).1,ui W A p:=U5 zs h.begin.1
 have hRR:∀L G,xc W A=(L,G)→zcs (x8 W A W.start A.start) (nxE W A) L G∧(∀p∈L,ui W A p)∧xH (xh W A).2 G.length=true∧(xh W A).2.length≤1099511627776∧∀F,¬pE G F<0→xH (x3 G F (xh W A).2) G.length=true∧(x3 G F (xh W A).2).length≤G.length∧x3 G F (xh W A).2≠[]∧RH G F (yQ (x3 G F (xh W A).2)).toNat:=λL G e=>by
  have k1:=Wj h
  have k2:=zju h
  have k3:=λF hp=>zex h (F:=F) hp
  rw[e] at k1 k2 k3
  exact⟨k1.1,k1.2,k2.1,k2.2,k3⟩
 generalize xh W A=B at *
 obtain⟨L0,fr⟩:=B
 dsimp only at *
 have hSf:=zi fr
 refine sA (vB hX0 [.row true [zB W.start,ya W.next,uX W.label,ya W.fair],.row true [zB A.start,ya A.next,uX A.Y4,uX A.Vm,ya A.fair],.row true [zew,zew]] [] rfl (by simp[vv,zl,zt]) (VF hnil (by simp[vv])) (by simp only[yG,D.yI,vG];rfl) (vG _) (congrArg (_++·) ((List.append_nil _).trans (U8 hnil))) (congrArg (_++·) ((List.append_nil _).trans (U8 hnil)))) ?_
 refine z8 [2,3,4,9] (λ((n,M,T):Nat × List Pr × List (List Int))=>[(10,.sc (.int .i64 n))]) (λ(n,M,T)=>[.row true [zB W.start,ya W.next,uX W.label,ya W.fair],.row true [zB A.start,ya A.next,uX A.Y4,uX A.Vm,ya A.fair],.row true [zew,zew]]++zeW 3 W A M (zB fr) T)
  (λ(n,M,T)=>zeP (x8 W A W.start A.start) (nxE W A) n M T∧(∀p∈M,ui W A p)∧zcp (nxE W A) (W.next.length*A.next.length+2-n) n M T=xc W A) (λ(n,M,T)=>W.next.length*A.next.length+2-n) (0,L0,[]) ?_
 refine sW ?_
 refine⟨⟨hN0,hG0,hfin.symm⟩,by exact sK,rfl,?_⟩
 rintro⟨n,M,T⟩ ⟨hI,hMg,hF⟩
 have hMl:=ui.le h.two hI.nd hMg
 have hIl:=hI.le
 have hTl:=hI.len
 rw[show W.next.length*A.next.length+2-n=(W.next.length*A.next.length+1-n)+1 by omega,zcp] at hF
 unfold zeW zfB
 refine sW ?_
 refine sR ?_
 refine sS (λq0=>?_) λq0=>?_
 ·have q0:n<M.length:=sO
  rw[if_pos q0] at hF
  have hgp:=hMg _ (UY q0)
  obtain⟨⟨g1,g2⟩,g3,g4⟩:=hgp
  have hNx:=hI.next q0
  have hnx:=h.next (M.getD n (0,0))
  have hC:=vB (hX2 (M.getD n (0,0)) M hI.nd hMg (zB fr) hSf T) [.row true [zB W.start,ya W.next,uX W.label,ya W.fair],.row true [zB A.start,ya A.next,uX A.Y4,uX A.Vm,ya A.fair],.row true [zew,zew]] [] rfl (by simp[vv,zl,zt]) (VF hSf (by simp[vv])) (by simp only[yG,D.yI,vG];rfl) (vG _) (congrArg (_++·) ((List.append_nil _).trans (U8 hSf))) (congrArg (_++·) ((List.append_nil _).trans (U8 hSf)))
  rw[show x8 W A (W.next.getD (M.getD n (0,0)).1.toNat []) (A.next.getD (M.getD n (0,0)).2.toNat [])=nxE W A (M.getD n (0,0)) from rfl] at hC
  refine sB ?_
  refine⟨_,JH (l:=M) (k:=n) zo q0,?_⟩
  refine sW ?_
  refine sL (xS (g:=W.next) (k:=(M.getD n (0,0)).1.toNat) zo zo) ?_
  refine sB ?_
  refine⟨_,JH (l:=M) (k:=n) zo q0,?_⟩
  refine sW ?_
  refine sL (xS (g:=A.next) (k:=(M.getD n (0,0)).2.toNat) zo zo) ?_
  unfold zeW zfB at hC
  have hgd:=U5 (o:=[]) hMg hnx.1
  generalize nxE W A (M.getD n (0,0))=ps at *
  generalize uH ps M []=Q at *
  obtain⟨M',o⟩:=Q
  dsimp only at *
  (refine .inr (.inr (.inr (.inl ⟨_,_,by simp[zl,zF,wD,zf.under,zt],by simp[zl,zF,wD,zf.under,zt],hC,?_⟩)));((conv=>whnf);repeat(refine⟨rfl,?_⟩;conv=>whnf)))
  refine sJ ?_
  refine sI ?_
  refine⟨(n+1,M',T++[o]),⟨hNx,hgd,by rw[show W.next.length*A.next.length+2-(n+1)=W.next.length*A.next.length+1-n by omega];exact hF⟩,zd,?_⟩
  dsimp only
  rw[show(T++[o]).length=T.length+1 by simp]
  (refine zj 7 zs rfl ?_ ?_<;>(repeat' (first|exact trivial|exact rfl|exact yc.refl _|exact zQ.refl _|exact zK.refl _|refine And.intro ?_ ?_|(simp[zt,zl,zF,-List.map_take,-List.map_drop];done))))
  all_goals first|exact zr _ hpW|exact zr _ hpA|exact zp (zi2 rfl)|(simp[zw _ (ur _)];done)|skip
 ·have q0:¬n<M.length:=sO
  rw[if_neg q0] at hF
  obtain⟨hNF,hg2,hfi,hfl,hst⟩:=hRR M T hF.symm
  obtain⟨hTn,hTF⟩:=hNF.fits h hg2
  have xL:=hNF.inG
  rw[←hF]
  have hTM:=hNF.len
  have hSe:=zwa h.two M zo hg2 T fr
  rw[←hTM] at hSe
  have hFl:(vn W A M).length≤1000:=by unfold vn;rw[List.length_append,YJ (Nat.le_refl _),YJ (Nat.le_refl _)];omega
  have hfr:V2 W A M T fr=if pE T (vn W A M)<0 then .yO [.agg [zB [],zB []],.sc (.bool false),.sc (.int .i64 0)] else
    .yO [.agg [zB (qK M ((x3 T (vn W A M) fr).take ((x3 T (vn W A M) fr).length-1))),zB (qK M (V9 T (vn W A M) (yQ (x3 T (vn W A M) fr)).toNat))],.sc (.bool true),.sc (.int .i64 0)]:=rfl
  have hps:=Za W A M T fr
  generalize vn W A M=F at *
  have hGo:=ztM W A M T hTM fr zo xL hTF F hFl
  rw[show wA (λb=>true==b) ((List.range T.length).map (Y2 T F))=pE T F from rfl] at hGo
  have hst:=hst F
  refine zG (Z9 (λi=>i==4||i==5||i==6) (env':=[(4,.loc 2 0),(9,.y7 (qV W A M T fr))]) (H':=[.row true [zB W.start,ya W.next,uX W.label,ya W.fair],.row true [zB A.start,ya A.next,uX A.Y4,uX A.Vm,ya A.fair],.row true [zew,zew],.wc true (uQ Tryz.prog 177 (fP M)),.row false (zfB 3 W A M.length T.length (zB fr)),.vec false M.length 2 (WS M),.vec false T.length 1 (vJ T)])
   ⟨.refl _,.loc _ _ _ _ _ rfl rfl (.cons _ _ _ _ (.refl _) (.cons _ _ _ _ (.refl _) (.cons _ _ _ _ (.refl _) (.cons _ _ _ _ (.refl _) (.cons _ _ _ _ (.refl _) (.cons _ _ _ _ (.refl _) (.cons _ _ _ _ (.refl _) (.cons _ _ _ _ (.refl _) (.cons _ _ _ _ (.refl _) (.cons _ _ _ _ (.xO _) (.cons _ _ _ _ (.own _ _ _ _ _ _ _ _ rfl rfl (zp (zu zs))) (.cons _ _ _ _ (.own _ _ _ _ _ _ _ _ rfl rfl (zp (zu zs))) (.refl _))))))))))))),trivial⟩
   ⟨⟨.inl rfl,λh=>absurd h zc,.refl _⟩,⟨.inl rfl,λh=>absurd h zc,.refl _⟩,⟨.inl rfl,λh=>absurd h zc,.refl _⟩,⟨.inl rfl,λh=>absurd h zc,rfl⟩,⟨.inr ⟨rfl,rfl⟩,λ_=>rfl,.refl _⟩,⟨.inr ⟨rfl,rfl⟩,λ_=>rfl,rfl,rfl,.refl _⟩,⟨.inr ⟨rfl,rfl⟩,λ_=>rfl,rfl,rfl,.refl _⟩,trivial⟩) ?_
  have hSp:=zgO T zo xL hTF
  unfold qV at hSe hGo
  unfold qV zfB
  refine sR ?_
  refine sC hSp ?_
  refine sC hSe ?_
  refine sC hGo ?_
  rw[hfr]
  refine sS (λp0=>?_) λp0=>?_
  ·have p0:pE T F<0:=of_decide_eq_true p0
   rw[if_pos p0]
   exact .yO _ _ (.cons _ _ _ _ (.agg _ _ (.cons _ _ _ _ (.none _) (.cons _ _ _ _ (.none _) .nil))) (.cons _ _ _ _ (.refl _) (.cons _ _ _ _ (.refl _) .nil)))
  ·have p0:¬pE T F<0:=of_decide_eq_false p0
   rw[if_neg p0]
   obtain⟨s1,s2,s3,s4⟩:=hst p0
   have hsn:=List.length_pos_iff.2 s3
   have hlE:=zT s1 (zbo s3)
   have hWy:=zru W A M T fr zo xL hTF (λk=>zE T k==pE T F) 86 [.y7 [zB (vD T)],.y7 [.sc (.int .i64 (pE T F))]] (by simp[ze,Pure,zi]) (λx h1 h2=>zpp T (pE T F) x h1 h2) fr zo hfi (-1)
   rw[show XT T (λk=>zE T k==pE T F) (X7 T (-1)) fr=x3 T F fr from rfl] at hWy
   have hRd:=zrT W A M T fr zo hTF F hFl (yQ (x3 T F fr)).toNat s4
   rw[show(((yQ (x3 T F fr)).toNat:Nat):Int)=yQ (x3 T F fr) by omega] at hRd
   obtain⟨r1,r2⟩:=zmu s4
   have hS1:=zfx W A M T fr ((x3 T F fr).take ((x3 T F fr).length-1)) (by rw[List.length_take];omega) (by rw[←hTM];exact wj λx hx=>zT s1 (List.mem_of_mem_take hx))
   have hrl:(V9 T F (yQ (x3 T F fr)).toNat).length≤1000000000000:=by
    have:=Nat.mul_le_mul hFl hTn
    omega
   have hS2:=zfx W A M T fr (V9 T F (yQ (x3 T F fr)).toNat) hrl (by rw[←hTM];exact r1)
   rw[show((x3 T F fr).take ((x3 T F fr).length-1)).map (λn=>(M.getD n.toNat (0,0)).1)=qK M ((x3 T F fr).take ((x3 T F fr).length-1)) from rfl] at hS1
   rw[show(V9 T F (yQ (x3 T F fr)).toNat).map (λn=>(M.getD n.toNat (0,0)).1)=qK M (V9 T F (yQ (x3 T F fr)).toNat) from rfl] at hS2
   generalize V9 T F (yQ (x3 T F fr)).toNat=rnd at *
   generalize x3 T F fr=st at *
   generalize pE T F=p at *
   unfold qV at hWy hRd hS1 hS2 hps
   refine sW ?_
   refine sE (Ws (args0:=[.y7 [zB W.start,ya W.next,uX W.label,ya W.fair,zB A.start,ya A.next,uX A.Y4,uX A.Vm,ya A.fair,.xO,Uc M,ya T,zB fr],zB fr,.fn (.func 86) [] [.loc 0 0,.loc 1 0],zB (vD T),.sc (.int .i64 (-1))]) (H0:=[.row true [zB (vD T)],.row true [.sc (.int .i64 p)]])
    (.cons _ _ _ _ (.refl _) (.cons _ _ _ _ (.refl _) (.cons _ _ _ _ (.fn _ _ _ _ _ .nil (.cons _ _ _ _ (.loc _ _ _ _ _ rfl (xv _)) (.cons _ _ _ _ (.loc _ _ _ _ _ rfl (xv _)) .nil))) (.cons _ _ _ _ (.refl _) (.cons _ _ _ _ (.refl _) .nil))))) hWy (zi _) [7,8] rfl zc ⟨zw _ (YC hps),zw _ (zi _),by simp[zl,zt],zw _ (zi _),trivial,trivial⟩ ⟨zr _ ⟨zi _,trivial⟩,zr _ ⟨trivial,trivial⟩,trivial⟩ (by simp only[yG,D.yI,vG,zgi,zgS,yH _ (UJ _)];rfl) (λi o ho=>by
     rcases i with _|_|i
     ·simp at ho;subst ho;simp only[zf.yI,yG,vG];rfl
     ·simp at ho;subst ho;rfl
     ·simp at ho)) ?_
   rw[List.length_map]
   refine sI ?_
   refine sL (yb (l:=st) (k:=st.length-1) zo zo) ?_
   rw[show st.getD (st.length-1) 0=yQ st from rfl,show D.yI (λi=>[7,8].getD i 0) (zB (vD T))=zB (vD T) from vG _]
   refine sC hRd ?_
   rw[List.length_map]
   refine sI ?_
   refine⟨zo,zo,zs,?_⟩
   refine sW ?_
   rw[show(D.xj 1 (List.drop 0 (List.take (((st.length:Nat):Int)-1).toNat (List.map (λn=>[D.sc (Value.int .i64 n)]) st))))=zB (st.take (st.length-1)) by
    rw[show(((st.length:Nat):Int)-1).toNat=st.length-1 by omega,List.drop_zero,←List.map_take];rfl]
   refine sC hS1 ?_
   refine sC hS2 ?_
   exact .refl _
end
end
section
open Go.RowKit
theorem uq (k n:Int):Small (yB k n):=.mk _ (by simp[yB,Tree.width,Tree.kids]) λj hj=>by simp[yB,Tree.width,Tree.kids] at hj
theorem xg {k:Int} {a:Tree} (h:Small a):Small (yS k a):=.mk _ (by simp[yS,Tree.width,Tree.kids]) λj hj=>by
 simp[yS,Tree.width,Tree.kids] at hj
 subst hj
 exact h
theorem uu {k:Int} {a b:Tree} (h:Small a) (h':Small b):Small (vx k a b):=.mk _ (by simp[vx,Tree.width,Tree.kids]) λj hj=>by
 simp[vx,Tree.width,Tree.kids] at hj
 match j with
 | 0=>exact h
 | 1=>exact h'
theorem Xe (p:Prop) [Decidable p] {a b:Tree} (h:Small a) (k:Small b):Small (if p then a else b):=by split<;>assumption
def c191:PC:=.seq (OP [Bx 4 1,Bx 5 2,q 6 (.alloc [(.int .i64 0),(.int .i64 0),(.slice none 0 0)])]) (.seq (OP [qm 7 0,LA 8 3 4,LA 9 3 5,Bs 10 3 2 [8,9],q 11 (.build [(.int .i64 0),(.int .i64 0),(.slice none 0 0)] [(0,1,7),(2,1,10)]),So 3 6 11]) .ret)
theorem zv9:zy Tryz.prog 191 12 [.agg 6 3] c191:=fK Tryz.func191
theorem zjO (k:Int) (a b:Tree):zq Tryz.prog 191 [.sc (.int .i64 k),zZ a,zZ b] (zZ (vx k a b)):=by
 refine za zv9 zs (by simp[ze,Pure,zm]) ?_ (zm _)
 refine sR ?_
 exact sP
def c121:PC:=.seq (OP [Bx 3 1,q 4 (.alloc [(.int .i64 0),(.int .i64 0),(.slice none 0 0)])]) (.seq (OP [qm 5 0,LA 6 3 3,Bs 7 3 1 [6],q 8 (.build [(.int .i64 0),(.int .i64 0),(.slice none 0 0)] [(0,1,5),(2,1,7)]),So 3 4 8]) .ret)
theorem zun:zy Tryz.prog 121 9 [.agg 4 3] c121:=fK Tryz.func121
theorem Vs (k:Int) (a:Tree):zq Tryz.prog 121 [.sc (.int .i64 k),zZ a] (zZ (yS k a)):=by
 refine za zun zs (by simp[ze,Pure,zm]) ?_ (zm _)
 refine sR ?_
 exact sP
def c183:PC:=.seq (OP [Bx 4 1,Bx 5 2,q 6 (.alloc [(.int .i64 0),(.int .i64 0),(.slice none 0 0)])]) (.seq (OP [qm 7 0,LA 8 3 4,LA 9 3 5,Bs 10 3 2 [8,9],q 11 (.build [(.int .i64 0),(.int .i64 0),(.slice none 0 0)] [(0,1,7),(2,1,10)]),So 3 6 11]) .ret)
theorem zvh:zy Tryz.prog 183 12 [.agg 6 3] c183:=fK Tryz.func183
theorem zhX (k:Int) (a b:Tree):zq Tryz.prog 183 [.sc (.int .i64 k),zZ a,zZ b] (zZ (vx k a b)):=by
 refine za zvh zs (by simp[ze,Pure,zm]) ?_ (zm _)
 refine sR ?_
 exact sP
def c192:PC:=.seq (OP [q 2 (.alloc [(.int .i64 0),(.int .i64 0),(.slice none 0 0)])]) (.seq (OP [qm 3 0,q 4 (.build [(.int .i64 0),(.int .i64 0),(.slice none 0 0)] [(0,1,3)]),So 3 2 4]) .ret)
theorem ztx:zy Tryz.prog 192 5 [.agg 2 3] c192:=fK Tryz.func192
theorem zgr (k:Int):zq Tryz.prog 192 [.sc (.int .i64 k)] (zZ (yB k 0)):=by
 refine za ztx zs (by simp[ze,Pure]) ?_ (zm _)
 refine sR ?_
 exact sP
def c118:PC:=.seq (OP [q 2 (.alloc [(.int .i64 0),(.int .i64 0),(.slice none 0 0)])]) (.seq (OP [qm 3 0,q 4 (.build [(.int .i64 0),(.int .i64 0),(.slice none 0 0)] [(0,1,(cI 3)),(1,1,3)]),So 3 2 4]) .ret)
theorem ztS:zy Tryz.prog 118 5 [.agg 2 3] c118:=fK Tryz.func118
theorem qz (n:Int):zq Tryz.prog 118 [.sc (.int .i64 n)] (zZ (yB 3 n)):=by
 refine za ztS zs (by simp[ze,Pure]) ?_ (zm _)
 refine sR ?_
 exact sP
def c119:PC:=.seq (OP [Bx 1 0,q 2 (.alloc [(.int .i64 0),(.int .i64 0),(.slice none 0 0)])]) (.seq (OP [LA 3 3 1,Ca 4 121 [(cI 4),3],So 3 2 4]) .ret)
theorem zvz:zy Tryz.prog 119 5 [.agg 2 3] c119:=fK Tryz.func119
theorem VD (a:Tree):zq Tryz.prog 119 [zZ a] (zZ (yS 4 a)):=by
 refine za zvz zs (by simp[ze,Pure,zm]) ?_ (zm _)
 refine sR ?_
 refine sC (Vs 4 a) ?_
 exact sP
def c123:PC:=.seq (OP [Bx 1 0,q 2 (.alloc [(.int .i64 0),(.int .i64 0),(.slice none 0 0)])]) (.seq (OP [LA 3 3 1,Ca 4 121 [(cI 11),3],So 3 2 4]) .ret)
theorem ztd:zy Tryz.prog 123 5 [.agg 2 3] c123:=fK Tryz.func123
theorem VE (a:Tree):zq Tryz.prog 123 [zZ a] (zZ (yS 11 a)):=by
 refine za ztd zs (by simp[ze,Pure,zm]) ?_ (zm _)
 refine sR ?_
 refine sC (Vs 11 a) ?_
 exact sP
def c125:PC:=.seq (OP [Bx 2 0,Bx 3 1,q 4 (.alloc [(.int .i64 0),(.int .i64 0),(.slice none 0 0)])]) (.seq (OP [LA 5 3 2,LA 6 3 3,Ca 7 183 [(cI 5),5,6],So 3 4 7]) .ret)
theorem ztv:zy Tryz.prog 125 8 [.agg 4 3] c125:=fK Tryz.func125
theorem Qf (a b:Tree):zq Tryz.prog 125 [zZ a,zZ b] (zZ (vx 5 a b)):=by
 refine za ztv zs (by simp[ze,Pure,zm]) ?_ (zm _)
 refine sR ?_
 refine sC (zhX 5 a b) ?_
 exact sP
def c120:PC:=.seq (OP [Bx 2 0,Bx 3 1,q 4 (.alloc [(.int .i64 0),(.int .i64 0),(.slice none 0 0)])]) (.seq (OP [LA 5 3 2,LA 6 3 3,Ca 7 183 [(cI 6),5,6],So 3 4 7]) .ret)
theorem zv2:zy Tryz.prog 120 8 [.agg 4 3] c120:=fK Tryz.func120
theorem Q0 (a b:Tree):zq Tryz.prog 120 [zZ a,zZ b] (zZ (vx 6 a b)):=by
 refine za zv2 zs (by simp[ze,Pure,zm]) ?_ (zm _)
 refine sR ?_
 refine sC (zhX 6 a b) ?_
 exact sP
def c124:PC:=.seq (OP [Bx 2 0,Bx 3 1,q 4 (.alloc [(.int .i64 0),(.int .i64 0),(.slice none 0 0)])]) (.seq (OP [LA 5 3 2,LA 6 3 3,Ca 7 183 [(cI 8),5,6],So 3 4 7]) .ret)
theorem zt6:zy Tryz.prog 124 8 [.agg 4 3] c124:=fK Tryz.func124
theorem Xs (a b:Tree):zq Tryz.prog 124 [zZ a,zZ b] (zZ (vx 8 a b)):=by
 refine za zt6 zs (by simp[ze,Pure,zm]) ?_ (zm _)
 refine sR ?_
 refine sC (zhX 8 a b) ?_
 exact sP
end
section
open Go.RowKit
def c141:PC:=.seq (OP [Mv 2 (cI 0)]) (.seq (.seq (OP [qm 3 0]) (.block 0 (.seq (.seq (OP [Bi 5 .eql 3 (cI 1),qm 4 5]) (.cond 4 .skip (.seq (OP [Bi 6 .eql 3 (cI 2),qm 4 6]) (.cond 4 .skip (OP [Bi 7 .eql 3 (cI 3),qm 4 7]))))) (.cond 4 (.seq (OP [Mv 2 (cI 0)]) .ret) (.seq (.seq (OP [Bi 9 .eql 3 (cI 4),qm 8 9]) (.cond 8 .skip (.seq (OP [Bi 10 .eql 3 (cI 7),qm 8 10]) (.cond 8 .skip (.seq (OP [Bi 11 .eql 3 (cI 10),qm 8 11]) (.cond 8 .skip (OP [Bi 12 .eql 3 (cI 11),qm 8 12]))))))) (.cond 8 (.seq (OP [Mv 2 (cI 1)]) .ret) (.seq (.seq (OP [Bi 14 .eql 3 (cI 5),qm 13 14]) (.cond 13 .skip (.seq (OP [Bi 15 .eql 3 (cI 6),qm 13 15]) (.cond 13 .skip (.seq (OP [Bi 16 .eql 3 (cI 8),qm 13 16]) (.cond 13 .skip (OP [Bi 17 .eql 3 (cI 9),qm 13 17]))))))) (.cond 13 (.seq (OP [Mv 2 (cI 2)]) .ret) .skip)))))))) (.seq (OP [Mv 2 (cI (-1))]) .ret))
theorem zte:zy Tryz.prog 141 18 [.tmp 2] c141:=fK Tryz.func141
def zBb:PC:=.seq (OP [Bi 51 .lss 50 49]) (.seq (.cond 51 .skip (.exit 1)) (.seq (.block 2 (.seq (OP [Ia 52 3 48 50,LA 53 3 52,q 8 (.alloc [(.int .i64 0),(.int .i64 0),(.slice none 0 0)]),So 3 8 53]) (.seq (OP [LA 54 3 8,qm 55 1,Bi 56 .add 55 (cI 1),qm 57 2,Ca 58 67 [54,56,57],qm 9 58]) (.seq (OP [qm 59 9,Bi 60 .neq 59 (cI 0)]) (.cond 60 (.seq (OP [qm 61 9,qm 6 61]) .ret) .skip))))) (OP [Bi 62 .add 50 (cI 1),qm 50 62])))
def c67:PC:=.seq (OP [Bx 3 0,Mv 6 (cI 0)]) (.seq (OP [qm 10 2,q 11 (.zn 10),Lo 12 11,Bi 13 .add 12 (cI 1),q 14 (.zn 10),So 1 14 13]) (.seq (.block 0 (.seq (OP [qm 16 2,q 17 (.zn 16),Lo 18 17,Bi 19 .gtr 18 (cI 60),qm 15 19]) (.cond 15 (.seq (OP [Mv 6 (cI 2)]) .ret) (.seq (OP [qm 21 1,Bi 22 .gtr 21 (cI 20),qm 20 22]) (.cond 20 (.seq (OP [Mv 6 (cI 5)]) .ret) (.seq (.seq (.ops [Fa 24 0 3,qd 25 (.zg 24) 1,qd 26 (.call 141 [25]) 3,Fa 27 2 3,qd 28 (.zg 27) 8,qd 29 (.len 28) 24,qd 30 (.bin .neq 26 29) 63,qw 23 30 127] true) (.cond 23 .skip (.seq (OP [Fa 31 1 3,Lo 32 31,Bi 33 .lss 32 (cI 0),qm 34 33,GF 35 34 (.zz 1 3),GF 36 34 (.zg 35),GF 37 34 (.bin .gtr 36 (cI 63)),Pk 38 34 cT 37,qm 23 38]) (.cond 23 .skip (OP [Fa 39 0 3,Lo 40 39,Bi 41 .neq 40 (cI 3),qm 42 41,GT 43 42 (.zz 1 3),GT 44 42 (.zg 43),GT 45 42 (.bin .neq 44 (cI 0)),Pk 46 42 45 cF,qm 23 46]))))) (.cond 23 (.seq (OP [Mv 6 (cI 1)]) .ret) .skip))))))) (.seq (.seq (OP [Fa 47 2 3,Lo 48 47,Ln 49 48,Mv 50 (cI 0)]) (.block 1 (.loop zBb))) (.seq (OP [Mv 6 (cI 0)]) .ret))))
theorem zxP:zy Tryz.prog 67 63 [.tmp 6] c67:=fK Tryz.func67
def c32:PC:=.seq (OP [Bx 1 0,Mv 2 (cI 0)]) (.seq (OP [q 3 (.alloc [(.int .i64 0)]),So 1 3 (cI 0)]) (.seq (OP [LA 4 3 1,Ca 5 67 [4,(cI 1),3],qm 2 5]) .ret))
theorem zyt:zy Tryz.prog 32 6 [.tmp 2] c32:=fK Tryz.func32
theorem zrx (k:Int):zq Tryz.prog 141 [.sc (.int .i64 k)] (.sc (.int .i64 (zP k))):=by
 refine za zte zs (by simp[ze,Pure]) ?_ (by simp[Pure])
 refine sR ?_
 repeat' (first|refine sS (λh=>?_) λh=>?_|exact yA (by simp_all [zP]))
theorem zox:∀(t:Tree) (d n:Int),Small t→0≤d→d≤21→0≤n→n≤60→yu Tryz.prog 67 ([zZ t,.sc (.int .i64 d)]++.loc 0 0::[]) [.row true [.sc (.int .i64 n)]] (.sc (.int .i64 (vp zP t d n).1)) [.row true [.sc (.int .i64 (vp zP t d n).2)]]:=by
 intro t
 induction t using Tree.ind with
 | h t ih =>
  intro d n hs hd hd' hn hn'
  have hsz:=hs.width
  refine z1 zxP zs zs ?_ (by simp[zt]) (by simp[zf.under,zl,zt])
  refine sR ?_
  refine .inl ⟨by unfold InR;rw[IntKind.wrap_i64];omega,?_⟩
  refine sW ?_
  have e:=zmn zP t d n
  refine sS (λh1=>?_) λh1=>?_
  ·simp at h1
   rw[e,if_pos h1]
   exact⟨rfl,rfl,zs⟩
  rw[if_neg (by simpa using h1)] at e
  refine sS (λh2=>?_) λh2=>?_
  ·simp at h2
   rw[e,if_pos h2]
   exact⟨rfl,rfl,zs⟩
  rw[if_neg (by simpa using h2)] at e
  refine sC (zrx t.kind) ?_
  have odd:yC zP t→vp zP t d n=(1,n+1):=λh=>by rw[e,if_pos h]
  have bad:yC zP t→(D.sc (Value.int IntKind.i64 1)=.sc (.int .i64 (vp zP t d n).1)∧List.take [zf.row true [D.sc (Value.int IntKind.i64 (vp zP t d n).2)]].length [zf.row true [D.sc (Value.int IntKind.i64 (n+1))],zf.row true (yo t)]=[zf.row true [D.sc (Value.int IntKind.i64 (vp zP t d n).2)]]∧[zf.row true [D.sc (Value.int IntKind.i64 (vp zP t d n).2)]].length≤2):=λh=>by
   rw[odd h];exact⟨rfl,rfl,zs⟩
  repeat' (first
   | refine sS (λh=>?_) λh=>?_
   | exact bad (by unfold yC Tree.width;simp_all;try omega))
  all_goals
   have hno:¬yC zP t:=by unfold yC Tree.width;simp_all;try omega
   rw[if_neg hno] at e
   have hn1:n+1≤60:=by simp at h1;omega
   have hd1:d≤20:=by simp at h2;omega
   refine WM (λx:Nat × Int=>[(1,.sc (.int .i64 d)),(2,.loc 0 0),(48,.xj 3 (t.kids.map y6)),(49,.sc (.int .i64 (t.kids.map y6).length)),(50,.sc (.int .i64 x.1))])
    (λx=>[.row true [.sc (.int .i64 x.2)],.row true (yo t)]) (λx=>x.1≤t.width∧0≤x.2∧x.2≤60∧Ye zP t.kids (d+1) (n+1)=Ye zP (t.kids.drop x.1) (d+1) x.2) (λx=>t.width-x.1) (0,n+1)
    ⟨zs,by simp;omega,hn1,rfl⟩ (zau ⟨rfl,rfl,rfl,rfl,rfl,trivial⟩) ?_
   clear h1 h2
   rintro⟨k,m⟩ ⟨hk,hm0,hm1,hF⟩
   refine sR ?_
   refine sS (λh4=>?_) λh4=>?_
   ·have hk':k<t.width:=by simpa [Tree.width] using h4
    rw[zgM _ hk'] at hF
    refine sL (y8 hk') ?_
    refine .inl ⟨by unfold InR;rw[IntKind.wrap_i64];omega,?_⟩
    refine sW ?_
    refine sA (wU (ih k hk' (d+1) m (hs.yD hk') zo zo hm0 hm1) (by simp[ze,zm,Pure]) (by simp[ze]) (by simp[ze,Pure]) (by simp[ze,Pure]) (by simp[Pure]) (id:=0) rfl) ?_
    refine sS (λh5=>?_) λh5=>?_
    ·rw[e,hF,if_neg (by simpa using h5)]
     exact⟨rfl,rfl,zs⟩
    ·have h5':(vp zP (t.yD k) (d+1) m).1=0:=by simpa using h5
     rw[if_pos h5'] at hF
     have b1:=(zbw zP (t.yD k) (d+1) m).1
     have b2:=zcR zP (t.yD k) (d+1) m h5'
     refine .inl ⟨by unfold InR;rw[IntKind.wrap_i64];unfold Tree.width at *;omega,?_⟩
     refine sW ?_
     refine⟨(k+1,(vp zP (t.yD k) (d+1) m).2),⟨by dsimp only at *;omega,by dsimp only at *;omega,b2,hF⟩,by dsimp only at *;omega,zj 2 zs rfl ⟨.refl _,by simp[zt],.refl _,by simp[zt],.refl _,by simp only[zt];exact zh _ (xG t),.refl _,by simp[zt],.refl _,by simp[zt],trivial⟩
      ⟨⟨rfl,.refl _,by simp[zl,zt]⟩,⟨rfl,.refl _,zr _ (ym t)⟩,trivial⟩⟩
   ·have hk':k=t.width:=by have:¬k<t.width:=by simpa [Tree.width] using h4
                           dsimp only at hk;omega
    rw[e,hF,hk',zf6]
    exact⟨rfl,rfl,zs⟩
theorem Xk (t:Tree) (hs:Small t):zq Tryz.prog 32 [zZ t] (.sc (.int .i64 (yJ zP t))):=by
 refine za zyt zs (by simp[ze,zm]) ?_ (by simp[Pure])
 refine sR ?_
 refine sA (wU (zox t 1 0 hs zo zo zo zo) (by simp[ze,zm,Pure]) (by simp[ze]) (by simp[ze,Pure]) (by simp[ze,Pure]) (by simp[Pure]) (H:=[.row true (yo t),.row true [.sc (.int .i64 0)]]) (id:=1) rfl) ?_
 exact .refl _
def c181:PC:=.seq (OP [Mv 2 (cI 0)]) (.seq (.seq (OP [qm 3 0]) (.block 0 (.seq (.seq (OP [Bi 5 .eql 3 (cI 1),qm 4 5]) (.cond 4 .skip (.seq (OP [Bi 6 .eql 3 (cI 2),qm 4 6]) (.cond 4 .skip (OP [Bi 7 .eql 3 (cI 3),qm 4 7]))))) (.cond 4 (.seq (OP [Mv 2 (cI 0)]) .ret) (.seq (.seq (OP [Bi 9 .eql 3 (cI 4),qm 8 9]) (.cond 8 .skip (.seq (OP [Bi 10 .eql 3 (cI 7),qm 8 10]) (.cond 8 .skip (.seq (OP [Bi 11 .eql 3 (cI 8),qm 8 11]) (.cond 8 .skip (.seq (OP [Bi 12 .eql 3 (cI 9),qm 8 12]) (.cond 8 .skip (.seq (OP [Bi 13 .eql 3 (cI 11),qm 8 13]) (.cond 8 .skip (.seq (OP [Bi 14 .eql 3 (cI 12),qm 8 14]) (.cond 8 .skip (OP [Bi 15 .eql 3 (cI 13),qm 8 15]))))))))))))) (.cond 8 (.seq (OP [Mv 2 (cI 1)]) .ret) (.seq (.seq (OP [Bi 17 .eql 3 (cI 5),qm 16 17]) (.cond 16 .skip (.seq (OP [Bi 18 .eql 3 (cI 6),qm 16 18]) (.cond 16 .skip (.seq (OP [Bi 19 .eql 3 (cI 10),qm 16 19]) (.cond 16 .skip (OP [Bi 20 .eql 3 (cI 14),qm 16 20]))))))) (.cond 16 (.seq (OP [Mv 2 (cI 2)]) .ret) .skip)))))))) (.seq (OP [Mv 2 (cI (-1))]) .ret))
theorem ztR:zy Tryz.prog 181 21 [.tmp 2] c181:=fK Tryz.func181
def zwU:PC:=.seq (OP [Bi 51 .lss 50 49]) (.seq (.cond 51 .skip (.exit 1)) (.seq (.block 2 (.seq (OP [Ia 52 3 48 50,LA 53 3 52,q 8 (.alloc [(.int .i64 0),(.int .i64 0),(.slice none 0 0)]),So 3 8 53]) (.seq (OP [LA 54 3 8,qm 55 1,Bi 56 .add 55 (cI 1),qm 57 2,Ca 58 111 [54,56,57],qm 9 58]) (.seq (OP [qm 59 9,Bi 60 .neq 59 (cI 0)]) (.cond 60 (.seq (OP [qm 61 9,qm 6 61]) .ret) .skip))))) (OP [Bi 62 .add 50 (cI 1),qm 50 62])))
def c111:PC:=.seq (OP [Bx 3 0,Mv 6 (cI 0)]) (.seq (OP [qm 10 2,q 11 (.zn 10),Lo 12 11,Bi 13 .add 12 (cI 1),q 14 (.zn 10),So 1 14 13]) (.seq (.block 0 (.seq (OP [qm 16 2,q 17 (.zn 16),Lo 18 17,Bi 19 .gtr 18 (cI 60),qm 15 19]) (.cond 15 (.seq (OP [Mv 6 (cI 2)]) .ret) (.seq (OP [qm 21 1,Bi 22 .gtr 21 (cI 20),qm 20 22]) (.cond 20 (.seq (OP [Mv 6 (cI 5)]) .ret) (.seq (.seq (.ops [Fa 24 0 3,qd 25 (.zg 24) 1,qd 26 (.call 181 [25]) 3,Fa 27 2 3,qd 28 (.zg 27) 8,qd 29 (.len 28) 24,qd 30 (.bin .neq 26 29) 63,qw 23 30 127] true) (.cond 23 .skip (.seq (OP [Fa 31 1 3,Lo 32 31,Bi 33 .lss 32 (cI 0),qm 34 33,GF 35 34 (.zz 1 3),GF 36 34 (.zg 35),GF 37 34 (.bin .gtr 36 (cI 63)),Pk 38 34 cT 37,qm 23 38]) (.cond 23 .skip (OP [Fa 39 0 3,Lo 40 39,Bi 41 .neq 40 (cI 3),qm 42 41,GT 43 42 (.zz 1 3),GT 44 42 (.zg 43),GT 45 42 (.bin .neq 44 (cI 0)),Pk 46 42 45 cF,qm 23 46]))))) (.cond 23 (.seq (OP [Mv 6 (cI 1)]) .ret) .skip))))))) (.seq (.seq (OP [Fa 47 2 3,Lo 48 47,Ln 49 48,Mv 50 (cI 0)]) (.block 1 (.loop zwU))) (.seq (OP [Mv 6 (cI 0)]) .ret))))
theorem zsZ:zy Tryz.prog 111 63 [.tmp 6] c111:=fK Tryz.func111
def c52:PC:=.seq (OP [Bx 1 0,Mv 2 (cI 0)]) (.seq (OP [q 3 (.alloc [(.int .i64 0)]),So 1 3 (cI 0)]) (.seq (OP [LA 4 3 1,Ca 5 111 [4,(cI 1),3],qm 2 5]) .ret))
theorem zxy:zy Tryz.prog 52 6 [.tmp 2] c52:=fK Tryz.func52
theorem zra (k:Int):zq Tryz.prog 181 [.sc (.int .i64 k)] (.sc (.int .i64 (xn k))):=by
 refine za ztR zs (by simp[ze,Pure]) ?_ (by simp[Pure])
 refine sR ?_
 repeat' (first|refine sS (λh=>?_) λh=>?_|exact yA (by simp_all [xn]))
theorem zn2:∀(t:Tree) (d n:Int),Small t→0≤d→d≤21→0≤n→n≤60→yu Tryz.prog 111 ([zZ t,.sc (.int .i64 d)]++.loc 0 0::[]) [.row true [.sc (.int .i64 n)]] (.sc (.int .i64 (vp xn t d n).1)) [.row true [.sc (.int .i64 (vp xn t d n).2)]]:=by
 intro t
 induction t using Tree.ind with
 | h t ih =>
  intro d n hs hd hd' hn hn'
  have hsz:=hs.width
  refine z1 zsZ zs zs ?_ (by simp[zt]) (by simp[zf.under,zl,zt])
  refine sR ?_
  refine .inl ⟨by unfold InR;rw[IntKind.wrap_i64];omega,?_⟩
  refine sW ?_
  have e:=zmn xn t d n
  refine sS (λh1=>?_) λh1=>?_
  ·simp at h1
   rw[e,if_pos h1]
   exact⟨rfl,rfl,zs⟩
  rw[if_neg (by simpa using h1)] at e
  refine sS (λh2=>?_) λh2=>?_
  ·simp at h2
   rw[e,if_pos h2]
   exact⟨rfl,rfl,zs⟩
  rw[if_neg (by simpa using h2)] at e
  refine sC (zra t.kind) ?_
  have odd:yC xn t→vp xn t d n=(1,n+1):=λh=>by rw[e,if_pos h]
  have bad:yC xn t→(D.sc (Value.int IntKind.i64 1)=.sc (.int .i64 (vp xn t d n).1)∧List.take [zf.row true [D.sc (Value.int IntKind.i64 (vp xn t d n).2)]].length [zf.row true [D.sc (Value.int IntKind.i64 (n+1))],zf.row true (yo t)]=[zf.row true [D.sc (Value.int IntKind.i64 (vp xn t d n).2)]]∧[zf.row true [D.sc (Value.int IntKind.i64 (vp xn t d n).2)]].length≤2):=λh=>by
   rw[odd h];exact⟨rfl,rfl,zs⟩
  repeat' (first
   | refine sS (λh=>?_) λh=>?_
   | exact bad (by unfold yC Tree.width;simp_all;try omega))
  all_goals
   have hno:¬yC xn t:=by unfold yC Tree.width;simp_all;try omega
   rw[if_neg hno] at e
   have hn1:n+1≤60:=by simp at h1;omega
   have hd1:d≤20:=by simp at h2;omega
   refine WM (λx:Nat × Int=>[(1,.sc (.int .i64 d)),(2,.loc 0 0),(48,.xj 3 (t.kids.map y6)),(49,.sc (.int .i64 (t.kids.map y6).length)),(50,.sc (.int .i64 x.1))])
    (λx=>[.row true [.sc (.int .i64 x.2)],.row true (yo t)]) (λx=>x.1≤t.width∧0≤x.2∧x.2≤60∧Ye xn t.kids (d+1) (n+1)=Ye xn (t.kids.drop x.1) (d+1) x.2) (λx=>t.width-x.1) (0,n+1)
    ⟨zs,by simp;omega,hn1,rfl⟩ (zau ⟨rfl,rfl,rfl,rfl,rfl,trivial⟩) ?_
   clear h1 h2
   rintro⟨k,m⟩ ⟨hk,hm0,hm1,hF⟩
   refine sR ?_
   refine sS (λh4=>?_) λh4=>?_
   ·have hk':k<t.width:=by simpa [Tree.width] using h4
    rw[zgM _ hk'] at hF
    refine sL (y8 hk') ?_
    refine .inl ⟨by unfold InR;rw[IntKind.wrap_i64];omega,?_⟩
    refine sW ?_
    refine sA (wU (ih k hk' (d+1) m (hs.yD hk') zo zo hm0 hm1) (by simp[ze,zm,Pure]) (by simp[ze]) (by simp[ze,Pure]) (by simp[ze,Pure]) (by simp[Pure]) (id:=0) rfl) ?_
    refine sS (λh5=>?_) λh5=>?_
    ·rw[e,hF,if_neg (by simpa using h5)]
     exact⟨rfl,rfl,zs⟩
    ·have h5':(vp xn (t.yD k) (d+1) m).1=0:=by simpa using h5
     rw[if_pos h5'] at hF
     have b1:=(zbw xn (t.yD k) (d+1) m).1
     have b2:=zcR xn (t.yD k) (d+1) m h5'
     refine .inl ⟨by unfold InR;rw[IntKind.wrap_i64];unfold Tree.width at *;omega,?_⟩
     refine sW ?_
     refine⟨(k+1,(vp xn (t.yD k) (d+1) m).2),⟨by dsimp only at *;omega,by dsimp only at *;omega,b2,hF⟩,by dsimp only at *;omega,zj 2 zs rfl ⟨.refl _,by simp[zt],.refl _,by simp[zt],.refl _,by simp only[zt];exact zh _ (xG t),.refl _,by simp[zt],.refl _,by simp[zt],trivial⟩
      ⟨⟨rfl,.refl _,by simp[zl,zt]⟩,⟨rfl,.refl _,zr _ (ym t)⟩,trivial⟩⟩
   ·have hk':k=t.width:=by have:¬k<t.width:=by simpa [Tree.width] using h4
                           dsimp only at hk;omega
    rw[e,hF,hk',zf6]
    exact⟨rfl,rfl,zs⟩
theorem zg1 (t:Tree) (hs:Small t):zq Tryz.prog 52 [zZ t] (.sc (.int .i64 (yJ xn t))):=by
 refine za zxy zs (by simp[ze,zm]) ?_ (by simp[Pure])
 refine sR ?_
 refine sA (wU (zn2 t 1 0 hs zo zo zo zo) (by simp[ze,zm,Pure]) (by simp[ze]) (by simp[ze,Pure]) (by simp[ze,Pure]) (by simp[Pure]) (H:=[.row true (yo t),.row true [.sc (.int .i64 0)]]) (id:=1) rfl) ?_
 exact .refl _
end
end Go.Proofs.YtoehflejhaakpaaGreatDoor
