/-
  watchtop.TopDead returns true for every process and bounds, and each argument reads afterwards as it read before. The condition: the variables unicode/utf8.acceptRanges and unicode/utf8.first hold what the program's text lays (the walk reads neither).
-/
import Derived.Test.YthoklahpcibacaaGreatDoorZ1
import Derived.Test.YthoklahpcibacaaGreatDoorZ4
import Derived.Test.YthoklahpcibacaaGreatDoorZ2
import Derived.Test.YthoklahpcibacaaGreatDoorZ3
import Derived.OpenShut
import Derived.FnData
import Derived.LaidLaws
import Derived.LaidHandle
import Derived.Lay
import Derived.Stop.Joined
import Derived.Test.YthoklahpcibacaaGreatDoorRows
import Derived.Test.YthoklahpcibacaaGreatDoorTie
import Derived.Test.YthoklahpcibacaaGreatDoorCards
namespace Go.Proofs.YthoklahpcibacaaGreatDoor
set_option linter.unusedSimpArgs false
set_option linter.unusedVariables false
set_option maxRecDepth 100000
section
open Go.RowKit
def c73:PC:=.seq (OP [Mv 6 (cS #[])]) (.seq (.seq (OP [qm 7 0,Bi 8 .eql 7 (cI 63),qm 9 8,GT 10 9 (.move 2),Pk 11 9 10 cF]) (.cond 11 (.seq (OP [Mv 6 (cS #[115,105,108,101,110,116])]) .ret) .skip)) (.seq (.seq (OP [qm 12 0,Bi 13 .lss 12 (cI 0),qm 14 13,GF 15 14 (.move 0),GF 16 14 (.move 1),GF 17 14 (.len 16),GF 18 14 (.bin .geq 15 17),Pk 19 14 cT 18,qm 20 19,GF 21 20 (.move 0),GF 22 20 (.bin .geq 21 (cI 63)),Pk 23 20 cT 22,qm 24 23,GF 25 24 (.move 1),GF 26 24 (.move 0),GF 27 24 (.zM 1 25 26),GF 28 24 (.zi 27),GF 29 24 (.call 42 [28]),GF 30 24 (.un .not 29),Pk 31 24 cT 30,qm 32 31,GF 33 32 (.move 1),GF 34 32 (.move 1),GF 35 32 (.move 0),GF 36 32 (.zM 1 34 35),GF 37 32 (.zi 36),GF 38 32 (.call 129 [33,37]),GF 39 32 (.move 0),GF 40 32 (.bin .neq 38 39),Pk 41 32 cT 40]) (.cond 41 (.seq (OP [Mv 6 (cS #[])]) .ret) .skip)) (.seq (OP [qm 42 1,qm 43 0,Ia 44 1 42 43,Lo 45 44,qm 6 45]) .ret)))
theorem zxC:zz Tryz.prog 73 46 [.tmp 6] c73:=fK Tryz.func73
theorem znI (names:List ByteArray) (hs:QG names) (n:Int) (silent:Bool):zu Tryz.prog 73 [.sc (.int .i64 n),qK names,.sc (.bool silent)] (.sc (.string (rnm names silent n))):=by
 refine zb zxC zs (by simp[ze,Pure,wE]) ?_ (by simp[Pure])
 unfold qK
 refine sR ?_
 have eq:∀{s:ByteArray},s=rnm names silent n→Deep [] (D.sc (.string s)) (.sc (.string (rnm names silent n))):=λh=>h▸.refl _
 cases e1:(n==63)
 ·have e1:n≠63:=by simpa using e1
  have g1:¬(n=63∧silent=true):=λh=>e1 h.1
  refine sW ?_
  cases e2:decide (n<0)
  ·refine sW ?_
   rw[List.length_map]
   cases e3:decide (n≥(names.length:Int))
   ·refine sW ?_
    cases e4:decide (n≥63)
    ·have e2:¬n<0:=of_decide_eq_false e2
     have e3:¬n≥(names.length:Int):=of_decide_eq_false e3
     have e4:¬n≥63:=of_decide_eq_false e4
     have hk:n.toNat<names.length:=zo
     have g2:¬(n<0∨(names.length:Int)≤n∨63≤n):=zo
     refine sW ?_
     refine sL (zhk hk) ?_
     refine sC (W4 _ (hs.at hk)) ?_
     cases e5:x7 (names.getD n.toNat ⟨#[]⟩)
     ·refine sW ?_
      exact eq (by unfold rnm;rw[if_neg g1,if_neg g2,if_pos e5])
     ·refine sW ?_
      refine sL (zhk hk) ?_
      refine sC (zn1 names _ hs.1) ?_
      have hd:=zsT hk
      rw[show(n.toNat:Int)=n by omega] at hd
      refine sS (λh4=>?_) λh4=>?_
      ·exact eq (by have:zeP names n.toNat (names.getD n.toNat ⟨#[]⟩)=true:=hd.1 (by simpa using h4)
                    unfold rnm;rw[if_neg g1,if_neg g2,if_neg (by rw[e5];decide),if_pos this])
      ·refine sL (zhk hk) ?_
       exact eq (by have:¬zeP names n.toNat (names.getD n.toNat ⟨#[]⟩)=true:=λh=>hd.2 h (by simpa using h4)
                    unfold rnm;rw[if_neg g1,if_neg g2,if_neg (by rw[e5];decide),if_neg this])
    ·refine sW ?_
     exact eq (by unfold rnm;rw[if_neg g1,if_pos (by have:=of_decide_eq_true e4;omega)])
   ·refine sW ?_
    exact eq (by unfold rnm;rw[if_neg g1,if_pos (by have:=of_decide_eq_true e3;omega)])
  ·refine sW ?_
   exact eq (by unfold rnm;rw[if_neg g1,if_pos (by have:=of_decide_eq_true e2;omega)])
 ·have e1:n=63:=by simpa using e1
  subst e1
  refine sW ?_
  cases silent
  ·refine sW ?_
   rw[List.length_map]
   cases e3:decide ((63:Int)≥(names.length:Int))
   ·refine sW ?_
    exact eq (by simp[rnm])
   ·refine sW ?_
    exact eq (by simp[rnm])
  ·refine sW ?_
   exact eq (by simp[rnm,W5])
def c72:PC:=.seq (OP [Mv 4 cF]) (.seq (OP [qm 5 0,Lo 6 1,Lo 7 2,Ca 8 73 [5,6,7],Bi 9 .eql 8 (cS #[]),qm 4 9]) .ret)
theorem zxF:zz Tryz.prog 72 10 [.tmp 4] c72:=fK Tryz.func72
theorem zdE (names:List ByteArray) (hs:QG names) (silent:Bool) (n:Int):zu Tryz.prog 72 [.sc (.int .i64 n),.xk [qK names],.xk [.sc (.bool silent)]] (.sc (.bool (zcE names silent n))):=by
 refine zb zxF zs (by simp[ze,Pure,wE]) ?_ (by simp[Pure])
 refine sR ?_
 refine sC (znI names hs n silent) ?_
 exact .refl _
def c67:PC:=.seq (OP [Bx 1 0,Mv 2 cN,Mv 3 cN]) (.seq (OP [Fa 4 2 1,Lo 5 4,Bs 6 1 1 [5],qm 2 6]) (.seq (.seq (OP [Fa 7 0 1,Lo 8 7,Bi 9 .eql 8 (cI 5),qm 10 9,GF 11 10 (.zv 0 1),GF 12 10 (.zi 11),GF 13 10 (.bin .eql 12 (cI 6)),Pk 14 10 cT 13]) (.cond 14 (OP [Fa 15 3 1,Lo 16 15,Fa 17 2 1,Lo 18 17,Bs 19 1 2 [16,18],qm 2 19]) .skip)) (.seq (.seq (OP [Fa 20 1 1,Lo 21 20]) (.block 0 (.seq (OP [Bi 23 .eql 21 (cI 2),qm 22 23]) (.cond 22 (OP [Fa 24 5 1,Lo 25 24,Bs 26 1 1 [25],qm 3 26]) (.seq (OP [Bi 28 .eql 21 (cI 3),qm 27 28]) (.cond 27 (OP [Fa 29 4 1,Lo 30 29,Bs 31 1 1 [30],qm 3 31]) (.seq (.seq (OP [Bi 33 .eql 21 (cI 4),qm 32 33]) (.cond 32 .skip (OP [Bi 34 .eql 21 (cI 5),qm 32 34]))) (.cond 32 (OP [Fa 35 4 1,Lo 36 35,Fa 37 5 1,Lo 38 37,Bs 39 1 2 [36,38],qm 3 39]) .skip)))))))) (.seq (OP [qm 40 2,qm 41 3,qm 2 40,qm 3 41]) .ret))))
theorem zpM:zz Tryz.prog 67 42 [.tmp 2,.tmp 3] c67:=fK Tryz.func67
theorem zg1 (x:Zt) (h:x.kind≠5∧x.kind≠6) (k:x.scope≠2∧x.scope≠3∧x.scope≠4∧x.scope≠5):yB Tryz.prog 67 [zas x] [] (.yI [.own 1 0 0 1,.sc (.slice none 0 0)]) [.row true (zV x),.vec true 0 1 (zI [x.p])]:=by
 refine yp zpM zs zs ?_ (by simp[zp,zl]) (by simp[zf.under,zV,zl,zD,zp,zI])
 refine sR ?_
 rw[show(x.kind==5)=false from wI zo]
 refine sW ?_
 rw[show(x.kind==6)=false from wI zo]
 refine sW ?_
 rw[show(x.scope==2)=false from wI zo]
 refine sW ?_
 rw[show(x.scope==3)=false from wI zo]
 refine sW ?_
 rw[show(x.scope==4)=false from wI zo]
 refine sW ?_
 rw[show(x.scope==5)=false from wI zo]
 refine sW ?_
 exact Nat.le_refl _
theorem zhm (x:Zt) (h:x.kind=5∨x.kind=6) (k:x.scope≠2∧x.scope≠3∧x.scope≠4∧x.scope≠5):yB Tryz.prog 67 [zas x] [] (.yI [.own 2 0 0 2,.sc (.slice none 0 0)]) [.row true (zV x),.vec true 0 1 (zI [x.p]),.vec true 0 1 (zI [x.s,x.p])]:=by
 refine yp zpM zs zs ?_ (by simp[zp,zl]) (by simp[zf.under,zV,zl,zD,zp,zI])
 refine sR ?_
 rcases h with h|h
 ·rw[show(x.kind==5)=true from zgT zo]
  refine sW ?_
  rw[show(x.scope==2)=false from wI zo]
  refine sW ?_
  rw[show(x.scope==3)=false from wI zo]
  refine sW ?_
  rw[show(x.scope==4)=false from wI zo]
  refine sW ?_
  rw[show(x.scope==5)=false from wI zo]
  refine sW ?_
  exact Nat.le_refl _
 ·rw[show(x.kind==5)=false from wI zo]
  refine sW ?_
  rw[show(x.kind==6)=true from zgT zo]
  refine sW ?_
  rw[show(x.scope==2)=false from wI zo]
  refine sW ?_
  rw[show(x.scope==3)=false from wI zo]
  refine sW ?_
  rw[show(x.scope==4)=false from wI zo]
  refine sW ?_
  rw[show(x.scope==5)=false from wI zo]
  refine sW ?_
  exact Nat.le_refl _
def c43:PC:=.seq (OP [Bx 2 0,Bx 3 1,Mv 4 (cI 0)]) (.seq (OP [Mv 5 (cI 0)]) (.seq (OP [Mv 6 cN]) (.seq (OP [q 7 (.alloc [(.bool false)]),So 1 7 cF]) (.seq (.seq (OP [Fa 10 1 2,Lo 11 10]) (.block 0 (.seq (OP [Bi 13 .eql 11 (cI 1),qm 12 13]) (.cond 12 (.seq (OP [Fa 14 2 2,LA 15 7 14,Ca 16 66 [15],qm 5 16]) (.seq (OP [Fa 18 2 2,LA 19 7 18,Ca 20 67 [19],qm 17 20,Xt 21 0 17,Xt 22 1 17,qm 8 21,qm 9 22]) (OP [qm 23 8,qm 24 9,Ap 25 1 8 23 24,qm 6 25,So 1 7 cT]))) (.seq (OP [Bi 27 .eql 11 (cI 2),qm 26 27]) (.cond 26 (.seq (OP [Fa 28 9 2,LA 29 4 28,Ca 30 68 [29],qm 5 30]) (.seq (OP [Fa 31 9 2,Fa 32 1 31,Lo 33 32,Bs 34 1 1 [33],qm 6 34]) (.seq (OP [Fa 35 9 2,Fa 36 0 35,Lo 37 36,Ca 38 69 [37],Nt 39 38]) (.cond 39 (OP [qm 40 6,Fa 41 9 2,Fa 42 2 41,Lo 43 42,Bs 44 1 1 [43],Ap 45 1 8 40 44,qm 6 45]) .skip)))) (.seq (OP [Bi 47 .eql 11 (cI 3),qm 46 47]) (.cond 46 (OP [Fa 49 13 2,LA 50 3 49,Lo 51 3,Ca 52 70 [50,51],qm 48 52,Xt 53 0 48,Xt 54 1 48,qm 5 54]) (.seq (OP [Bi 56 .eql 11 (cI 4),qm 55 56]) (.cond 55 (OP [Fa 58 16 2,LA 59 3 58,Lo 60 3,Ca 61 71 [59,60],qm 57 61,Xt 62 0 57,Xt 63 1 57,qm 5 63]) .skip)))))))))) (.seq (.seq (OP [qm 64 5,Bi 65 .eql 64 (cI 0),qm 66 65,GT 67 66 (.move 6),GT 68 66 (.ZP (.func 72) [] [3,7]),GT 69 66 (.call 27 [67,68]),Pk 70 66 69 cF]) (.cond 70 (.seq (OP [Mv 4 (cI 4)]) .ret) .skip)) (.seq (OP [qm 71 5,qm 4 71]) .ret))))))
theorem zqh:zz Tryz.prog 43 72 [.tmp 4] c43:=fK Tryz.func43
section
variable (names:List ByteArray) (hn:QG names) (name:ByteArray) (sort:Int) (x:Zt) (k a b c:Int) (f g:Tree)
include hn
theorem zjT (h1:sort=1) (hk:x.kind≠5∧x.kind≠6) (hs:x.scope≠2∧x.scope≠3∧x.scope≠4∧x.scope≠5):zu Tryz.prog 43 [Zd name sort x k a b c f g,qK names] (.sc (.int .i64 (Wv names sort x k a b c f g))):=by
 have hE:Wv names sort x k a b c f g=if vR x=0∧(Ug x++VC x).any (zcE names true)=true then 4 else vR x:=by unfold Wv;rw[if_pos h1]
 have hO:Ug x=[x.p]:=by unfold Ug;rw[if_neg zo]
 have hP:VC x=[]:=by unfold VC;rw[if_neg zo,if_neg zo,if_neg zo]
 rw[hO,hP] at hE
 have hCk:=zai x
 have hA:=zg1 x hk hs
 have hF:=xa (λn=>.sc (.int .i64 n)) (λ_=>by simp[Pure]) ([x.p]++[]) zs (zcE names true) 72 [.xk [qK names],.xk [.sc (.bool true)]] (by simp[ze,Pure,wE]) (λn _=>zdE names hn true n)
 refine zb zqh zs (by simp[ze,u7,wE]) ?_ (by simp[Pure])
 rw[hE]
 unfold Zd W7 zV zas at *
 refine sR ?_
 rw[zgT h1]
 refine sW ?_
 refine sC hCk ?_
 refine sE (vq hA (by simp[ze,Pure,zV]) [3,4] rfl rfl (by simp[zf.yy,yG,D.yy];rfl)) ?_
 refine sJ ?_
 cases e:(vR x==0)
 ·refine sW ?_
  exact yu (congrArg (λz=>D.sc (.int .i64 z)) (if_neg (λh=>by have:=h.1;simp[this] at e)).symm)
 ·have e:vR x=0:=by simpa using e
  refine sW ?_
  refine sN hF ?_
  cases e2:([x.p]++[]).any (zcE names true)
  ·refine sW ?_
   exact yu (congrArg (λz=>D.sc (.int .i64 z)) (if_neg (λh=>by cases h.2)).symm)
  ·refine sW ?_
   exact yu (congrArg (λz=>D.sc (.int .i64 z)) (if_pos ⟨e,rfl⟩).symm)
theorem ziF (h1:sort=1) (hk:x.kind=5∨x.kind=6) (hs:x.scope≠2∧x.scope≠3∧x.scope≠4∧x.scope≠5):zu Tryz.prog 43 [Zd name sort x k a b c f g,qK names] (.sc (.int .i64 (Wv names sort x k a b c f g))):=by
 have hE:Wv names sort x k a b c f g=if vR x=0∧(Ug x++VC x).any (zcE names true)=true then 4 else vR x:=by unfold Wv;rw[if_pos h1]
 have hO:Ug x=[x.s,x.p]:=by unfold Ug;rw[if_pos zo]
 have hP:VC x=[]:=by unfold VC;rw[if_neg zo,if_neg zo,if_neg zo]
 rw[hO,hP] at hE
 have hCk:=zai x
 have hA:=zhm x hk hs
 have hF:=xa (λn=>.sc (.int .i64 n)) (λ_=>by simp[Pure]) ([x.s,x.p]++[]) zs (zcE names true) 72 [.xk [qK names],.xk [.sc (.bool true)]] (by simp[ze,Pure,wE]) (λn _=>zdE names hn true n)
 refine zb zqh zs (by simp[ze,u7,wE]) ?_ (by simp[Pure])
 rw[hE]
 unfold Zd W7 zV zas at *
 refine sR ?_
 rw[zgT h1]
 refine sW ?_
 refine sC hCk ?_
 refine sE (vq hA (by simp[ze,Pure,zV]) [3,4,5] rfl rfl (by simp[zf.yy,yG,D.yy];rfl)) ?_
 refine sJ ?_
 cases e:(vR x==0)
 ·refine sW ?_
  exact yu (congrArg (λz=>D.sc (.int .i64 z)) (if_neg (λh=>by have:=h.1;simp[this] at e)).symm)
 ·have e:vR x=0:=by simpa using e
  refine sW ?_
  refine sN hF ?_
  cases e2:([x.s,x.p]++[]).any (zcE names true)
  ·refine sW ?_
   exact yu (congrArg (λz=>D.sc (.int .i64 z)) (if_neg (λh=>by cases h.2)).symm)
  ·refine sW ?_
   exact yu (congrArg (λz=>D.sc (.int .i64 z)) (if_pos ⟨e,rfl⟩).symm)
end
def c18:PC:=.seq (OP [Bx 2 0,Mv 4 (cI 0)]) (.seq (.seq (OP [Fa 7 0 2,Lo 8 7,Ca 9 42 [8],Nt 10 9,qm 11 10,GF 12 11 (.zv 1 2),GF 13 11 (.zi 12),GF 14 11 (.bin .lss 13 (cI 1)),Pk 15 11 cT 14,qm 16 15,GF 17 16 (.zv 1 2),GF 18 16 (.zi 17),GF 19 16 (.bin .gtr 18 (cI 4)),Pk 20 16 cT 19]) (.cond 20 (.seq (OP [Mv 4 (cI 1)]) .ret) .skip)) (.seq (.seq (OP [LA 21 19 2,qm 22 1,Ca 23 43 [21,22],qm 5 23]) (.seq (OP [qm 24 5,Bi 25 .neq 24 (cI 0)]) (.cond 25 (.seq (OP [qm 26 5,qm 4 26]) .ret) .skip))) (.seq (OP [Fa 27 1 2,Lo 28 27,Bi 29 .neq 28 (cI 1),qm 30 29,GT 31 30 (.zv 2 2),GT 32 30 (.v7 7 31),GT 33 30 (.build [(.int .i64 0),(.int .i64 0),(.int .i64 0),(.int .i64 0),(.int .i64 0),(.int .i64 0),(.int .i64 0)] []),GT 34 30 (.eqa true [0,0,0,0,0,0,0] 32 33),Pk 35 30 34 cF,qm 36 35,GF 37 36 (.zv 1 2),GF 38 36 (.zi 37),GF 39 36 (.bin .neq 38 (cI 2)),GF 40 36 (.move 39),GT 41 40 (.zv 9 2),GT 42 40 (.v7 4 41),GT 43 40 (.build [(.int .i64 0),(.int .i64 0),(.int .i64 0),(.int .i64 0)] []),GT 44 40 (.eqa true [0,0,0,0] 42 43),GF 45 36 (.pick 40 44 cF),Pk 46 36 cT 45,qm 6 46]) (.seq (OP [qm 47 6,qm 48 47,GF 49 48 (.zv 1 2),GF 50 48 (.zi 49),GF 51 48 (.bin .neq 50 (cI 3)),GF 52 48 (.move 51),GT 53 52 (.zv 13 2),GT 54 52 (.zv 0 53),GT 55 52 (.zi 54),GT 56 52 (.bin .neq 55 (cI 0)),GT 57 52 (.move 56),GF 58 57 (.zv 13 2),GF 59 57 (.zv 1 58),GF 60 57 (.zi 59),GF 61 57 (.bin .neq 60 (cI 0)),GT 62 52 (.pick 57 cT 61),GT 63 52 (.move 62),GF 64 63 (.zv 13 2),GF 65 63 (.zv 2 64),GF 66 63 (.zi 65),GF 67 63 (.len 66),GF 68 63 (.bin .gtr 67 (cI 0)),GT 69 52 (.pick 63 cT 68),GF 70 48 (.pick 52 69 cF),Pk 71 48 cT 70,qm 6 71]) (.seq (.seq (OP [qm 72 6,qm 73 72,GF 74 73 (.zv 1 2),GF 75 73 (.zi 74),GF 76 73 (.bin .neq 75 (cI 4)),GF 77 73 (.move 76),GT 78 77 (.zv 16 2),GT 79 77 (.zv 0 78),GT 80 77 (.zi 79),GT 81 77 (.bin .neq 80 (cI 0)),GT 82 77 (.move 81),GF 83 82 (.zv 16 2),GF 84 82 (.zv 1 83),GF 85 82 (.zi 84),GF 86 82 (.bin .neq 85 (cI 0)),GT 87 77 (.pick 82 cT 86),GT 88 77 (.move 87),GF 89 88 (.zv 16 2),GF 90 88 (.zv 2 89),GF 91 88 (.zi 90),GF 92 88 (.len 91),GF 93 88 (.bin .gtr 92 (cI 0)),GT 94 77 (.pick 88 cT 93),GF 95 73 (.pick 77 94 cF),Pk 96 73 cT 95]) (.cond 96 (.seq (OP [Mv 4 (cI 1)]) .ret) .skip)) (.seq (OP [Mv 4 (cI 0)]) .ret))))))
theorem zvL:zz Tryz.prog 18 97 [.tmp 4] c18:=fK Tryz.func18
end
section
open Go.RowKit
theorem ziG (names:List ByteArray) (hn:QG names) (name:ByteArray) (hnm:name.size≤9223372036854775807) (x:Zt) (hx:x.scope=1) :
  zu Tryz.prog 18 [Zd name 1 x 0 0 0 0 (xD 0 0) (xD 0 0),qK names] (.sc (.int .i64 (XQ names name 1 x 0 0 0 0 (xD 0 0) (xD 0 0)))):=by
 have hN:=W4 name hnm
 refine zb zvL zs (by simp[ze,u7,wE]) ?_ (by simp[Pure])
 have fin:∀{H:List zf} {z:Int},z=XQ names name 1 x 0 0 0 0 (xD 0 0) (xD 0 0)→Deep H (.sc (.int .i64 z)) (.sc (.int .i64 (XQ names name 1 x 0 0 0 0 (xD 0 0) (xD 0 0)))):=λh=>h▸.refl _
 have hP:zu Tryz.prog 43 [Zd name 1 x 0 0 0 0 (xD 0 0) (xD 0 0),qK names] (.sc (.int .i64 (Wv names 1 x 0 0 0 0 (xD 0 0) (xD 0 0)))):=by
  by_cases hk:x.kind=5∨x.kind=6
  ·exact ziF names hn name 1 x 0 0 0 0 _ _ rfl hk zo
  ·exact zjT names hn name 1 x 0 0 0 0 _ _ rfl zo zo
 have hB:zhd 1 x 0 0 0 0 (xD 0 0) (xD 0 0)=false:=rfl
 unfold Zd W7 zV WU yS at *
 refine sR ?_
 refine sC hN ?_
 cases e1:x7 name
 ·refine sW ?_
  exact fin (by unfold XQ;rw[if_pos (.inl e1)])
 ·refine sW ?_
  refine sC hP ?_
  refine sS (λe2=>?_) λe2=>?_
  ·have e2:Wv names 1 x 0 0 0 0 (xD 0 0) (xD 0 0)≠0:=by simpa using e2
   exact fin (by unfold XQ;rw[if_neg (by rw[e1];simp),if_pos e2])
  ·have e2:Wv names 1 x 0 0 0 0 (xD 0 0) (xD 0 0)=0:=by simpa using e2
   exact fin (by unfold XQ;rw[if_neg (by rw[e1];simp),if_neg (by simp[e2]),hB];rfl)
theorem zeV (name:ByteArray) (x:Zt) (f g:Tree) (k a b c:Int):zu Tryz.prog 21 [Zd name 1 x k a b c f g] (Qh (zc2 1 x k a b c f) (wN 1 x k a b c f)):=by
 refine zb zyA zs (by simp[ze,u7]) ?_ (zeg _ _)
 have e:zc2 1 x k a b c f=zav x:=rfl
 have t:wN 1 x k a b c f=yO x:=rfl
 rw[e,t]
 refine sR ?_
 refine sC (zoF x) ?_
 exact .refl _
end
section
open Go.RowKit
def zzC:PC:=.seq (OP [Bi 10 .lss 9 8]) (.seq (.cond 10 .skip (.exit 0)) (.seq (.block 1 (.seq (OP [Ia 11 2 7 9,LA 12 2 11,q 5 (.alloc [(.string ⟨#[]⟩),(.int .i64 0)]),So 2 5 12]) (OP [qm 13 3,Fa 14 0 5,Lo 15 14,Bs 16 1 1 [15],Ap 17 1 16 13 16,qm 3 17]))) (OP [Bi 18 .add 9 (cI 1),qm 9 18])))
def c19:PC:=.seq (OP [Bx 1 0,Mv 2 cN]) (.seq (OP [Mv 3 cN]) (.seq (.seq (OP [Fa 6 0 1,Lo 7 6,Ln 8 7,Mv 9 (cI 0)]) (.block 0 (.loop zzC))) (.seq (OP [qm 19 3,qm 2 19]) .ret)))
theorem zyp:zz Tryz.prog 19 20 [.tmp 2] c19:=fK Tryz.func19
theorem zlw {P:za} {k:Nat} (h:k<P.nodes.length):List.drop 0 (List.take k (((P.nodes.take k).map λx=>x.1).map λs=>[D.sc (.string s)]))++[[D.sc (.string (P.name k))]]=((P.nodes.take (k+1)).map λx=>x.1).map λs=>[D.sc (.string s)]:=by
 rw[zr (by simp;omega),List.take_add_one,List.getElem?_eq_getElem h]
 unfold za.name
 rw[List.getD_eq_getElem?_getD,List.getElem?_eq_getElem h]
 simp only[List.map_append,List.map_cons,List.map_nil,Option.toList_some,Option.getD_some]
def Zh (P:za):List ByteArray:=P.nodes.map λx=>x.1
theorem zry (P:za) (hP:P.nodes.length≤1000000):zu Tryz.prog 19 [yQ P] (qK (Zh P)):=by
 refine zb zyp zs (by simp[ze,z6]) ?_ (wE _)
 refine sR ?_
 rw[List.length_map]
 refine zE (y8 3 1 zs rfl) ?_
 refine zL [7,8] (λk:Nat=>[(3,.own 1 k 0 k),(9,.sc (.int .i64 k))]) (λk=>[(1,.vec true k 1 (((P.nodes.take k).map λx=>x.1).map λs=>[.sc (.string s)]))]) (λk=>k≤P.nodes.length) (λk=>P.nodes.length-k) 0 ?_
 refine sW ?_
 refine⟨zo,by exact sK,rfl,?_⟩
 rintro k hk
 refine sW ?_
 refine sR ?_
 refine sS (λh=>?_) λh=>?_
 ·have hk':k<P.nodes.length:=sO
  refine sL (ZZ P (k:=k) zo hk') ?_
  refine sJ ?_
  refine sI ?_
  refine⟨k+1,zo,zd,?_⟩
  refine zj 2 zs rfl sQ (sU ?_)
  exact zk (zlw hk')
 ·have hk':k=P.nodes.length:=by have:¬k<P.nodes.length:=sO
                                omega
  subst hk'
  refine .own _ _ _ _ _ _ _ _ rfl ?_
  rw[zr zs,List.take_length]
  exact zU _
def zAu:PC:=.seq (OP [Bi 11 .lss 10 9]) (.seq (.cond 11 .skip (.exit 0)) (.seq (.block 1 (.seq (OP [Ia 12 1 8 10,Lo 13 12,qm 7 13]) (OP [qm 14 5,qm 15 0,qm 16 7,Ia 17 2 15 16,Fa 18 0 17,Lo 19 18,Bs 20 1 1 [19],Ap 21 1 8 14 20,qm 5 21]))) (OP [Bi 22 .add 10 (cI 1),qm 10 22])))
def c23:PC:=.seq (OP [Mv 4 cN]) (.seq (OP [Mv 5 cN]) (.seq (.seq (OP [qm 8 1,Ln 9 8,Mv 10 (cI 0)]) (.block 0 (.loop zAu))) (.seq (OP [qm 23 5,qm 4 23]) .ret)))
theorem zxk:zz Tryz.prog 23 24 [.tmp 4] c23:=fK Tryz.func23
theorem zke (of:List zy) (hof:of.length≤1000000) (l:List Int) (hl:l.length≤1000000000000) (yT:xv l of.length=true):zu Tryz.prog 23 [w8 of,zw l] (zw (l.map λn=>(of.getD n.toNat (0,0)).1)):=by
 refine zb zxk zs (by simp[ze,vB,zh]) ?_ (zh _)
 unfold w8 zw
 refine sR ?_
 rw[List.length_map]
 refine zE (y8 5 1 zs rfl) ?_
 refine zL [0,8,9] (λk:Nat=>[(5,.own 0 k 0 k),(10,.sc (.int .i64 k))]) (λk=>[(0,.vec true k 1 (zI ((l.take k).map λn=>(of.getD n.toNat (0,0)).1)))]) (λk=>k≤l.length) (λk=>l.length-k) 0 ?_
 refine sW ?_
 refine⟨zo,by exact sK,rfl,?_⟩
 rintro k hk
 refine sW ?_
 refine sR ?_
 refine sS (λh=>?_) λh=>?_
 ·have hk':k<l.length:=sO
  have hx:=ye yT (yr hk')
  refine sL (yb (k:=k) zo hk') ?_
  refine sL (wC (k:=(l.getD k 0).toNat) zo zo) ?_
  refine sJ ?_
  refine sI ?_
  refine⟨k+1,zo,zd,?_⟩
  refine zj 1 zs rfl sQ (sU ?_)
  refine zk ((xV (by simp;omega)).trans ?_)
  have e:l.getD k 0=l[k]:=by rw[List.getD_eq_getElem?_getD,List.getElem?_eq_getElem hk'];rfl
  rw[List.take_add_one,List.getElem?_eq_getElem hk',e,List.map_append]
  rfl
 ·have hk':k=l.length:=by have:¬k<l.length:=sO
                          omega
  subst hk'
  rw[List.take_length]
  exact Wp zs rfl
section
variable (P:za) (tok st:Int) (name:ByteArray) (sort:Int) (x:Zt) (k a b c:Int) (f g:Tree)
noncomputable def ziL (l:List Int):List Int:=l.map λn=>((wm (P.xI tok st) (P.xI tok st).length).getD n.toNat (0,0)).1
def U7 (h:Bool) (s l:List Int):D:=.agg [.sc (.bool h),zw s,zw l]
theorem zeB (h:Bool) (s l:List Int):Pure (U7 h s l):=by simp[U7,Pure,ze,zh]
end
theorem zpt {H:List zf} {e:Int}:Deep H (.yI [.agg [.sc (.bool false),.sc (.slice none 0 0),.sc (.slice none 0 0)],.sc (.int .i64 e)]) (.yI [U7 false [] [],.sc (.int .i64 e)]) :=
 .yI _ _ (.cons _ _ _ _ (.agg _ _ (.cons _ _ _ _ (.refl _) (.cons _ _ _ _ (.none _) (.cons _ _ _ _ (.none _) .nil)))) (.cons _ _ _ _ (.refl _) .nil))
def c6_1:PC:=.seq (OP [Bi 59 .lss 58 57]) (.seq (.cond 59 .skip (.exit 0)) (.seq (.block 1 (.seq (OP [Ia 60 1 56 58,Lo 61 60,qm 17 61]) (.seq (OP [qm 62 14,qm 63 17,Ia 64 1 62 63,Lo 65 64,Nt 66 65]) (.cond 66 (.seq (OP [q 67 (.build [(.bool false),(.slice none 0 0),(.slice none 0 0)] []),So 3 8 67,Mv 9 (cI 0)]) .ret) .skip)))) (OP [Bi 68 .add 58 (cI 1),qm 58 68])))
def c6:PC:=.seq (OP [Bx 4 0,Bx 5 1,q 8 (.alloc [(.bool false),(.slice none 0 0),(.slice none 0 0)]),Mv 9 (cI 0)]) (.seq (OP [LA 22 2 4,qm 23 2,qm 24 3,Ca 25 17 [22,23,24],qm 21 25,Xt 26 0 21,Xt 27 1 21,Xt 28 2 21,q 10 (.alloc [(.slice none 0 0),(.slice none 0 0),(.slice none 0 0),(.slice none 0 0)]),So 4 10 26,qm 11 27,qm 12 28]) (.seq (.seq (OP [qm 29 12,Bi 30 .neq 29 (cI 0)]) (.cond 30 (.seq (OP [q 31 (.build [(.bool false),(.slice none 0 0),(.slice none 0 0)] []),qm 32 12,So 3 8 31,qm 9 32]) .ret) .skip)) (.seq (.seq (.ops [LA 33 19 5,LA 34 2 4,qd 35 (.call 19 [34]) 2,qd 36 (.call 18 [33,35]) 7,qw 13 36 15] true) (.seq (OP [qm 37 13,Bi 38 .neq 37 (cI 0)]) (.cond 38 (.seq (OP [q 39 (.build [(.bool false),(.slice none 0 0),(.slice none 0 0)] []),qm 40 13,So 3 8 39,qm 9 40]) .ret) .skip))) (.seq (.seq (OP [Fa 41 1 5,Lo 42 41,Bi 43 .eql 42 (cI 4)]) (.cond 43 (.seq (OP [LA 45 4 10,Fa 46 16 5,LA 47 3 46,Ca 48 20 [45,47],qm 44 48,Xt 49 0 44,Xt 50 1 44,qm 14 49,qm 15 50]) (.seq (.seq (OP [qm 51 15,Bi 52 .neq 51 (cI 0)]) (.cond 52 (.seq (OP [q 53 (.build [(.bool false),(.slice none 0 0),(.slice none 0 0)] []),qm 54 15,So 3 8 53,qm 9 54]) .ret) .skip)) (.seq (.seq (OP [Fa 55 0 10,Lo 56 55,Ln 57 56,Mv 58 (cI 0)]) (.block 0 (.loop c6_1))) (.seq (OP [q 69 (.build [(.bool false),(.slice none 0 0),(.slice none 0 0)] [(0,1,cT)]),So 3 8 69,Mv 9 (cI 0)]) .ret)))) .skip)) (.seq (OP [LA 71 19 5,Ca 72 21 [71],qm 70 72,Xt 73 0 70,Xt 74 1 70,q 18 (.alloc [(.int .i64 0),(.int .i64 0),(.slice none 0 0)]),So 3 18 73,qm 12 74]) (.seq (.seq (OP [qm 75 12,Bi 76 .neq 75 (cI 0)]) (.cond 76 (.seq (OP [q 77 (.build [(.bool false),(.slice none 0 0),(.slice none 0 0)] []),qm 78 12,So 3 8 77,qm 9 78]) .ret) .skip)) (.seq (OP [LA 80 4 10,LA 81 3 18,Ca 82 22 [80,81],qm 79 82,Xt 83 0 79,Xt 84 1 79,Xt 85 2 79,q 19 (.alloc [(.slice none 0 0),(.slice none 0 0)]),So 2 19 83,qm 20 84,qm 12 85]) (.seq (.seq (OP [qm 86 12,Bi 87 .neq 86 (cI 0),qm 88 87,GF 89 88 (.move 20),Pk 90 88 cT 89]) (.cond 90 (.seq (OP [qm 91 20,q 92 (.build [(.bool false),(.slice none 0 0),(.slice none 0 0)] [(0,1,91)]),qm 93 12,So 3 8 92,qm 9 93]) .ret) .skip)) (.seq (.ops [qm 94 11,Fa 95 0 19,qd 96 (.zi 95) 2,qd 97 (.call 23 [94,96]) 7,qm 98 11,Fa 99 1 19,qd 100 (.zi 99) 32,qd 101 (.call 23 [98,100]) 127,qd 102 (.build [(.bool false),(.slice none 0 0),(.slice none 0 0)] [(1,1,97),(2,1,101)]) 255,qk (.store 3 8 102) 511,qd 9 (.move (cI 0)) 1023] true) .ret)))))))))
theorem zvB:zz Tryz.prog 6 103 [.agg 8 3,.tmp 9] c6:=fK Tryz.func6
section
variable {P:za} (hP:P.Fits) {tok st:Int} {name:ByteArray} (hnm:name.size≤9223372036854775807) {sort:Int} {x:Zt} {k a b c:Int} {f g:Tree} (hf:Small f) (hg:Small g)
include hP in
include hP in
theorem zsx (h1:P.Vr tok st=0) (h2:¬y3 (P.xI tok st) (P.xI tok st).length≤600):zu Tryz.prog 6 [yQ P,Zd name sort x k a b c f g,.sc (.int .i64 tok),.sc (.int .i64 st)] (.yI [U7 false [] [],.sc (.int .i64 2)]):=by
 have hR:=zki P hP tok st h1 (xY h1)
 rw[if_neg h2] at hR
 refine zb zvB zs (by simp[ze,Pure,z6,u7]) ?_ (by simp[Pure,ze,zeB])
 unfold yQ za.cells znT at *
 refine sR ?_
 refine sC hR ?_
 exact zpt
theorem zoj (h:zc2 sort x k a b c f=0):xc zS (wN sort x k a b c f)=0:=by
 unfold zc2 at h
 unfold wN
 split at h
 ·rename_i h1
  rw[if_pos h1]
  unfold zav at h
  split at h
  ·exact h
  ·rename_i q;exact absurd h q
 ·rename_i h1
  rw[if_neg h1]
  split at h
  ·rename_i h2
   rw[if_pos h2]
   unfold zu4 at h
   split at h
   ·exact h
   ·rename_i q;exact absurd h q
  ·rename_i h2
   rw[if_neg h2]
   split at h
   ·exact h
   ·cases h
include hP in
include hP in
include hP hf in
theorem zsH (hC:zu Tryz.prog 18 [Zd name sort x k a b c f g,qK (Zh P)] (.sc (.int .i64 (XQ (Zh P) name sort x k a b c f g)))) (hM:zu Tryz.prog 21 [Zd name sort x k a b c f g] (Qh (zc2 sort x k a b c f) (wN sort x k a b c f))) (h1:P.Vr tok st=0) (h2:y3 (P.xI tok st) (P.xI tok st).length≤600) (h4:sort≠4) (h3:XQ (Zh P) name sort x k a b c f g=0) (h5:zc2 sort x k a b c f=0) :
  ∃s l,zu Tryz.prog 6 [yQ P,Zd name sort x k a b c f g,.sc (.int .i64 tok),.sc (.int .i64 st)]
   (.yI [U7 (decide (qO (wN sort x k a b c f)=0)&&!(uc (Vu P tok st) (vU (wN sort x k a b c f)))) (ziL P tok st s) (ziL P tok st l),.sc (.int .i64 (qO (wN sort x k a b c f)))]) ∧
   (qO (wN sort x k a b c f)=0→uc (Vu P tok st) (vU (wN sort x k a b c f))=true→Vk (Vu P tok st) (vU (wN sort x k a b c f)) (yW (Vu P tok st) (vU (wN sort x k a b c f))).1 (yW (Vu P tok st) (vU (wN sort x k a b c f))).2 (yY (Vu P tok st) (vU (wN sort x k a b c f))).2=.yI [.agg [zw s,zw l],.sc (.bool (uc (Vu P tok st) (vU (wN sort x k a b c f)))),.sc (.int .i64 0)]) ∧
   (¬(qO (wN sort x k a b c f)=0∧uc (Vu P tok st) (vU (wN sort x k a b c f))=true)→s=[]∧l=[]):=by
 have hR:=zki P hP tok st h1 (xY h1)
 rw[if_pos h2,←zzX] at hR
 have hW:=zkR h1 h2
 have hc:=za.yH (xY h1).steps
 have hn20:=(yM hc.1).1
 have hNm:=zry P zo
 rw[h3] at hC
 unfold Qh at hM
 rw[if_pos h5,h5] at hM
 have hTc:=zoj h5
 obtain⟨s,l,hH,hs1,hs2⟩:=zpD (Vu P tok st) hW.fits hW.start hW.rows (wN sort x k a b c f) (zjj _ _ _ _ _ _ _ hf)
 rw[if_neg (by simpa using hW.xc),if_neg (by simpa using hTc)] at hH
 have hd:decide ((Vu P tok st).xc=0∧xc zS (wN sort x k a b c f)=0∧qO (wN sort x k a b c f)=0)=decide (qO (wN sort x k a b c f)=0):=by rw[decide_eq_decide];exact⟨λh=>h.2.2,λh=>⟨hW.xc,hTc,h⟩⟩
 rw[hd] at hH
 refine⟨s,l,?_,λq q2=>hs1 hW.xc hTc q,λq=>hs2 λq2=>q q2.2.2⟩
 have yT:qO (wN sort x k a b c f)=0→uc (Vu P tok st) (vU (wN sort x k a b c f))=true→xv s (Vu P tok st).next.length=true∧xv l (Vu P tok st).next.length=true∧s.length≤1000000000∧l.length≤1000000000:=λq q2 =>
  zql (J6 hW.fits hW.xc hW.start hW.rows q) q2 (hs1 hW.xc hTc q)
 have hol:(wm (P.xI tok st) (P.xI tok st).length).length=(Vu P tok st).next.length:=by rw[Z9];exact(uv _).symm
 have hne:¬(qO (wN sort x k a b c f)=0∧uc (Vu P tok st) (vU (wN sort x k a b c f))=true)→s=[]∧l=[]:=λq=>hs2 λq2=>q q2.2.2
 have h600:(wm (P.xI tok st) (P.xI tok st).length).length≤600:=h2
 unfold ziL
 clear hs1 hs2 hd hW hTc h3 h5
 generalize wm (P.xI tok st) (P.xI tok st).length=of at *
 generalize Vu P tok st=W at *
 generalize wN sort x k a b c f=T at *
 generalize hA:uc W (vU T)=A at *
 generalize qO T=e at *
 refine zb zvB zs (by simp[ze,Pure,z6,u7]) ?_ (by simp[Pure,ze,zeB])
 unfold yQ za.cells Zd W7 zV WU yS Yt zK.cells at *
 by_cases he:e=0
 ·subst he
  cases A
  ·obtain⟨rfl,rfl⟩:=hne zs
   refine sR ?_
   refine sC hR ?_
   refine sC hNm ?_
   refine sC hC ?_
   rw[wI h4]
   refine sW ?_
   refine sC hM ?_
   refine sC hH ?_
   exact .yI _ _ (.cons _ _ _ _ (.agg _ _ (.cons _ _ _ _ (.refl _) (.cons _ _ _ _ (.none _) (.cons _ _ _ _ (.none _) .nil)))) (.cons _ _ _ _ (.refl _) .nil))
  ·obtain⟨i1,i2,i3,i4⟩:=yT rfl rfl
   have hL1:=zke of zo s zo (by rw[hol];exact i1)
   have hL2:=zke of zo l zo (by rw[hol];exact i2)
   refine sR ?_
   refine sC hR ?_
   refine sC hNm ?_
   refine sC hC ?_
   rw[wI h4]
   refine sW ?_
   refine sC hM ?_
   refine sC hH ?_
   refine sC hL1 ?_
   refine sC hL2 ?_
   exact .refl _
 ·obtain⟨rfl,rfl⟩:=hne (λq=>he q.1)
  refine sR ?_
  refine sC hR ?_
  refine sC hNm ?_
  refine sC hC ?_
  rw[wI h4]
  refine sW ?_
  refine sC hM ?_
  refine sC hH ?_
  rw[show(e != 0)=true by simpa using he]
  refine sW ?_
  rw[decide_eq_false he]
  exact .yI _ _ (.cons _ _ _ _ (.agg _ _ (.cons _ _ _ _ (.refl _) (.cons _ _ _ _ (.none _) (.cons _ _ _ _ (.none _) .nil)))) (.cons _ _ _ _ (.refl _) .nil))
end
end
section
open Go.RowKit
def XW (x:Zt):D:=Zd ⟨#[114]⟩ 1 x 0 0 0 0 (xD 0 0) (xD 0 0)
def c7:PC:=.seq (OP [q 12 (.alloc [(.string ⟨#[]⟩),(.int .i64 0),(.int .i64 0),(.int .i64 0),(.int .i64 0),(.int .i64 0),(.int .i64 0),(.int .i64 0),(.int .i64 0),(.int .i64 0),(.int .i64 0),(.int .i64 0),(.int .i64 0),(.int .i64 0),(.int .i64 0),(.slice none 0 0),(.int .i64 0),(.int .i64 0),(.slice none 0 0)])]) (.seq (OP [qm 13 0,qm 14 1,qm 15 2,qm 16 3,qm 17 4,qm 18 5,q 19 (.build [(.int .i64 0),(.int .i64 0),(.int .i64 0),(.int .i64 0),(.int .i64 0),(.int .i64 0),(.int .i64 0)] [(0,1,13),(1,1,14),(2,1,15),(3,1,16),(4,1,17),(5,1,18)]),q 20 (.build [(.string ⟨#[]⟩),(.int .i64 0),(.int .i64 0),(.int .i64 0),(.int .i64 0),(.int .i64 0),(.int .i64 0),(.int .i64 0),(.int .i64 0),(.int .i64 0),(.int .i64 0),(.int .i64 0),(.int .i64 0),(.int .i64 0),(.int .i64 0),(.slice none 0 0),(.int .i64 0),(.int .i64 0),(.slice none 0 0)] [(0,1,(cS #[114])),(1,1,(cI 1)),(2,7,19)]),So 19 12 20]) .ret)
theorem zzc:zz Tryz.prog 7 21 [.agg 12 19] c7:=fK Tryz.func7
theorem VA (a b c d e f:Int):zu Tryz.prog 7 [.sc (.int .i64 a),.sc (.int .i64 b),.sc (.int .i64 c),.sc (.int .i64 d),.sc (.int .i64 e),.sc (.int .i64 f)] (XW ⟨a,b,c,d,e,f,0⟩):=by
 refine zb zzc zs (by simp[ze,Pure]) ?_ (u7 _ _ _ _ _ _ _ _ _)
 unfold XW Zd W7 zV WU yS
 refine sR ?_
 exact sP
theorem zwh:Small (xD 0 0):=zk6
theorem zjR {P:za} (hP:P.Fits) {tok st:Int} (h1:P.Vr tok st=0):QG (Zh P):=by
 have hc:=za.yH (xY h1).steps
 have hn20:=(yM hc.1).1
 exact⟨by simp[Zh];omega,λs hs=>by obtain⟨z,hz,rfl⟩:=List.mem_map.1 hs;exact hP.name z hz⟩
theorem zpv {P:za} (hP:P.Fits) {tok st:Int} {x:Zt} (hx:x.scope=1) (h1:P.Vr tok st=0) (h2:y3 (P.xI tok st) (P.xI tok st).length≤600) (he:zav x=0)
  (hr:XQ (Zh P) ⟨#[114]⟩ 1 x 0 0 0 0 (xD 0 0) (xD 0 0)=0) (hn:qO (yO x)=0) :
  ∃s l,zu Tryz.prog 6 [yQ P,XW x,.sc (.int .i64 tok),.sc (.int .i64 st)] (.yI [U7 (!(uc (Vu P tok st) (vU (yO x)))) (ziL P tok st s) (ziL P tok st l),.sc (.int .i64 0)]) ∧
   (uc (Vu P tok st) (vU (yO x))=true→Vk (Vu P tok st) (vU (yO x)) (yW (Vu P tok st) (vU (yO x))).1 (yW (Vu P tok st) (vU (yO x))).2 (yY (Vu P tok st) (vU (yO x))).2=.yI [.agg [zw s,zw l],.sc (.bool (uc (Vu P tok st) (vU (yO x)))),.sc (.int .i64 0)]):=by
 have e:wN 1 x 0 0 0 0 (xD 0 0)=yO x:=rfl
 obtain⟨s,l,k1,k2,_⟩:=zsH hP (tok:=tok) (st:=st) (name:=⟨#[114]⟩) (sort:=1) (x:=x) (k:=0) (a:=0) (b:=0) (c:=0) (f:=xD 0 0) (g:=xD 0 0) zwh (ziG _ (zjR hP h1) _ zc x hx) (zeV _ x _ _ _ _ _ _) h1 h2 zc hr (by unfold zc2;rw[if_pos rfl];exact he)
 rw[e,hn] at k1
 rw[e] at k2
 exact⟨s,l,by simpa [XW] using k1,k2 hn⟩
end
section
open Go.RowKit
def c9:PC:=.seq (OP [q 0 (.alloc [(.slice none 0 0),(.slice none 0 0)])]) (.seq (OP [q 5 (.call 25 [(cS #[115,116,97,114,116,32,97,10,116,97,115,107,32,98,10,120,111,114,32,120,10,116,97,115,107,32,99,10,101,110,100,32,101,10,102,108,111,119,32,97,32,98,10,102,108,111,119,32,98,32,120,10,102,108,111,119,32,120,32,98,10,102,108,111,119,32,120,32,99,10,102,108,111,119,32,99,32,101,10])]),qm 4 5,Xt 6 0 4,Xt 7 1 4,Xt 8 2 4,q 1 (.alloc [(.slice none 0 0),(.slice none 0 0)]),So 2 1 6,qm 2 7,qm 3 8]) (.seq (OP [LA 9 2 1,So 2 0 9]) .ret))
theorem zzu:zz Tryz.prog 9 10 [.agg 0 2] c9:=fK Tryz.func9
theorem zfl:zu Tryz.prog 9 [] (yQ vQ):=by
 have hR:=zkD twT zc
 rw[ztW] at hR
 refine zb zzu zs (by simp[ze]) ?_ (z6 _)
 unfold zmB yQ za.cells at *
 refine sR ?_
 refine sC hR ?_
 exact .refl _
theorem zrb:vQ.Fits:=⟨zc,zc,zc⟩
theorem zvi (x:Zt) (hx:x.scope=1) (he:zav x=0) (hr:XQ [⟨#[97]⟩,⟨#[98]⟩,⟨#[120]⟩,⟨#[99]⟩,⟨#[101]⟩] ⟨#[114]⟩ 1 x 0 0 0 0 (xD 0 0) (xD 0 0)=0) (hn:qO (yO x)=0) :
  ∃s l,zu Tryz.prog 6 [yQ vQ,XW x,.sc (.int .i64 1),.sc (.int .i64 20)] (.yI [U7 (!(uc (Vu vQ 1 20) (vU (yO x)))) s l,.sc (.int .i64 0)])∧(uc (Vu vQ 1 20) (vU (yO x))=true→0<l.length):=by
 obtain⟨s,l,h1,h2⟩:=zpv (P:=vQ) zrb (tok:=1) (st:=20) hx zl8.1 zp6 he hr hn
 refine⟨ziL vQ 1 20 s,ziL vQ 1 20 l,h1,λha=>?_⟩
 have hb:=J6 UG.fits UG.xc UG.start UG.rows hn
 have:=zls hb ha (h2 ha)
 unfold ziL
 rw[List.length_map]
 exact List.length_pos_iff.2 this
def c4:PC:=.seq (OP [Mv 0 cF]) (.seq (OP [Ca 6 9 [],Ca 7 7 [(cI 5),(cI 1),(cI 3),(cI 1),(cI 0),(cI 0)],Ca 8 6 [6,7,(cI 1),(cI 20)],qm 5 8,Xt 9 0 5,Xt 10 1 5,q 1 (.alloc [(.bool false),(.slice none 0 0),(.slice none 0 0)]),So 3 1 9,qm 2 10]) (.seq (OP [Ca 12 9 [],Ca 13 7 [(cI 3),(cI 1),(cI 3),(cI 0),(cI 0),(cI 0)],Ca 14 6 [12,13,(cI 1),(cI 20)],qm 11 14,Xt 15 0 11,Xt 16 1 11,q 3 (.alloc [(.bool false),(.slice none 0 0),(.slice none 0 0)]),So 3 3 15,qm 4 16]) (.seq (OP [qm 17 2,Bi 18 .eql 17 (cI 0),qm 19 18,GT 20 19 (.move 4),GT 21 19 (.bin .eql 20 (cI 0)),Pk 22 19 21 cF,qm 23 22,GT 24 23 (.zv 0 1),GT 25 23 (.zi 24),Pk 26 23 25 cF,qm 27 26,GT 28 27 (.zv 0 3),GT 29 27 (.zi 28),GT 30 27 (.un .not 29),Pk 31 27 30 cF,qm 32 31,GT 33 32 (.zv 2 3),GT 34 32 (.zi 33),GT 35 32 (.len 34),GT 36 32 (.bin .gtr 35 (cI 0)),Pk 37 32 36 cF,qm 0 37]) .ret)))
theorem zAd:zz Tryz.prog 4 38 [.tmp 0] c4:=fK Tryz.func4
theorem zrD:zu Tryz.prog 4 [] (zbl true):=by
 obtain⟨s1,l1,h1,_⟩:=zvi twX rfl zvb zy7 zu8
 obtain⟨s2,l2,h2,k2⟩:=zvi twY rfl zvh zzJ zvu
 rw[zti] at h1
 rw[zmz] at h2
 have k2:=k2 zmz
 have hX:=VA 5 1 3 1 0 0
 have hY:=VA 3 1 3 0 0 0
 refine zb zAd zs (by simp[ze]) ?_ (by simp[zbl,Pure])
 unfold U7 zw at *
 refine sR ?_
 refine sC zfl ?_
 refine sC hX ?_
 refine sC h1 ?_
 refine sC zfl ?_
 refine sC hY ?_
 refine sC h2 ?_
 rw[List.length_map]
 exact yu (congrArg (λb=>D.sc (.bool b)) (decide_eq_true zo))
end
section
open Go.RowKit
namespace za
theorem zs1 {marks:List (List Int)} {m:List Int} {tok:Int} {st i:Nat} (h:ZA marks m tok st=0) (h1:marks.length≤i) (h2:i<(uW marks m tok st).length):XG marks m tok st=(i:Int):=by
 unfold XG
 rw[if_pos h]
 unfold uW at h2 ⊢
 split at h2
 ·rename_i q
  rw[if_pos q]
  rw[List.length_append,List.length_singleton] at h2
  unfold zbS
  rw[List.idxOf_append,if_neg q.2,List.idxOf_cons_self]
  omega
 ·omega
theorem zeI {P:za} {tok:Int} {st n B:Nat} {M:List Int}:∀(L:List Int) (marks:List (List Int)) (yw:List uu) (cur:List zy) (last:uu),(∀i,B≤i→i<marks.length→∃e∈cur,e.2=(i:Int)) →
  ∀i,B≤i→i<(P.yF tok st n M L marks yw cur last).marks.length→∃e∈(P.yF tok st n M L marks yw cur last).cur,e.2=(i:Int)
 | [],marks,yw,cur,last,hc=>hc
 | k::r,marks,yw,cur,last,hc=>by
  rw[qC]
  split
  ·exact hc
  ·split
   ·exact hc
   ·rename_i h1 h2
    have h2:ZA marks (P.wg M k) tok st=0:=zo
    refine zeI r _ _ _ _ λi hi hl=>?_
    by_cases q:i<marks.length
    ·obtain⟨e,e1,e2⟩:=hc i hi q
     exact⟨e,by simp[e1],e2⟩
    ·exact⟨_,List.mem_append_right _ (List.mem_singleton.2 rfl),zs1 h2 zo hl⟩
theorem zjC {P:za} {tok:Int} {st:Nat}:∀(f n:Nat) (marks:List (List Int)) (yw:List uu) (next:List (List zy)) (last:uu),next.length=n→(∀i,0<i→i<marks.length→∃j,j<i∧j<n∧∃e∈next.getD j [],e.2=(i:Int)) →
  (P.Zl tok st f n marks yw next last).e=0→∀i,0<i→i<(P.Zl tok st f n marks yw next last).marks.length→∃j,j<i∧∃e∈(P.Zl tok st f n marks yw next last).next.getD j [],e.2=(i:Int)
 | 0,n,marks,yw,next,last,hl,hN,he=>λi h1 h2=>by
  obtain⟨j,a,_,b⟩:=hN i h1 h2
  exact⟨j,a,b⟩
 | f+1,n,marks,yw,next,last,hl,hN,he=>by
  rw[Zl] at he ⊢
  split at he
  ·rename_i hn
   rw[if_pos hn]
   split at he
   ·rename_i q;exact absurd he q
   ·rename_i q
    rw[if_neg q]
    refine zjC f (n+1) _ _ _ _ (by simp[hl]) (λi h1 h2=>?_) he
    by_cases k:i<marks.length
    ·obtain⟨j,a,b,e,e1,e2⟩:=hN i h1 k
     refine⟨j,a,zo,e,?_,e2⟩
     rw[List.getD_eq_getElem?_getD,List.getElem?_append_left zo,←List.getD_eq_getElem?_getD]
     exact e1
    ·obtain⟨e,e1,e2⟩:=zeI (B:=marks.length) (P.Yh (marks.getD n [])) marks yw [] last (λi a b=>zo) i zo h2
     refine⟨n,zo,zo,e,?_,e2⟩
     rw[List.getD_eq_getElem?_getD,List.getElem?_append_right zo,hl,Nat.sub_self]
     exact e1
  ·rename_i hn
   rw[if_neg hn]
   intro i h1 h2
   obtain⟨j,a,_,b⟩:=hN i h1 h2
   exact⟨j,a,b⟩
end za
theorem zsO {P:za} {tok st:Int} (he:P.Vr tok st=0) {i:Nat} (h0:0<i) (hi:i<(P.xI tok st).length):∃j,j<i∧∃e∈(P.xI tok st).getD j [],e.2=(i:Int):=by
 have hS:=(xY he).sp
 have eM:P.exM tok st=(P.exF tok st.toNat).marks:=by unfold za.exM;rw[if_pos he]
 have eN:P.xI tok st=(P.exF tok st.toNat).next:=by unfold za.xI;rw[if_pos he]
 have hl:=hS.len
 have hz:(P.exF tok st.toNat).e=0:=by
  unfold za.Vr at he
  split at he
  ·exfalso;omega
  ·split at he
   ·exfalso;omega
   ·exact he
 rw[eM,eN] at hl
 rw[eN] at hi ⊢
 exact za.zjC 201 0 [P.x6] [(-1,-1)] [] (-1,-1) rfl (λi a b=>by simp at b;omega) hz i h0 (by unfold za.exF at hl hi;omega)
section
variable {M:List (List Int)} {N:List (List zy)} {s:Nat}
theorem UB {m k:Nat} (hm:m<N.length) (hk:k<xf N m):(yX N).getD (y3 N m+k) []=qN N ((YI N m).getD k 0).toNat:=by
 have h1:=ub (N:=N) (show m+1≤N.length by omega)
 rw[wj] at h1
 have hl:=WB N N.length
 unfold yX
 rw[List.getD_eq_getElem?_getD,List.getElem?_map,List.getElem?_eq_getElem zo]
 have:=zhp (N:=N) hk N.length hm
 rw[List.getD_eq_getElem?_getD,List.getElem?_eq_getElem zo] at this
 simp only[Option.getD_some] at this
 simp only[Option.map_some,Option.getD_some,this]
theorem V7 {t:Nat} {x:Int}:x∈qN N t↔∃k,k<xf N t∧x=((y3 N t+k:Nat):Int):=by
 unfold qN
 simp only[List.mem_map,List.mem_range]
 exact⟨λ⟨k,a,b⟩=>⟨k,a,b.symm⟩,λ⟨k,a,b⟩=>⟨k,a,b.symm⟩⟩
theorem Qn {m:Nat} (hm:m<N.length) {e:zy} (h:e∈N.getD m []):∃k,k<xf N m∧(YG N m).getD k (0,0)=(e.1,(m:Int))∧(YI N m).getD k 0=e.2:=by
 obtain⟨k,hk,rfl⟩:=List.mem_iff_getElem.1 h
 have hne:¬(N.getD m []).length=0:=zo
 refine⟨k,by rw[vD,if_neg hne];exact hk,?_,?_⟩
 ·unfold YG
  rw[if_neg hne,List.getD_eq_getElem?_getD,List.getElem?_map,List.getElem?_eq_getElem hk];rfl
 ·unfold YI
  rw[if_neg hne,List.getD_eq_getElem?_getD,List.getElem?_map,List.getElem?_eq_getElem hk];rfl
theorem zsF {m k:Nat} (hk:k<xf N m) (hne:¬(N.getD m []).length=0):(YG N m).getD k (0,0)=(((N.getD m []).getD k (0,0)).1,(m:Int))∧(YI N m).getD k 0=((N.getD m []).getD k (0,0)).2∧k<(N.getD m []).length:=by
 rw[vD,if_neg hne] at hk
 unfold YG YI
 rw[if_neg hne,if_neg hne]
 generalize N.getD m []=l at *
 have e:l.getD k (0,0)=l[k]:=by rw[List.getD_eq_getElem?_getD,List.getElem?_eq_getElem hk];rfl
 rw[e]
 refine⟨?_,?_,hk⟩
 ·rw[List.getD_eq_getElem?_getD,List.getElem?_map,List.getElem?_eq_getElem hk];rfl
 ·rw[List.getD_eq_getElem?_getD,List.getElem?_map,List.getElem?_eq_getElem hk];rfl
end
theorem QT {N:List (List zy)} {of:List zy} {s x:Int}:∀{i:Nat},x∈vS N of s i↔0≤x∧x<(i:Int)∧(zlD N (of.getD x.toNat (0,0)).2.toNat s=false∨(of.getD x.toNat (0,0)).1=s)
 | 0=>by simp[vS];omega
 | i+1=>by
  have ih:=QT (N:=N) (of:=of) (s:=s) (x:=x) (i:=i)
  simp only[vS]
  by_cases q:zlD N (of.getD i (0,0)).2.toNat s=false∨(of.getD i (0,0)).1=s
  ·rw[if_pos q,List.mem_append,ih,List.mem_singleton]
   constructor
   ·rintro(⟨a,b,c⟩|rfl)
    ·exact⟨a,zo,c⟩
    ·exact⟨zo,zo,by rw[Int.toNat_natCast];exact q⟩
   ·rintro⟨a,b,c⟩
    by_cases e:x=(i:Int)
    ·exact .inr e
    ·exact .inl ⟨a,zo,c⟩
  ·rw[if_neg q,ih]
   constructor
   ·rintro⟨a,b,c⟩;exact⟨a,zo,c⟩
   ·rintro⟨a,b,c⟩
    refine⟨a,?_,c⟩
    by_cases e:x=(i:Int)
    ·subst e;rw[Int.toNat_natCast] at c;exact absurd c q
    ·omega
theorem zsZ {g:List (List Int)} {u v:Nat} (h:To g u v):u=v∨∃w y,To g u w∧y∈g.getD w []∧y.toNat=v:=by
 unfold To at h
 cases h with
 | base m=>simp only[List.mem_singleton] at m;subst m;left;simp
 | step q m=>exact .inr ⟨_,_,q,m,rfl⟩
theorem zpy {N:List (List zy)} {m t k:Nat} (hk:k<xf N m) (h:((y3 N m+k:Nat):Int)∈qN N t):t=m:=by
 obtain⟨j,h1,h2⟩:=V7.1 h
 rcases Nat.lt_trichotomy t m with q|q|q
 ·have:=ub (N:=N) (show t+1≤m by omega)
  rw[wj] at this
  omega
 ·exact q
 ·have:=ub (N:=N) (show m+1≤t by omega)
  rw[wj] at this
  omega
section
variable {M:List (List Int)} {N:List (List zy)} {s:Nat} (hS:SpN M N s)
include hS
theorem zvD:∀v x,x∈(yX N).getD v []→0≤x∧x.toNat<(yX N).length:=λv x hx=>by
 by_cases hv:v<(yX N).length
 ·rw[uv] at hv ⊢
  obtain⟨m,k,h1,h2,rfl⟩:=Xw hv
  rw[UB h1 h2] at hx
  have hg:(YI N m).getD k 0∈YI N m:=yr (by rw[zlx];exact h2)
  have:=zcg (zhM hS h1 hg).2 hx
  omega
 ·rw[List.getD_eq_getElem?_getD,List.getElem?_eq_none zo] at hx;cases hx
theorem zAp (L:List zR) {v:Nat} (hv:v<(yX N).length):Fw (yX N) ((ZI L N).map Qs) v:=by
 have yT:=zvD hS
 obtain⟨c,c1,c2⟩:=sink (λv x hx=>(yT v x hx).2) _ v hv (Nat.le_refl _)
 have hc:=zjv (λv x hx=>(yT v x hx).2) hv c1
 rw[uv] at hc
 obtain⟨m,k,h1,h2,rfl⟩:=Xw hc
 have hnx:=UB h1 h2
 have hg:(YI N m).getD k 0∈YI N m:=yr (by rw[zlx];exact h2)
 have hg2:=(zhM hS h1 hg).2
 have hne:∃x,x∈(yX N).getD (y3 N m+k) []:=by
  rw[hnx]
  exact⟨_,V7.2 ⟨0,by have:=ziy N ((YI N m).getD k 0).toNat;omega,rfl⟩⟩
 obtain⟨x,hx⟩:=hne
 refine⟨_,c1,⟨x,hx,c2 _ (u5 hx)⟩,λS hSm=>?_⟩
 obtain⟨l,hl,rfl⟩:=List.mem_map.1 hSm
 obtain⟨j,hj,rfl⟩:=List.mem_map.1 hl
 have hof:=XV (N:=N) h2 N.length h1
 have hmk:=zmj h2
 by_cases q:zlD N m (j:Int)=true
 ·-- the step may be taken: the state that takes it comes next to this one
  unfold zlD at q
  obtain⟨y,hy,hyj⟩:=List.any_eq_true.1 q
  have hyj:y.1=(j:Int):=by simpa using hyj
  obtain⟨i,i1,i2,i3⟩:=Qn h1 hy
  have hd:((y3 N m+i:Nat):Int)∈qN N m:=V7.2 ⟨i,i1,rfl⟩
  have hp:∃p,To (yX N) (y3 N m+k) p∧((y3 N m+k:Nat):Int)∈(yX N).getD p []:=by
   rcases zsZ (c2 _ (u5 hx)) with e|⟨w,y,w1,w2,w3⟩
   ·exact⟨_,wO _ _,by
     have:=(yT _ _ hx).1
     rw[show((y3 N m+k:Nat):Int)=x by omega];exact hx⟩
   ·exact⟨w,xO (u5 hx) w1,by
     have:=(yT _ _ w2).1
     rw[show((y3 N m+k:Nat):Int)=y by omega];exact w2⟩
  obtain⟨p,p1,p2⟩:=hp
  have hpl:p<(yX N).length:=by
   rcases Nat.lt_or_ge p (yX N).length with z|z
   ·exact z
   ·rw[List.getD_eq_getElem?_getD,List.getElem?_eq_none z] at p2;cases p2
  rw[uv] at hpl
  obtain⟨m',k',a1,a2,rfl⟩:=Xw hpl
  have hnp:=UB a1 a2
  rw[hnp] at p2
  have ht:=zpy h2 p2
  rw[ht] at hnp
  have hpd:((y3 N m+i:Nat):Int)∈(yX N).getD (y3 N m'+k') []:=by rw[hnp];exact hd
  have hto:To (yX N) (y3 N m+k) (y3 N m+i):=by
   have:=xO p1 (u5 hpd)
   rwa [Int.toNat_natCast] at this
  refine⟨y3 N m+i,Xn.2 (QT.2 ⟨zo,?_,.inr ?_⟩),hto,c2 _ hto⟩
  ·have:=ub (N:=N) (show m+1≤N.length by omega)
   rw[wj] at this
   omega
  ·rw[Int.toNat_natCast,XV i1 N.length h1,i2];exact hyj
 ·refine⟨y3 N m+k,Xn.2 (QT.2 ⟨zo,zo,.inl ?_⟩),wO _ _,wO _ _⟩
  rw[Int.toNat_natCast,hof,hmk,Int.toNat_natCast]
  simpa using q
end
end
section
open Go.RowKit
def zcD (g:List (List Int)) (fair:List (List Int)) (u:Nat) (p:Int→Prop):Prop :=
 ∃s:Nat→Int,s 0=(u:Int)∧(∀i,s (i+1)∈g.getD (s i).toNat [])∧(∀l∈fair,∀i,∃j,i≤j∧s j∈l)∧∃j,p (s j)
theorem zcD.pre {g fair:List (List Int)} {w:Nat} {x:Int} {p:Int→Prop} (hx:x∈g.getD w []) (h0:0≤x) (h:zcD g fair x.toNat p):zcD g fair w p:=by
 obtain⟨s,a,b,c,j,d⟩:=h
 refine⟨λi=>match i with|0=>(w:Int)|i+1=>s i,rfl,λi=>?_,λl hl i=>?_,j+1,d⟩
 ·cases i with
  | zero =>
   show s 0∈g.getD ((w:Nat):Int).toNat []
   rw[Int.toNat_natCast,a,Int.toNat_of_nonneg h0];exact hx
  | succ i=>exact b i
 ·obtain⟨k,k1,k2⟩:=c l hl i
  exact⟨k+1,zo,k2⟩
theorem zcD.to {g fair:List (List Int)} (hg:∀v x,x∈g.getD v []→0≤x) {u v:Nat} {p:Int→Prop} (k:To g u v) (h:zcD g fair v p):zcD g fair u p:=by
 unfold To at k
 generalize hv:v=w at k
 induction k generalizing v with
 | base m=>simp only[List.mem_singleton] at m;subst m;subst hv;simpa using h
 | step q m ih=>subst hv;exact ih (zcD.pre m (hg _ _ m) h) rfl
theorem zcD.here {g fair:List (List Int)} (hg:∀v x,x∈g.getD v []→0≤x) {v:Nat} {p:Int→Prop} (h:Fw g (fair.map Qs) v) (hp:p (v:Int)):zcD g fair v p:=by
 obtain⟨π,a,b,c⟩:=zpm h
 refine⟨λi=>(π i:Int),congrArg (λz:Nat=>(z:Int)) a,λi=>?_,λl hl i=>?_,0,by show p ((π 0:Nat):Int);rw[a];exact hp⟩
 ·obtain⟨y,y1,y2⟩:=b i
  have:=hg _ _ y1
  show((π (i+1):Nat):Int)∈g.getD ((π i:Nat):Int).toNat []
  rw[Int.toNat_natCast,←y2,Int.toNat_of_nonneg this];exact y1
 ·obtain⟨j,j1,j2⟩:=c _ (List.mem_map.2 ⟨l,hl,rfl⟩) i
  exact⟨j,j1,Xn.1 j2⟩
theorem zlH {P:za} {tok st:Int} (he:P.Vr tok st=0):∀m,m<(P.xI tok st).length→∀k,k<xf (P.xI tok st) m→∃u∈qN (P.xI tok st) 0,To (yX (P.xI tok st)) u.toNat (y3 (P.xI tok st) m+k):=by
 intro m
 induction m using Nat.strongRecOn with
 | ind m ih =>
  intro hm k hk
  have hS:=(xY he).sp
  rcases Nat.eq_zero_or_pos m with q|q
  ·subst q
   exact⟨((y3 (P.xI tok st) 0+k:Nat):Int),V7.2 ⟨k,hk,rfl⟩,by rw[Int.toNat_natCast];exact wO _ _⟩
  ·obtain⟨j,j1,e,e1,e2⟩:=zsO he q hm
   obtain⟨i,i1,i2,i3⟩:=Qn zo e1
   obtain⟨u,u1,u2⟩:=ih j j1 zo i i1
   refine⟨u,u1,xO u2 ?_⟩
   have hn:=UB (N:=P.xI tok st) (show j<(P.xI tok st).length by omega) i1
   rw[i3,e2,Int.toNat_natCast] at hn
   have:((y3 (P.xI tok st) m+k:Nat):Int)∈(yX (P.xI tok st)).getD (y3 (P.xI tok st) j+i) []:=by rw[hn];exact V7.2 ⟨k,hk,rfl⟩
   have:=u5 this
   rwa [Int.toNat_natCast] at this
theorem zh5 {P:za} {tok st:Int} (he:P.Vr tok st=0) {m k:Nat} (hm:m<(P.xI tok st).length) (hk:k<xf (P.xI tok st) m):∃s,zmv (Vu P tok st) s∧∃j,s j=((y3 (P.xI tok st) m+k:Nat):Int):=by
 have hS:=(xY he).sp
 have yT:=zvD hS
 obtain⟨u,u1,u2⟩:=zlH he m hm k hk
 have hlt:y3 (P.xI tok st) m+k<(yX (P.xI tok st)).length:=by
  rw[uv]
  have:=ub (N:=P.xI tok st) (show m+1≤(P.xI tok st).length by omega)
  rw[wj] at this
  omega
 have h:=zcD.to (λv x hx=>(yT v x hx).1) u2 (zcD.here (p:=λz=>z=((y3 (P.xI tok st) m+k:Nat):Int)) (λv x hx=>(yT v x hx).1) (zAp hS P.zx hlt) rfl)
 obtain⟨s,a,b,c,j,d⟩:=h
 have hu:=(zcg (by have:=hS.len;have:=hS.pos;omega:0<(P.xI tok st).length) u1).1
 exact⟨s,⟨by rw[a,Int.toNat_of_nonneg hu];exact u1,b,c⟩,j,d⟩
theorem zpz {L:List zR} {N:List (List zy)} {m k:Nat} (hm:m<N.length) (hk:k<xf N m):(Ye L N).getD (y3 N m+k) 0=Qk L ((YG N m).getD k (0,0)).1:=by
 have h1:=ub (N:=N) (show m+1≤N.length by omega)
 rw[wj] at h1
 have hl:=Z9 N N.length
 have:=XV (N:=N) hk N.length hm
 unfold Ye
 rw[List.getD_eq_getElem?_getD,List.getElem?_map,List.getElem?_eq_getElem zo]
 rw[List.getD_eq_getElem?_getD,List.getElem?_eq_getElem zo] at this
 simp only[Option.getD_some] at this
 simp only[Option.map_some,Option.getD_some,this]
theorem zmE {k:Nat} {n:Int} (hk:k≤63):zc5 (2^k) n=true↔n.toNat=k:=by
 unfold zc5
 have e:BitVec.ofInt 64 (2^k)=BitVec.ofNat 64 (2^k):=by rw[←BitVec.ofInt_natCast,Int.natCast_pow];rfl
 rw[e,BitVec.getLsbD_ofNat,Nat.testBit_two_pow,Bool.and_eq_true,decide_eq_true_eq,decide_eq_true_eq]
 omega
theorem zwN {W:zK} (hW:zuv W) {s:Nat→Int} (h:zmv W s):∀i,0≤s i∧(s i).toNat<W.next.length
 | 0=>by
  obtain⟨_,_,_,w4,_⟩:=vO W hW.xc
  have:=ye w4 h.start
  omega
 | i+1=>by
  obtain⟨_,_,_,_,w5,_⟩:=vO W hW.xc
  have:=ye (y9 w5 _) (h.next i)
  omega
def zk7 (L:List zR) (N:List (List zy)) (n:Nat):Prop:=∃m,m<N.length∧∃e∈N.getD m [],(L.getD e.1.toNat (0,0,0)).1=(n:Int)
theorem zfg {P:za} {tok st:Int} (he:P.Vr tok st=0) {n:Nat} (hn:n≤62) {m k:Nat} (hm:m<(P.xI tok st).length) (hk:k<xf (P.xI tok st) m) :
  zc5 ((Ye P.zx (P.xI tok st)).getD (y3 (P.xI tok st) m+k) 0) (n:Int)=true↔∃e∈(P.xI tok st).getD m [],((YG (P.xI tok st) m).getD k (0,0)).1=e.1∧(P.zx.getD e.1.toNat (0,0,0)).1=(n:Int):=by
 have hF:=xY he
 have hS:=hF.sp
 rw[zpz hm hk]
 by_cases q:((P.xI tok st).getD m []).length=0
 ·have e1:((YG (P.xI tok st) m).getD k (0,0))=(-1,(m:Int)):=by
   rw[vD,if_pos q] at hk
   unfold YG
   rw[if_pos q,show k=0 by omega];rfl
  rw[e1]
  have e2:Qk P.zx (-1)=2^63:=by unfold Qk;rw[if_pos zo];rfl
  rw[e2,zmE zo]
  constructor
  ·intro h;omega
  ·rintro⟨e,h,_⟩
   rw[List.length_eq_zero_iff.1 q] at h;cases h
 ·obtain⟨a,_,b⟩:=zsF hk q
  rw[a]
  have hme:((P.xI tok st).getD m []).getD k (0,0)∈(P.xI tok st).getD m []:=zaE b
  have hE:=hS.zes b
  have hz:(((P.xI tok st).getD m []).getD k (0,0)).1.toNat<P.zx.length:=zo
  have hnd:=(za.ZD hF.steps hz).node
  have:=(yM (za.yH hF.steps).1).1
  have e2:Qk P.zx (((P.xI tok st).getD m []).getD k (0,0)).1=2^(P.zx.getD (((P.xI tok st).getD m []).getD k (0,0)).1.toNat (0,0,0)).1.toNat:=by unfold Qk;rw[if_neg zo]
  show zc5 (Qk P.zx (((P.xI tok st).getD m []).getD k (0,0)).1) (n:Int)=true↔_
  rw[e2,zmE zo]
  constructor
  ·intro h
   exact⟨_,hme,rfl,zo⟩
  ·rintro⟨e,_,h1,h2⟩
   have h1:(((P.xI tok st).getD m []).getD k (0,0)).1=e.1:=h1
   rw[←h1] at h2
   omega
def QX (n:Int):Zt:=⟨1,1,n,0,0,0,0⟩
theorem zz1 (n:Int):yO (QX n)=xS 11 (xS 4 (xD 3 n)):=rfl
theorem ztw {P:za} {tok st:Int} (he:P.Vr tok st=0) (hA:y3 (P.xI tok st) (P.xI tok st).length≤600) {n:Nat} (hn:n≤62) (hw:(yO (QX n)).wf zS) (h3:qO (yO (QX n))=0) :
  uc (Vu P tok st) (vU (yO (QX n)))=true↔zk7 P.zx (P.xI tok st) n:=by
 have hW:=zkR he hA
 rw[zgY hW hw h3]
 have key:∀w:Nat→Int,¬xJ w (yO (QX n)) 0↔∃j,zc5 (w j) (n:Int)=true:=λw=>by
  rw[zz1,zva rfl rfl]
  constructor
  ·intro h
   obtain⟨j,hj⟩:=Classical.not_forall.1 h
   obtain⟨_,hj⟩:=Classical.not_imp.1 hj
   refine⟨j,?_⟩
   have hj:¬xJ w (xS 4 (xD 3 (n:Int))) j:=hj
   rw[zp9 rfl rfl] at hj
   exact(znn rfl).1 (Classical.not_not.1 hj)
  ·rintro⟨j,hj⟩ h
   have h:xJ w (xS 4 (xD 3 (n:Int))) j:=h j (Nat.zero_le _)
   rw[zp9 rfl rfl] at h
   exact h ((znn rfl).2 hj)
 constructor
 ·rintro⟨s,hs,h⟩
  obtain⟨j,hj⟩:=(key _).1 h
  have hlt:(s j).toNat<y3 (P.xI tok st) (P.xI tok st).length:=by
   have:=(zwN hW hs j).2
   rwa [show(Vu P tok st).next.length=_ from uv _] at this
  obtain⟨m,k,h1,h2,e⟩:=Xw hlt
  unfold QO at hj
  rw[e] at hj
  obtain⟨x,x1,_,x3⟩:=(zfg he hn h1 h2).1 hj
  exact⟨m,h1,x,x1,x3⟩
 ·rintro⟨m,hm,x,x1,x3⟩
  obtain⟨k,k1,k2,_⟩:=Qn hm x1
  obtain⟨s,hs,j,hj⟩:=zh5 he hm k1
  refine⟨s,hs,(key _).2 ⟨j,?_⟩⟩
  unfold QO
  rw[hj,Int.toNat_natCast]
  exact(zfg he hn hm k1).2 ⟨x,x1,by rw[k2],x3⟩
end
section
open Go.RowKit
def zvf (L:List ByteArray):Prop:=∀i,i<L.length→x7 (L.getD i ⟨#[]⟩)=true∧zeP L i (L.getD i ⟨#[]⟩)=false
theorem zrG {s:ByteArray} (h:x7 s=true):Yz s ⟨#[]⟩=false:=by
 unfold x7 at h
 simp only[Bool.and_eq_true,Bool.not_eq_true'] at h
 exact h.1.1.1.1.1
theorem ztz:Yz (⟨#[]⟩:ByteArray) ⟨#[]⟩=true:=by decide +kernel
theorem zxR:Yz W5 ⟨#[]⟩=false:=by decide +kernel
theorem zpc {L:List ByteArray} (h:zvf L) (s:Bool) (m:Int):zcE L s m=!(decide (m=63∧s=true)||decide (0≤m∧m<(L.length:Int)∧m<63)):=by
 unfold zcE rnm
 by_cases h1:m=63∧s=true
 ·rw[if_pos h1,decide_eq_true h1,zxR];rfl
 ·rw[if_neg h1,decide_eq_false h1,Bool.false_or]
  by_cases h2:m<0∨(L.length:Int)≤m∨63≤m
  ·rw[if_pos h2,decide_eq_false zo,ztz];rfl
  ·obtain⟨k1,k2⟩:=h m.toNat zo
   rw[if_neg h2,if_neg (by rw[k1];decide),if_neg (by rw[k2];decide),decide_eq_true zo,zrG k1];rfl
theorem zdu (P:za):(Zh P).length=P.nodes.length:=by simp[Zh]
theorem zdx (P:za) (i:Nat):(Zh P).getD i ⟨#[]⟩=P.name i:=by
 unfold Zh za.name
 rw[List.getD_eq_getElem?_getD,List.getElem?_map,List.getD_eq_getElem?_getD]
 cases P.nodes[i]?<;>rfl
theorem zsi {P:za} (h:P.XB=0):zvf (Zh P):=by
 intro i hi
 rw[zdu] at hi
 have:=za.Yf.1 h i hi
 unfold za.Qb at this
 split at this
 ·cases this
 ·rename_i q
  split at this
  ·cases this
  ·rename_i q2
   rw[zdx]
   refine⟨by have:=not_or.1 q;simpa using this.1,?_⟩
   unfold zeP
   simp only[zdx]
   simpa using q2
theorem znV {P:za} (h:P.xc=0):P.XB=0:=by
 unfold za.xc at h
 split at h
 ·cases h
 ·split at h
  ·rename_i q;exact absurd h q
  ·rename_i q;exact Classical.not_not.1 q
end
section
open Go.RowKit
theorem zgD {L:List zR} {l:List zy} {s:Nat→Bool} {n:Nat}:∀k,zbD L l s k n=true↔s n=true∨∃j,j<k∧(L.getD (l.getD j (0,0)).1.toNat (0,0,0)).1.toNat=n
 | 0=>⟨λh=>.inl h,λh=>h.elim id λ⟨j,a,_⟩=>zo⟩
 | k+1=>by
  have ih:=zgD (L:=L) (l:=l) (s:=s) (n:=n) k
  simp only[zbD,mark]
  split
  ·rename_i q
   exact⟨λ_=>.inr ⟨k,zo,q.symm⟩,λ_=>rfl⟩
  ·rename_i q
   rw[ih]
   constructor
   ·rintro(h|⟨j,a,b⟩)
    ·exact .inl h
    ·exact .inr ⟨j,zo,b⟩
   ·rintro(h|⟨j,a,b⟩)
    ·exact .inl h
    ·refine .inr ⟨j,?_,b⟩
     by_cases e:j=k
     ·subst e;exact absurd b.symm q
     ·omega
theorem zh3 {L:List zR} {N:List (List zy)} {n:Nat}:∀k,zbY L N k n=true↔∃m,m<k∧∃e∈N.getD m [],(L.getD e.1.toNat (0,0,0)).1.toNat=n
 | 0=>by simp[zbY]
 | k+1=>by
  have ih:=zh3 (L:=L) (N:=N) (n:=n) k
  simp only[zbY]
  rw[zgD,ih]
  constructor
  ·rintro(⟨m,a,b⟩|⟨j,a,b⟩)
   ·exact⟨m,zo,b⟩
   ·exact⟨k,zo,_,zaE a,b⟩
  ·rintro⟨m,a,e,e1,e2⟩
   by_cases q:m=k
   ·subst q
    obtain⟨j,hj,rfl⟩:=List.mem_iff_getElem.1 e1
    refine .inr ⟨j,hj,?_⟩
    rw[List.getD_eq_getElem?_getD (l:=N.getD m []),List.getElem?_eq_getElem hj];exact e2
   ·exact .inl ⟨m,zo,e,e1,e2⟩
theorem zc1 {P:za} {s:Nat→Bool} {x:Int}:∀{k:Nat},x∈qY P s k↔0≤x∧x<(k:Int)∧s x.toNat=false∧P.kind x.toNat≠1
 | 0=>by simp[qY];omega
 | k+1=>by
  have ih:=zc1 (P:=P) (s:=s) (x:=x) (k:=k)
  simp only[qY]
  split
  ·rename_i h
   rw[List.mem_append,ih,List.mem_singleton]
   constructor
   ·rintro(⟨a,b,c⟩|rfl)
    ·exact⟨a,zo,c⟩
    ·exact⟨zo,zo,by rw[Int.toNat_natCast];exact h⟩
   ·rintro⟨a,b,c⟩
    by_cases e:x=(k:Int)
    ·exact .inr e
    ·exact .inl ⟨a,zo,c⟩
  ·rename_i h
   rw[ih]
   constructor
   ·rintro⟨a,b,c⟩;exact⟨a,zo,c⟩
   ·rintro⟨a,b,c⟩
    refine⟨a,?_,c⟩
    by_cases e:x=(k:Int)
    ·subst e;rw[Int.toNat_natCast] at c;exact absurd c h
    ·omega
namespace za
theorem zf1 {P:za} {k n:Int} {s:zR}:∀{j:Nat},s∈P.Z8 k n j→s.1=n
 | 0,h=>by cases h
 | j+1,h=>by
  simp only[Z8,List.mem_append] at h
  rcases h with h|h
  ·exact zf1 h
  ·unfold zad at h
   split at h
   ·generalize (P.ue n).length=q at h
    induction q with
    | zero=>cases h
    | succ q ih =>
     simp only[zhP,List.mem_append,List.mem_singleton] at h
     rcases h with h|rfl
     ·exact ih h
     ·rfl
   ·rw[List.mem_singleton] at h;subst h;rfl
theorem ziI {P:za} {n:Nat} {s:zR} (h:s∈P.qR n):s.1=(n:Int)∧P.kind n≠1:=by
 unfold qR at h
 split at h
 ·rename_i q;exact⟨zf1 h,zo⟩
 ·split at h
  ·rename_i q;rw[List.mem_singleton] at h;subst h;exact⟨rfl,zo⟩
  ·split at h
   ·rename_i q;exact⟨(zhS h).1,zo⟩
   ·cases h
theorem zbH {P:za} {s:zR}:∀{k:Nat},s∈P.wH k→P.kind s.1.toNat≠1
 | 0,h=>by cases h
 | k+1,h=>by
  simp only[wH,List.mem_append] at h
  rcases h with h|h
  ·exact zbH h
  ·obtain⟨a,b⟩:=ziI h
   rw[a,Int.toNat_natCast];exact b
end za
theorem zpT {P:za} {tok st:Int} (he:P.Vr tok st=0) {n:Nat} (hn:n<P.nodes.length) :
  ((Qd P (P.xI tok st)).contains (n:Int)||(P.kind n==1))=true↔¬zk7 P.zx (P.xI tok st) n:=by
 have hF:=xY he
 have hS:=hF.sp
 obtain⟨_,eL,_⟩:=za.yH hF.steps
 have hstep:∀m e,e∈(P.xI tok st).getD m []→e.1.toNat<P.zx.length:=λm e h=>by
  obtain⟨j,hj,rfl⟩:=List.mem_iff_getElem.1 h
  have:=hS.zes hj
  rw[List.getD_eq_getElem?_getD (l:=(P.xI tok st).getD m []),List.getElem?_eq_getElem hj] at this
  simp only[Option.getD_some] at this
  omega
 have hon:zk7 P.zx (P.xI tok st) n↔zbY P.zx (P.xI tok st) (P.xI tok st).length n=true:=by
  rw[zh3]
  constructor
  ·rintro⟨m,a,e,b,c⟩
   exact⟨m,a,e,b,by rw[c,Int.toNat_natCast]⟩
  ·rintro⟨m,a,e,b,c⟩
   have:=(za.ZD hF.steps (hstep m e b)).node
   exact⟨m,a,e,b,zo⟩
 rw[Bool.or_eq_true,List.contains_iff_mem,beq_iff_eq]
 unfold Qd
 rw[zc1,Int.toNat_natCast]
 by_cases hk:P.kind n=1
 ·refine⟨λ_=>?_,λ_=>.inr hk⟩
  rintro⟨m,a,e,b,c⟩
  have hl:=hstep m e b
  have hm:P.zx.getD e.1.toNat (0,0,0)∈P.wH P.nodes.length:=by
   rw[eL] at hl ⊢
   rw[List.getD_eq_getElem?_getD,List.getElem?_eq_getElem hl]
   exact List.getElem_mem hl
  have:=za.zbH hm
  rw[c,Int.toNat_natCast] at this
  exact this hk
 ·rw[hon]
  constructor
  ·rintro(⟨_,_,h,_⟩|h)
   ·rw[h];decide
   ·exact absurd h hk
  ·intro h
   exact .inl ⟨zo,zo,by simpa using h,hk⟩
theorem zu9:∀n:Nat,n<20→zav (QX n)=0:=by decide +kernel
theorem zvH:∀n:Nat,n<20→qO (yO (QX n))=0:=by decide +kernel
theorem zwk {n:Nat} (h:n<20):(yO (QX n)).wf zS:=by
 have h:=zu9 n h
 unfold zav at h
 split at h
 ·exact((Wx _ _).1 h).2.2
 ·rename_i q;exact absurd h q
theorem zzP:∀n:Nat,n<20→vR (QX n)=0:=by decide +kernel
theorem zzj {P:za} (h:P.xc=0) {n:Nat} (hn:n<P.nodes.length):XQ (Zh P) ⟨#[114]⟩ 1 (QX n) 0 0 0 0 (xD 0 0) (xD 0 0)=0:=by
 have h20:=(yM h).1
 have hg:=zsi (znV h)
 have hp:Wv (Zh P) 1 (QX n) 0 0 0 0 (xD 0 0) (xD 0 0)=0:=by
  unfold Wv
  rw[if_pos rfl,zzP n zo,if_neg]
  rintro⟨_,h⟩
  have e:Ug (QX n)++VC (QX n)=[(n:Int)]:=rfl
  rw[e] at h
  simp only[List.any_cons,List.any_nil,Bool.or_false] at h
  rw[zpc hg,zdu] at h
  simp only[Bool.not_eq_true',Bool.or_eq_false_iff,decide_eq_false_iff_not] at h
  exact h.2 ⟨zo,zo,zo⟩
 unfold XQ
 rw[if_neg (by decide +kernel),if_neg (by rw[hp];decide),if_neg (by rw[show zhd 1 (QX (n:Int)) 0 0 0 0 (xD 0 0) (xD 0 0)=false from rfl];decide)]
end
section
section
open Go.RowKit
def QQ (m:List Int):Bool:=!(m.any λx=>decide (x>0))
def Uj (N:List (List zy)) (i:Nat):List Int:=(N.getD i []).map λx=>x.2
@[simp] theorem zoT (N:List (List zy)) (i:Nat):(Uj N i).length=(N.getD i []).length:=by simp[Uj]
theorem ztt {N:List (List zy)} {i k:Nat} (h:k<(N.getD i []).length):(Uj N i).getD k 0=((N.getD i []).getD k (0,0)).2:=by
 unfold Uj
 generalize N.getD i []=l at h
 rw[List.getD_eq_getElem?_getD,List.getElem?_map,List.getD_eq_getElem?_getD,List.getElem?_eq_getElem h]
 rfl
def zeO (N:List (List zy)) (n k i:Nat):List Int:=if i<n then Uj N i else if i=n then (Uj N i).take k else []
def gTo (N:List (List zy)) (n k:Nat):List (List Int):=(List.range N.length).map (zeO N n k)
@[simp] theorem zug (N:List (List zy)) (n k:Nat):(gTo N n k).length=N.length:=by simp[gTo]
theorem JH {N:List (List zy)} {n k i:Nat} (h:i<N.length):(gTo N n k)[i]? = some (zeO N n k i):=by
 simp[gTo,List.getElem?_map,List.getElem?_range h]
theorem ztA {N:List (List zy)} {n k:Nat} (h:n<N.length):(gTo N n k).getD n []=(Uj N n).take k:=by
 rw[List.getD_eq_getElem?_getD,JH h]
 simp[zeO]
theorem zsX {N:List (List zy)} {n k n' k':Nat} (h:∀i,i<N.length→zeO N n k i=zeO N n' k' i):gTo N n k=gTo N n' k':=by
 unfold gTo
 exact List.map_congr_left λi hi=>h i (List.mem_range.1 hi)
theorem zsW {N:List (List zy)} {n k:Nat} (h:n<N.length) (hk:k<(N.getD n []).length):(gTo N n k).set n ((Uj N n).take k++[((N.getD n []).getD k (0,0)).2])=gTo N n (k+1):=by
 apply List.ext_getElem?
 intro i
 by_cases hi:i<N.length
 ·rw[JH hi]
  by_cases e:i=n
  ·subst e
   rw[List.getElem?_set_self (by simpa using hi)]
   unfold zeO
   rw[if_neg zo,if_pos rfl,List.take_add_one,List.getElem?_eq_getElem (by simpa using hk),←ztt hk,List.getD_eq_getElem?_getD,List.getElem?_eq_getElem (by simpa using hk)]
   rfl
  ·rw[List.getElem?_set_ne (λq=>e q.symm),JH hi]
   unfold zeO
   by_cases q:i<n
   ·rw[if_pos q,if_pos q]
   ·rw[if_neg q,if_neg q,if_neg e,if_neg e]
 ·rw[List.getElem?_eq_none (by simp;omega),List.getElem?_eq_none (by simp;omega)]
theorem zpF (N:List (List zy)):gTo N 0 0=List.replicate N.length []:=by
 apply List.ext_getElem?
 intro i
 by_cases hi:i<N.length
 ·rw[JH hi,List.getElem?_replicate,if_pos hi]
  unfold zeO
  rw[if_neg zo]
  split<;>simp
 ·rw[List.getElem?_eq_none (by simp;omega),List.getElem?_eq_none (by simp;omega)]
theorem zpk (N:List (List zy)) (n:Nat):gTo N n (N.getD n []).length=gTo N (n+1) 0:=zsX λi _=>by
 unfold zeO
 by_cases q:i<n
 ·rw[if_pos q,if_pos zo]
 ·rw[if_neg q]
  by_cases e:i=n
  ·subst e
   rw[if_pos rfl,if_pos zo,List.take_of_length_le zs]
  ·rw[if_neg e,if_neg zo]
   split<;>simp
theorem zuz (N:List (List zy)):gTo N N.length 0=gN N:=by
 apply List.ext_getElem?
 intro i
 by_cases hi:i<N.length
 ·rw[JH hi]
  unfold zeO gN Uj
  rw[if_pos hi,List.getElem?_map,List.getElem?_eq_getElem hi,List.getD_eq_getElem?_getD,List.getElem?_eq_getElem hi]
  rfl
 ·rw[List.getElem?_eq_none (by simp;omega),List.getElem?_eq_none (by simp;omega)]
def zzi:PC:=.seq (OP [Bi 23 .lss 22 21]) (.seq (.cond 23 .skip (.exit 2)) (.seq (.block 3 (.seq (OP [Ia 24 2 20 22,LA 25 2 24,q 7 (.alloc [(.int .i64 0),(.int .i64 0)]),So 2 7 25]) (.ops [qm 26 3,qm 27 4,qm 28 3,qm 29 4,qd 30 (.zM 1 28 29) 12,qd 31 (.zi 30) 28,Fa 32 1 7,qd 33 (.zi 32) 64,qd 34 (.wh 1 1 [33]) 192,qd 35 (.append 1 8 31 34) 508,qd 36 (.zM 1 26 27) 1023,qk (.store 1 36 35) 2047] true))) (OP [Bi 37 .add 22 (cI 1),qm 22 37])))
def zza:PC:=.seq (OP [Bi 16 .lss 15 14]) (.seq (.cond 16 .skip (.exit 0)) (.seq (.block 1 (.seq (OP [qm 17 15,Ia 18 1 13 15,Lo 19 18,qm 4 17,qm 5 19]) (.seq (OP [qm 20 5,Ln 21 20,Mv 22 (cI 0)]) (.block 2 (.loop zzi))))) (OP [Bi 38 .add 15 (cI 1),qm 15 38])))
def c13:PC:=.seq (OP [Bx 1 0,Mv 2 cN]) (.seq (OP [Fa 8 1 1,Lo 9 8,Ln 10 9,q 11 (.x5 1 24 [(.slice none 0 0)] 10 10),qm 3 11]) (.seq (.seq (OP [Fa 12 1 1,Lo 13 12,Ln 14 13,Mv 15 (cI 0)]) (.block 0 (.loop zza))) (.seq (OP [qm 39 3,qm 2 39]) .ret)))
theorem zwn:zz Tryz.prog 13 40 [.tmp 2] c13:=fK Tryz.func13
theorem zjp (M:List (List Int)) (N:List (List zy)) (hN:N.length≤100000) (hr:∀i,(N.getD i []).length≤100000):zu Tryz.prog 13 [Qp M N] (z8 (gN N)):=by
 refine zb zwn zs (by simp[ze,Z5]) ?_ (yc _)
 refine sR ?_
 rw[Uq]
 refine⟨zo,zo,zo,?_⟩
 rw[Int.toNat_natCast]
 refine sW ?_
 rw[Uq]
 refine zE (Js 1 1 N.length 0 zs rfl) ?_
 refine zZ [3,13,14] (λn:Nat=>[(15,.sc (.int .i64 n))]) (λn=>.row true (XY M N)::.vec true 0 1 (wJ 2 (gTo N n 0))::yR 1 Vg (gTo N n 0)) (λn=>n≤N.length) (λn=>N.length-n) 0 ?_
 refine sW ?_
 refine⟨zo,by exact sK,?_,?_⟩
 ·show _::_::_=_::_::_
  rw[XT 1 _ Vg,zpF]
  exact congrArg (λx=>zf.row true (XY M N)::zf.vec true 0 1 x::_) (XP (α:=Int) 2 _)
 rintro n hnn
 refine sW ?_
 refine sR ?_
 refine sS (λh1=>?_) λh1=>?_
 ·have hn':n<N.length:=sO
  refine sL (Xx (k:=n) zo hn') ?_
  rw[wZ]
  have lx:=hr n
  refine zZ [3,4,13,14,15,20,21] (λk:Nat=>[(22,.sc (.int .i64 k))]) (λk=>.row true (XY M N)::.vec true 0 1 (wJ 2 (gTo N n k))::yR 1 Vg (gTo N n k)) (λk=>k≤(N.getD n []).length) (λk=>(N.getD n []).length-k) 0 ?_
  refine sW ?_
  refine⟨zo,by exact sK,rfl,?_⟩
  rintro k hk
  have lG:=zug N n k
  refine sW ?_
  refine sR ?_
  refine sS (λh2=>?_) λh2=>?_
  ·have hk':k<(N.getD n []).length:=sO
   have hset:=zsW hn' hk'
   have hrow:=ztA (k:=k) hn'
   have lrow:((Uj N n).take k).length=k:=by rw[List.length_take,zoT];omega
   refine sL (wC (k:=k) zo hk') ?_
   generalize ((N.getD n []).getD k (0,0))=e at hset
   refine Jf ?_
   refine sW ?_
   (repeat (first|(refine y7 0 rfl ?_;((conv=>whnf);repeat(refine⟨rfl,?_⟩;conv=>whnf)))|(refine y4 0 rfl ?_;((conv=>whnf);repeat(refine⟨rfl,?_⟩;conv=>whnf)))|(refine y7 1 rfl ?_;((conv=>whnf);repeat(refine⟨rfl,?_⟩;conv=>whnf)))|(refine y4 1 rfl ?_;((conv=>whnf);repeat(refine⟨rfl,?_⟩;conv=>whnf)))))
   refine sB ?_
   refine⟨_,xX (i:=n) zo zo,?_⟩
   refine sW ?_
   (repeat (first|(refine y7 0 rfl ?_;((conv=>whnf);repeat(refine⟨rfl,?_⟩;conv=>whnf)))|(refine y4 0 rfl ?_;((conv=>whnf);repeat(refine⟨rfl,?_⟩;conv=>whnf)))|(refine y7 1 rfl ?_;((conv=>whnf);repeat(refine⟨rfl,?_⟩;conv=>whnf)))|(refine y4 1 rfl ?_;((conv=>whnf);repeat(refine⟨rfl,?_⟩;conv=>whnf)))))
   refine zir ?_
   refine sW ?_
   (repeat (first|(refine y7 0 rfl ?_;((conv=>whnf);repeat(refine⟨rfl,?_⟩;conv=>whnf)))|(refine y4 0 rfl ?_;((conv=>whnf);repeat(refine⟨rfl,?_⟩;conv=>whnf)))|(refine y7 1 rfl ?_;((conv=>whnf);repeat(refine⟨rfl,?_⟩;conv=>whnf)))|(refine y4 1 rfl ?_;((conv=>whnf);repeat(refine⟨rfl,?_⟩;conv=>whnf)))))
   refine J5 zo ?_
   refine sW ?_
   rw[hrow]
   refine⟨by unfold y5;simp only[List.length_drop,List.length_take,List.length_cons,List.length_nil];omega,?_⟩
   refine sW ?_
   refine zb5 ((Uj N n).take k++[e.2]) zo ?_ ?_
   ·exact zeG
   refine sW ?_
   refine sB ?_
   refine⟨_,xX (i:=n) zo zo,?_⟩
   refine sW ?_
   refine sI ?_
   refine⟨k+1,zo,zd,?_⟩
   dsimp only
   rw[←hset]
   refine zj (N.length+2) zs zs (by exact sQ) ⟨⟨rfl,.refl _,by simp[XY,zl,zp]⟩,⟨rfl,rfl,rfl,zk ?_,ur (by simp;omega)⟩,X6 V1⟩
   exact Xc zo zo _ zs
  ·have hk':k=(N.getD n []).length:=by have:¬k<(N.getD n []).length:=sO
                                       omega
   subst hk'
   refine sI ?_
   refine⟨n+1,zo,zd,?_⟩
   rw[zpk]
   exact zC (by exact sK) rfl
 ·have hn':n=N.length:=by have:¬n<N.length:=sO
                          omega
  subst hn'
  rw[zuz]
  have:=zbr (H:=zf.row true (XY M N)::zf.vec true 0 1 (wJ 2 (gN N))::yR 1 Vg (gN N)) (b:=2) (zF:=1) (c:=Vg) (L:=gN N) (λi hi=>by
   rw[List.getElem?_cons_succ,List.getElem?_cons_succ]
   exact YT hi)
  refine .own _ _ _ _ _ _ _ _ rfl ?_
  rw[zr zs]
  exact this
def c28:PC:=.seq (OP [Mv 2 cF]) (.seq (OP [qm 3 0,Bi 4 .gtr 3 (cI 0),qm 2 4]) .ret)
theorem zxg:zz Tryz.prog 28 5 [.tmp 2] c28:=fK Tryz.func28
theorem znJ (x:Int):zu Tryz.prog 28 [.sc (.int .i64 x)] (.sc (.bool (decide (x>0)))):=by
 refine zb zxg zs (by simp[ze,Pure]) ?_ (by simp[Pure])
 refine sR ?_
 exact .refl _
def c11:PC:=.seq (OP [Mv 2 cF]) (.seq (OP [qm 3 0,Ca 4 27 [3,(.func 28)],Nt 5 4,qm 2 5]) .ret)
theorem zw3:zz Tryz.prog 11 6 [.tmp 2] c11:=fK Tryz.func11
theorem zqS (m:List Int) (hm:m.length≤100000):zu Tryz.prog 11 [zw m] (.sc (.bool (QQ m))):=by
 refine zb zw3 zs (by simp[ze,zh]) ?_ (by simp[Pure])
 refine sR ?_
 refine sC (xa (λn=>.sc (.int .i64 n)) (λ_=>by simp[Pure]) m zo (λx=>decide (x>0)) 28 [] (by simp[ze]) λa _=>znJ a) ?_
 exact .refl _
def zy9:PC:=.seq (OP [Bi 26 .lss 25 24]) (.seq (.cond 26 .skip (.exit 2)) (.seq (.block 3 (.seq (OP [Ia 27 2 23 25,LA 28 2 27,q 8 (.alloc [(.int .i64 0),(.int .i64 0)]),So 2 8 28]) (.seq (.ops [Fa 29 1 8,qd 30 (.zi 29) 1,qm 31 1,qm 32 6,qd 33 (.zM 1 31 32) 12,qd 34 (.zi 33) 28,qd 35 (.bin .eql 30 34) 63] true) (.cond 35 (.seq (OP [qm 36 5,Fa 37 0 8,Lo 38 37,Bs 39 1 1 [38],Ap 40 1 8 36 39,qm 5 40]) (.exit 2)) .skip)))) (OP [Bi 41 .add 25 (cI 1),qm 25 41])))
def zAl:PC:=.seq (.seq (OP [qm 9 6,qm 10 1,Ln 11 10,Bi 12 .lss 9 11]) (.cond 12 .skip (.exit 0))) (.seq (.block 1 (.seq (.ops [Fa 15 1 2,qd 16 (.zi 15) 1,qm 17 1,qm 18 6,qd 19 (.bin .sub 18 (cI 1)) 8,qd 20 (.zM 1 17 19) 28,qd 21 (.zi 20) 60,qd 22 (.zM 1 16 21) 127,qd 23 (.zi 22) 255,qd 24 (.len 23) 511,Mv 25 (cI 0)] true) (.block 2 (.loop zy9)))) (OP [qm 13 6,Bi 14 .add 13 (cI 1),qm 6 14]))
def c36:PC:=.seq (OP [Bx 2 0,Mv 4 cN]) (.seq (OP [Mv 5 cN]) (.seq (.seq (OP [Mv 6 (cI 1)]) (.block 0 (.loop zAl))) (.seq (OP [qm 42 5,qm 4 42]) .ret)))
theorem zxG:zz Tryz.prog 36 43 [.tmp 4] c36:=fK Tryz.func36
theorem zo9 (M:List (List Int)) (N:List (List zy)) (Vi:List Int) (hw:Vi.length≤100000) (hr:∀i,(N.getD i []).length≤100000) (hn:∀k,k<Vi.length→0≤Vi.getD k 0∧Vi.getD k 0<(N.length:Int))
  (he:∀i,i+1<Vi.length→Vi.getD (i+1) 0∈(gN N).getD (Vi.getD i 0).toNat []):zu Tryz.prog 36 [Qp M N,zw Vi] (zw (zhH N Vi)):=by
 refine zb zxG zs (by simp[ze,Z5,zh]) ?_ (zh _)
 refine sR ?_
 refine zE (y8 5 1 zs rfl) ?_
 refine zL [1,2] (λ((k,c,l):Nat × Nat × List Int)=>[(5,.own 1 c 0 c),(6,.sc (.int .i64 ((k:Int)+1)))]) (λ(k,c,l)=>[(1,.vec true c 1 (zI l))]) (λ(k,c,l)=>k≤Vi.length-1∧c=l.length∧c=k∧l=JF N Vi k) (λ(k,c,l)=>Vi.length-k) (0,0,[]) ?_
 refine sW ?_
 refine⟨⟨zo,rfl,zo,rfl⟩,by exact sK,rfl,?_⟩
 rintro⟨k,c,l⟩ ⟨hk,hc,hck,hl⟩
 refine sW ?_
 refine sR ?_
 rw[List.length_map]
 refine sS (λh1=>?_) λh1=>?_
 ·have hk':k+1<Vi.length:=sO
  have hn1:=hn k zo
  have hn2:=hn (k+1) hk'
  have hmem:=he k hk'
  have eA:JF N Vi (k+1)=JF N Vi k++[zhg (N.getD (Vi.getD k 0).toNat []) (Vi.getD (k+1) 0)]:=rfl
  have hA1:=yb (l:=Vi) (z:=k) (k:=k) rfl zo
  have hA2:=yb (l:=Vi) (z:=k+1) (k:=k+1) rfl hk'
  generalize Vi.getD k 0=a at hn1 hmem eA hA1
  generalize Vi.getD (k+1) 0=b at hn2 hmem eA hA2
  rw[zzf] at hmem
  have lx:=hr a.toNat
  refine sI ?_
  refine sL ((by rw[show((k:Int)+1-1).toNat=k by omega];exact hA1)) ?_
  refine sL (Xx (k:=a.toNat) zo zo) ?_
  rw[wZ]
  generalize N.getD a.toNat []=es at hmem eA lx
  refine zL [1,2,6,23,24] (λj:Nat=>[(5,.own 1 c 0 c),(25,.sc (.int .i64 j))]) (λ_=>[(1,.vec true c 1 (zI l))]) (λj=>j≤es.length∧∀q,q<j→(es.getD q (0,0)).2≠b) (λj=>es.length-j) 0 ?_
  refine sW ?_
  refine⟨⟨zo,λq hq=>zo⟩,by exact sK,rfl,?_⟩
  rintro j ⟨hj,hno⟩
  refine sW ?_
  refine sR ?_
  refine sS (λh2=>?_) λh2=>?_
  ·have hj':j<es.length:=sO
   refine sL (wC (k:=j) zo hj') ?_
   have hhit:=λh=>zln (l:=es) (t:=b) hj' h hno
   have hno':(es.getD j (0,0)).2≠b→∀q,q<j+1→(es.getD q (0,0)).2≠b:=λh q hq=>by
    by_cases e:q=j
    ·subst e;exact h
    ·exact hno q zo
   generalize es.getD j (0,0)=e at hhit hno'
   refine sL ((by rw[show((k:Int)+1).toNat=k+1 by omega];exact hA2)) ?_
   refine sS (λh3=>?_) λh3=>?_
   ·have h3:e.2=b:=sO
    refine sJ ?_
    refine sI ?_
    rw[hhit h3] at eA
    refine⟨(k+1,c+1,l++[e.1]),⟨zo,by simp[hc],zo,by rw[eA,hl]⟩,zd,?_⟩
    refine zj 2 zs rfl sQ (sU ?_)
    exact zk (xV hc)
   ·have h3:e.2≠b:=sO
    refine sI ?_
    refine⟨j+1,⟨zo,hno' h3⟩,zd,?_⟩
    exact zj 2 zs rfl sQ sQ
  ·exfalso
   have hj':j=es.length:=by have:¬j<es.length:=sO
                            omega
   obtain⟨x,hx,hxb⟩:=List.mem_map.1 hmem
   obtain⟨q,hq,rfl⟩:=List.mem_iff_getElem.1 hx
   refine hno q zo ?_
   rw[List.getD_eq_getElem?_getD,List.getElem?_eq_getElem hq]
   exact hxb
 ·have hk':k=Vi.length-1:=by have:¬k+1<Vi.length:=sO
                             omega
  subst hk'
  unfold zhH
  rw[←hl]
  exact .own _ _ _ _ _ _ _ _ rfl (by rw[List.drop_zero,List.take_of_length_le (by simp;omega)];exact zU _)
def c16:PC:=.seq (OP [Bx 2 0,Mv 4 (cI 0),Mv 5 cN]) (.seq (OP [qm 11 1,Ca 12 34 [11,cT],qm 6 12]) (.seq (.seq (OP [qm 13 6,Bi 14 .lss 13 (cI 0)]) (.cond 14 (.seq (OP [Mv 4 (cI (-1)),Mv 5 cN]) .ret) .skip)) (.seq (OP [qm 15 1,Ln 16 15,q 17 (.x5 1 1 [(.bool false)] 16 16),qm 7 17]) (.seq (OP [qm 18 7,qm 19 6,Ia 20 1 18 19,So 1 20 cT]) (.seq (OP [LA 22 2 2,Ca 23 13 [22],Bs 24 1 1 [(cI 0)],qm 25 7,Ca 26 35 [23,24,25],qm 21 26,Xt 27 0 21,Xt 28 1 21,Xt 29 2 21,qm 8 27,qm 9 28,qm 10 29]) (.seq (OP [qm 30 6,LA 31 2 2,qm 32 8,Ca 33 36 [31,32],qm 4 30,qm 5 33]) .ret))))))
theorem zx3:zz Tryz.prog 16 34 [.tmp 4,.tmp 5] c16:=fK Tryz.func16
theorem zrw {n:Nat} {p:Nat→Bool}:wc (λa=>true==a) ((List.range n).map p)=XJ p n n:=by
 rcases zag (p:=p) (n:=n) n (Nat.le_refl _) with⟨h1,h2⟩|⟨k,h1,h2,h3,h4,h5⟩
 ·rw[h1]
  exact ZF λj hj=>by
   have:=h2 j zo (by simpa using hj)
   simp[this]
 ·rw[h1]
  exact Xs (by simpa using h3) (by simp[h4]) λj hj=>by
   have:=h5 j zo hj
   simp[this]
noncomputable def Ve (N:List (List zy)) (to:Int):List Int:=if to<0 then [] else zhH N (zdH (gN N) [0] λi=>decide ((i:Int)=to))
theorem zxo {g:List (List Int)} {c:Nat} (h:∀i,(g.getD i []).length≤c):zbU g (λ_=>false)≤g.length*c:=by
 have:=V4 (f:=λv=>if false=true then 0 else (g.getD v []).length) (c:=c) g.length λj _=>by
  simp only[Bool.false_eq_true,if_false]
  exact h j
 exact this
theorem zta {n:Nat} {to:Int} {z:Nat} (hz:(z:Int)=to):(Zu n λ_=>false).set (0+to.toNat) [.sc (.bool true)]=Zu n λi=>decide ((i:Int)=to):=by
 rw[show 0+to.toNat=z by omega,zb3]
 refine w9 λi _=>?_
 by_cases e:i=z
 ·subst e;simp[hz]
 ·rw[if_neg e]
  exact(decide_eq_false zo).symm
theorem zjr (M:List (List Int)) (N:List (List zy)) (s:Nat) (hS:SpN M N s) (is_:Nat→Bool):zu Tryz.prog 16 [Qp M N,UY M.length is_] (.yI [.sc (.int .i64 (XJ is_ M.length M.length)),zw (Ve N (XJ is_ M.length M.length))]):=by
 have hf:=hS.few
 have hp:=hS.pos
 have hl:=hS.len
 obtain⟨g1,g2⟩:=hS.graph
 have hI:=QN ((List.range M.length).map is_) (by simp;omega) true
 rw[←zgP,zrw] at hI
 have hG:=zjp M N zo (λi=>by have:=hS.rowAt i;omega)
 have hfr:XJ is_ M.length M.length=-1∨∃k:Nat,XJ is_ M.length M.length=(k:Int)∧k<M.length:=by
  rcases zag (p:=is_) (n:=M.length) M.length (Nat.le_refl _) with⟨h1,_⟩|⟨k,h1,_,h3,_⟩
  ·exact .inl h1
  ·exact .inr ⟨k,h1,h3⟩
 generalize XJ is_ M.length M.length=f at hI hfr
 refine zb zx3 zs (by simp[ze,Z5,xm]) ?_ (by simp[Pure,ze,zh])
 refine sR ?_
 refine sC hI ?_
 refine sS (λh1=>?_) λh1=>?_
 ·have h1:f<0:=sO
  have:f=-1:=zo
  subst this
  exact .yI _ _ (.cons _ _ _ _ (.refl _) (.cons _ _ _ _ (by unfold Ve;rw[if_pos zo];exact .none _) .nil))
 have h1:¬f<0:=sO
 obtain⟨k,hk,hkl⟩:=hfr.resolve_left zo
 rw[Jp]
 refine⟨zo,zo,zo,?_⟩
 rw[Int.toNat_natCast,show List.map D.sc [Value.bool false]=[D.sc (.bool false)] from rfl,ZT]
 refine sW ?_
 refine sB ?_
 refine⟨_,y6 k zo hkl,?_⟩
 refine sW ?_
 rw[zta hk.symm]
 refine sC hG ?_
 have hto:∀i,(gN N).length≤i→(λi:Nat=>decide ((i:Int)=f)) i=false:=λi hi=>decide_eq_false (by rw[zaO] at hi;omega)
 have h0:xv [0] (gN N).length=true:=xN λx hx=>by rw[List.mem_singleton] at hx;subst hx;rw[zaO];omega
 have hW:=zs4 (gN N) g1 g2 [0] h0 zs _ hto
 have yT:=(uK.1 g1).2
 obtain⟨w1,w2,w3⟩:=zyq yT h0 (to:=λi:Nat=>decide ((i:Int)=f))
 have eL:Ve N f=zhH N (zdH (gN N) [0] λi=>decide ((i:Int)=f)):=by unfold Ve;rw[if_neg h1]
 rw[eL]
 rw[show(gN N).length=M.length by rw[zaO,hl]] at hW w2 w3
 generalize (zdH (gN N) [0] λi=>decide ((i:Int)=f))=Vi at hW w1 w2 w3
 refine .inr (.inr (.inr (.inr (.inr (.inl ⟨rfl,_,_,.cons _ _ _ _ (.refl _) (.cons _ _ _ _ (.own _ _ _ _ _ _ _ _ rfl (zU _)) (.cons _ _ _ _ (zcU rfl) .nil)),hW,?_⟩)))))
 refine sW ?_
 refine sC (zo9 M N Vi zo (λi=>by have:=hS.rowAt i;omega) (λk hk=>by have:=w2 _ (yr hk);omega) w1) ?_
 exact .refl _
end
section
open Go.RowKit
def qs (M:List (List Int)) (N:List (List zy)) (i:Nat):Bool:=decide ((N.getD i []).length=0)&&!(QQ (M.getD i []))
def Zp (M:List (List Int)):Nat→List Int
 | 0=>[]
 | k+1=>if QQ (M.getD k [])=true then Zp M k++[(k:Int)] else Zp M k
theorem zde (M:List (List Int)):∀k,(Zp M k).length≤k
 | 0=>by simp[Zp]
 | k+1=>by
  have:=zde M k
  simp only[Zp]
  split<;>simp<;>omega
theorem zdi {M:List (List Int)} {x:Int}:∀{k:Nat},x∈Zp M k↔0≤x∧x<(k:Int)∧QQ (M.getD x.toNat [])=true
 | 0=>by simp[Zp];omega
 | k+1=>by
  have ih:=zdi (M:=M) (x:=x) (k:=k)
  simp only[Zp]
  split
  ·rename_i h
   rw[List.mem_append,ih,List.mem_singleton]
   constructor
   ·rintro(⟨a,b,c⟩|rfl)
    ·exact⟨a,zo,c⟩
    ·exact⟨zo,zo,by rw[Int.toNat_natCast];exact h⟩
   ·rintro⟨a,b,c⟩
    by_cases e:x=(k:Int)
    ·exact .inr e
    ·exact .inl ⟨a,zo,c⟩
  ·rename_i h
   rw[ih]
   constructor
   ·rintro⟨a,b,c⟩;exact⟨a,zo,c⟩
   ·rintro⟨a,b,c⟩
    refine⟨a,?_,c⟩
    by_cases e:x=(k:Int)
    ·subst e;rw[Int.toNat_natCast] at c;exact absurd c h
    ·omega
noncomputable def Yv (M:List (List Int)) (N:List (List zy)) (i:Nat):Bool:=!(Vq (xH (gN N) (gN N).length) (Zp M M.length) i)
def zdG (dead:List Int) (still never:Int) (ts tn:List Int):D:=.agg [zw dead,.sc (.int .i64 still),.sc (.int .i64 never),zw ts,zw tn]
noncomputable def findD (P:za) (M:List (List Int)) (N:List (List zy)):D :=
 zdG (Qd P N) (XJ (qs M N) M.length M.length) (XJ (Yv M N) M.length M.length) (Ve N (XJ (qs M N) M.length M.length)) (Ve N (XJ (Yv M N) M.length M.length))
theorem zdD (dead:List Int) (still never:Int) (ts tn:List Int):Pure (zdG dead still never ts tn):=by simp[zdG,Pure,ze,zh]
def zzB:PC:=.seq (OP [Bi 34 .lss 33 32]) (.seq (.cond 34 .skip (.exit 2)) (.seq (.block 3 (.seq (OP [Ia 35 2 31 33,LA 36 2 35,q 11 (.alloc [(.int .i64 0),(.int .i64 0)]),So 2 11 36]) (OP [qm 37 7,qm 38 5,Fa 39 0 11,Lo 40 39,Ia 41 3 38 40,Fa 42 0 41,Lo 43 42,Ia 44 1 37 43,So 1 44 cT]))) (OP [Bi 45 .add 33 (cI 1),qm 33 45])))
def zAw:PC:=.seq (OP [Bi 28 .lss 27 26]) (.seq (.cond 28 .skip (.exit 0)) (.seq (.block 1 (.seq (OP [Ia 29 1 25 27,Lo 30 29,qm 9 30]) (.seq (OP [qm 31 9,Ln 32 31,Mv 33 (cI 0)]) (.block 2 (.loop zzB))))) (OP [Bi 46 .add 27 (cI 1),qm 27 46])))
def zzd:PC:=.seq (OP [Bi 50 .lss 49 48]) (.seq (.cond 50 .skip (.exit 4)) (.seq (.block 5 (.seq (OP [qm 51 49,Ia 52 1 47 49,Lo 53 52,qm 13 51,qm 14 53]) (.seq (OP [qm 54 14,Nt 55 54,qm 56 55,GT 57 56 (.zv 0 2),GT 58 56 (.zi 57),GT 59 56 (.move 13),GT 60 56 (.zM 2 58 59),GT 61 56 (.zv 1 60),GT 62 56 (.zi 61),GT 63 56 (.bin .neq 62 (cI 1)),Pk 64 56 63 cF]) (.cond 64 (OP [qm 65 12,qm 66 13,Bs 67 1 1 [66],Ap 68 1 8 65 67,qm 12 68]) .skip)))) (OP [Bi 69 .add 49 (cI 1),qm 49 69])))
def c15:PC:=.seq (OP [Bx 2 0,Bx 3 1,Mv 4 cN]) (.seq (OP [LA 16 2 2,Ca 17 33 [16],qm 15 17,Xt 18 0 15,Xt 19 1 15,qm 5 18,qm 6 19]) (.seq (OP [Fa 20 0 2,Lo 21 20,Ln 22 21,q 23 (.x5 1 1 [(.bool false)] 22 22),qm 7 23]) (.seq (.seq (OP [Fa 24 1 3,Lo 25 24,Ln 26 25,Mv 27 (cI 0)]) (.block 0 (.loop zAw))) (.seq (OP [Mv 12 cN]) (.seq (.seq (OP [qm 47 7,Ln 48 47,Mv 49 (cI 0)]) (.block 4 (.loop zzd))) (.seq (OP [qm 70 12,qm 4 70]) .ret))))))
theorem zxY:zz Tryz.prog 15 71 [.tmp 4] c15:=fK Tryz.func15
theorem zts (P:za) (hP:P.Fits) (M:List (List Int)) (N:List (List zy)) (hF:ztv P M N):zu Tryz.prog 15 [yQ P,Qp M N] (zw (Qd P N)):=by
 have hS:=hF.sp
 have hf:=hS.few
 have hl:=hS.len
 have hnn:P.nodes.length≤20:=(yM (za.yH hF.steps).1).1
 refine zb zxY zs (by simp[ze,Z5,z6]) ?_ (zh _)
 refine sR ?_
 refine sC (Y6 P hP) ?_
 rw[List.length_map]
 refine⟨zo,zo,zo,?_⟩
 rw[Int.toNat_natCast,show List.map D.sc [Value.bool false]=[D.sc (.bool false)] from rfl,ZT]
 refine sW ?_
 rw[Uq]
 refine zL [2,5,7,25,26] (λn:Nat=>[(27,.sc (.int .i64 n))]) (λn=>[(2,.vec true 0 1 (Zu P.nodes.length (zbY P.zx N n)))]) (λn=>n≤N.length) (λn=>N.length-n) 0 ?_
 refine sW ?_
 refine⟨zo,by exact sK,rfl,?_⟩
 rintro n hn
 refine sW ?_
 refine sR ?_
 refine sS (λh1=>?_) λh1=>?_
 ·have hn':n<N.length:=sO
  refine sL (Xx (k:=n) zo hn') ?_
  have lx:=hS.rowAt n
  have hed:=λk hk=>hS.zes (i:=n) (k:=k) hk
  have eN:zbY P.zx N (n+1)=zbD P.zx (N.getD n []) (zbY P.zx N n) (N.getD n []).length:=rfl
  rw[wZ]
  generalize N.getD n []=es at lx hed eN
  generalize zbY P.zx N n=s0 at eN
  refine zL [2,5,7,25,26,27,31,32] (λj:Nat=>[(33,.sc (.int .i64 j))]) (λj=>[(2,.vec true 0 1 (Zu P.nodes.length (zbD P.zx es s0 j)))]) (λj=>j≤es.length) (λj=>es.length-j) 0 ?_
  refine sW ?_
  refine⟨zo,by exact sK,rfl,?_⟩
  rintro j hj
  refine sW ?_
  refine sR ?_
  refine sS (λh2=>?_) λh2=>?_
  ·have hj':j<es.length:=sO
   have he:=hed j hj'
   have eR:zbD P.zx es s0 (j+1)=mark (zbD P.zx es s0 j) (P.zx.getD (es.getD j (0,0)).1.toNat (0,0,0)).1.toNat:=rfl
   refine sL (wC (k:=j) zo hj') ?_
   generalize es.getD j (0,0)=e at he eR
   have hst:=(za.ZD hF.steps (k:=e.1.toNat) zo).node
   refine sL (VU (k:=e.1.toNat) zo zo) ?_
   generalize P.zx.getD e.1.toNat (0,0,0)=st at hst eR
   refine sB ?_
   refine⟨_,y6 st.1.toNat zo zo,?_⟩
   refine sW ?_
   refine sI ?_
   refine⟨j+1,zo,zd,?_⟩
   rw[JT (v:=st.1.toNat) zo,←eR]
   exact zj 3 zs rfl sQ sQ
  ·have hj':j=es.length:=by have:¬j<es.length:=sO
                            omega
   subst hj'
   refine sI ?_
   rw[←eN]
   exact⟨n+1,zo,zd,zC (by exact sK) rfl⟩
 ·have hn':n=N.length:=by have:¬n<N.length:=sO
                          omega
  subst hn'
  have eD:Qd P N=qY P (zbY P.zx N N.length) P.nodes.length:=rfl
  generalize zbY P.zx N N.length=s0 at eD
  rw[Nat.sub_zero]
  refine zE (y8 12 1 zs rfl) ?_
  refine zL [2,47,48] (λ((k,c,l):Nat × Nat × List Int)=>[(12,.own 3 c 0 c),(49,.sc (.int .i64 k))]) (λ(k,c,l)=>[(3,.vec true c 1 (zI l))]) (λ(k,c,l)=>k≤P.nodes.length∧c=l.length∧c≤k∧l=qY P s0 k) (λ(k,c,l)=>P.nodes.length-k) (0,0,[]) ?_
  refine sW ?_
  refine⟨⟨zo,rfl,zo,rfl⟩,by exact sK,rfl,?_⟩
  clear h1 hn
  rintro⟨k,c,l⟩ ⟨hk,hc,hck,hl'⟩
  refine sW ?_
  refine sR ?_
  refine sS (λh1=>?_) λh1=>?_
  ·have hk':k<P.nodes.length:=sO
   have eT:qY P s0 (k+1)=if s0 k=false∧P.kind k≠1 then qY P s0 k++[(k:Int)] else qY P s0 k:=rfl
   refine sB ?_
   refine⟨_,y6 k zo hk',?_⟩
   refine sW ?_
   cases hs:s0 k
   ·refine sW ?_
    refine sL (ZZ P (k:=k) zo hk') ?_
    refine sS (λh2=>?_) λh2=>?_
    ·have h2:P.kind k≠1:=sO
     rw[if_pos ⟨hs,h2⟩] at eT
     refine sJ ?_
     refine sI ?_
     refine⟨(k+1,c+1,l++[(k:Int)]),⟨zo,by simp[hc],zo,by rw[eT,hl']⟩,zd,?_⟩
     refine zj 4 zs rfl sQ (sU ?_)
     exact zk (xV hc)
    ·have h2:P.kind k=1:=sO
     rw[if_neg (λq=>q.2 h2)] at eT
     refine sI ?_
     refine⟨(k+1,c,l),⟨zo,hc,zo,by rw[eT,hl']⟩,zd,?_⟩
     exact zj 4 zs rfl sQ sQ
   ·refine sW ?_
    rw[if_neg (λq=>by rw[hs] at q;cases q.1)] at eT
    refine sI ?_
    refine⟨(k+1,c,l),⟨zo,hc,zo,by rw[eT,hl']⟩,zd,?_⟩
    exact zj 4 zs rfl sQ sQ
  ·have hk':k=P.nodes.length:=by have:¬k<P.nodes.length:=sO
                                 omega
   subst hk'
   rw[eD,←hl']
   exact .own _ _ _ _ _ _ _ _ rfl (by rw[List.drop_zero,List.take_of_length_le (by simp;omega)];exact zU _)
theorem zlh {g:List (List Int)} (hg:Vv g=0) (h200:g.length≤200):Vv (xH g g.length)=0∧qV (xH g g.length)∧zbU (xH g g.length) (λ_=>false)≤100000:=by
 obtain⟨hn,yT⟩:=uK.1 hg
 have hl:=YZ g g.length
 have hmem:∀v x,x∈(xH g g.length).getD v []→0≤x∧x<(g.length:Int):=λv x hx=>by
  obtain⟨k,hk,rfl,_⟩:=(za2 (λv y hy=>by have:=ye (y9 yT v) hy;omega) (Nat.le_refl _)).1 hx
  omega
 have row:∀l∈xH g g.length,∃u,l=(xH g g.length).getD u []:=λl hl=>by
  obtain⟨u,hu,rfl⟩:=List.mem_iff_getElem.1 hl
  exact⟨u,by rw[List.getD_eq_getElem?_getD,List.getElem?_eq_getElem hu];rfl⟩
 have hrl:=Ut g g.length
 refine⟨uK.2 ⟨zo,λl h=>?_⟩,⟨zo,λl h=>?_⟩,?_⟩
 ·obtain⟨u,rfl⟩:=row l h
  refine xN λx hx=>?_
  rw[hl]
  exact hmem u x hx
 ·obtain⟨u,rfl⟩:=row l h
  have:=hrl u
  omega
 ·refine Nat.le_trans (zxo (c:=200) λi=>by have:=hrl i;omega) ?_
  rw[hl]
  omega
def c5_1:PC:=.seq (OP [Bi 44 .lss 43 42]) (.seq (.cond 44 .skip (.exit 0)) (.seq (.block 1 (.seq (OP [qm 45 43,Ia 46 1 41 43,Lo 47 46,qm 14 45,qm 15 47]) (.seq (OP [qm 48 11,qm 49 14,Fa 50 1 8,Lo 51 50,qm 52 14,Ia 53 1 51 52,Lo 54 53,Ln 55 54,Bi 56 .eql 55 (cI 0),qm 57 56,GT 58 57 (.move 15),GT 59 57 (.call 11 [58]),GT 60 57 (.un .not 59),Pk 61 57 60 cF,Ia 62 1 48 49,So 1 62 61]) (.seq (OP [qm 63 15,Ca 64 11 [63]]) (.cond 64 (OP [qm 65 13,qm 66 14,Bs 67 1 1 [66],Ap 68 1 8 65 67,qm 13 68]) .skip))))) (OP [Bi 69 .add 43 (cI 1),qm 43 69])))
def c5_2:PC:=.seq (OP [Bi 85 .lss 84 83]) (.seq (.cond 85 .skip (.exit 2)) (.seq (.block 3 (.seq (OP [qm 86 84,qm 20 86]) (OP [qm 87 12,qm 88 20,qm 89 18,qm 90 20,Ia 91 1 89 90,Lo 92 91,Nt 93 92,Ia 94 1 87 88,So 1 94 93]))) (OP [Bi 95 .add 84 (cI 1),qm 84 95])))
def c5:PC:=.seq (OP [Bx 3 0,q 6 (.alloc [(.slice none 0 0),(.int .i64 0),(.int .i64 0),(.slice none 0 0),(.slice none 0 0)]),Mv 7 (cI 0)]) (.seq (OP [LA 23 2 3,qm 24 1,qm 25 2,Ca 26 10 [23,24,25],qm 22 26,Xt 27 0 22,Xt 28 1 22,q 8 (.alloc [(.slice none 0 0),(.slice none 0 0)]),So 2 8 27,qm 9 28]) (.seq (.seq (OP [qm 29 9,Bi 30 .neq 29 (cI 0)]) (.cond 30 (.seq (OP [q 31 (.build [(.slice none 0 0),(.int .i64 0),(.int .i64 0),(.slice none 0 0),(.slice none 0 0)] []),qm 32 9,So 5 6 31,qm 7 32]) .ret) .skip)) (.seq (OP [Fa 33 0 8,Lo 34 33,Ln 35 34,qm 10 35]) (.seq (.ops [qm 36 10,qd 37 (.x5 1 1 [(.bool false)] 36 36) 1,qm 38 10,qd 39 (.x5 1 1 [(.bool false)] 38 38) 4,qw 11 37 3,qw 12 39 31] true) (.seq (OP [Mv 13 cN]) (.seq (.seq (OP [Fa 40 0 8,Lo 41 40,Ln 42 41,Mv 43 (cI 0)]) (.block 0 (.loop c5_1))) (.seq (.stop (OP [LA 71 2 8,Ca 72 13 [71],Ca 73 12 [72],qm 70 73,Xt 74 0 70,Xt 75 1 70,qm 16 74,qm 17 75])) (.seq (OP [qm 77 16,qm 78 13,Ca 79 14 [77,78],qm 76 79,Xt 80 0 76,Xt 81 1 76,qm 18 80,qm 19 81]) (.seq (.seq (OP [qm 82 12,Ln 83 82,Mv 84 (cI 0)]) (.block 2 (.loop c5_2))) (.seq (.stop (OP [LA 96 2 3,LA 97 2 8,Ca 98 15 [96,97],q 99 (.build [(.slice none 0 0),(.int .i64 0),(.int .i64 0),(.slice none 0 0),(.slice none 0 0)] [(0,1,98)]),q 21 (.alloc [(.slice none 0 0),(.int .i64 0),(.int .i64 0),(.slice none 0 0),(.slice none 0 0)]),So 5 21 99])) (.seq (OP [LA 101 2 8,qm 102 11,Ca 103 16 [101,102],qm 100 103,Xt 104 0 100,Xt 105 1 100,Fa 106 1 21,So 1 106 104,Fa 107 3 21,So 1 107 105]) (.seq (OP [LA 109 2 8,qm 110 12,Ca 111 16 [109,110],qm 108 111,Xt 112 0 108,Xt 113 1 108,Fa 114 2 21,So 1 114 112,Fa 115 4 21,So 1 115 113]) (.seq (OP [LA 116 5 21,So 5 6 116,Mv 7 (cI 0)]) .ret)))))))))))))
theorem zvr:zz Tryz.prog 5 117 [.agg 6 5,.tmp 7] c5:=fK Tryz.func5
theorem zpo (P:za) (hP:P.Fits) (tok st:Int) (he:P.Vr tok st≠0):zu Tryz.prog 5 [yQ P,.sc (.int .i64 tok),.sc (.int .i64 st)] (.yI [zdG [] 0 0 [] [],.sc (.int .i64 (P.Vr tok st))]):=by
 have hE:=X0 P hP tok st
 refine zb zvr zs (by simp[ze,Pure,z6]) ?_ (by simp[Pure,ze,zdD])
 generalize P.Vr tok st=e at *
 refine sR ?_
 refine sC hE ?_
 refine sS (λh1=>?_) λh1=>?_
 ·exact .yI _ _ (.cons _ _ _ _ (.agg _ _ (.cons _ _ _ _ (.none _) (.cons _ _ _ _ (.refl _) (.cons _ _ _ _ (.refl _) (.cons _ _ _ _ (.none _) (.cons _ _ _ _ (.none _) .nil)))))) (.cons _ _ _ _ (.refl _) .nil))
 ·exfalso;exact sO
theorem zpd (P:za) (hP:P.Fits) (tok st:Int) (he:P.Vr tok st=0) (hF:ztv P (P.exM tok st) (P.xI tok st)):zu Tryz.prog 5 [yQ P,.sc (.int .i64 tok),.sc (.int .i64 st)] (.yI [findD P (P.exM tok st) (P.xI tok st),.sc (.int .i64 0)]):=by
 have hE:=X0 P hP tok st
 rw[he] at hE
 generalize P.exM tok st=M at *
 generalize P.xI tok st=N at *
 have hS:=hF.sp
 have hf:=hS.few
 have hl:=hS.len
 obtain⟨g1,g2⟩:=hS.graph
 refine zb zvr zs (by simp[ze,Pure,z6]) ?_ (by unfold findD;simp[Pure,ze,zdD])
 refine sR ?_
 refine sC hE ?_
 rw[List.length_map]
 refine⟨zo,zo,zo,?_⟩
 rw[Int.toNat_natCast,show List.map D.sc [Value.bool false]=[D.sc (.bool false)] from rfl,ZT]
 refine sW ?_
 refine⟨zo,zo,zo,?_⟩
 rw[Int.toNat_natCast,show List.map D.sc [Value.bool false]=[D.sc (.bool false)] from rfl,ZT]
 refine sW ?_
 rw[List.length_map]
 refine zE (y8 13 1 zs rfl) ?_
 refine zL [3,6,8,11,12,41,42] (λ((k,c,l):Nat × Nat × List Int)=>[(13,.own 5 c 0 c),(43,.sc (.int .i64 k))]) (λ(k,c,l)=>[(3,.vec true 0 1 (Zu M.length (zaj (qs M N) k false))),(5,.vec true c 1 (zI l))]) (λ(k,c,l)=>k≤M.length∧c=l.length∧c≤k∧l=Zp M k) (λ(k,c,l)=>M.length-k) (0,0,[]) ?_
 refine sW ?_
 refine⟨⟨zo,rfl,zo,rfl⟩,by exact sK,by dsimp only;rw[←zjG M.length (qs M N)];rfl,?_⟩
 rintro⟨k,c,l⟩ ⟨hk,hc,hck,hl'⟩
 refine sW ?_
 refine sR ?_
 refine sS (λh1=>?_) λh1=>?_
 ·have hk':k<M.length:=sO
  have hm30:=hS.mark _ (za.ZB hk')
  have eT:Zp M (k+1)=if QQ (M.getD k [])=true then Zp M k++[(k:Int)] else Zp M k:=rfl
  have eS:qs M N k=(decide ((N.getD k []).length=0)&&!(QQ (M.getD k []))):=rfl
  refine sL (wG (k:=k) zo hk') ?_
  generalize M.getD k []=m at hm30 eT eS
  have hEm:=zqS m zo
  generalize QQ m=em at hEm eT eS
  refine sL (Xx (k:=k) zo zo) ?_
  rw[wZ]
  generalize (N.getD k []).length=ln at eS
  cases h2:((ln:Int)==0)
  ·have h2:ln≠0:=sO
   refine sW ?_
   have hst:false=qs M N k:=by rw[eS,decide_eq_false h2];rfl
   refine sB ?_
   refine⟨_,y6 k zo hk',?_⟩
   refine sW ?_
   refine sC hEm ?_
   cases em
   ·refine sW ?_
    refine sI ?_
    refine⟨(k+1,c,l),⟨zo,hc,zo,by rw[eT,hl'];rfl⟩,zd,?_⟩
    rw[JL zo,VZ hst]
    exact zj 6 zs rfl sQ sQ
   ·refine sW ?_
    refine sJ ?_
    refine sI ?_
    refine⟨(k+1,c+1,l++[(k:Int)]),⟨zo,by simp[hc],zo,by rw[eT,hl'];rfl⟩,zd,?_⟩
    rw[JL zo,VZ hst]
    refine zj 6 zs rfl sQ (sU ?_)
    exact zk (xV hc)
  ·have h2:ln=0:=sO
   refine sW ?_
   refine sC hEm ?_
   have hst:(!em)=qs M N k:=by rw[eS,decide_eq_true h2];rfl
   refine sB ?_
   refine⟨_,y6 k zo hk',?_⟩
   refine sW ?_
   refine sC hEm ?_
   cases em
   ·refine sW ?_
    refine sI ?_
    refine⟨(k+1,c,l),⟨zo,hc,zo,by rw[eT,hl'];rfl⟩,zd,?_⟩
    rw[JL zo,VZ hst]
    exact zj 6 zs rfl sQ sQ
   ·refine sW ?_
    refine sJ ?_
    refine sI ?_
    refine⟨(k+1,c+1,l++[(k:Int)]),⟨zo,by simp[hc],zo,by rw[eT,hl'];rfl⟩,zd,?_⟩
    rw[JL zo,VZ hst]
    refine zj 6 zs rfl sQ (sU ?_)
    exact zk (xV hc)
 ·have hk':k=M.length:=by have:¬k<M.length:=sO
                          omega
  subst hk'
  have hends:∀x∈l,0≤x∧x<(M.length:Int):=λx hx=>by rw[hl'] at hx;have:=(zdi (M:=M)).1 hx;omega
  refine zE (qf (Yy 5) (env':=[(3,.loc 0 0),(6,.loc 1 0),(8,.loc 2 0),(11,.own 3 0 0 M.length),(12,.own 4 0 0 M.length),(13,zw l)])
   (H':=[.row true P.cells,.row true [.sc (.slice none 0 0),.sc (.int .i64 0),.sc (.int .i64 0),.sc (.slice none 0 0),.sc (.slice none 0 0)],.row true (XY M N),.vec true 0 1 (Zu M.length (zaj (qs M N) M.length false)),.vec true 0 1 (Zu M.length λ_=>false),.vec false c 1 (zI l)])
   ⟨.refl _,.refl _,.refl _,.refl _,.refl _,.own _ _ _ _ _ _ _ _ rfl rfl (zk (by rw[List.drop_zero,List.take_of_length_le (by simp;omega)];rfl)),trivial⟩
   ⟨⟨.inl rfl,(λh=>by cases h),.refl _⟩,⟨.inl rfl,(λh=>by cases h),.refl _⟩,⟨.inl rfl,(λh=>by cases h),.refl _⟩,⟨.inl rfl,(λh=>by cases h),rfl,rfl,.refl _⟩,⟨.inl rfl,(λh=>by cases h),rfl,rfl,.refl _⟩,⟨.inr ⟨rfl,rfl⟩,λ_=>rfl,rfl,rfl,.refl _⟩,trivial⟩) ?_
  rw[zjN]
  refine sR ?_
  refine sC (zjp M N zo (λi=>by have:=hS.rowAt i;omega)) ?_
  refine sC (znM (gN N) g1 g2) ?_
  obtain⟨t1,t2,t3⟩:=zlh g1 (by rw[zaO];omega)
  have eB:Yv M N=λi=>!(Vq (xH (gN N) (gN N).length) (Zp M M.length) i):=rfl
  have hll:=zde M M.length
  have tl:(xH (gN N) (gN N).length).length=M.length:=by rw[YZ,zaO,hl]
  rw[←hl'] at eB hll
  have fD:findD P M N=zdG (Qd P N) (XJ (qs M N) M.length M.length) (XJ (Yv M N) M.length M.length) (Ve N (XJ (qs M N) M.length M.length)) (Ve N (XJ (Yv M N) M.length M.length)):=rfl
  generalize xH (gN N) (gN N).length=tg at t1 t2 t3 tl eB
  have hR:=zf5 tg t1 t2 l (xN λx hx=>by have:=hends x hx;omega) zo
  rw[tl] at hR
  refine sC hR ?_
  generalize Vq tg l=ok at eB
  refine zL [3,6,8,11,12,18,83] (λk:Nat=>[(84,.sc (.int .i64 k))]) (λk=>[(4,.vec true 0 1 (Zu M.length (zaj (Yv M N) k false)))]) (λk=>k≤M.length) (λk=>M.length-k) 0 ?_
  refine sW ?_
  refine⟨zo,by exact sK,by rw[←zjG M.length (Yv M N)];rfl,?_⟩
  clear h1 hk
  rintro k hk
  refine sW ?_
  refine sR ?_
  refine sS (λh1=>?_) λh1=>?_
  ·have hk':k<M.length:=sO
   refine sL (y6 k zo hk') ?_
   refine sB ?_
   refine⟨_,y6 k zo hk',?_⟩
   refine sW ?_
   refine sI ?_
   refine⟨k+1,zo,zd,zC (by exact sK) ?_⟩
   rw[JL zo,VZ (by rw[eB])]
   rfl
  ·have hk':k=M.length:=by have:¬k<M.length:=sO
                           omega
   subst hk'
   refine zE (qf (Yy 3) (env':=[(3,.loc 0 0),(6,.loc 1 0),(8,.loc 2 0),(11,UY M.length (qs M N)),(12,UY M.length (Yv M N))])
    (H':=[.row true P.cells,.row true [.sc (.slice none 0 0),.sc (.int .i64 0),.sc (.int .i64 0),.sc (.slice none 0 0),.sc (.slice none 0 0)],.row true (XY M N),.vec false 0 1 (Zu M.length (qs M N)),.vec false 0 1 (Zu M.length (zaj (Yv M N) M.length false)),.vec false c 1 (zI l)])
    ⟨.refl _,.refl _,.refl _,.own _ _ _ _ _ _ _ _ rfl rfl (zk (zb4 _ _)),.own _ _ _ _ _ _ _ _ rfl rfl (zk (by rw[zb4,zjN])),trivial⟩
    ⟨⟨.inl rfl,(λh=>by cases h),.refl _⟩,⟨.inl rfl,(λh=>by cases h),.refl _⟩,⟨.inl rfl,(λh=>by cases h),.refl _⟩,⟨.inr ⟨rfl,rfl⟩,λ_=>rfl,rfl,rfl,.refl _⟩,⟨.inr ⟨rfl,rfl⟩,λ_=>rfl,rfl,rfl,.refl _⟩,⟨.inl rfl,λ_=>rfl,rfl,rfl,.refl _⟩,trivial⟩) ?_
   have hD:=zts P hP M N hF
   have hS1:=zjr M N _ hS (qs M N)
   have hS2:=zjr M N _ hS (Yv M N)
   rw[fD]
   generalize XJ (qs M N) M.length M.length=f1 at *
   generalize XJ (Yv M N) M.length M.length=f2 at *
   generalize Ve N f1=l1 at *
   generalize Ve N f2=l2 at *
   generalize Qd P N=dl at *
   refine sR ?_
   refine sC hD ?_
   refine sC hS1 ?_
   refine sC hS2 ?_
   exact .refl _
end
end
section
open Go.RowKit Go.ChangeShapes Go.WideShapes Go.ChangeAt
theorem zmk {P:Program} {α:Type} {e:TypeId} {f:α→List D} {ok:α→Prop} (he:∀cs,OfT P e cs→∃a,cs=f a∧ok a) {xs:List (List D)} (h:OfTL P e xs):∃l:List α,xs=l.map f∧∀a∈l,ok a:=by
 induction xs with
 | nil=>exact⟨[],rfl,zs⟩
 | cons x r ih =>
  cases h with
  | cons _ _ _ h k =>
   obtain⟨a,rfl,ha⟩:=he x h
   obtain⟨l,rfl,hl⟩:=ih k
   exact⟨a::l,rfl,λb hb=>by
    rcases List.mem_cons.1 hb with rfl|hb
    ·exact ha
    ·exact hl b hb⟩
theorem zrW {d:D} (h:OfA Tryz.prog 25 d):∃P:za,d=yQ P∧P.Fits:=by
 unfold OfA zop at h
 rw[Tryz.underlying25] at h
 obtain⟨cs,rfl,h⟩:=h
 have h:=of_struct Tryz.underlying25 h
 simp only[List.map_cons,List.map_nil] at h
 obtain⟨xs,r,rfl,hx0,hx,h⟩:=zdt Tryz.underlying22 h
 obtain⟨ys,r,rfl,hy0,hy,h⟩:=zdt Tryz.underlying23 h
 obtain rfl:=zey h
 obtain⟨nodes,rfl,hn⟩:=zmk (f:=vX) (ok:=λx=>x.1.size≤9223372036854775807) (λcs h=>by
  have h:=of_struct Tryz.underlying34 h
  simp only[List.map_cons,List.map_nil] at h
  obtain⟨s,_,rfl,hs,h⟩:=zqC Tryz.underlying9 h
  obtain⟨k,_,rfl,_,h⟩:=zeK Tryz.underlying3 h
  obtain rfl:=zey h
  exact⟨(s,k),rfl,hs⟩) hx
 obtain⟨zn,rfl,_⟩:=zmk (f:=YO) (ok:=λ_=>True) (λcs h=>by
  have h:=of_struct Tryz.underlying149 h
  simp only[List.map_cons,List.map_nil] at h
  obtain⟨s,_,rfl,hs,h⟩:=zeK Tryz.underlying3 h
  obtain⟨k,_,rfl,_,h⟩:=zeK Tryz.underlying3 h
  obtain rfl:=zey h
  exact⟨(s,k),rfl,trivial⟩) hy
 refine⟨⟨nodes,zn⟩,?_,⟨by simpa using hx0,by simpa using hy0,hn⟩⟩
 rw[show Tryz.prog.cellsOf 34=2 by kernel_rfl,show Tryz.prog.cellsOf 149=2 by kernel_rfl]
 rfl
end
section
open Go.RowKit
end
section
open Go.RowKit Go.ChangeShapes Go.WideShapes Go.ChangeAt
def c3_1:PC:=.seq (OP [Bi 32 .lss 31 30]) (.seq (.cond 32 .skip (.exit 0)) (.seq (.block 1 (.seq (OP [qm 33 31,Ia 34 2 29 31,LA 35 2 34,q 10 (.alloc [(.string ⟨#[]⟩),(.int .i64 0)]),qm 9 33,So 2 10 35]) (.seq (.ops [LA 37 2 3,qm 38 9,qd 39 (.call 7 [(cI 1),(cI 1),38,(cI 0),(cI 0),(cI 0)]) 2,qm 40 1,qm 41 2,qd 42 (.call 6 [37,39,40,41]) 31,qw 36 42 63,qd 43 (.ext 0 36) 127,qd 44 (.ext 1 36) 127,q 11 (.alloc [(.bool false),(.slice none 0 0),(.slice none 0 0)]),qk (.store 3 11 43) 767,qw 12 44 2047] true) (.seq (.seq (OP [qm 45 12,Bi 46 .eql 45 (cI 2)]) (.cond 46 (.seq (OP [Mv 6 cT]) .ret) .skip)) (.seq (.ops [qm 47 12,qd 48 (.bin .neq 47 (cI 0)) 1,qw 49 48 3,⟨some 50,.zv 0 11,some (49,false),7⟩,⟨some 51,.zi 50,some (49,false),15⟩,⟨some 52,.zv 0 7,some (49,false),7⟩,⟨some 53,.zi 52,some (49,false),39⟩,⟨some 54,.move 9,some (49,false),7⟩,⟨some 55,.call 8 [53,54],some (49,false),231⟩,⟨some 56,.move 55,some (49,false),487⟩,⟨some 57,.zv 1 10,some (56,false),999⟩,⟨some 58,.zi 57,some (56,false),2023⟩,⟨some 59,.bin .eql 58 (cI 1),some (56,false),4071⟩,⟨some 60,.pick 56 cT 59,some (49,false),8167⟩,⟨some 61,.eqb true 51 60,some (49,false),16383⟩,qd 62 (.pick 49 cT 61) 32767] true) (.cond 62 (.seq (OP [Mv 6 cF]) .ret) .skip)))))) (OP [Bi 63 .add 31 (cI 1),qm 31 63])))
def c3:PC:=.seq (OP [Bx 3 0,Mv 6 cF]) (.seq (.seq (OP [Ca 13 4 [],Nt 14 13]) (.cond 14 (.seq (OP [Mv 6 cF]) .ret) .skip)) (.seq (OP [LA 16 2 3,qm 17 1,qm 18 2,Ca 19 5 [16,17,18],qm 15 19,Xt 20 0 15,Xt 21 1 15,q 7 (.alloc [(.slice none 0 0),(.int .i64 0),(.int .i64 0),(.slice none 0 0),(.slice none 0 0)]),So 5 7 20,qm 8 21]) (.seq (.seq (OP [qm 22 8,Bi 23 .neq 22 (cI 0)]) (.cond 23 (.seq (OP [Fa 24 0 7,Lo 25 24,Ln 26 25,Bi 27 .eql 26 (cI 0),qm 6 27]) .ret) .skip)) (.seq (.seq (OP [Fa 28 0 3,Lo 29 28,Ln 30 29,Mv 31 (cI 0)]) (.block 0 (.loop c3_1))) (.seq (OP [Mv 6 cT]) .ret)))))
theorem zvx:zz Tryz.prog 3 64 [.tmp 6] c3:=fK Tryz.func3
theorem zur {P:za} (hP:P.Fits) {tok st:Int} (he:P.Vr tok st=0) {i:Nat} (hi:i<P.nodes.length) :
  ∃B s l e,zu Tryz.prog 6 [yQ P,XW ⟨1,1,i,0,0,0,0⟩,.sc (.int .i64 tok),.sc (.int .i64 st)] (.yI [U7 B s l,.sc (.int .i64 e)])∧(e=2∨e=0∧B=((Qd P (P.xI tok st)).contains (i:Int)||(P.kind i==1))):=by
 by_cases hA:y3 (P.xI tok st) (P.xI tok st).length≤600
 ·have hc:=za.yH (xY he).steps
  have hn20:=(yM hc.1).1
  obtain⟨s,l,h,_⟩:=zpv hP (x:=QX (i:Int)) rfl he hA (zu9 i zo) (zzj hc.1 hi) (zvH i zo)
  refine⟨_,_,_,_,h,.inr ⟨rfl,?_⟩⟩
  have h1:=ztw he hA (n:=i) zo (zwk zo) (zvH i zo)
  have h2:=zpT he hi
  rw[←h1] at h2
  rw[Bool.eq_iff_iff,h2]
  simp
 ·exact⟨_,_,_,_,zsx hP (name:=⟨#[114]⟩) (sort:=1) (x:=⟨1,1,i,0,0,0,0⟩) (k:=0) (a:=0) (b:=0) (c:=0) (f:=xD 0 0) (g:=xD 0 0) he hA,.inl rfl⟩
theorem zj9 (P:za) (hP:P.Fits) (tok st:Int) :
  zu Tryz.prog 3 [yQ P,.sc (.int .i64 tok),.sc (.int .i64 st)] (zbl true):=by
 have hS:=zrD
 unfold zbl at hS
 by_cases he:P.Vr tok st=0
 ·have hF:=xY he
  have hn20:=(yM (za.yH hF.steps).1).1
  have hL:=zpd P hP tok st he hF
  have hdl:(Qd P (P.xI tok st)).length≤P.nodes.length:=zd2 P _ _
  have hJ:=λi hi=>zur hP he (i:=i) hi
  unfold findD at hL
  generalize Qd P (P.xI tok st)=dl at *
  generalize XJ (qs (P.exM tok st) (P.xI tok st)) (P.exM tok st).length (P.exM tok st).length=f1 at *
  generalize XJ (Yv (P.exM tok st) (P.xI tok st)) (P.exM tok st).length (P.exM tok st).length=f2 at *
  generalize Ve (P.xI tok st) f1=l1 at *
  generalize Ve (P.xI tok st) f2=l2 at *
  clear hF he
  refine zb zvx zs (by simp[ze,Pure,z6]) ?_ (by simp[zbl,Pure])
  unfold zdG yQ za.cells XW Zd W7 zV WU yS U7 at *
  refine sR ?_
  refine sC hS ?_
  refine sC hL ?_
  rw[List.length_map]
  refine zL [1,2,3,7,29,30] (λi:Nat=>[(31,.sc (.int .i64 i))]) (λi=>[]) (λi=>i≤P.nodes.length) (λi=>P.nodes.length-i) 0 ?_
  refine sW ?_
  refine⟨zo,by exact sK,rfl,?_⟩
  rintro i hi
  refine sW ?_
  refine sR ?_
  refine sS (λh=>?_) λh=>?_
  ·have hi':i<P.nodes.length:=sO
   refine sL (ZZ P (k:=i) zo hi') ?_
   obtain⟨B,s,l,e,hJi,hB⟩:=hJ i hi'
   have hT:=VA 1 1 i 0 0 0
   have hC:=Jg dl zo (i:Int)
   unfold XW Zd W7 zV WU yS zw at *
   refine sC hT ?_
   refine sC hJi ?_
   rcases hB with rfl|⟨rfl,rfl⟩
   ·refine sW ?_
    exact .refl _
   ·refine sW ?_
    refine sC hC ?_
    cases k1:dl.contains (i:Int)
    ·refine sW ?_
     cases k2:(P.kind i==1)
     ·refine sW ?_
      refine sI ?_
      refine⟨i+1,zo,zd,?_⟩
      exact zj 2 zs rfl sQ sQ
     ·refine sW ?_
      refine sI ?_
      refine⟨i+1,zo,zd,?_⟩
      exact zj 2 zs rfl sQ sQ
    ·refine sW ?_
     refine sI ?_
     refine⟨i+1,zo,zd,?_⟩
     exact zj 2 zs rfl sQ sQ
  ·exact .refl _
 ·have hL:=zpo P hP tok st he
  refine zb zvx zs (by simp[ze,Pure,z6]) ?_ (by simp[zbl,Pure])
  generalize P.Vr tok st=e at *
  unfold zdG yQ za.cells at *
  refine sR ?_
  refine sC hS ?_
  refine sC hL ?_
  refine sS (λh=>?_) λh=>?_
  ·exact .refl _
  ·exfalso;exact sO
namespace topDead
theorem law:∀Ds,OfAs Tryz.prog [25,3,3] Ds→zu Tryz.prog 3 Ds (zbl true)
 | [d1,d2,d3],h=>by
  obtain⟨P,rfl,hP⟩:=zrW h.1
  obtain⟨tok,rfl,_⟩:=zpJ Tryz.underlying3 h.2.1
  obtain⟨st,rfl,_⟩:=zpJ Tryz.underlying3 h.2.2.1
  exact zj9 P hP tok st
theorem types:JB Tryz.prog [25,3,22,23,34,149,9]=true:=by kernel_rfl
theorem laidOut:laidOutB Tryz.prog=true:=by kernel_rfl
theorem readable:(Tryz.f3.params.toList.all λt=>Tryz.prog.readableRec t&&decide (t<Tryz.prog.types.size))=true:=by kernel_rfl
theorem own:ownKnob Tryz.prog.godebug=none:=by kernel_rfl
theorem fok {W:World} (_h:laidMetH Tryz.prog Rows.topDeadRow.laid W):FOK (XM W) W:=⟨λb h=>h,λg cs hg=>absurd hg (by simp[Xi]),λg t s hg=>absurd hg (by simp[zjz])⟩
theorem lifted (os:Os) (started:os.Started) (H:Type) (enc:TypeId × Value→H) :
  ReturnsInHanded {} Tryz.checked os 3 .any (λw args=>(Rows.topDeadSpec.pre enc Tryz.prog Tryz.f3 Rows.topDeadRow.domain false w args∧laidMetH Tryz.prog Rows.topDeadRow.laid w)∧sizedMet enc Tryz.prog Tryz.f3 (OpenSpec.ofChange Rows.topDeadSpec) false w args)
   (Rows.topDeadSpec.post enc Tryz.prog Tryz.f3 false true false false):=by
 refine returnsInHanded_of_change_and (C:=Tryz.checked) (X:=λw _=>laidMetH Tryz.prog Rows.topDeadRow.laid w) (λ_ _ _ hh h=>h.of_heap hh) own started (by kernel_rfl) Tryz.func3
  (ChangeSpec.witness_at (enc:=enc) (C:=Tryz.checked) (os:=os) (X:=λw _=>laidMetH Tryz.prog Rows.topDeadRow.laid w) false (World.laidAll Tryz.prog os Rows.topDeadRow.laid) #[.agg #[.slice none 0 0,.slice none 0 0],.int .i64 0,.int .i64 0] 8 (World.laidAll_os _ _ _) (by kernel_rfl) (by kernel_rfl) (by kernel_rfl) (by kernel_rfl) (by kernel_rfl) (show laidMet _ _ _ from laidMet_laidAll _ (by kernel_rfl) (by kernel_rfl))) ?_
 intro W base args ds gs before hval0 hW _ hsz hL _
 have hval:∀(j:Nat) t v,Tryz.f3.params[j]? = some t→args[j]? = some v→Value.okWide Tryz.prog W .any base t v:=hval0
 have hW':=hW
 obtain⟨p,q,hA0,hV,_,hfz,hnd⟩:=hW
 have hA:DataW.TrodAll enc Tryz.prog W 0 (λ_=>true) true Tryz.f3.params.toList args.toList ds p:=hA0
 have hps:Tryz.f3.params.toList=[25,3,3]:=by kernel_rfl
 obtain⟨Ds,hD,hR⟩:=zqX types (base:=base) _ _ _ _ (λt ht=>by rw[hps] at ht;revert t;decide) (λj t v h1 h2=>hval j t v (by simpa using h1) (by simpa using h2)) hA λn hn=>by
  have:=List.all_eq_true.1 hsz n (Vo _ _ _ _ (VW _ _ _ _ hA).symm n hn)
  simpa using this
 rw[hps] at hD
 have hC:=(law Ds hD).run vt (XM W) W args.toList (fok hL) hR
 rw[show args.toList.toArray=args from rfl] at hC
 refine hC.mono λe W' ⟨v,F',he,_,hv,hx⟩=>?_
 have hv':v=.bool true:=by simpa only[rep,zbl] using hv
 subst he hv'
 exact⟨_,rfl,zre hW' rfl (by kernel_rfl) Tryz.underlying4 laidOut (λt ht=>by
   have:=List.all_eq_true.1 readable t ht
   simp only[Bool.and_eq_true,decide_eq_true_eq] at this
   exact this) (λds h=>by rw[hps] at h;match ds,h with|[_,_,_],_=>rfl) (zgV hx) (ok_one (by kernel_rfl) rfl (okWide_bool_mk Tryz.underlying4 _))⟩
theorem over:Rows.topDeadRow.holds Tryz.pinned (OpenSpec.ofChange Rows.topDeadSpec) :=
 OpenClaim.holds_of_wide 3 Tryz.f3 rfl rfl rfl rfl rfl rfl rfl ⟨rfl,rfl,rfl,rfl,rfl⟩ rfl rfl rfl rfl rfl (by kernel_rfl) Tryz.func3 (by kernel_rfl)
  (of_decide_eq_true (by kernel_rfl)) (by unfold Func.isWrapper;first|(rw[if_pos (by decide +kernel)];kernel_rfl)|(rw[if_neg (by decide +kernel)];exact⟨rfl,rfl⟩))
  (λos started H enc _=>lifted os started H enc)
theorem proved:Rows.TopDeadCardSaid :=
 Claim7.holds_tied_plain_at .later [] [.data, .pinned] true (true, "cb141718b9a98f53e970f9a28c41f573bf9735c4ddab26b94d24875db663e312") false
  over (λ_ h=>by cases h) (by kernel_rfl) (λ_ h=>by cases h) topDead_row_tie rfl ⟨rfl,rfl⟩ (by kernel_rfl) rfl
  (λf fn hf hfn=>by
   obtain rfl : f = 3 := Option.some.inj ((show Tryz.prog.funcNamed "watchway/watchtop.TopDead" = some 3 by kernel_rfl).symm.trans hf) |>.symm
   obtain rfl:fn=Tryz.f3:=(Option.some.inj (Tryz.func3.symm.trans hfn)).symm
   refine⟨by kernel_rfl,λj t ht=>?_⟩
   have hm:t∈Tryz.f3.params.toList:=by
    rw[Array.mem_toList_iff]
    exact Array.mem_of_getElem? ht
   rw[show Tryz.f3.params.toList=[25,3,3] by kernel_rfl] at hm
   have:=List.all_eq_true.1 (show([25,3,3]:List TypeId).all (λt=>!Tryz.prog.wantsStandIn t)=true by kernel_rfl) t hm
   have h2:Tryz.prog.wantsStandIn t=false:=by simpa using this
   exact h2)
  (by kernel_rfl)
end topDead
end
end Go.Proofs.YthoklahpcibacaaGreatDoor
