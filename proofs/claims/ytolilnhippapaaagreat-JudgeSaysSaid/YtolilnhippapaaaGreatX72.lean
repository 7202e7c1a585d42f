/-
  Parts of a proof, joined. No statement is proved here.
-/
import Derived.Test.YtolilnhippapaaaGreatX71
import Derived.WalkKit
import Derived.Test.YtolilnhippapaaaGreatProg
import Derived.Test.YtolilnhippapaaaGreatX70
namespace Go.Proofs.YtolilnhippapaaaGreat
set_option linter.unusedSimpArgs false
set_option linter.unusedVariables false
set_option maxRecDepth 100000
set_option linter.unusedSectionVars false
open Go.RowKit
theorem cat3(a b:aX)(c:UInt8):a++⟨#[32]⟩++⟨#[c]⟩++⟨#[32]⟩++b=a++⟨#[32,c,32]⟩++b:=by
 rw[ByteArray.append_assoc (a:=a),ByteArray.append_assoc (a:=a)];rfl
theorem Vu:∀{ts:List Tree} {t:Tree},t∈ts->t.size<=Tree.nQ ts
 |a::r,t,h=>by
  simp only[Tree.nQ];rcases dZ.1 h with rfl|h
  ·omega
  have:=Vu h;omega
variable{t:Tree}{j:Nat}
theorem GG(hj:j<t.width):(t.az j).size<t.size:=by
 have h:t.az j∈t.kids:=by rw[Tree.om hj];exact ib _
 have:=Vu h;cases t;simp only[Tree.size,Tree.kids] at this⊢;omega
def fy(names:List aX)(bad:Bool):bh:=[dz names,aD bad]
variable(names:List aX)
@[simp] theorem fS(bad:Bool):an<|fy names bad:=by simp[fy,an,Pure,jK]
def c250:PC:=SO [Bx 4 1,Mv 6<|cS #[]]<|SO [qm 8 0,Fa 9 2 4,Lo 10 9,qm 11 2,Ia 12 3 10 11,LA 13 3 12,Ca 14 172 [8,13],qm 7 14] (.seq (.seq (.ops [Fa 15 0 4,Ld 16 15 1,qm 17 2,Fa 18 2 4,Ld 19 18 8,qm 20 2,Ja 21 3 19 20 56,Fd 22 0 21 120,Ld 23 22 248,Cd 24 289 [16,17,23] 511] true)<|If 24<|SO [qm 25 7,qm 6 25] .ret)<|SO [qm 26 7,Bi 27 .add (cS #[40]) 26,Bi 28 .add 27<|cS #[41],qm 6 28] .ret)
def c172:PC:=SO [Bx 3 1,Mv 4<|cS #[]] (.seq (SO [Fa 7 0 3,Lo 8 7] (.block 0<|SO [Bi 10 .eql 8 K1,qm 9 10] (.cond 9 (SO [Mv 4<|cS #[116,114,117,101]] .ret)<|SO [Bi 12 .eql 8 K2,qm 11 12] (.cond 11 (SO [Mv 4<|cS #[102,97,108,115,101]] .ret)<|SO [Bi 14 .eql 8 K3,qm 13 14] (.cond 13 (.seq (.ops [Fa 15 1 3,Ld 16 15 1,qm 17 0,qd 18 (.jR 17) 4,Fd 19 0 18 12,Ld 20 19 28,Cd 21 249 [16,20] 63,qw 5 21 127] true)<|SO [qm 22 0,qm 23 0,q 24 (.jR 23),Fa 25 1 24,Lo 26 25,qm 27 26,GF 28 27 (.move 5),GF 29 27 (.bin .eql 28<|cS #[]),Pk 30 27 cT 29,q 31 (.jR 22),Fa 32 1 31,So 1 32 30]<|SO [qm 33 5,qm 4 33] .ret)<|SO [Bi 35 .eql 8 K4,qm 34 35] (.cond 34 (SO [qm 36 0,LA 37 3 3,Ca 38 250 [36,37,K0],Bi 39 .add (cS #[33]) 38,qm 4 39] .ret)<|SO [Bi 41 .eql 8 K7,qm 40 41] (.cond 40 (SO [qm 42 0,LA 43 3 3,Ca 44 250 [42,43,K0],Bi 45 .add (cS #[88,32]) 44,qm 4 45] .ret)<|SO [Bi 47 .eql 8<|cI 10,qm 46 47] (.cond 46 (SO [qm 48 0,LA 49 3 3,Ca 50 250 [48,49,K0],Bi 51 .add (cS #[70,32]) 50,qm 4 51] .ret)<|SO [Bi 53 .eql 8<|cI 11,qm 52 53]<|If 52<|SO [qm 54 0,LA 55 3 3,Ca 56 250 [54,55,K0],Bi 57 .add (cS #[71,32]) 56,qm 4 57] .ret))))))))<|SO [q 58 (.build [vS,vS,vS,vS,vS,vS,vS,vS,vS,vS] [(5,1,(cS #[38])),(6,1,(cS #[47])),(8,1,(cS #[85])),(9,1,(cS #[82]))]),Fa 59 0 3,Lo 60 59,q 61 (.Cf 10 1 false 58 60),qm 6 61] (.seq (.ops [qm 62 0,LA 63 3 3,Cd 64 250 [62,63,K0] 3,Bd 65 .add 64 (cS #[32]) 7,qm 66 6,Bd 67 .add 65 66 31,Bd 68 .add 67 (cS #[32]) 63,qm 69 0,LA 70 3 3,Cd 71 250 [69,70,K1] 391,Bd 72 .add 68 71 1023,qw 4 72 2047] true) .ret))
theorem zu9(k i c:Int):ar ai 289 [aa k,aa i,aa c]<|aD<|qQ k i c:=by
 refine bL ?_
 repeat' (first
  |(first|(refine CG ‹_› ?_;((conv=>whnf);repeat(refine⟨rfl,?_⟩;conv=>whnf)))|(refine Dn ‹_› ?_;((conv=>whnf);repeat(refine⟨rfl,?_⟩;conv=>whnf)))|(refine ub (λh=>?_) (λh=>?_)<;>(rw[h];((conv=>whnf);repeat(refine⟨rfl,?_⟩;conv=>whnf)))))
  |exact cd (bJ (λb=>D.sc (.bool b)) (by unfold qQ;simp_all)))
theorem zxl(t:Tree)(j:Nat)(hj:j<t.width)(fT:(iz names<|t.az j).size<=1000000)(bad Ei:Bool)
  (hT:cp ai 172 ([]++.loc 0 0::[aY<|t.az j]) [.row true<|fy names bad] (.sc (.string<|iz names<|t.az j)) [.row true<|fy names Ei]) :
  cp ai 250 ([]++.loc 0 0::[aY t,aa j]) [.row true<|fy names bad] (.sc (.string<|jO names t j)) [.row true<|fy names Ei]:=by
 refine iV (fJ 29 [.tmp 6] c250 Tryz.func250) zs zs ?_ (by simp[aq]) (by simp[ao.under,bu _<|fS _ _]);refine sR ?_;refine sL (dk hj) ?_;refine sA (rX hT (by simp[an]) (by simp[an,c7]) (fS _ _) (fS _ _) (by simp[Pure]) (H:=[.row true<|fy names bad,.row true<|aN t]) (id:=0) rfl) ?_;refine sL (dk hj) ?_;refine sC (zu9 t.kind j (t.az j).kind) ?_;refine sS (λh=>?_) λh=>?_
 ·exact⟨bJ (λs=>D.sc (.string s))<|by simp[jO,oD,h],rfl,zs⟩
 refine⟨by simp only[df,dg,dh,bH,bU];omega,?_⟩;refine sW ?_;refine⟨by simp only[df,dg,dh,bH,bU];omega,?_⟩;refine sW ?_;exact⟨bJ (λs=>D.sc (.string s))<|by simp[jO,oD,h],rfl,zs⟩
theorem zuB(hn:oK names):∀t:Tree,t.wf bz->t.size<=60->∀bad:Bool,
  cp ai 172 ([]++.loc 0 0::[aY t]) [.row true<|fy names bad] (.sc (.string<|iz names t)) [.row true<|fy names<|bad||!cO names t]:=by
 intro t
 induction t using Tree.ind with
 |h t ih =>
  intro cu fT bad;have hs:=uw t cu;have tE:=tR ((jG _ _).1 cu).1;have uO:0<=t.num:=(by have:=((jG _ _).1 cu).1;unfold fq at this;omega);have tsz:∀j,j<t.width->(iz names<|t.az j).size<=720/\(t.az j).size<=60:=λj hj=>by
   have h1:=Rq names<|t.az j;have h2:=GG hj;omega
  have sG:∀j,j<t.width->∀bad:Bool,cp ai 250 ([]++.loc 0 0::[aY t,aa j]) [.row true<|fy names bad] (.sc (.string<|jO names t j)) [.row true<|fy names<|bad||!cO names (t.az j)] :=
   λj hj bad=>zxl names t j hj (by have:=tsz j hj;omega) bad _<|ih j hj (gD cu hj) (tsz j hj).2 bad
  have ksz:∀j,j<t.width->(jO names t j).size<=722:=λj hj=>by
   have:=vW (qQ t.kind j (t.az j).kind)<|iz names<|t.az j;have:=tsz j hj;unfold jO;omega
  clear ih;refine iV (fJ 73 [.tmp 4] c172 Tryz.func172) zs zs ?_ (by simp[aq]) (by simp[ao.under,bu _<|fS _ _]);refine sR ?_;have fin:∀{s:aX} {b:Bool} {r:bh},s=iz names t->b=(bad||!cO names t)->(D.sc (.string s)=.sc (.string (iz names t))/\List.take 1 [ao.row true [dz names,aD b],.row true r]=[ao.row true (fy names (bad||!cO names t))]/\[ao.row true (fy names (bad||!cO names t))].length<=2):=λh1 h2=>by
   subst h1 h2;exact⟨rfl,rfl,zs⟩
  have zero:t.width=0->iz names t=wb names t.kind t.num ⟨#[]⟩ ⟨#[]⟩/\cO names t=qg names t.kind t.num:=λh=>⟨GU names h,Jr names h⟩;refine sS (λh1=>?_) λh1=>?_
  ·have hk:t.kind=1:=sO;have:=zero zo;exact fin (by rw[this.1,hk];rfl)<|by rw[this.2,hk];simp[qg]
  refine sS (λh2=>?_) λh2=>?_
  ·have hk:t.kind=2:=sO;have:=zero zo;exact fin (by rw[this.1,hk];rfl)<|by rw[this.2,hk];simp[qg]
  refine sS (λh3=>?_) λh3=>?_
  ·have hk:t.kind=3:=sO;have:=zero zo;refine sC (ztJ names hn t.num uO) ?_;cases bad
   ·refine sW ?_;exact fin (by rw[this.1,hk];rfl)<|by rw[this.2,hk];show ff (nm names t.num) ⟨#[]⟩=_;simp only[qg];cases ff (nm names t.num) ⟨#[]⟩<;>rfl
   refine sW ?_;exact fin (by rw[this.1,hk];rfl) zs
  clear zero;have one:t.width=1->iz names t=wb names t.kind t.num (jO names t 0) ⟨#[]⟩/\cO names t=cO names (t.az 0):=λh=>⟨Em names h,Xy names h<|sO⟩;refine sS (λh4=>?_) λh4=>?_
  ·have hk:t.kind=4:=sO;have hw:t.width=1:=zo;have:=one hw;have:=ksz 0 zo;refine sA (rX (sG 0 zo bad) (by simp[an]) (by simp[an,c7,Pure]) (fS _ _) (fS _ _) (by simp[Pure]) (H:=[.row true<|fy names bad,.row true<|aN t]) (id:=0) rfl) ?_;refine⟨by simp only[df,dg,dh,bH,bU];omega,?_⟩;refine sW ?_;exact fin (by rw[(one hw).1,hk];rfl)<|by rw[(one hw).2]
  refine sS (λh5=>?_) λh5=>?_
  ·have hk:t.kind=7:=sO;have hw:t.width=1:=zo;have:=one hw;have:=ksz 0 zo;refine sA (rX (sG 0 zo bad) (by simp[an]) (by simp[an,c7,Pure]) (fS _ _) (fS _ _) (by simp[Pure]) (H:=[.row true<|fy names bad,.row true<|aN t]) (id:=0) rfl) ?_;refine⟨by simp only[df,dg,dh,bH,bU];omega,?_⟩;refine sW ?_;exact fin (by rw[(one hw).1,hk];rfl)<|by rw[(one hw).2]
  refine sS (λh6=>?_) λh6=>?_
  ·have hk:t.kind=10:=sO;have hw:t.width=1:=zo;have:=one hw;have:=ksz 0 zo;refine sA (rX (sG 0 zo bad) (by simp[an]) (by simp[an,c7,Pure]) (fS _ _) (fS _ _) (by simp[Pure]) (H:=[.row true<|fy names bad,.row true<|aN t]) (id:=0) rfl) ?_;refine⟨by simp only[df,dg,dh,bH,bU];omega,?_⟩;refine sW ?_;exact fin (by rw[(one hw).1,hk];rfl)<|by rw[(one hw).2]
  refine sS (λh7=>?_) λh7=>?_
  ·have hk:t.kind=11:=sO;have hw:t.width=1:=zo;have:=one hw;have:=ksz 0 zo;refine sA (rX (sG 0 zo bad) (by simp[an]) (by simp[an,c7,Pure]) (fS _ _) (fS _ _) (by simp[Pure]) (H:=[.row true<|fy names bad,.row true<|aN t]) (id:=0) rfl) ?_;refine⟨by simp only[df,dg,dh,bH,bU];omega,?_⟩;refine sW ?_;exact fin (by rw[(one hw).1,hk];rfl)<|by rw[(one hw).2]
  clear one;have hw:t.width=2:=sO;have k0:=ksz 0 zo;have k1:=ksz 1 zo;have e1:=EG names hw;have e2:=Pj names hw<|sO;have hk:t.kind=5\/t.kind=6\/t.kind=8\/t.kind=9:=sO;refine⟨zo,zo,?_⟩
  have two:∀{c:UInt8} {r:bh},wb names t.kind t.num (jO names t 0) (jO names t 1)=jO names t 0++⟨#[32,c,32]⟩++jO names t 1 ->
    (D.sc (.string<|jO names t 0++⟨#[32]⟩++⟨#[c]⟩++⟨#[32]⟩++jO names t 1)=.sc (.string<|iz names t)/\List.take 1 [ao.row true [dz names,aD<|(bad||!cO names (t.az 0))||!cO names (t.az 1)],.row true r]=[ao.row true (fy names (bad||!cO names t))]/\[ao.row true (fy names (bad||!cO names t))].length<=2):=λh =>
   fin (by rw[cat3,e1,h]) (by rw[e2];cases bad<;>cases cO names (t.az 0)<;>rfl)
  clear fin;have A0:=uX (sG 0 zo bad) (by simp[an]) (by simp[an,c7,Pure]) (fS _ _) (fS _ _) (by simp[Pure]) (H:=[.row true<|fy names bad,.row true<|aN t]) (id:=0) rfl;have A1:=uX (sG 1 zo<|bad||!cO names (t.az 0)) (by simp[an]) (by simp[an,c7,Pure]) (fS _ _) (fS _ _) (by simp[Pure]) (H:=[.row true<|fy names<|bad||!cO names (t.az 0),.row true<|aN t]) (id:=0) rfl;rcases hk with hk|hk|hk|hk
  all_goals
   refine⟨_,by rw[hk];rfl,?_⟩;refine sW ?_;refine sE A0 ?_;refine⟨by simp only[df,dg,dh,bH,bU];omega,?_⟩;refine sW ?_;refine⟨by simp only[df,dg,dh,bH,bU];omega,?_⟩;refine sW ?_;refine⟨by simp only[df,dg,dh,bH,bU];omega,?_⟩;refine sW ?_;refine sE A1 ?_;refine⟨by simp only[df,dg,dh,bH,bU];omega,?_⟩;refine sW ?_;exact two<|by rw[hk];rfl
def c99:PC:=SO [Bx 2 0,Mv 4<|cS #[],Mv 5 K0] (.seq (SO [LA 9 3 2,Ca 10 42 [9],qm 6 10]<|SO [qm 11 6,Bi 12 .neq 11 K0]<|If 12<|SO [qm 13 6,Mv 4<|cS #[],qm 5 13] .ret)<|SO [qm 14 1,q 15 (.build [vN,vF] [(0,1,14)]),Bx 16 15,qm 7 16]<|SO [qm 17 7,LA 18 3 2,Ca 19 172 [17,18],qm 8 19] (.seq (SO [qm 20 7,q 21 (.jR 20),Fa 22 1 21,Lo 23 22]<|If 23<|SO [Mv 4<|cS #[],Mv 5 K4] .ret)<|SO [qm 24 8,qm 4 24,Mv 5 K0] .ret))
noncomputable def Cl(names:List aX)(t:Tree):D :=
 if aS bz t=0 then (if cO names t then .aI [.sc (.string<|iz names t),aa 0] else .aI [.sc (.string ⟨#[]⟩),aa 4]) else .aI [.sc (.string ⟨#[]⟩),aa<|aS bz t]
theorem zrO(hn:oK names)(t:Tree)(hs:Small t):ar ai 99 [aY t,dz names]<|Cl names t:=by
 refine dC (fJ 25 [.tmp 4,.tmp 5] c99 Tryz.func99) zs (by simp[an,c7,jK]) ?_ (by unfold Cl;(repeat' split)<;>simp[Pure,an]);refine sR ?_;refine sC (Ad t hs) ?_;refine sS (λh1=>?_) λh1=>?_
 ·have h:¬aS bz t=0:=sO;unfold Cl;rw[ab h];exact sP
 have h:aS bz t=0:=sO;have hz:=(qM _ _).1 h;unfold Cl;rw[ae h];refine sA (rX (zuB names hn t hz.2.2 hz.1 false) (by simp[an]) (by simp[an,c7]) (fS _ _) (fS _ _) (by simp[Pure]) (H:=[.row true<|aN t,.row true<|fy names false]) (id:=1) rfl) ?_;cases hk:cO names t
 ·refine sW ?_;exact sP
 refine sW ?_;exact sP
def zAj:PC:=.seq (SO [qm 13 7,Fa 14 2 2,Lo 15 14,Ln 16 15,Bi 17 .lss 13 16]<|CX 17 0) (.seq (.block 1<|SO [Fa 20 2 2,Lo 21 20,qm 22 7,Ia 23 3 21 22,LA 24 3 23,q 8 (.alloc [v0,v0,vN]),So 3 8 24]<|SO [LA 26 3 8,qm 27 1,Ca 28 54 [26,27],qm 25 28,Xt 29 0 25,Xt 30 1 25,qm 9 29,qm 10 30] (.seq (SO [qm 31 10,Nt 32 31]<|If 32<|SO [Mv 4<|cS #[],Mv 5 cF] .ret) (.seq (.stop<|OP [Fa 33 0 8,Lo 34 33,Bi 35 .eql 34 K5,qm 36 35,GF 37 36 (.dO 0 8),GF 38 36 (.cg 37),GF 39 36 (.bin .eql 38 K6),Pk 40 36 cT 39,qm 41 40,GF 42 41 (.dO 0 8),GF 43 41 (.cg 42),GF 44 41 (.bin .eql 43 K8),Pk 45 41 cT 44,qm 46 45,GF 47 46 (.dO 0 8),GF 48 46 (.cg 47),GF 49 46 (.bin .eql 48 K9),Pk 50 46 cT 49,qm 11 50]) (.seq (.seq (.stop<|OP [qm 51 7,Bi 52 .eql 51 K0,qm 53 52,GT 54 53 (.dO 0 8),GT 55 53 (.cg 54),GT 56 53 (.dO 0 2),GT 57 53 (.cg 56),GT 58 53 (.bin .eql 55 57),Pk 59 53 58 cF,qm 60 59,GT 61 60 (.dO 0 8),GT 62 60 (.cg 61),GT 63 60 (.bin .eql 62 K5),GT 64 60 (.move 63),GF 65 64 (.dO 0 8),GF 66 64 (.cg 65),GF 67 64 (.bin .eql 66 K6),GT 68 60 (.pick 64 cT 67),Pk 69 60 68 cF,qm 70 69,GF 71 70 (.move 7),GF 72 70 (.bin .eql 71 K1),GF 73 70 (.move 72),GT 74 73 (.dO 0 8),GT 75 73 (.cg 74),GT 76 73 (.dO 0 2),GT 77 73 (.cg 76),GT 78 73 (.bin .eql 75 77),GF 79 70 (.pick 73 78 cF),GF 80 70 (.move 79),GT 81 80 (.dO 0 8),GT 82 80 (.cg 81),GT 83 80 (.bin .eql 82 K8),GT 84 80 (.move 83),GF 85 84 (.dO 0 8),GF 86 84 (.cg 85),GF 87 84 (.bin .eql 86 K9),GT 88 80 (.pick 84 cT 87),GF 89 70 (.pick 80 88 cF),Pk 90 70 cT 89,qm 91 90,GF 92 91 (.dO 0 2),GF 93 91 (.cg 92),GF 94 91 (.bin .eql 93 K6),GF 95 91 (.move 94),GT 96 95 (.dO 0 8),GT 97 95 (.cg 96),GT 98 95 (.bin .eql 97 K5),GF 99 91 (.pick 95 98 cF),Pk 100 91 cT 99])<|If 100<|OP [Mv 11 cF]) (.seq (SO [qm 101 11]<|If 101<|OP [qm 102 9,Bi 103 .add (cS #[40]) 102,Bi 104 .add 103<|cS #[41],qm 9 104])<|OP [qm 105 6,qm 106 9,Bs 107 1 1 [106],Ap 108 1 16 105 107,qm 6 108])))))<|OP [qm 18 7,Bi 19 .add 18 K1,qm 7 19])
def c54:PC:=SO [Bx 2 0,Mv 4<|cS #[],Mv 5 cF]<|SO [Mv 6 cN] (.seq (SO [Mv 7 K0]<|BL 0 zAj) (.seq (SO [Fa 109 0 2,Lo 110 109] (.block 2<|SO [Bi 112 .eql 110 K1,qm 111 112] (.cond 111 (SO [Mv 4<|cS #[116,114,117,101],Mv 5 cT] .ret)<|SO [Bi 114 .eql 110 K2,qm 113 114] (.cond 113 (SO [Mv 4<|cS #[102,97,108,115,101],Mv 5 cT] .ret)<|SO [Bi 116 .eql 110 K3,qm 115 116] (.cond 115 (SO [Fa 117 1 2,Lo 118 117,qm 119 1,Ca 120 57 [118,119],qm 12 120]<|SO [qm 121 12,qm 122 12,Bi 123 .neq 122<|cS #[],qm 4 121,qm 5 123] .ret)<|SO [Bi 125 .eql 110 K4,qm 124 125] (.cond 124 (SO [qm 126 6,Ia 127 1 126 K0,Lo 128 127,Bi 129 .add (cS #[33]) 128,qm 4 129,Mv 5 cT] .ret)<|SO [Bi 131 .eql 110 K7,qm 130 131] (.cond 130 (SO [qm 132 6,Ia 133 1 132 K0,Lo 134 133,Bi 135 .add (cS #[88,32]) 134,qm 4 135,Mv 5 cT] .ret)<|SO [Bi 137 .eql 110<|cI 10,qm 136 137] (.cond 136 (SO [qm 138 6,Ia 139 1 138 K0,Lo 140 139,Bi 141 .add (cS #[70,32]) 140,qm 4 141,Mv 5 cT] .ret)<|SO [Bi 143 .eql 110<|cI 11,qm 142 143] (.cond 142 (SO [qm 144 6,Ia 145 1 144 K0,Lo 146 145,Bi 147 .add (cS #[71,32]) 146,qm 4 147,Mv 5 cT] .ret)<|SO [Bi 149 .eql 110 K5,qm 148 149] (.cond 148 (.seq (.ops [qm 150 6,Ja 151 1 150 K0 1,Ld 152 151 3,Bd 153 .add 152 (cS #[32,38,32]) 7,qm 154 6,Ja 155 1 154 K1 16,Ld 156 155 48,Bd 157 .add 153 156 127,qw 4 157 255,Md 5 cT 511] true) .ret)<|SO [Bi 159 .eql 110 K6,qm 158 159] (.cond 158 (.seq (.ops [qm 160 6,Ja 161 1 160 K0 1,Ld 162 161 3,Bd 163 .add 162 (cS #[32,47,32]) 7,qm 164 6,Ja 165 1 164 K1 16,Ld 166 165 48,Bd 167 .add 163 166 127,qw 4 167 255,Md 5 cT 511] true) .ret)<|SO [Bi 169 .eql 110 K8,qm 168 169]<|If 168 (.seq (.ops [qm 170 6,Ja 171 1 170 K0 1,Ld 172 171 3,Bd 173 .add 172 (cS #[32,85,32]) 7,qm 174 6,Ja 175 1 174 K1 16,Ld 176 175 48,Bd 177 .add 173 176 127,qw 4 177 255,Md 5 cT 511] true) .ret)))))))))))) (.seq (.ops [qm 178 6,Ja 179 1 178 K0 1,Ld 180 179 3,Bd 181 .add 180 (cS #[32,82,32]) 7,qm 182 6,Ja 183 1 182 K1 16,Ld 184 183 48,Bd 185 .add 181 184 127,qw 4 185 255,Md 5 cT 511] true) .ret)))
def sk(names:List aX)(t:Tree)(k:Nat):fE:=(List.range k).map λj=>[.sc (.string<|jO names t j)]
variable{k:Nat}
theorem sF{names:List aX}(h:j<k):(sk names t k)[j]? = some [.sc (.string<|jO names t j)]:=by
 simp[sk,cU,qI h]
@[simp] theorem zy6(t:Tree)(k:Nat):(sk names t k).length=k:=by simp[sk]
theorem zma(t:Tree)(k:Nat):List.drop 0 (List.take k<|sk names t k)++[[.sc (.string<|jO names t k)]]=sk names t (k+1):=by
 rw[fQ,jd zs];simp[sk,qy]
@[simp] theorem Ke(t:Tree)(k:Nat):fc<|sk names t k:=db _ (λj=>by simp[an,Pure]) _
def x8(names:List aX)(t:Tree):D:=.aI [.sc (.string<|if cO names t then iz names t else ⟨#[]⟩),aD<|cO names t]
theorem XJ(hn:oK names):∀t:Tree,t.wf bz->t.size<=60->ar ai 54 [aY t,dz names] (x8 names t):=by
 intro t
 induction t using Tree.ind with
 |h t ih =>
  intro cu fT;have hs:=uw t cu;have Nw:=hs.width;have tE:=tR ((jG _ _).1 cu).1;have uO:0<=t.num:=(by have:=((jG _ _).1 cu).1;unfold fq at this;omega);have tsz:∀j,j<t.width->(iz names<|t.az j).size<=720/\(t.az j).size<=60:=λj hj=>by
   have h1:=Rq names<|t.az j;have h2:=GG hj;omega
  have ksz:∀j,j<t.width->(jO names t j).size<=722:=λj hj=>by
   have:=vW (qQ t.kind j (t.az j).kind)<|iz names<|t.az j;have:=tsz j hj;unfold jO;omega
  refine dC (fJ 186 [.tmp 4,.tmp 5] c54 Tryz.func54) zs (by simp[an,c7,jK]) ?_ (by simp[x8,Pure,an]);refine sR ?_;have bad:∀{j:Nat},j<t.width->cO names (t.az j)=false->cO names t=false:=λ{j} hj h=>by
   rw[Ab];simp only[IT];refine .inr<|List.all_eq_false.2 ⟨t.az j,by rw[Tree.om hj];exact ib _,by simp[h]⟩
  refine wA (λk:Nat=>[(1,dz names),(2,.loc 0 0),(6,.own 1 k 0 k),(7,aa k)])
   (λk=>[.row true<|aN t,.vec true k 1<|sk names t k])
   (λk=>k<=t.width/\∀j,j<k->cO names (t.az j)=true) (λk=>t.width-k) 0 ⟨zo,λj h=>zo⟩ (kS (fL 6 1 zs rfl)<|o5 ⟨rfl,rfl,rfl,rfl,trivial⟩) ?_
  rintro k ⟨hk,bR⟩;refine sRS (λh1=>?_) λh1=>?_
  ·have al:k<t.width:=(by simpa [Tree.width] using h1);refine sL (dk al) ?_;have ihk:=ih k al (gD cu al) (tsz k al).2;cases aC:cO names (t.az k)
   ·simp only[x8,aC] at ihk;refine sC ihk ?_;have:=bad al aC;exact cd<|by simp only[x8,this];rfl
   simp only[x8,aC,if_true] at ihk;refine sC ihk ?_;have tk:=tsz k al;have kk:=ksz k al
   refine px (λ_:Unit=>[(1,dz names),(2,.loc 0 0),(6,.own 1 k 0 k),(7,aa k),(8,.loc 2 0),(9,.sc (.string<|iz names<|t.az k)),(11,aD<|decide ((t.az k).kind=5\/(t.az k).kind=6\/(t.az k).kind=8\/(t.az k).kind=9))])
    (λ_=>[.row true<|aN t,.vec true k 1<|sk names t k,.row true<|aN<|t.az k]) (λ_=>True) ?_ ?_
   ·refine sR ?_
    repeat' (first
     |(first|(refine CG ‹_› ?_;((conv=>whnf);repeat(refine⟨rfl,?_⟩;conv=>whnf)))|(refine Dn ‹_› ?_;((conv=>whnf);repeat(refine⟨rfl,?_⟩;conv=>whnf)))|(refine ub (λh=>?_) (λh=>?_)<;>(rw[h];((conv=>whnf);repeat(refine⟨rfl,?_⟩;conv=>whnf)))))
     |exact⟨(),trivial,o5 ⟨rfl,rfl,rfl,rfl,rfl,rfl,bJ (λb=>D.sc (.bool b)) (by simp_all<;>rfl),trivial⟩⟩)
   rintro _ _;refine sW ?_
   refine px (λ_:Unit=>[(1,dz names),(2,.loc 0 0),(6,.own 1 k 0 k),(7,aa k),(8,.loc 2 0),(9,.sc (.string<|iz names<|t.az k)),(11,aD<|decide ((t.az k).kind=5\/(t.az k).kind=6\/(t.az k).kind=8\/(t.az k).kind=9)),
     (100,aD<|decide ((k=0/\(t.az k).kind=t.kind/\((t.az k).kind=5\/(t.az k).kind=6))\/(k=1/\(t.az k).kind=t.kind/\((t.az k).kind=8\/(t.az k).kind=9))\/(t.kind=6/\(t.az k).kind=5)))])
    (λ_=>[.row true<|aN t,.vec true k 1<|sk names t k,.row true<|aN<|t.az k]) (λ_=>True) ?_ ?_
   ·refine sR ?_;have e0:((k:Int)==0)=decide (k=0):=(by rw[kb];simp);have e1:((k:Int)==1)=decide (k=1):=by rw[kb];simp;omega
    repeat' (first
     |(first|(refine CG ‹_› ?_;((conv=>whnf);repeat(refine⟨rfl,?_⟩;conv=>whnf)))|(refine Dn ‹_› ?_;((conv=>whnf);repeat(refine⟨rfl,?_⟩;conv=>whnf)))|(refine ub (λh=>?_) (λh=>?_)<;>(rw[h];((conv=>whnf);repeat(refine⟨rfl,?_⟩;conv=>whnf)))))
     |exact⟨(),trivial,o5 ⟨rfl,rfl,rfl,rfl,rfl,rfl,rfl,bJ (λb=>D.sc (.bool b)) (by
       clear ih bR ihk tsz ksz bad;rw[kb];simp only[gG,beq_eq_false_iff_ne,ne_eq,ja,xA,false_iff,true_iff] at *;omega),trivial⟩⟩)
   rintro _ _;refine sW ?_;have bare:jO names t k=if qQ t.kind k (t.az k).kind then iz names<|t.az k else ⟨#[40]⟩++iz names (t.az k)++⟨#[41]⟩:=rfl
   have fin:∀{s:aX},s=jO names t k->List.drop 0 (List.take k<|sk names t k)++[[D.sc (.string s)]]=sk names t (k+1):=λh=>by rw[h,zma]
   have cond:∀{p:Prop} [Decidable p],decide p=true->p:=λh=>by simpa using h
   have Bt:∀{p:Prop} [Decidable p],decide p=false->¬p:=λh=>by simpa using h
   have eqs:∀b:Bool,qQ t.kind k (t.az k).kind=b->jO names t k=if b then iz names<|t.az k else ⟨#[40]⟩++iz names (t.az k)++⟨#[41]⟩:=λb h=>by rw[bare,h]
   have hB:qQ t.kind k (t.az k).kind↔¬((t.az k).kind=5\/(t.az k).kind=6\/(t.az k).kind=8\/(t.az k).kind=9)\/((k=0/\(t.az k).kind=t.kind/\((t.az k).kind=5\/(t.az k).kind=6))\/(k=1/\(t.az k).kind=t.kind/\((t.az k).kind=8\/(t.az k).kind=9))\/(t.kind=6/\(t.az k).kind=5)):=by
    unfold qQ;clear ih bR ihk tsz ksz bad bare fin eqs cond Bt;repeat' split
    all_goals
     simp only[qX,fY,gG,true_iff];omega
   have wrapped:∀{s:aX},s=jO names t k->s.size<=722:=λh=>h▸kk;refine sS (λh5=>?_) λh5=>?_
   ·have hs:iz names (t.az k)=jO names t k:=(by rw[eqs true<|hB.2 (.inr<|cond h5)];rfl);refine⟨by unfold je;simp only[fQ,u4,r7,bH,bU];omega,?_⟩;refine sW ?_;refine .inl ⟨by unfold dQ;rw[gf];unfold Tree.width at *;omega,?_⟩;refine sW ?_
    exact⟨k+1,⟨zo,λj hj=>by by_cases e:j=k;subst e;exact aC;exact bR j zo⟩,zd,aR 2 zs rfl ⟨.refl _,bw _<|jK names,.refl _,by simp[aq],.refl _,by simp[aq],.refl _,by simp[aq],trivial⟩
     ⟨⟨rfl,.refl _,bu _<|cM t⟩,⟨rfl,rfl,rfl,aZ<|fin hs,aV _<|Ke _ _ _⟩,trivial⟩⟩
   refine sS (λh6=>?_) λh6=>?_
   ·have hs:⟨#[40]⟩++iz names (t.az k)++⟨#[41]⟩=jO names t k:=by
     rw[eqs false<|by rw[<-oL,hB];exact λh=>h.elim (λh=>h<|cond h6)<|Bt h5];rfl
    refine⟨by simp only[df,dg,dh,bH,bU];omega,?_⟩;refine sW ?_;refine⟨by simp only[df,dg,dh,bH,bU];omega,?_⟩;refine sW ?_;refine⟨by unfold je;simp only[fQ,u4,r7,bH,bU];omega,?_⟩;refine sW ?_;refine .inl ⟨by unfold dQ;rw[gf];unfold Tree.width at *;omega,?_⟩;refine sW ?_
    exact⟨k+1,⟨zo,λj hj=>by by_cases e:j=k;subst e;exact aC;exact bR j zo⟩,zd,aR 2 zs rfl ⟨.refl _,bw _<|jK names,.refl _,by simp[aq],.refl _,by simp[aq],.refl _,by simp[aq],trivial⟩
     ⟨⟨rfl,.refl _,bu _<|cM t⟩,⟨rfl,rfl,rfl,aZ<|fin hs,aV _<|Ke _ _ _⟩,trivial⟩⟩
   have hs:iz names (t.az k)=jO names t k:=(by rw[eqs true<|hB.2 (.inl<|Bt h6)];rfl);refine⟨by unfold je;simp only[fQ,u4,r7,bH,bU];omega,?_⟩;refine sW ?_;refine .inl ⟨by unfold dQ;rw[gf];unfold Tree.width at *;omega,?_⟩;refine sW ?_
   exact⟨k+1,⟨zo,λj hj=>by by_cases e:j=k;subst e;exact aC;exact bR j zo⟩,zd,aR 2 zs rfl ⟨.refl _,bw _<|jK names,.refl _,by simp[aq],.refl _,by simp[aq],.refl _,by simp[aq],trivial⟩
    ⟨⟨rfl,.refl _,bu _<|cM t⟩,⟨rfl,rfl,rfl,aZ<|fin hs,aV _<|Ke _ _ _⟩,trivial⟩⟩
  have A4:k=t.width:=by have:¬k<t.width:=by simpa [Tree.width] using h1
                        omega
  clear h1;have fx:t.kind≠3->cO names t:=λh3=>by
   rw[Ab];simp only[fY];refine⟨by simp[qg,h3],ki.2 λu hu=>?_⟩;obtain⟨j,hj,rfl⟩:=jN.1 hu;have:=bR j (by rw[A4];exact hj);rwa [Tree.om hj] at this
  have fin:∀{H:aF} {s:aX},t.kind≠3->s=iz names t->Deep H (.aI [.sc (.string s),aD true]) (x8 names t):=λh3 h=>by
   unfold x8;rw[fx h3,h];exact .refl _
  refine sS (λh1=>?_) λh1=>?_
  ·have fz:t.kind=1:=sO;exact fin zo<|by rw[GU names zo,fz];rfl
  refine sS (λh2=>?_) λh2=>?_
  ·have fz:t.kind=2:=sO;exact fin zo<|by rw[GU names zo,fz];rfl
  refine sS (λh3=>?_) λh3=>?_
  ·have fz:t.kind=3:=sO;refine sC (Oi names hn t.num uO) ?_;have e1:iz names t=nm names t.num:=(by rw[GU names zo,fz];rfl);have e2:cO names t=!(ff (nm names t.num) ⟨#[]⟩):=(by rw[Jr names zo,fz];rfl);refine cd ?_;unfold x8;rw[e1,e2];show D.aI [.sc (.string<|nm names t.num),aD<|!(ff (nm names t.num) ⟨#[]⟩)]=_;cases e:ff (nm names t.num) ⟨#[]⟩
   ·rfl
   rw[ByteArray.size_eq_zero_iff.1<|(Im _).1 e];rfl
  refine sS (λh4=>?_) λh4=>?_
  ·have fz:t.kind=4:=sO;have hw:t.width=1:=zo;have:=ksz 0 zo;refine⟨zo,zo,?_⟩;refine sW ?_;refine⟨_,sF (j:=0) zo,?_⟩;refine sW ?_;refine⟨by simp only[df,dg,dh,bH,bU];omega,?_⟩;refine sW ?_;exact fin zo<|by rw[Em names hw,fz];rfl
  refine sS (λh5=>?_) λh5=>?_
  ·have fz:t.kind=7:=sO;have hw:t.width=1:=zo;have:=ksz 0 zo;refine⟨zo,zo,?_⟩;refine sW ?_;refine⟨_,sF (j:=0) zo,?_⟩;refine sW ?_;refine⟨by simp only[df,dg,dh,bH,bU];omega,?_⟩;refine sW ?_;exact fin zo<|by rw[Em names hw,fz];rfl
  refine sS (λh6=>?_) λh6=>?_
  ·have fz:t.kind=10:=sO;have hw:t.width=1:=zo;have:=ksz 0 zo;refine⟨zo,zo,?_⟩;refine sW ?_;refine⟨_,sF (j:=0) zo,?_⟩;refine sW ?_;refine⟨by simp only[df,dg,dh,bH,bU];omega,?_⟩;refine sW ?_;exact fin zo<|by rw[Em names hw,fz];rfl
  refine sS (λh7=>?_) λh7=>?_
  ·have fz:t.kind=11:=sO;have hw:t.width=1:=zo;have:=ksz 0 zo;refine⟨zo,zo,?_⟩;refine sW ?_;refine⟨_,sF (j:=0) zo,?_⟩;refine sW ?_;refine⟨by simp only[df,dg,dh,bH,bU];omega,?_⟩;refine sW ?_;exact fin zo<|by rw[Em names hw,fz];rfl
  refine sS (λh8=>?_) λh8=>?_
  ·have fz:t.kind=5:=sO;have hw:t.width=2:=zo;have:=ksz 0 zo;have:=ksz 1 zo;refine⟨zo,zo,?_⟩;refine sW ?_;refine⟨_,sF (j:=0) zo,?_⟩;refine sW ?_;refine⟨by simp only[df,dg,dh,bH,bU];omega,?_⟩;refine sW ?_;refine⟨zo,zo,?_⟩;refine sW ?_;refine⟨_,sF (j:=1) zo,?_⟩;refine sW ?_;refine⟨by simp only[df,dg,dh,bH,bU];omega,?_⟩;refine sW ?_;exact fin zo<|by rw[EG names hw,fz];rfl
  refine sS (λh9=>?_) λh9=>?_
  ·have fz:t.kind=6:=sO;have hw:t.width=2:=zo;have:=ksz 0 zo;have:=ksz 1 zo;refine⟨zo,zo,?_⟩;refine sW ?_;refine⟨_,sF (j:=0) zo,?_⟩;refine sW ?_;refine⟨by simp only[df,dg,dh,bH,bU];omega,?_⟩;refine sW ?_;refine⟨zo,zo,?_⟩;refine sW ?_;refine⟨_,sF (j:=1) zo,?_⟩;refine sW ?_;refine⟨by simp only[df,dg,dh,bH,bU];omega,?_⟩;refine sW ?_;exact fin zo<|by rw[EG names hw,fz];rfl
  refine sS (λfh=>?_) λfh=>?_
  ·have fz:t.kind=8:=sO;have hw:t.width=2:=zo;have:=ksz 0 zo;have:=ksz 1 zo;refine⟨zo,zo,?_⟩;refine sW ?_;refine⟨_,sF (j:=0) zo,?_⟩;refine sW ?_;refine⟨by simp only[df,dg,dh,bH,bU];omega,?_⟩;refine sW ?_;refine⟨zo,zo,?_⟩;refine sW ?_;refine⟨_,sF (j:=1) zo,?_⟩;refine sW ?_;refine⟨by simp only[df,dg,dh,bH,bU];omega,?_⟩;refine sW ?_;exact fin zo<|by rw[EG names hw,fz];rfl
  skip
  have fz:t.kind=9:=sO;have hw:t.width=2:=zo;have:=ksz 0 zo;have:=ksz 1 zo;refine⟨zo,zo,?_⟩;refine sW ?_;refine⟨_,sF (j:=0) zo,?_⟩;refine sW ?_;refine⟨by simp only[df,dg,dh,bH,bU];omega,?_⟩;refine sW ?_;refine⟨zo,zo,?_⟩;refine sW ?_;refine⟨_,sF (j:=1) zo,?_⟩;refine sW ?_;refine⟨by simp only[df,dg,dh,bH,bU];omega,?_⟩;refine sW ?_;exact fin zo<|by rw[EG names hw,fz];rfl
theorem KC(h:¬fq dp t):(t.kind=1\/t.kind=2\/t.kind=3)/\t.width=0\/(t.kind=4\/t.kind=7\/t.kind=8\/t.kind=9\/t.kind=11\/t.kind=12\/t.kind=13)/\t.width=1\/(t.kind=5\/t.kind=6\/t.kind=10\/t.kind=14)/\t.width=2:=by
 unfold fq dp at h
 (repeat' split at h)<;>omega
theorem VI:∀t:Tree,t.wf dp->Small t:=by
 intro t
 induction t using Tree.ind with
 |h t ih =>
  intro hw;refine .mk t ?_ λj hj=>ih j hj<|gD hw hj;have:=KC ((jG _ _).1 hw).1;omega
def c251:PC:=SO [Mv 4<|cS #[]] (.seq (SO [qm 5 1,Bi 6 .eql 5<|cI 63]<|If 6<|SO [Mv 4<|cS #[115,105,108,101,110,116]] .ret) (.seq (.seq (.ops [qm 7 1,qm 8 0,qd 9 (.jR 8) 2,Fd 10 0 9 6,Ld 11 10 14,qd 12 (.len 11) 30,Bd 13 .geq 7 12 63,qw 14 13 127,⟨some 15,.move 0,some (14,false),255⟩,⟨some 16,.jR 15,some (14,false),511⟩,⟨some 17,.dO 0 16,some (14,false),1023⟩,⟨some 18,.cg 17,some (14,false),2047⟩,⟨some 19,.move 1,some (14,false),255⟩,⟨some 20,.gZ 1 18 19,some (14,false),8191⟩,⟨some 21,.cg 20,some (14,false),16383⟩,⟨some 22,.call 35 [21],some (14,false),32767⟩,⟨some 23,.un .not 22,some (14,false),65535⟩,qd 24 (.pick 14 cT 23) 131071,qw 25 24 262143,⟨some 26,.move 0,some (25,false),524287⟩,⟨some 27,.jR 26,some (25,false),1048575⟩,⟨some 28,.dO 0 27,some (25,false),2097151⟩,⟨some 29,.cg 28,some (25,false),4194303⟩,⟨some 30,.move 0,some (25,false),524287⟩,⟨some 31,.jR 30,some (25,false),8912895⟩,⟨some 32,.dO 0 31,some (25,false),25690111⟩,⟨some 33,.cg 32,some (25,false),59244543⟩,⟨some 34,.move 1,some (25,false),524287⟩,⟨some 35,.gZ 1 33 34,some (25,false),260571135⟩,⟨some 36,.cg 35,some (25,false),529006591⟩,⟨some 37,.call 174 [29,36],some (25,false),1073741823⟩,⟨some 38,.move 1,some (25,false),524287⟩,⟨some 39,.bin .neq 37 38,some (25,false),4294967295⟩,qd 40 (.pick 25 cT 39) 8589934591] true)<|If 40<|SO [qm 41 0,q 42 (.jR 41),Fa 43 1 42,So 1 43 cT]<|SO [Mv 4<|cS #[]] .ret)<|SO [qm 44 0,q 45 (.jR 44),Fa 46 0 45,Lo 47 46,qm 48 1,Ia 49 1 47 48,Lo 50 49,qm 4 50] .ret))
def c252:PC:=SO [Bx 4 1,Mv 6<|cS #[]]<|SO [qm 8 0,Fa 9 2 4,Lo 10 9,qm 11 2,Ia 12 3 10 11,LA 13 3 12,Ca 14 173 [8,13],qm 7 14] (.seq (.seq (.ops [Fa 15 0 4,Ld 16 15 1,qm 17 2,Fa 18 2 4,Ld 19 18 8,qm 20 2,Ja 21 3 19 20 56,Fd 22 0 21 120,Ld 23 22 248,Cd 24 290 [16,17,23] 511] true)<|If 24<|SO [qm 25 7,qm 6 25] .ret)<|SO [qm 26 7,Bi 27 .add (cS #[40]) 26,Bi 28 .add 27<|cS #[41],qm 6 28] .ret)
def c173:PC:=SO [Bx 3 1,Mv 4<|cS #[]] (.seq (SO [Fa 5 0 3,Lo 6 5] (.block 0<|SO [Bi 8 .eql 6 K1,qm 7 8] (.cond 7 (SO [Mv 4<|cS #[116,114,117,101]] .ret)<|SO [Bi 10 .eql 6 K2,qm 9 10] (.cond 9 (SO [Mv 4<|cS #[102,97,108,115,101]] .ret)<|SO [Bi 12 .eql 6 K3,qm 11 12] (.cond 11 (SO [qm 13 0,Fa 14 1 3,Lo 15 14,Ca 16 251 [13,15],qm 4 16] .ret)<|SO [Bi 18 .eql 6 K5,qm 17 18] (.cond 17 (.seq (.ops [qm 19 0,LA 20 3 3,Cd 21 252 [19,20,K0] 3,Bd 22 .add 21 (cS #[32,38,32]) 7,qm 23 0,LA 24 3 3,Cd 25 252 [23,24,K1] 55,Bd 26 .add 22 25 127,qw 4 26 255] true) .ret)<|SO [Bi 28 .eql 6 K6,qm 27 28] (.cond 27 (.seq (.ops [qm 29 0,LA 30 3 3,Cd 31 252 [29,30,K0] 3,Bd 32 .add 31 (cS #[32,47,32]) 7,qm 33 0,LA 34 3 3,Cd 35 252 [33,34,K1] 55,Bd 36 .add 32 35 127,qw 4 36 255] true) .ret)<|SO [Bi 38 .eql 6<|cI 10,qm 37 38] (.cond 37 (.seq (.ops [qm 39 0,Fa 40 2 3,Ld 41 40 2,Ja 42 3 41 K0 6,qd 43 (.mF 3 42) 14,Cd 44 173 [39,43] 31,Bd 45 .add (cS #[69,32,91]) 44 63,Bd 46 .add 45 (cS #[32,85,32]) 127,qm 47 0,Fa 48 2 3,Ld 49 48 512,Ja 50 3 49 K1 1536,qd 51 (.mF 3 50) 3584,Cd 52 173 [47,51] 7999,Bd 53 .add 46 52 16383,Bd 54 .add 53 (cS #[93]) 32767,qw 4 54 65535] true) .ret)<|SO [Bi 56 .eql 6<|cI 14,qm 55 56]<|If 55 (.seq (.ops [qm 57 0,Fa 58 2 3,Ld 59 58 2,Ja 60 3 59 K0 6,qd 61 (.mF 3 60) 14,Cd 62 173 [57,61] 31,Bd 63 .add (cS #[65,32,91]) 62 63,Bd 64 .add 63 (cS #[32,85,32]) 127,qm 65 0,Fa 66 2 3,Ld 67 66 512,Ja 68 3 67 K1 1536,qd 69 (.mF 3 68) 3584,Cd 70 173 [65,69] 7999,Bd 71 .add 64 70 16383,Bd 72 .add 71 (cS #[93]) 32767,qw 4 72 65535] true) .ret))))))))) (.seq (.ops [Fa 73 0 3,Ld 74 73 1,Cd 75 253 [74] 3,qm 76 0,LA 77 3 3,Cd 78 252 [76,77,K0] 31,Bd 79 .add 75 78 63,qw 4 79 127] true) .ret))
def c253:PC:=SO [Mv 2<|cS #[]]<|SO [q 3 (.build [vS,vS,vS,vS,vS,vS,vS,vS,vS,vS,vS,vS,vS,vS] [(4,1,(cS #[33])),(7,1,(cS #[69,88,32])),(8,1,(cS #[69,70,32])),(9,1,(cS #[69,71,32])),(11,1,(cS #[65,88,32])),(12,1,(cS #[65,70,32])),(13,1,(cS #[65,71,32]))]),qm 4 0,q 5 (.Cf 14 1 false 3 4),qm 2 5] .ret
theorem AM:ud ai 253 6 [.tmp 2] c253:=fK Tryz.func253
theorem ztj(k i c:Int):ar ai 290 [aa k,aa i,aa c]<|aD<|DV k i c:=by
 refine bL ?_
 repeat' (first
  |(first|(refine CG ‹_› ?_;((conv=>whnf);repeat(refine⟨rfl,?_⟩;conv=>whnf)))|(refine Dn ‹_› ?_;((conv=>whnf);repeat(refine⟨rfl,?_⟩;conv=>whnf)))|(refine ub (λh=>?_) (λh=>?_)<;>(rw[h];((conv=>whnf);repeat(refine⟨rfl,?_⟩;conv=>whnf)))))
  |exact cd (bJ (λb=>D.sc (.bool b)) (by unfold DV;simp_all)))
theorem zrQ:ar ai 253 [aa 4] (.sc (.string ⟨#[33]⟩)):=by
 refine bK AM ?_;refine sR ?_;refine⟨zo,zo,_,rfl,?_⟩;refine sW ?_;exact sP
theorem zsh:ar ai 253 [aa 7] (.sc (.string ⟨#[69,88,32]⟩)):=by
 refine bK AM ?_;refine sR ?_;refine⟨zo,zo,_,rfl,?_⟩;refine sW ?_;exact sP
theorem zr9:ar ai 253 [aa 8] (.sc (.string ⟨#[69,70,32]⟩)):=by
 refine bK AM ?_;refine sR ?_;refine⟨zo,zo,_,rfl,?_⟩;refine sW ?_;exact sP
theorem zsB:ar ai 253 [aa 9] (.sc (.string ⟨#[69,71,32]⟩)):=by
 refine bK AM ?_;refine sR ?_;refine⟨zo,zo,_,rfl,?_⟩;refine sW ?_;exact sP
theorem zoH:ar ai 253 [aa 11] (.sc (.string ⟨#[65,88,32]⟩)):=by
 refine bK AM ?_;refine sR ?_;refine⟨zo,zo,_,rfl,?_⟩;refine sW ?_;exact sP
theorem zoD:ar ai 253 [aa 12] (.sc (.string ⟨#[65,70,32]⟩)):=by
 refine bK AM ?_;refine sR ?_;refine⟨zo,zo,_,rfl,?_⟩;refine sW ?_;exact sP
theorem zoo:ar ai 253 [aa 13] (.sc (.string ⟨#[65,71,32]⟩)):=by
 refine bK AM ?_;refine sR ?_;refine⟨zo,zo,_,rfl,?_⟩;refine sW ?_;exact sP
theorem zuE(hs:oK names)(n:Int)(hn:0<=n)(bad:Bool) :
  cp ai 251 ([]++.loc 0 0::[aa n]) [.row true<|fy names bad] (.sc (.string<|nm names n)) [.row true<|fy names<|bad||ff (nm names n) ⟨#[]⟩]:=by
 refine iV (fJ 51 [.tmp 4] c251 Tryz.func251) zs zs ?_ (by simp[aq]) (by simp[ao.under,bu _<|fS _ _]);unfold fy dz;refine sR ?_;have fx:∀{s:aX},s=nm names n->ff s ⟨#[]⟩=false->(D.sc (.string s)=.sc (.string<|nm names n)/\List.take 1 [ao.row true [.aM 1<|names.map λs=>[.sc (.string s)],aD bad]]=[ao.row true [.aM 1<|names.map λs=>[.sc (.string s)],aD<|bad||ff (nm names n) ⟨#[]⟩]]/\1<=1):=λh h'=>by
  subst h;rw[h'];simp
 have none_:nm names n=⟨#[]⟩->(D.sc (.string ⟨#[]⟩)=.sc (.string<|nm names n)/\List.take 1 [ao.row true [.aM 1<|names.map λs=>[.sc (.string s)],aD true]]=[ao.row true [.aM 1<|names.map λs=>[.sc (.string s)],aD<|bad||ff (nm names n) ⟨#[]⟩]]/\1<=1):=λh=>by
  rw[h];simp
 refine sS (λh1=>?_) λh1=>?_
 ·exact fx (by simp only[gG] at h1;simp[nm,h1,vi])<|by rw[<-oL,Im];decide
 have h1:n≠63:=sO;rw[aK];refine sS (λh2=>?_) λh2=>?_
 ·exact none_ (by have:(names.length:Int)≤n:=sO
                  simp[nm,h1,this])
 have h2:¬(names.length:Int)<=n:=sO;have hk:n.toNat<names.length:=zo;refine⟨hn,_,qH hk,?_⟩;refine sW ?_;refine sC (FQ _<|hs.at hk) ?_;refine sS (λh3=>?_) λh3=>?_
 ·exact none_ (by have:iQ (names.getD n.toNat ⟨#[]⟩)=false:=by simpa using h3
                  unfold nm;rw[ab h1,ab h2,ae this])
 have h3:¬iQ (names.getD n.toNat ⟨#[]⟩)=false:=by simpa using h3
 refine⟨hn,_,qH hk,?_⟩;refine sW ?_;refine sC (MN names _ hs.1) ?_;have hd:=OL hk;rw[show(n.toNat:Int)=n by omega] at hd;refine sS (λh4=>?_) λh4=>?_
 ·exact none_ (by have:o8 names n.toNat<|names.getD n.toNat ⟨#[]⟩:=hd.1 (by simpa using h4)
                  unfold nm;rw[ab h1,ab h2,ab h3,ae this])
 refine⟨hn,_,qH hk,?_⟩;refine sW ?_
 exact fx (by have:¬o8 names n.toNat (names.getD n.toNat ⟨#[]⟩):=λh=>hd.2 h (by simpa using h4)
              unfold nm;rw[ab h1,ab h2,ab h3,ab this]) (by
              have:iQ<|names.getD n.toNat ⟨#[]⟩:=by simpa using h3
              unfold iQ at this;simp only[fY,B9] at this;exact this.1.1.1.1.1)
theorem zwY(t:Tree)(j:Nat)(hj:j<t.width)(fT:(gC names<|t.az j).size<=1000000)(bad Ei:Bool)
  (hT:cp ai 173 ([]++.loc 0 0::[aY<|t.az j]) [.row true<|fy names bad] (.sc (.string<|gC names<|t.az j)) [.row true<|fy names Ei]) :
  cp ai 252 ([]++.loc 0 0::[aY t,aa j]) [.row true<|fy names bad] (.sc (.string<|oD (DV t.kind j (t.az j).kind)<|gC names<|t.az j)) [.row true<|fy names Ei]:=by
 refine iV (fJ 29 [.tmp 6] c252 Tryz.func252) zs zs ?_ (by simp[aq]) (by simp[ao.under,bu _<|fS _ _]);refine sR ?_;refine sL (dk hj) ?_;refine sA (rX hT (by simp[an]) (by simp[an,c7]) (fS _ _) (fS _ _) (by simp[Pure]) (H:=[.row true<|fy names bad,.row true<|aN t]) (id:=0) rfl) ?_;refine sL (dk hj) ?_;refine sC (ztj t.kind j (t.az j).kind) ?_;refine sS (λh=>?_) λh=>?_
 ·first|exact⟨bJ (λs=>D.sc (.string s)) (by simp[oD,h]),rfl,zs⟩|simp
 refine⟨by simp only[df,dg,dh,bH,bU];omega,?_⟩;refine sW ?_;refine⟨by simp only[df,dg,dh,bH,bU];omega,?_⟩;refine sW ?_;first|exact⟨bJ (λs=>D.sc (.string s)) (by simp[oD,h]),rfl,zs⟩|simp
theorem ztS(hn:oK names):∀t:Tree,t.wf dp->t.size<=60->∀bad:Bool,
  cp ai 173 ([]++.loc 0 0::[aY t]) [.row true<|fy names bad] (.sc (.string<|gC names t)) [.row true<|fy names<|bad||!cO names t]:=by
 intro t
 induction t using Tree.ind with
 |h t ih =>
  intro cu fT bad;have hs:=VI t cu;have tE:=KC ((jG _ _).1 cu).1;have uO:0<=t.num:=(by have:=((jG _ _).1 cu).1;unfold fq at this;omega);have tsz:∀j,j<t.width->(gC names<|t.az j).size<=720/\(t.az j).size<=60:=λj hj=>by
   have h1:=UN names<|t.az j;have h2:=GG hj;omega
  have EA:∀j,j<t.width->∀bad:Bool,cp ai 173 ([]++.loc 0 0::[aY<|t.az j]) [.row true<|fy names bad] (.sc (.string<|gC names<|t.az j)) [.row true<|fy names<|bad||!cO names (t.az j)] :=
   λj hj bad=>ih j hj (gD cu hj) (tsz j hj).2 bad
  have sG:∀j,j<t.width->¬(t.kind=10\/t.kind=14)->∀bad:Bool,cp ai 252 ([]++.loc 0 0::[aY t,aa j]) [.row true<|fy names bad] (.sc (.string<|jL names t j)) [.row true<|fy names<|bad||!cO names (t.az j)] :=
   λj hj da bad=>by
    have:=zwY names t j hj (by have:=tsz j hj;omega) bad _<|EA j hj bad;unfold jL oI;rw[ab da];exact this
  have ksz:∀j,j<t.width->(jL names t j).size<=722:=λj hj=>by
   have:=vW (oI t.kind j (t.az j).kind)<|gC names<|t.az j;have:=tsz j hj;unfold jL;omega
  clear ih;refine iV (fJ 80 [.tmp 4] c173 Tryz.func173) zs zs ?_ (by simp[aq]) (by simp[ao.under,bu _<|fS _ _]);refine sR ?_;have fin:∀{s:aX} {b:Bool} {r:bh},s=gC names t->b=(bad||!cO names t)->(D.sc (.string s)=.sc (.string (gC names t))/\List.take 1 [ao.row true [dz names,aD b],.row true r]=[ao.row true (fy names (bad||!cO names t))]/\[ao.row true (fy names (bad||!cO names t))].length<=2):=λh1 h2=>by
   subst h1 h2;exact⟨rfl,rfl,zs⟩
  have zero:t.width=0->gC names t=xi names t.kind t.num ⟨#[]⟩ ⟨#[]⟩/\cO names t=qg names t.kind t.num:=λh=>⟨G3 names h,Jr names h⟩;refine sS (λh1=>?_) λh1=>?_
  ·have hk:t.kind=1:=sO;have:=zero zo;exact fin (by rw[this.1,hk];rfl)<|by rw[this.2,hk];simp[qg]
  refine sS (λh2=>?_) λh2=>?_
  ·have hk:t.kind=2:=sO;have:=zero zo;exact fin (by rw[this.1,hk];rfl)<|by rw[this.2,hk];simp[qg]
  refine sS (λh3=>?_) λh3=>?_
  ·have hk:t.kind=3:=sO;have:=zero zo;refine sA (rX (zuE names hn t.num uO bad) (by simp[an]) (by simp[an,Pure]) (fS _ _) (fS _ _) (by simp[Pure]) (H:=[.row true<|fy names bad,.row true<|aN t]) (id:=0) rfl) ?_;exact fin (by rw[this.1,hk];rfl)<|by rw[this.2,hk];simp only[qg];cases ff (nm names t.num) ⟨#[]⟩<;>cases bad<;>rfl
  clear zero;have two:t.width=2->gC names t=xi names t.kind t.num (jL names t 0) (jL names t 1)/\(bad||!cO names t)=((bad||!cO names (t.az 0))||!cO names (t.az 1)):=λh=>⟨Eh names h,by
   rw[Pj names h<|sO];cases bad<;>cases cO names (t.az 0)<;>rfl⟩
  refine sS (λh4=>?_) λh4=>?_
  ·have hk:t.kind=5:=sO;have hw:t.width=2:=zo;have k0:=ksz 0 zo;have k1:=ksz 1 zo;refine sE (uX (sG 0 zo zo bad) (by simp[an]) (by simp[an,c7,Pure]) (fS _ _) (fS _ _) (by simp[Pure]) (H:=[.row true<|fy names bad,.row true<|aN t]) (id:=0) rfl) ?_;refine⟨by simp only[df,dg,dh,bH,bU];omega,?_⟩;refine sW ?_;refine sE (uX (sG 1 zo zo<|bad||!cO names (t.az 0)) (by simp[an]) (by simp[an,c7,Pure]) (fS _ _) (fS _ _) (by simp[Pure]) (H:=[.row true<|fy names<|bad||!cO names (t.az 0),.row true<|aN t]) (id:=0) rfl) ?_;refine⟨by simp only[df,dg,dh,bH,bU];omega,?_⟩;refine sW ?_;exact fin (by rw[(two hw).1,hk];rfl) (two hw).2.symm
  refine sS (λh5=>?_) λh5=>?_
  ·have hk:t.kind=6:=sO;have hw:t.width=2:=zo;have k0:=ksz 0 zo;have k1:=ksz 1 zo;refine sE (uX (sG 0 zo zo bad) (by simp[an]) (by simp[an,c7,Pure]) (fS _ _) (fS _ _) (by simp[Pure]) (H:=[.row true<|fy names bad,.row true<|aN t]) (id:=0) rfl) ?_;refine⟨by simp only[df,dg,dh,bH,bU];omega,?_⟩;refine sW ?_;refine sE (uX (sG 1 zo zo<|bad||!cO names (t.az 0)) (by simp[an]) (by simp[an,c7,Pure]) (fS _ _) (fS _ _) (by simp[Pure]) (H:=[.row true<|fy names<|bad||!cO names (t.az 0),.row true<|aN t]) (id:=0) rfl) ?_;refine⟨by simp only[df,dg,dh,bH,bU];omega,?_⟩;refine sW ?_;exact fin (by rw[(two hw).1,hk];rfl) (two hw).2.symm
  refine sS (λh6=>?_) λh6=>?_
  ·have hk:t.kind=10:=sO;have hw:t.width=2:=zo;have t0:=tsz 0 zo;have t1:=tsz 1 zo;have e0:jL names t 0=gC names (t.az 0):=(by simp[jL,oI,hk,oD]);have e1:jL names t 1=gC names (t.az 1):=(by simp[jL,oI,hk,oD]);refine sL (dk (t:=t) (j:=0) zo) ?_;refine sE (uX (EA 0 zo bad) (by simp[an]) (by simp[an,c7,Pure]) (fS _ _) (fS _ _) (by simp[Pure]) (H:=[.row true<|fy names bad,.row true<|aN t]) (id:=0) rfl) ?_;refine⟨by simp only[df,dg,dh,bH,bU];omega,?_⟩;refine sW ?_;refine⟨by simp only[df,dg,dh,bH,bU];omega,?_⟩;refine sW ?_;refine sL (dk (t:=t) (j:=1) zo) ?_;refine sE (uX (EA 1 zo<|bad||!cO names (t.az 0)) (by simp[an]) (by simp[an,c7,Pure]) (fS _ _) (fS _ _) (by simp[Pure]) (H:=[.row true<|fy names<|bad||!cO names (t.az 0),.row true<|aN t]) (id:=0) rfl) ?_;refine⟨by simp only[df,dg,dh,bH,bU];omega,?_⟩;refine sW ?_;refine⟨by simp only[df,dg,dh,bH,bU];omega,?_⟩;refine sW ?_;exact fin (by rw[(two hw).1,hk,e0,e1];rfl) (two hw).2.symm
  refine sS (λh7=>?_) λh7=>?_
  ·have hk:t.kind=14:=sO;have hw:t.width=2:=zo;have t0:=tsz 0 zo;have t1:=tsz 1 zo;have e0:jL names t 0=gC names (t.az 0):=(by simp[jL,oI,hk,oD]);have e1:jL names t 1=gC names (t.az 1):=(by simp[jL,oI,hk,oD]);refine sL (dk (t:=t) (j:=0) zo) ?_;refine sE (uX (EA 0 zo bad) (by simp[an]) (by simp[an,c7,Pure]) (fS _ _) (fS _ _) (by simp[Pure]) (H:=[.row true<|fy names bad,.row true<|aN t]) (id:=0) rfl) ?_;refine⟨by simp only[df,dg,dh,bH,bU];omega,?_⟩;refine sW ?_;refine⟨by simp only[df,dg,dh,bH,bU];omega,?_⟩;refine sW ?_;refine sL (dk (t:=t) (j:=1) zo) ?_;refine sE (uX (EA 1 zo<|bad||!cO names (t.az 0)) (by simp[an]) (by simp[an,c7,Pure]) (fS _ _) (fS _ _) (by simp[Pure]) (H:=[.row true<|fy names<|bad||!cO names (t.az 0),.row true<|aN t]) (id:=0) rfl) ?_;refine⟨by simp only[df,dg,dh,bH,bU];omega,?_⟩;refine sW ?_;refine⟨by simp only[df,dg,dh,bH,bU];omega,?_⟩;refine sW ?_;exact fin (by rw[(two hw).1,hk,e0,e1];rfl) (two hw).2.symm
  have hw:t.width=1:=sO;have k0:=ksz 0 zo;have e1:=VY names hw;have e2:=Xy names hw<|sO;have hk:t.kind=4\/t.kind=7\/t.kind=8\/t.kind=9\/t.kind=11\/t.kind=12\/t.kind=13:=sO;have A0:=uX (sG 0 zo zo bad) (by simp[an]) (by simp[an,c7,Pure]) (fS _ _) (fS _ _) (by simp[Pure]) (H:=[.row true<|fy names bad,.row true<|aN t]) (id:=0) rfl;rcases hk with hk|hk|hk|hk|hk|hk|hk
  ·refine sC (by rw[hk];exact zrQ) ?_;refine sE A0 ?_;refine⟨by simp only[df,dg,dh,bH,bU];omega,?_⟩;refine sW ?_;exact fin (by rw[e1,hk];rfl)<|by rw[e2]
  ·refine sC (by rw[hk];exact zsh) ?_;refine sE A0 ?_;refine⟨by simp only[df,dg,dh,bH,bU];omega,?_⟩;refine sW ?_;exact fin (by rw[e1,hk];rfl)<|by rw[e2]
  ·refine sC (by rw[hk];exact zr9) ?_;refine sE A0 ?_;refine⟨by simp only[df,dg,dh,bH,bU];omega,?_⟩;refine sW ?_;exact fin (by rw[e1,hk];rfl)<|by rw[e2]
  ·refine sC (by rw[hk];exact zsB) ?_;refine sE A0 ?_;refine⟨by simp only[df,dg,dh,bH,bU];omega,?_⟩;refine sW ?_;exact fin (by rw[e1,hk];rfl)<|by rw[e2]
  ·refine sC (by rw[hk];exact zoH) ?_;refine sE A0 ?_;refine⟨by simp only[df,dg,dh,bH,bU];omega,?_⟩;refine sW ?_;exact fin (by rw[e1,hk];rfl)<|by rw[e2]
  ·refine sC (by rw[hk];exact zoD) ?_;refine sE A0 ?_;refine⟨by simp only[df,dg,dh,bH,bU];omega,?_⟩;refine sW ?_;exact fin (by rw[e1,hk];rfl)<|by rw[e2]
  refine sC (by rw[hk];exact zoo) ?_;refine sE A0 ?_;refine⟨by simp only[df,dg,dh,bH,bU];omega,?_⟩;refine sW ?_;exact fin (by rw[e1,hk];rfl)<|by rw[e2]
def c100:PC:=SO [Bx 2 0,Mv 4<|cS #[],Mv 5 K0] (.seq (SO [LA 9 3 2,Ca 10 103 [9],qm 6 10]<|SO [qm 11 6,Bi 12 .neq 11 K0]<|If 12<|SO [qm 13 6,Mv 4<|cS #[],qm 5 13] .ret)<|SO [qm 14 1,q 15 (.build [vN,vF] [(0,1,14)]),Bx 16 15,qm 7 16]<|SO [qm 17 7,LA 18 3 2,Ca 19 173 [17,18],qm 8 19] (.seq (SO [qm 20 7,q 21 (.jR 20),Fa 22 1 21,Lo 23 22]<|If 23<|SO [Mv 4<|cS #[],Mv 5 K4] .ret)<|SO [qm 24 8,qm 4 24,Mv 5 K0] .ret))
noncomputable def Ce(names:List aX)(t:Tree):D :=
 if aS dp t=0 then (if cO names t then .aI [.sc (.string<|gC names t),aa 0] else .aI [.sc (.string ⟨#[]⟩),aa 4]) else .aI [.sc (.string ⟨#[]⟩),aa<|aS dp t]
theorem zsa(hn:oK names)(t:Tree)(hs:Small t):ar ai 100 [aY t,dz names]<|Ce names t:=by
 refine dC (fJ 25 [.tmp 4,.tmp 5] c100 Tryz.func100) zs (by simp[an,c7,jK]) ?_ (by unfold Ce;(repeat' split)<;>simp[Pure,an]);refine sR ?_;refine sC (Xc t hs) ?_;refine sS (λh1=>?_) λh1=>?_
 ·have h:¬aS dp t=0:=sO;unfold Ce;rw[ab h];exact sP
 have h:aS dp t=0:=sO;have hz:=(qM _ _).1 h;unfold Ce;rw[ae h];refine sA (rX (ztS names hn t hz.2.2 hz.1 false) (by simp[an]) (by simp[an,c7]) (fS _ _) (fS _ _) (by simp[Pure]) (H:=[.row true<|aN t,.row true<|fy names false]) (id:=1) rfl) ?_;cases hk:cO names t
 ·refine sW ?_;exact sP
 refine sW ?_;exact sP
def zAQ:PC:=.seq (SO [qm 13 7,Fa 14 2 2,Lo 15 14,Ln 16 15,Bi 17 .lss 13 16]<|CX 17 0) (.seq (.block 1<|SO [Fa 20 2 2,Lo 21 20,qm 22 7,Ia 23 3 21 22,LA 24 3 23,q 8 (.alloc [v0,v0,vN]),So 3 8 24]<|SO [LA 26 3 8,qm 27 1,Ca 28 56 [26,27],qm 25 28,Xt 29 0 25,Xt 30 1 25,qm 9 29,qm 10 30] (.seq (SO [qm 31 10,Nt 32 31]<|If 32<|SO [Mv 4<|cS #[],Mv 5 cF] .ret) (.seq (.stop<|OP [Fa 33 0 8,Lo 34 33,Bi 35 .eql 34 K5,qm 36 35,GF 37 36 (.dO 0 8),GF 38 36 (.cg 37),GF 39 36 (.bin .eql 38 K6),Pk 40 36 cT 39,qm 41 40,GT 42 41 (.dO 0 2),GT 43 41 (.cg 42),GT 44 41 (.bin .neq 43<|cI 10),Pk 45 41 44 cF,qm 46 45,GT 47 46 (.dO 0 2),GT 48 46 (.cg 47),GT 49 46 (.bin .neq 48<|cI 14),Pk 50 46 49 cF,qm 11 50]) (.seq (.seq (.stop<|OP [qm 51 7,Bi 52 .eql 51 K0,qm 53 52,GT 54 53 (.dO 0 8),GT 55 53 (.cg 54),GT 56 53 (.dO 0 2),GT 57 53 (.cg 56),GT 58 53 (.bin .eql 55 57),Pk 59 53 58 cF,qm 60 59,GF 61 60 (.dO 0 2),GF 62 60 (.cg 61),GF 63 60 (.bin .eql 62 K6),GF 64 60 (.move 63),GT 65 64 (.dO 0 8),GT 66 64 (.cg 65),GT 67 64 (.bin .eql 66 K5),GF 68 60 (.pick 64 67 cF),Pk 69 60 cT 68])<|If 69<|OP [Mv 11 cF]) (.seq (SO [qm 70 11]<|If 70<|OP [qm 71 9,Bi 72 .add (cS #[40]) 71,Bi 73 .add 72<|cS #[41],qm 9 73])<|OP [qm 74 6,qm 75 9,Bs 76 1 1 [75],Ap 77 1 16 74 76,qm 6 77])))))<|OP [qm 18 7,Bi 19 .add 18 K1,qm 7 19])
def c56:PC:=SO [Bx 2 0,Mv 4<|cS #[],Mv 5 cF]<|SO [Mv 6 cN] (.seq (SO [Mv 7 K0]<|BL 0 zAQ) (.seq (SO [Fa 78 0 2,Lo 79 78] (.block 2<|SO [Bi 81 .eql 79 K1,qm 80 81] (.cond 80 (SO [Mv 4<|cS #[116,114,117,101],Mv 5 cT] .ret)<|SO [Bi 83 .eql 79 K2,qm 82 83] (.cond 82 (SO [Mv 4<|cS #[102,97,108,115,101],Mv 5 cT] .ret)<|SO [Bi 85 .eql 79 K3,qm 84 85] (.cond 84 (SO [Fa 86 1 2,Lo 87 86,qm 88 1,Ca 89 57 [87,88],qm 12 89]<|SO [qm 90 12,qm 91 12,Bi 92 .neq 91<|cS #[],qm 4 90,qm 5 92] .ret)<|SO [Bi 94 .eql 79 K5,qm 93 94] (.cond 93 (.seq (.ops [qm 95 6,Ja 96 1 95 K0 1,Ld 97 96 3,Bd 98 .add 97 (cS #[32,38,32]) 7,qm 99 6,Ja 100 1 99 K1 16,Ld 101 100 48,Bd 102 .add 98 101 127,qw 4 102 255,Md 5 cT 511] true) .ret)<|SO [Bi 104 .eql 79 K6,qm 103 104] (.cond 103 (.seq (.ops [qm 105 6,Ja 106 1 105 K0 1,Ld 107 106 3,Bd 108 .add 107 (cS #[32,47,32]) 7,qm 109 6,Ja 110 1 109 K1 16,Ld 111 110 48,Bd 112 .add 108 111 127,qw 4 112 255,Md 5 cT 511] true) .ret)<|SO [Bi 114 .eql 79<|cI 10,qm 113 114] (.cond 113 (.seq (.ops [qm 115 6,Ja 116 1 115 K0 1,Ld 117 116 3,Bd 118 .add (cS #[69,32,91]) 117 7,Bd 119 .add 118 (cS #[32,85,32]) 15,qm 120 6,Ja 121 1 120 K1 32,Ld 122 121 96,Bd 123 .add 119 122 255,Bd 124 .add 123 (cS #[93]) 511,qw 4 124 1023,Md 5 cT 2047] true) .ret)<|SO [Bi 126 .eql 79<|cI 14,qm 125 126] (.cond 125 (.seq (.ops [qm 127 6,Ja 128 1 127 K0 1,Ld 129 128 3,Bd 130 .add (cS #[65,32,91]) 129 7,Bd 131 .add 130 (cS #[32,85,32]) 15,qm 132 6,Ja 133 1 132 K1 32,Ld 134 133 96,Bd 135 .add 131 134 255,Bd 136 .add 135 (cS #[93]) 511,qw 4 136 1023,Md 5 cT 2047] true) .ret)<|SO [Bi 138 .eql 79 K4,qm 137 138]<|If 137<|SO [qm 139 6,Ia 140 1 139 K0,Lo 141 140,Bi 142 .add (cS #[33]) 141,qm 4 142,Mv 5 cT] .ret))))))))) (.seq (.ops [q 143 (.build [vS,vS,vS,vS,vS,vS,vS,vS,vS,vS,vS,vS,vS,vS] [(7,1,(cS #[69,88,32])),(8,1,(cS #[69,70,32])),(9,1,(cS #[69,71,32])),(11,1,(cS #[65,88,32])),(12,1,(cS #[65,70,32])),(13,1,(cS #[65,71,32]))]),Fa 144 0 2,Ld 145 144 2,qd 146 (.Cf 14 1 false 143 145) 7,qm 147 6,Ja 148 1 147 K0 16,Ld 149 148 48,Bd 150 .add 146 149 127,qw 4 150 255,Md 5 cT 511] true) .ret)))
def su(names:List aX)(t:Tree)(k:Nat):fE:=(List.range k).map λj=>[.sc (.string<|jL names t j)]
theorem vP{names:List aX}(h:j<k):(su names t k)[j]? = some [.sc (.string<|jL names t j)]:=by
 simp[su,cU,qI h]
@[simp] theorem zyd(t:Tree)(k:Nat):(su names t k).length=k:=by simp[su]
theorem X'(t:Tree)(k:Nat):List.drop 0 (List.take k<|su names t k)++[[.sc (.string<|jL names t k)]]=su names t (k+1):=by
 rw[fQ,jd zs];simp[su,qy]
@[simp] theorem Nq(t:Tree)(k:Nat):fc<|su names t k:=db _ (λj=>by simp[an,Pure]) _
def xl(names:List aX)(t:Tree):D:=.aI [.sc (.string<|if cO names t then gC names t else ⟨#[]⟩),aD<|cO names t]
theorem zl7(hn:oK names):∀t:Tree,t.wf dp->t.size<=60->ar ai 56 [aY t,dz names] (xl names t):=by
 intro t
 induction t using Tree.ind with
 |h t ih =>
  intro cu fT;have hs:=VI t cu;have Nw:=hs.width;have tE:=KC ((jG _ _).1 cu).1;have uO:0<=t.num:=(by have:=((jG _ _).1 cu).1;unfold fq at this;omega);have tsz:∀j,j<t.width->(gC names<|t.az j).size<=720/\(t.az j).size<=60:=λj hj=>by
   have h1:=UN names<|t.az j;have h2:=GG hj;omega
  have ksz:∀j,j<t.width->(jL names t j).size<=722:=λj hj=>by
   have:=vW (oI t.kind j (t.az j).kind)<|gC names<|t.az j;have:=tsz j hj;unfold jL;omega
  refine dC (fJ 151 [.tmp 4,.tmp 5] c56 Tryz.func56) zs (by simp[an,c7,jK]) ?_ (by simp[xl,Pure,an]);refine sR ?_;have bad:∀{j:Nat},j<t.width->cO names (t.az j)=false->cO names t=false:=λ{j} hj h=>by
   rw[Ab];simp only[IT];refine .inr<|List.all_eq_false.2 ⟨t.az j,by rw[Tree.om hj];exact ib _,by simp[h]⟩
  refine wA (λk:Nat=>[(1,dz names),(2,.loc 0 0),(6,.own 1 k 0 k),(7,aa k)])
   (λk=>[.row true<|aN t,.vec true k 1<|su names t k])
   (λk=>k<=t.width/\∀j,j<k->cO names (t.az j)=true) (λk=>t.width-k) 0 ⟨zo,λj h=>zo⟩ (kS (fL 6 1 zs rfl)<|o5 ⟨rfl,rfl,rfl,rfl,trivial⟩) ?_
  rintro k ⟨hk,bR⟩;refine sRS (λh1=>?_) λh1=>?_
  ·have al:k<t.width:=(by simpa [Tree.width] using h1);refine sL (dk al) ?_;have ihk:=ih k al (gD cu al) (tsz k al).2;cases aC:cO names (t.az k)
   ·simp only[xl,aC] at ihk;refine sC ihk ?_;have:=bad al aC;exact cd<|by simp only[xl,this];rfl
   simp only[xl,aC,if_true] at ihk;refine sC ihk ?_;have tk:=tsz k al;have kk:=ksz k al
   refine px (λ_:Unit=>[(1,dz names),(2,.loc 0 0),(6,.own 1 k 0 k),(7,aa k),(8,.loc 2 0),(9,.sc (.string<|gC names<|t.az k)),(11,aD<|decide (((t.az k).kind=5\/(t.az k).kind=6)/\t.kind≠10/\t.kind≠14))])
    (λ_=>[.row true<|aN t,.vec true k 1<|su names t k,.row true<|aN<|t.az k]) (λ_=>True) ?_ ?_
   ·refine sR ?_
    repeat' (first
     |(first|(refine CG ‹_› ?_;((conv=>whnf);repeat(refine⟨rfl,?_⟩;conv=>whnf)))|(refine Dn ‹_› ?_;((conv=>whnf);repeat(refine⟨rfl,?_⟩;conv=>whnf)))|(refine ub (λh=>?_) (λh=>?_)<;>(rw[h];((conv=>whnf);repeat(refine⟨rfl,?_⟩;conv=>whnf)))))
     |exact⟨(),trivial,o5 ⟨rfl,rfl,rfl,rfl,rfl,rfl,bJ (λb=>D.sc (.bool b)) (by simp_all<;>rfl),trivial⟩⟩)
   rintro _ _;refine sW ?_
   refine px (λ_:Unit=>[(1,dz names),(2,.loc 0 0),(6,.own 1 k 0 k),(7,aa k),(8,.loc 2 0),(9,.sc (.string<|gC names<|t.az k)),(11,aD<|decide (((t.az k).kind=5\/(t.az k).kind=6)/\t.kind≠10/\t.kind≠14)),
     (69,aD<|decide ((k=0/\(t.az k).kind=t.kind)\/(t.kind=6/\(t.az k).kind=5)))])
    (λ_=>[.row true<|aN t,.vec true k 1<|su names t k,.row true<|aN<|t.az k]) (λ_=>True) ?_ ?_
   ·refine sR ?_;have e0:((k:Int)==0)=decide (k=0):=(by rw[kb];simp);have e1:((k:Int)==1)=decide (k=1):=by rw[kb];simp;omega
    repeat' (first
     |(first|(refine CG ‹_› ?_;((conv=>whnf);repeat(refine⟨rfl,?_⟩;conv=>whnf)))|(refine Dn ‹_› ?_;((conv=>whnf);repeat(refine⟨rfl,?_⟩;conv=>whnf)))|(refine ub (λh=>?_) (λh=>?_)<;>(rw[h];((conv=>whnf);repeat(refine⟨rfl,?_⟩;conv=>whnf)))))
     |exact⟨(),trivial,o5 ⟨rfl,rfl,rfl,rfl,rfl,rfl,rfl,bJ (λb=>D.sc (.bool b)) (by
       clear ih bR ihk tsz ksz bad;rw[kb];simp only[gG,beq_eq_false_iff_ne,ne_eq,ja,xA,false_iff,true_iff] at *;omega),trivial⟩⟩)
   rintro _ _;refine sW ?_;have bare:jL names t k=if oI t.kind k (t.az k).kind then gC names<|t.az k else ⟨#[40]⟩++gC names (t.az k)++⟨#[41]⟩:=rfl
   have fin:∀{s:aX},s=jL names t k->List.drop 0 (List.take k<|su names t k)++[[D.sc (.string s)]]=su names t (k+1):=λh=>by rw[h,X']
   have cond:∀{p:Prop} [Decidable p],decide p=true->p:=λh=>by simpa using h
   have Bt:∀{p:Prop} [Decidable p],decide p=false->¬p:=λh=>by simpa using h
   have eqs:∀b:Bool,oI t.kind k (t.az k).kind=b->jL names t k=if b then gC names<|t.az k else ⟨#[40]⟩++gC names (t.az k)++⟨#[41]⟩:=λb h=>by rw[bare,h]
   have hB:oI t.kind k (t.az k).kind↔¬(((t.az k).kind=5\/(t.az k).kind=6)/\t.kind≠10/\t.kind≠14)\/((k=0/\(t.az k).kind=t.kind)\/(t.kind=6/\(t.az k).kind=5)):=by
    unfold oI DV;clear ih bR ihk tsz ksz bad bare fin eqs cond Bt;repeat' split
    all_goals
     simp only[qX,fY,gG,true_iff];omega
   have wrapped:∀{s:aX},s=jL names t k->s.size<=722:=λh=>h▸kk;refine sS (λh5=>?_) λh5=>?_
   ·have hs:gC names (t.az k)=jL names t k:=(by rw[eqs true<|hB.2 (.inr<|cond h5)];rfl);refine⟨by unfold je;simp only[fQ,u4,r7,bH,bU];omega,?_⟩;refine sW ?_;refine .inl ⟨by unfold dQ;rw[gf];unfold Tree.width at *;omega,?_⟩;refine sW ?_
    exact⟨k+1,⟨zo,λj hj=>by by_cases e:j=k;subst e;exact aC;exact bR j zo⟩,zd,aR 2 zs rfl ⟨.refl _,bw _<|jK names,.refl _,by simp[aq],.refl _,by simp[aq],.refl _,by simp[aq],trivial⟩
     ⟨⟨rfl,.refl _,bu _<|cM t⟩,⟨rfl,rfl,rfl,aZ<|fin hs,aV _<|Nq _ _ _⟩,trivial⟩⟩
   refine sS (λh6=>?_) λh6=>?_
   ·have hs:⟨#[40]⟩++gC names (t.az k)++⟨#[41]⟩=jL names t k:=by
     rw[eqs false<|by rw[<-oL,hB];exact λh=>h.elim (λh=>h<|cond h6)<|Bt h5];rfl
    refine⟨by simp only[df,dg,dh,bH,bU];omega,?_⟩;refine sW ?_;refine⟨by simp only[df,dg,dh,bH,bU];omega,?_⟩;refine sW ?_;refine⟨by unfold je;simp only[fQ,u4,r7,bH,bU];omega,?_⟩;refine sW ?_;refine .inl ⟨by unfold dQ;rw[gf];unfold Tree.width at *;omega,?_⟩;refine sW ?_
    exact⟨k+1,⟨zo,λj hj=>by by_cases e:j=k;subst e;exact aC;exact bR j zo⟩,zd,aR 2 zs rfl ⟨.refl _,bw _<|jK names,.refl _,by simp[aq],.refl _,by simp[aq],.refl _,by simp[aq],trivial⟩
     ⟨⟨rfl,.refl _,bu _<|cM t⟩,⟨rfl,rfl,rfl,aZ<|fin hs,aV _<|Nq _ _ _⟩,trivial⟩⟩
   have hs:gC names (t.az k)=jL names t k:=(by rw[eqs true<|hB.2 (.inl<|Bt h6)];rfl);refine⟨by unfold je;simp only[fQ,u4,r7,bH,bU];omega,?_⟩;refine sW ?_;refine .inl ⟨by unfold dQ;rw[gf];unfold Tree.width at *;omega,?_⟩;refine sW ?_
   exact⟨k+1,⟨zo,λj hj=>by by_cases e:j=k;subst e;exact aC;exact bR j zo⟩,zd,aR 2 zs rfl ⟨.refl _,bw _<|jK names,.refl _,by simp[aq],.refl _,by simp[aq],.refl _,by simp[aq],trivial⟩
    ⟨⟨rfl,.refl _,bu _<|cM t⟩,⟨rfl,rfl,rfl,aZ<|fin hs,aV _<|Nq _ _ _⟩,trivial⟩⟩
  have A4:k=t.width:=by have:¬k<t.width:=by simpa [Tree.width] using h1
                        omega
  clear h1;have fx:t.kind≠3->cO names t:=λh3=>by
   rw[Ab];simp only[fY];refine⟨by simp[qg,h3],ki.2 λu hu=>?_⟩;obtain⟨j,hj,rfl⟩:=jN.1 hu;have:=bR j (by rw[A4];exact hj);rwa [Tree.om hj] at this
  have fin:∀{H:aF} {s:aX},t.kind≠3->s=gC names t->Deep H (.aI [.sc (.string s),aD true]) (xl names t):=λh3 h=>by
   unfold xl;rw[fx h3,h];exact .refl _
  refine sS (λh1=>?_) λh1=>?_
  ·have fz:t.kind=1:=sO;exact fin zo<|by rw[G3 names zo,fz];rfl
  refine sS (λh2=>?_) λh2=>?_
  ·have fz:t.kind=2:=sO;exact fin zo<|by rw[G3 names zo,fz];rfl
  refine sS (λh3=>?_) λh3=>?_
  ·have fz:t.kind=3:=sO;refine sC (Oi names hn t.num uO) ?_;have e1:gC names t=nm names t.num:=(by rw[G3 names zo,fz];rfl);have e2:cO names t=!(ff (nm names t.num) ⟨#[]⟩):=(by rw[Jr names zo,fz];rfl);refine cd ?_;unfold xl;rw[e1,e2];show D.aI [.sc (.string<|nm names t.num),aD<|!(ff (nm names t.num) ⟨#[]⟩)]=_;cases e:ff (nm names t.num) ⟨#[]⟩
   ·rfl
   rw[ByteArray.size_eq_zero_iff.1<|(Im _).1 e];rfl
  refine sS (λh4=>?_) λh4=>?_
  ·have fz:t.kind=5:=sO;have hw:t.width=2:=zo;have:=ksz 0 zo;have:=ksz 1 zo;refine⟨zo,zo,?_⟩;refine sW ?_;refine⟨_,vP (j:=0) zo,?_⟩;refine sW ?_;refine⟨by simp only[df,dg,dh,bH,bU];omega,?_⟩;refine sW ?_;try (refine⟨by simp only[df,dg,dh,bH,bU];omega,?_⟩;refine sW ?_)
   refine⟨zo,zo,?_⟩;refine sW ?_;refine⟨_,vP (j:=1) zo,?_⟩;refine sW ?_;refine⟨by simp only[df,dg,dh,bH,bU];omega,?_⟩;refine sW ?_;try (refine⟨by simp only[df,dg,dh,bH,bU];omega,?_⟩;refine sW ?_)
   exact fin zo<|by rw[Eh names hw,fz];rfl
  refine sS (λh5=>?_) λh5=>?_
  ·have fz:t.kind=6:=sO;have hw:t.width=2:=zo;have:=ksz 0 zo;have:=ksz 1 zo;refine⟨zo,zo,?_⟩;refine sW ?_;refine⟨_,vP (j:=0) zo,?_⟩;refine sW ?_;refine⟨by simp only[df,dg,dh,bH,bU];omega,?_⟩;refine sW ?_;try (refine⟨by simp only[df,dg,dh,bH,bU];omega,?_⟩;refine sW ?_)
   refine⟨zo,zo,?_⟩;refine sW ?_;refine⟨_,vP (j:=1) zo,?_⟩;refine sW ?_;refine⟨by simp only[df,dg,dh,bH,bU];omega,?_⟩;refine sW ?_;try (refine⟨by simp only[df,dg,dh,bH,bU];omega,?_⟩;refine sW ?_)
   exact fin zo<|by rw[Eh names hw,fz];rfl
  refine sS (λh6=>?_) λh6=>?_
  ·have fz:t.kind=10:=sO;have hw:t.width=2:=zo;have:=ksz 0 zo;have:=ksz 1 zo;refine⟨zo,zo,?_⟩;refine sW ?_;refine⟨_,vP (j:=0) zo,?_⟩;refine sW ?_;refine⟨by simp only[df,dg,dh,bH,bU];omega,?_⟩;refine sW ?_;try (refine⟨by simp only[df,dg,dh,bH,bU];omega,?_⟩;refine sW ?_)
   refine⟨zo,zo,?_⟩;refine sW ?_;refine⟨_,vP (j:=1) zo,?_⟩;refine sW ?_;refine⟨by simp only[df,dg,dh,bH,bU];omega,?_⟩;refine sW ?_;try (refine⟨by simp only[df,dg,dh,bH,bU];omega,?_⟩;refine sW ?_)
   exact fin zo<|by rw[Eh names hw,fz];rfl
  refine sS (λh7=>?_) λh7=>?_
  ·have fz:t.kind=14:=sO;have hw:t.width=2:=zo;have:=ksz 0 zo;have:=ksz 1 zo;refine⟨zo,zo,?_⟩;refine sW ?_;refine⟨_,vP (j:=0) zo,?_⟩;refine sW ?_;refine⟨by simp only[df,dg,dh,bH,bU];omega,?_⟩;refine sW ?_;try (refine⟨by simp only[df,dg,dh,bH,bU];omega,?_⟩;refine sW ?_)
   refine⟨zo,zo,?_⟩;refine sW ?_;refine⟨_,vP (j:=1) zo,?_⟩;refine sW ?_;refine⟨by simp only[df,dg,dh,bH,bU];omega,?_⟩;refine sW ?_;try (refine⟨by simp only[df,dg,dh,bH,bU];omega,?_⟩;refine sW ?_)
   exact fin zo<|by rw[Eh names hw,fz];rfl
  have hw:t.width=1:=sO;have:=ksz 0 zo;have e1:=VY names hw;refine sS (λh8=>?_) λh8=>?_
  ·have fz:t.kind=4:=sO;refine⟨zo,zo,?_⟩;refine sW ?_;refine⟨_,vP (j:=0) zo,?_⟩;refine sW ?_;refine⟨by simp only[df,dg,dh,bH,bU];omega,?_⟩;refine sW ?_;exact fin zo<|by rw[e1,fz];rfl
  have hk:t.kind=7\/t.kind=8\/t.kind=9\/t.kind=11\/t.kind=12\/t.kind=13:=sO;rcases hk with fz|fz|fz|fz|fz|fz
  all_goals
   refine⟨zo,zo,_,by rw[fz];rfl,?_⟩;refine sW ?_;refine⟨zo,zo,?_⟩;refine sW ?_;refine⟨_,vP (j:=0) zo,?_⟩;refine sW ?_;refine⟨by simp only[df,dg,dh,bH,bU];omega,?_⟩;refine sW ?_;exact fin zo<|by rw[e1,fz];rfl
variable{P:bI}{f:FuncId}{args':bh}{d:D}{H:aF}
theorem zs6{args:bh}(hd:jg H args args')(h:ar P f args' d):cp P f args H d<|yH H:=by
 obtain⟨hf,hp⟩:=h;refine⟨hf,by rw[wV,aK];exact aT _,λJ F w vs aC kA iH=>?_⟩;have ck:∀b,F b\/jU J b->b<w.heap.size:=λb hb=>hb.elim (aC.lt b) λ⟨i,s,hi,hs⟩=>aC.jy hi hs;refine(hp J (λb=>F b\/jU J b) w _ (aC.lt.mono (λ_ h=>.inl h) (λ_ _=>rfl) ck)<|wY aC (λ_ _ h=>h) _ _ _ hd iH).mono λe w' hR=>?_;obtain⟨v,F',rfl,h1,h2,h3⟩:=hR;have kE:∀b,b<w.heap.size->w'.heap[b]? = w.heap[b]?:=λb hb=>h3.block b hb<|p' b;refine⟨v,J,F',rfl,⟨λi s hs=>?_,aC.one,λi s b o g1 g2 g3 g4=>?_,aC.lt.mono (λb hb=>h3.grow b (.inl hb)) (λb hb=>kE b<|aC.lt b hb) h1⟩,λid hid=>?_,kq (HN J) (λ_ h=>h) (λ_ _=>rfl) _ _ h2,?_⟩
 ·obtain⟨o,q1,q2⟩:=aC.obj i s hs;refine⟨o.frozen,?_,?_⟩
  ·rw[wV,cU,q1];rfl
  have q3:=rI (J':=J) (F':=F') (w':=w') (bf.le_refl J) (λb hb=>h3.grow b (.inl hb)) (λb hb=>kE b<|aC.lt b hb) (λb hb=>kE b<|aC.jy hs hb) q2
  cases o with
  |row m cs =>
   obtain⟨k1,k2,k3,k4,k5,b,vals,te,t1,t2,t3,t4,t5⟩:=q3;exact⟨k1,k2,k3,k4,k5,b,vals,te,t1,t2,t3,t4,λ_=>h3.grow b (.inr ⟨i,s,hs,by simp[Site.c9,k1,t1]⟩)⟩
  |vec m v e xs =>
   obtain⟨k1,k2,k3,k4,k5,k6⟩:=q3;refine⟨k1,k2,k3,k4,k5,?_⟩;by_cases hz:s.cap=0
   ·exact .inl hz
   rcases k6 with k6|⟨b,o,vals,te,t1,t2,t3,t4,t5⟩
   ·exact .inl k6
   exact .inr ⟨b,o,vals,te,t1,t2,t3,t4,λ_=>h3.grow b (.inr ⟨i,s,hs,by simp[Site.c9,k1,hz,t1]⟩)⟩
  |eU m I=>exact q3
 ·exfalso;rw[wV,cU] at g3
  cases e:H[i]? with
  |none=>rw[e] at g3;cases g3
  |some x =>
   rw[e] at g3;cases x<;>cases g3<;>cases g4
 ·rw[wV,aK];exact kA id hid
 exact⟨h3.os,h3.tape,h3.output,h3.size,λb hb _=>kE b hb,λb hb=>kE b<|aC.lt b hb,bf.le_refl J,λb hb=>h3.grow b (.inl hb),λb hb=>.inl hb,λb hb=>by
  rcases h3.pc b hb with q|q|q
  ·rcases q with q|q
   ·exact .inl q
   exact .inr (.inl q)
  ·exact absurd q<|p' b
  exact .inr (.inr q)⟩
theorem G6{args0 args:bh}{H0 H:aF}(hd:jg H0 args0 args')(h:ar P f args' d)(hp:Pure d)(L:List Nat)(hL:L.length=H0.length)(fm:L.Nodup)
  (iH:au H0.length args0) (pY:fo H0.length H0) (e1:bP (λi=>L.getD i 0) args0=args)
  (h1:∀i o,H0[i]? = some o->H[L.getD i 0]? = some (o.aQ λi=>L.getD i 0)):pJ P f args H d (mJ H L<|(yH H0).map<|ao.aQ λi=>L.getD i 0) L :=
 FL (zs6 hd h) (by rw[wV,aK]) L hL fm iH pY e1 (iT _ hp) h1
variable{ak:Nat}
theorem Ax{pre post:bh}{H:aF}{id aw lo hi:Nat}{q:Bool}{xs:fE}(h:ar P f (pre++.aM ak ((xs.take hi).drop lo)::post) d)(hp:Pure d)(y6:an pre)(zp:an post)(nf:fc xs)
  (hid:H[id]? = some (.vec q aw ak xs)):pJ P f (pre++.own id aw lo hi::post) H d (H.set id (.vec false aw ak xs)) [id]:=by
 have tv:∀(a b:bh) (ρ:Nat->Nat),bP ρ (a++b)=bP ρ a++bP ρ b:=λa b ρ=>by
  induction a with
  |nil=>simp only[bP,lW]
  |cons x r ih=>simp only[ov,bP,ih]
 have F6:∀(a b:bh),au 1 a->au 1 b->au 1 (a++b):=λa b ha hb=>by
  induction a with
  |nil=>exact hb
  |cons x r ih=>simp only[au,ov] at ha⊢;exact⟨ha.1,ih ha.2⟩
 have hda:∀(a b c e:bh),jg [.vec q aw ak xs] a b->jg [.vec q aw ak xs] c e->jg [.vec q aw ak xs] (a++c) (b++e):=λa b c e ha hc=>by
  induction a generalizing b with
  |nil=>cases ha;exact hc
  |cons x r ih=>cases ha with|cons _ _ _ _ h k=>exact .cons _ _ _ _ h<|ih _ k
 have:=G6 (args0:=pre++.own 0 aw lo hi::post) (H0:=[.vec q aw ak xs]) (H:=H) (args:=pre++.own id aw lo hi::post)
  (hda _ _ _ _ (oN pre) (.cons _ _ _ _ (.own _ _ _ _ _ _ _ _ rfl (iX _))<|oN post)) h hp [id] rfl zs (F6 _ _ (bu _ y6) ⟨by simp[aq],bu _ zp⟩) ⟨aV _ nf,trivial⟩
  (by rw[tv,mo _ y6];simp only[bP,D.aQ,mo _ zp];rfl) (λi o ho=>by
   cases i with
   |zero =>
    simp at ho;subst ho;show H[id]? = _;rw[hid];simp only[ao.aQ,kQ _ nf]
   |succ i=>simp at ho)
 simpa [yH,ao.frozen,ao.aQ,kQ _ nf,mJ] using this
section
variable{α:Type}
def jZ(b:Nat)(L:List<|List α):fE:=(List.range L.length).map λj=>[.own (j+b) (L.getD j []).length 0 (L.getD j []).length]
def fO(ak:Nat)(c:α->bh)(L:List<|List α):aF:=L.map λl=>.vec true l.length ak<|l.map c
@[simp] theorem zyR(b:Nat)(L:List<|List α):(jZ b L).length=L.length:=by simp[jZ]
@[simp] theorem Fb(ak:Nat)(c:α->bh)(L:List<|List α):(fO ak c L).length=L.length:=by simp[fO]
variable{b i:Nat}{L:List<|List α}
theorem mh{z:Nat}(hz:z=i)(h:i<L.length):(jZ b L)[z]? = some [.own (i+b) (L.getD i []).length 0 (L.getD i []).length]:=by
 subst hz;simp[jZ,cU,qI h]
theorem By(h:i<L.length):L[i]? = some (L.getD i []):=by
 rw[aE,aJ h];rfl
variable{c:α->bh}
theorem xv(h:i<L.length):(fO ak c L)[i]? = some (.vec true (L.getD i []).length ak<|(L.getD i []).map c):=by
 unfold fO;rw[cU,By h];rfl
theorem No{K:ao->Prop}(h:i<L.length)(k:K (.vec true (L.getD i []).length ak<|(L.getD i []).map c)):ky (fO ak c L) i K:=(lB _ _ _).2 ⟨_,xv h,k⟩
theorem Rw(l:List α):(fO ak c L).set i (.vec true l.length ak<|l.map c)=fO ak c (L.set i l):=by
 unfold fO;rw[List.map_set]
theorem N2{l:List α}(h:i<L.length):(L.set i l).getD j []=if j=i then l else L.getD j []:=by
 rw[aE,vo];by_cases e:i=j
 ·subst e;simp[h]
 rw[ab e,ab λq=>e q.symm,aE]
theorem xr{z:Nat}(hz:z=i)(h:i<L.length)(l:List α)(hk:k=l.length):(jZ b L).set z [.own (i+b) k 0 k]=jZ b (L.set i l):=by
 subst hz hk;apply qC;intro j;by_cases hj:j<L.length
 ·rw[mh rfl (by simpa using hj),N2 h,vo];by_cases e:z=j
  ·subst e;simp[h]
  rw[ab e,mh rfl hj,ab λq=>e q.symm]
 rw[cY<|by simp;omega,cY<|by simp;omega]
@[simp] theorem xz{m:Nat}(h:b+L.length<=m):bg m<|jZ b L:=by
 unfold jZ;rw[Wb];intro j hj;have:=fX.1 hj;simp only[au,aq,and_true];omega
theorem zkB{m:Nat}(hc:∀a,au m<|c a):∀o∈fO ak c L,o.under m:=by
 intro o ho;unfold fO at ho;obtain⟨l,_,rfl⟩:=dq.1 ho;simp only[ao.under,Wb];exact λa _=>hc a
theorem XN(hH:∀i,i<L.length->H[i+b]? = some (.vec true (L.getD i []).length ak<|(L.getD i []).map c)) :
  n4 H (jZ b L) (L.map λl=>[.aM ak<|l.map c]):=by
 have e:(L.map λl=>[D.aM ak<|l.map c])=(List.range L.length).map λj=>[D.aM ak<|(L.getD j []).map c]:=by
  apply qC;intro j;by_cases hj:j<L.length
  ·rw[cU,By hj,cU,qI hj];rfl
  rw[cY<|by simp;omega,cY<|by simp;omega]
 rw[e];unfold jZ;have:∀l:List Nat,(∀j∈l,j<L.length)->n4 H (l.map λj=>[D.own (j+b) (L.getD j []).length 0 (L.getD j []).length]) (l.map λj=>[D.aM ak<|(L.getD j []).map c]):=by
  intro l
  induction l with
  |nil=>intro _;exact .nil
  |cons j r ih =>
   intro hl;refine .cons _ _ _ _ (.cons _ _ _ _ (.own _ _ _ _ _ _ _ _ (hH j<|hl j zs) ?_) .nil)<|ih λk hk=>hl k (by simp[hk]);rw[cx zs];exact iX _
 exact this _ λj hj=>fX.1 hj
theorem CP{S:ay}(hS:∀i,i<L.length->S (i+b))(hH:∀i,i<L.length->H[i+b]? = some (.vec true (L.getD i []).length ak<|(L.getD i []).map c)) :
  jJ S H (jZ b L) (L.map λl=>[.aM ak<|l.map c]):=by
 have e:(L.map λl=>[D.aM ak<|l.map c])=(List.range L.length).map λj=>[D.aM ak<|(L.getD j []).map c]:=by
  apply qC;intro j;by_cases hj:j<L.length
  ·rw[cU,By hj,cU,qI hj];rfl
  rw[cY<|by simp;omega,cY<|by simp;omega]
 rw[e];unfold jZ;have:∀l:List Nat,(∀j∈l,j<L.length)->jJ S H (l.map λj=>[D.own (j+b) (L.getD j []).length 0 (L.getD j []).length]) (l.map λj=>[D.aM ak<|(L.getD j []).map c]):=by
  intro l
  induction l with
  |nil=>intro _;exact .refl _
  |cons j r ih =>
   intro hl;refine .cons _ _ _ _ (.cons _ _ _ _ (.own _ _ _ _ _ _ _ _ (hS j<|hl j zs) (hH j<|hl j zs) ?_) (.refl _))<|ih λk hk=>hl k (by simp[hk]);rw[cx zs];exact .refl _
 exact this _ λj hj=>fX.1 hj
end
theorem Bp{L n:Nat}(id ak k aw:Nat){env:Env}(hL:L<=H.length)(hid:H[id]? = some (.vec true aw 1<|List.replicate k [ax])) :
  St.leB L n env H env (H.set id (.vec true aw 1<|(List.range k).map λj=>[.own (j+H.length) 0 0 0])++List.replicate k (.vec true 0 ak [])):=λJ F a w hr=>by
 have wT:=nI hid;have EI:∀i,H.length<=i->J i=none:=λi hi=>by
  cases e:J i with
  |none=>rfl
  |some s=>have:=hr.dom i (by rw[e];simp);omega
 let J':bf:=λi=>if H.length<=i/\i<H.length+k then some ⟨false,0,none,ak,0,0⟩ else J i
 have hle:J.le J':=λi s hs=>⟨s,by
  have:¬(H.length<=i/\i<H.length+k):=λe=>by rw[EI i e.1] at hs;cases hs
  simp only[J'];rw[ab this];exact hs,aT _,λ_=>rfl⟩
 have hlen:(H.set id (.vec true aw 1<|(List.range k).map λj=>[D.own (j+H.length) 0 0 0])).length=H.length:=tD;have pq:∀i,¬(H.length<=i/\i<H.length+k)->i≠id->(H.set id (.vec true aw 1<|(List.range k).map λj=>[D.own (j+H.length) 0 0 0])++List.replicate k (ao.vec true 0 ak []))[i]? = H[i]?:=λi hi bT=>by
  rcases dY i H.length with q|q
  ·rw[fv<|by rw[hlen];exact q,yw λe=>bT e.symm]
  rw[cY q,cY<|by rw[cq,hlen,A8];omega]
 have o7:∀i,H.length<=i/\i<H.length+k->(H.set id (.vec true aw 1<|(List.range k).map λj=>[D.own (j+H.length) 0 0 0])++List.replicate k (ao.vec true 0 ak []))[i]? = some (.vec true 0 ak []):=λi hi=>by
  rw[gJ<|by rw[hlen];omega,hlen,td,ae zo]
 have Oa:(H.set id (.vec true aw 1<|(List.range k).map λj=>[D.own (j+H.length) 0 0 0])++List.replicate k (ao.vec true 0 ak []))[id]? = some (.vec true aw 1<|(List.range k).map λj=>[D.own (j+H.length) 0 0 0]):=by
  rw[fv<|by rw[hlen];exact wT,Gm wT]
 refine⟨J',F,⟨hr.defers,hr.size,λu=>kq hle (λ_ h=>h) (λ_ _=>rfl) _ _<|hr.tmps u,⟨λi s hs=>?_,λi i' s s' b g1 g2 g3 g4=>?_,λi s b o g1 g2 g3 g4=>?_,hr.ok.lt⟩,λi hi=>?_⟩,λi s hi hs=>?_,λb hb=>hb,λb ⟨i,s,hs,hb⟩=>?_,λb hb=>.inl hb⟩
 ·simp only[J'] at hs;split at hs
  ·rename_i e;cases hs;exact⟨_,o7 i e,rfl,rfl,rfl,rfl,aT _,.inl rfl⟩
  rename_i e;obtain⟨o,h1,h2⟩:=hr.ok.obj i s hs;by_cases e2:i=id
  ·subst e2;have Ez:H[i]? = some o:=h1;rw[hid] at Ez;cases Ez;obtain⟨k1,k2,k3,k4,k5,k6⟩:=h2;refine⟨_,Oa,k1,k2,k3,by rw[k4];simp,k5,?_⟩;rcases k6 with k6|⟨b,o,vals,te,t1,t2,t3,t4,t5⟩
   ·exact .inl k6
   refine .inr ⟨b,o,vals,te,t1,t2,t3,vg _ _ λj x hj=>?_,λq=>by cases q⟩;have FF:j<k:=by
    rcases dY j k with q|q
    ·exact q
    rw[cY<|by simpa using q] at hj;cases hj
   rw[cU,qI FF] at hj;simp only[x5,Option.some.injEq] at hj;subst hj;obtain⟨r1,r2⟩:=vm _ _ j [ax] (by rw[td,ae FF]) t4;refine⟨rfl,rv _ _ λq c hq=>?_⟩
   cases q with
   |zero =>
    simp at hq;subst hq;obtain⟨u,p1,p2,p3⟩:=uj _ _ 0 ax rfl r2;simp only[rep] at p3;refine⟨u,p1,p2,?_⟩;simp only[rep];refine⟨⟨false,0,none,ak,0,0⟩,none,0,0,?_,p3,aT _,λ_=>⟨rfl,aT _,jr _,rfl,rfl,.inl rfl⟩⟩;simp only[J'];rw[ae zo]
   |succ q=>simp at hq
  exact⟨o,by rw[pq i e e2];exact h1,rI hle (λ_ h=>h) (λ_ _=>rfl) (λ_ _=>rfl) h2⟩
 ·simp only[J'] at g1 g2;split at g1
  ·cases g1;simp[Site.c9] at g3
  split at g2
  ·cases g2;simp[Site.c9] at g4
  exact hr.ok.one i i' s s' b g1 g2 g3 g4
 ·simp only[J'] at g1;split at g1
  ·cases g1;simp[Site.c9] at g2
  rename_i e;by_cases e2:i=id
  ·subst e2;exact hr.ok.apart i s b _ g1 g2 hid rfl
  exact hr.ok.apart i s b o g1 g2 (by rw[<-pq i e e2];exact g3) g4
 ·simp only[J'] at hi;rw[cq,hlen,A8];split at hi
  ·omega
  have:=hr.dom i hi;omega
 ·have:¬(H.length<=i/\i<H.length+k):=zo;simp only[J'];rw[ab this];exact hs
 simp only[J'] at hs;split at hs
 ·cases hs;simp[Site.c9] at hb
 exact⟨i,s,hs,hb⟩
variable{α:Type}
theorem Bn(b k:Nat):((List.range k).map λj=>[D.own (j+b) 0 0 0])=jZ b (List.replicate k ([]:List α)):=by
 unfold jZ;rw[A8];refine qY λj hj=>?_;have:=fX.1 hj;rw[aE,td,ae this];rfl
theorem A9(ak k:Nat)(c:α->bh):List.replicate k (ao.vec true 0 ak [])=fO ak c (List.replicate k []):=by
 unfold fO;rw[List.map_replicate];rfl
theorem ln{m:Nat}{G:aF}:∀(l t:aF),(∀o∈l,o.under m)->vZ m G (l++t) l
 |[],t,_=>by cases t<;>exact trivial
 |o::r,t,h=>by
  refine⟨?_,ln r t λo ho=>h o<|by simp[ho]⟩;have:=h o zs
  cases o with
  |row q cs=>exact⟨rfl,.refl _,this⟩
  |vec q v e xs=>exact⟨rfl,rfl,rfl,.refl _,this⟩
  |eU q I=>exact⟨rfl,rfl⟩
variable{m:Nat}
theorem BW{G:aF}:∀l:aF,vZ m G l []
 |[]=>trivial
 |_::_=>trivial
structure ForH(P:bI)(n:Nat)(p:PC)(Q:iZ)(env:Env)(H:aF){ι:Type}(upd:ι->Env)(O:ι->aF)(G:ι->Prop)(m:ι->Nat)(i:ι)(e:Env):Prop where
 fx:G i
 start:s9 env<|upd i
 heap:H=O i
 round:∀j,G j->Er (upd j) e λE=>PWp P n p (Mi H.length n Q (λj=>upd j++e) O G m<|m j) E<|O j
theorem cJ{P:bI}{n:Nat}{p:PC}{Q:iZ}{env:Env}{H:aF}{ι:Type}(kept:List Nat)(upd:ι->Env)(O:ι->aF)(G:ι->Prop)(m:ι->Nat)(i:ι)
  (h:F7 env kept λe=>ForH P n p Q env H upd O G m i e):PWp P n (.loop p) Q env H:=by
 rw[L8] at h;refine wA (λj=>upd j++kept.map λt=>(t,iA t env)) O G m i h.fx (aL (ND _ _ h.start<|Nn _) h.heap) λj hj=>?_;have:=h.round j hj;rwa [Oe] at this
theorem x9{c:α->bh}{l:List α}{x:α}:ao.vec true (l.length+1) ak (List.drop 0 (List.take l.length<|l.map c)++List.drop 0 (List.take 1 [c x]))=ao.vec true (l++[x]).length ak ((l++[x]).map c):=by
 rw[cx zs,cq,jA,nZ];rfl
def okK(b:Bool)(K K2:Prop):Prop:=match b with
 |true=>K
 |false=>K2
variable(x:Nat)
theorem zrN(x y:Nat)(r:List Nat):rD x (y::r)=(decide (x=y)||rD x r):=by
 have e:Nat.beq x y=decide (x=y):=by
  rw[kb,ja];exact⟨CA,λh=>h▸Nat.beq_refl x⟩
 simp only[rD,e];cases decide (x=y)<;>rfl
theorem zuM:rD x []=false:=rfl
theorem zoW(r l:List Nat):meets (x::r) l=(rD x l||meets r l):=by
 simp only[meets];cases rD x l<;>rfl
theorem Yb(l:List Nat):meets [] l=false:=rfl
theorem zzu(b c:Bool):(match b with|true=>c|false=>false)=(b&&c):=by cases b<;>rfl
variable{b:Bool}
theorem zyn{K K2:Prop}(h:b)(k:K):okK b K K2:=by subst h;exact k
section
variable{α:Type}{ak:Nat}{c:α->bh}{L:List<|List α}{T:aF}{K:ao->Prop}{K':aF->Prop}
variable{i:Nat}
theorem wN(h:i<L.length)(k:K (.vec true (L.getD i []).length ak<|(L.getD i []).map c)):ky (fO ak c L++T) i K:=by
 rw[lB];exact⟨_,by rw[fv<|by simpa using h];exact xv h,k⟩
variable(j:Nat)
theorem gL(hi:i=L.length+j)(k:ky T j K):ky (fO ak c L++T) i K:=by
 subst hi;rw[lB] at k⊢;obtain⟨o,h1,h2⟩:=k;exact⟨o,by rw[gJ zs,Fb,Cz];exact h1,h2⟩
variable{o:ao}
theorem yp(l:List α)(h:i<L.length)(ho:o=.vec true l.length ak (l.map c))(k:K'<|fO ak c (L.set i l)++T):pN (fO ak c L++T) i o K':=by
 subst ho;rw[vU];exact⟨by simp;omega,by rw[List.set_append_left _ _<|by simpa using h,Rw];exact k⟩
theorem gN(hi:i=L.length+j)(k:pN T j o λT'=>K'<|fO ak c L++T'):pN (fO ak c L++T) i o K':=by
 subst hi;rw[vU] at k⊢;exact⟨by rw[cq,Fb];omega,by
  rw[List.set_append_right _ _ zs,Fb,Cz];exact k.2⟩
theorem yq{K:aF->Nat->Prop}(k:K (fO ak c L++[o]) L.length):tU (fO ak c L) o K:=by
 rw[xX,Fb];exact k
theorem M8{K:aF->Nat->Prop}(k:K (fO ak c L++(T++[o]))<|L.length+T.length):tU (fO ak c L++T) o K:=by
 rw[xX,cq,Fb,gy];exact k
theorem wL{G:aF}(hc:∀a,au m<|c a):vZ m G (fO ak c L++T)<|fO ak c L:=ln _ _<|zkB hc
end
def l6(n:Int):bh:=[aa n]
@[simp] theorem GN(n:Int):au m<|l6 n:=by simp[l6,au,aq]
@[simp] theorem tV(L:aj):fc<|L.map λl=>[aO l]:=db _ (λl=>by simp[an,cG]) L
def bx(l:ah)(n:Nat):Bool:=l.all λx=>decide (0<=x)&&decide (x<(n:Int))
variable{l:ah}{n:Nat}
theorem zxL(h:bx l n)(hk:k<l.length):0<=l[k]/\l[k]<(n:Int):=by
 have:=ki.1 h _<|ib hk;simpa using this
theorem KY(l:ah)(n:Nat):(l.any λx=>decide (x<0)||decide (x>=(n:Int)))=!(bx l n):=by
 unfold bx
 induction l with
 |nil=>rfl
 |cons x r ih =>
  simp only[C6,List.all_cons,ih];rw[Bool.not_and]
  congr 1
  rw[kb];simp only[qX,ja,B9,IT,zf];omega
theorem Lp{p:α->Bool}{l:List α}(h:∀j (hj:j<l.length),p l[j]=false):l.any p=false:=by
 rw[pd];intro x hx;obtain⟨j,hj,rfl⟩:=jN.1 hx;simp[h j hj]
theorem LO{p:α->Bool}{l:List α}(hk:k<l.length)(h:p l[k]):l.any p:=kJ.2 ⟨_,ib hk,h⟩
theorem PF{p:α->Bool}{l:List α}(hk:k<l.length)(h:p l[k]=false):l.all p=false:=by
 rw[<-oL,ki];exact λq=>by simp[q _<|ib hk] at h
theorem zxd{p:α->Bool}{l:List α}(h:∀j (hj:j<l.length),p l[j]):l.all p:=by
 rw[ki];intro x hx;obtain⟨j,hj,rfl⟩:=jN.1 hx;exact h j hj
variable{g:aj}{z:Nat}
theorem OX(hz:z=k)(h:k<g.length):(g.map λl=>[aO l])[z]? = some [aO g[k]]:=yL (c:=aO) hz h
theorem ints_at(hz:z=k)(h:k<l.length):(l.map λn=>[aa n])[z]? = some [.sc (.int .i64 l[k])]:=yL (c:=λn=>aa n) hz h
theorem zyJ(l:ah)(hl:l.length<=9223372036854775807)(n:Nat):ar ai 157 [aO l,aa n]<|aD<|bx l n:=by
 refine bK fZ ?_;unfold aO;refine sR ?_;have fin:∀{b:Bool},b=bx l n->Deep [] (aD b) (aD<|bx l n):=λh=>h▸.refl _;refine bt [0,1] (λk:Nat=>[(5,aa k)]) (λ_=>[]) (λk=>k<=l.length/\∀j (hj:j<k) (hl:j<l.length),0<=l[j]/\l[j]<(n:Int)) (λk=>l.length-k) 0 ?_;refine sW ?_;refine⟨⟨zo,λj hj=>zo⟩,by exact sK,rfl,?_⟩;rintro k ⟨hk,bR⟩;refine c6 ?_;rw[aK];refine sS (λh=>?_) λh=>?_
 ·have al:k<l.length:=sO;refine sL (ints_at (k:=k) zo al) ?_;refine sS (λh1=>?_) λh1=>?_
  ·exact fin (PF al<|sO).symm
  refine sL (ints_at (k:=k) zo al) ?_;refine sS (λh2=>?_) λh2=>?_
  ·exact fin (PF al<|sO).symm
  refine sI ?_;refine⟨k+1,⟨zo,λj hj hl=>?_⟩,zd,aL (by exact sK) rfl⟩;by_cases e:j=k
  ·subst e;exact sO
  exact bR j zo hl
 have al:¬k<l.length:=sO;exact fin (zxd λj hj=>by have:=bR j zo hj;simpa using this).symm
def ph(g:aj):Int:=if 20000<g.length then 2 else if (g.any λl=>!(bx l g.length))=true then 1 else 0
theorem AE:ph g=0↔g.length<=20000/\∀l∈g,bx l g.length:=by
 unfold ph;split
 ·constructor
  ·intro h;exact absurd h zc
  intro h;omega
 split
 ·rename_i h;rw[kJ] at h;obtain⟨l,h1,h2⟩:=h;constructor
  ·intro h;exact absurd h zc
  intro h;rw[h.2 l h1] at h2;cases h2
 rename_i h1 h;rw[oL,pd] at h;exact⟨λ_=>⟨zo,λl hl=>by simpa using h l hl⟩,λ_=>rfl⟩
structure jH(g:aj):Prop where
 len:g.length<=17592186043904
 each:∀l∈g,l.length<=17592186043904
theorem jH.at(h:jH g)(i:Nat):(g.getD i []).length<=17592186043904:=by
 rw[aE]
 cases e:g[i]? with
 |none=>simp
 |some l=>exact h.each l<|nB e
theorem iL(hz:z=k)(h:k<g.length):(g.map λl=>[aO l])[z]? = some [aO<|g.getD k []]:=by
 subst hz;rw[cU,By h];rfl
theorem cA(hz:z=k)(h:k<l.length):(l.map λn=>[aa n])[z]? = some [aa<|l.getD k 0]:=by
 rw[ints_at hz h,aE,aJ h];rfl
theorem Wv(h:bx l n)(hk:k<l.length):0<=l.getD k 0/\l.getD k 0<(n:Int):=by
 rw[aE,aJ hk];exact zxL h hk
theorem gY(h:∀l∈g,bx l n)(k:Nat):bx (g.getD k []) n:=by
 rw[aE]
 cases e:g[k]? with
 |none=>rfl
 |some l=>exact h l<|nB e
variable(g:aj)
theorem zun(x:Int):ar ai 288 [aa x,.aB [bY g]]<|aD<|decide (x<0)||decide (x>=(g.length:Int)):=by
 refine bK fZ ?_;refine sRS (λh=>?_) λh=>?_
 ·exact cd zs
 rw[aK];exact cd zs
theorem Xd(l:ah)(hl:l.length<=9223372036854775807):ar ai 246 [bY g,aO l] (.sc (.bool !(bx l g.length))):=by
 refine bL ?_;refine sN (mC (λn=>aa n) (λa=>by simp[Pure]) l hl (λx=>decide (x<0)||decide (x>=(g.length:Int))) 288 [.aB [bY g]] (by simp[an,Pure,mj]) λa _=>zun g a) ?_;rw[KY];exact .refl _
theorem P3(hg:jH g):ar ai 177 [bY g]<|aa<|ph g:=by
 have b1:=hg.len;refine bK fZ ?_;unfold bY;refine sR ?_;rw[aK];have fin:∀{H:aF} {z:Int},z=ph g->Deep H (aa z) (aa<|ph g):=λh=>h▸.refl _;refine sS (λh1=>?_) λh1=>?_
 ·exact fin<|by unfold ph;rw[ae<|sO]
 have h1:¬20000<g.length:=sO;rw[aK];refine bt [0,8,9] (λk:Nat=>[(10,aa k)]) (λ_=>[]) (λk=>k<=g.length/\∀j (hj:j<k) (hl:j<g.length),(!(bx g[j] g.length))=false) (λk=>g.length-k) 0 ?_;refine sW ?_;refine⟨⟨zo,λj hj=>zo⟩,by exact sK,rfl,?_⟩;rintro k ⟨hk,bR⟩;refine br (λh2=>?_) λh2=>?_
 ·have al:k<g.length:=sO;refine sL (OX (k:=k) zo al) ?_;refine sC (Xd g g[k]<|by have:=hg.each _<|ib al;omega) ?_;refine sS (λh3=>?_) λh3=>?_
  ·exact fin<|by unfold ph;rw[ab h1,ae<|LO al h3]
  refine sI ?_;refine⟨k+1,⟨zo,λj hj hl=>?_⟩,zd,aL (by exact sK) rfl⟩;by_cases e:j=k
  ·subst e;exact h3
  exact bR j zo hl
 have al:¬k<g.length:=sO;exact fin<|by unfold ph;rw[ab h1,ab<|by rw[Lp λj hj=>bR j zo hj];simp]
def j4(f:Nat->Nat):Nat->Nat
 |0=>0
 |n+1=>j4 f n+f n
theorem SC{f f':Nat->Nat}:∀n,(∀j,j<n->f j=f' j)->j4 f n=j4 f' n
 |0,_=>rfl
 |n+1,h=>by simp only[j4];rw[SC n λj hj=>h j<|by omega,h n<|by omega]
theorem Il{f f':Nat->Nat}{i:Nat}:∀n,i<n->(∀j,j<n->j≠i->f' j=f j)->j4 f' n+f i=j4 f n+f' i
 |0,h,_=>by omega
 |n+1,h,k=>by
  simp only[j4];by_cases e:i=n
  ·subst e;rw[SC i λj hj=>k j (by omega)<|by omega];omega
  have:=Il n (by omega) λj hj bT=>k j (by omega) bT;rw[k n (by omega) λq=>e q.symm];omega
theorem KD{f f':Nat->Nat}:∀n,(∀j,j<n->f j<=f' j)->j4 f n<=j4 f' n
 |0,_=>aT _
 |n+1,h=>by simp only[j4];have:=KD n λj hj=>h j (by omega);have:=h n (by omega);omega
theorem U7{f f':Nat->Nat}{i:Nat}:∀n,i<n->(∀j,j<n->f j<=f' j)->f i<f' i->j4 f n<j4 f' n
 |0,h,_,_=>by omega
 |n+1,h,k,q=>by
  simp only[j4];have:=k n (by omega);by_cases e:i=n
  ·subst e;have:=KD i λj hj=>k j (by omega);omega
  have:=U7 n (by omega) (λj hj=>k j<|by omega) q;omega
def dH(s:ay)(n:Nat):Nat:=j4 (λi=>if s i then 0 else 1) n
theorem yj(s:ay):∀n,dH s n<=n
 |0=>aT _
 |n+1=>by unfold dH;simp only[j4];have:=yj s n;unfold dH at this;split<;>omega
variable{s s':ay}
theorem DF(h:∀j,j<n->s j->s' j):dH s' n<=dH s n:=KD n λj hj=>by
 cases e:s j with
 |true=>simp[h j hj e]
 |false=>split<;>simp
variable{i:Nat}
theorem oS(hi:i<n)(h:∀j,j<n->s j->s' j)(h1:s i=false)(h2:s' i):dH s' n<dH s n:=U7 n hi (λj hj=>by
 cases e:s j with
 |true=>simp[h j hj e]
 |false=>split<;>simp) (by simp[h1,h2])
def mark(s:ay)(v:Nat):Nat->Bool:=λi=>if i=v then true else s i
@[simp] theorem lq(s:ay)(v:Nat):mark s v v=true:=by simp[mark]
variable{v:Nat}
theorem zxj(h:i≠v):mark s v i=s i:=by simp[mark,h]
theorem gg(h:s i):mark s v i:=by unfold mark;split<;>simp[h]
theorem oE:mark s v i↔i=v\/s i:=by
 unfold mark;split
 ·rename_i h;simp[h]
 rename_i h;simp[h]
inductive gW(g:aj)(from_:ah):Nat->Prop
 |base {x:Int} (h:x∈from_):gW g from_ x.toNat
 |step {u:Nat} {x:Int} (h:gW g from_ u) (k:x∈g.getD u []):gW g from_ x.toNat
variable{g:aj}{from_:ah}
theorem Pl(h0:∀x∈from_,s x.toNat)(h1:∀v,s v->∀x∈g.getD v [],s x.toNat):∀v,gW g from_ v->s v:=by
 intro v h
 induction h with
 |base h=>exact h0 _ h
 |step _ k ih=>exact h1 _ ih _ k
open Classical in
noncomputable def nE(g:aj)(from_:ah)(v:Nat):Bool:=decide (gW g from_ v)
theorem ry:nE g from_ v↔gW g from_ v:=by unfold nE;simp
theorem Sm(h:s v↔gW g from_ v):s v=nE g from_ v:=by
 rw[kb,h,ry]
theorem dP(h:k<l.length):l.getD k 0∈l:=by
 rw[aE,aJ h];exact ib h
variable{x:Int}
theorem s7(h:x∈l):∃k,k<l.length/\l.getD k 0=x:=by
 obtain⟨k,hk,rfl⟩:=jN.1 h;exact⟨k,hk,by rw[aE,aJ hk];rfl⟩
def tm(g:aj)(s:ay):Nat:=j4 (λv=>if s v then 0 else (g.getD v []).length) g.length
theorem TP(hv:v<g.length)(h:s v=false):tm g (mark s v)+(g.getD v []).length=tm g s:=by
 have:=Il (f:=λv=>if s v then 0 else (g.getD v []).length) (f':=λw=>if mark s v w then 0 else (g.getD w []).length) g.length hv λj _ bT=>by rw[zxj bT]
 unfold tm;simp only[lq,h,if_true,xA,if_false] at this;omega
def bV(n:Nat)(g:ay):fE:=(List.range n).map λi=>[aD<|g i]
def bD(n:Nat)(g:ay):D:=.aM 1<|bV n g
@[simp] theorem NX(n:Nat)(g:ay):(bV n g).length=n:=by simp[bV]
variable{g:ay}
theorem FA(h:i<n):(bV n g)[i]? = some [aD<|g i]:=by
 simp[bV,cU,qI h]
theorem bj(i:Nat)(hz:z=i)(h:i<n):(bV n g)[z]? = some [aD<|g i]:=by
 subst hz;exact FA h
variable{g':ay}
theorem jS(h:∀i,i<n->g i=g' i):bV n g=bV n g':=by
 unfold bV;exact qY λi hi=>by rw[h i<|fX.1 hi]
variable(n:Nat)
theorem pI(g:ay)(k:Nat)(v:Bool):(bV n g).set k [aD v]=bV n (λi=>if i=k then v else g i):=by
 apply qC;intro i;by_cases hi:i<n
 ·by_cases hk:i=k
  ·subst hk;rw[Gm<|by simpa using hi,FA hi];simp
  rw[yw λe=>hk e.symm,FA hi,FA hi];simp[hk]
 rw[cY<|by simp;omega,cY<|by simp;omega]
theorem lS:List.replicate n [aD false]=bV n (λ_=>false):=by
 apply qC;intro i;by_cases hi:i<n
 ·rw[FA hi,td,ae hi]
 rw[cY<|by simp;omega,cY<|by simp;omega]
@[simp] theorem tW(g:ay):fc<|bV n g:=db _ (λi=>by simp[an,Pure]) _
@[simp] theorem jk(g:ay):Pure<|bD n g:=by simp only[bD,Pure];exact tW n g
theorem Fy(g:ay):List.drop 0 (List.take n<|bV n g)=bV n g:=by rw[fQ,jd zs]
variable{n:Nat}
theorem QQ(h:∀i,i<n->g i=g' i):bD n g=bD n g':=by unfold bD;rw[jS h]
theorem s5{id:Nat}{q:Bool}(h:H[id]? = some (.vec q v 1<|bV n g)):Deep H (.own id v 0 n)<|bD n g:=.own _ _ _ _ _ _ _ _ h<|by rw[Fy];exact iX _
@[simp] theorem zxY(g:ay):bg m (bV n g)↔True:=⟨λ_=>trivial,λ_=>aV _<|tW n g⟩
@[simp] theorem zzS(g:ay):aq m (bD n g)↔True:=⟨λ_=>trivial,λ_=>bw _<|jk n g⟩
theorem Xx(n:Nat)(g:ay):bV n g=((List.range n).map g).map λa=>[aD a]:=by simp[bV]
theorem Ti(n:Nat)(g:ay)(hn:n<=9223372036854775807)(b:Bool):ar ai 158 [bD n g,aD b]<|aD<|((List.range n).map g).contains b:=by
 have:=Zn ((List.range n).map g) (by simpa using hn) b;rwa [<-Xx] at this
theorem HW:((List.range n).map g).contains b↔∃i,i<n/\g i=b:=by
 simp[po,dq]
theorem qE(hz:z=v):(bV n s).set z [aD true]=bV n (mark s v):=by
 subst hz;rw[pI];rfl
structure sY(g:aj)(from_:ah)(B:Nat)(s:ay)(T:ah):Prop where
 todo:bx T g.length=true
 comes:∀x∈T,gW g from_ x.toNat
 seen:∀v,s v->gW g from_ v
 start:∀x∈from_,s x.toNat\/x∈T
 closed:∀v,s v->∀x∈g.getD v [],s x.toNat\/x∈T
 room:T.length+tm g s<=B
theorem cZ(h:bx l n)(hx:x∈l):0<=x/\x<(n:Int):=by
 have:=ki.1 h x hx;simpa using this
theorem kG(h:∀x∈l,0<=x/\x<(n:Int)):bx l n:=by
 unfold bx;rw[ki];intro x hx;simpa using h x hx
variable{g:aj}{B:Nat}{T:ah}
theorem sY.pop(h:sY g from_ B s<|T++[x])(hs:s x.toNat):sY g from_ B s T where
 todo:=kG λy hy=>cZ h.todo<|by simp[hy]
 comes y hy:=h.comes y<|by simp[hy]
 seen:=h.seen
 start y hy:=by
  rcases h.start y hy with q|q
  ·exact .inl q
  rcases dt.1 q with q|q
  ·exact .inr q
  rw[cB] at q;subst q;exact .inl hs
 closed v hv y hy:=by
  rcases h.closed v hv y hy with q|q
  ·exact .inl q
  rcases dt.1 q with q|q
  ·exact .inr q
  rw[cB] at q;subst q;exact .inl hs
 room:=by have:=h.room;rw[cq] at this;omega
theorem sY.push(hg:∀l∈g,bx l g.length)(h:sY g from_ B s<|T++[x])(hs:s x.toNat=false):sY g from_ B (mark s x.toNat) (T++g.getD x.toNat []) where
 todo:=kG λy hy=>by
  rcases dt.1 hy with q|q
  ·exact cZ h.todo<|by simp[q]
  exact cZ (gY hg _) q
 comes y hy:=by
  rcases dt.1 hy with q|q
  ·exact h.comes y<|by simp[q]
  exact .step (h.comes x zs) q
 seen v hv:=by
  rcases oE.1 hv with q|q
  ·subst q;exact h.comes x zs
  exact h.seen v q
 start y hy:=by
  rcases h.start y hy with q|q
  ·exact .inl<|gg q
  rcases dt.1 q with q|q
  ·exact .inr<|by simp[q]
  rw[cB] at q;subst q;exact .inl<|lq _ _
 closed v hv y hy:=by
  rcases oE.1 hv with q|q
  ·subst q;exact .inr<|yN _ hy
  rcases h.closed v q y hy with q|q
  ·exact .inl<|gg q
  rcases dt.1 q with q|q
  ·exact .inr<|by simp[q]
  rw[cB] at q;subst q;exact .inl<|lq _ _
 room:=by
  have h1:=h.room;have h2:=cZ h.todo (x:=x) zs;have h3:=TP (g:=g) (v:=x.toNat) zo hs;rw[cq] at h1⊢;simp only[bH,bU] at h1;omega
theorem sY.done(h:sY g from_ B s [])(v:Nat):s v=nE g from_ v:=Sm ⟨h.seen v,Pl (λx hx=>(h.start x hx).resolve_right zs) (λv hv x hx=>(h.closed v hv x hx).resolve_right zs) v⟩
theorem sY.begin(hf:bx from_ g.length)(hB:from_.length+tm g (λ_=>false)<=B):sY g from_ B (λ_=>false) from_ where
 todo:=hf
 comes _ hx:=.base hx
 seen v h:=by cases h
 start _ hx:=.inr hx
 closed v h:=by cases h
 room:=hB
def aA(l:ah):fE:=l.map λn=>[aa n]
@[simp] theorem zwd(l:ah):bg m (aA l)↔True:=by simp[aA,au,aq]
variable{h:Nat}
theorem zum{Z:ah}(hz:z=h):List.drop (0+0) (List.take z<|aA Z)++l.map (λn=>[aa n])=aA (Z.take h++l):=by
 subst hz;unfold aA;rw[lZ,fQ,nZ,List.map_take]
theorem zsT(h1:1<=h)(h2:h<=l.length):l.take h=l.take (h-1)++[l.getD (h-1) 0]:=by
 obtain⟨k,rfl⟩:∃k,h=k+1:=⟨h-1,zo⟩;rw[lI,aJ zo,Nat.add_sub_cancel,aE,aJ zo];rfl
variable(g:aj)
theorem zsz(hg:ph g=0)(hF:jH g)(from_:ah)(hf:bx from_ g.length)(hB:from_.length+tm g (λ_=>false)<=1000000000000) :
  ar ai 247 [bY g,aO from_] (bD g.length<|nE g from_):=by
 obtain⟨hn,bp⟩:=AE.1 hg;refine bK fZ ?_;unfold bY;refine sR ?_;rw[aK];refine⟨zo,zo,zo,?_⟩;rw[bQ];refine sW ?_;refine sE (ri (MC from_ zo) (by simp[an,Pure]) [1] rfl rfl (by simp[ao.aQ,bP,D.aQ];rfl)) ?_
 refine bt [0,5] (λ((s,Z,h,aw):ay×ah×Nat×Nat)=>[(6,.own 1 aw 0 h)]) (λ(s,Z,h,aw)=>[(0,.vec true 0 1<|bV g.length s),(1,.vec true aw 1<|aA Z)])
  (λ(s,Z,h,aw)=>h<=Z.length/\sY g from_ 1000000000000 s (Z.take h)) (λ(s,Z,h,aw)=>h+tm g s) ((λ_=>false),from_,from_.length,1) ?_
 refine sW ?_;refine⟨⟨zs,by rw[eZ];exact sY.begin hf hB⟩,by exact sK,by rw[lS];rfl,?_⟩;rintro⟨s,Z,h,aw⟩ ⟨hh,hI⟩;refine br (λh1=>?_) λh1=>?_
 ·have h1:1<=h:=sO;rw[zsT h1 hh] at hI;have hx:=cZ hI.todo (x:=Z.getD (h-1) 0) zs;have room:=hI.room;rw[cq,gA] at room;refine sIB ?_;refine⟨_,cA (l:=Z) (k:=h-1) zo zo,?_⟩;refine sW ?_;generalize hv:Z.getD (h-1) 0=x at hx hI;refine sI ?_;refine⟨zo,zo,zo,?_⟩;refine bE ?_;refine⟨_,bj x.toNat zo zo,?_⟩;refine sW ?_;cases hs:s x.toNat
  ·refine bE ?_;refine⟨_,bj x.toNat zo zo,?_⟩;refine sW ?_;refine sL (iL (k:=x.toNat) zo zo) ?_;have lx:=hF.at x.toNat;have key:=TP (g:=g) (s:=s) (v:=x.toNat) zo hs;have hP:=hI.push bp hs;refine sJ ?_;refine⟨(mark s x.toNat,Z.take (h-1)++g.getD x.toNat [],(h-1)+(g.getD x.toNat []).length,aw+1),⟨by simp;omega,?_⟩,?_,?_⟩
   ·rw[jd<|by simp;omega];exact hP
   ·dsimp only;omega
   refine aL ⟨bJ (D.own 1 (aw+1) 0)<|by simp only[aK];omega,by exact sK⟩ ?_;rw[qE (v:=x.toNat) zo,zum (h:=h-1) zo];rfl
  refine sW ?_;refine⟨(s,Z,h-1,aw),⟨zo,hI.pop hs⟩,zd,?_⟩;exact aL ⟨bJ (D.own 1 aw 0) zo,by exact sK⟩ rfl
 have h0:h=0:=sO;subst h0;rw[r7] at hI;rw[jS (g':=nE g from_) λi _=>hI.done i];exact s5 rfl
theorem O8(hg:ph g=0)(hF:jH g)(from_:ah)(hf:bx from_ g.length)(hB:from_.length+tm g (λ_=>false)<=1000000000000) :
  ar ai 167 [bY g,aO from_] (.aI [bD g.length<|nE g from_,aa 0]):=by
 refine bL ?_;refine sC (P3 g hF) ?_;refine sS (λh1=>?_) λh1=>?_
 ·exfalso;exact sO
 refine sC (Xd g from_ zo) ?_;rw[hf];refine sW ?_;refine sC (zsz g hg hF from_ hf hB) ?_;exact .refl _
structure af where
 nodes:List<|aX×Int
 aG:List<|Int×Int
namespace af
def name(P:af)(i:Nat):aX:=(P.nodes.getD i (⟨#[]⟩,0)).1
def kind(P:af)(i:Nat):Int:=(P.nodes.getD i (⟨#[]⟩,0)).2
def src(P:af)(i:Nat):Int:=(P.aG.getD i (0,0)).1
def dst(P:af)(i:Nat):Int:=(P.aG.getD i (0,0)).2
def my(P:af)(i:Nat):Int :=
 if iQ (P.name i)=false\/P.kind i<1\/7<P.kind i then 1
 else if (List.range i).any (λk=>ff (P.name k)<|P.name i)=true then 4 else 0
def yg(f:Nat->Int):Nat->Int
 |0=>0
 |n+1=>if yg f n≠0 then yg f n else f n
theorem Dy{f:Nat->Int}:∀{n:Nat},yg f n=0↔∀i,i<n->f i=0
 |0=>⟨λ_ i h=>zo,λ_=>rfl⟩
 |n+1=>by
  simp only[yg];constructor
  ·intro h;split at h
   ·exact absurd h<|by assumption
   rename_i q;have q:=Classical.not_not.1 q;intro i hi;by_cases e:i=n
   ·subst e;exact h
   exact Dy.1 q i zo
  intro h;have:yg f n=0:=Dy.2 λi hi=>h i zo;rw[ab<|by simp[this]];exact h n zo
theorem Nu{f:Nat->Int}{k:Nat}:∀{n:Nat},k<n->(∀i,i<k->f i=0)->f k≠0->yg f n=f k
 |0,h,_,_=>zo
 |n+1,h,h1,h2=>by
  simp only[yg];by_cases e:k=n
  ·subst e;rw[ab<|by simp[Dy.2 h1]]
  rw[Nu (n:=n) zo h1 h2,ae h2]
def wD(P:af):Int:=yg P.my P.nodes.length
def pick(p:ay):Nat->ah
 |0=>[]
 |n+1=>if p n then pick p n++[(n:Int)] else pick p n
theorem C3{p:ay}{x:Int}:∀{n:Nat},x∈pick p n↔∃i,i<n/\p i/\x=(i:Int)
 |0=>by simp[pick]
 |n+1=>by
  simp only[pick];split
  ·rename_i h;rw[dt,C3,cB];constructor
   ·rintro(⟨i,h1,h2,h3⟩|h1)
    ·exact⟨i,zo,h2,h3⟩
    exact⟨n,zo,h,h1⟩
   rintro⟨i,h1,h2,h3⟩;by_cases e:i=n
   ·subst e;exact .inr h3
   exact .inl ⟨i,zo,h2,h3⟩
  rename_i h;rw[C3];constructor
  ·rintro⟨i,h1,h2,h3⟩;exact⟨i,zo,h2,h3⟩
  rintro⟨i,h1,h2,h3⟩;refine⟨i,?_,h2,h3⟩;by_cases e:i=n
  ·subst e;exact absurd h2 h
  omega
theorem Lh(p:ay):∀n,(pick p n).length<=n
 |0=>by simp[pick]
 |n+1=>by simp only[pick];have:=Lh p n;split<;>simp<;>omega
def bC(P:af)(v:Int):ah:=pick (λi=>P.dst i==v) P.aG.length
def cn(P:af)(v:Int):ah:=pick (λi=>P.src i==v) P.aG.length
variable(P:af)
theorem Au(v:Int):(P.bC v).length<=P.aG.length:=Lh _ _
theorem AN(v:Int):(P.cn v).length<=P.aG.length:=Lh _ _
def oj(P:af)(i:Nat):Bool:=decide (0<=P.src i)&&decide (P.src i<P.nodes.length)&&decide (0<=P.dst i)&&decide (P.dst i<P.nodes.length)
def mA(P:af):Nat->Int
 |0=>0
 |n+1=>if P.kind n=1 then P.mA n+1 else P.mA n
def kR(P:af):Nat->Int
 |0=>-1
 |n+1=>if P.kind n=1 then (n:Int) else P.kR n
theorem My(P:af):∀n,0<=P.mA n/\P.mA n<=n
 |0=>by simp[mA]
 |n+1=>by simp only[mA];have:=My P n;split<;>omega
theorem Oq(P:af):∀n,0<P.mA n->0<=P.kR n/\P.kR n<n
 |0,h=>by simp[mA] at h
 |n+1,h=>by
  simp only[mA,kR] at h⊢;split
  ·omega
  rename_i e;rw[ab e] at h;have:=Oq P n h;omega
def AQ(k i o:Int):Bool :=
 if k=1 then i==0&&o==1
 else if k=2\/k=3 then decide (i>0)&&o==0
 else if k=4 then decide (i>0)&&o==1
 else if k=7 then decide (o<=4)&&(decide (i>0)&&decide (o>0))
 else if k=5\/k=6 then decide (i>0)&&decide (o>0)
 else false
def ou(P:af)(i:Nat):Bool:=AQ (P.kind i) (P.bC i).length (P.cn i).length
def graph(P:af):Nat->aj
 |0=>List.replicate P.nodes.length []
 |k+1=>(P.graph k).set (P.src k).toNat<|(P.graph k).getD (P.src k).toNat []++[P.dst k]
theorem zV(P:af):∀k,(P.graph k).length=P.nodes.length
 |0=>by simp[graph]
 |k+1=>by simp only[graph,tD];exact zV P k
theorem S9{L:List α}{d l:α}(h:i<L.length):(L.set i l).getD j d=if j=i then l else L.getD j d:=by
 rw[aE,vo];by_cases e:i=j
 ·subst e;simp[h]
 rw[ab e,ab λq=>e q.symm,aE]
theorem x3{P:af}:P.oj i↔0<=P.src i/\P.src i<P.nodes.length/\0<=P.dst i/\P.dst i<P.nodes.length:=by
 unfold oj;simp only[fY,ja];omega
theorem GO{P:af}{u:Nat}{x:Int}:∀{k:Nat},(∀i,i<k->P.oj i)->(x∈(P.graph k).getD u []↔∃i,i<k/\P.src i=u/\P.dst i=x)
 |0,_=>by
  simp only[graph];rw[aE,td];constructor
  ·intro h;split at h<;>simp at h
  rintro⟨i,h,_⟩;omega
 |k+1,hf=>by
  have ih:=GO (P:=P) (u:=u) (x:=x) (k:=k) λi hi=>hf i zo;have hk:=x3.1<|hf k zo;simp only[graph];rw[S9<|by rw[zV];omega];split
  ·rename_i e;subst e;rw[dt,ih,cB];constructor
   ·rintro(⟨i,h1,h2,h3⟩|h)
    ·exact⟨i,zo,h2,h3⟩
    exact⟨k,zo,zo,h.symm⟩
   rintro⟨i,h1,h2,h3⟩;by_cases e:i=k
   ·subst e;exact .inr h3.symm
   exact .inl ⟨i,zo,h2,h3⟩
  rename_i e;rw[ih];constructor
  ·rintro⟨i,h1,h2,h3⟩;exact⟨i,zo,h2,h3⟩
  rintro⟨i,h1,h2,h3⟩;refine⟨i,?_,h2,h3⟩;by_cases q:i=k
  ·subst q;omega
  omega
theorem Gp(P:af):∀(k u:Nat),(P.graph k).getD u []=(P.graph k).getD u []/\((P.graph k).getD u []).length<=k
 |0,u=>⟨rfl,by
  simp only[graph];rw[aE,td];split<;>simp⟩
 |k+1,u=>⟨rfl,by
  have h1:=(Gp P k u).2;have h2:=(Gp P k (P.src k).toNat).2;simp only[graph];by_cases q:(P.src k).toNat<(P.graph k).length
  ·rw[S9 q];split
   ·rw[cq,jA];omega
   omega
  rw[List.set_eq_of_length_le zo];omega⟩
def CH(P:af)(v:Nat):Prop:=gW (P.graph P.aG.length) [P.kR P.nodes.length] v
open Classical in
noncomputable def aS(P:af):Int :=
 if 20<P.nodes.length\/30<P.aG.length then 2
 else if P.wD≠0 then P.wD
 else if ¬∀i,i<P.aG.length->P.oj i=true then 1
 else if P.mA P.nodes.length≠1 then 1
 else if ¬∀i,i<P.nodes.length->P.ou i=true then 1
 else if ¬∀v,v<P.nodes.length->P.CH v then 6
 else 0
end af
section
def ke(x:aX×Int):bh:=[.sc (.string x.1),aa x.2]
def oC(x:Int×Int):bh:=[aa x.1,aa x.2]
def af.cells(P:af):bh:=[.aM 2<|P.nodes.map ke,.aM 2<|P.aG.map oC]
def cm(P:af):D:=.agg P.cells
@[simp] theorem D4(x:aX×Int):an<|ke x:=by simp[ke,an,Pure]
variable(x:Int×Int)
@[simp] theorem UK:an<|oC x:=by simp[oC,an,Pure]
variable(P:af)
@[simp] theorem L1:an P.cells:=by simp[af.cells,an,Pure,D4,UK]
@[simp] theorem sr:Pure<|cm P:=by simp[cm,Pure,L1]
@[simp] theorem zyl:au m P.cells↔True:=⟨λ_=>trivial,λ_=>bu _<|L1 P⟩
@[simp] theorem zyi(x:aX×Int):au m (ke x)↔True:=⟨λ_=>trivial,λ_=>bu _<|D4 x⟩
@[simp] theorem zxW:au m (oC x)↔True:=⟨λ_=>trivial,λ_=>bu _<|UK x⟩
theorem ka(hz:z=k)(h:k<P.nodes.length):(P.nodes.map ke)[z]? = some [.sc (.string<|P.name k),aa<|P.kind k]:=by
 subst hz;rw[cU,aJ h];unfold af.name af.kind;rw[aE,aJ h];rfl
theorem oz(hz:z=k)(h:k<P.aG.length):(P.aG.map oC)[z]? = some [aa<|P.src k,aa<|P.dst k]:=by
 subst hz;rw[cU,aJ h];unfold af.src af.dst;rw[aE,aJ h];rfl
structure af.Fits(P:af):Prop where
 nodes:P.nodes.length<=9223372036854775807
 aG:P.aG.length<=9223372036854775807
 name:∀x∈P.nodes,x.1.size<=9223372036854775807
theorem af.Fits.at{P:af}(h:P.Fits)(hi:i<P.nodes.length):(P.name i).size<=9223372036854775807:=by
 unfold af.name;rw[aE,aJ hi];exact h.name _<|ib hi
theorem nk{c:Nat}{x:Int}(h:c=l.length):List.drop 0 (List.take c<|aA l)++[[aa x]]=aA (l++[x]):=by
 subst h;rw[cx<|by simp[aA]];simp[aA]
theorem oJ{id:Nat}{q:Bool}(hn:n=l.length)(h:H[id]? = some (.vec q v 1<|aA l)):Deep H (.own id v 0 n)<|aO l:=by
 subst hn;exact .own _ _ _ _ _ _ _ _ h<|by rw[cx<|by simp[aA]];exact iX _
theorem WB(hP:P.Fits)(hf:P.aG.length<=1000)(v:Int):ar ai 165 [cm P,aa v]<|aO<|P.bC v:=by
 have b:=hP.aG;refine bL ?_;rw[aK];refine b8 (fL 5 1 zs rfl) ?_;refine bt [1,9,10] (λ((k,c,l):Nat×Nat×ah)=>[(5,.own 1 c 0 c),(11,aa k)]) (λ(k,c,l)=>[(1,.vec true c 1<|aA l)]) (λ(k,c,l)=>k<=P.aG.length/\c=l.length/\c<=k/\l=af.pick (λi=>P.dst i==v) k) (λ(k,c,l)=>P.aG.length-k) (0,0,[]) ?_;refine sW ?_;refine⟨⟨zo,rfl,zo,rfl⟩,by exact sK,rfl,?_⟩;rintro⟨k,c,l⟩ ⟨hk,hc,ow,hl⟩;refine br (λh=>?_) λh=>?_
 ·have al:k<P.aG.length:=sO;refine sL (oz P (k:=k) zo al) ?_;refine sS (λh2=>?_) λh2=>?_
  ·refine fA ?_;refine⟨(k+1,c+1,l++[(k:Int)]),⟨zo,by simp[hc],zo,by rw[hl];simp[af.pick,h2]⟩,zd,?_⟩;refine aR 2 zs rfl sQ (sU ?_);exact aZ<|nk hc
  refine sI ?_;refine⟨(k+1,c,l),⟨zo,hc,zo,by rw[hl];simp[af.pick,h2]⟩,zd,?_⟩;exact aR 2 zs rfl sQ sQ
 have al:k=P.aG.length:=by have:¬k<P.aG.length:=sO
                           omega
 subst al;subst hl;exact oJ hc rfl
theorem RQ(hP:P.Fits)(hf:P.aG.length<=1000)(v:Int):ar ai 166 [cm P,aa v]<|aO<|P.cn v:=by
 have b:=hP.aG;refine bL ?_;rw[aK];refine b8 (fL 5 1 zs rfl) ?_;refine bt [1,9,10] (λ((k,c,l):Nat×Nat×ah)=>[(5,.own 1 c 0 c),(11,aa k)]) (λ(k,c,l)=>[(1,.vec true c 1<|aA l)]) (λ(k,c,l)=>k<=P.aG.length/\c=l.length/\c<=k/\l=af.pick (λi=>P.src i==v) k) (λ(k,c,l)=>P.aG.length-k) (0,0,[]) ?_;refine sW ?_;refine⟨⟨zo,rfl,zo,rfl⟩,by exact sK,rfl,?_⟩;rintro⟨k,c,l⟩ ⟨hk,hc,ow,hl⟩;refine br (λh=>?_) λh=>?_
 ·have al:k<P.aG.length:=sO;refine sL (oz P (k:=k) zo al) ?_;refine sS (λh2=>?_) λh2=>?_
  ·refine fA ?_;refine⟨(k+1,c+1,l++[(k:Int)]),⟨zo,by simp[hc],zo,by rw[hl];simp[af.pick,h2]⟩,zd,?_⟩;refine aR 2 zs rfl sQ (sU ?_);exact aZ<|nk hc
  refine sI ?_;refine⟨(k+1,c,l),⟨zo,hc,zo,by rw[hl];simp[af.pick,h2]⟩,zd,?_⟩;exact aR 2 zs rfl sQ sQ
 have al:k=P.aG.length:=by have:¬k<P.aG.length:=sO
                           omega
 subst al;subst hl;exact oJ hc rfl
theorem J6(hP:P.Fits)(hf:P.aG.length<=1000)(v:Int):ar ai 89 [cm P,aa v]<|aO<|P.bC v:=by
 have b:=hP.aG;refine bL ?_;refine b8 (fL 5 1 zs rfl) ?_;refine bt [1,2] (λ((k,c,l):Nat×Nat×ah)=>[(5,.own 1 c 0 c),(6,aa k)]) (λ(k,c,l)=>[(1,.vec true c 1<|aA l)]) (λ(k,c,l)=>k<=P.aG.length/\c=l.length/\c<=k/\l=af.pick (λi=>P.dst i==v) k) (λ(k,c,l)=>P.aG.length-k) (0,0,[]) ?_;refine sW ?_;refine⟨⟨zo,rfl,zo,rfl⟩,by exact sK,rfl,?_⟩;rintro⟨k,c,l⟩ ⟨hk,hc,ow,hl⟩;refine c6 ?_;rw[aK];refine sS (λh=>?_) λh=>?_
 ·have al:k<P.aG.length:=sO;refine sL (oz P (k:=k) zo al) ?_;refine sS (λh2=>?_) λh2=>?_
  ·refine fA ?_;refine⟨(k+1,c+1,l++[(k:Int)]),⟨zo,by simp[hc],zo,by rw[hl];simp[af.pick,h2]⟩,zd,?_⟩;refine aR 2 zs rfl sQ (sU ?_);exact aZ<|nk hc
  refine sI ?_;refine⟨(k+1,c,l),⟨zo,hc,zo,by rw[hl];simp[af.pick,h2]⟩,zd,?_⟩;exact aR 2 zs rfl sQ sQ
 have al:k=P.aG.length:=by have:¬k<P.aG.length:=sO
                           omega
 subst al;subst hl;exact oJ hc rfl
theorem Ot(hP:P.Fits)(hf:P.aG.length<=1000)(v:Int):ar ai 90 [cm P,aa v]<|aO<|P.cn v:=by
 have b:=hP.aG;refine bL ?_;refine b8 (fL 5 1 zs rfl) ?_;refine bt [1,2] (λ((k,c,l):Nat×Nat×ah)=>[(5,.own 1 c 0 c),(6,aa k)]) (λ(k,c,l)=>[(1,.vec true c 1<|aA l)]) (λ(k,c,l)=>k<=P.aG.length/\c=l.length/\c<=k/\l=af.pick (λi=>P.src i==v) k) (λ(k,c,l)=>P.aG.length-k) (0,0,[]) ?_;refine sW ?_;refine⟨⟨zo,rfl,zo,rfl⟩,by exact sK,rfl,?_⟩;rintro⟨k,c,l⟩ ⟨hk,hc,ow,hl⟩;refine c6 ?_;rw[aK];refine sS (λh=>?_) λh=>?_
 ·have al:k<P.aG.length:=sO;refine sL (oz P (k:=k) zo al) ?_;refine sS (λh2=>?_) λh2=>?_
  ·refine fA ?_;refine⟨(k+1,c+1,l++[(k:Int)]),⟨zo,by simp[hc],zo,by rw[hl];simp[af.pick,h2]⟩,zd,?_⟩;refine aR 2 zs rfl sQ (sU ?_);exact aZ<|nk hc
  refine sI ?_;refine⟨(k+1,c,l),⟨zo,hc,zo,by rw[hl];simp[af.pick,h2]⟩,zd,?_⟩;exact aR 2 zs rfl sQ sQ
 have al:k=P.aG.length:=by have:¬k<P.aG.length:=sO
                           omega
 subst al;subst hl;exact oJ hc rfl
theorem zmZ(k i o:Int):ar ai 164 [aa k,aa i,aa o]<|aD<|af.AQ k i o:=by
 refine bL ?_;repeat' (first|refine sS (λh=>?_) λh=>?_|exact cd<|by unfold af.AQ;simp_all;try omega)
variable(l:List<|aX×Int)
theorem znY(hl:l.length<=9223372036854775807)(p:aX×Int->Bool)(cl:FuncId)(cap:bh)(hp:an cap)(hc:∀a∈l,ar ai cl (.agg (ke a)::cap)<|aD<|p a) :
  ar ai 287 [.aM 2<|l.map ke,.fn (.func cl) [] cap] (aa<|ee p l):=by
 refine dC fZ zs (by simp[an,Pure,hp,D4]) ?_ (by simp[Pure]);refine sR ?_;rw[aK];have fin:∀{z:Int},z=ee p l->Deep [] (aa z) (aa<|ee p l):=λh=>h▸.refl _;refine bt [0,1,7] (λk:Nat=>[(8,aa k)]) (λ_=>[]) (λk=>k<=l.length/\∀j (hj:j<k) (hl:j<l.length),p l[j]=false) (λk=>l.length-k) 0 ?_;refine sW ?_;refine⟨⟨zo,λj hj=>zo⟩,by exact sK,rfl,?_⟩;rintro k ⟨hk,da⟩;refine br (λh=>?_) λh=>?_
 ·have al:k<l.length:=sO;refine⟨zo,ke l[k],by rw[cU,bQ,aJ al];rfl,?_⟩;refine sW ?_;refine sC (hc _<|ib al) ?_;refine sS (λh2=>?_) λh2=>?_
  ·exact fin (wK al h2 λj hj=>da j hj zo).symm
  refine sI ?_;refine⟨k+1,⟨zo,λj hj hl=>?_⟩,zd,aL (by exact sK) rfl⟩;by_cases e:j=k
  ·subst e;exact h2
  exact da j zo hl
 have al:¬k<l.length:=sO;exact fin (AT λj hj=>da j zo hj).symm
theorem ZA(hl:l.length<=9223372036854775807)(p:aX×Int->Bool)(cl:FuncId)(cap:bh)(hp:an cap)(hc:∀a∈l,ar ai cl (.agg (ke a)::cap)<|aD<|p a) :
  ar ai 244 [.aM 2<|l.map ke,.fn (.func cl) [] cap] (aD<|l.any p):=by
 refine dC fZ zs (by simp[an,Pure,hp,D4]) ?_ (by simp[Pure]);refine sR ?_;refine sC (znY l hl p cl cap hp hc) ?_;rw[rW];exact .refl _
theorem RR(P:af)(f:aX->Bool):∀i,i<=P.nodes.length->((P.nodes.take i).any λm=>f m.1)=(List.range i).any λk=>f (P.name k)
 |0,_=>rfl
 |i+1,h=>by
  rw[List.take_succ_eq_append_getElem zo,wW,RR P f i zo,qy,wW]
  congr 1
  simp only[C6,List.any_nil,vV];unfold af.name;rw[aE,aJ zo];rfl
theorem znp(m n:aX×Int):ar ai 245 [.agg<|ke m,.aB<|ke n]<|aD<|ff m.1 n.1:=by
 refine bL ?_;exact .refl _
theorem zou(hP:P.Fits):ar ai 163 [cm P]<|aa P.wD:=by
 have b:=hP.nodes;refine bL ?_;rw[aK];have bF:∀{H:aF} {z:Int} (k:Nat),k<P.nodes.length->(∀j,j<k->P.my j=0)->P.my k=z->z≠0->Deep H (aa z) (aa P.wD):=λk h1 h2 h3 h4=>by
  unfold af.wD;rw[af.Nu h1 h2<|by rw[h3];exact h4,h3];exact .refl _
 refine bt [1,6,7] (λk:Nat=>[(8,aa k)]) (λ_=>[]) (λk=>k<=P.nodes.length/\∀j,j<k->P.my j=0) (λk=>P.nodes.length-k) 0 ?_;refine sW ?_;refine⟨⟨zo,λj hj=>zo⟩,by exact sK,rfl,?_⟩;rintro k ⟨hk,bR⟩;refine br (λh=>?_) λh=>?_
 ·have al:k<P.nodes.length:=sO;refine sL (ka P (k:=k) zo al) ?_;refine sC (FQ (P.name k)<|hP.at al) ?_;refine sS (λh1=>?_) λh1=>?_
  ·exact bF k al bR (by unfold af.my;rw[ae (.inl<|by simpa using h1)]) zc
  have h1:iQ<|P.name k:=(by simpa using h1);refine sS (λh2=>?_) λh2=>?_
  ·exact bF k al bR (by unfold af.my;rw[ae (.inr (.inl<|sO))]) zc
  refine sS (λh3=>?_) λh3=>?_
  ·exact bF k al bR (by unfold af.my;rw[ae (.inr (.inr<|sO))]) zc
  have c1:¬(iQ (P.name k)=false\/P.kind k<1\/7<P.kind k):=by
   rintro(q|q|q)
   ·rw[h1] at q;cases q
   ·exact sO
   exact sO
  refine⟨zo,zo,by rw[aK];omega,?_⟩;refine sW ?_;rw[fQ,bQ,<-List.map_take];refine sN (ZA (P.nodes.take k) (by rw[gA];omega) (λm=>ff m.1<|P.name k) 245 [.aB<|ke (P.name k,P.kind k)] (by simp[an,Pure,D4]) λa _=>znp a _) ?_;rw[RR P (λs=>ff s<|P.name k) k zo];refine sS (λh4=>?_) λh4=>?_
  ·exact bF k al bR (by unfold af.my;rw[ab c1,ae h4]) zc
  refine sI ?_;refine⟨k+1,⟨zo,λj hj=>?_⟩,zd,?_⟩
  ·by_cases e:j=k
   ·subst e;unfold af.my;rw[ab c1,ab<|by rw[h4];simp]
   exact bR j zo
  exact aR 1 zs rfl sQ sQ
 have al:k=P.nodes.length:=by have:¬k<P.nodes.length:=sO
                              omega
 subst al;have e:P.wD=0:=af.Dy.2 bR;rw[e];exact .refl _
end
section
def DG(n:Int):bh:=[aa n]
theorem zmB(n:Int):au m<|DG n:=by simp[DG,au,aq]
theorem Pf{f:Nat->Nat}{c:Nat}:∀n,(∀j,j<n->f j<=c)->j4 f n<=n*c
 |0,_=>by simp[j4]
 |n+1,h=>by
  simp only[j4];have h1:=Pf n λj hj=>h j zo;have h2:=h n zo;rw[jw];omega
theorem zwc{c:α->bh}{L:List<|List α}{T:aF}{a b:ao}{K:aF->Prop}{o:ao}(l:List α)(h:i<L.length)(ho:o=.vec true l.length ak (l.map c))(k:K<|a::b::(fO ak c (L.set i l)++T)):pN (a::b::(fO ak c L++T)) (i+2) o K:=by
 subst ho;rw[vU];refine⟨by simp;omega,?_⟩;rw[List.set_cons_succ,List.set_cons_succ,List.set_append_left _ _<|by simpa using h,Rw];exact k
variable(P:af)
theorem zpH(h1:P.nodes.length<=20)(h2:P.aG.length<=30)(hf:∀i,i<P.aG.length->P.oj i) :
  ph (P.graph P.aG.length)=0/\jH (P.graph P.aG.length)/\tm (P.graph P.aG.length) (λ_=>false)<=600:=by
 have hl:=P.zV P.aG.length;have row:∀l∈P.graph P.aG.length,∃u,l=(P.graph P.aG.length).getD u []:=λl hl=>by
  obtain⟨u,hu,rfl⟩:=jN.1 hl;exact⟨u,by rw[aE,aJ hu];rfl⟩
 refine⟨AE.2 ⟨zo,λl h=>?_⟩,⟨zo,λl h=>?_⟩,?_⟩
 ·obtain⟨u,rfl⟩:=row l h;refine kG λx hx=>?_;obtain⟨i,q1,_,q3⟩:=(af.GO hf).1 hx;have:=af.x3.1<|hf i q1;rw[hl];omega
 ·obtain⟨u,rfl⟩:=row l h;have:=(P.Gp P.aG.length u).2;omega
 have:=Pf (f:=λv=>if false=true then 0 else ((P.graph P.aG.length).getD v []).length) (c:=30) (P.graph P.aG.length).length λj _=>by
  have:=(P.Gp P.aG.length j).2;simp only[xA,if_false];omega
 unfold tm;refine iv this ?_;rw[hl];omega
theorem zpM{id:Nat}{q:Bool}{L:aj}(h:H[id]? = some (.vec q v 1<|L.map λl=>[aO l]))(hn:n=L.length):Deep H (.own id v 0 n)<|bY L:=by
 subst hn;exact .own _ _ _ _ _ _ _ _ h<|by rw[cx zs];exact iX _
def zAy:PC:=SO [Bi 38 .lss 37 36] (.seq (CX 38 0) (.seq (.block 1<|SO [Ia 39 2 35 37,LA 40 2 39,q 6 (.alloc [v0,v0]),So 2 6 40] (.seq (SO [Fa 41 0 6,Lo 42 41,Bi 43 .lss 42 K0,qm 44 43,GF 45 44 (.dO 0 6),GF 46 44 (.cg 45),GF 47 44 (.move 4),GF 48 44 (.len 47),GF 49 44 (.bin .geq 46 48),Pk 50 44 cT 49,qm 51 50,GF 52 51 (.dO 1 6),GF 53 51 (.cg 52),GF 54 51 (.bin .lss 53 K0),Pk 55 51 cT 54,qm 56 55,GF 57 56 (.dO 1 6),GF 58 56 (.cg 57),GF 59 56 (.move 4),GF 60 56 (.len 59),GF 61 56 (.bin .geq 58 60),Pk 62 56 cT 61]<|If 62<|SO [Mv 2 K1] .ret) (.ops [qm 63 4,Fa 64 0 6,Ld 65 64 2,qm 66 4,Fa 67 0 6,Ld 68 67 16,Ja 69 1 66 68 56,Ld 70 69 120,Fa 71 1 6,Ld 72 71 256,qd 73 (.oP 1 1 [72]) 768,qd 74 (.append 1 8 70 73) 2040,Ja 75 1 63 65 4095,qk (.store 1 75 74) 8191] true)))<|OP [Bi 76 .add 37 K1,qm 37 76]))
def zAY:PC:=SO [Bi 81 .lss 80 79] (.seq (CX 81 2) (.seq (.block 3<|SO [qm 82 80,Ia 83 2 78 80,LA 84 2 83,q 10 (.alloc [vS,v0]),qm 9 82,So 2 10 84]<|SO [Fa 85 1 10,Lo 86 85,Bi 87 .eql 86 K1]<|If 87<|SO [qm 88 9,qm 7 88]<|OP [qm 89 8,Bi 90 .add 89 K1,qm 8 90])<|OP [Bi 91 .add 80 K1,qm 80 91]))
def zAW:PC:=SO [Bi 98 .lss 97 96] (.seq (CX 98 4) (.seq (.block 5<|SO [qm 99 97,Ia 100 2 95 97,LA 101 2 100,q 12 (.alloc [vS,v0]),qm 11 99,So 2 12 101] (.seq (.ops [Fa 102 1 12,Ld 103 102 1,LA 104 2 1,qm 105 11,Cd 106 165 [104,105] 12,qd 107 (.len 106) 28,LA 108 2 1,qm 109 11,Cd 110 166 [108,109] 220,qd 111 (.len 110) 476,Cd 112 164 [103,107,111] 1023,qd 113 (.un .not 112) 2047] true)<|If 113<|SO [Mv 2 K1] .ret))<|OP [Bi 114 .add 97 K1,qm 97 114]))
def c93:PC:=SO [Bx 1 0,Mv 2 K0] (.seq (SO [Fa 15 0 1,Lo 16 15,Ln 17 16,Bi 18 .gtr 17<|cI 20,qm 19 18,GF 20 19 (.dO 1 1),GF 21 19 (.cg 20),GF 22 19 (.len 21),GF 23 19 (.bin .gtr 22<|cI 30),Pk 24 19 cT 23]<|If 24<|SO [Mv 2 K2] .ret) (.seq (SO [LA 25 2 1,Ca 26 163 [25],qm 3 26]<|SO [qm 27 3,Bi 28 .neq 27 K0]<|If 28<|SO [qm 29 3,qm 2 29] .ret)<|SO [Fa 30 0 1,Lo 31 30,Ln 32 31,q 33 (.sM 1 24 [vN] 32 32),qm 4 33] (.seq (SO [Fa 34 1 1,Lo 35 34,Ln 36 35,Mv 37 K0] (.stop<|BL 0 zAy))<|SO [Mv 7<|cI (-1),Mv 8 K0] (.seq (SO [Fa 77 0 1,Lo 78 77,Ln 79 78,Mv 80 K0]<|BL 2 zAY) (.seq (SO [qm 92 8,Bi 93 .neq 92 K1]<|If 93<|SO [Mv 2 K1] .ret) (.seq (SO [Fa 94 0 1,Lo 95 94,Ln 96 95,Mv 97 K0]<|BL 4 zAW) (.seq (SO [qm 116 4,qm 117 7,Bs 118 1 1 [117],Ca 119 167 [116,118],qm 115 119,Xt 120 0 115,Xt 121 1 115,qm 13 120,qm 14 121]<|SO [qm 122 13,Ca 123 158 [122,cF]]<|If 123<|SO [Mv 2 K6] .ret)<|SO [Mv 2 K0] .ret)))))))
theorem QU(hP:P.Fits):ar ai 93 [cm P]<|aa P.aS:=by
 have b1:=hP.nodes;have b2:=hP.aG;refine bK (fJ 124 [.tmp 2] c93 Tryz.func93) ?_;refine sR ?_;rw[aK];have fin:∀{H:aF} {z:Int},z=P.aS->Deep H (aa z) (aa P.aS):=λh=>h▸.refl _;refine sS (λh1=>?_) λh1=>?_
 ·exact fin<|by unfold af.aS;rw[ae (.inl<|sO)]
 rw[aK];refine sS (λh2=>?_) λh2=>?_
 ·exact fin<|by unfold af.aS;rw[ae (.inr<|sO)]
 have c1:¬(20<P.nodes.length\/30<P.aG.length):=sO;refine sC (zou P hP) ?_;refine sS (λh3=>?_) λh3=>?_
 ·have h3:P.wD≠0:=sO;exact fin<|by unfold af.aS;rw[ab c1,ae h3]
 have c2:¬P.wD≠0:=sO;rw[aK];refine⟨zo,zo,zo,?_⟩;rw[bQ];refine sW ?_;rw[aK];refine px (λ_:Unit=>[(1,.loc 0 0),(4,.own 1 0 0 P.nodes.length)]) (λ_=>[.row true P.cells,.vec true 0 1<|(P.graph P.aG.length).map λl=>[aO l]]) (λ_=>∀i,i<P.aG.length->P.oj i=true) ?_ ?_
 ·refine sR ?_;refine b8 (Bp 1 1 P.nodes.length 0 zs rfl) ?_;refine cJ [1,4,35,36] (λk:Nat=>[(37,aa k)]) (λk=>.row true P.cells::.vec true 0 1 (jZ 2<|P.graph k)::fO 1 DG (P.graph k)) (λk=>k<=P.aG.length/\∀i,i<k->P.oj i=true) (λk=>P.aG.length-k) 0 ?_;refine sW ?_;refine⟨⟨zo,λi hi=>zo⟩,by exact sK,?_,?_⟩
  ·show _::_::_=_::_::_;rw[A9 1 _ DG];exact bJ (λx=>ao.row true P.cells::ao.vec true 0 1 x::_)<|Bn (α:=Int) 2 _
  rintro k ⟨hk,bR⟩;have Cb:=P.zV k;refine br (λh=>?_) λh=>?_
  ·have al:k<P.aG.length:=sO;refine sL (oz P (k:=k) zo al) ?_;refine yq ?_;refine sW ?_
   (repeat (first|(refine gL 0 rfl ?_;((conv=>whnf);repeat(refine⟨rfl,?_⟩;conv=>whnf)))|(refine gN 0 rfl ?_;((conv=>whnf);repeat(refine⟨rfl,?_⟩;conv=>whnf)))|(refine gL 1 rfl ?_;((conv=>whnf);repeat(refine⟨rfl,?_⟩;conv=>whnf)))|(refine gN 1 rfl ?_;((conv=>whnf);repeat(refine⟨rfl,?_⟩;conv=>whnf)))))
   have bad:∀{H:aF},P.oj k=false->Deep H (aa 1) (aa P.aS):=λh=>fin (by
    unfold af.aS;rw[ab c1,ab c2,ae];intro q;rw[q k al] at h;cases h)
   have nok:¬(0<=P.src k/\P.src k<P.nodes.length/\0<=P.dst k/\P.dst k<P.nodes.length)->P.oj k=false:=λh=>by rw[<-oL,af.x3];exact h
   refine sS (λh4=>?_) λh4=>?_
   ·exact bad<|nok<|sO
   (repeat (first|(refine gL 0 rfl ?_;((conv=>whnf);repeat(refine⟨rfl,?_⟩;conv=>whnf)))|(refine gN 0 rfl ?_;((conv=>whnf);repeat(refine⟨rfl,?_⟩;conv=>whnf)))|(refine gL 1 rfl ?_;((conv=>whnf);repeat(refine⟨rfl,?_⟩;conv=>whnf)))|(refine gN 1 rfl ?_;((conv=>whnf);repeat(refine⟨rfl,?_⟩;conv=>whnf)))))
   refine sS (λh5=>?_) λh5=>?_
   ·exact bad<|nok<|sO
   (repeat (first|(refine gL 0 rfl ?_;((conv=>whnf);repeat(refine⟨rfl,?_⟩;conv=>whnf)))|(refine gN 0 rfl ?_;((conv=>whnf);repeat(refine⟨rfl,?_⟩;conv=>whnf)))|(refine gL 1 rfl ?_;((conv=>whnf);repeat(refine⟨rfl,?_⟩;conv=>whnf)))|(refine gN 1 rfl ?_;((conv=>whnf);repeat(refine⟨rfl,?_⟩;conv=>whnf)))))
   refine sS (λh6=>?_) λh6=>?_
   ·exact bad<|nok<|sO
   (repeat (first|(refine gL 0 rfl ?_;((conv=>whnf);repeat(refine⟨rfl,?_⟩;conv=>whnf)))|(refine gN 0 rfl ?_;((conv=>whnf);repeat(refine⟨rfl,?_⟩;conv=>whnf)))|(refine gL 1 rfl ?_;((conv=>whnf);repeat(refine⟨rfl,?_⟩;conv=>whnf)))|(refine gN 1 rfl ?_;((conv=>whnf);repeat(refine⟨rfl,?_⟩;conv=>whnf)))))
   refine sS (λh7=>?_) λh7=>?_
   ·exact bad<|nok<|sO
   have aC:P.oj k:=af.x3.2<|sO;have ho:=af.x3.1 aC;have dF:=(P.Gp k (P.src k).toNat).2
   (repeat (first|(refine gL 0 rfl ?_;((conv=>whnf);repeat(refine⟨rfl,?_⟩;conv=>whnf)))|(refine gN 0 rfl ?_;((conv=>whnf);repeat(refine⟨rfl,?_⟩;conv=>whnf)))|(refine gL 1 rfl ?_;((conv=>whnf);repeat(refine⟨rfl,?_⟩;conv=>whnf)))|(refine gN 1 rfl ?_;((conv=>whnf);repeat(refine⟨rfl,?_⟩;conv=>whnf)))))
   refine sB ?_;refine⟨_,mh (i:=(P.src k).toNat) zo zo,?_⟩;refine sW ?_
   (repeat (first|(refine gL 0 rfl ?_;((conv=>whnf);repeat(refine⟨rfl,?_⟩;conv=>whnf)))|(refine gN 0 rfl ?_;((conv=>whnf);repeat(refine⟨rfl,?_⟩;conv=>whnf)))|(refine gL 1 rfl ?_;((conv=>whnf);repeat(refine⟨rfl,?_⟩;conv=>whnf)))|(refine gN 1 rfl ?_;((conv=>whnf);repeat(refine⟨rfl,?_⟩;conv=>whnf)))))
   refine M8 ?_;refine sW ?_
   (repeat (first|(refine gL 0 rfl ?_;((conv=>whnf);repeat(refine⟨rfl,?_⟩;conv=>whnf)))|(refine gN 0 rfl ?_;((conv=>whnf);repeat(refine⟨rfl,?_⟩;conv=>whnf)))|(refine gL 1 rfl ?_;((conv=>whnf);repeat(refine⟨rfl,?_⟩;conv=>whnf)))|(refine gN 1 rfl ?_;((conv=>whnf);repeat(refine⟨rfl,?_⟩;conv=>whnf)))))
   refine wN zo ?_;refine sW ?_;refine⟨by unfold je;simp only[lL,gA,bH,bU];omega,?_⟩;refine zwc (((P.graph k).getD (P.src k).toNat [])++[P.dst k]) zo ?_ ?_
   ·exact x9
   refine bE ?_;refine⟨_,mh (i:=(P.src k).toNat) zo zo,?_⟩;refine sW ?_;have bT:(P.src k).toNat≠(P.graph k).length:=zo
   (refine zyn (by dsimp only[q,qm,qw,qd,qn,qk];simp[DA,B7,u6,zoW,Yb,zrN,zuM,vz,zzu,bT]) ?_;((conv=>whnf);repeat(refine⟨rfl,?_⟩;conv=>whnf)))
   refine sI ?_;refine⟨k+1,⟨zo,λi hi=>?_⟩,zd,?_⟩
   ·by_cases e:i=k
    ·subst e;exact aC
    exact bR i zo
   refine aR (P.nodes.length+2) zs (by simp[Cb,af.zV]) (by exact sQ) ⟨⟨rfl,.refl _,zs⟩,⟨rfl,rfl,rfl,aZ ?_,xz<|by rw[af.zV];omega⟩,wL zmB⟩;exact xr zo zo _ zs
  have sj:k=P.aG.length:=by have:¬k<P.aG.length:=sO
                            omega
  subst sj;refine⟨(),bR,aR 2 zs rfl (by exact sQ) ⟨⟨rfl,.refl _,zs⟩,⟨rfl,rfl,rfl,CP (c:=DG) (λi hi=>by simp[nK]) λi hi=>?_,by simp[au]⟩,BW _⟩⟩;show(fO 1 DG<|P.graph P.aG.length)[i]? = _;exact xv hi
 rintro _ bR;refine sW ?_;rw[aK];have c3:¬¬∀i,i<P.aG.length->P.oj i=true:=λq=>q bR;refine bt [1,4,78,79] (λ((k,s,m):Nat×Int×Int)=>[(7,aa s),(8,aa m),(80,aa k)]) (λ_=>[]) (λ(k,s,m)=>k<=P.nodes.length/\s=P.kR k/\m=P.mA k) (λ(k,s,m)=>P.nodes.length-k) (0,-1,0) ?_;refine sW ?_;refine⟨⟨zo,rfl,rfl⟩,by exact sK,rfl,?_⟩;rintro⟨k,s,m⟩ ⟨hk,hs,hm⟩;refine br (λh=>?_) λh=>?_
 ·have al:k<P.nodes.length:=sO;have hle:=P.My k;refine sL (ka P (k:=k) zo al) ?_;refine sS (λh4=>?_) λh4=>?_
  ·have h4:P.kind k=1:=sO;refine sI ?_;refine sI ?_;refine⟨(k+1,k,m+1),⟨zo,by simp[af.kR,h4],by simp[af.mA,h4,hm]⟩,zd,?_⟩;exact aR 2 zs rfl sQ sQ
  have h4:P.kind k≠1:=sO;refine sI ?_;refine⟨(k+1,s,m),⟨zo,by simp[af.kR,h4,hs],by simp[af.mA,h4,hm]⟩,zd,?_⟩;exact aR 2 zs rfl sQ sQ
 have sj:k=P.nodes.length:=by have:¬k<P.nodes.length:=sO
                              omega
 subst hs hm;subst sj;clear h hk;refine sS (λh4=>?_) λh4=>?_
 ·have h4:P.mA P.nodes.length≠1:=sO;exact fin<|by unfold af.aS;rw[ab c1,ab c2,ab c3,ae h4]
 have h4:P.mA P.nodes.length=1:=sO;have cE:=P.Oq P.nodes.length zo;have c4:¬P.mA P.nodes.length≠1:=λq=>q h4;rw[aK];refine bt [1,4,7,95,96] (λk:Nat=>[(97,aa k)]) (λ_=>[]) (λk=>k<=P.nodes.length/\∀i,i<k->P.ou i=true) (λk=>P.nodes.length-k) 0 ?_;refine sW ?_;refine⟨⟨zo,λi hi=>zo⟩,by exact sK,rfl,?_⟩;rintro k ⟨hk,aC⟩;refine br (λh=>?_) λh=>?_
 ·have al:k<P.nodes.length:=sO;refine sL (ka P (k:=k) zo al) ?_;refine sC (WB P hP zo k) ?_;refine sC (RQ P hP zo k) ?_;rw[aK,aK];refine sC (zmZ (P.kind k) (P.bC k).length (P.cn k).length) ?_;refine sS (λh5=>?_) λh5=>?_
  ·exact fin (by
    unfold af.aS;rw[ab c1,ab c2,ab c3,ab c4,ae];intro q;have:=q k al;unfold af.ou at this;rw[this] at h5;cases h5)
  refine sI ?_;refine⟨k+1,⟨zo,λi hi=>?_⟩,zd,?_⟩
  ·by_cases e:i=k
   ·subst e;unfold af.ou;simpa using h5
   exact aC i zo
  exact aR 2 zs rfl sQ sQ
 have sj:k=P.nodes.length:=by have:¬k<P.nodes.length:=sO
                              omega
 subst sj;have c5:¬¬∀i,i<P.nodes.length->P.ou i:=λq=>q aC;obtain⟨g1,g2,g3⟩:=zpH P zo zo bR;have hlen:=P.zV P.aG.length
 refine .inr (.inr (.inr (.inr (.inr (.inl ⟨rfl,_,_,.cons _ _ _ _ (zpM rfl hlen.symm) (.cons _ _ _ _ (oJ (l:=[P.kR P.nodes.length]) rfl rfl) .nil),
  O8 (P.graph P.aG.length) g1 g2 [P.kR P.nodes.length] (kG λx hx=>by rw[cB] at hx;subst hx;omega) (by simp;omega),?_⟩)))))
 refine sW ?_;refine sC (Ti _ (nE (P.graph P.aG.length) [P.kR P.nodes.length]) zo false) ?_;rw[hlen];refine sS (λh6=>?_) λh6=>?_
 ·obtain⟨v,q1,q2⟩:=HW.1 h6;exact fin (by
   unfold af.aS;rw[ab c1,ab c2,ab c3,ab c4,ab c5,ae];intro q;rw[ry.2<|q v q1] at q2;cases q2)
 exact fin (by
  unfold af.aS;rw[ab c1,ab c2,ab c3,ab c4,ab c5,ab];intro q;refine q λv hv=>?_;unfold af.CH;rw[<-ry,<-Bool.not_eq_false];intro q2;rw[HW.2 ⟨v,hv,q2⟩] at h6;cases h6)
end
section
variable(P:af)
theorem zth(i:Nat):bx [P.src i,P.dst i] P.nodes.length=P.oj i:=by
 unfold bx af.oj;simp only[List.all_cons,List.all_nil,Cw];rw[<-Bool.and_assoc]
theorem zo6{P:af}(h:P.my i=0):1<=P.kind i/\P.kind i<=7:=by
 unfold af.my at h;split at h
 ·exact absurd h zc
 rename_i q;omega
def I8(P:af)(s:ay):Prop:=∀i,i<P.aG.length->s (P.src i).toNat->s (P.dst i).toNat=true
theorem Uy(h:s v):mark s v=s:=by
 funext i;unfold mark;split
 ·rename_i e;subst e;exact h.symm
 rfl
theorem zlr{P:af}(hf:∀i,i<P.aG.length->P.oj i)(h0:s (P.kR P.nodes.length).toNat)(hc:I8 P s)(hs:∀v,s v->P.CH v)(v:Nat):s v=nE (P.graph P.aG.length) [P.kR P.nodes.length] v :=
 Sm ⟨hs v,Pl (λx hx=>by rw[cB] at hx;subst hx;exact h0) (λv hv x hx=>by
  obtain⟨i,q1,q2,q3⟩:=(af.GO hf).1 hx;have:=hc i q1 (by rw[q2];exact hv);rwa [q3] at this) v⟩
theorem Z1(hP:P.Fits):ar ai 88 [cm P]<|aa P.aS:=by
 have b1:=hP.nodes;have b2:=hP.aG;refine bL ?_;rw[aK];have fin:∀{H:aF} {z:Int},z=P.aS->Deep H (aa z) (aa P.aS):=λh=>h▸.refl _;refine sS (λh1=>?_) λh1=>?_
 ·exact fin<|by unfold af.aS;rw[ae (.inl<|sO)]
 rw[aK];refine sS (λh2=>?_) λh2=>?_
 ·exact fin<|by unfold af.aS;rw[ae (.inr<|sO)]
 have c1:¬(20<P.nodes.length\/30<P.aG.length):=sO;have bF:∀{H:aF} {z:Int} (k:Nat),k<P.nodes.length->(∀j,j<k->P.my j=0)->P.my k=z->z≠0->Deep H (aa z) (aa P.aS):=λk h1 h2 h3 h4=>fin (by
  have e:P.wD=P.my k:=af.Nu h1 h2 (by rw[h3];exact h4);unfold af.aS;rw[ab c1,ae<|by rw[e,h3];exact h4,e,h3])
 refine bt [1,3] (λ((k,s,m):Nat×Int×Int)=>[(4,aa s),(5,aa m),(6,aa k)]) (λ_=>[]) (λ(k,s,m)=>k<=P.nodes.length/\s=P.kR k/\m=P.mA k/\∀j,j<k->P.my j=0) (λ(k,s,m)=>P.nodes.length-k) (0,-1,0) ?_;refine sW ?_;refine⟨⟨zo,rfl,rfl,λj hj=>zo⟩,by exact sK,rfl,?_⟩;rintro⟨k,s,m⟩ ⟨hk,hs,hm,bR⟩;refine br (λh=>?_) λh=>?_
 ·have al:k<P.nodes.length:=sO;have hle:=P.My k;refine sL (ka P (k:=k) zo al) ?_;refine sC (KR (P.name k)<|hP.at al) ?_;refine sS (λh3=>?_) λh3=>?_
  ·exact bF k al bR (by unfold af.my;rw[ae (.inl<|by simpa using h3)]) zc
  have h3:iQ<|P.name k:=(by simpa using h3);refine sL (ka P (k:=k) zo al) ?_;refine sS (λh4=>?_) λh4=>?_
  ·exact bF k al bR (by unfold af.my;rw[ae (.inr (.inl<|sO))]) zc
  refine sL (ka P (k:=k) zo al) ?_;refine sS (λh5=>?_) λh5=>?_
  ·exact bF k al bR (by unfold af.my;rw[ae (.inr (.inr<|sO))]) zc
  have d1:¬(iQ (P.name k)=false\/P.kind k<1\/7<P.kind k):=by
   rintro(q|q|q)
   ·rw[h3] at q;cases q
   ·exact sO
   exact sO
  refine bt [1,3,4,5,6] (λj:Nat=>[(7,aa j)]) (λ_=>[]) (λj=>j<=k/\∀i,i<j->ff (P.name i) (P.name k)=false) (λj=>k-j) 0 ?_;refine sW ?_;refine⟨⟨zo,λj hj=>zo⟩,by exact sK,rfl,?_⟩;rintro j ⟨hj,da⟩;refine br (λh6=>?_) λh6=>?_
  ·have jf:j<k:=sO;refine sL (ka P (k:=j) zo zo) ?_;refine sL (ka P (k:=k) zo al) ?_;refine sS (λh7=>?_) λh7=>?_
   ·exact bF k al bR (by
     unfold af.my;rw[ab d1,ae];rw[kJ];exact⟨j,fX.2 jf,h7⟩) zc
   refine sI ?_;refine⟨j+1,⟨zo,λi hi=>?_⟩,zd,aL (by exact sK) rfl⟩;by_cases e:i=j
   ·subst e;exact h7
   exact da i zo
  have FF:j=k:=by have:¬j<k:=sO
                  omega
  subst FF;have hz:P.my j=0:=by
   unfold af.my;rw[ab d1,ab];rw[kJ];rintro⟨i,q1,q2⟩;rw[da i<|fX.1 q1] at q2;cases q2
  have Qb:∀i,i<j+1->P.my i=0:=λi hi=>by
   by_cases e:i=j
   ·subst e;exact hz
   exact bR i zo
  refine sL (ka P (k:=j) zo al) ?_;refine sS (λh8=>?_) λh8=>?_
  ·have h8:P.kind j=1:=sO;refine sI ?_;refine sI ?_;exact⟨(j+1,j,m+1),⟨zo,by simp[af.kR,h8],by simp[af.mA,h8,hm],Qb⟩,zd,aL (by exact sK) rfl⟩
  have h8:P.kind j≠1:=sO;refine sI ?_;exact⟨(j+1,s,m),⟨zo,by simp[af.kR,h8,hs],by simp[af.mA,h8,hm],Qb⟩,zd,aL (by exact sK) rfl⟩
 have sj:k=P.nodes.length:=by have:¬k<P.nodes.length:=sO
                              omega
 subst hs hm;subst sj;clear h hk;have c2:¬P.wD≠0:=λq=>q<|af.Dy.2 bR;clear bR;refine bt [1,3,4,5] (λk:Nat=>[(8,aa k)]) (λ_=>[]) (λk=>k<=P.aG.length/\∀i,i<k->P.oj i=true) (λk=>P.aG.length-k) 0 ?_;refine sW ?_;refine⟨⟨zo,λi hi=>zo⟩,by exact sK,rfl,?_⟩;rintro k ⟨hk,bR⟩;refine c6 ?_;rw[aK];refine sS (λh=>?_) λh=>?_
 ·have al:k<P.aG.length:=sO;refine sL (oz P (k:=k) zo al) ?_;refine sL (oz P (k:=k) zo al) ?_;refine .inr (.inl ⟨_,_,.cons _ _ _ _ (oJ (l:=[P.src k,P.dst k]) rfl rfl) (.cons _ _ _ _ (.refl _) .nil),zyJ [P.src k,P.dst k] zs P.nodes.length,rfl,?_⟩);refine sW ?_;rw[zth];refine sS (λh3=>?_) λh3=>?_
  ·exact fin (by
    unfold af.aS;rw[ab c1,ab c2,ae];intro q;rw[q k al] at h3;cases h3)
  refine sI ?_;refine⟨k+1,⟨zo,λi hi=>?_⟩,zd,?_⟩
  ·by_cases e:i=k
   ·subst e;simpa using h3
   exact bR i zo
  exact aR 1 zs rfl sQ sQ
 have sj:k=P.aG.length:=by have:¬k<P.aG.length:=sO
                           omega
 subst sj;have c3:¬¬∀i,i<P.aG.length->P.oj i:=λq=>q bR;refine sS (λh4=>?_) λh4=>?_
 ·have h4:P.mA P.nodes.length≠1:=sO;exact fin<|by unfold af.aS;rw[ab c1,ab c2,ab c3,ae h4]
 have h4:P.mA P.nodes.length=1:=sO;have cE:=P.Oq P.nodes.length zo;have c4:¬P.mA P.nodes.length≠1:=λq=>q h4;clear h hk;refine bt [1,3,4] (λk:Nat=>[(9,aa k)]) (λ_=>[]) (λk=>k<=P.nodes.length/\∀i,i<k->P.ou i=true) (λk=>P.nodes.length-k) 0 ?_;refine sW ?_;refine⟨⟨zo,λi hi=>zo⟩,by exact sK,rfl,?_⟩;rintro k ⟨hk,aC⟩;refine br (λh=>?_) λh=>?_
 ·have al:k<P.nodes.length:=sO;refine sC (J6 P hP zo k) ?_;refine sC (Ot P hP zo k) ?_;rw[aK,aK];have no:P.ou k=false->Deep [ao.row true P.cells] (aa 1) (aa P.aS):=λh5=>fin (by
    unfold af.aS;rw[ab c1,ab c2,ab c3,ab c4,ae];intro q;rw[q k al] at h5;cases h5)
  have yes:P.ou k->∀i,i<k+1->P.ou i:=λh5 i hi=>by
   by_cases e:i=k
   ·subst e;exact h5
   exact aC i zo
  have eOK:P.ou k=af.AQ (P.kind k) (P.bC k).length (P.cn k).length:=rfl;generalize (P.bC k).length=a at eOK⊢;generalize (P.cn k).length=b at eOK⊢;have hi:dQ .i64 ((k:Int)+1):=zuJ al zo;have hkr:1<=P.kind k/\P.kind k<=7:=zo6 (af.Dy.1 (Classical.not_not.1 c2) k al);generalize hK:P.kind k=K at eOK hkr;have hn:∀{z:Nat},z=k->(P.nodes.map ke)[z]? = some [.sc (.string (P.name k)),aa K]:=λh=>hK▸ka P h al;generalize P.ou k=ok at eOK no yes;have L7:ok=true->k+1<=P.nodes.length/\∀i,i<k+1->P.ou i=true:=λh=>⟨zo,yes h⟩;clear bF h1 h2 c1 c2 c3 c4 h4 cE aC bR fin b1 b2 yes hK h hP
  repeat' (first
   |(refine⟨zo,_,hn zo,?_⟩;refine sW ?_)
   |refine sS (λh=>?_) λh=>?_
   |exact no (by rw[eOK];clear no L7 hn eOK hk al hi;unfold af.AQ;simp_all;try omega)
   |(refine .inl ⟨hi,?_⟩;refine sW ?_)
   |exact⟨k+1,L7 (by rw[eOK];clear no L7 hn eOK hk al hi;unfold af.AQ;simp_all;try omega),zd,aL (by exact sK) rfl⟩)
 have sj:k=P.nodes.length:=by have:¬k<P.nodes.length:=sO
                              omega
 subst sj;have c5:¬¬∀i,i<P.nodes.length->P.ou i:=λq=>q aC;clear h hk aC;refine⟨zo,zo,zo,?_⟩;rw[bQ,show List.replicate P.nodes.length (List.map D.sc [Value.bool false])=bV P.nodes.length (λ_=>false) from lS _];refine bE ?_;refine⟨_,bj (P.kR P.nodes.length).toNat zo zo,?_⟩;refine sW ?_;rw[qE (v:=(P.kR P.nodes.length).toNat) zo];have s0:dH (mark (λ_=>false) (P.kR P.nodes.length).toNat) P.nodes.length+1<=P.nodes.length:=by
  have:=oS (s:=λ_=>false) (s':=mark (λ_=>false) (P.kR P.nodes.length).toNat) (n:=P.nodes.length) (i:=(P.kR P.nodes.length).toNat) zo (λj _ h=>by cases h) rfl (lq _ _);have:=yj (λ_=>false) P.nodes.length;omega
 refine bt [1,3,13] (λ((r,s):Nat×ay)=>[(14,aa r)]) (λ(r,s)=>[(1,.vec true 0 1<|bV P.nodes.length s)]) (λ(r,s)=>r<=P.nodes.length/\s (P.kR P.nodes.length).toNat=true/\(∀v,s v->P.CH v)/\(I8 P s\/dH s P.nodes.length+r+1<=P.nodes.length)) (λ(r,s)=>P.nodes.length-r) (0,mark (λ_=>false) (P.kR P.nodes.length).toNat) ?_;refine sW ?_;refine⟨⟨zo,lq _ _,λv hv=>?_,.inr zo⟩,by exact sK,rfl,?_⟩
 ·rcases oE.1 hv with q|q
  ·subst q;exact .base zs
  cases q
 rintro⟨r,s⟩ ⟨hr,Ur,xV,gw⟩;refine br (λh=>?_) λh=>?_
 ·have Is:r<P.nodes.length:=sO;refine bt [1,3,13,14] (λ((j,s'):Nat×ay)=>[(15,aa j)]) (λ(j,s')=>[(1,.vec true 0 1<|bV P.nodes.length s')]) (λ(j,s')=>j<=P.aG.length/\s' (P.kR P.nodes.length).toNat=true/\(∀v,s' v->P.CH v)/\(I8 P s->s'=s)/\((s'=s/\∀i,i<j->s (P.src i).toNat->s (P.dst i).toNat)\/dH s' P.nodes.length<dH s P.nodes.length)) (λ(j,s')=>P.aG.length-j) (0,s) ?_;refine sW ?_;refine⟨⟨zo,Ur,xV,λ_=>rfl,.inl ⟨rfl,λi hi=>zo⟩⟩,by exact sK,rfl,?_⟩;rintro⟨j,s'⟩ ⟨hj,Ka,Ho,heq,Iy⟩;refine c6 ?_;rw[aK];refine sS (λh6=>?_) λh6=>?_
  ·have jf:j<P.aG.length:=sO;have ho:=af.x3.1<|bR j jf;refine sL (oz P (k:=j) zo jf) ?_;refine sB ?_;refine⟨_,bj (P.src j).toNat zo zo,?_⟩;refine sWS (λh7=>?_) λh7=>?_
   ·refine sL (oz P (k:=j) zo jf) ?_;refine sB ?_;refine⟨_,bj (P.dst j).toNat zo zo,?_⟩;refine bb ?_;refine⟨(j+1,mark s' (P.dst j).toNat),⟨zo,gg Ka,λv hv=>?_,λhc=>?_,?_⟩,zd,aL (by exact sK) ?_⟩
    ·rcases oE.1 hv with q|q
     ·subst q;exact .step (Ho _ h7)<|(af.GO bR).2 ⟨j,jf,zo,rfl⟩
     exact Ho v q
    ·have e:=heq hc;subst e;exact Uy<|hc j jf h7
    ·cases hd:s' (P.dst j).toNat with
     |true =>
      rw[Uy hd];refine Iy.imp_left λ⟨q1,q2⟩=>⟨q1,λi hi=>?_⟩;by_cases e:i=j
      ·subst e;subst q1;exact λ_=>hd
      exact q2 i zo
     |false =>
      refine .inr ?_;have:=oS (s:=s') (s':=mark s' (P.dst j).toNat) (n:=P.nodes.length) (i:=(P.dst j).toNat) zo (λ_ _ h=>gg h) hd<|lq _ _;rcases Iy with⟨q,_⟩|q
      ·subst q;exact this
      omega
    rw[qE (v:=(P.dst j).toNat) zo];rfl
   refine sI ?_;refine⟨(j+1,s'),⟨zo,Ka,Ho,heq,Iy.imp_left λ⟨q1,q2⟩=>⟨q1,λi hi=>?_⟩⟩,zd,aL (by exact sK) rfl⟩;by_cases e:i=j
   ·subst e;subst q1;intro q;rw[q] at h7;cases h7
   exact q2 i zo
  have Z4:j=P.aG.length:=by have:¬j<P.aG.length:=sO
                            omega
  subst Z4;refine sI ?_;refine⟨(r+1,s'),⟨zo,Ka,Ho,?_⟩,zd,aL (by exact sK) rfl⟩;rcases Iy with⟨q1,q2⟩|q
  ·subst q1;exact .inl q2
  rcases gw with hc|hc
  ·have e:=heq hc;subst e;exact .inl hc
  exact .inr zo
 have Jm:r=P.nodes.length:=by have:¬r<P.nodes.length:=sO
                              omega
 subst Jm;have hc:I8 P s:=gw.resolve_right zo;have hB:=λv=>zlr bR Ur hc xV v;rw[jS (g':=nE (P.graph P.aG.length) [P.kR P.nodes.length]) λi _=>hB i];refine .inr (.inl ⟨_,_,.cons _ _ _ _ (s5 rfl) (.cons _ _ _ _ (.refl _) .nil),Ti _ (nE (P.graph P.aG.length) [P.kR P.nodes.length]) zo false,rfl,?_⟩);refine sWS (λh6=>?_) λh6=>?_
 ·obtain⟨v,q1,q2⟩:=HW.1 h6;exact fin (by
   unfold af.aS;rw[ab c1,ab c2,ab c3,ab c4,ab c5,ae];intro q;rw[ry.2<|q v q1] at q2;cases q2)
 exact fin (by
  unfold af.aS;rw[ab c1,ab c2,ab c3,ab c4,ab c5,ab];intro q;refine q λv hv=>?_;unfold af.CH;rw[<-ry,<-Bool.not_eq_false];intro q2;rw[HW.2 ⟨v,hv,q2⟩] at h6;cases h6)
end
section
noncomputable def af.mR(P:af)(n:Int):Int:=if P.aS≠0 then P.aS else if n<0\/(P.nodes.length:Int)<=n then 1 else 0
theorem jV{P:af}(h:P.aS=0):P.nodes.length<=20/\P.aG.length<=30:=by
 unfold af.aS at h;split at h
 ·exact absurd h zc
 omega
variable(P:af)
theorem Re(hP:P.Fits)(n:Int)(f:FuncId)(l:ah)(hl:P.mR n=0->ar ai f [cm P,aa n] (aO l))(hb:P.mR n≠0->l=[]) :
  ar ai 248 [cm P,aa n,.fn (.func f) [] []] (.aI [aO l,aa<|P.mR n]):=by
 have b1:=hP.nodes;refine bK fZ ?_;have bad:∀{H:aF} {e:Int},e≠0->P.mR n=e->Deep H (.aI [ax,aa e]) (.aI [aO l,aa<|P.mR n]):=λh k=>by
  rw[k,hb<|by rw[k];exact h];exact .aI _ _ (.cons _ _ _ _ (.none _) (.cons _ _ _ _ (.refl _) .nil))
 refine sR ?_;refine sC (QU P hP) ?_;refine sS (λh1=>?_) λh1=>?_
 ·have h1:P.aS≠0:=sO;exact bad h1<|by unfold af.mR;rw[ae h1]
 have h1:P.aS=0:=sO;refine sS (λh2=>?_) λh2=>?_
 ·exact bad zc<|by unfold af.mR;rw[ab zo,ae (.inl<|sO)]
 rw[aK];refine sS (λh3=>?_) λh3=>?_
 ·exact bad zc<|by unfold af.mR;rw[ab zo,ae (.inr<|sO)]
 have e:P.mR n=0:=by unfold af.mR;rw[ab zo,ab<|sO]
 refine sC (hl e) ?_;rw[e];exact .refl _
noncomputable def af.zA(P:af)(n:Int):ah:=if P.mR n=0 then P.bC n else []
noncomputable def af.yo(P:af)(n:Int):ah:=if P.mR n=0 then P.cn n else []
theorem GP(hP:P.Fits)(n:Int):ar ai 168 [cm P,aa n] (.aI [aO<|P.zA n,aa<|P.mR n]):=by
 refine bL ?_;refine sC (Re P hP n 165 (P.zA n) (λh=>by
  unfold af.zA;rw[ae h];refine WB P hP ?_ n;unfold af.mR at h;split at h
  ·rename_i q;exact absurd h q
  rename_i q;have:=jV<|Classical.not_not.1 q;omega) (λh=>by unfold af.zA;rw[ab h])) ?_
 exact .refl _
theorem Tl(hP:P.Fits)(n:Int):ar ai 169 [cm P,aa n] (.aI [aO<|P.yo n,aa<|P.mR n]):=by
 refine bL ?_;refine sC (Re P hP n 166 (P.yo n) (λh=>by
  unfold af.yo;rw[ae h];refine RQ P hP ?_ n;unfold af.mR at h;split at h
  ·rename_i q;exact absurd h q
  rename_i q;have:=jV<|Classical.not_not.1 q;omega) (λh=>by unfold af.yo;rw[ab h])) ?_
 exact .refl _
end
def c102:PC:=SO [Mv 6<|cS #[]] (.seq (SO [qm 7 0,Bi 8 .eql 7<|cI 63,qm 9 8,GT 10 9 (.move 2),Pk 11 9 10 cF]<|If 11<|SO [Mv 6<|cS #[115,105,108,101,110,116]] .ret) (.seq (SO [qm 12 0,Bi 13 .lss 12 K0,qm 14 13,GF 15 14 (.move 0),GF 16 14 (.move 1),GF 17 14 (.len 16),GF 18 14 (.bin .geq 15 17),Pk 19 14 cT 18,qm 20 19,GF 21 20 (.move 0),GF 22 20 (.bin .geq 21<|cI 63),Pk 23 20 cT 22,qm 24 23,GF 25 24 (.move 1),GF 26 24 (.move 0),GF 27 24 (.gZ 1 25 26),GF 28 24 (.cg 27),GF 29 24 (.call 35 [28]),GF 30 24 (.un .not 29),Pk 31 24 cT 30,qm 32 31,GF 33 32 (.move 1),GF 34 32 (.move 1),GF 35 32 (.move 0),GF 36 32 (.gZ 1 34 35),GF 37 32 (.cg 36),GF 38 32 (.call 174 [33,37]),GF 39 32 (.move 0),GF 40 32 (.bin .neq 38 39),Pk 41 32 cT 40]<|If 41<|SO [Mv 6<|cS #[]] .ret)<|SO [qm 42 1,qm 43 0,Ia 44 1 42 43,Lo 45 44,qm 6 45] .ret))
theorem YD(hs:oK names)(n:Int)(silent:Bool):ar ai 102 [aa n,dz names,aD silent] (.sc (.string<|rnm names silent n)):=by
 refine bK (fJ 46 [.tmp 6] c102 Tryz.func102) ?_;unfold dz;refine sR ?_;have eq:∀{s:aX},s=rnm names silent n->Deep [] (D.sc (.string s)) (.sc (.string<|rnm names silent n)):=λh=>h▸.refl _;cases e1:(n==63)
 ·have e1:n≠63:=(by simpa using e1);have g1:¬(n=63/\silent):=λh=>e1 h.1;refine sW ?_;cases e2:decide (n<0)
  ·refine sW ?_;rw[aK];cases e3:decide (n>=(names.length:Int))
   ·refine sW ?_;cases e4:decide (n>=63)
    ·have e2:¬n<0:=of_decide_eq_false e2;have e3:¬n>=(names.length:Int):=of_decide_eq_false e3;have e4:¬n>=63:=of_decide_eq_false e4;have hk:n.toNat<names.length:=zo;have g2:¬(n<0\/(names.length:Int)<=n\/63<=n):=zo;refine sW ?_;refine sL (qH hk) ?_;refine sC (FQ _<|hs.at hk) ?_;cases e5:iQ (names.getD n.toNat ⟨#[]⟩)
     ·refine sW ?_;exact eq<|by unfold rnm;rw[ab g1,ab g2,ae e5]
     refine sW ?_;refine sL (qH hk) ?_;refine sC (MN names _ hs.1) ?_;have hd:=OL hk;rw[show(n.toNat:Int)=n by omega] at hd;refine sS (λh4=>?_) λh4=>?_
     ·exact eq (by have:o8 names n.toNat<|names.getD n.toNat ⟨#[]⟩:=hd.1 (by simpa using h4)
                   unfold rnm;rw[ab g1,ab g2,ab<|by rw[e5];decide,ae this])
     refine sL (qH hk) ?_
     exact eq (by have:¬o8 names n.toNat (names.getD n.toNat ⟨#[]⟩):=λh=>hd.2 h (by simpa using h4)
                  unfold rnm;rw[ab g1,ab g2,ab<|by rw[e5];decide,ab this])
    refine sW ?_;exact eq<|by unfold rnm;rw[ab g1,ae<|by have:=qL e4;omega]
   refine sW ?_;exact eq<|by unfold rnm;rw[ab g1,ae<|by have:=qL e3;omega]
  refine sW ?_;exact eq<|by unfold rnm;rw[ab g1,ae<|by have:=qL e2;omega]
 have e1:n=63:=by simpa using e1
 subst e1;refine sW ?_;cases silent
 ·refine sW ?_;rw[aK];cases e3:decide ((63:Int)>=(names.length:Int))
  ·refine sW ?_;exact eq<|by simp[rnm]
  refine sW ?_;exact eq<|by simp[rnm]
 refine sW ?_;exact eq<|by simp[rnm,vi]
theorem SZ(k:Int):ar ai 98 [aa k]<|aD<|decide (k<=4):=by
 refine bL ?_;exact .refl _
def c101:PC:=SO [Mv 4 cF]<|SO [qm 5 0,Lo 6 1,Lo 7 2,Ca 8 102 [5,6,7],Bi 9 .eql 8<|cS #[],qm 4 9] .ret
theorem ta(hs:oK names)(silent:Bool)(n:Int):ar ai 101 [aa n,.aB [dz names],.aB [aD silent]]<|aD<|gU names silent n:=by
 refine bK (fJ 10 [.tmp 4] c101 Tryz.func101) ?_;refine sR ?_;refine sC (YD names hs n silent) ?_;exact .refl _
variable(x:cC)
theorem zkX(h:x.kind≠5/\x.kind≠6)(k:x.scope≠2/\x.scope≠3/\x.scope≠4/\x.scope≠5):cp ai 96 [jc x] [] (.aI [.own 1 0 0 1,ax]) [.row true<|cc x,.vec true 0 1<|aA [x.p]]:=by
 refine iV fZ zs zs ?_ (by simp[aq,au]) (by simp[ao.under,cc,au,bg,aq,aA]);refine sR ?_;rw[show(x.kind==5)=false from dr zo];refine sW ?_;rw[show(x.kind==6)=false from dr zo];refine sW ?_;rw[show(x.scope==2)=false from dr zo];refine sW ?_;rw[show(x.scope==3)=false from dr zo];refine sW ?_;rw[show(x.scope==4)=false from dr zo];refine sW ?_;rw[show(x.scope==5)=false from dr zo];refine sW ?_;exact aT _
theorem zkO(h:x.kind≠5/\x.kind≠6)(k:x.scope=2):cp ai 96 [jc x] [] (.aI [.own 1 0 0 1,.own 2 0 0 1]) [.row true<|cc x,.vec true 0 1<|aA [x.p],.vec true 0 1<|aA [x.r]]:=by
 refine iV fZ zs zs ?_ (by simp[aq,au]) (by simp[ao.under,cc,au,bg,aq,aA]);refine sR ?_;rw[show(x.kind==5)=false from dr zo];refine sW ?_;rw[show(x.kind==6)=false from dr zo];refine sW ?_;rw[show(x.scope==2)=true from gI zo];refine sW ?_;exact aT _
theorem zk1(h:x.kind≠5/\x.kind≠6)(k:x.scope=3):cp ai 96 [jc x] [] (.aI [.own 1 0 0 1,.own 2 0 0 1]) [.row true<|cc x,.vec true 0 1<|aA [x.p],.vec true 0 1<|aA [x.q]]:=by
 refine iV fZ zs zs ?_ (by simp[aq,au]) (by simp[ao.under,cc,au,bg,aq,aA]);refine sR ?_;rw[show(x.kind==5)=false from dr zo];refine sW ?_;rw[show(x.kind==6)=false from dr zo];refine sW ?_;rw[show(x.scope==2)=false from dr zo];refine sW ?_;rw[show(x.scope==3)=true from gI zo];refine sW ?_;exact aT _
theorem Ys(h:x.kind≠5/\x.kind≠6)(k:x.scope=4\/x.scope=5):cp ai 96 [jc x] [] (.aI [.own 1 0 0 1,.own 2 0 0 2]) [.row true<|cc x,.vec true 0 1<|aA [x.p],.vec true 0 1<|aA [x.q,x.r]]:=by
 refine iV fZ zs zs ?_ (by simp[aq,au]) (by simp[ao.under,cc,au,bg,aq,aA]);refine sR ?_;rw[show(x.kind==5)=false from dr zo];refine sW ?_;rw[show(x.kind==6)=false from dr zo];refine sW ?_;rcases k with k|k
 ·rw[show(x.scope==2)=false from dr zo];refine sW ?_;rw[show(x.scope==3)=false from dr zo];refine sW ?_;rw[show(x.scope==4)=true from gI zo];refine sW ?_;exact aT _
 rw[show(x.scope==2)=false from dr zo];refine sW ?_;rw[show(x.scope==3)=false from dr zo];refine sW ?_;rw[show(x.scope==4)=false from dr zo];refine sW ?_;rw[show(x.scope==5)=true from gI zo];refine sW ?_;exact aT _
theorem Yg(h:x.kind=5\/x.kind=6)(k:x.scope≠2/\x.scope≠3/\x.scope≠4/\x.scope≠5):cp ai 96 [jc x] [] (.aI [.own 2 0 0 2,ax]) [.row true<|cc x,.vec true 0 1<|aA [x.p],.vec true 0 1<|aA [x.s,x.p]]:=by
 refine iV fZ zs zs ?_ (by simp[aq,au]) (by simp[ao.under,cc,au,bg,aq,aA]);refine sR ?_;rcases h with h|h
 ·rw[show(x.kind==5)=true from gI zo];refine sW ?_;rw[show(x.scope==2)=false from dr zo];refine sW ?_;rw[show(x.scope==3)=false from dr zo];refine sW ?_;rw[show(x.scope==4)=false from dr zo];refine sW ?_;rw[show(x.scope==5)=false from dr zo];refine sW ?_;exact aT _
 rw[show(x.kind==5)=false from dr zo];refine sW ?_;rw[show(x.kind==6)=true from gI zo];refine sW ?_;rw[show(x.scope==2)=false from dr zo];refine sW ?_;rw[show(x.scope==3)=false from dr zo];refine sW ?_;rw[show(x.scope==4)=false from dr zo];refine sW ?_;rw[show(x.scope==5)=false from dr zo];refine sW ?_;exact aT _
theorem zkJ(h:x.kind=5\/x.kind=6)(k:x.scope=2):cp ai 96 [jc x] [] (.aI [.own 2 0 0 2,.own 3 0 0 1]) [.row true<|cc x,.vec true 0 1<|aA [x.p],.vec true 0 1<|aA [x.s,x.p],.vec true 0 1<|aA [x.r]]:=by
 refine iV fZ zs zs ?_ (by simp[aq,au]) (by simp[ao.under,cc,au,bg,aq,aA]);refine sR ?_;rcases h with h|h
 ·rw[show(x.kind==5)=true from gI zo];refine sW ?_;rw[show(x.scope==2)=true from gI zo];refine sW ?_;exact aT _
 rw[show(x.kind==5)=false from dr zo];refine sW ?_;rw[show(x.kind==6)=true from gI zo];refine sW ?_;rw[show(x.scope==2)=true from gI zo];refine sW ?_;exact aT _
theorem zlA(h:x.kind=5\/x.kind=6)(k:x.scope=3):cp ai 96 [jc x] [] (.aI [.own 2 0 0 2,.own 3 0 0 1]) [.row true<|cc x,.vec true 0 1<|aA [x.p],.vec true 0 1<|aA [x.s,x.p],.vec true 0 1<|aA [x.q]]:=by
 refine iV fZ zs zs ?_ (by simp[aq,au]) (by simp[ao.under,cc,au,bg,aq,aA]);refine sR ?_;rcases h with h|h
 ·rw[show(x.kind==5)=true from gI zo];refine sW ?_;rw[show(x.scope==2)=false from dr zo];refine sW ?_;rw[show(x.scope==3)=true from gI zo];refine sW ?_;exact aT _
 rw[show(x.kind==5)=false from dr zo];refine sW ?_;rw[show(x.kind==6)=true from gI zo];refine sW ?_;rw[show(x.scope==2)=false from dr zo];refine sW ?_;rw[show(x.scope==3)=true from gI zo];refine sW ?_;exact aT _
theorem zkD(h:x.kind=5\/x.kind=6)(k:x.scope=4\/x.scope=5):cp ai 96 [jc x] [] (.aI [.own 2 0 0 2,.own 3 0 0 2]) [.row true<|cc x,.vec true 0 1<|aA [x.p],.vec true 0 1<|aA [x.s,x.p],.vec true 0 1<|aA [x.q,x.r]]:=by
 refine iV fZ zs zs ?_ (by simp[aq,au]) (by simp[ao.under,cc,au,bg,aq,aA]);refine sR ?_;rcases h with h|h
 ·rw[show(x.kind==5)=true from gI zo];refine sW ?_;rcases k with k|k
  ·rw[show(x.scope==2)=false from dr zo];refine sW ?_;rw[show(x.scope==3)=false from dr zo];refine sW ?_;rw[show(x.scope==4)=true from gI zo];refine sW ?_;exact aT _
  rw[show(x.scope==2)=false from dr zo];refine sW ?_;rw[show(x.scope==3)=false from dr zo];refine sW ?_;rw[show(x.scope==4)=false from dr zo];refine sW ?_;rw[show(x.scope==5)=true from gI zo];refine sW ?_;exact aT _
 rw[show(x.kind==5)=false from dr zo];refine sW ?_;rw[show(x.kind==6)=true from gI zo];refine sW ?_;rcases k with k|k
 ·rw[show(x.scope==2)=false from dr zo];refine sW ?_;rw[show(x.scope==3)=false from dr zo];refine sW ?_;rw[show(x.scope==4)=true from gI zo];refine sW ?_;exact aT _
 rw[show(x.scope==2)=false from dr zo];refine sW ?_;rw[show(x.scope==3)=false from dr zo];refine sW ?_;rw[show(x.scope==4)=false from dr zo];refine sW ?_;rw[show(x.scope==5)=true from gI zo];refine sW ?_;exact aT _
section
variable(names:List aX)(hn:oK names)(name:aX)(sort:Int)(x:cC)(k a b c:Int)(f g:Tree)
include hn
theorem znK(h1:sort=1)(hk:x.kind≠5/\x.kind≠6)(hs:x.scope≠2/\x.scope≠3/\x.scope≠4/\x.scope≠5):ar ai 36 [cK name sort x k a b c f g,dz names]<|aa<|eJ names sort x k a b c f g:=by
 have hE:eJ names sort x k a b c f g=if ew x=0/\(kg x++kC x).any (gU names true)=true then 4 else ew x:=by unfold eJ;rw[ae h1]
 have hO:kg x=[x.p]:=by unfold kg;rw[ab zo]
 have hP:kC x=[]:=by unfold kC;rw[ab zo,ab zo,ab zo]
 rw[hO,hP] at hE;have nJ:=wP x;have hA:=zkX x hk hs;have hF:=mC (λn=>aa n) (λ_=>by simp[Pure]) ([x.p]++[]) zs (gU names true) 101 [.aB [dz names],.aB [aD true]] (by simp[an,Pure,jK]) λn _=>ta names hn true n;refine bK fZ ?_;rw[hE];unfold cK jC cc jc at *;refine sR ?_;rw[gI h1];refine sW ?_;refine sC nJ ?_;refine sE (ri hA (by simp[an,Pure,cc]) [3,4] rfl rfl (by simp[ao.aQ,bP,D.aQ];rfl)) ?_;refine sJ ?_;cases e:(ew x==0)
 ·refine sW ?_;exact cd<|bJ (λz=>aa z) (ab λh=>by have:=h.1;simp[this] at e).symm
 have e:ew x=0:=by simpa using e
 refine sW ?_;refine sN hF ?_;cases e2:([x.p]++[]).any<|gU names true
 ·refine sW ?_;exact cd<|bJ (λz=>aa z) (ab λh=>by cases h.2).symm
 refine sW ?_;exact cd<|bJ (λz=>aa z) (ae ⟨e,rfl⟩).symm
theorem zmv(h1:sort=1)(hk:x.kind≠5/\x.kind≠6)(hs:x.scope=2):ar ai 36 [cK name sort x k a b c f g,dz names]<|aa<|eJ names sort x k a b c f g:=by
 have hE:eJ names sort x k a b c f g=if ew x=0/\(kg x++kC x).any (gU names true)=true then 4 else ew x:=by unfold eJ;rw[ae h1]
 have hO:kg x=[x.p]:=by unfold kg;rw[ab zo]
 have hP:kC x=[x.r]:=by unfold kC;rw[ae zo]
 rw[hO,hP] at hE;have nJ:=wP x;have hA:=zkO x hk hs;have hF:=mC (λn=>aa n) (λ_=>by simp[Pure]) ([x.p]++[x.r]) zs (gU names true) 101 [.aB [dz names],.aB [aD true]] (by simp[an,Pure,jK]) λn _=>ta names hn true n;refine bK fZ ?_;rw[hE];unfold cK jC cc jc at *;refine sR ?_;rw[gI h1];refine sW ?_;refine sC nJ ?_;refine sE (ri hA (by simp[an,Pure,cc]) [3,4,5] rfl rfl (by simp[ao.aQ,bP,D.aQ];rfl)) ?_;refine sJ ?_;cases e:(ew x==0)
 ·refine sW ?_;exact cd<|bJ (λz=>aa z) (ab λh=>by have:=h.1;simp[this] at e).symm
 have e:ew x=0:=by simpa using e
 refine sW ?_;refine sN hF ?_;cases e2:([x.p]++[x.r]).any<|gU names true
 ·refine sW ?_;exact cd<|bJ (λz=>aa z) (ab λh=>by cases h.2).symm
 refine sW ?_;exact cd<|bJ (λz=>aa z) (ae ⟨e,rfl⟩).symm
theorem znu(h1:sort=1)(hk:x.kind≠5/\x.kind≠6)(hs:x.scope=3):ar ai 36 [cK name sort x k a b c f g,dz names]<|aa<|eJ names sort x k a b c f g:=by
 have hE:eJ names sort x k a b c f g=if ew x=0/\(kg x++kC x).any (gU names true)=true then 4 else ew x:=by unfold eJ;rw[ae h1]
 have hO:kg x=[x.p]:=by unfold kg;rw[ab zo]
 have hP:kC x=[x.q]:=by unfold kC;rw[ab zo,ae zo]
 rw[hO,hP] at hE;have nJ:=wP x;have hA:=zk1 x hk hs;have hF:=mC (λn=>aa n) (λ_=>by simp[Pure]) ([x.p]++[x.q]) zs (gU names true) 101 [.aB [dz names],.aB [aD true]] (by simp[an,Pure,jK]) λn _=>ta names hn true n;refine bK fZ ?_;rw[hE];unfold cK jC cc jc at *;refine sR ?_;rw[gI h1];refine sW ?_;refine sC nJ ?_;refine sE (ri hA (by simp[an,Pure,cc]) [3,4,5] rfl rfl (by simp[ao.aQ,bP,D.aQ];rfl)) ?_;refine sJ ?_;cases e:(ew x==0)
 ·refine sW ?_;exact cd<|bJ (λz=>aa z) (ab λh=>by have:=h.1;simp[this] at e).symm
 have e:ew x=0:=by simpa using e
 refine sW ?_;refine sN hF ?_;cases e2:([x.p]++[x.q]).any<|gU names true
 ·refine sW ?_;exact cd<|bJ (λz=>aa z) (ab λh=>by cases h.2).symm
 refine sW ?_;exact cd<|bJ (λz=>aa z) (ae ⟨e,rfl⟩).symm
theorem zm9(h1:sort=1)(hk:x.kind≠5/\x.kind≠6)(hs:x.scope=4\/x.scope=5):ar ai 36 [cK name sort x k a b c f g,dz names]<|aa<|eJ names sort x k a b c f g:=by
 have hE:eJ names sort x k a b c f g=if ew x=0/\(kg x++kC x).any (gU names true)=true then 4 else ew x:=by unfold eJ;rw[ae h1]
 have hO:kg x=[x.p]:=by unfold kg;rw[ab zo]
 have hP:kC x=[x.q,x.r]:=by unfold kC;rw[ab zo,ab zo,ae zo]
 rw[hO,hP] at hE;have nJ:=wP x;have hA:=Ys x hk hs;have hF:=mC (λn=>aa n) (λ_=>by simp[Pure]) ([x.p]++[x.q,x.r]) zs (gU names true) 101 [.aB [dz names],.aB [aD true]] (by simp[an,Pure,jK]) λn _=>ta names hn true n;refine bK fZ ?_;rw[hE];unfold cK jC cc jc at *;refine sR ?_;rw[gI h1];refine sW ?_;refine sC nJ ?_;refine sE (ri hA (by simp[an,Pure,cc]) [3,4,5] rfl rfl (by simp[ao.aQ,bP,D.aQ];rfl)) ?_;refine sJ ?_;cases e:(ew x==0)
 ·refine sW ?_;exact cd<|bJ (λz=>aa z) (ab λh=>by have:=h.1;simp[this] at e).symm
 have e:ew x=0:=by simpa using e
 refine sW ?_;refine sN hF ?_;cases e2:([x.p]++[x.q,x.r]).any<|gU names true
 ·refine sW ?_;exact cd<|bJ (λz=>aa z) (ab λh=>by cases h.2).symm
 refine sW ?_;exact cd<|bJ (λz=>aa z) (ae ⟨e,rfl⟩).symm
theorem zlP(h1:sort=1)(hk:x.kind=5\/x.kind=6)(hs:x.scope≠2/\x.scope≠3/\x.scope≠4/\x.scope≠5):ar ai 36 [cK name sort x k a b c f g,dz names]<|aa<|eJ names sort x k a b c f g:=by
 have hE:eJ names sort x k a b c f g=if ew x=0/\(kg x++kC x).any (gU names true)=true then 4 else ew x:=by unfold eJ;rw[ae h1]
 have hO:kg x=[x.s,x.p]:=by unfold kg;rw[ae zo]
 have hP:kC x=[]:=by unfold kC;rw[ab zo,ab zo,ab zo]
 rw[hO,hP] at hE;have nJ:=wP x;have hA:=Yg x hk hs;have hF:=mC (λn=>aa n) (λ_=>by simp[Pure]) ([x.s,x.p]++[]) zs (gU names true) 101 [.aB [dz names],.aB [aD true]] (by simp[an,Pure,jK]) λn _=>ta names hn true n;refine bK fZ ?_;rw[hE];unfold cK jC cc jc at *;refine sR ?_;rw[gI h1];refine sW ?_;refine sC nJ ?_;refine sE (ri hA (by simp[an,Pure,cc]) [3,4,5] rfl rfl (by simp[ao.aQ,bP,D.aQ];rfl)) ?_;refine sJ ?_;cases e:(ew x==0)
 ·refine sW ?_;exact cd<|bJ (λz=>aa z) (ab λh=>by have:=h.1;simp[this] at e).symm
 have e:ew x=0:=by simpa using e
 refine sW ?_;refine sN hF ?_;cases e2:([x.s,x.p]++[]).any<|gU names true
 ·refine sW ?_;exact cd<|bJ (λz=>aa z) (ab λh=>by cases h.2).symm
 refine sW ?_;exact cd<|bJ (λz=>aa z) (ae ⟨e,rfl⟩).symm
theorem znH(h1:sort=1)(hk:x.kind=5\/x.kind=6)(hs:x.scope=2):ar ai 36 [cK name sort x k a b c f g,dz names]<|aa<|eJ names sort x k a b c f g:=by
 have hE:eJ names sort x k a b c f g=if ew x=0/\(kg x++kC x).any (gU names true)=true then 4 else ew x:=by unfold eJ;rw[ae h1]
 have hO:kg x=[x.s,x.p]:=by unfold kg;rw[ae zo]
 have hP:kC x=[x.r]:=by unfold kC;rw[ae zo]
 rw[hO,hP] at hE;have nJ:=wP x;have hA:=zkJ x hk hs;have hF:=mC (λn=>aa n) (λ_=>by simp[Pure]) ([x.s,x.p]++[x.r]) zs (gU names true) 101 [.aB [dz names],.aB [aD true]] (by simp[an,Pure,jK]) λn _=>ta names hn true n;refine bK fZ ?_;rw[hE];unfold cK jC cc jc at *;refine sR ?_;rw[gI h1];refine sW ?_;refine sC nJ ?_;refine sE (ri hA (by simp[an,Pure,cc]) [3,4,5,6] rfl rfl (by simp[ao.aQ,bP,D.aQ];rfl)) ?_;refine sJ ?_;cases e:(ew x==0)
 ·refine sW ?_;exact cd<|bJ (λz=>aa z) (ab λh=>by have:=h.1;simp[this] at e).symm
 have e:ew x=0:=by simpa using e
 refine sW ?_;refine sN hF ?_;cases e2:([x.s,x.p]++[x.r]).any<|gU names true
 ·refine sW ?_;exact cd<|bJ (λz=>aa z) (ab λh=>by cases h.2).symm
 refine sW ?_;exact cd<|bJ (λz=>aa z) (ae ⟨e,rfl⟩).symm
theorem X8(h1:sort=1)(hk:x.kind=5\/x.kind=6)(hs:x.scope=3):ar ai 36 [cK name sort x k a b c f g,dz names]<|aa<|eJ names sort x k a b c f g:=by
 have hE:eJ names sort x k a b c f g=if ew x=0/\(kg x++kC x).any (gU names true)=true then 4 else ew x:=by unfold eJ;rw[ae h1]
 have hO:kg x=[x.s,x.p]:=by unfold kg;rw[ae zo]
 have hP:kC x=[x.q]:=by unfold kC;rw[ab zo,ae zo]
 rw[hO,hP] at hE;have nJ:=wP x;have hA:=zlA x hk hs;have hF:=mC (λn=>aa n) (λ_=>by simp[Pure]) ([x.s,x.p]++[x.q]) zs (gU names true) 101 [.aB [dz names],.aB [aD true]] (by simp[an,Pure,jK]) λn _=>ta names hn true n;refine bK fZ ?_;rw[hE];unfold cK jC cc jc at *;refine sR ?_;rw[gI h1];refine sW ?_;refine sC nJ ?_;refine sE (ri hA (by simp[an,Pure,cc]) [3,4,5,6] rfl rfl (by simp[ao.aQ,bP,D.aQ];rfl)) ?_;refine sJ ?_;cases e:(ew x==0)
 ·refine sW ?_;exact cd<|bJ (λz=>aa z) (ab λh=>by have:=h.1;simp[this] at e).symm
 have e:ew x=0:=by simpa using e
 refine sW ?_;refine sN hF ?_;cases e2:([x.s,x.p]++[x.q]).any<|gU names true
 ·refine sW ?_;exact cd<|bJ (λz=>aa z) (ab λh=>by cases h.2).symm
 refine sW ?_;exact cd<|bJ (λz=>aa z) (ae ⟨e,rfl⟩).symm
theorem zmq(h1:sort=1)(hk:x.kind=5\/x.kind=6)(hs:x.scope=4\/x.scope=5):ar ai 36 [cK name sort x k a b c f g,dz names]<|aa<|eJ names sort x k a b c f g:=by
 have hE:eJ names sort x k a b c f g=if ew x=0/\(kg x++kC x).any (gU names true)=true then 4 else ew x:=by unfold eJ;rw[ae h1]
 have hO:kg x=[x.s,x.p]:=by unfold kg;rw[ae zo]
 have hP:kC x=[x.q,x.r]:=by unfold kC;rw[ab zo,ab zo,ae zo]
 rw[hO,hP] at hE;have nJ:=wP x;have hA:=zkD x hk hs;have hF:=mC (λn=>aa n) (λ_=>by simp[Pure]) ([x.s,x.p]++[x.q,x.r]) zs (gU names true) 101 [.aB [dz names],.aB [aD true]] (by simp[an,Pure,jK]) λn _=>ta names hn true n;refine bK fZ ?_;rw[hE];unfold cK jC cc jc at *;refine sR ?_;rw[gI h1];refine sW ?_;refine sC nJ ?_;refine sE (ri hA (by simp[an,Pure,cc]) [3,4,5,6] rfl rfl (by simp[ao.aQ,bP,D.aQ];rfl)) ?_;refine sJ ?_;cases e:(ew x==0)
 ·refine sW ?_;exact cd<|bJ (λz=>aa z) (ab λh=>by have:=h.1;simp[this] at e).symm
 have e:ew x=0:=by simpa using e
 refine sW ?_;refine sN hF ?_;cases e2:([x.s,x.p]++[x.q,x.r]).any<|gU names true
 ·refine sW ?_;exact cd<|bJ (λz=>aa z) (ab λh=>by cases h.2).symm
 refine sW ?_;exact cd<|bJ (λz=>aa z) (ae ⟨e,rfl⟩).symm
theorem zmP(h1:sort=2)(hk:k<=4):ar ai 36 [cK name sort x k a b c f g,dz names]<|aa<|eJ names sort x k a b c f g:=by
 have hE:eJ names sort x k a b c f g=if jT k a b c=0/\(xf k a b).any (gU names false)=true then 4 else jT k a b c:=by unfold eJ;rw[ab zo,ae h1]
 have hO:xf k a b=[a]:=by unfold xf;rw[ae hk]
 rw[hO] at hE;have nJ:=L9 k a b c;have hA:=SZ k;rw[show decide (k<=4)=true by simpa using hk] at hA;have hF:=mC (λn=>aa n) (λ_=>by simp[Pure]) [a] zs (gU names false) 101 [.aB [dz names],.aB [aD false]] (by simp[an,Pure,jK]) λn _=>ta names hn false n;refine bK fZ ?_;rw[hE];unfold cK jC cc iN uk at *;refine sR ?_;rw[dr<|show sort≠1 by omega];refine sW ?_;rw[gI h1];refine sW ?_;refine sC nJ ?_;refine sC hA ?_
 skip
 refine sW ?_;cases e:(jT k a b c==0)
 ·refine sW ?_;exact cd<|bJ (λz=>aa z) (ab λh=>by have:=h.1;simp[this] at e).symm
 have e:jT k a b c=0:=by simpa using e
 refine sW ?_;refine sN hF ?_;cases e2:[a].any<|gU names false
 ·refine sW ?_;exact cd<|bJ (λz=>aa z) (ab λh=>by cases h.2).symm
 refine sW ?_;exact cd<|bJ (λz=>aa z) (ae ⟨e,rfl⟩).symm
theorem zmy(h1:sort=2)(hk:¬k<=4):ar ai 36 [cK name sort x k a b c f g,dz names]<|aa<|eJ names sort x k a b c f g:=by
 have hE:eJ names sort x k a b c f g=if jT k a b c=0/\(xf k a b).any (gU names false)=true then 4 else jT k a b c:=by unfold eJ;rw[ab zo,ae h1]
 have hO:xf k a b=[a,b]:=by unfold xf;rw[ab hk]
 rw[hO] at hE;have nJ:=L9 k a b c;have hA:=SZ k;rw[show decide (k<=4)=false by simpa using hk] at hA;have hF:=mC (λn=>aa n) (λ_=>by simp[Pure]) [a,b] zs (gU names false) 101 [.aB [dz names],.aB [aD false]] (by simp[an,Pure,jK]) λn _=>ta names hn false n;refine bK fZ ?_;rw[hE];unfold cK jC cc iN uk at *;refine sR ?_;rw[dr<|show sort≠1 by omega];refine sW ?_;rw[gI h1];refine sW ?_;refine sC nJ ?_;refine sC hA ?_;refine sJ ?_;cases e:(jT k a b c==0)
 ·refine sW ?_;exact cd<|bJ (λz=>aa z) (ab λh=>by have:=h.1;simp[this] at e).symm
 have e:jT k a b c=0:=by simpa using e
 refine sW ?_;refine sN hF ?_;cases e2:[a,b].any<|gU names false
 ·refine sW ?_;exact cd<|bJ (λz=>aa z) (ab λh=>by cases h.2).symm
 refine sW ?_;exact cd<|bJ (λz=>aa z) (ae ⟨e,rfl⟩).symm
theorem zpg(h1:sort=3)(hv:Small f):ar ai 36 [cK name sort x k a b c f g,dz names]<|aa<|eJ names sort x k a b c f g:=by
 have hE:eJ names sort x k a b c f g=if aS bz f=0 then (if cO names f then 0 else 4) else aS bz f:=by unfold eJ;rw[ab zo,ab zo,ae h1]
 have hR:=zrO names hn f hv;have hF:=mC (λn=>aa n) (λ_=>by simp[Pure]) [] zs (gU names false) 101 [.aB [dz names],.aB [aD false]] (by simp[an,Pure,jK]) λn _=>ta names hn false n;have hD:∃s,Cl names f=.aI [.sc (.string s),aa<|eJ names sort x k a b c f g]:=by
  rw[hE];unfold Cl;split
  ·split
   ·exact⟨_,rfl⟩
   exact⟨_,rfl⟩
  exact⟨_,rfl⟩
 obtain⟨s,hD⟩:=hD;rw[hD] at hR;refine bK fZ ?_;generalize eJ names sort x k a b c f g=e at *;unfold cK jC cc iN aN at *;refine sR ?_;rw[dr<|show sort≠1 by omega];refine sW ?_;rw[dr<|show sort≠2 by omega];refine sW ?_;rw[gI h1]
 skip
 skip
 refine sW ?_;refine sC hR ?_;cases e2:(e==0)
 ·refine sW ?_;exact .refl _
 refine sW ?_;refine sN hF ?_;exact .refl _
theorem zpu(h1:sort=4)(hv:Small g):ar ai 36 [cK name sort x k a b c f g,dz names]<|aa<|eJ names sort x k a b c f g:=by
 have hE:eJ names sort x k a b c f g=if aS dp g=0 then (if cO names g then 0 else 4) else aS dp g:=by unfold eJ;rw[ab zo,ab zo,ab zo,ae h1]
 have hR:=zsa names hn g hv;have hF:=mC (λn=>aa n) (λ_=>by simp[Pure]) [] zs (gU names false) 101 [.aB [dz names],.aB [aD false]] (by simp[an,Pure,jK]) λn _=>ta names hn false n;have hD:∃s,Ce names g=.aI [.sc (.string s),aa<|eJ names sort x k a b c f g]:=by
  rw[hE];unfold Ce;split
  ·split
   ·exact⟨_,rfl⟩
   exact⟨_,rfl⟩
  exact⟨_,rfl⟩
 obtain⟨s,hD⟩:=hD;rw[hD] at hR;refine bK fZ ?_;generalize eJ names sort x k a b c f g=e at *;unfold cK jC cc iN aN at *;refine sR ?_;rw[dr<|show sort≠1 by omega];refine sW ?_;rw[dr<|show sort≠2 by omega];refine sW ?_;rw[dr<|show sort≠3 by omega];refine sW ?_;rw[gI h1];refine sW ?_;refine sC hR ?_;cases e2:(e==0)
 ·refine sW ?_;exact .refl _
 refine sW ?_;refine sN hF ?_;exact .refl _
theorem zrZ(h1:1<=sort/\sort<=4)(hf:Small f)(hg:Small g):ar ai 36 [cK name sort x k a b c f g,dz names]<|aa<|eJ names sort x k a b c f g:=by
 by_cases s1:sort=1
 ·by_cases hk:x.kind=5\/x.kind=6
  ·by_cases e2:x.scope=2
   ·exact znH names hn name sort x k a b c f g s1 hk e2
   by_cases e3:x.scope=3
   ·exact X8 names hn name sort x k a b c f g s1 hk e3
   by_cases e4:x.scope=4\/x.scope=5
   ·exact zmq names hn name sort x k a b c f g s1 hk e4
   exact zlP names hn name sort x k a b c f g s1 hk zo
  by_cases e2:x.scope=2
  ·exact zmv names hn name sort x k a b c f g s1 zo e2
  by_cases e3:x.scope=3
  ·exact znu names hn name sort x k a b c f g s1 zo e3
  by_cases e4:x.scope=4\/x.scope=5
  ·exact zm9 names hn name sort x k a b c f g s1 zo e4
  exact znK names hn name sort x k a b c f g s1 zo zo
 by_cases s2:sort=2
 ·by_cases hk:k<=4
  ·exact zmP names hn name sort x k a b c f g s2 hk
  exact zmy names hn name sort x k a b c f g s2 hk
 by_cases s3:sort=3
 ·exact zpg names hn name sort x k a b c f g s3 hf
 exact zpu names hn name sort x k a b c f g zo hg
end
def c8:PC:=SO [Bx 2 0,Mv 4 K0] (.seq (SO [Fa 7 0 2,Lo 8 7,Ca 9 35 [8],Nt 10 9,qm 11 10,GF 12 11 (.dO 1 2),GF 13 11 (.cg 12),GF 14 11 (.bin .lss 13 K1),Pk 15 11 cT 14,qm 16 15,GF 17 16 (.dO 1 2),GF 18 16 (.cg 17),GF 19 16 (.bin .gtr 18 K4),Pk 20 16 cT 19]<|If 20<|SO [Mv 4 K1] .ret) (.seq (SO [LA 21 19 2,qm 22 1,Ca 23 36 [21,22],qm 5 23]<|SO [qm 24 5,Bi 25 .neq 24 K0]<|If 25<|SO [qm 26 5,qm 4 26] .ret)<|SO [Fa 27 1 2,Lo 28 27,Bi 29 .neq 28 K1,qm 30 29,GT 31 30 (.dO 2 2),GT 32 30 (.mF 7 31),GT 33 30 (.build [v0,v0,v0,v0,v0,v0,v0] []),GT 34 30 (.eqa true [0,0,0,0,0,0,0] 32 33),Pk 35 30 34 cF,qm 36 35,GF 37 36 (.dO 1 2),GF 38 36 (.cg 37),GF 39 36 (.bin .neq 38 K2),GF 40 36 (.move 39),GT 41 40 (.dO 9 2),GT 42 40 (.mF 4 41),GT 43 40 (.build [v0,v0,v0,v0] []),GT 44 40 (.eqa true [0,0,0,0] 42 43),GF 45 36 (.pick 40 44 cF),Pk 46 36 cT 45,qm 6 46]<|SO [qm 47 6,qm 48 47,GF 49 48 (.dO 1 2),GF 50 48 (.cg 49),GF 51 48 (.bin .neq 50 K3),GF 52 48 (.move 51),GT 53 52 (.dO 13 2),GT 54 52 (.dO 0 53),GT 55 52 (.cg 54),GT 56 52 (.bin .neq 55 K0),GT 57 52 (.move 56),GF 58 57 (.dO 13 2),GF 59 57 (.dO 1 58),GF 60 57 (.cg 59),GF 61 57 (.bin .neq 60 K0),GT 62 52 (.pick 57 cT 61),GT 63 52 (.move 62),GF 64 63 (.dO 13 2),GF 65 63 (.dO 2 64),GF 66 63 (.cg 65),GF 67 63 (.len 66),GF 68 63 (.bin .gtr 67 K0),GT 69 52 (.pick 63 cT 68),GF 70 48 (.pick 52 69 cF),Pk 71 48 cT 70,qm 6 71] (.seq (SO [qm 72 6,qm 73 72,GF 74 73 (.dO 1 2),GF 75 73 (.cg 74),GF 76 73 (.bin .neq 75 K4),GF 77 73 (.move 76),GT 78 77 (.dO 16 2),GT 79 77 (.dO 0 78),GT 80 77 (.cg 79),GT 81 77 (.bin .neq 80 K0),GT 82 77 (.move 81),GF 83 82 (.dO 16 2),GF 84 82 (.dO 1 83),GF 85 82 (.cg 84),GF 86 82 (.bin .neq 85 K0),GT 87 77 (.pick 82 cT 86),GT 88 77 (.move 87),GF 89 88 (.dO 16 2),GF 90 88 (.dO 2 89),GF 91 88 (.cg 90),GF 92 88 (.len 91),GF 93 88 (.bin .gtr 92 K0),GT 94 77 (.pick 88 cT 93),GF 95 73 (.pick 77 94 cF),Pk 96 73 cT 95]<|If 96<|SO [Mv 4 K1] .ret)<|SO [Mv 4 K0] .ret)))
theorem JD(hn:oK names)(name:aX)(gp:name.size<=9223372036854775807)(sort:Int)(x:cC)(k a b c:Int)(f g:Tree)(hf:Small f)(hg:Small g) :
  ar ai 8 [cK name sort x k a b c f g,dz names] (aa<|fH names name sort x k a b c f g):=by
 have hN:=FQ name gp;refine bK (fJ 97 [.tmp 4] c8 Tryz.func8) ?_;have fin:∀{H:aF} {z:Int},z=fH names name sort x k a b c f g->Deep H (aa z) (aa<|fH names name sort x k a b c f g):=λh=>h▸.refl _;by_cases hs:1<=sort/\sort<=4
 ·have hP:=zrZ names hn name sort x k a b c f g hs hf hg;unfold cK jC cc iN aN at *;refine sR ?_;refine sC hN ?_;cases e1:iQ name
  ·refine sW ?_;exact fin<|by unfold fH;rw[ae (.inl e1)]
  refine sW ?_;rw[show decide (sort<1)=false from gM zo];refine sW ?_;rw[show decide (sort>4)=false from gM zo];refine sW ?_;refine sC hP ?_;refine sS (λe2=>?_) λe2=>?_
  ·have e2:eJ names sort x k a b c f g≠0:=(by simpa using e2);exact fin<|by unfold fH;rw[ab<|by rw[e1];simp;omega,ae e2]
  have e2:eJ names sort x k a b c f g=0:=(by simpa using e2);have hE:fH names name sort x k a b c f g=if wZ sort x k a b c f g=true then 1 else 0:=by unfold fH;rw[ab<|by rw[e1];simp;omega,ab<|by simp[e2]]
  rw[hE];clear fin hE hP hN e2 e1 hn gp;have h4:sort=1\/sort=2\/sort=3\/sort=4:=zo;clear hs;rcases h4 with rfl|rfl|rfl|rfl
  all_goals
   refine sW ?_
   repeat' (first
    |exact cd (bJ (λz=>D.sc (.int .i64 z)) (by simp_all [wZ,tQ,Tree.width]<;>(intros;omega)))
    |(split<;>(rename_i _ heq;(try rw[heq]);refine sW ?_))
    |(refine ub (λh=>?_) (λh=>?_)<;>((try rw[h]);refine sW ?_)))
 have hE:fH names name sort x k a b c f g=1:=by unfold fH;rw[ae zo]
 unfold cK jC cc iN aN at *;refine sR ?_;refine sC hN ?_;cases e1:iQ name
 ·refine sW ?_;exact fin hE.symm
 refine sW ?_;cases e2:decide (sort<1)
 ·refine sW ?_;rw[show decide (sort>4)=true from ia<|by have:=of_decide_eq_false e2;omega];refine sW ?_;exact fin hE.symm
 refine sW ?_;exact fin hE.symm

abbrev b7:=Int×Int×Int
def qb:Nat->Int
 |0=>0
 |k+1=>qb k*2+1
theorem H7:∀k,qb k+1=2^k
 |0=>rfl
 |k+1=>by have:=H7 k;simp only[qb];rw[Int.pow_succ];omega
theorem Fx(h:k<=n):(2:Int)^k<=2^n:=by
 have:=Ae (n:=2) zc h;have h1:((2^k:Nat):Int)=2^k:=zs;have h2:((2^n:Nat):Int)=2^n:=zs;rw[<-h1,<-h2]
 exact_mod_cast this
theorem JJ(k:Nat):(1:Int)<=2^k:=Fx<|jr k
theorem C0(h:k<=n):0<=qb k/\qb k<=qb n:=by
 have h1:=H7 k;have h2:=H7 n;have h3:=Fx h;have h4:=JJ k;omega
def orS(n:Int):Nat->List b7
 |0=>[]
 |k+1=>orS n k++[(n,-1,(k:Int)+1)]
def wa(n i:Int):Nat->List b7
 |0=>[]
 |k+1=>wa n i k++[(n,i,2^k)]
theorem Tt(n:Int):∀k,(orS n k).length=k
 |0=>rfl
 |k+1=>by simp[orS,Tt n k]
theorem Vv(n i:Int):∀k,(wa n i k).length=k
 |0=>rfl
 |k+1=>by simp[wa,Vv n i k]
namespace af
def gd(P:af)(n:Int):Int:=qb (P.cn n).length
def mG(P:af)(k:Int)(n i:Int):List b7:=if k=5 then wa n i (P.cn n).length else [(n,i,P.gd n)]
def kO(P:af)(k:Int)(n:Int):Nat->List b7
 |0=>[]
 |j+1=>P.kO k n j++P.mG k n ((P.bC n).getD j 0)
def uJ(P:af)(n:Nat):List b7 :=
 if P.kind n=4\/P.kind n=5\/P.kind n=2\/P.kind n=3 then P.kO (P.kind n) n (P.bC n).length
 else if P.kind n=6 then [((n:Int),-1,P.gd n)]
 else if P.kind n=7 then orS n (P.gd n).toNat
 else []
def ng(P:af):Nat->List b7
 |0=>[]
 |n+1=>P.ng n++P.uJ n
theorem BE(P:af)(k n:Int)(ho:(P.cn n).length<=30):∀j,(P.kO k n j).length<=30*j
 |0=>by simp[kO]
 |j+1=>by
  have:=BE P k n ho j;simp only[kO,mG,cq];split
  ·rw[Vv];omega
  simp;omega
variable{P:af}
theorem LX(h:P.ou n)(hk:P.kind n=7):(P.gd n).toNat<=15:=by
 unfold ou AQ at h;rw[hk] at h;simp only[if_false,if_true,fY,ja,(by decide:¬(7:Int)=1),(by decide:¬((7:Int)=2\/(7:Int)=3)),(by decide:¬(7:Int)=4)] at h;have:=(C0 (k:=(P.cn n).length) (n:=4) zo).2;have e:qb 4=15:=rfl;unfold gd;omega
theorem MY(h:P.ou n)(hf:P.aG.length<=30):(P.uJ n).length<=900:=by
 have l1:=P.Au n;have l2:=P.AN n;unfold uJ;split
 ·have:=P.BE (P.kind n) n zo (P.bC n).length;omega
 split
 ·simp
 split
 ·rw[Tt];have:=LX h (by assumption);omega
 simp
theorem Mk{P:af}(hf:P.aG.length<=30):∀n,(∀i,i<n->P.ou i)->(P.ng n).length<=900*n
 |0,_=>by simp[ng]
 |n+1,h=>by
  have:=Mk hf n λi hi=>h i zo;have:=MY (h n zo) hf;simp only[ng,cq];omega
theorem Np(h:P.aS=0):∀i,i<P.nodes.length->P.ou i:=by
 unfold aS at h;repeat' (split at h)
 all_goals first|(exact absurd h zc)|(exact absurd h<|by assumption)|skip
 all_goals exact Classical.not_not.1<|by assumption
noncomputable def dI(P:af):Int:=if P.aS≠0 then P.aS else if 60<(P.ng P.nodes.length).length then 2 else 0
noncomputable def bd(P:af):List b7:=if P.dI=0 then P.ng P.nodes.length else []
end af
section
def wv(x:b7):bh:=[aa x.1,aa x.2.1,aa x.2.2]
def iw(l:List b7):fE:=l.map wv
def m4(l:List b7):D:=.aM 3<|iw l
@[simp] theorem zsK(x:b7):an<|wv x:=by simp[wv,an,Pure]
variable(l:List b7)
@[simp] theorem Tw:fc<|iw l:=db _ zsK l
@[simp] theorem IG:Pure<|m4 l:=by simp[m4,Pure,Tw]
theorem zh:(iw l).length=l.length:=by simp[iw]
@[simp] theorem zvS:bg m (iw l)↔True:=⟨λ_=>trivial,λ_=>aV _<|Tw l⟩
variable{l:List b7}{c:Nat}{z:Int}
theorem uP{x y:Int}(h:c=l.length):List.drop 0 (List.take c<|iw l)++[[aa x,aa y,aa z]]=iw (l++[(x,y,z)]):=by
 subst h;rw[cx<|by simp[iw]];simp[iw,wv]
theorem zu8{r:List b7}(h:c=l.length):List.drop 0 (List.take c<|iw l)++iw r=iw (l++r):=by
 subst h;rw[cx<|by simp[iw]];simp[iw]
theorem yb{id:Nat}{q:Bool}(hn:n=l.length)(h:H[id]? = some (.vec q v 3<|iw l)):Deep H (.own id v 0 n)<|m4 l:=by
 subst hn;exact .own _ _ _ _ _ _ _ _ h<|by rw[cx<|by simp[iw]];exact iX _
theorem Kz(hk:z=k)(h:k<=30):(1:Int)*2^min z.toNat IntKind.i64.bits=2^k:=by
 subst hk;show(1:Int)*2^min (k:Int).toNat 64=2^k;rw[Int.one_mul,bQ,sq zo]
theorem Le(h:k<=30):(1:Int)<=2^k/\(2:Int)^k<=1073741824:=⟨JJ k,Fx (n:=30) h⟩
theorem zvG(P:af)(hP:P.Fits)(h0:P.aS=0)(n:Nat)(hn:n<P.nodes.length):ar ai 94 [cm P,aa n]<|m4<|P.uJ n:=by
 obtain⟨nH,mQ⟩:=jV h0;have l1:=P.Au n;have l2:=P.AN n;have hE:P.mR n=0:=by unfold af.mR;rw[ab zo,ab zo]
 have hI:=GP P hP n;have hO:=Tl P hP n;rw[show P.zA n=P.bC n from by unfold af.zA;rw[ae hE],hE] at hI;rw[show P.yo n=P.cn n from by unfold af.yo;rw[ae hE],hE] at hO;have aC:=af.Np h0 n hn;refine bL ?_;refine sC hI ?_;refine sC hO ?_;have e2:=H7 (P.cn n).length;have e3:=Le (k:=(P.cn n).length) zo;have ea:qb (P.cn n).length=P.gd n:=rfl;have ei:∀k,P.kO (P.kind n) n (k+1)=P.kO (P.kind n) n k++P.mG (P.kind n) n ((P.bC n).getD k 0):=λk=>rfl;rw[ea] at e2;refine⟨zo,?_⟩;rw[aK,Kz (k:=(P.cn n).length) rfl zo];refine sI ?_;refine sI ?_;rw[<-e2,Int.add_sub_cancel];refine sL (ka P (k:=n) zo hn) ?_
 have eS:P.uJ n=if P.kind n=4\/P.kind n=5\/P.kind n=2\/P.kind n=3 then P.kO (P.kind n) n (P.bC n).length
  else if P.kind n=6 then [((n:Int),-1,P.gd n)] else if P.kind n=7 then orS n (P.gd n).toNat else []:=rfl
 refine sS (λh4=>?_) λh4=>?_
 ·have h4:P.kind n=4:=sO;rw[ae zo] at eS;have e5:∀i:Int,P.mG (P.kind n) n i=[((n:Int),i,P.gd n)]:=λi=>by unfold af.mG;rw[ab zo]
  refine sW ?_;rw[aK];refine b8 (fL 10 3 zs rfl) ?_;refine bt [1,9,43,44] (λ((k,c,l):Nat×Nat×List b7)=>[(10,.own 1 c 0 c),(45,aa k)]) (λ(k,c,l)=>[(1,.vec true c 3<|iw l)]) (λ(k,c,l)=>k<=(P.bC n).length/\c=l.length/\c=k/\l=P.kO (P.kind n) n k) (λ(k,c,l)=>(P.bC n).length-k) (0,0,[]) ?_;refine sW ?_;refine⟨⟨zo,rfl,rfl,rfl⟩,by exact sK,rfl,?_⟩;rintro⟨k,c,l⟩ ⟨hk,hc,ow,hl⟩;refine br (λh1=>?_) λh1=>?_
  ·have al:k<(P.bC n).length:=sO;refine sL (cA (k:=k) zo al) ?_;refine fA ?_;refine⟨(k+1,c+1,l++[((n:Int),(P.bC n).getD k 0,P.gd n)]),⟨zo,by simp[hc],zo,by rw[ei,e5,hl]⟩,zd,?_⟩;refine aR 2 zs rfl sQ (sU ?_);exact aZ<|uP hc
  have al:k=(P.bC n).length:=by have:¬k<(P.bC n).length:=sO
                                omega
  subst al;rw[eS,<-hl];exact yb hc rfl
 have h4:P.kind n≠4:=sO;refine sS (λh2=>?_) λh2=>?_
 ·have h2:P.kind n=2:=sO;rw[ae zo] at eS;have e5:∀i:Int,P.mG (P.kind n) n i=[((n:Int),i,P.gd n)]:=λi=>by unfold af.mG;rw[ab zo]
  refine sW ?_;rw[aK];refine b8 (fL 10 3 zs rfl) ?_;refine bt [1,9,43,44] (λ((k,c,l):Nat×Nat×List b7)=>[(10,.own 1 c 0 c),(45,aa k)]) (λ(k,c,l)=>[(1,.vec true c 3<|iw l)]) (λ(k,c,l)=>k<=(P.bC n).length/\c=l.length/\c=k/\l=P.kO (P.kind n) n k) (λ(k,c,l)=>(P.bC n).length-k) (0,0,[]) ?_;refine sW ?_;refine⟨⟨zo,rfl,rfl,rfl⟩,by exact sK,rfl,?_⟩;rintro⟨k,c,l⟩ ⟨hk,hc,ow,hl⟩;refine br (λh1=>?_) λh1=>?_
  ·have al:k<(P.bC n).length:=sO;refine sL (cA (k:=k) zo al) ?_;refine fA ?_;refine⟨(k+1,c+1,l++[((n:Int),(P.bC n).getD k 0,P.gd n)]),⟨zo,by simp[hc],zo,by rw[ei,e5,hl]⟩,zd,?_⟩;refine aR 2 zs rfl sQ (sU ?_);exact aZ<|uP hc
  have al:k=(P.bC n).length:=by have:¬k<(P.bC n).length:=sO
                                omega
  subst al;rw[eS,<-hl];exact yb hc rfl
 have h2:P.kind n≠2:=sO;refine sS (λh3=>?_) λh3=>?_
 ·have h3:P.kind n=3:=sO;rw[ae zo] at eS;have e5:∀i:Int,P.mG (P.kind n) n i=[((n:Int),i,P.gd n)]:=λi=>by unfold af.mG;rw[ab zo]
  refine sW ?_;rw[aK];refine b8 (fL 10 3 zs rfl) ?_;refine bt [1,9,43,44] (λ((k,c,l):Nat×Nat×List b7)=>[(10,.own 1 c 0 c),(45,aa k)]) (λ(k,c,l)=>[(1,.vec true c 3<|iw l)]) (λ(k,c,l)=>k<=(P.bC n).length/\c=l.length/\c=k/\l=P.kO (P.kind n) n k) (λ(k,c,l)=>(P.bC n).length-k) (0,0,[]) ?_;refine sW ?_;refine⟨⟨zo,rfl,rfl,rfl⟩,by exact sK,rfl,?_⟩;rintro⟨k,c,l⟩ ⟨hk,hc,ow,hl⟩;refine br (λh1=>?_) λh1=>?_
  ·have al:k<(P.bC n).length:=sO;refine sL (cA (k:=k) zo al) ?_;refine fA ?_;refine⟨(k+1,c+1,l++[((n:Int),(P.bC n).getD k 0,P.gd n)]),⟨zo,by simp[hc],zo,by rw[ei,e5,hl]⟩,zd,?_⟩;refine aR 2 zs rfl sQ (sU ?_);exact aZ<|uP hc
  have al:k=(P.bC n).length:=by have:¬k<(P.bC n).length:=sO
                                omega
  subst al;rw[eS,<-hl];exact yb hc rfl
 have h3:P.kind n≠3:=sO;refine sS (λh5=>?_) λh5=>?_
 ·have h5:P.kind n=5:=sO;rw[ae zo] at eS;have e5:∀i:Int,P.mG (P.kind n) n i=wa n i (P.cn n).length:=λi=>by unfold af.mG;rw[ae h5]
  refine sW ?_;rw[aK];refine b8 (fL 10 3 zs rfl) ?_;refine bt [1,7,59,60] (λ((k,c,l):Nat×Nat×List b7)=>[(10,.own 1 c 0 c),(61,aa k)]) (λ(k,c,l)=>[(1,.vec true c 3<|iw l)]) (λ(k,c,l)=>k<=(P.bC n).length/\c=l.length/\l=P.kO (P.kind n) n k) (λ(k,c,l)=>(P.bC n).length-k) (0,0,[]) ?_;refine sW ?_;refine⟨⟨zo,rfl,rfl⟩,by exact sK,rfl,?_⟩;rintro⟨k,c,l⟩ ⟨hk,hc,hl⟩;refine br (λh1=>?_) λh1=>?_
  ·have al:k<(P.bC n).length:=sO;refine sL (cA (k:=k) zo al) ?_;rw[aK];have b1:=P.BE (P.kind n) n zo k;have b2:l.length=(P.kO (P.kind n) n k).length:=(by rw[hl]);refine bt [1,7,14,59,60,61,66] (λ((j,c',m):Nat×Nat×List b7)=>[(10,.own 1 c' 0 c'),(67,aa j)]) (λ(j,c',m)=>[(1,.vec true c' 3<|iw m)]) (λ(j,c',m)=>j<=(P.cn n).length/\c'=m.length/\c'=l.length+j/\m=l++wa n ((P.bC n).getD k 0) j) (λ(j,c',m)=>(P.cn n).length-j) (0,c,l) ?_;refine sW ?_;refine⟨⟨zo,hc,hc,(kM l).symm⟩,by exact sK,rfl,?_⟩;rintro⟨j,c',m⟩ ⟨hj,gh,hcj,hm⟩;refine br (λh6=>?_) λh6=>?_
   ·have jf:j<(P.cn n).length:=sO;refine⟨zo,?_⟩;rw[Kz (k:=j) rfl zo];have e4:=Le (k:=j) zo;refine sI ?_;refine fA ?_;refine⟨(j+1,c'+1,m++[((n:Int),(P.bC n).getD k 0,2^j)]),⟨zo,by simp[gh],zo,by rw[hm,gy];rfl⟩,zd,?_⟩;refine aR 2 zs rfl sQ (sU ?_);exact aZ<|uP gh
   have jf:j=(P.cn n).length:=by have:¬j<(P.cn n).length:=sO
                                 omega
   subst jf;refine sI ?_;refine⟨(k+1,c',m),⟨zo,gh,by rw[ei,e5,hm,hl]⟩,zd,?_⟩;exact aR 2 zs rfl sQ sQ
  have al:k=(P.bC n).length:=by have:¬k<(P.bC n).length:=sO
                                omega
  subst al;rw[eS,<-hl];exact yb hc rfl
 have h5:P.kind n≠5:=sO;rw[ab zo] at eS;refine sS (λh6=>?_) λh6=>?_
 ·have h6:P.kind n=6:=sO;rw[ae h6] at eS;refine sJ ?_;rw[eS];exact yb (l:=[((n:Int),-1,P.gd n)]) rfl rfl
 rw[ab<|sO] at eS;refine sS (λh7=>?_) λh7=>?_
 ·have h7:P.kind n=7:=sO;rw[ae h7] at eS;have b3:=af.LX aC h7;have b4:=(C0<|aT (P.cn n).length).1;rw[ea] at b4;refine b8 (fL 10 3 zs rfl) ?_;refine bt [1,9] (λ((k,c,l):Nat×Nat×List b7)=>[(10,.own 1 c 0 c),(16,aa<|(k:Int)+1)]) (λ(k,c,l)=>[(1,.vec true c 3<|iw l)]) (λ(k,c,l)=>k<=(P.gd n).toNat/\c=l.length/\c=k/\l=orS n k) (λ(k,c,l)=>(P.gd n).toNat-k) (0,0,[]) ?_;refine sW ?_;refine⟨⟨zo,rfl,rfl,rfl⟩,by exact sK,rfl,?_⟩;rintro⟨k,c,l⟩ ⟨hk,hc,ow,hl⟩;refine br (λh1=>?_) λh1=>?_
  ·have al:k<(P.gd n).toNat:=sO;refine fA ?_;refine⟨(k+1,c+1,l++[((n:Int),-1,(k:Int)+1)]),⟨zo,by simp[hc],zo,by rw[hl];rfl⟩,zd,?_⟩;refine aR 2 zs rfl sQ (sU ?_);exact aZ<|uP hc
  have al:k=(P.gd n).toNat:=by have:¬k<(P.gd n).toNat:=sO
                               omega
  subst al;rw[eS,<-hl];exact yb hc rfl
 rw[ab<|sO] at eS;rw[eS];exact .none _
end
section
theorem zwr{l:List b7}(hz:z=k)(h:k<l.length):(iw l)[z]? = some (wv l[k]):=by
 subst hz;unfold iw;rw[cU,aJ h];rfl
theorem CL(P:af)(hP:P.Fits):ar ai 29 [cm P] (.aI [m4 P.bd,aa P.dI]):=by
 refine bK fZ ?_;have bad:∀{H:aF} {e:Int},e≠0->P.dI=e->Deep H (.aI [ax,aa e]) (.aI [m4 P.bd,aa P.dI]):=λh k=>by
  have:P.bd=[]:=by unfold af.bd;rw[ab<|by rw[k];exact h]
  rw[k,this];exact .aI _ _ (.cons _ _ _ _ (.none _) (.cons _ _ _ _ (.refl _) .nil))
 refine sR ?_;refine sC (QU P hP) ?_;refine sS (λh1=>?_) λh1=>?_
 ·have h1:P.aS≠0:=sO;exact bad h1<|by unfold af.dI;rw[ae h1]
 have h0:P.aS=0:=sO;obtain⟨nH,mQ⟩:=jV h0;have bR:=af.Np h0;have e1:P.dI=if 60<(P.ng P.nodes.length).length then 2 else 0:=by unfold af.dI;rw[ab zo]
 rw[aK];refine b8 (fL 5 3 zs rfl) ?_;refine bt [1,14] (λ((k,c,l):Nat×Nat×List b7)=>[(5,.own 1 k 0 c),(15,aa k)]) (λ(k,c,l)=>[(1,.vec true k 3<|iw l)]) (λ(k,c,l)=>k<=P.nodes.length/\c=l.length/\l=P.ng k) (λ(k,c,l)=>P.nodes.length-k) (0,0,[]) ?_;refine sW ?_;refine⟨⟨zo,rfl,rfl⟩,by exact sK,rfl,?_⟩;rintro⟨k,c,l⟩ ⟨hk,hc,hl⟩;refine br (λh2=>?_) λh2=>?_
 ·have al:k<P.nodes.length:=sO;have b1:=af.Mk mQ k λi hi=>bR i zo;have b2:=af.MY (bR k al) mQ;have b3:l.length=(P.ng k).length:=(by rw[hl]);refine sC (zvG P hP h0 k al) ?_;refine⟨(by unfold je;rw[zh];omega),?_⟩;refine bb ?_;refine⟨(k+1,c+(iw<|P.uJ k).length,l++P.uJ k),⟨zo,by simp[hc,zh],by rw[hl];rfl⟩,zd,?_⟩;refine aR 2 zs rfl sQ (sU ?_);exact aZ<|zu8 hc
 have al:k=P.nodes.length:=by have:¬k<P.nodes.length:=sO
                              omega
 subst al;have b3:l.length=(P.ng P.nodes.length).length:=by rw[hl]
 refine sS (λh3=>?_) λh3=>?_
 ·exact bad zc<|by rw[e1,ae<|sO]
 have e2:P.dI=0:=by rw[e1,ab<|sO]
 have e3:P.bd=l:=by unfold af.bd;rw[ae e2,hl]
 rw[e2,e3];exact .aI _ _ (.cons _ _ _ _ (yb hc rfl) (.cons _ _ _ _ (.refl _) .nil))
end
section
theorem Ly(P:af)(hP:P.Fits):ar ai 22 [cm P] (.aI [m4 P.bd,aa P.dI]):=by
 refine bK fZ ?_;have bad:∀{H:aF} {e:Int},e≠0->P.dI=e->Deep H (.aI [ax,aa e]) (.aI [m4 P.bd,aa P.dI]):=λh k=>by
  have:P.bd=[]:=by unfold af.bd;rw[ab<|by rw[k];exact h]
  rw[k,this];exact .aI _ _ (.cons _ _ _ _ (.none _) (.cons _ _ _ _ (.refl _) .nil))
 refine sR ?_;refine sC (Z1 P hP) ?_;refine sS (λh1=>?_) λh1=>?_
 ·have h1:P.aS≠0:=sO;exact bad h1<|by unfold af.dI;rw[ae h1]
 have h0:P.aS=0:=sO;obtain⟨nH,mQ⟩:=jV h0;have bR:=af.Np h0;have e1:P.dI=if 60<(P.ng P.nodes.length).length then 2 else 0:=by unfold af.dI;rw[ab zo]
 refine b8 (fL 5 3 zs rfl) ?_;refine bt [1] (λ((n,c,l):Nat×Nat×List b7)=>[(5,.own 1 c 0 c),(6,aa n)]) (λ(n,c,l)=>[(1,.vec true c 3<|iw l)]) (λ(n,c,l)=>n<=P.nodes.length/\c=l.length/\l=P.ng n) (λ(n,c,l)=>P.nodes.length-n) (0,0,[]) ?_;refine sW ?_;refine⟨⟨zo,rfl,rfl⟩,by exact sK,rfl,?_⟩;rintro⟨n,c,l⟩ ⟨hn,hc,hl⟩;refine c6 ?_;rw[aK];refine sS (λh2=>?_) λh2=>?_
 ·have fk:n<P.nodes.length:=sO;have b1:=af.Mk mQ n λi hi=>bR i zo;have b2:=af.MY (bR n fk) mQ;have b3:l.length=(P.ng n).length:=(by rw[hl]);have l1:=P.Au n;have l2:=P.AN n
  have eS:P.uJ n=if P.kind n=4\/P.kind n=5\/P.kind n=2\/P.kind n=3 then P.kO (P.kind n) n (P.bC n).length
   else if P.kind n=6 then [((n:Int),-1,P.gd n)] else if P.kind n=7 then orS n (P.gd n).toNat else []:=rfl
  have eT:P.ng (n+1)=P.ng n++P.uJ n:=rfl;have ei:∀k,P.kO (P.kind n) n (k+1)=P.kO (P.kind n) n k++P.mG (P.kind n) n ((P.bC n).getD k 0):=λk=>rfl;have ea:qb (P.cn n).length=P.gd n:=rfl;have e30:qb 30=1073741823:=rfl;refine sC (J6 P hP zo n) ?_;refine sC (Ot P hP zo n) ?_;rw[aK];refine bt [1,5,6,7,8] (λk:Nat=>[(9,aa<|qb k),(10,aa k)]) (λ_=>[]) (λk=>k<=(P.cn n).length) (λk=>(P.cn n).length-k) 0 ?_;refine eC ?_;rintro k hk;refine br (λh3=>?_) λh3=>?_
  ·have al:k<(P.cn n).length:=sO;have o1:=C0 (k:=k) (n:=30) zo;have o2:=C0 (k:=k+1) (n:=30) zo;have o3:qb (k+1)=qb k*2+1:=rfl;refine sI ?_;refine sI ?_;refine sI ?_;refine⟨k+1,zo,zd,aL (by exact sK) rfl⟩
  have al:k=(P.cn n).length:=by have:¬k<(P.cn n).length:=sO
                                omega
  subst al;rw[ea];refine sL (ka P (k:=n) zo fk) ?_;refine sS (λh4=>?_) λh4=>?_
  ·have h4:P.kind n=4:=sO;rw[ae zo] at eS;refine sW ?_;refine bt [1,6,7,8,9] (λ((i,c',m):Nat×Nat×List b7)=>[(5,.own 1 c' 0 c'),(11,aa i)]) (λ(i,c',m)=>[(1,.vec true c' 3<|iw m)]) (λ(i,c',m)=>i<=(P.bC n).length/\c'=m.length/\m=l++P.kO (P.kind n) n i) (λ(i,c',m)=>(P.bC n).length-i) (0,c,l) ?_;refine sW ?_;refine⟨⟨zo,hc,(kM l).symm⟩,by exact sK,rfl,?_⟩;rintro⟨i,c',m⟩ ⟨hi,gh,hm⟩;refine c6 ?_;rw[aK];have b4:=P.BE (P.kind n) n zo i;have b5:m.length=l.length+(P.kO (P.kind n) n i).length:=(by rw[hm,cq]);refine sS (λAO=>?_) λAO=>?_
   ·have aW:i<(P.bC n).length:=sO;refine sL (ka P (k:=n) zo fk) ?_;have bT:(P.kind n != 5)=true:=(by simp;omega);have heq:(P.kind n==5)=false:=(by simp;omega);rw[bT];refine sW ?_;refine sL (cA (k:=i) zo aW) ?_;refine sJ ?_;have e5:∀i:Int,P.mG (P.kind n) n i=[((n:Int),i,P.gd n)]:=λi=>by unfold af.mG;rw[ab zo]
    refine bt [1,6,7,8,9,11] (λ_:Unit=>[(5,.own 1 (c'+1) 0<|c'+1),(12,aa 0)]) (λ_=>[(1,.vec true (c'+1) 3<|iw<|m++[((n:Int),(P.bC n).getD i 0,P.gd n)])]) (λ_=>True) (λ_=>0) () ?_;refine sW ?_;refine⟨trivial,by exact sK,by rw[<-uP gh];rfl,?_⟩;rintro⟨⟩ -
    refine br (λh6=>?_) λh6=>?_
    ·refine sL (ka P (k:=n) zo fk) ?_;rw[heq];refine bb ?_;refine⟨(i+1,c'+1,m++[((n:Int),(P.bC n).getD i 0,P.gd n)]),⟨zo,by simp[gh],by rw[ei,e5,hm,gy]⟩,zd,?_⟩;exact aR 2 zs rfl sQ sQ
    skip
    refine sI ?_;refine⟨(i+1,c'+1,m++[((n:Int),(P.bC n).getD i 0,P.gd n)]),⟨zo,by simp[gh],by rw[ei,e5,hm,gy]⟩,zd,?_⟩;exact aR 2 zs rfl sQ sQ
   have aW:i=(P.bC n).length:=by have:¬i<(P.bC n).length:=sO
                                 omega
   subst aW;refine sI ?_;refine⟨(n+1,c',m),⟨zo,gh,by rw[eT,eS,<-hl,hm]⟩,zd,?_⟩;exact aR 2 zs rfl sQ sQ
  have h4:P.kind n≠4:=sO;refine sS (λh5=>?_) λh5=>?_
  ·have h5:P.kind n=5:=sO;rw[ae zo] at eS;refine sW ?_;refine bt [1,6,7,8,9] (λ((i,c',m):Nat×Nat×List b7)=>[(5,.own 1 c' 0 c'),(11,aa i)]) (λ(i,c',m)=>[(1,.vec true c' 3<|iw m)]) (λ(i,c',m)=>i<=(P.bC n).length/\c'=m.length/\m=l++P.kO (P.kind n) n i) (λ(i,c',m)=>(P.bC n).length-i) (0,c,l) ?_;refine sW ?_;refine⟨⟨zo,hc,(kM l).symm⟩,by exact sK,rfl,?_⟩;rintro⟨i,c',m⟩ ⟨hi,gh,hm⟩;refine c6 ?_;rw[aK];have b4:=P.BE (P.kind n) n zo i;have b5:m.length=l.length+(P.kO (P.kind n) n i).length:=(by rw[hm,cq]);refine sS (λAO=>?_) λAO=>?_
   ·have aW:i<(P.bC n).length:=sO;refine sL (ka P (k:=n) zo fk) ?_;have bT:(P.kind n != 5)=false:=(by simp;omega);have heq:(P.kind n==5)=true:=(by simp;omega);rw[bT];refine sW ?_;have e5:∀i:Int,P.mG (P.kind n) n i=wa n i (P.cn n).length:=λi=>by unfold af.mG;rw[ae h5]
    refine bt [1,6,7,8,9,11] (λ((j,d,q):Nat×Nat×List b7)=>[(5,.own 1 d 0 d),(12,aa j)]) (λ(j,d,q)=>[(1,.vec true d 3<|iw q)]) (λ(j,d,q)=>j<=(P.cn n).length/\d=q.length/\d=m.length+j/\q=m++wa n ((P.bC n).getD i 0) j) (λ(j,d,q)=>(P.cn n).length-j) (0,c',m) ?_;refine sW ?_;refine⟨⟨zo,gh,gh,(kM m).symm⟩,by exact sK,rfl,?_⟩;rintro⟨j,d,q⟩ ⟨hj,hd,hdj,hq⟩;refine br (λh6=>?_) λh6=>?_
    ·have jf:j<(P.cn n).length:=sO;refine sL (ka P (k:=n) zo fk) ?_;rw[heq];refine sW ?_;refine sL (cA (k:=i) zo aW) ?_;refine⟨zo,?_⟩;rw[Kz (k:=j) rfl zo];have e4:=Le (k:=j) zo;refine sI ?_;refine fA ?_;refine⟨(j+1,d+1,q++[((n:Int),(P.bC n).getD i 0,2^j)]),⟨zo,by simp[hd],zo,by rw[hq,gy];rfl⟩,zd,?_⟩;refine aR 2 zs rfl sQ (sU ?_);exact aZ<|uP hd
    have jf:j=(P.cn n).length:=by have:¬j<(P.cn n).length:=sO
                                  omega
    subst jf;refine sI ?_;refine⟨(i+1,d,q),⟨zo,hd,by rw[ei,e5,hq,hm,gy]⟩,zd,?_⟩;exact aR 2 zs rfl sQ sQ
   have aW:i=(P.bC n).length:=by have:¬i<(P.bC n).length:=sO
                                 omega
   subst aW;refine sI ?_;refine⟨(n+1,c',m),⟨zo,gh,by rw[eT,eS,<-hl,hm]⟩,zd,?_⟩;exact aR 2 zs rfl sQ sQ
  have h5:P.kind n≠5:=sO;refine sS (λh6=>?_) λh6=>?_
  ·have h6:P.kind n=2:=sO;rw[ae zo] at eS;refine sW ?_;refine bt [1,6,7,8,9] (λ((i,c',m):Nat×Nat×List b7)=>[(5,.own 1 c' 0 c'),(11,aa i)]) (λ(i,c',m)=>[(1,.vec true c' 3<|iw m)]) (λ(i,c',m)=>i<=(P.bC n).length/\c'=m.length/\m=l++P.kO (P.kind n) n i) (λ(i,c',m)=>(P.bC n).length-i) (0,c,l) ?_;refine sW ?_;refine⟨⟨zo,hc,(kM l).symm⟩,by exact sK,rfl,?_⟩;rintro⟨i,c',m⟩ ⟨hi,gh,hm⟩;refine c6 ?_;rw[aK];have b4:=P.BE (P.kind n) n zo i;have b5:m.length=l.length+(P.kO (P.kind n) n i).length:=(by rw[hm,cq]);refine sS (λAO=>?_) λAO=>?_
   ·have aW:i<(P.bC n).length:=sO;refine sL (ka P (k:=n) zo fk) ?_;have bT:(P.kind n != 5)=true:=(by simp;omega);have heq:(P.kind n==5)=false:=(by simp;omega);rw[bT];refine sW ?_;refine sL (cA (k:=i) zo aW) ?_;refine sJ ?_;have e5:∀i:Int,P.mG (P.kind n) n i=[((n:Int),i,P.gd n)]:=λi=>by unfold af.mG;rw[ab zo]
    refine bt [1,6,7,8,9,11] (λ_:Unit=>[(5,.own 1 (c'+1) 0<|c'+1),(12,aa 0)]) (λ_=>[(1,.vec true (c'+1) 3<|iw<|m++[((n:Int),(P.bC n).getD i 0,P.gd n)])]) (λ_=>True) (λ_=>0) () ?_;refine sW ?_;refine⟨trivial,by exact sK,by rw[<-uP gh];rfl,?_⟩;rintro⟨⟩ -
    refine br (λh6=>?_) λh6=>?_
    ·refine sL (ka P (k:=n) zo fk) ?_;rw[heq];refine bb ?_;refine⟨(i+1,c'+1,m++[((n:Int),(P.bC n).getD i 0,P.gd n)]),⟨zo,by simp[gh],by rw[ei,e5,hm,gy]⟩,zd,?_⟩;exact aR 2 zs rfl sQ sQ
    skip
    refine sI ?_;refine⟨(i+1,c'+1,m++[((n:Int),(P.bC n).getD i 0,P.gd n)]),⟨zo,by simp[gh],by rw[ei,e5,hm,gy]⟩,zd,?_⟩;exact aR 2 zs rfl sQ sQ
   have aW:i=(P.bC n).length:=by have:¬i<(P.bC n).length:=sO
                                 omega
   subst aW;refine sI ?_;refine⟨(n+1,c',m),⟨zo,gh,by rw[eT,eS,<-hl,hm]⟩,zd,?_⟩;exact aR 2 zs rfl sQ sQ
  have h6:P.kind n≠2:=sO;refine sS (λh7=>?_) λh7=>?_
  ·have h7:P.kind n=3:=sO;rw[ae zo] at eS;refine sW ?_;refine bt [1,6,7,8,9] (λ((i,c',m):Nat×Nat×List b7)=>[(5,.own 1 c' 0 c'),(11,aa i)]) (λ(i,c',m)=>[(1,.vec true c' 3<|iw m)]) (λ(i,c',m)=>i<=(P.bC n).length/\c'=m.length/\m=l++P.kO (P.kind n) n i) (λ(i,c',m)=>(P.bC n).length-i) (0,c,l) ?_;refine sW ?_;refine⟨⟨zo,hc,(kM l).symm⟩,by exact sK,rfl,?_⟩;rintro⟨i,c',m⟩ ⟨hi,gh,hm⟩;refine c6 ?_;rw[aK];have b4:=P.BE (P.kind n) n zo i;have b5:m.length=l.length+(P.kO (P.kind n) n i).length:=(by rw[hm,cq]);refine sS (λAO=>?_) λAO=>?_
   ·have aW:i<(P.bC n).length:=sO;refine sL (ka P (k:=n) zo fk) ?_;have bT:(P.kind n != 5)=true:=(by simp;omega);have heq:(P.kind n==5)=false:=(by simp;omega);rw[bT];refine sW ?_;refine sL (cA (k:=i) zo aW) ?_;refine sJ ?_;have e5:∀i:Int,P.mG (P.kind n) n i=[((n:Int),i,P.gd n)]:=λi=>by unfold af.mG;rw[ab zo]
    refine bt [1,6,7,8,9,11] (λ_:Unit=>[(5,.own 1 (c'+1) 0<|c'+1),(12,aa 0)]) (λ_=>[(1,.vec true (c'+1) 3<|iw<|m++[((n:Int),(P.bC n).getD i 0,P.gd n)])]) (λ_=>True) (λ_=>0) () ?_;refine sW ?_;refine⟨trivial,by exact sK,by rw[<-uP gh];rfl,?_⟩;rintro⟨⟩ -
    refine br (λh6=>?_) λh6=>?_
    ·refine sL (ka P (k:=n) zo fk) ?_;rw[heq];refine bb ?_;refine⟨(i+1,c'+1,m++[((n:Int),(P.bC n).getD i 0,P.gd n)]),⟨zo,by simp[gh],by rw[ei,e5,hm,gy]⟩,zd,?_⟩;exact aR 2 zs rfl sQ sQ
    skip
    refine sI ?_;refine⟨(i+1,c'+1,m++[((n:Int),(P.bC n).getD i 0,P.gd n)]),⟨zo,by simp[gh],by rw[ei,e5,hm,gy]⟩,zd,?_⟩;exact aR 2 zs rfl sQ sQ
   have aW:i=(P.bC n).length:=by have:¬i<(P.bC n).length:=sO
                                 omega
   subst aW;refine sI ?_;refine⟨(n+1,c',m),⟨zo,gh,by rw[eT,eS,<-hl,hm]⟩,zd,?_⟩;exact aR 2 zs rfl sQ sQ
  have h7:P.kind n≠3:=sO;rw[ab zo] at eS;refine sS (λh8=>?_) λh8=>?_
  ·have h8:P.kind n=6:=sO;rw[ae h8] at eS;refine fA ?_;refine⟨(n+1,c+1,l++[((n:Int),-1,P.gd n)]),⟨zo,by simp[hc],by rw[eT,eS,hl]⟩,zd,?_⟩;refine aR 2 zs rfl sQ (sU ?_);exact aZ<|uP hc
  rw[ab<|sO] at eS;refine sS (λh9=>?_) λh9=>?_
  ·have h9:P.kind n=7:=sO;rw[ae h9] at eS;have b3:=af.LX (bR n fk) h9;have b4:=(C0<|aT (P.cn n).length).1;rw[ea] at b4;refine bt [1,6,9] (λ((k,d,q):Nat×Nat×List b7)=>[(5,.own 1 d 0 d),(13,aa<|(k:Int)+1)]) (λ(k,d,q)=>[(1,.vec true d 3<|iw q)]) (λ(k,d,q)=>k<=(P.gd n).toNat/\d=q.length/\d=l.length+k/\q=l++orS n k) (λ(k,d,q)=>(P.gd n).toNat-k) (0,c,l) ?_;refine sW ?_;refine⟨⟨zo,hc,hc,(kM l).symm⟩,by exact sK,rfl,?_⟩;rintro⟨k,d,q⟩ ⟨hk,hd,hdk,hq⟩;refine br (λh1=>?_) λh1=>?_
   ·have al:k<(P.gd n).toNat:=sO;refine fA ?_;refine⟨(k+1,d+1,q++[((n:Int),-1,(k:Int)+1)]),⟨zo,by simp[hd],zo,by rw[hq,gy];rfl⟩,zd,?_⟩;refine aR 2 zs rfl sQ (sU ?_);exact aZ<|uP hd
   have al:k=(P.gd n).toNat:=by have:¬k<(P.gd n).toNat:=sO
                                omega
   subst al;refine sI ?_;refine⟨(n+1,d,q),⟨zo,hd,by rw[eT,eS,hq,hl]⟩,zd,?_⟩;exact aR 2 zs rfl sQ sQ
  rw[ab<|sO] at eS;refine sI ?_;refine⟨(n+1,c,l),⟨zo,hc,by rw[eT,eS,hl,kM]⟩,zd,?_⟩;exact aR 2 zs rfl sQ sQ
 have fk:n=P.nodes.length:=by have:¬n<P.nodes.length:=sO
                              omega
 subst fk;have b3:l.length=(P.ng P.nodes.length).length:=by rw[hl]
 refine sS (λh3=>?_) λh3=>?_
 ·exact bad zc<|by rw[e1,ae<|sO]
 have e2:P.dI=0:=by rw[e1,ab<|sO]
 have e3:P.bd=l:=by unfold af.bd;rw[ae e2,hl]
 rw[e2,e3];exact .aI _ _ (.cons _ _ _ _ (yb hc rfl) (.cons _ _ _ _ (.refl _) .nil))
end
def gl(n:Nat)(g:Nat->Int):ah:=(List.range n).map g
@[simp] theorem I1(n:Nat)(g:Nat->Int):(gl n g).length=n:=by simp[gl]
variable{g:Nat->Int}
theorem C'(h:k<n):(gl n g).getD k 0=g k:=by
 rw[aE];simp[gl,cU,qI h]
@[simp] theorem zA9(l:ah):(aA l).length=l.length:=by simp[aA]
theorem L'(hz:z=k)(h:k<l.length):(aA l)[z]? = some [aa<|l.getD k 0]:=cA hz h
theorem cD(k:Nat)(hz:z=k)(h:k<n):(aA<|gl n g)[z]? = some [aa<|g k]:=by
 rw[L' hz<|by rw[I1];exact h,C' h]
theorem vt{g':Nat->Int}(h:∀i,i<n->g i=g' i):gl n g=gl n g':=qY λi hi=>h i<|fX.1 hi
def fN(g:Nat->Int)(k:Nat)(v:Int):Nat->Int:=λi=>if i=k then v else g i
@[simp] theorem kB(g:Nat->Int)(k:Nat)(v:Int):fN g k v k=v:=by simp[fN]
variable{v:Int}
theorem so(h:i≠k):fN g k v i=g i:=by simp[fN,h]
theorem kV(hz:z=k):(aA<|gl n g).set z [aa v]=aA (gl n<|fN g k v):=by
 subst hz;apply qC;intro i;by_cases hi:i<n
 ·rw[vo];by_cases e:z=i
  ·subst e;rw[ae rfl,ae<|by simp;exact hi,cD z rfl hi,kB]
  rw[ab e,cD i rfl hi,cD i rfl hi,so λq=>e q.symm]
 rw[cY<|by simp;omega,cY<|by simp;omega]
theorem zT(n:Nat):List.replicate n [aa 0]=aA (gl n λ_=>0):=by
 apply qC;intro i;by_cases hi:i<n
 ·rw[cD i rfl hi,td,ae hi]
 rw[cY<|by simp;omega,cY<|by simp;omega]
theorem AL{id v:Nat}{q:Bool}(h:H[id]? = some (.vec q v 1<|aA<|gl n g)):Deep H (.own id v 0 n)<|aO<|gl n g:=.own _ _ _ _ _ _ _ _ h<|by rw[fQ,jd<|by simp[aA,gl]];exact iX _
namespace af
def nxt(P:af)(but:Int)(a b:Nat):Prop:=a<P.aG.length/\b<P.aG.length/\P.src b=P.dst a/\P.dst a≠but
inductive Via(P:af)(but:Int):Nat->Nat->Prop
 |refl (a:Nat):Via P but a a
 |step {a b c:Nat} (h:Via P but a b) (k:P.nxt but b c):Via P but a c
variable{P:af}{but:Int}{a b:Nat}
theorem Via.head{c:Nat}(k:P.nxt but a b)(h:P.Via but b c):P.Via but a c:=by
 induction h with
 |refl=>exact .step (.refl _) k
 |step _ k' ih=>exact .step ih k'
theorem Via.first(h:P.Via but a b):a=b\/P.dst a≠but:=by
 induction h with
 |refl=>exact .inl rfl
 |step _ k ih =>
  rcases ih with rfl|ih
  ·exact .inr k.2.2.2
  exact .inr ih
theorem zxc(h0:s a)(h1:∀x y,s x->P.nxt but x y->s y):∀b,P.Via but a b->s b:=by
 intro b h
 induction h with
 |refl=>exact h0
 |step _ k ih=>exact h1 _ _ ih k
theorem zt6(h0:s b)(h1:∀x y,s y->P.nxt but x y->s x):∀a,P.Via but a b->s a:=by
 intro a h
 induction h with
 |refl=>exact h0
 |step _ k ih=>exact ih<|h1 _ _ h0 k
open Classical in
noncomputable def xK(P:af)(but:Int)(a b:Nat):Bool:=decide (P.Via but a b)
theorem CE:P.xK but a b↔P.Via but a b:=by unfold xK;simp
structure tC(P:af)(but:Int)(flow:Nat)(s:ay)(Q:ah):Prop where
 start:s flow=true
 sound:∀i,s i->i<P.aG.length/\P.Via but i flow
 todo:∀x∈Q,0<=x/\x<P.aG.length/\s x.toNat=true
 done:∀i,s i->(i:Int)∈Q\/∀j,P.nxt but j i->s j=true
structure uB(P:af)(but:Int)(flow:Nat)(s:ay)(Q:ah)(x k:Nat):Prop where
 start:s flow=true
 sound:∀i,s i->i<P.aG.length/\P.Via but i flow
 todo:∀x∈Q,0<=x/\x<P.aG.length/\s x.toNat=true
 done:∀i,s i->(i:Int)∈Q\/(∀j,P.nxt but j i->s j)\/(i=x/\∀j,j<k->P.nxt but j i->s j)
 here:s x=true
 go:P.src x≠but
variable{flow:Nat}
theorem tC.begin(h:flow<P.aG.length):P.tC but flow (mark (λ_=>false) flow) [(flow:Int)] where
 start:=lq _ _
 sound i hi:=by
  rcases oE.1 hi with rfl|h'
  ·exact⟨h,.refl _⟩
  cases h'
 todo x hx:=by
  rw[cB] at hx;subst hx;exact⟨zo,zo,by rw[bQ];exact lq _ _⟩
 done i hi:=by
  rcases oE.1 hi with rfl|h'
  ·exact .inl zs
  cases h'
variable{Q:ah}{x:Int}
theorem tC.stop(h:P.tC but flow s<|x::Q)(hx:P.src x.toNat=but):P.tC but flow s Q where
 start:=h.start
 sound:=h.sound
 todo y hy:=h.todo y<|List.mem_cons_of_mem _ hy
 done i hi:=by
  rcases h.done i hi with q|q
  ·rcases dZ.1 q with q|q
   ·refine .inr λj hj=>?_;exfalso;subst q;rw[bQ] at hx;exact hj.2.2.2<|hj.2.2.1.symm.trans hx
   exact .inl q
  exact .inr q
theorem tC.pop(h:P.tC but flow s<|x::Q)(hx:P.src x.toNat≠but):P.uB but flow s Q x.toNat 0 where
 start:=h.start
 sound:=h.sound
 todo y hy:=h.todo y<|List.mem_cons_of_mem _ hy
 done i hi:=by
  rcases h.done i hi with q|q
  ·rcases dZ.1 q with q|q
   ·exact .inr (.inr ⟨zo,λj hj=>zo⟩)
   exact .inl q
  exact .inr (.inl q)
 here:=(h.todo x zs).2.2
 go:=hx
theorem uB.skip{x:Nat}(h:P.uB but flow s Q x k)(hk:P.dst k=P.src x->s k):P.uB but flow s Q x (k+1) where
 start:=h.start
 sound:=h.sound
 todo:=h.todo
 done i hi:=by
  rcases h.done i hi with q|q|⟨rfl,q⟩
  ·exact .inl q
  ·exact .inr (.inl q)
  refine .inr (.inr ⟨rfl,λj hj hn=>?_⟩);by_cases e:j=k
  ·subst e;exact hk hn.2.2.1.symm
  exact q j zo hn
 here:=h.here
 go:=h.go
theorem uB.push{x:Nat}(h:P.uB but flow s Q x k)(hk:k<P.aG.length)(hd:P.dst k=P.src x):P.uB but flow (mark s k) (Q++[(k:Int)]) x (k+1) where
 start:=gg h.start
 sound i hi:=by
  rcases oE.1 hi with rfl|h'
  ·have:=h.sound x h.here;exact⟨hk,Via.head ⟨hk,this.1,hd.symm,by rw[hd];exact h.go⟩ this.2⟩
  exact h.sound i h'
 todo y hy:=by
  rcases dt.1 hy with q|q
  ·obtain⟨a,b,c⟩:=h.todo y q;exact⟨a,b,gg c⟩
  rw[cB] at q;subst q;exact⟨zo,zo,by rw[bQ];exact lq _ _⟩
 done i hi:=by
  rcases oE.1 hi with rfl|h'
  ·exact .inl zs
  rcases h.done i h' with q|q|⟨rfl,q⟩
  ·exact .inl<|Ep _ q
  ·exact .inr (.inl λj hj=>gg<|q j hj)
  refine .inr (.inr ⟨rfl,λj hj hn=>?_⟩);by_cases e:j=k
  ·subst e;exact lq _ _
  exact gg<|q j zo hn
 here:=gg h.here
 go:=h.go
theorem uB.fin{P:af}{but:Int}{flow:Nat}{s:ay}{Q:ah}{x:Nat}(h:P.uB but flow s Q x P.aG.length):P.tC but flow s Q where
 start:=h.start
 sound:=h.sound
 todo:=h.todo
 done i hi:=by
  rcases h.done i hi with q|q|⟨rfl,q⟩
  ·exact .inl q
  ·exact .inr q
  exact .inr λj hj=>q j hj.1 hj
theorem tC.fin{P:af}{but:Int}{flow:Nat}{s:ay}(h:P.tC but flow s [])(i:Nat):s i=P.xK but i flow:=by
 rw[kb,CE];refine⟨λhi=>(h.sound i hi).2,λhi=>zt6 h.start (λx y hy hn=>?_) i hi⟩;rcases h.done y hy with q|q
 ·cases q
 exact q x hn
structure Dfs(P:af)(but:Int)(a:Nat)(s t:ay):Prop where
 mono:∀x,s x->t x=true
 here:t a=true
 sound:∀x,t x->s x\/P.Via but a x
 closed:∀x y,t x->s x=false->P.nxt but x y->t y=true
structure rQ(P:af)(but:Int)(a:Nat)(s t:ay)(k:Nat):Prop where
 mono:∀x,s x->t x=true
 here:t a=true
 sound:∀x,t x->s x\/P.Via but a x
 closed:∀x y,t x->s x=false->x≠a->P.nxt but x y->t y=true
 kids:∀j,j<k->P.nxt but a j->t j=true
theorem rQ.begin:P.rQ but a s (mark s a) 0 where
 mono x h:=gg h
 here:=lq _ _
 sound x h:=by
  rcases oE.1 h with rfl|h
  ·exact .inr (.refl _)
  exact .inl h
 closed x y h1 h2 h3 _:=by
  rcases oE.1 h1 with rfl|h
  ·exact absurd rfl h3
  rw[h2] at h;cases h
 kids j h:=zo
variable{t:ay}
theorem rQ.skip(h:P.rQ but a s t k)(hk:P.nxt but a k->t k):P.rQ but a s t (k+1) where
 mono:=h.mono
 here:=h.here
 sound:=h.sound
 closed:=h.closed
 kids j hj hn:=by
  by_cases e:j=k
  ·subst e;exact hk hn
  exact h.kids j zo hn
theorem rQ.call{u:ay}(h:P.rQ but a s t k)(hn:P.nxt but a k)(hu:P.Dfs but k t u):P.rQ but a s u (k+1) where
 mono x hx:=hu.mono x<|h.mono x hx
 here:=hu.mono a h.here
 sound x hx:=by
  rcases hu.sound x hx with q|q
  ·exact h.sound x q
  exact .inr<|Via.head hn q
 closed x y h1 h2 h3 h4:=by
  cases e:t x with
  |true=>exact hu.mono y<|h.closed x y e h2 h3 h4
  |false=>exact hu.closed x y h1 e h4
 kids j hj hn:=by
  by_cases e:j=k
  ·subst e;exact hu.here
  exact hu.mono j<|h.kids j zo hn
theorem rQ.fin{P:af}{but:Int}{a:Nat}{s t:ay}{k:Nat}(h:P.rQ but a s t k)(hk:P.aG.length<=k\/P.dst a=but):P.Dfs but a s t where
 mono:=h.mono
 here:=h.here
 sound:=h.sound
 closed x y h1 h2 h3:=by
  by_cases e:x=a
  ·subst e;rcases hk with hk|hk
   ·exact h.kids y (by have:=h3.2.1;omega) h3
   exact absurd hk h3.2.2.2
  exact h.closed x y h1 h2 e h3
theorem Dfs.all(h:P.Dfs but a (λ_=>false) t)(b:Nat):t b=P.xK but a b:=by
 rw[kb,CE];refine⟨λhb=>?_,λhb=>zxc h.here (λx y hx hn=>h.closed x y hx rfl hn) b hb⟩;rcases h.sound b hb with q|q
 ·cases q
 exact q
def pn(P:af)(f:ay->Nat->Nat->Bool)(a:Nat):Nat->ay->Nat->Bool
 |0,t=>t
 |k+1,t=>if P.src k=P.dst a/\P.pn f a k t k=false then f (P.pn f a k t) k else P.pn f a k t
def dfs(P:af)(but:Int):Nat->ay->Nat->Nat->Bool
 |0,s,a=>mark s a
 |n+1,s,a=>if P.dst a=but then mark s a else P.pn (P.dfs but n) a P.aG.length<|mark s a
theorem M9{P:af}{but:Int}{a n:Nat}{s:ay}(ha:a<P.aG.length)(hb:P.dst a≠but)(hn:dH (mark s a) P.aG.length<=n)
  (ih:∀t k,dH t P.aG.length<=n->k<P.aG.length->t k=false->P.Dfs but k t (P.dfs but n t k)) :
  ∀k,k<=P.aG.length->P.rQ but a s (P.pn (P.dfs but n) a k<|mark s a) k/\dH (P.pn (P.dfs but n) a k<|mark s a) P.aG.length<=n
 |0,_=>⟨rQ.begin,hn⟩
 |k+1,hk=>by
  obtain⟨h1,h2⟩:=M9 ha hb hn ih k zo;simp only[pn];split
  ·rename_i h;have hd:=ih _ k h2 zo h.2;exact⟨h1.call ⟨ha,zo,h.1,hb⟩ hd,iv (DF λj _ hj=>hd.mono j hj) h2⟩
  rename_i h;refine⟨h1.skip λhx=>?_,h2⟩
  cases e:P.pn (P.dfs but n) a k (mark s a) k with
  |true=>rfl
  |false=>exact absurd ⟨hx.2.2.1,e⟩ h
theorem Kj{P:af}{but:Int}:∀(n:Nat) (s:ay) (a:Nat),dH s P.aG.length<=n->a<P.aG.length->s a=false->P.Dfs but a s (P.dfs but n s a)
 |0,s,a,h,ha,hs=>by
  have:=oS (s:=s) (s':=mark s a) ha (λj _ h=>gg h) hs<|lq _ _;omega
 |n+1,s,a,h,ha,hs=>by
  have:=oS (s:=s) (s':=mark s a) ha (λj _ h=>gg h) hs<|lq _ _;simp only[dfs];split
  ·rename_i hb;exact rQ.begin.fin (k:=0) (.inr hb)
  rename_i hb;exact(M9 ha hb zo (λt k h1 h2 h3=>Kj n t k h1 h2 h3) P.aG.length<|aT _).1.fin (.inl<|aT _)
end af
section
variable{Z:ah}{lo hi:Nat}
theorem Ze(h1:lo<hi)(h2:hi<=Z.length):(Z.take hi).drop lo=Z.getD lo 0::(Z.take hi).drop (lo+1):=by
 rw[zZ<|by rw[gA];omega,List.getElem_take,aE,aJ zo];rfl
theorem zot{k:Int}:((aA Z).take hi).drop lo++[[aa k]]=aA ((Z.take hi).drop lo++[k]):=by
 simp[aA]
theorem Y0(P:af)(hP:P.Fits)(hF:P.aG.length<=30)(flow:Nat)(hf:flow<P.aG.length)(aC:∀i,i<P.aG.length->P.oj i)(but:Int) :
  ar ai 302 [cm P,aa flow,aa but] (bD P.aG.length λi=>P.xK but i flow):=by
 refine bL ?_;rw[aK];refine⟨zo,zo,zo,?_⟩;rw[bQ,show List.map D.sc [Value.bool false]=[aD false] from rfl,lS];refine bE ?_;refine⟨_,bj flow zo zo,?_⟩;refine sW ?_
 refine bt [2,3,7] (λ((s,Z,lo,hi,aw):ay×ah×Nat×Nat×Nat)=>[(8,.own 2 aw lo hi)]) (λ(s,Z,lo,hi,aw)=>[(1,.vec true 0 1<|bV P.aG.length s),(2,.vec true aw 1<|aA Z)])
  (λ(s,Z,lo,hi,aw)=>lo<=hi/\hi<=Z.length/\hi-lo+dH s P.aG.length<=P.aG.length/\P.tC but flow s ((Z.take hi).drop lo)) (λ(s,Z,lo,hi,aw)=>(hi-lo)+dH s P.aG.length) (mark (λ_=>false) flow,[(flow:Int)],0,1,0) ?_
 refine sW ?_;have u1:=oS (s:=λ_=>false) (s':=mark (λ_=>false) flow) hf (λj _ h=>by cases h) rfl (lq _ _);have u2:=yj (λ_=>false) P.aG.length;refine⟨⟨zo,zs,zo,af.tC.begin hf⟩,by exact sK,by rw[qE (v:=flow) zo];rfl,?_⟩;rintro⟨s,Z,lo,hi,aw⟩ ⟨Hm,oG,hu,hI⟩;refine br (λh1=>?_) λh1=>?_
 ·have h1:lo<hi:=sO;rw[Ze h1 oG] at hI;have hx:=hI.todo (Z.getD lo 0) List.mem_cons_self;generalize hX:Z.getD lo 0=x at hx hI;have hfx:=af.x3.1<|aC x.toNat zo;refine sB ?_;refine⟨_,cA (l:=Z) (k:=lo) zo zo,?_⟩;refine sW ?_;rw[hX];refine sL (oz P (k:=x.toNat) zo zo) ?_;refine⟨zo,zo,zo,?_⟩;refine sW ?_;rw[show lo+(hi-lo)=hi by omega];refine sS (λh2=>?_) λh2=>?_
  ·have h2:P.src x.toNat=but:=sO;refine⟨(s,Z,lo+1,hi,aw),⟨zo,oG,zo,hI.stop h2⟩,zd,?_⟩;exact aL (by exact sK) rfl
  have h2:P.src x.toNat≠but:=sO;rw[aK]
  refine bt [2,3,7,9,38,39] (λ((t,Z',cR,aW,cf,k):ay×ah×Nat×Nat×Nat×Nat)=>[(8,.own 2 cf cR aW),(40,aa k)]) (λ(t,Z',cR,aW,cf,k)=>[(1,.vec true 0 1<|bV P.aG.length t),(2,.vec true cf 1<|aA Z')])
   (λ(t,Z',cR,aW,cf,k)=>k<=P.aG.length/\cR<=aW/\aW<=Z'.length/\aW-cR+dH t P.aG.length<hi-lo+dH s P.aG.length/\P.uB but flow t ((Z'.take aW).drop cR) x.toNat k) (λ(t,Z',cR,aW,cf,k)=>P.aG.length-k) (s,Z,lo+1,hi,aw,0) ?_
  refine sW ?_;refine⟨⟨zo,zo,oG,zo,hI.pop h2⟩,by exact sK,rfl,?_⟩;rintro⟨t,Z',cR,aW,cf,k⟩ ⟨hk,nW,nL,uS,hJ⟩;refine br (λh3=>?_) λh3=>?_
  ·have al:k<P.aG.length:=sO;refine sL (oz P (k:=k) zo al) ?_;have skip:(P.dst k=P.src x.toNat->t k)->P.uB but flow t ((Z'.take aW).drop cR) x.toNat (k+1):=hJ.skip;refine sS (λh4=>?_) λh4=>?_
   ·have h4:P.dst k=P.src x.toNat:=sO;refine sB ?_;refine⟨_,bj k zo zo,?_⟩;refine sW ?_;cases ht:t k
    ·refine bE ?_;refine⟨_,bj k zo zo,?_⟩;refine lh ?_;have u3:=oS (s:=t) (s':=mark t k) al (λj _ h=>gg h) ht<|lq _ _;have hp:=hJ.push al h4;refine⟨(mark t k,(Z'.take aW).drop cR++[(k:Int)],0,aW-cR+1,cf+1,k+1),⟨zo,zo,by simp;omega,zo,by rw[fQ,jd<|by simp;omega];exact hp⟩,zd,?_⟩
     (refine aR 3 zs rfl ?_ ?_<;>(repeat' (first|exact trivial|exact rfl|exact .refl _|refine And.intro ?_ ?_|(simp[aq,au,bg,-List.map_take,-List.map_drop];done))))
     ·exact aZ<|qE zo
     exact aZ zot
    refine bb ?_;refine⟨(t,Z',cR,aW,cf,k+1),⟨zo,nW,nL,uS,skip λ_=>ht⟩,zd,?_⟩;exact aR 3 zs rfl sQ sQ
   have h4:P.dst k≠P.src x.toNat:=sO;refine bb ?_;refine⟨(t,Z',cR,aW,cf,k+1),⟨zo,nW,nL,uS,skip λe=>absurd e h4⟩,zd,?_⟩;exact aR 3 zs rfl sQ sQ
  have al:k=P.aG.length:=by have:¬k<P.aG.length:=sO
                            omega
  subst al;refine⟨(t,Z',cR,aW,cf),⟨nW,nL,zo,hJ.fin⟩,zd,?_⟩;exact aL (by exact sK) rfl
 have h0:hi=lo:=sO;subst h0;rw[Ci<|by rw[gA];omega] at hI;rw[jS (g':=λi=>P.xK but i flow) λi _=>hI.fin i];exact s5 rfl
end
section
def Es:D:=.fn (.func 159) [] [.loc 3 0,.loc 0 0,.loc 1 0,.loc 4 0]
def Dm(P:af)(but:Int)(s:ay):aF:=[.row true P.cells,.row true [aa but],.vec true 0 1<|bV P.aG.length s,.row true [.own 2 0 0 P.aG.length],.row true [Es]]
@[simp] theorem zx2:aq m Es↔3<m/\0<m/\1<m/\4<m:=by simp[Es,aq,au]
variable(P:af)
theorem zrC(hP:P.Fits)(hF:P.aG.length<=30)(but:Int):∀(n:Nat) (s:ay) (a:Nat),dH s P.aG.length<=n->a<P.aG.length->s a=false ->
  cp ai 159 [aa a,.loc 3 0,.loc 0 0,.loc 1 0,.loc 4 0] (Dm P but s) (.aI []) (Dm P but<|P.dfs but n s a):=by
 intro n
 induction n with
 |zero =>
  intro s a h ha hs;have:=oS (s:=s) (s':=mark s a) ha (λj _ h=>gg h) hs<|lq _ _;omega
 |succ n ih =>
  intro s a h ha hs;have h1:=oS (s:=s) (s':=mark s a) ha (λj _ h=>gg h) hs<|lq _ _;refine iV fZ zs (by simp[Dm]) ?_ (by simp[aq,au]) (by simp[Dm,fo,ao.under,au,aq]);unfold Dm;refine sR ?_;refine sB ?_;refine⟨_,bj a zo zo,?_⟩;refine sW ?_;have fin:∀{u:ay},u=P.dfs but (n+1) s a->[ao.row true P.cells,ao.row true [aa but],ao.vec true 0 1<|bV P.aG.length u,ao.row true [D.own 2 0 0 P.aG.length],ao.row true [Es]]=[ao.row true P.cells,ao.row true [aa but],ao.vec true 0 1<|bV P.aG.length<|P.dfs but (n+1) s a,ao.row true [D.own 2 0 0 P.aG.length],ao.row true [Es]]:=λh=>by rw[h]
  refine bt [0,1,2,3,4] (λk:Nat=>[(6,aa k)]) (λk=>[(2,.vec true 0 1<|bV P.aG.length<|P.pn (P.dfs but n) a k<|mark s a)]) (λk=>k<=P.aG.length/\(P.dst a=but->k=0)) (λk=>P.aG.length-k) 0 ?_;refine sW ?_;refine⟨⟨zo,λ_=>rfl⟩,by exact sK,by rw[qE (v:=a) zo];rfl,?_⟩;rintro k ⟨hk,tL⟩;refine c6 ?_;rw[aK];refine sS (λh2=>?_) λh2=>?_
  ·have al:k<P.aG.length:=sO;refine sL (oz P (k:=a) zo ha) ?_;cases hb:(P.dst a != but)
   ·refine sW ?_;have hb:P.dst a=but:=sO;have:=tL hb;subst this;refine⟨fin ?_,zs⟩;rw[af.dfs,ae hb];rfl
   have hb:P.dst a≠but:=sO;obtain⟨hJ,hU⟩:=af.M9 (s:=s) ha hb zo (λt k g1 g2 g3=>af.Kj n t k g1 g2 g3) k hk;refine sW ?_;refine sL (oz P (k:=k) zo al) ?_;refine sL (oz P (k:=a) zo ha) ?_;have eK:P.pn (P.dfs but n) a (k+1) (mark s a)=if P.src k=P.dst a/\P.pn (P.dfs but n) a k (mark s a) k=false then P.dfs but n (P.pn (P.dfs but n) a k<|mark s a) k else P.pn (P.dfs but n) a k<|mark s a:=rfl
   generalize P.pn (P.dfs but n) a k (mark s a)=t at hJ hU eK;have no:¬(P.src k=P.dst a/\t k=false)->bV P.aG.length t=bV P.aG.length (P.pn (P.dfs but n) a (k+1)<|mark s a):=λh=>by rw[eK,ab h]
   have yes:P.src k=P.dst a->t k=false->bV P.aG.length (P.dfs but n t k)=bV P.aG.length (P.pn (P.dfs but n) a (k+1)<|mark s a):=λh1 h2=>by rw[eK,ae ⟨h1,h2⟩]
   refine sS (λh3=>?_) λh3=>?_
   ·have h3:P.src k=P.dst a:=sO;refine sB ?_;refine⟨_,bj k zo zo,?_⟩;refine sW ?_;cases ht:t k
    ·refine sW ?_;refine sA (ih t k hU al ht) ?_;refine sI ?_;refine⟨k+1,⟨zo,λe=>absurd e hb⟩,zd,?_⟩;exact aL (by exact sK)<|by unfold Dm;rw[yes h3 ht];rfl
    refine bb ?_;refine⟨k+1,⟨zo,λe=>absurd e hb⟩,zd,?_⟩;rw[no<|by rw[ht];simp];exact aL (by exact sK) rfl
   have h3:P.src k≠P.dst a:=sO;refine bb ?_;refine⟨k+1,⟨zo,λe=>absurd e hb⟩,zd,?_⟩;rw[no λh=>h3 h.1];exact aL (by exact sK) rfl
  have al:k=P.aG.length:=by have:¬k<P.aG.length:=sO
                            omega
  subst al;refine⟨fin ?_,zs⟩;rw[af.dfs,ab λe=>by have:=tL e;omega]
theorem Yv(hP:P.Fits)(hF:P.aG.length<=30)(a b:Nat)(ha:a<P.aG.length)(hb:b<P.aG.length)(but:Int) :
  ar ai 91 [cm P,aa a,aa b,aa but] (aD<|(a:Int) != b&&P.xK but a b):=by
 refine bL ?_;rw[aK];refine⟨zo,zo,zo,?_⟩;rw[bQ,show List.map D.sc [Value.bool false]=[aD false] from rfl,lS];refine sW ?_;refine sA (zrC P hP hF but P.aG.length (λ_=>false) a (yj _ _) ha rfl) ?_;have hd:=(af.Kj (P:=P) (but:=but) P.aG.length (λ_=>false) a (yj _ _) ha rfl).all b;cases Gi:((a:Int) != b)
 ·refine sW ?_;exact .refl _
 refine bE ?_;refine⟨_,bj b zo zo,?_⟩;refine sW ?_;rw[hd];exact .refl _
end
def val(M:ah)(i:Nat):Int:=M.getD i 0
namespace af
def iC(P:af)(n:Int)(a:Nat):Int:=(P.bC n).getD a 0
def lD(P:af)(n:Int)(a:Nat):Int:=(P.cn n).getD a 0
variable{a:Nat}
theorem Hu(h:a<l.length):l.getD a 0∈l:=by
 rw[aE,aJ h];exact ib h
theorem zmk{x:Int}(h:x∈l):∃k,k<l.length/\l.getD k 0=x:=s7 h
variable{P:af}{n:Int}
theorem AV(h:a<(P.bC n).length):0<=P.iC n a/\P.iC n a<P.aG.length/\P.dst (P.iC n a).toNat=n:=by
 obtain⟨i,h1,h2,h3⟩:=C3.1<|Hu h;unfold iC bC;rw[h3];rw[bQ];exact⟨zo,zo,by simpa using h2⟩
theorem Dt(h:a<(P.cn n).length):0<=P.lD n a/\P.lD n a<P.aG.length/\P.src (P.lD n a).toNat=n:=by
 obtain⟨i,h1,h2,h3⟩:=C3.1<|Hu h;unfold lD cn;rw[h3];rw[bQ];exact⟨zo,zo,by simpa using h2⟩
def vD(P:af)(M:ah)(n:Int):Nat->Bool
 |0=>false
 |a+1=>P.vD M n a||decide (0<val M (P.iC n a).toNat)
def wc(P:af)(M:ah)(n:Int):Nat->Bool
 |0=>true
 |a+1=>P.wc M n a&&decide (0<val M (P.iC n a).toNat)
def hold(P:af)(M:ah)(n:Int)(f i:Nat):Prop:=P.Via n i f/\0<val M i/\P.dst i≠n
def FG(P:af)(M:ah)(n:Int)(a:Nat):Prop:=val M (P.iC n a).toNat<=0/\∃i,i<P.aG.length/\P.hold M n (P.iC n a).toNat i
open Classical in
noncomputable def y4(P:af)(M:ah)(n:Int):Bool:=P.vD M n (P.bC n).length&&decide (∀a,a<(P.bC n).length->¬P.FG M n a)
open Classical in
noncomputable def nw(P:af)(M:ah)(s:b7):Bool :=
 if 0<=s.2.1 then decide (0<val M s.2.1.toNat) else if P.kind s.1.toNat=7 then P.y4 M s.1 else P.wc M s.1 (P.bC s.1).length
variable{M:ah}
open Classical in
theorem RU(ha:a<(P.bC n).length)(h:P.FG M n a):P.y4 M n=false:=by
 unfold y4;rw[IT];exact .inr<|gM λq=>q a ha h
open Classical in
theorem QP(h:∀a,a<(P.bC n).length->¬P.FG M n a):P.y4 M n=P.vD M n (P.bC n).length:=by
 unfold y4;rw[ia h,Cw]
theorem WX{f:Nat}(h0:val M f=0)(hk:0<val M k):P.hold M n f k↔(k≠f/\P.Via n k f):=by
 constructor
 ·rintro⟨h1,h2,h3⟩;exact⟨λe=>by subst e;omega,h1⟩
 rintro⟨h1,h2⟩;refine⟨h2,hk,?_⟩;rcases h2.first with q|q
 ·exact absurd q h1
 exact q
structure zU(P:af)(s:b7):Prop where
 node:0<=s.1/\s.1<P.nodes.length
 in_:-1<=s.2.1/\s.2.1<P.aG.length
 kind:s.2.1<0->P.kind s.1.toNat=6\/P.kind s.1.toNat=7
 out:0<=s.2.2/\s.2.2<=1073741824
theorem Qj(hf:P.aG.length<=30)(n:Int):0<=P.gd n/\P.gd n<=1073741823:=by
 have l2:=P.AN n;have:=C0 (k:=(P.cn n).length) (n:=30) zo;have e30:qb 30=1073741823:=rfl;unfold gd;omega
theorem RM{n:Int}{s:b7}:∀{k:Nat},s∈orS n k->s.1=n/\s.2.1=-1/\0<=s.2.2/\s.2.2<=k
 |0,h=>by cases h
 |k+1,h=>by
  simp only[orS,dt,cB] at h;rcases h with h|h
  ·have:=RM h;exact⟨this.1,this.2.1,this.2.2.1,zo⟩
  subst h;exact⟨rfl,rfl,zd,zd⟩
theorem Px{n i:Int}{s:b7}:∀{k:Nat},s∈wa n i k->s.1=n/\s.2.1=i/\∃j,j<k/\s.2.2=2^j
 |0,h=>by cases h
 |k+1,h=>by
  simp only[wa,dt,cB] at h;rcases h with h|h
  ·obtain⟨a,b,j,c,d⟩:=Px h;exact⟨a,b,j,zo,d⟩
  subst h;exact⟨rfl,rfl,k,zo,rfl⟩
theorem Xq{P:af}{k n:Int}{s:b7}(hf:P.aG.length<=30):∀{j:Nat},j<=(P.bC n).length->s∈P.kO k n j->s.1=n/\(0<=s.2.1/\s.2.1<P.aG.length)/\0<=s.2.2/\s.2.2<=1073741824
 |0,_,h=>by cases h
 |j+1,hj,h=>by
  simp only[kO,dt] at h;rcases h with h|h
  ·exact Xq hf zo h
  have hi:=AV (P:=P) (n:=n) (a:=j) zo;unfold iC at hi;have l2:=P.AN n;have ha:=Qj hf n;unfold mG at h;split at h
  ·obtain⟨a,b,i,c,d⟩:=Px h;have p1:=JJ i;have p2:=Fx (k:=i) (n:=30) zo;have p3:(2:Int)^30=1073741824:=zc;exact⟨a,zo,zo⟩
  rw[cB] at h;subst h;exact⟨rfl,⟨hi.1,hi.2.1⟩,ha.1,zd⟩
theorem znP{n:Nat}{s:b7}(hf:P.aG.length<=30)(hn:n<P.nodes.length)(h:s∈P.uJ n):P.zU s:=by
 have ha:=Qj hf n;unfold uJ at h;split at h
 ·obtain⟨a,b,c⟩:=Xq hf (aT _) h;exact⟨zo,zo,λq=>zo,c⟩
 split at h
 ·rename_i q;rw[cB] at h;subst h;exact⟨zd,zd,λ_=>.inl<|by rw[bQ];exact q,ha.1,zd⟩
 split at h
 ·rename_i q;obtain⟨a,b,c,d⟩:=RM h;exact⟨zo,zo,λ_=>.inr<|by rw[a,bQ];exact q,c,zo⟩
 cases h
theorem VH{P:af}{s:b7}(hf:P.aG.length<=30):∀{n:Nat},n<=P.nodes.length->s∈P.ng n->P.zU s
 |0,_,h=>by cases h
 |n+1,hn,h=>by
  simp only[ng,dt] at h;rcases h with h|h
  ·exact VH hf zo h
  exact znP hf zo h
noncomputable def nM(P:af)(M:ah)(l:List b7):Nat->ah
 |0=>[]
 |k+1=>if P.nw M (l.getD k (0,0,0))=true then P.nM M l k++[(k:Int)] else P.nM M l k
theorem TL(P:af)(M:ah)(l:List b7):∀k,(P.nM M l k).length<=k
 |0=>by simp[nM]
 |k+1=>by
  have:=TL P M l k;simp only[nM];split
  ·simp;omega
  omega
theorem Rp{P:af}{M:ah}{n:Int}(h:∀i,0<=val M i):∀a,P.wc M n a=!((List.range a).any λj=>val M (P.iC n j).toNat==0)
 |0=>rfl
 |a+1=>by
  rw[wc,Rp h a,qy,wW];have h1:decide (0<val M (P.iC n a).toNat)=!(val M (P.iC n a).toNat==0):=by
   have:=h (P.iC n a).toNat;by_cases q:val M (P.iC n a).toNat=0
   ·simp[q]
   rw[ia zo];simp[q]
  simp[h1]
theorem zq3{p:Int->Bool}:l.any p=(List.range l.length).any λj=>p<|l.getD j 0:=by
 rw[kb,kJ,kJ];constructor
 ·rintro⟨x,hx,hp⟩;obtain⟨k,hk,rfl⟩:=jN.1 hx;refine⟨k,fX.2 hk,?_⟩;rw[aE,aJ hk];exact hp
 rintro⟨k,hk,hp⟩;exact⟨_,Hu<|fX.1 hk,hp⟩
end af
section
structure af.Mark(P:af)(M:ah):Prop where
 len:M.length=P.aG.length
 pos:∀i,0<=val M i
 top:∀i,val M i<=9
theorem sm{M:ah}(hz:z=k)(h:k<M.length):(M.map λn=>[aa n])[z]? = some [aa<|val M k]:=cA hz h
variable{P:af}
theorem L6(h0:P.aS=0){n:Int}(h1:0<=n)(h2:n<P.nodes.length):P.mR n=0/\P.zA n=P.bC n/\P.yo n=P.cn n:=by
 have hE:P.mR n=0:=by unfold af.mR;rw[ab zo,ab zo]
 exact⟨hE,by unfold af.zA;rw[ae hE],by unfold af.yo;rw[ae hE]⟩
theorem Oc(h:P.aS=0):∀i,i<P.aG.length->P.oj i:=by
 unfold af.aS at h;repeat' (split at h)
 all_goals first|(exact absurd h zc)|(exact absurd h<|by assumption)|skip
 all_goals exact Classical.not_not.1<|by assumption
variable(P:af)
theorem zo0(hP:P.Fits)(h0:P.aS=0)(M:ah)(hM:P.Mark M)(n:Int)(h1:0<=n)(h2:n<P.nodes.length) :
  ar ai 299 [cm P,aO M,aa n] (aD<|P.y4 M n):=by
 obtain⟨nH,mQ⟩:=jV h0;obtain⟨hE,hI,_⟩:=L6 h0 h1 h2;have hi:=GP P hP n;rw[hI,hE] at hi;have l1:=P.Au n;have lM:=hM.len;refine bL ?_;refine sC hi ?_;rw[aK];refine bt [1,2,3,20,21] (λa:Nat=>[(9,aD<|P.vD M n a),(22,aa a)]) (λ_=>[]) (λa=>a<=(P.bC n).length/\∀j,j<a->¬P.FG M n j) (λa=>(P.bC n).length-a) 0 ?_;refine sW ?_;refine⟨⟨zo,λj h=>zo⟩,by exact sK,rfl,?_⟩;rintro a ⟨ha,bR⟩;refine br (λh3=>?_) λh3=>?_
 ·have gV:a<(P.bC n).length:=sO;have bp:=af.AV (P:=P) (n:=n) gV;have ep:P.vD M n (a+1)=(P.vD M n a||decide (0<val M (P.iC n a).toNat)):=rfl;refine sL (cA (k:=a) zo gV) ?_;rw[show(P.bC n).getD a 0=P.iC n a from rfl];generalize hx:P.iC n a=x at bp ep;refine sL (sm (k:=x.toNat) zo zo) ?_;refine sS (λh4=>?_) λh4=>?_
  ·have h4:0<val M x.toNat:=sO;refine bb ?_;refine⟨a+1,⟨zo,λj hj=>?_⟩,zd,?_⟩
   ·by_cases e:j=a
    ·subst e;exact λq=>by have:=q.1;rw[hx] at this;omega
    exact bR j zo
   rw[ia h4,Bool.or_true] at ep;exact aL ⟨by simp only[ep];rfl,by exact sK⟩ rfl
  have h4:¬0<val M x.toNat:=sO;rw[gM h4,vV] at ep;have hc:=Y0 P hP mQ x.toNat zo (Oc h0) n;rw[show((x.toNat:Nat):Int)=x by omega] at hc;refine sW ?_;refine sC hc ?_;rw[NX];refine bt [1,2,3,9,20,21,22,34,35] (λk:Nat=>[(36,aa k)]) (λ_=>[]) (λk=>k<=P.aG.length/\∀i,i<k->¬P.hold M n x.toNat i) (λk=>P.aG.length-k) 0 ?_;refine sW ?_;refine⟨⟨zo,λj h=>zo⟩,by exact sK,rfl,?_⟩;rintro k ⟨hk,da⟩;refine c6 ?_;have next:∀{i:Nat},¬P.hold M n x.toNat k->i<k+1->¬P.hold M n x.toNat i:=λh1 h2=>by
   rename_i i;by_cases e:i=k
   ·subst e;exact h1
   exact da i zo
  refine sS (λh5=>?_) λh5=>?_
  ·have al:k<P.aG.length:=sO;refine sL (bj k zo al) ?_;cases hv:P.xK n k x.toNat
   ·refine bb ?_;refine⟨k+1,⟨zo,λi hi=>next (λq=>by rw[af.CE.2 q.1] at hv;cases hv) hi⟩,zd,aL (by exact sK) rfl⟩
   refine sW ?_;refine sL (sm (k:=k) zo zo) ?_;cases hg:decide (val M k>0)
   ·refine bb ?_;refine⟨k+1,⟨zo,λi hi=>next (λq=>by rw[ia q.2.1] at hg;cases hg) hi⟩,zd,aL (by exact sK) rfl⟩
   refine sW ?_;refine sL (oz P (k:=k) zo al) ?_;refine sS (λh6=>?_) λh6=>?_
   ·have h6:P.dst k≠n:=sO;rw[af.RU gV ⟨by rw[hx];omega,k,al,by rw[hx];exact⟨af.CE.1 hv,qL hg,h6⟩⟩];exact .refl _
   have h6:P.dst k=n:=sO;refine sI ?_;refine⟨k+1,⟨zo,λi hi=>next (λq=>q.2.2 h6) hi⟩,zd,aL (by exact sK) rfl⟩
  have al:k=P.aG.length:=by have:¬k<P.aG.length:=sO
                            omega
  subst al;refine sI ?_;refine⟨a+1,⟨zo,λj hj=>?_⟩,zd,aL ⟨by simp only[ep];rfl,by exact sK⟩ rfl⟩;by_cases e:j=a
  ·subst e;rintro⟨-,i,q1,q2⟩;rw[hx] at q2;exact da i q1 q2
  exact bR j zo
 have gV:a=(P.bC n).length:=by have:¬a<(P.bC n).length:=sO
                               omega
 subst gV;rw[af.QP bR];exact .refl _
theorem zid(M:ah)(x:Int)(h1:0<=x)(h2:x<M.length):ar ai 300 [aa x,.aB [aO M]]<|aD<|val M x.toNat==0:=by
 refine bL ?_;refine sL (sm (k:=x.toNat) zo zo) ?_;exact .refl _
theorem Ra(hP:P.Fits)(h0:P.aS=0)(M:ah)(hM:P.Mark M)(s:b7)(hs:P.zU s) :
  ar ai 285 [cm P,aO M,.agg<|wv s] (aD<|P.nw M s):=by
 obtain⟨nH,mQ⟩:=jV h0;have hn:=hs.node;have bp:=hs.in_;obtain⟨hE,hI,_⟩:=L6 h0 hn.1 hn.2;have hi:=GP P hP s.1;rw[hI,hE] at hi;have l1:=P.Au s.1;have lM:=hM.len
 have Gz:ar ai 69 [aO<|P.bC s.1,.fn (.func 300) [] [.aB [aO M]]] (aD<|(P.bC s.1).any λx=>val M x.toNat==0) :=
  mC (λn=>aa n) (λ_=>by simp[Pure]) (P.bC s.1) zo (λx=>val M x.toNat==0) 300 [.aB [aO M]] (by simp[an,Pure,cG]) λa ha=>by
   obtain⟨k,hk,e⟩:=af.zmk ha;have:=af.AV (P:=P) (n:=s.1) hk;unfold af.iC at this;rw[e] at this;exact zid M _ this.1 zo
 refine bK fZ ?_;have e:P.nw M s=if 0<=s.2.1 then decide (0<val M s.2.1.toNat) else if P.kind s.1.toNat=7 then P.y4 M s.1 else P.wc M s.1 (P.bC s.1).length:=rfl
 refine sRS (λh1=>?_) λh1=>?_
 ·have h1:0<=s.2.1:=sO;rw[ae h1] at e;refine sL (sm (k:=s.2.1.toNat) zo zo) ?_;rw[e];exact .refl _
 have h1:¬0<=s.2.1:=sO;rw[ab h1] at e;refine sL (ka P (k:=s.1.toNat) zo zo) ?_;refine sS (λh2=>?_) λh2=>?_
 ·have h2:P.kind s.1.toNat=7:=sO;rw[ae h2] at e;refine sC (zo0 P hP h0 M hM s.1 hn.1 hn.2) ?_;rw[e];exact .refl _
 have h2:P.kind s.1.toNat≠7:=sO;rw[ab h2] at e;refine sC hi ?_;refine sN Gz ?_;rw[e,af.Rp hM.pos,af.zq3];exact .refl _
end
section
theorem zyZ(M:ah):gl M.length (val M)=M:=by
 apply Du
 ·simp
 intro i h1 h2;simp[gl,val,aE,aJ h2]
theorem X1{y:Int}(h:0<=y)(h':y<9223372036854775808):jv .and .i64 y 1=y.tmod 2:=by
 obtain⟨n,rfl⟩:∃n:Nat,y=n:=⟨y.toNat,zo⟩;have e:(BitVec.ofInt 64 (n:Int) &&& BitVec.ofInt 64 1).toNat=n%2:=by
  rw[BitVec.toNat_and];have e1:(BitVec.ofInt 64 (n:Int)).toNat=n:=(by rw[BitVec.toNat_ofInt];omega);have e2:(BitVec.ofInt 64 1).toNat=1:=zc;rw[e1,e2,Nat.and_one_is_mod]
 show IntKind.i64.wrap ((BitVec.ofInt 64 (n:Int) &&& BitVec.ofInt 64 1).toNat:Int)=_;rw[e,show((n:Int).tmod 2)=((n%2:Nat):Int) from(Int.ofNat_tmod n 2).symm,gf];omega
namespace af
def pW(P:af)(M:ah)(s:b7)(f:Nat):Bool:=decide (P.dst f=s.1)&&(s.2.1==(f:Int)||decide (s.2.1<0)&&decide (0<val M f))
def me(P:af)(M:ah)(s:b7)(f:Nat):Int:=val M f-if P.pW M s f=true then 1 else 0
def iU(P:af)(s:b7)(f:Nat):Nat->Int
 |0=>0
 |k+1=>P.iU s f k+if P.lD s.1 k=(f:Int)/\oh s.2.2 k=true then 1 else 0
def fF(P:af)(M:ah)(s:b7)(f:Nat):Int:=P.me M s f+P.iU s f (P.cn s.1).length
theorem zv(P:af)(s:b7)(f:Nat):∀k,0<=P.iU s f k/\P.iU s f k<=k
 |0=>by simp[iU]
 |k+1=>by
  have:=zv P s f k;simp only[iU];split<;>omega
theorem Sc(P:af)(s:b7)(f:Nat){j:Nat}:∀{k:Nat},j<=k->P.iU s f j<=P.iU s f k
 |0,h=>by rw[show j=0 by omega];exact Int.le_refl _
 |k+1,h=>by
  by_cases e:j=k+1
  ·rw[e];exact Int.le_refl _
  have:=Sc P s f (j:=j) (k:=k) zo;have h2:P.iU s f k<=P.iU s f (k+1):=by
   simp only[iU];split<;>omega
  omega
variable{P:af}{M:ah}
theorem Mh(hM:P.Mark M)(s:b7)(f:Nat):-1<=P.me M s f/\P.me M s f<=9:=by
 have h1:=hM.pos f;have h2:=hM.top f;unfold me;split<;>omega
open Classical in
noncomputable def kW(P:af)(M:ah)(s:b7):Int:=if P.kind s.1.toNat=3 then 0 else if ∃f,f<P.aG.length/\9<P.fF M s f then 7 else 0
noncomputable def qe(P:af)(M:ah)(s:b7):ah :=
 if P.kind s.1.toNat=3 then gl P.aG.length λ_=>0 else if P.kW M s=0 then gl P.aG.length<|P.fF M s else []
variable{a:Nat}
theorem OI{r:ah}(h:a<l.length):(l++r).getD a 0=l.getD a 0:=by
 rw[aE,aE,fv h]
theorem zic{x:Int}:(l++[x]).getD l.length 0=x:=by
 rw[aE,gJ<|aT _,rm];rfl
theorem JZ{p:ay}:∀{n a b:Nat},a<b->b<(pick p n).length->(pick p n).getD a 0<(pick p n).getD b 0
 |0,_,_,_,h=>by simp[pick] at h
 |n+1,a,b,Gi,h=>by
  simp only[pick] at h⊢;split
  ·rename_i hp;rw[ae hp,cq,jA] at h;by_cases e:b=(pick p n).length
   ·subst e;obtain⟨i,g1,g2,g3⟩:=C3.1<|Hu (l:=pick p n) (a:=a) Gi;rw[OI Gi,g3,zic];omega
   rw[OI zo,OI zo];exact JZ Gi zo
  rename_i hp;rw[ab hp] at h;exact JZ Gi h
variable{n:Int}
theorem zwt{b:Nat}(h:a<b)(hb:b<(P.bC n).length):P.iC n a<P.iC n b:=JZ h hb
variable{f:Nat}
theorem Zt(hf:f<P.aG.length)(h:P.dst f=n):∃a,a<(P.bC n).length/\P.iC n a=f:=s7<|C3.2 ⟨f,hf,by simpa using h,rfl⟩
structure uF(P:af)(M:ah)(s:b7)(g:Nat->Int)(a:Nat):Prop where
 gone:∀f j:Nat,j<a->P.iC s.1 j=(f:Int)->g f=P.me M s f
 left:∀f:Nat,(∀j,j<a->P.iC s.1 j≠(f:Int))->g f=val M f
variable{s:b7}
theorem uF.begin:P.uF M s (val M) 0:=⟨λf j h=>zo,λf _=>rfl⟩
variable{x:Nat}
theorem uF.old(h:P.uF M s g a)(ha:a<(P.bC s.1).length)(hx:P.iC s.1 a=(x:Int)):g x=val M x :=
 h.left x λj hj e=>by
  have:=zwt hj ha;omega
theorem uF.next{g':Nat->Int}(h:P.uF M s g a)(ha:a<(P.bC s.1).length)(hx:P.iC s.1 a=(x:Int))(h1:g' x=P.me M s x)(h2:∀f,f≠x->g' f=g f):P.uF M s g' (a+1) where
 gone f j hj e:=by
  by_cases q:f=x
  ·subst q;exact h1
  rw[h2 f q];refine h.gone f j ?_ e;by_cases q2:j=a
  ·subst q2;rw[hx] at e;omega
  omega
 left f hf:=by
  rw[h2 f λe=>by subst e;exact hf a zo hx];exact h.left f λj hj=>hf j zo
theorem uF.fin{P:af}{M:ah}{s:b7}{g:Nat->Int}(h:P.uF M s g (P.bC s.1).length){f:Nat}(hf:f<P.aG.length):g f=P.me M s f:=by
 by_cases e:P.dst f=s.1
 ·obtain⟨a,h1,h2⟩:=Zt hf e;exact h.gone f a h1 h2
 rw[h.left f λj hj q=>e<|by have:=(AV (P:=P) (n:=s.1) hj).2.2;rw[q,bQ] at this;exact this];unfold me pW;rw[gM e];simp
theorem CO(h:P.lD s.1 k=(x:Int))(hb:oh s.2.2 k):P.iU s x (k+1)=P.iU s x k+1:=by
 simp only[iU];rw[ae ⟨h,hb⟩]
theorem sH(h:P.lD s.1 k≠(f:Int)\/oh s.2.2 k=false):P.iU s f (k+1)=P.iU s f k:=by
 simp only[iU];rw[ab (by rintro⟨h1,h2⟩;rcases h with h|h;exact h h1;rw[h] at h2;cases h2),Int.add_zero]
end af
end
section
@[simp] theorem zxu(l:List b7):aq m (m4 l)↔True:=⟨λ_=>trivial,λ_=>bw _<|IG l⟩
namespace af
def ml(P:af)(M:ah):Bool:=decide (M.length=P.aG.length)&&bx M 10
noncomputable def kf(P:af)(M:ah):Int:=if P.dI≠0 then P.dI else if P.ml M=true then 0 else 1
noncomputable def wI(P:af)(M:ah):List b7:=if P.kf M=0 then P.bd else []
variable{P:af}{M:ah}
theorem gg(h:P.ml M):P.Mark M:=by
 unfold ml at h;rw[fY,ja] at h;have k:∀i,0<=val M i/\val M i<=9:=λi=>by
  by_cases hi:i<M.length
  ·have:=Wv h.2 hi;unfold val;omega
  unfold val;rw[aE,cY zo];simp
 exact⟨h.1,λi=>(k i).1,λi=>(k i).2⟩
theorem kY(h:P.dI=0):P.aS=0/\P.bd=P.ng P.nodes.length/\P.bd.length<=60:=by
 have e:P.bd=P.ng P.nodes.length:=by unfold bd;rw[ae h]
 unfold dI at h;split at h
 ·rename_i q;exact absurd h q
 rename_i q;split at h
 ·cases h
 exact⟨Classical.not_not.1 q,e,by rw[e];omega⟩
theorem Oo(h:P.kf M=0):P.dI=0/\P.ml M:=by
 unfold kf at h;split at h
 ·rename_i q;exact absurd h q
 rename_i q;split at h
 ·rename_i q2;exact⟨Classical.not_not.1 q,q2⟩
 cases h
theorem zb(h:P.dI=0)(hk:k<P.bd.length):P.zU<|P.bd.getD k (0,0,0):=by
 obtain⟨h0,e,_⟩:=kY h;refine VH (jV h0).2 (aT _) ?_;rw[e] at hk⊢;rw[aE,aJ hk];exact ib hk
end af
theorem xg{l:List b7}(hz:z=k)(h:k<l.length):(iw l)[z]? = some (wv<|l.getD k (0,0,0)):=by
 rw[zwr hz h,aE,aJ h];rfl
def qR(P:af)(i:Nat):Int:=if P.kind (P.src i).toNat=1 then 1 else 0
noncomputable def af.jx(P:af):ah:=if P.dI=0 then gl P.aG.length<|qR P else []
theorem Ya(x:Int):ar ai 298 [aa x]<|aD<|decide (x<0)||decide (x>9):=by
 refine bL ?_;cases h:decide (x<0)
 ·refine sW ?_;exact .refl _
 refine sW ?_;exact .refl _
theorem XW(M:ah):(M.any λx=>decide (x<0)||decide (x>9))=!bx M 10:=by
 unfold bx;rw[List.all_eq_not_any_not,Bool.not_not]
 congr 1
 funext x;by_cases h1:x<0<;>by_cases h2:x>9<;>simp[h1,h2]<;>omega
variable(P:af)
theorem S0(hP:P.Fits)(M:ah)(hM:M.length<=9223372036854775807):ar ai 284 [cm P,aO M] (.aI [m4<|P.wI M,aa<|P.kf M]):=by
 refine bK fZ ?_;have bad:∀{H:aF} {e:Int},e≠0->P.kf M=e->Deep H (.aI [ax,aa e]) (.aI [m4<|P.wI M,aa<|P.kf M]):=λh k=>by
  have:P.wI M=[]:=by unfold af.wI;rw[ab<|by rw[k];exact h]
  rw[k,this];exact .aI _ _ (.cons _ _ _ _ (.none _) (.cons _ _ _ _ (.refl _) .nil))
 have Gz:=mC (λn=>aa n) (λ_=>by simp[Pure]) M hM (λx=>decide (x<0)||decide (x>9)) 298 [] (by simp[an]) λa _=>Ya a;rw[XW] at Gz;have yB:=hP.aG;have eE:P.kf M=if P.dI≠0 then P.dI else if P.ml M=true then 0 else 1:=rfl
 refine sR ?_;refine sC (CL P hP) ?_;refine sS (λh1=>?_) λh1=>?_
 ·have h1:P.dI≠0:=sO;exact bad h1<|by rw[eE,ae h1]
 have h1:P.dI=0:=sO;rw[ab zo] at eE;rw[aK,aK];cases h2:((M.length:Int) != P.aG.length)
 ·have h2:M.length=P.aG.length:=sO;refine sW ?_;refine sC Gz ?_;have eM:P.ml M=bx M 10:=(by unfold af.ml;rw[ia h2,kP]);cases h3:bx M 10
  ·refine sW ?_;exact bad zc<|by rw[eE,ab<|by rw[eM,h3];decide]
  refine sW ?_;have e0:P.kf M=0:=(by rw[eE,ae<|by rw[eM,h3]]);have eL:P.wI M=P.bd:=(by unfold af.wI;rw[ae e0]);rw[e0,eL];exact .refl _
 have h2:M.length≠P.aG.length:=sO;refine sW ?_;exact bad zc<|by rw[eE,ab<|by unfold af.ml;rw[gM h2];simp]
noncomputable def af.du(P:af)(M:ah):ah:=if P.kf M=0 then P.nM M P.bd P.bd.length else []
theorem zkw(hP:P.Fits)(M:ah)(hM:M.length<=9223372036854775807):ar ai 242 [cm P,aO M] (.aI [aO<|P.du M,aa<|P.kf M]):=by
 refine bL ?_;refine sC (S0 P hP M hM) ?_;refine sS (λh1=>?_) λh1=>?_
 ·have h1:P.kf M≠0:=sO;have:P.du M=[]:=by unfold af.du;rw[ab h1]
  rw[this];exact .aI _ _ (.cons _ _ _ _ (.none _) (.cons _ _ _ _ (.refl _) .nil))
 have h1:P.kf M=0:=sO;obtain⟨hE,hB⟩:=af.Oo h1;obtain⟨h0,_,qB⟩:=af.kY hE;have hK:=af.gg hB;have eL:P.wI M=P.bd:=by unfold af.wI;rw[ae h1]
 have eN:P.du M=P.nM M P.bd P.bd.length:=by unfold af.du;rw[ae h1]
 rw[eL,h1,eN,zh];refine b8 (fL 8 1 zs rfl) ?_;refine bt [1,2,20,21] (λ((k,c,l):Nat×Nat×ah)=>[(8,.own 1 c 0 c),(22,aa k)]) (λ(k,c,l)=>[(1,.vec true c 1<|aA l)]) (λ(k,c,l)=>k<=P.bd.length/\c=l.length/\c<=k/\l=P.nM M P.bd k) (λ(k,c,l)=>P.bd.length-k) (0,0,[]) ?_;refine sW ?_;refine⟨⟨zo,rfl,zo,rfl⟩,by exact sK,rfl,?_⟩;rintro⟨k,c,l⟩ ⟨hk,hc,ow,hl⟩;refine br (λh2=>?_) λh2=>?_
 ·have al:k<P.bd.length:=sO;have pS:=af.zb hE al;have eT:P.nM M P.bd (k+1)=if P.nw M (P.bd.getD k (0,0,0))=true then P.nM M P.bd k++[(k:Int)] else P.nM M P.bd k:=rfl
  refine sL (xg (k:=k) zo al) ?_;generalize P.bd.getD k (0,0,0)=s at pS eT;refine sC (Ra P hP h0 M hK s pS) ?_;cases hm:P.nw M s
  ·refine bb ?_;refine⟨(k+1,c,l),⟨zo,hc,zo,by rw[eT,hm,hl];rfl⟩,zd,?_⟩;exact aR 2 zs rfl sQ sQ
  refine lh ?_;refine⟨(k+1,c+1,l++[(k:Int)]),⟨zo,by simp[hc],zo,by rw[eT,hm,hl];rfl⟩,zd,?_⟩;refine aR 2 zs rfl sQ (sU ?_);exact aZ<|nk hc
 have al:k=P.bd.length:=by have:¬k<P.bd.length:=sO
                           omega
 subst al;rw[<-hl];exact .aI _ _ (.cons _ _ _ _ (oJ hc rfl) (.cons _ _ _ _ (.refl _) .nil))
theorem zoU(hP:P.Fits):ar ai 160 [cm P] (.aI [aO P.jx,aa P.dI]):=by
 refine bL ?_;refine sC (CL P hP) ?_;refine sS (λh1=>?_) λh1=>?_
 ·have h1:P.dI≠0:=sO;have:P.jx=[]:=by unfold af.jx;rw[ab h1]
  rw[this];exact .aI _ _ (.cons _ _ _ _ (.none _) (.cons _ _ _ _ (.refl _) .nil))
 have h1:P.dI=0:=sO;obtain⟨h0,_,_⟩:=af.kY h1;obtain⟨nH,mQ⟩:=jV h0;have eB:P.jx=gl P.aG.length (qR P):=by unfold af.jx;rw[ae h1]
 rw[aK,h1,eB];refine⟨zo,zo,zo,?_⟩;rw[bQ,show List.map D.sc [Value.int .i64 0]=[aa 0] from rfl,zT];refine sW ?_;rw[aK];refine bt [1,6,22,23] (λ((k,g):Nat×(Nat->Int))=>[(24,aa k)]) (λ(k,g)=>[(1,.vec true 0 1<|aA<|gl P.aG.length g)]) (λ(k,g)=>k<=P.aG.length/\∀i,g i=if i<k then qR P i else 0) (λ(k,g)=>P.aG.length-k) (0,λ_=>0) ?_;refine sW ?_;refine⟨⟨zo,λi=>rfl⟩,by exact sK,rfl,?_⟩;rintro⟨k,g⟩ ⟨hk,hg⟩;refine br (λh2=>?_) λh2=>?_
 ·have al:k<P.aG.length:=sO;have hfk:=af.x3.1<|Oc h0 k al;refine sL (oz P (k:=k) zo al) ?_;refine sL (ka P (k:=(P.src k).toNat) zo zo) ?_;refine sS (λh3=>?_) λh3=>?_
  ·have h3:P.kind (P.src k).toNat=1:=sO;refine sB ?_;refine⟨_,cD k zo zo,?_⟩;refine bb ?_;refine⟨(k+1,fN g k 1),⟨zo,λi=>?_⟩,zd,?_⟩
   ·by_cases e:i=k
    ·subst e;rw[kB,ae zo];unfold qR;rw[ae h3]
    rw[so e,hg];by_cases q:i<k
    ·rw[ae q,ae zo]
    rw[ab q,ab zo]
   refine aR 2 zs rfl sQ (sU ?_);exact aZ<|kV zo
  have h3:P.kind (P.src k).toNat≠1:=sO;refine sI ?_;refine⟨(k+1,g),⟨zo,λi=>?_⟩,zd,?_⟩
  ·rw[hg];by_cases e:i=k
   ·subst e;rw[ab zo,ae zo];unfold qR;rw[ab h3]
   by_cases q:i<k
   ·rw[ae q,ae zo]
   rw[ab q,ab zo]
  exact aR 2 zs rfl sQ sQ
 have al:k=P.aG.length:=by have:¬k<P.aG.length:=sO
                           omega
 subst al;have e:gl P.aG.length (qR P)=gl P.aG.length g:=vt λi hi=>by rw[hg,ae hi]
 rw[e];exact .aI _ _ (.cons _ _ _ _ (AL rfl) (.cons _ _ _ _ (.refl _) .nil))
end
section
theorem zwQ{zs:fE}{y:bh}(h:zs.length=n):zs.take 0++List.replicate (n-0) y++zs.drop n=List.replicate n y:=by
 rw[Ci zo];simp
theorem zoG{x:Int}(h:0<=x)(h':x<=1073741824)(k:Nat):0<=x.fdiv (2^k)/\x.fdiv (2^k)<9223372036854775808:=by
 have hp:(0:Int)<2^k:=Int.pow_pos zc;rw[Int.fdiv_eq_ediv_of_nonneg _ zo];have h1:=Int.ediv_nonneg h (by omega:(0:Int)<=2^k);have h2:=Int.ediv_le_self (2^k) h;omega
variable(P:af)
theorem zrK(hP:P.Fits)(h0:P.aS=0)(M:ah)(hM:P.Mark M)(s:b7)(hs:P.zU s) :
  ar ai 286 [cm P,aO M,.agg<|wv s] (.aI [aO<|P.qe M s,aa<|P.kW M s]):=by
 obtain⟨nH,mQ⟩:=jV h0;have hn:=hs.node;obtain⟨hE,hI,hO⟩:=L6 h0 hn.1 hn.2;have hi:=GP P hP s.1;have ho:=Tl P hP s.1;rw[hI,hE] at hi;rw[hO,hE] at ho;have l1:=P.Au s.1;have l2:=P.AN s.1;have lM:=hM.len;have Cr:=hs.out;have eE:P.kW M s=if P.kind s.1.toNat=3 then 0 else if ∃f,f<P.aG.length/\9<P.fF M s f then 7 else 0:=by unfold af.kW;rfl
 have eL:P.qe M s=if P.kind s.1.toNat=3 then gl P.aG.length λ_=>0 else if P.kW M s=0 then gl P.aG.length<|P.fF M s else []:=rfl
 refine bL ?_;refine sE (ri (MC M zo) (by simp[an,Pure]) [2] rfl rfl (by simp[ao.aQ,bP,D.aQ];rfl)) ?_;rw[lM];refine sL (ka P (k:=s.1.toNat) zo zo) ?_;refine sS (λh1=>?_) λh1=>?_
 ·have h1:P.kind s.1.toNat=3:=sO;rw[ae h1] at eE eL;rw[eE,eL,zwQ<|by rw[aK];exact lM,zT];exact .aI _ _ (.cons _ _ _ _ (AL rfl) (.cons _ _ _ _ (.refl _) .nil))
 have h1:P.kind s.1.toNat≠3:=sO;rw[ab h1] at eE eL;refine sC hi ?_;rw[aK];have eM:(M.map λn=>[aa n])=aA (gl P.aG.length<|val M):=by rw[<-lM,zyZ];rfl
 refine bt [3,5,8,36,37] (λ((a,g):Nat×(Nat->Int))=>[(38,aa a)]) (λ(a,g)=>[(2,.vec true 1 1<|aA<|gl P.aG.length g)]) (λ(a,g)=>a<=(P.bC s.1).length/\P.uF M s g a) (λ(a,g)=>(P.bC s.1).length-a) (0,val M) ?_;refine sW ?_;refine⟨⟨zo,af.uF.begin⟩,by exact sK,by rw[eM];rfl,?_⟩;rintro⟨a,g⟩ ⟨ha,hA⟩;refine br (λh2=>?_) λh2=>?_
 ·have gV:a<(P.bC s.1).length:=sO;have bp:=af.AV (P:=P) (n:=s.1) gV;obtain⟨X,hX⟩:∃X:Nat,P.iC s.1 a=X:=⟨_,(ui bp.1).symm⟩;have hold:=hA.old gV hX;have v1:=hM.pos X;have v2:=hM.top X;refine sL (cA (k:=a) zo gV) ?_;rw[show(P.bC s.1).getD a 0=P.iC s.1 a from rfl,hX];rw[hX,bQ] at bp;have eD:P.pW M s X=(s.2.1==(X:Int)||decide (s.2.1<0)&&decide (0<val M X)):=(by unfold af.pW;rw[ia bp.2.2,kP]);have eBase:P.me M s X=val M X-if P.pW M s X=true then 1 else 0:=rfl
  cases h3:(s.2.1==(X:Int))
  ·refine sW ?_;rw[h3,uW] at eD;cases h4:decide (s.2.1<0)
   ·rw[h4,pt] at eD;rw[ab<|by rw[eD];decide,Int.sub_zero] at eBase;refine bb ?_;refine⟨(a+1,g),⟨zo,hA.next gV hX (by rw[eBase,hold]) λf hf=>rfl⟩,zd,?_⟩;exact aL (by exact sK) rfl
   refine bE ?_;refine⟨_,cD X zo zo,?_⟩;refine sW ?_;rw[h4,kP] at eD;rw[hold];cases h5:decide (val M X>0)
   ·have eD:P.pW M s X=false:=(by rw[eD];exact h5);rw[ab<|by rw[eD];decide,Int.sub_zero] at eBase;refine bb ?_;refine⟨(a+1,g),⟨zo,hA.next gV hX (by rw[eBase,hold]) λf hf=>rfl⟩,zd,?_⟩;exact aL (by exact sK) rfl
   have eD:P.pW M s X:=(by rw[eD];exact h5);rw[ae eD] at eBase;refine bE ?_;refine⟨_,cD X zo zo,?_⟩;refine bb ?_;refine sB ?_;refine⟨_,cD X zo zo,?_⟩;refine bb ?_;refine⟨(a+1,fN g X<|g X-1),⟨zo,hA.next gV hX (by rw[kB,eBase,hold]) λf hf=>so hf⟩,zd,?_⟩;exact aL (by exact sK)<|by rw[kV (k:=X) zo];rfl
  rw[h3,zj] at eD;rw[ae eD] at eBase;refine bE ?_;refine⟨_,cD X zo zo,?_⟩;refine bb ?_;refine sB ?_;refine⟨_,cD X zo zo,?_⟩;refine bb ?_;refine⟨(a+1,fN g X<|g X-1),⟨zo,hA.next gV hX (by rw[kB,eBase,hold]) λf hf=>so hf⟩,zd,?_⟩;exact aL (by exact sK)<|by rw[kV (k:=X) zo];rfl
 have gV:a=(P.bC s.1).length:=by have:¬a<(P.bC s.1).length:=sO
                                 omega
 subst gV;refine sC ho ?_;rw[aK];refine bt [5,8,72,73] (λ((k,g):Nat×(Nat->Int))=>[(74,aa k)]) (λ(k,g)=>[(2,.vec true 1 1<|aA<|gl P.aG.length g)]) (λ(k,g)=>k<=(P.cn s.1).length/\∀f,f<P.aG.length->g f=P.me M s f+P.iU s f k/\g f<=9) (λ(k,g)=>(P.cn s.1).length-k) (0,g) ?_;refine sW ?_;refine⟨⟨zo,λf hf=>?_⟩,by exact sK,rfl,?_⟩
 ·have b1:=af.Mh hM s f;rw[hA.fin hf];exact⟨by simp[af.iU],b1.2⟩
 clear hA h2;rintro⟨k,g⟩ ⟨hk,hg⟩;refine br (λh2=>?_) λh2=>?_
 ·have al:k<(P.cn s.1).length:=sO;have bp:=af.Dt (P:=P) (n:=s.1) al;obtain⟨X,hX⟩:∃X:Nat,P.lD s.1 k=X:=⟨_,(ui bp.1).symm⟩;refine sL (cA (k:=k) zo al) ?_;rw[show(P.cn s.1).getD k 0=P.lD s.1 k from rfl,hX];rw[hX,bQ] at bp;have fd:=zoG Cr.1 Cr.2<|min (k:Int).toNat IntKind.i64.bits;refine⟨zo,?_⟩;refine sW ?_;have eb:(jv .and .i64 (s.2.2.fdiv<|2^min (k:Int).toNat IntKind.i64.bits) 1==1)=oh s.2.2 k:=(by rw[X1 fd.1 fd.2];rfl);rw[eb];obtain⟨g1,g2⟩:=hg X zo;have b1:=af.Mh hM s X;have b2:=af.zv P s X k;refine sS (λh3=>?_) λh3=>?_
  ·have hh:=af.CO hX h3;refine sB ?_;refine⟨_,cD X zo zo,?_⟩;refine bb ?_;refine sB ?_;refine⟨_,cD X zo zo,?_⟩;refine sW ?_;rw[kV (k:=X) zo];refine sB ?_;refine⟨_,cD X zo zo,?_⟩;refine sW ?_;rw[kB];refine sS (λh4=>?_) λh4=>?_
   ·have h4:9<g X+1:=sO;have hm:=af.Sc P s X (j:=k+1) (k:=(P.cn s.1).length) zo;have e7:P.kW M s=7:=(by rw[eE,ae ⟨X,zo,by unfold af.fF;omega⟩]);rw[e7] at eL;rw[e7,eL,ab zc];exact .aI _ _ (.cons _ _ _ _ (.none _) (.cons _ _ _ _ (.refl _) .nil))
   have h4:g X+1<=9:=sO;refine sI ?_;refine⟨(k+1,fN g X<|g X+1),⟨zo,λf hf=>?_⟩,zd,aL (by exact sK) rfl⟩;by_cases e:f=X
   ·subst e;rw[kB,hh];omega
   rw[so e,af.sH (.inl<|by rw[hX];omega)];exact hg f hf
  refine sI ?_;refine⟨(k+1,g),⟨zo,λf hf=>?_⟩,zd,aL (by exact sK) rfl⟩;rw[af.sH (.inr h3)];exact hg f hf
 have al:k=(P.cn s.1).length:=by have:¬k<(P.cn s.1).length:=sO
                                 omega
 subst al;have e0:P.kW M s=0:=by
  rw[eE,ab];rintro⟨f,hf,h9⟩;have:=hg f hf;unfold af.fF at h9;omega
 rw[e0,ae rfl] at eL;have e:gl P.aG.length (P.fF M s)=gl P.aG.length g:=vt λf hf=>(hg f hf).1.symm;rw[e0,eL,e];exact .aI _ _ (.cons _ _ _ _ (AL rfl) (.cons _ _ _ _ (.refl _) .nil))
open Classical in
noncomputable def af.jM(P:af)(M:ah)(k:Int):Int :=
 if P.kf M≠0 then P.kf M else if k<0\/(P.bd.length:Int)<=k then 1
 else if P.nw M (P.bd.getD k.toNat (0,0,0))=true then P.kW M<|P.bd.getD k.toNat (0,0,0) else 9
noncomputable def af.dB(P:af)(M:ah)(k:Int):ah:=if P.jM M k=0 then P.qe M<|P.bd.getD k.toNat (0,0,0) else []
theorem Wp{P:af}{M:ah}{s:b7}(h:P.kW M s≠0):P.qe M s=[]:=by
 unfold af.qe;split
 ·rename_i q;exfalso;apply h;unfold af.kW;rw[ae q]
 first|rfl|rw[ab h]
theorem zrm(hP:P.Fits)(M:ah)(hM:M.length<=9223372036854775807)(k:Int) :
  ar ai 243 [cm P,aO M,aa k] (.aI [aO<|P.dB M k,aa<|P.jM M k]):=by
 have eE:P.jM M k=if P.kf M≠0 then P.kf M else if k<0\/(P.bd.length:Int)<=k then 1
  else if P.nw M (P.bd.getD k.toNat (0,0,0))=true then P.kW M<|P.bd.getD k.toNat (0,0,0) else 9:=by unfold af.jM;rfl
 have eL:P.dB M k=if P.jM M k=0 then P.qe M<|P.bd.getD k.toNat (0,0,0) else []:=rfl
 refine bK fZ ?_;have bad:∀{H:aF} {e:Int},e≠0->P.jM M k=e->Deep H (.aI [ax,aa e]) (.aI [aO<|P.dB M k,aa<|P.jM M k]):=λh q=>by
  rw[eL,q,ab h];exact .aI _ _ (.cons _ _ _ _ (.none _) (.cons _ _ _ _ (.refl _) .nil))
 refine sR ?_;refine sC (S0 P hP M hM) ?_;refine sS (λh1=>?_) λh1=>?_
 ·have h1:P.kf M≠0:=sO;exact bad h1<|by rw[eE,ae h1]
 have h1:P.kf M=0:=sO;obtain⟨hE,hB⟩:=af.Oo h1;obtain⟨h0,_,qB⟩:=af.kY hE;have hK:=af.gg hB;have eN:P.wI M=P.bd:=by unfold af.wI;rw[ae h1]
 rw[ab zo] at eE;rw[eN];cases h2:decide (k<0)
 ·have h2:¬k<0:=sO;refine sW ?_;rw[zh];refine sS (λh3=>?_) λh3=>?_
  ·exact bad zc<|by rw[eE,ae (.inr<|sO)]
  have h3:¬(P.bd.length:Int)<=k:=sO;rw[ab zo] at eE;have al:k.toNat<P.bd.length:=zo;have pS:=af.zb hE al;refine sL (xg (k:=k.toNat) zo al) ?_;generalize hS:P.bd.getD k.toNat (0,0,0)=s at pS eE eL;refine sC (Ra P hP h0 M hK s pS) ?_;cases h4:P.nw M s
  ·refine sW ?_;exact bad zc<|by rw[eE,ab<|by rw[h4];decide]
  rw[ae h4] at eE;refine sW ?_;refine sL (xg (k:=k.toNat) zo al) ?_;rw[hS];refine sC (zrK P hP h0 M hK s pS) ?_;have e:P.dB M k=P.qe M s:=by
   rw[eL,eE];split
   ·rfl
   rename_i q;exact(Wp q).symm
  rw[eE,e];exact .refl _
 have h2:k<0:=sO;refine sW ?_;exact bad zc<|by rw[eE,ae (.inl h2)]
end
section
variable(P:af)
theorem Sj(hP:P.Fits)(h1:P.dI=0):ar ai 23 [cm P]<|aO P.jx:=by
 obtain⟨h0,_,_⟩:=af.kY h1;obtain⟨nH,mQ⟩:=jV h0;have eB:P.jx=gl P.aG.length (qR P):=by unfold af.jx;rw[ae h1]
 refine bL ?_;rw[aK,eB];refine⟨zo,zo,zo,?_⟩;rw[bQ,show List.map D.sc [Value.int .i64 0]=[aa 0] from rfl,zT];refine sW ?_;refine bt [1,3] (λ((k,g):Nat×(Nat->Int))=>[(4,aa k)]) (λ(k,g)=>[(1,.vec true 0 1<|aA<|gl P.aG.length g)]) (λ(k,g)=>k<=P.aG.length/\∀i,g i=if i<k then qR P i else 0) (λ(k,g)=>P.aG.length-k) (0,λ_=>0) ?_;refine sW ?_;refine⟨⟨zo,λi=>rfl⟩,by exact sK,rfl,?_⟩;rintro⟨k,g⟩ ⟨hk,hg⟩;refine br (λh2=>?_) λh2=>?_
 ·have al:k<P.aG.length:=sO;have hfk:=af.x3.1<|Oc h0 k al;refine sL (oz P (k:=k) zo al) ?_;refine sL (ka P (k:=(P.src k).toNat) zo zo) ?_;refine sS (λh3=>?_) λh3=>?_
  ·have h3:P.kind (P.src k).toNat=1:=sO;refine sB ?_;refine⟨_,cD k zo zo,?_⟩;refine bb ?_;refine⟨(k+1,fN g k 1),⟨zo,λi=>?_⟩,zd,aL (by exact sK)<|by rw[kV (k:=k) zo];rfl⟩;by_cases e:i=k
   ·subst e;rw[kB,ae zo];unfold qR;rw[ae h3]
   rw[so e,hg];by_cases q:i<k
   ·rw[ae q,ae zo]
   rw[ab q,ab zo]
  have h3:P.kind (P.src k).toNat≠1:=sO;refine sI ?_;refine⟨(k+1,g),⟨zo,λi=>?_⟩,zd,aL (by exact sK) rfl⟩;rw[hg];by_cases e:i=k
  ·subst e;rw[ab zo,ae zo];unfold qR;rw[ab h3]
  by_cases q:i<k
  ·rw[ae q,ae zo]
  rw[ab q,ab zo]
 have al:k=P.aG.length:=by have:¬k<P.aG.length:=sO
                           omega
 subst al;have e:gl P.aG.length (qR P)=gl P.aG.length g:=vt λi hi=>by rw[hg,ae hi]
 rw[e];exact AL rfl
theorem Rx(hP:P.Fits)(h0:P.aS=0)(M:ah)(hM:P.Mark M)(s:b7)(hs:P.zU s) :
  ar ai 25 [cm P,aO M,.agg<|wv s] (aD<|P.nw M s):=by
 obtain⟨nH,mQ⟩:=jV h0;have hn:=hs.node;have bp:=hs.in_;have l1:=P.Au s.1;have lM:=hM.len;refine bK fZ ?_;have e:P.nw M s=if 0<=s.2.1 then decide (0<val M s.2.1.toNat) else if P.kind s.1.toNat=7 then P.y4 M s.1 else P.wc M s.1 (P.bC s.1).length:=rfl
 refine sRS (λh1=>?_) λh1=>?_
 ·have h1:0<=s.2.1:=sO;rw[ae h1] at e;refine sL (sm (k:=s.2.1.toNat) zo zo) ?_;rw[e];exact .refl _
 have h1:¬0<=s.2.1:=sO;have zL0:=hs.kind zo;rw[ab h1] at e;refine sC (J6 P hP zo s.1) ?_;refine bt [1,3,5,7] (λa:Nat=>[(8,aD<|P.vD M s.1 a),(9,aD<|P.wc M s.1 a),(10,aa a)]) (λ_=>[]) (λa=>a<=(P.bC s.1).length) (λa=>(P.bC s.1).length-a) 0 ?_;refine eC ?_;rintro a ha;refine c6 ?_;rw[aK];refine sS (λh2=>?_) λh2=>?_
 ·have gV:a<(P.bC s.1).length:=sO;have NW:=af.AV (P:=P) (n:=s.1) gV;have ep:P.vD M s.1 (a+1)=(P.vD M s.1 a||decide (0<val M (P.iC s.1 a).toNat)):=rfl;have el:P.wc M s.1 (a+1)=(P.wc M s.1 a&&decide (0<val M (P.iC s.1 a).toNat)):=rfl;have rd:(P.bC s.1).getD a 0=P.iC s.1 a:=rfl;cases hp:P.vD M s.1 a<;>cases hq:P.wc M s.1 a<;>rw[hp] at ep<;>rw[hq] at el<;>refine sW ?_
  ·refine sL (cA (k:=a) zo gV) ?_;rw[rd];refine sL (sm (k:=(P.iC s.1 a).toNat) zo zo) ?_;refine sI ?_;exact⟨a+1,zo,zd,aL ⟨by simp only[ep,uW];rfl,by simp only[el,pt];rfl,by exact sK⟩ rfl⟩
  ·refine sL (cA (k:=a) zo gV) ?_;rw[rd];refine sL (sm (k:=(P.iC s.1 a).toNat) zo zo) ?_;refine sL (cA (k:=a) zo gV) ?_;rw[rd];refine sL (sm (k:=(P.iC s.1 a).toNat) zo zo) ?_;refine sI ?_;exact⟨a+1,zo,zd,aL ⟨by simp only[ep,uW];rfl,by simp only[el,kP];rfl,by exact sK⟩ rfl⟩
  ·refine sI ?_;exact⟨a+1,zo,zd,aL ⟨by simp only[ep,zj];rfl,by simp only[el,pt];rfl,by exact sK⟩ rfl⟩
  refine sL (cA (k:=a) zo gV) ?_;rw[rd];refine sL (sm (k:=(P.iC s.1 a).toNat) zo zo) ?_;refine sI ?_;exact⟨a+1,zo,zd,aL ⟨by simp only[ep,zj];rfl,by simp only[el,kP];rfl,by exact sK⟩ rfl⟩
 have gV:a=(P.bC s.1).length:=by have:¬a<(P.bC s.1).length:=sO
                                 omega
 subst gV;refine sL (ka P (k:=s.1.toNat) zo zo) ?_;refine sS (λh3=>?_) λh3=>?_
 ·have h3:P.kind s.1.toNat=6:=sO;rw[ab zo] at e;rw[e];exact .refl _
 have h3:P.kind s.1.toNat≠6:=sO;rw[ae zo] at e;rw[e];refine bt [1,3,5,7,8] (λa:Nat=>[(11,aa a)]) (λ_=>[]) (λa=>a<=(P.bC s.1).length/\∀j,j<a->¬P.FG M s.1 j) (λa=>(P.bC s.1).length-a) 0 ?_;refine sW ?_;refine⟨⟨zo,λj h=>zo⟩,by exact sK,rfl,?_⟩;clear h2 ha;rintro a ⟨ha,bR⟩;refine c6 ?_;rw[aK];refine sS (λh2=>?_) λh2=>?_
 ·have gV:a<(P.bC s.1).length:=sO;have NW:=af.AV (P:=P) (n:=s.1) gV;have rd:(P.bC s.1).getD a 0=P.iC s.1 a:=rfl;obtain⟨X,hX⟩:∃X:Nat,P.iC s.1 a=X:=⟨_,(ui NW.1).symm⟩;rw[hX] at rd NW;refine bt [1,3,5,7,8,11] (λk:Nat=>[(12,aa k)]) (λ_=>[]) (λk=>k<=P.aG.length/\(val M X=0->∀i,i<k->¬P.hold M s.1 X i)) (λk=>P.aG.length-k) 0 ?_;refine sW ?_;refine⟨⟨zo,λ_ j h=>zo⟩,by exact sK,rfl,?_⟩;rintro k ⟨hk,da⟩;refine c6 ?_;rw[aK,lM];have next:(val M X=0->¬P.hold M s.1 X k)->(val M X=0->∀i,i<k+1->¬P.hold M s.1 X i):=λh1 h2 i h3=>by
   by_cases e:i=k
   ·subst e;exact h1 h2
   exact da h2 i zo
  refine sS (λh4=>?_) λh4=>?_
  ·have al:k<P.aG.length:=sO;refine sL (cA (k:=a) zo gV) ?_;rw[rd];refine sL (sm (k:=X) zo zo) ?_;cases h5:(val M X==0)
   ·refine bb ?_;refine⟨k+1,⟨zo,next λh=>by rw[h] at h5;cases h5⟩,zd,aL (by exact sK) rfl⟩
   have h5:val M X=0:=sO;refine sW ?_;refine sL (sm (k:=k) zo zo) ?_;cases h6:decide (val M k>0)
   ·refine bb ?_;refine⟨k+1,⟨zo,next λh q=>by rw[ia q.2.1] at h6;cases h6⟩,zd,aL (by exact sK) rfl⟩
   have h6:0<val M k:=qL h6;refine sW ?_;refine sL (cA (k:=a) zo gV) ?_;rw[rd];refine sC (Yv P hP mQ k X al zo s.1) ?_;cases h7:((k:Int) != X&&P.xK s.1 k X)
   ·refine bb ?_;refine⟨k+1,⟨zo,next λh q=>?_⟩,zd,aL (by exact sK) rfl⟩;have:=(af.WX h5 h6).1 q;rw[af.CE.2 this.2,Cw] at h7;have:=this.1;exact sO
   rw[fY,af.CE] at h7;refine sW ?_;rw[af.RU gV ⟨by rw[hX,bQ];omega,k,al,by rw[hX,bQ];exact(af.WX h5 h6).2 ⟨λe=>by subst e;simp at h7,h7.2⟩⟩];exact .refl _
  have al:k=P.aG.length:=by have:¬k<P.aG.length:=sO
                            omega
  subst al;refine sI ?_;refine⟨a+1,⟨zo,λj hj=>?_⟩,zd,aL (by exact sK) rfl⟩;by_cases e:j=a
  ·subst e;rintro⟨q0,i,q1,q2⟩;rw[hX,bQ] at q0 q2;have:=hM.pos X;exact da zo i q1 q2
  exact bR j zo
 have gV:a=(P.bC s.1).length:=by have:¬a<(P.bC s.1).length:=sO
                                 omega
 subst gV;rw[af.QP bR];exact .refl _
end
section
variable(P:af)
theorem Vl(hP:P.Fits)(M:ah)(h1:P.kf M=0):ar ai 24 [cm P,m4 P.bd,aO M]<|aO<|P.du M:=by
 obtain⟨hE,hB⟩:=af.Oo h1;obtain⟨h0,_,qB⟩:=af.kY hE;have hK:=af.gg hB;have eN:P.du M=P.nM M P.bd P.bd.length:=by unfold af.du;rw[ae h1]
 refine bL ?_;rw[eN];refine b8 (fL 7 1 zs rfl) ?_;refine bt [1,2,3] (λ((k,c,l):Nat×Nat×ah)=>[(7,.own 1 c 0 c),(8,aa k)]) (λ(k,c,l)=>[(1,.vec true c 1<|aA l)]) (λ(k,c,l)=>k<=P.bd.length/\c=l.length/\c<=k/\l=P.nM M P.bd k) (λ(k,c,l)=>P.bd.length-k) (0,0,[]) ?_;refine sW ?_;refine⟨⟨zo,rfl,zo,rfl⟩,by exact sK,rfl,?_⟩;rintro⟨k,c,l⟩ ⟨hk,hc,ow,hl⟩;refine c6 ?_;rw[zh];refine sS (λh2=>?_) λh2=>?_
 ·have al:k<P.bd.length:=sO;have pS:=af.zb hE al;have eT:P.nM M P.bd (k+1)=if P.nw M (P.bd.getD k (0,0,0))=true then P.nM M P.bd k++[(k:Int)] else P.nM M P.bd k:=rfl
  refine sL (xg (k:=k) zo al) ?_;generalize P.bd.getD k (0,0,0)=s at pS eT;refine sC (Rx P hP h0 M hK s pS) ?_;cases hm:P.nw M s
  ·refine bb ?_;refine⟨(k+1,c,l),⟨zo,hc,zo,by rw[eT,hm,hl];rfl⟩,zd,?_⟩;exact aR 2 zs rfl sQ sQ
  refine lh ?_;refine⟨(k+1,c+1,l++[(k:Int)]),⟨zo,by simp[hc],zo,by rw[eT,hm,hl];rfl⟩,zd,?_⟩;refine aR 2 zs rfl sQ (sU ?_);exact aZ<|nk hc
 have al:k=P.bd.length:=by have:¬k<P.bd.length:=sO
                           omega
 subst al;rw[<-hl];exact oJ hc rfl
theorem AI(g:Nat->Int)(k:Nat)(a b:Int):fN (fN g k a) k b=fN g k b:=by
 funext i;unfold fN;split<;>rfl
def af.pL(P:af)(M:ah)(s:b7):Nat->Int
 |0=>0
 |f+1=>if 9<P.fF M s f then 7 else P.pL M s f
theorem RT{P:af}{M:ah}{s:b7}:∀n,(P.pL M s n=7/\∃f,f<n/\9<P.fF M s f)\/(P.pL M s n=0/\∀f,f<n->¬9<P.fF M s f)
 |0=>.inr ⟨rfl,λf h=>zo⟩
 |n+1=>by
  simp only[af.pL];split
  ·rename_i h;exact .inl ⟨rfl,n,zo,h⟩
  rename_i h;rcases RT (P:=P) (M:=M) (s:=s) n with⟨e,f,h1,h2⟩|⟨e,h1⟩
  ·exact .inl ⟨e,f,zo,h2⟩
  refine .inr ⟨e,λf hf=>?_⟩;by_cases q:f=n
  ·subst q;exact h
  exact h1 f zo
theorem UP(hP:P.Fits)(h0:P.aS=0)(M:ah)(hM:P.Mark M)(s:b7)(hs:P.zU s) :
  ar ai 26 [cm P,aO M,.agg<|wv s] (.aI [aO<|P.qe M s,aa<|P.kW M s]):=by
 obtain⟨nH,mQ⟩:=jV h0;have hn:=hs.node;have l2:=P.AN s.1;have lM:=hM.len;have Cr:=hs.out;have eE:P.kW M s=if P.kind s.1.toNat=3 then 0 else if ∃f,f<P.aG.length/\9<P.fF M s f then 7 else 0:=by unfold af.kW;rfl
 have eL:P.qe M s=if P.kind s.1.toNat=3 then gl P.aG.length λ_=>0 else if P.kW M s=0 then gl P.aG.length<|P.fF M s else []:=rfl
 refine bL ?_;rw[aK,lM];refine⟨zo,zo,zo,?_⟩;rw[bQ,show List.map D.sc [Value.int .i64 0]=[aa 0] from rfl,zT];refine sW ?_;refine sL (ka P (k:=s.1.toNat) zo zo) ?_;refine sS (λh1=>?_) λh1=>?_
 ·have h1:P.kind s.1.toNat=3:=sO;rw[ae h1] at eE eL;rw[eE,eL];exact .aI _ _ (.cons _ _ _ _ (AL rfl) (.cons _ _ _ _ (.refl _) .nil))
 have h1:P.kind s.1.toNat≠3:=sO;rw[ab h1] at eE eL;refine sC (Ot P hP zo s.1) ?_;refine bt [1,3,5,8,9] (λ((f,g):Nat×(Nat->Int))=>[(10,aa<|P.pL M s f),(11,aa f)]) (λ(f,g)=>[(2,.vec true 0 1<|aA<|gl P.aG.length g)]) (λ(f,g)=>f<=P.aG.length/\∀i,g i=if i<f then P.fF M s i else 0) (λ(f,g)=>P.aG.length-f) (0,λ_=>0) ?_;refine sW ?_;refine⟨⟨zo,λi=>rfl⟩,by exact sK,rfl,?_⟩;rintro⟨f,g⟩ ⟨hf,hg⟩;refine c6 ?_;rw[aK,lM];refine sS (λh2=>?_) λh2=>?_
 ·have Dz:f<P.aG.length:=sO;have v1:=hM.pos f;have v2:=hM.top f;have b1:=af.Mh hM s f;have eBase:P.me M s f=val M f-if P.pW M s f=true then 1 else 0:=rfl
  have eD0:P.pW M s f=(decide (P.dst f=s.1)&&(s.2.1==(f:Int)||decide (s.2.1<0)&&decide (0<val M f))):=rfl;refine sL (sm (k:=f) zo zo) ?_;refine sB ?_;refine⟨_,cD f zo zo,?_⟩;refine sW ?_;rw[kV (k:=f) zo];refine sL (oz P (k:=f) zo Dz) ?_;cases h3:(P.dst f==s.1)
  ·have eD:P.pW M s f=false:=(by rw[eD0,gM<|sO];rfl);rw[ab<|by rw[eD];decide,Int.sub_zero] at eBase;refine sW ?_;rw[<-eBase];refine bt [1,3,5,8,9,10,11] (λk:Nat=>[(12,aa k)]) (λk=>[(2,.vec true 0 1<|aA<|gl P.aG.length<|fN g f<|P.me M s f+P.iU s f k)]) (λk=>k<=(P.cn s.1).length) (λk=>(P.cn s.1).length-k) 0 ?_;refine sW ?_;refine⟨zo,by exact sK,by rw[show P.iU s f 0=0 from rfl,Int.add_zero];rfl,?_⟩;rintro k hk;refine c6 ?_;rw[aK];refine sS (λh8=>?_) λh8=>?_
   ·have al:k<(P.cn s.1).length:=sO;have Ix:=af.Dt (P:=P) (n:=s.1) al;have b2:=af.zv P s f k;refine sL (cA (k:=k) zo al) ?_;rw[show(P.cn s.1).getD k 0=P.lD s.1 k from rfl];cases h9:(P.lD s.1 k==(f:Int))
    ·refine bb ?_;refine⟨k+1,zo,zd,aL (by exact sK) ?_⟩;have:=af.sH (P:=P) (s:=s) (k:=k) (f:=f) (.inl<|sO);dsimp only;rw[this];rfl
    have h9:P.lD s.1 k=(f:Int):=sO;refine sW ?_;refine⟨zo,?_⟩;refine sW ?_;refine⟨zc,?_⟩;refine sW ?_;have eb:((s.2.2.fdiv<|2^min (k:Int).toNat IntKind.i64.bits).tmod 2==1)=oh s.2.2 k:=rfl;rw[eb];cases hb:oh s.2.2 k
    ·refine bb ?_;refine⟨k+1,zo,zd,aL (by exact sK) ?_⟩;have:=af.sH (P:=P) (s:=s) (k:=k) (f:=f) (.inr hb);dsimp only;rw[this];rfl
    have hh:=af.CO h9 hb;refine bE ?_;refine⟨_,cD f zo zo,?_⟩;refine sW ?_;rw[kB];refine sIB ?_;refine⟨_,cD f zo zo,?_⟩;refine bb ?_;refine⟨k+1,zo,zd,aL (by exact sK) ?_⟩;dsimp only;rw[kV (k:=f) zo,AI,hh,<-Int.add_assoc];rfl
   have al:k=(P.cn s.1).length:=by have:¬k<(P.cn s.1).length:=sO
                                   omega
   subst al;refine sB ?_;refine⟨_,cD f zo zo,?_⟩;refine sW ?_;rw[kB,show P.me M s f+P.iU s f (P.cn s.1).length=P.fF M s f from rfl];have eT:P.pL M s (f+1)=if 9<P.fF M s f then 7 else P.pL M s f:=rfl
   have pD:∀i,fN g f (P.fF M s f) i=if i<f+1 then P.fF M s i else 0:=λi=>by
    by_cases e:i=f
    ·subst e;rw[kB,ae zo]
    rw[so e,hg];by_cases q:i<f
    ·rw[ae q,ae zo]
    rw[ab q,ab zo]
   refine sS (λfh=>?_) λfh=>?_
   ·rw[ae<|sO] at eT;refine sI ?_;refine⟨(f+1,fN g f<|P.fF M s f),⟨zo,pD⟩,zd,aL ⟨by simp only[eT];rfl,by exact sK⟩ rfl⟩
   rw[ab<|sO] at eT;refine sI ?_;refine⟨(f+1,fN g f<|P.fF M s f),⟨zo,pD⟩,zd,aL ⟨by simp only[eT];rfl,by exact sK⟩ rfl⟩
  rw[ia<|sO,kP] at eD0;refine sW ?_;cases h4:(s.2.1==(f:Int))
  ·rw[h4,uW] at eD0;refine sW ?_;cases h5:decide (s.2.1<0)
   ·have eD:P.pW M s f=false:=(by rw[eD0,h5];rfl);rw[ab<|by rw[eD];decide,Int.sub_zero] at eBase;refine sW ?_;rw[<-eBase];refine bt [1,3,5,8,9,10,11] (λk:Nat=>[(12,aa k)]) (λk=>[(2,.vec true 0 1<|aA<|gl P.aG.length<|fN g f<|P.me M s f+P.iU s f k)]) (λk=>k<=(P.cn s.1).length) (λk=>(P.cn s.1).length-k) 0 ?_;refine sW ?_;refine⟨zo,by exact sK,by rw[show P.iU s f 0=0 from rfl,Int.add_zero];rfl,?_⟩;rintro k hk;refine c6 ?_;rw[aK];refine sS (λh8=>?_) λh8=>?_
    ·have al:k<(P.cn s.1).length:=sO;have Ix:=af.Dt (P:=P) (n:=s.1) al;have b2:=af.zv P s f k;refine sL (cA (k:=k) zo al) ?_;rw[show(P.cn s.1).getD k 0=P.lD s.1 k from rfl];cases h9:(P.lD s.1 k==(f:Int))
     ·refine bb ?_;refine⟨k+1,zo,zd,aL (by exact sK) ?_⟩;have:=af.sH (P:=P) (s:=s) (k:=k) (f:=f) (.inl<|sO);dsimp only;rw[this];rfl
     have h9:P.lD s.1 k=(f:Int):=sO;refine sW ?_;refine⟨zo,?_⟩;refine sW ?_;refine⟨zc,?_⟩;refine sW ?_;have eb:((s.2.2.fdiv<|2^min (k:Int).toNat IntKind.i64.bits).tmod 2==1)=oh s.2.2 k:=rfl;rw[eb];cases hb:oh s.2.2 k
     ·refine bb ?_;refine⟨k+1,zo,zd,aL (by exact sK) ?_⟩;have:=af.sH (P:=P) (s:=s) (k:=k) (f:=f) (.inr hb);dsimp only;rw[this];rfl
     have hh:=af.CO h9 hb;refine bE ?_;refine⟨_,cD f zo zo,?_⟩;refine sW ?_;rw[kB];refine sIB ?_;refine⟨_,cD f zo zo,?_⟩;refine bb ?_;refine⟨k+1,zo,zd,aL (by exact sK) ?_⟩;dsimp only;rw[kV (k:=f) zo,AI,hh,<-Int.add_assoc];rfl
    have al:k=(P.cn s.1).length:=by have:¬k<(P.cn s.1).length:=sO
                                    omega
    subst al;refine sB ?_;refine⟨_,cD f zo zo,?_⟩;refine sW ?_;rw[kB,show P.me M s f+P.iU s f (P.cn s.1).length=P.fF M s f from rfl];have eT:P.pL M s (f+1)=if 9<P.fF M s f then 7 else P.pL M s f:=rfl
    have pD:∀i,fN g f (P.fF M s f) i=if i<f+1 then P.fF M s i else 0:=λi=>by
     by_cases e:i=f
     ·subst e;rw[kB,ae zo]
     rw[so e,hg];by_cases q:i<f
     ·rw[ae q,ae zo]
     rw[ab q,ab zo]
    refine sS (λfh=>?_) λfh=>?_
    ·rw[ae<|sO] at eT;refine sI ?_;refine⟨(f+1,fN g f<|P.fF M s f),⟨zo,pD⟩,zd,aL ⟨by simp only[eT];rfl,by exact sK⟩ rfl⟩
    rw[ab<|sO] at eT;refine sI ?_;refine⟨(f+1,fN g f<|P.fF M s f),⟨zo,pD⟩,zd,aL ⟨by simp only[eT];rfl,by exact sK⟩ rfl⟩
   rw[h5,kP] at eD0;refine sW ?_;refine sL (sm (k:=f) zo zo) ?_;cases h6:decide (val M f>0)
   ·have eD:P.pW M s f=false:=(by rw[eD0];exact h6);rw[ab<|by rw[eD];decide,Int.sub_zero] at eBase;refine sW ?_;rw[<-eBase];refine bt [1,3,5,8,9,10,11] (λk:Nat=>[(12,aa k)]) (λk=>[(2,.vec true 0 1<|aA<|gl P.aG.length<|fN g f<|P.me M s f+P.iU s f k)]) (λk=>k<=(P.cn s.1).length) (λk=>(P.cn s.1).length-k) 0 ?_;refine sW ?_;refine⟨zo,by exact sK,by rw[show P.iU s f 0=0 from rfl,Int.add_zero];rfl,?_⟩;rintro k hk;refine c6 ?_;rw[aK];refine sS (λh8=>?_) λh8=>?_
    ·have al:k<(P.cn s.1).length:=sO;have Ix:=af.Dt (P:=P) (n:=s.1) al;have b2:=af.zv P s f k;refine sL (cA (k:=k) zo al) ?_;rw[show(P.cn s.1).getD k 0=P.lD s.1 k from rfl];cases h9:(P.lD s.1 k==(f:Int))
     ·refine bb ?_;refine⟨k+1,zo,zd,aL (by exact sK) ?_⟩;have:=af.sH (P:=P) (s:=s) (k:=k) (f:=f) (.inl<|sO);dsimp only;rw[this];rfl
     have h9:P.lD s.1 k=(f:Int):=sO;refine sW ?_;refine⟨zo,?_⟩;refine sW ?_;refine⟨zc,?_⟩;refine sW ?_;have eb:((s.2.2.fdiv<|2^min (k:Int).toNat IntKind.i64.bits).tmod 2==1)=oh s.2.2 k:=rfl;rw[eb];cases hb:oh s.2.2 k
     ·refine bb ?_;refine⟨k+1,zo,zd,aL (by exact sK) ?_⟩;have:=af.sH (P:=P) (s:=s) (k:=k) (f:=f) (.inr hb);dsimp only;rw[this];rfl
     have hh:=af.CO h9 hb;refine bE ?_;refine⟨_,cD f zo zo,?_⟩;refine sW ?_;rw[kB];refine sIB ?_;refine⟨_,cD f zo zo,?_⟩;refine bb ?_;refine⟨k+1,zo,zd,aL (by exact sK) ?_⟩;dsimp only;rw[kV (k:=f) zo,AI,hh,<-Int.add_assoc];rfl
    have al:k=(P.cn s.1).length:=by have:¬k<(P.cn s.1).length:=sO
                                    omega
    subst al;refine sB ?_;refine⟨_,cD f zo zo,?_⟩;refine sW ?_;rw[kB,show P.me M s f+P.iU s f (P.cn s.1).length=P.fF M s f from rfl];have eT:P.pL M s (f+1)=if 9<P.fF M s f then 7 else P.pL M s f:=rfl
    have pD:∀i,fN g f (P.fF M s f) i=if i<f+1 then P.fF M s i else 0:=λi=>by
     by_cases e:i=f
     ·subst e;rw[kB,ae zo]
     rw[so e,hg];by_cases q:i<f
     ·rw[ae q,ae zo]
     rw[ab q,ab zo]
    refine sS (λfh=>?_) λfh=>?_
    ·rw[ae<|sO] at eT;refine sI ?_;refine⟨(f+1,fN g f<|P.fF M s f),⟨zo,pD⟩,zd,aL ⟨by simp only[eT];rfl,by exact sK⟩ rfl⟩
    rw[ab<|sO] at eT;refine sI ?_;refine⟨(f+1,fN g f<|P.fF M s f),⟨zo,pD⟩,zd,aL ⟨by simp only[eT];rfl,by exact sK⟩ rfl⟩
   have eD:P.pW M s f:=(by rw[eD0];exact h6);rw[ae eD] at eBase;refine bE ?_;refine⟨_,cD f zo zo,?_⟩;refine sW ?_;rw[kB];refine sIB ?_;refine⟨_,cD f zo zo,?_⟩;refine sW ?_;rw[kV (k:=f) zo,AI,<-eBase];refine bt [1,3,5,8,9,10,11] (λk:Nat=>[(12,aa k)]) (λk=>[(2,.vec true 0 1<|aA<|gl P.aG.length<|fN g f<|P.me M s f+P.iU s f k)]) (λk=>k<=(P.cn s.1).length) (λk=>(P.cn s.1).length-k) 0 ?_;refine sW ?_;refine⟨zo,by exact sK,by rw[show P.iU s f 0=0 from rfl,Int.add_zero];rfl,?_⟩;rintro k hk;refine c6 ?_;rw[aK];refine sS (λh8=>?_) λh8=>?_
   ·have al:k<(P.cn s.1).length:=sO;have Ix:=af.Dt (P:=P) (n:=s.1) al;have b2:=af.zv P s f k;refine sL (cA (k:=k) zo al) ?_;rw[show(P.cn s.1).getD k 0=P.lD s.1 k from rfl];cases h9:(P.lD s.1 k==(f:Int))
    ·refine bb ?_;refine⟨k+1,zo,zd,aL (by exact sK) ?_⟩;have:=af.sH (P:=P) (s:=s) (k:=k) (f:=f) (.inl<|sO);dsimp only;rw[this];rfl
    have h9:P.lD s.1 k=(f:Int):=sO;refine sW ?_;refine⟨zo,?_⟩;refine sW ?_;refine⟨zc,?_⟩;refine sW ?_;have eb:((s.2.2.fdiv<|2^min (k:Int).toNat IntKind.i64.bits).tmod 2==1)=oh s.2.2 k:=rfl;rw[eb];cases hb:oh s.2.2 k
    ·refine bb ?_;refine⟨k+1,zo,zd,aL (by exact sK) ?_⟩;have:=af.sH (P:=P) (s:=s) (k:=k) (f:=f) (.inr hb);dsimp only;rw[this];rfl
    have hh:=af.CO h9 hb;refine bE ?_;refine⟨_,cD f zo zo,?_⟩;refine sW ?_;rw[kB];refine sIB ?_;refine⟨_,cD f zo zo,?_⟩;refine bb ?_;refine⟨k+1,zo,zd,aL (by exact sK) ?_⟩;dsimp only;rw[kV (k:=f) zo,AI,hh,<-Int.add_assoc];rfl
   have al:k=(P.cn s.1).length:=by have:¬k<(P.cn s.1).length:=sO
                                   omega
   subst al;refine sB ?_;refine⟨_,cD f zo zo,?_⟩;refine sW ?_;rw[kB,show P.me M s f+P.iU s f (P.cn s.1).length=P.fF M s f from rfl];have eT:P.pL M s (f+1)=if 9<P.fF M s f then 7 else P.pL M s f:=rfl
   have pD:∀i,fN g f (P.fF M s f) i=if i<f+1 then P.fF M s i else 0:=λi=>by
    by_cases e:i=f
    ·subst e;rw[kB,ae zo]
    rw[so e,hg];by_cases q:i<f
    ·rw[ae q,ae zo]
    rw[ab q,ab zo]
   refine sS (λfh=>?_) λfh=>?_
   ·rw[ae<|sO] at eT;refine sI ?_;refine⟨(f+1,fN g f<|P.fF M s f),⟨zo,pD⟩,zd,aL ⟨by simp only[eT];rfl,by exact sK⟩ rfl⟩
   rw[ab<|sO] at eT;refine sI ?_;refine⟨(f+1,fN g f<|P.fF M s f),⟨zo,pD⟩,zd,aL ⟨by simp only[eT];rfl,by exact sK⟩ rfl⟩
  have eD:P.pW M s f:=(by rw[eD0,h4];rfl);rw[ae eD] at eBase;refine bE ?_;refine⟨_,cD f zo zo,?_⟩;refine sW ?_;rw[kB];refine sIB ?_;refine⟨_,cD f zo zo,?_⟩;refine sW ?_;rw[kV (k:=f) zo,AI,<-eBase];refine bt [1,3,5,8,9,10,11] (λk:Nat=>[(12,aa k)]) (λk=>[(2,.vec true 0 1<|aA<|gl P.aG.length<|fN g f<|P.me M s f+P.iU s f k)]) (λk=>k<=(P.cn s.1).length) (λk=>(P.cn s.1).length-k) 0 ?_;refine sW ?_;refine⟨zo,by exact sK,by rw[show P.iU s f 0=0 from rfl,Int.add_zero];rfl,?_⟩;rintro k hk;refine c6 ?_;rw[aK];refine sS (λh8=>?_) λh8=>?_
  ·have al:k<(P.cn s.1).length:=sO;have Ix:=af.Dt (P:=P) (n:=s.1) al;have b2:=af.zv P s f k;refine sL (cA (k:=k) zo al) ?_;rw[show(P.cn s.1).getD k 0=P.lD s.1 k from rfl];cases h9:(P.lD s.1 k==(f:Int))
   ·refine bb ?_;refine⟨k+1,zo,zd,aL (by exact sK) ?_⟩;have:=af.sH (P:=P) (s:=s) (k:=k) (f:=f) (.inl<|sO);dsimp only;rw[this];rfl
   have h9:P.lD s.1 k=(f:Int):=sO;refine sW ?_;refine⟨zo,?_⟩;refine sW ?_;refine⟨zc,?_⟩;refine sW ?_;have eb:((s.2.2.fdiv<|2^min (k:Int).toNat IntKind.i64.bits).tmod 2==1)=oh s.2.2 k:=rfl;rw[eb];cases hb:oh s.2.2 k
   ·refine bb ?_;refine⟨k+1,zo,zd,aL (by exact sK) ?_⟩;have:=af.sH (P:=P) (s:=s) (k:=k) (f:=f) (.inr hb);dsimp only;rw[this];rfl
   have hh:=af.CO h9 hb;refine bE ?_;refine⟨_,cD f zo zo,?_⟩;refine sW ?_;rw[kB];refine sIB ?_;refine⟨_,cD f zo zo,?_⟩;refine bb ?_;refine⟨k+1,zo,zd,aL (by exact sK) ?_⟩;dsimp only;rw[kV (k:=f) zo,AI,hh,<-Int.add_assoc];rfl
  have al:k=(P.cn s.1).length:=by have:¬k<(P.cn s.1).length:=sO
                                  omega
  subst al;refine sB ?_;refine⟨_,cD f zo zo,?_⟩;refine sW ?_;rw[kB,show P.me M s f+P.iU s f (P.cn s.1).length=P.fF M s f from rfl];have eT:P.pL M s (f+1)=if 9<P.fF M s f then 7 else P.pL M s f:=rfl
  have pD:∀i,fN g f (P.fF M s f) i=if i<f+1 then P.fF M s i else 0:=λi=>by
   by_cases e:i=f
   ·subst e;rw[kB,ae zo]
   rw[so e,hg];by_cases q:i<f
   ·rw[ae q,ae zo]
   rw[ab q,ab zo]
  refine sS (λfh=>?_) λfh=>?_
  ·rw[ae<|sO] at eT;refine sI ?_;refine⟨(f+1,fN g f<|P.fF M s f),⟨zo,pD⟩,zd,aL ⟨by simp only[eT];rfl,by exact sK⟩ rfl⟩
  rw[ab<|sO] at eT;refine sI ?_;refine⟨(f+1,fN g f<|P.fF M s f),⟨zo,pD⟩,zd,aL ⟨by simp only[eT];rfl,by exact sK⟩ rfl⟩
 have Dz:f=P.aG.length:=by have:¬f<P.aG.length:=sO
                           omega
 subst Dz;rcases RT (P:=P) (M:=M) (s:=s) P.aG.length with⟨q1,q2⟩|⟨q1,q2⟩
 ·rw[ae q2] at eE;rw[eE] at eL;rw[q1,eE,eL];refine sW ?_;exact .aI _ _ (.cons _ _ _ _ (.none _) (.cons _ _ _ _ (.refl _) .nil))
 rw[ab<|by rintro⟨i,h1,h2⟩;exact q2 i h1 h2] at eE;rw[eE,ae rfl] at eL;have e:gl P.aG.length (P.fF M s)=gl P.aG.length g:=vt λi hi=>by rw[hg,ae hi]
 rw[q1,eE,eL,e];refine sW ?_;exact .aI _ _ (.cons _ _ _ _ (AL rfl) (.cons _ _ _ _ (.refl _) .nil))
end

namespace af
variable{P:af}
theorem Of(h:P.dI=0):P.ml P.jx:=by
 have e:P.jx=gl P.aG.length (qR P):=by unfold jx;rw[ae h]
 unfold ml bx;rw[e,I1,ia rfl,kP,ki];intro x hx;unfold gl at hx;obtain⟨i,_,rfl⟩:=dq.1 hx;unfold qR;split<;>decide
variable{M:ah}{s:b7}
theorem zxi(hM:P.Mark M)(hm:P.nw M s)(f:Nat):0<=P.fF M s f:=by
 have h1:=hM.pos f;have h2:=(P.zv s f (P.cn s.1).length).1;unfold fF me;split
 ·rename_i hd;unfold pW at hd;rw[fY,qX] at hd;have:0<val M f:=by
   rcases hd.2 with q|q
   ·have q:s.2.1=(f:Int):=(by simpa using q);unfold nw at hm;rw[ae zo,q,bQ] at hm;exact qL hm
   rw[fY] at q;exact qL q.2
  omega
 omega
theorem VB(hM:P.ml M)(hm:P.nw M s)(he:P.kW M s=0):P.ml<|P.qe M s:=by
 have hK:=gg hM;unfold kW at he;unfold qe;by_cases h3:P.kind s.1.toNat=3
 ·rw[ae h3];unfold ml bx;rw[I1,ia rfl,kP,ki];intro x hx;unfold gl at hx;obtain⟨i,_,rfl⟩:=dq.1 hx;decide
 rw[ab h3] at he;split at he
 ·cases he
 rename_i da;have IK:P.kW M s=0:=by unfold kW;rw[ab h3,ab da]
 rw[ab h3,ae IK];unfold ml bx;rw[I1,ia rfl,kP,ki];intro x hx;unfold gl at hx;obtain⟨i,hi,rfl⟩:=dq.1 hx;have h4:=zxi hK hm i;have h5:¬9<P.fF M s i:=λq=>da ⟨i,fX.1 hi,q⟩;rw[fY,ja,ja];omega
theorem zrf{k:Int}(h:P.jM M k=0):P.kf M=0/\0<=k/\k.toNat<P.bd.length/\P.nw M (P.bd.getD k.toNat (0,0,0))/\P.kW M (P.bd.getD k.toNat (0,0,0))=0/\P.dB M k=P.qe M (P.bd.getD k.toNat (0,0,0)):=by
 have e:P.dB M k=P.qe M (P.bd.getD k.toNat (0,0,0)):=by unfold dB;rw[ae h]
 unfold jM at h;split at h
 ·exact absurd h<|by assumption
 rename_i q;split at h
 ·cases h
 split at h
 ·rename_i q2 q3;exact⟨Classical.not_not.1 q,zo,zo,q3,h,e⟩
 cases h
end af
section
def eQ(L:aj):fE:=L.map λl=>[aO l]
variable(L:aj)
@[simp] theorem EF:fc<|eQ L:=db _ (λl=>by simp[an,cG]) L
@[simp] theorem zvX:bg m (eQ L)↔True:=⟨λ_=>trivial,λ_=>aV _<|EF L⟩
@[simp] theorem zs7:(eQ L).length=L.length:=by simp[eQ]
variable{L:aj}
theorem BY{c:Nat}{x:ah}(h:c=L.length):List.drop 0 (List.take c<|eQ L)++[[aO x]]=eQ (L++[x]):=by
 subst h;rw[cx zs];simp[eQ]
theorem x4(hz:z=k)(h:k<L.length):(eQ L)[z]? = some [aO<|L.getD k []]:=by
 unfold eQ;rw[OX hz h,aE,aJ h];rfl
theorem KK{id v:Nat}{q:Bool}(hn:n=L.length)(h:H[id]? = some (.vec q v 1<|eQ L)):Deep H (.own id v 0 n)<|bY L:=by
 subst hn;exact .own _ _ _ _ _ _ _ _ h<|by rw[cx zs];exact iX _
end
def yM(Z:ah)(i:Nat)(p:Nat):Int:=if p<i\/Z.length-i<=p then Z.getD (Z.length-1-p) 0 else Z.getD p 0
variable(Z:ah)
theorem zwh:gl Z.length (λp=>Z.getD p 0)=Z:=by
 apply Du zs;intro i h1 h2;have:=C' (n:=Z.length) (g:=λp=>Z.getD p 0) h2;rw[aE,aJ h1,aE,aJ h2] at this;exact this
theorem zzc{Z:ah}(h:∀p,p<Z.length->g p=Z.getD (Z.length-1-p) 0):gl Z.length g=Z.reverse:=by
 apply Du zs;intro i h1 h2;have hi:i<Z.length:=by simpa using h1
 have:=C' (n:=Z.length) (g:=g) hi;rw[aE,aJ h1,h i hi,aE,aJ zo] at this;rw[List.getElem_reverse];exact this
theorem PO(hl:Z.length<=17592186044416)(v:Nat):cp ai 225 [.own 0 v 0 Z.length] [.vec true v 1<|aA Z] (.aI []) [.vec true v 1<|aA Z.reverse]:=by
 refine iV fZ zs zs ?_ (by simp[aq,au]) (by simp[ao.under]);refine sR ?_;rw[xG];refine sI ?_;refine bt [0] (λi:Nat=>[(2,aa i),(3,aa<|(Z.length:Int)-1-i)]) (λi=>[(0,.vec true v 1<|aA<|gl Z.length<|yM Z i)]) (λi=>2*i<=Z.length+1) (λi=>Z.length+1-i) 0 ?_;refine sW ?_;refine⟨zo,⟨rfl,by show D.sc _=D.sc _;simp,trivial⟩,by
  rw[vt (g':=λp=>Z.getD p 0) λp hp=>by unfold yM;rw[ab zo],zwh];rfl,?_⟩
 rintro i hi;refine br (λh1=>?_) λh1=>?_
 ·have h1:(i:Int)<(Z.length:Int)-1-i:=sO;refine sB ?_;refine⟨_,cD (Z.length-1-i) zo zo,?_⟩;refine bE ?_;refine⟨_,cD i zo zo,?_⟩;refine bE ?_;refine⟨_,cD i zo zo,?_⟩;refine bE ?_;rw[kV (k:=i) zo];refine⟨_,cD (Z.length-1-i) zo zo,?_⟩;refine bb ?_;refine sI ?_;refine⟨i+1,zo,zd,?_⟩;refine aL ⟨rfl,by show D.sc _=D.sc _;simp;omega,by exact sK⟩ ?_;rw[kV (k:=Z.length-1-i) zo,vt (g':=yM Z<|i+1) λp hp=>?_]
  ·rfl
  by_cases e1:p=Z.length-1-i
  ·subst e1;rw[kB];unfold yM;rw[ab zo,ae zo]
   congr 1
   omega
  rw[so e1];by_cases e2:p=i
  ·subst e2;rw[kB];unfold yM;rw[ab zo,ae zo]
  rw[so e2];unfold yM;by_cases q:p<i\/Z.length-i<=p
  ·rw[ae q,ae zo]
  rw[ab q,ab zo]
 have h1:¬(i:Int)<(Z.length:Int)-1-i:=sO;refine⟨?_,zs⟩;rw[<-zzc (Z:=Z) (g:=yM Z i) λp hp=>?_]
 ·rfl
 unfold yM;split
 ·rfl
 congr 1
 omega
end Go.Proofs.YtolilnhippapaaaGreat
