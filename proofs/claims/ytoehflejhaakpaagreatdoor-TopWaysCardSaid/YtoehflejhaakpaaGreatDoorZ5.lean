/-
  watchtop.TopWays returns true for every process, nodes and bounds, and each argument reads afterwards as it read before. The condition: the variables unicode/utf8.acceptRanges and unicode/utf8.first hold what the program's text lays (the walk reads neither).
-/
import Derived.Test.YtoehflejhaakpaaGreatDoorZ1
import Derived.Test.YtoehflejhaakpaaGreatDoorZ4
import Derived.Test.YtoehflejhaakpaaGreatDoorZ3
import Derived.Lib.Bytealg
import Derived.WalkKit
import Derived.RowKitTokens
import Derived.Test.YtoehflejhaakpaaGreatDoorZ2
import Derived.OpenShut
import Derived.FnData
import Derived.LaidLaws
import Derived.LaidHandle
import Derived.Lay
import Derived.Stop.Joined
import Derived.Test.YtoehflejhaakpaaGreatDoorRows
import Derived.Test.YtoehflejhaakpaaGreatDoorTie
import Derived.Test.YtoehflejhaakpaaGreatDoorCards
namespace Go.Proofs.YtoehflejhaakpaaGreatDoor
set_option linter.unusedSimpArgs false
set_option linter.unusedVariables false
set_option maxRecDepth 100000
section
open Go.RowKit
def um:zb:=⟨[(⟨#[97]⟩,1),(⟨#[98]⟩,4),(⟨#[120]⟩,5),(⟨#[99]⟩,4),(⟨#[101]⟩,2)],[(0,1),(1,2),(2,1),(2,3),(3,4)]⟩
def twT:ByteArray:=⟨#[115,116,97,114,116,32,97,10,116,97,115,107,32,98,10,120,111,114,32,120,10,116,97,115,107,32,99,10,101,110,100,32,101,10,102,108,111,119,32,97,32,98,10,102,108,111,119,32,98,32,120,10,102,108,111,119,32,120,32,98,10,102,108,111,119,32,120,32,99,10,102,108,111,119,32,99,32,101,10]⟩
theorem zqY:um.XQ=0:=by decide +kernel
theorem zrJ:∀i,i<um.zv.length→um.ZI i=true:=by decide +kernel
theorem zBn:∀i,i<um.nodes.length→um.Xz i=true:=by decide +kernel
theorem zqz:um.u5 um.nodes.length=1:=by decide +kernel
theorem ztl:∀v,v<um.nodes.length→um.zvG v:=by
 have g:um.graph um.zv.length=[[1],[2],[1,3],[4],[]]:=by decide +kernel
 have e:um.YP um.nodes.length=0:=by decide +kernel
 intro v hv
 unfold zb.zvG
 rw[g,e]
 have h0:Wx [[1],[2],[1,3],[4],[]] [0] 0:=.base (x:=0) zs
 have h1:Wx [[1],[2],[1,3],[4],[]] [0] 1:=.step (x:=1) h0 zc
 have h2:Wx [[1],[2],[1,3],[4],[]] [0] 2:=.step (x:=2) h1 zc
 have h3:Wx [[1],[2],[1,3],[4],[]] [0] 3:=.step (x:=3) h2 zc
 have h4:Wx [[1],[2],[1,3],[4],[]] [0] 4:=.step (x:=4) h3 zc
 have hv:v<5:=hv
 rcases (by omega:v=0∨v=1∨v=2∨v=3∨v=4) with rfl|rfl|rfl|rfl|rfl<;>assumption
theorem zst:um.yJ=0:=by
 unfold zb.yJ
 rw[if_neg zc,if_neg (by rw[zqY];decide),if_neg (λh=>h zrJ),if_neg (by rw[zqz];decide),if_neg (λh=>h zBn),if_neg (λh=>h ztl)]
theorem XP:um.yK=0∧um.zI=[(1,0,1),(1,2,1),(2,1,1),(2,1,2),(3,3,1),(4,4,0)]:=by
 have e:um.vW um.nodes.length=[(1,0,1),(1,2,1),(2,1,1),(2,1,2),(3,3,1),(4,4,0)]:=by decide +kernel
 have e0:um.yK=0:=by unfold zb.yK;rw[if_neg (by rw[zst];decide),e];rfl
 exact⟨e0,by unfold zb.zI;rw[if_pos e0,e]⟩
theorem zm2 {M:List Int} (h:um.uA M=true):um.uS M=0:=by
 unfold zb.uS
 rw[if_neg (by rw[XP.1];decide),if_pos h]
theorem zgh {M L:List Int} (h:um.uA M=true) (k:um.X3 M [(1,0,1),(1,2,1),(2,1,1),(2,1,2),(3,3,1),(4,4,0)] 6=L):um.YL M=L:=by
 unfold zb.YL
 rw[if_pos (zm2 h),XP.2]
 exact k
theorem Qn {M m:List Int} {k:Nat} {s:yi} (h:um.uA M=true) (hk:k<6) (hs:([(1,0,1),(1,2,1),(2,1,1),(2,1,2),(3,3,1),(4,4,0)]:List yi).getD k (0,0,0)=s) (hm:um.zas M s=true) (h3:¬um.kind s.1.toNat=3) (hf:∀f,f<um.zv.length→¬9<um.zcn M s f) (hg:gl um.zv.length (um.zcn M s)=m) :
  um.ZN M (k:Int)=0∧um.wV M (k:Int)=m:=by
 have e1:um.Zo M s=0:=by
  unfold zb.Zo
  rw[if_neg h3,if_neg (λ⟨f,h1,h2⟩=>hf f h1 h2)]
 have e2:um.VX M s=m:=by
  unfold zb.VX
  rw[if_neg h3,if_pos e1,hg]
 have e3:um.ZN M (k:Int)=0:=by
  unfold zb.ZN
  rw[if_neg (by rw[zm2 h];decide),XP.2,if_neg (by simp;omega),Int.toNat_natCast,hs,if_pos hm,e1]
 refine⟨e3,?_⟩
 unfold zb.wV
 rw[if_pos e3,XP.2,Int.toNat_natCast,hs,e2]
theorem Yg {P:zb} {tok:Int} {st n:Nat} {M m:List Int} {k:Int} {r:List Int} {marks:List (List Int)} {yP:List qq} {cur:List zN} {last:qq} (he:P.ZN M k=0∧P.wV M k=m) (hp:YM marks m tok st=0) :
  P.yY tok st n M (k::r) marks yP cur last=P.yY tok st n M r (Zn marks m tok st) (Wz marks yP m tok st ((n:Int),k)) (cur++[(k,W9 marks m tok st)]) ((n:Int),k):=by
 rw[zb.yY,if_neg (by rw[he.1];decide),he.2,if_neg (by rw[hp];decide)]
theorem Vg {P:zb} {tok:Int} {st f n:Nat} {marks marks':List (List Int)} {yP org':List qq} {next:List (List zN)} {cur:List zN} {last last':qq} {M L:List Int} (hM:marks.getD n []=M) (hL:P.YL M=L) (hn:n<marks.length) (hE:P.yY tok st n M L marks yP [] last=⟨0,marks',org',cur,last'⟩) :
  P.YN tok st (f+1) n marks yP next last=P.YN tok st f (n+1) marks' org' (next++[cur]) last':=by
 rw[zb.YN,if_pos hn,hM,hL,hE,if_neg zs]
theorem zqA {P:zb} {tok:Int} {st f n:Nat} {marks:List (List Int)} {yP:List qq} {next:List (List zN)} {last:qq} (hn:¬n<marks.length):P.YN tok st (f+1) n marks yP next last=⟨0,marks,yP,next,last⟩:=by
 rw[zb.YN,if_neg hn]
theorem zxJ:um.YL [1,0,0,0,0]=[0]:=zgh (by decide +kernel) (by decide +kernel)
theorem zzX:um.ZN [1,0,0,0,0] 0=0∧um.wV [1,0,0,0,0] 0=[0,1,0,0,0]:=Qn (k:=0) (s:=(1,0,1)) (by decide +kernel) zc rfl (by decide +kernel) (by decide +kernel) (by decide +kernel) (by decide +kernel)
theorem zyZ:um.YL [0,1,0,0,0]=[2,3]:=zgh (by decide +kernel) (by decide +kernel)
theorem zxX:um.ZN [0,1,0,0,0] 2=0∧um.wV [0,1,0,0,0] 2=[0,0,1,0,0]:=Qn (k:=2) (s:=(2,1,1)) (by decide +kernel) zc rfl (by decide +kernel) (by decide +kernel) (by decide +kernel) (by decide +kernel)
theorem zz1:um.ZN [0,1,0,0,0] 3=0∧um.wV [0,1,0,0,0] 3=[0,0,0,1,0]:=Qn (k:=3) (s:=(2,1,2)) (by decide +kernel) zc rfl (by decide +kernel) (by decide +kernel) (by decide +kernel) (by decide +kernel)
theorem zxu:um.YL [0,0,1,0,0]=[1]:=zgh (by decide +kernel) (by decide +kernel)
theorem zzN:um.ZN [0,0,1,0,0] 1=0∧um.wV [0,0,1,0,0] 1=[0,1,0,0,0]:=Qn (k:=1) (s:=(1,2,1)) (by decide +kernel) zc rfl (by decide +kernel) (by decide +kernel) (by decide +kernel) (by decide +kernel)
theorem zxh:um.YL [0,0,0,1,0]=[4]:=zgh (by decide +kernel) (by decide +kernel)
theorem zyv:um.ZN [0,0,0,1,0] 4=0∧um.wV [0,0,0,1,0] 4=[0,0,0,0,1]:=Qn (k:=4) (s:=(3,3,1)) (by decide +kernel) zc rfl (by decide +kernel) (by decide +kernel) (by decide +kernel) (by decide +kernel)
theorem zxo:um.YL [0,0,0,0,1]=[5]:=zgh (by decide +kernel) (by decide +kernel)
theorem zxE:um.ZN [0,0,0,0,1] 5=0∧um.wV [0,0,0,0,1] 5=[0,0,0,0,0]:=Qn (k:=5) (s:=(4,4,0)) (by decide +kernel) zc rfl (by decide +kernel) (by decide +kernel) (by decide +kernel) (by decide +kernel)
theorem zym:um.YL [0,0,0,0,0]=[]:=zgh (by decide +kernel) (by decide +kernel)
theorem zq6:um.wF=[1,0,0,0,0]:=by
 unfold zb.wF
 rw[if_pos XP.1]
 decide +kernel
theorem zp7:(um.Jz 1 20).e=0∧(um.Jz 1 20).next=[[(0,1)],[(2,2),(3,3)],[(1,1)],[(4,4)],[(5,5)],[]]:=by
 unfold zb.Jz
 rw[zq6]
 rw[Vg (f:=200) (M:=[1,0,0,0,0]) (marks':=[[1,0,0,0,0],[0,1,0,0,0]]) (org':=[(-1,-1),(0,0)]) (cur:=[(0,1)]) (last':=(0,0)) rfl zxJ zc (by
  rw[Yg zzX (by decide +kernel)]
  kernel_rfl)]
 rw[Vg (f:=199) (M:=[0,1,0,0,0]) (marks':=[[1,0,0,0,0],[0,1,0,0,0],[0,0,1,0,0],[0,0,0,1,0]]) (org':=[(-1,-1),(0,0),(1,2),(1,3)]) (cur:=[(2,2),(3,3)]) (last':=(1,3)) rfl zyZ zc (by
  rw[Yg zxX (by decide +kernel),Yg zz1 (by decide +kernel)]
  kernel_rfl)]
 rw[Vg (f:=198) (M:=[0,0,1,0,0]) (marks':=[[1,0,0,0,0],[0,1,0,0,0],[0,0,1,0,0],[0,0,0,1,0]]) (org':=[(-1,-1),(0,0),(1,2),(1,3)]) (cur:=[(1,1)]) (last':=(2,1)) rfl zxu zc (by
  rw[Yg zzN (by decide +kernel)]
  kernel_rfl)]
 rw[Vg (f:=197) (M:=[0,0,0,1,0]) (marks':=[[1,0,0,0,0],[0,1,0,0,0],[0,0,1,0,0],[0,0,0,1,0],[0,0,0,0,1]]) (org':=[(-1,-1),(0,0),(1,2),(1,3),(3,4)]) (cur:=[(4,4)]) (last':=(3,4)) rfl zxh zc (by
  rw[Yg zyv (by decide +kernel)]
  kernel_rfl)]
 rw[Vg (f:=196) (M:=[0,0,0,0,1]) (marks':=[[1,0,0,0,0],[0,1,0,0,0],[0,0,1,0,0],[0,0,0,1,0],[0,0,0,0,1],[0,0,0,0,0]]) (org':=[(-1,-1),(0,0),(1,2),(1,3),(3,4),(4,5)]) (cur:=[(5,5)]) (last':=(4,5)) rfl zxo zc (by
  rw[Yg zxE (by decide +kernel)]
  kernel_rfl)]
 rw[Vg (f:=195) (M:=[0,0,0,0,0]) (marks':=[[1,0,0,0,0],[0,1,0,0,0],[0,0,1,0,0],[0,0,0,1,0],[0,0,0,0,1],[0,0,0,0,0]]) (org':=[(-1,-1),(0,0),(1,2),(1,3),(3,4),(4,5)]) (cur:=[]) (last':=(4,5)) rfl zym zc (by
  kernel_rfl)]
 rw[zqA (f:=194) zc]
 exact⟨rfl,rfl⟩
theorem zmH:um.Qb 1 20=0∧um.YO 1 20=[[(0,1)],[(2,2),(3,3)],[(1,1)],[(4,4)],[(5,5)],[]]:=by
 have e:um.Qb 1 20=0:=by
  unfold zb.Qb
  rw[if_neg (by rw[XP.1];decide),if_neg (by unfold zb.zeb;decide)]
  exact zp7.1
 refine⟨e,?_⟩
 unfold zb.YO
 rw[if_pos e]
 exact zp7.2
theorem zuS:VY um 1 20=⟨[0],[[1,2],[3],[4],[1,2],[5],[6],[6]],[2,4,4,2,8,16,9223372036854775808],[[0,1,2,3,4,5,6],[0,1,2,3,4,5,6],[0,1,3,4,5,6],[0,2,3,4,5,6],[0,1,2,3,4,5,6],[0,1,2,3,4,5,6]]⟩:=by
 unfold VY
 rw[zmH.2,XP.2]
 kernel_rfl
theorem zrM:x4 (um.YO 1 20) (um.YO 1 20).length≤600:=by
 rw[zmH.2]
 decide +kernel
theorem U4:zsu (VY um 1 20):=zhG zmH.1 zrM
def twX:ZM:=⟨5,1,3,1,0,0,0⟩
def twY:ZM:=⟨3,1,3,0,0,0,0⟩
theorem tw_X:xz twX=vx 6 (vx 8 (yS 4 (yB 3 3)) (yB 3 1)) (yS 11 (yS 4 (yB 3 3))):=by kernel_rfl
theorem tw_Y:xz twY=yS 10 (yB 3 3):=by kernel_rfl
theorem zBC:wK [⟨#[97]⟩,⟨#[98]⟩,⟨#[120]⟩,⟨#[99]⟩,⟨#[101]⟩] ⟨#[114]⟩ 1 twX 0 0 0 0 (yB 0 0) (yB 0 0)=0:=by decide +kernel
theorem zBA:wK [⟨#[97]⟩,⟨#[98]⟩,⟨#[120]⟩,⟨#[99]⟩,⟨#[101]⟩] ⟨#[114]⟩ 1 twY 0 0 0 0 (yB 0 0) (yB 0 0)=0:=by decide +kernel
theorem zwT:zed twX=0:=by decide +kernel
theorem zwu:zed twY=0:=by decide +kernel
theorem zwI:uI (xz twX)=0:=by
 have h:=uW (partsOf (yg (yS 4 (xz twX)))) []
 have h1:(partsOf (yg (yS 4 (xz twX)))).length=2:=by decide +kernel
 have h2:(Y3 (ye (yg (yS 4 (xz twX))))).length=2:=by decide +kernel
 unfold uI
 rw[if_pos (by decide +kernel),if_neg (by simp only[List.length_nil] at h;omega)]
theorem zwz:uI (xz twY)=0:=by decide +kernel
theorem zwS {x:ZM} (h:zed x=0):(xz x).wf zP:=by
 unfold zed at h
 split at h
 ·exact((qG _ _).1 h).2.2
 ·rename_i q;exact absurd h q
theorem zvg:vM (VY um 1 20) (vC (xz twX))=false:=by
 rw[Bool.eq_false_iff,ne_eq,zhl U4 (zwS zwT) zwI]
 rintro⟨s,⟨h0,_,_⟩,h⟩
 apply h
 rw[zuS] at h0
 have h0:s 0=0:=by simpa using h0
 rw[tw_X,zyu rfl rfl]
 refine .inl ((zpo rfl rfl).2 ⟨0,Nat.le_refl _,(zhS rfl).2 ?_,λm a b=>zo⟩)
 unfold Xv
 rw[zuS,h0]
 decide
def twS (i:Nat):Int:=if i=0 then 0 else if i%2=1 then 1 else 3
theorem znB {i:Nat} (h:i%2=1):twS i=1:=by
 have h0:¬i=0:=zo
 unfold twS
 rw[if_neg h0,if_pos h]
theorem ze7 {i:Nat} (h0:¬i=0) (h:¬i%2=1):twS i=3:=by
 unfold twS
 rw[if_neg h0,if_neg h]
theorem zuY:zrp (VY um 1 20) twS:=by
 rw[zuS]
 refine⟨zc,λi=>?_,λl hl i=>?_⟩
 ·by_cases h0:i=0
  ·subst h0;decide
  ·by_cases h1:i%2=1
   ·rw[znB h1,ze7 (i:=i+1) zo zo];decide
   ·rw[ze7 h0 h1,znB (i:=i+1) zo];decide
 ·refine⟨2*i+2,zo,?_⟩
  have:twS (2*i+2)=3:=ze7 zo zo
  rw[this]
  revert l
  decide
theorem znc:vM (VY um 1 20) (vC (xz twY))=true:=by
 rw[zhl U4 (zwS zwu) zwz]
 refine⟨twS,zuY,λh=>?_⟩
 rw[tw_Y,zqM rfl rfl] at h
 obtain⟨j,_,h⟩:=h
 have h:=(zhS rfl).1 h
 unfold Xv at h
 rw[zuS] at h
 have hs:twS j=0∨twS j=1∨twS j=3:=by
  unfold twS
  split
  ·exact .inl rfl
  ·split
   ·exact .inr (.inl rfl)
   ·exact .inr (.inr rfl)
 rcases hs with e|e|e<;>rw[e] at h<;>revert h<;>decide
theorem zul:ziu twT=(um,0,0):=by
 have e1:zaR twT (twT.size+1) 0 1 ⟨[],[]⟩=.done ⟨[(⟨#[97]⟩,1),(⟨#[98]⟩,4),(⟨#[120]⟩,5),(⟨#[99]⟩,4),(⟨#[101]⟩,2)],[(⟨#[97]⟩,⟨#[98]⟩,6),(⟨#[98]⟩,⟨#[120]⟩,7),(⟨#[120]⟩,⟨#[98]⟩,8),(⟨#[120]⟩,⟨#[99]⟩,9),(⟨#[99]⟩,⟨#[101]⟩,10)]⟩:=by kernel_rfl
 have e2:Jp [(⟨#[97]⟩,1),(⟨#[98]⟩,4),(⟨#[120]⟩,5),(⟨#[99]⟩,4),(⟨#[101]⟩,2)] [(⟨#[97]⟩,⟨#[98]⟩,6),(⟨#[98]⟩,⟨#[120]⟩,7),(⟨#[120]⟩,⟨#[98]⟩,8),(⟨#[120]⟩,⟨#[99]⟩,9),(⟨#[99]⟩,⟨#[101]⟩,10)] []=.done [(0,1),(1,2),(2,1),(2,3),(3,4)]:=by kernel_rfl
 unfold ziu
 rw[e1]
 dsimp only
 rw[e2]
 dsimp only
 exact if_pos zst
end
section
open Go.RowKit
def JA (s:ByteArray) (p:Nat):ByteArray:=s.extract p s.size
theorem zdD {s:ByteArray} {p:Nat} (h:p≤s.size):(JA s p).size=s.size-p:=by unfold JA;rw[ByteArray.size_extract];omega
theorem zin (s:ByteArray):JA s 0=s:=by unfold JA;exact ByteArray.extract_zero_size
theorem zsk (s:ByteArray) (p:Nat):(JA s p).data.toList=s.data.toList.drop p:=by
 unfold JA
 rw[ByteArray.data_extract,Array.toList_extract]
 simp[List.extract,List.take_of_length_le]
theorem zfO {s:ByteArray} {p m:Nat} (h:p+m≤s.size):(JA s p).extract 0 m=s.extract p (p+m):=by
 unfold JA
 rw[ByteArray.extract_extract]
 congr 1<;>omega
theorem ziG {s:ByteArray} {p m:Nat} (h:p+m≤s.size):(JA s p).extract m (s.size-p)=JA s (p+m):=by
 unfold JA
 rw[ByteArray.extract_extract]
 congr 1
 omega
theorem zng {s:ByteArray} {p:Nat} (h:p<s.size):∃b,s[p]? = some b∧s.data.toList.drop p=b::s.data.toList.drop (p+1):=by
 have hl:p<s.data.toList.length:=by simpa using h
 exact⟨s[p],by simp[getElem?_pos,h],by rw[List.drop_eq_getElem_cons hl];rfl⟩
theorem znA (b c:UInt8):(b==c)=decide (b.toNat=c.toNat):=by
 by_cases h:b=c
 ·subst h;simp
 ·have:b.toNat≠c.toNat:=λe=>h (UInt8.toNat.inj e)
  simp[h,this]
theorem zal (c:UInt8) (s:ByteArray):∀(n p:Nat),s.size-p=n→p≤s.size→Lib.indexByte (s.data.toList.drop p) c=if yW c.toNat s p<s.size then ((yW c.toNat s p-p:Nat):Int) else -1
 | 0,p,h,hp=>by
  have:s.data.toList.drop p=[]:=List.drop_of_length_le (by simp;omega)
  rw[this,zdU zo,if_neg zo]
  rfl
 | n+1,p,h,hp=>by
  obtain⟨b,hb,e⟩:=zng (s:=s) (p:=p) zo
  have hc:chr s p=b.toNat:=by simp only[chr,hb]
  rw[e]
  simp only[Lib.indexByte]
  rw[zal c s n (p+1) zo zo,znA]
  by_cases hq:b.toNat=c.toNat
  ·have e1:yW c.toNat s p=p:=Vh λ_=>by rw[hc,hq]
   rw[e1,if_pos (show p<s.size by omega),if_pos (by simpa using hq)]
   simp
  ·have e1:yW c.toNat s p=yW c.toNat s (p+1):=zaN zo (by rw[hc];exact hq)
   have hg:=VW (c:=c.toNat) (s:=s) (p+1)
   rw[e1,if_neg (show ¬decide (b.toNat=c.toNat)=true by simpa using hq)]
   by_cases h3:yW c.toNat s (p+1)<s.size
   ·rw[if_pos h3,if_pos h3,if_neg zs];omega
   ·rw[if_neg h3,if_neg h3];simp
theorem zjn (s:ByteArray):∀(n p:Nat),s.size-p=n→p≤s.size→Lib.countByte (s.data.toList.drop p) 32+1=(Vo s p).length
 | 0,p,h,hp=>by
  have:s.data.toList.drop p=[]:=List.drop_of_length_le (by simp;omega)
  rw[this,YI (by rw[zdU zo];omega)]
  rfl
 | n+1,p,h,hp=>by
  obtain⟨b,hb,e⟩:=zng (s:=s) (p:=p) zo
  have hc:chr s p=b.toNat:=by simp only[chr,hb]
  have ih:=zjn s n (p+1) zo zo
  rw[e]
  unfold Lib.countByte at ih ⊢
  rw[List.count_cons,znA]
  by_cases hq:b.toNat=(32:UInt8).toNat
  ·have hq':chr s p=32:=by rw[hc,hq];rfl
   have e1:yW 32 s p=p:=Vh λ_=>hq'
   rw[Yn (by rw[e1];omega),e1,List.length_cons,←ih]
   simp[hq]
  ·have hq':chr s p≠32:=by rw[hc];exact hq
   have e1:=zaN (s:=s) (p:=p) zo hq'
   rw[if_neg (by simpa using hq),Nat.add_zero,ih]
   by_cases h3:yW 32 s p<s.size
   ·rw[Yn h3,Yn (p:=p+1) (by rw[←e1];exact h3),e1];rfl
   ·rw[YI h3,YI (p:=p+1) (by rw[←e1];exact h3)];rfl
theorem zez (s:ByteArray) (c:UInt8):zq Tryz.prog 217 [.sc (.string s),.sc (.string ⟨#[c]⟩)] (.sc (.int .i64 (Lib.countByte s.data.toList c:Nat))) where
 ok:=⟨_,Tryz.func217,by kernel_rfl,by kernel_rfl⟩
 run J F w vs hF hR:=by
  simp only[yf,rep] at hR
  obtain⟨v,us,rfl,rfl,v2,us2,rfl,rfl,rfl⟩:=hR
  have h58:=@run_callFunc_extern Tryz.prog 236 _ Extern.BytealgCount.count Tryz.func236 (by kernel_rfl) (by kernel_rfl) (by kernel_rfl) (by kernel_rfl)
  have h59:=@Lib.run_countString Tryz.prog s
  have e1:(⟨#[c]⟩:ByteArray).size=1:=rfl
  have e2:(⟨#[c]⟩:ByteArray)[0]? = some c:=rfl
  go_enter Tryz.func217,Tryz.ntmps217
  go_wp2
  go_ret
  refine⟨_,F,rfl,hF.lt,?_,Ext.refl _ _ _⟩
  simp only[rep]
  rfl
def zht (c:UInt8):ByteArray:=⟨#[c]⟩
def zsi (c:UInt8) (s:ByteArray) (p:Nat):Int:=if yW c.toNat s p<s.size then ((yW c.toNat s p-p:Nat):Int) else -1
theorem Q2 (s:ByteArray) (c:UInt8):zq Tryz.prog 165 [.sc (.string s),.sc (.string ⟨#[c]⟩)] (.sc (.int .i64 (Lib.indexByte s.data.toList c))) where
 ok:=⟨_,Tryz.func165,by kernel_rfl,by kernel_rfl⟩
 run J F w vs hF hR:=by
  simp only[yf,rep] at hR
  obtain⟨v,us,rfl,rfl,v2,us2,rfl,rfl,rfl⟩:=hR
  have h58:=@run_callFunc_extern Tryz.prog 232 _ Extern.BytealgIndexByte.indexByte Tryz.func232 (by kernel_rfl) (by kernel_rfl) (by kernel_rfl) (by kernel_rfl)
  have h59:=@Lib.run_indexByteString Tryz.prog s
  have e1:(⟨#[c]⟩:ByteArray).size=1:=rfl
  have e2:(⟨#[c]⟩:ByteArray)[0]? = some c:=rfl
  go_enter Tryz.func165,Tryz.ntmps165
  go_wp2
  ·rename_i h
   have h:s.data.toList=[c]:=by
    rw[ByteArray.toList_eq] at h
    exact(by simpa using h:[c]=s.data.toList).symm
   go_ret
   refine⟨_,F,rfl,hF.lt,?_,Ext.refl _ _ _⟩
   simp only[rep]
   show Value.int IntKind.i64 0=_
   rw[h]
   simp[Lib.indexByte]
  ·go_ret
   refine⟨_,F,rfl,hF.lt,?_,Ext.refl _ _ _⟩
   simp only[rep]
   rfl
theorem Wn (c:UInt8) (s:ByteArray) (p:Nat) (hp:p≤s.size):zq Tryz.prog 165 [.sc (.string (JA s p)),.sc (.string (zht c))] (.sc (.int .i64 (zsi c s p))):=by
 have hI:=Q2 (JA s p) c
 rwa [zsk,zal _ s _ p rfl hp] at hI
def c89:PC:=.seq (OP [Mv 4 (cS #[]),Mv 5 (cS #[]),Mv 6 cF]) (.seq (.seq (OP [qm 8 0,qm 9 1,Ca 10 165 [8,9],qm 7 10]) (.seq (OP [qm 11 7,Bi 12 .geq 11 (cI 0)]) (.cond 12 (.seq (.ops [qm 13 0,qm 14 7,qd 15 (.zlH 13 none (some 14)) 3,qm 16 0,qm 17 7,qm 18 1,qd 19 (.zhM 18) 32,qd 20 (.bin .add 17 19) 112,qd 21 (.zlH 16 (some 20) none) 248,qw 4 15 7,qw 5 21 1023,qd 6 (.move cT) 2047] true) .ret) .skip))) (.seq (OP [qm 22 0,qm 4 22,Mv 5 (cS #[]),Mv 6 cF]) .ret))
theorem zyS:zy Tryz.prog 89 23 [.tmp 4,.tmp 5,.tmp 6] c89:=fK Tryz.func89
theorem zct (c:UInt8) (s:ByteArray) (hs:s.size≤1000000000) (p:Nat) (hp:p≤s.size):zq Tryz.prog 89 [.sc (.string (JA s p)),.sc (.string (zht c))]
  (if yW c.toNat s p<s.size then .yO [.sc (.string (s.extract p (yW c.toNat s p))),.sc (.string (JA s (yW c.toNat s p+1))),.sc (.bool true)] else .yO [.sc (.string (JA s p)),.sc (.string ⟨#[]⟩),.sc (.bool false)]):=by
 refine za zyS zs (by simp[ze,Pure]) ?_ (by split<;>simp[ze,Pure])
 have hI:=Wn c s p hp
 have hg:=VW (c:=c.toNat) (s:=s) p
 have hz:=zdD hp
 refine sR ?_
 refine sC hI ?_
 by_cases h:yW c.toNat s p<s.size
 ·rw[if_pos h]
  rw[show zsi c s p=((yW c.toNat s p-p:Nat):Int) from if_pos h]
  refine sW ?_
  refine⟨zo,zo,zo,?_⟩
  refine sW ?_
  have hcs:(zht c).size=1:=rfl
  refine .inl ⟨by(unfold InR;rw[IntKind.wrap_i64];omega),?_⟩
  refine sW ?_
  refine⟨zo,zo,zo,?_⟩
  refine sW ?_
  refine yA ?_
  have e1:=zfO (s:=s) (p:=p) (m:=yW c.toNat s p-p) zo
  have e2:=ziG (s:=s) (p:=p) (m:=yW c.toNat s p-p+1) zo
  rw[show p+(yW c.toNat s p-p)=yW c.toNat s p by omega] at e1
  rw[show p+(yW c.toNat s p-p+1)=yW c.toNat s p+1 by omega] at e2
  rw[hz,hcs,Int.toNat_natCast,show(((yW c.toNat s p-p:Nat):Int)+(1:Nat)).toNat=yW c.toNat s p-p+1 by omega,e1,e2]
 ·rw[if_neg h]
  rw[show zsi c s p=-1 from if_neg h]
  refine sW ?_
  exact sP
def c37:PC:=.seq (OP [Mv 4 (cS #[]),Mv 5 (cS #[]),Mv 6 cF]) (.seq (OP [qm 7 0,qm 8 1,Ca 9 89 [7,8],Xt 10 0 9,Xt 11 1 9,Xt 12 2 9,qm 4 10,qm 5 11,qm 6 12]) .ret)
theorem zr3:zy Tryz.prog 37 13 [.tmp 4,.tmp 5,.tmp 6] c37:=fK Tryz.func37
theorem ziH (c:UInt8) (s:ByteArray) (hs:s.size≤1000000000) (p:Nat) (hp:p≤s.size):zq Tryz.prog 37 [.sc (.string (JA s p)),.sc (.string (zht c))]
  (if yW c.toNat s p<s.size then .yO [.sc (.string (s.extract p (yW c.toNat s p))),.sc (.string (JA s (yW c.toNat s p+1))),.sc (.bool true)] else .yO [.sc (.string (JA s p)),.sc (.string ⟨#[]⟩),.sc (.bool false)]):=by
 have hC:=zct c s hs p hp
 by_cases h:yW c.toNat s p<s.size
 ·rw[if_pos h] at hC ⊢
  refine za zr3 zs (by simp[ze,Pure]) ?_ (by simp[ze,Pure])
  refine sR ?_
  refine sC hC ?_
  exact .refl _
 ·rw[if_neg h] at hC ⊢
  refine za zr3 zs (by simp[ze,Pure]) ?_ (by simp[ze,Pure])
  refine sR ?_
  refine sC hC ?_
  exact .refl _
def c218:PC:=.seq (OP [Mv 4 (cI 0)]) (.seq (OP [qm 5 0,qm 6 1,Ca 7 165 [5,6],qm 4 7]) .ret)
theorem ztG:zy Tryz.prog 218 8 [.tmp 4] c218:=fK Tryz.func218
theorem zfa (c:UInt8) (s:ByteArray) (p:Nat) (hp:p≤s.size):zq Tryz.prog 218 [.sc (.string (JA s p)),.sc (.string (zht c))] (.sc (.int .i64 (zsi c s p))):=by
 refine za ztG zs (by simp[ze,Pure]) ?_ (by simp[Pure])
 refine sR ?_
 refine sC (Wn c s p hp) ?_
 exact .refl _
def qi (x:ByteArray):List D:=[.sc (.string x)]
theorem zlb (l:List ByteArray):xZ l=.xj 1 (l.map qi):=rfl
theorem zj2 {L:List ByteArray} {i N:Nat} {x:ByteArray} {r:List ByteArray} (hN:L.length=N) (hd:L.drop i=x::r) :
  (((L.take i).map qi++List.replicate (N-i) (qi ⟨#[]⟩)).set i (qi x))=(L.take (i+1)).map qi++List.replicate (N-(i+1)) (qi ⟨#[]⟩)∧L.drop (i+1)=r∧i<N:=by
 have hi:i<L.length:=by
  rcases Nat.lt_or_ge i L.length with h|h
  ·exact h
  ·rw[List.drop_of_length_le h] at hd;cases hd
 rw[List.drop_eq_getElem_cons hi] at hd
 obtain⟨h1,h2⟩:=List.cons.inj hd
 refine⟨?_,h2,zo⟩
 rw[List.set_append_right _ _ (by simp;omega),show N-i=(N-(i+1))+1 by omega,List.replicate_succ]
 rw[List.take_succ_eq_append_getElem hi,List.map_append,h1]
 simp[show i-min i L.length=0 by omega]
def zyp:PC:=.seq (.seq (OP [qm 34 10,qm 35 3,Bi 36 .lss 34 35]) (.cond 36 .skip (.exit 0))) (.block 1 (.seq (OP [qm 37 0,qm 38 1,Ca 39 218 [37,38],qm 11 39]) (.seq (.seq (OP [qm 40 11,Bi 41 .lss 40 (cI 0)]) (.cond 41 (.exit 0) .skip)) (.seq (OP [qm 42 9,qm 43 10,qm 44 0,qm 45 11,qm 46 2,Bi 47 .add 45 46,q 48 (.zlH 44 none (some 47)),Ia 49 1 42 43,So 1 49 48]) (.seq (OP [qm 50 0,qm 51 11,qm 52 1,q 53 (.zhM 52),Bi 54 .add 51 53,q 55 (.zlH 50 (some 54) none),qm 0 55]) (OP [qm 56 10,Bi 57 .add 56 (cI 1),qm 10 57]))))))
def c166:PC:=.seq (OP [Mv 8 cN]) (.seq (.seq (OP [qm 12 3,Bi 13 .eql 12 (cI 0)]) (.cond 13 (.seq (OP [Mv 8 cN]) .ret) .skip)) (.seq (.seq (OP [qm 14 1,Bi 15 .eql 14 (cS #[])]) (.cond 15 (.seq (OP [qm 16 0,qm 17 3,Ca 18 216 [16,17],qm 8 18]) .ret) .skip)) (.seq (.seq (OP [qm 19 3,Bi 20 .lss 19 (cI 0)]) (.cond 20 (OP [qm 21 0,qm 22 1,Ca 23 217 [21,22],Bi 24 .add 23 (cI 1),qm 3 24]) .skip)) (.seq (OP [qm 25 3,qm 26 0,q 27 (.zhM 26),Bi 28 .add 27 (cI 1),q 29 (.mx false 25 28),qm 3 29]) (.seq (OP [qm 30 3,q 31 (.wE 1 16 [(.string ⟨#[]⟩)] 30 30),qm 9 31]) (.seq (OP [qm 32 3,Bi 33 .sub 32 (cI 1),qm 3 33]) (.seq (OP [Mv 10 (cI 0)]) (.seq (.block 0 (.loop zyp)) (.seq (OP [qm 58 9,qm 59 10,qm 60 0,Ia 61 1 58 59,So 1 61 60]) (.seq (OP [qm 62 9,qm 63 10,Bi 64 .add 63 (cI 1),q 65 (.slc 1 62 none (some 64) none),qm 8 65]) .ret))))))))))
theorem zuP:zy Tryz.prog 166 66 [.tmp 8] c166:=fK Tryz.func166
theorem zaU (s:ByteArray) (hs:s.size≤1000000000):zq Tryz.prog 166 [.sc (.string s),.sc (.string (zht 32)),.sc (.int .i64 0),.sc (.int .i64 (-1))] (xZ (Vo s 0)):=by
 refine za zuP zs (by simp[ze,Pure]) ?_ (yL _)
 have hC:=zez s 32
 have hn:=zjn s _ 0 rfl (Nat.zero_le _)
 rw[List.drop_zero] at hn
 have hl:=zmG s _ 0 rfl (Nat.zero_le _)
 have hpos:=zg8 s 0
 generalize hN:(Vo s 0).length=N at hn hl hpos
 have hk:Lib.countByte s.data.toList 32=N-1:=zo
 rw[hk] at hC
 have hne:((zht 32).toList==(⟨#[]⟩:ByteArray).toList)=false:=by rw[ByteArray.toList_eq,ByteArray.toList_eq];rfl
 refine sR ?_
 rw[hne]
 refine sW ?_
 refine sC hC ?_
 refine sI ?_
 refine sI ?_
 rw[show(((N-1:Nat):Int)+1)=(N:Int) by omega,show min (N:Int) ((s.size:Int)+1)=(N:Int) by omega]
 refine⟨zo,zo,zo,?_⟩
 refine sW ?_
 refine sI ?_
 rw[show((N:Int)-1)=((N-1:Nat):Int) by omega,Int.toNat_natCast]
 refine zO [1,2,3,9] (λ((i,p):Nat × Nat)=>[(0,.sc (.string (JA s p))),(10,.sc (.int .i64 i))]) (λ(i,p)=>[(0,.vec true 0 1 (((Vo s 0).take i).map qi++List.replicate (N-i) (qi ⟨#[]⟩)))])
  (λ(i,p)=>i<N∧p≤s.size∧Vo s p=(Vo s 0).drop i) (λ(i,p)=>N-i) (0,0) ?_
 refine sW ?_
 refine⟨⟨hpos,Nat.zero_le _,rfl⟩,by dsimp only;rw[zin];exact sK,rfl,?_⟩
 rintro⟨i,p⟩ ⟨hi,hp,hd⟩
 have hI:=zfa 32 s p hp
 have hz:=zdD hp
 have hlen:(Vo s p).length=N-i:=by rw[hd,List.length_drop,hN]
 refine sW ?_
 refine sR ?_
 refine sS (λh1=>?_) λh1=>?_
 ·have h1:i<N-1:=sO
  have hm:yW 32 s p<s.size:=by
   rcases Nat.lt_or_ge (yW 32 s p) s.size with h|h
   ·exact h
   ·rw[YI zo] at hlen;simp at hlen;omega
  have hg:=VW (c:=32) (s:=s) p
  have e0:zsi 32 s p=((yW 32 s p-p:Nat):Int):=if_pos hm
  rw[e0] at hI
  have e1:=zfO (s:=s) (p:=p) (m:=yW 32 s p-p) zo
  have e2:=ziG (s:=s) (p:=p) (m:=yW 32 s p-p+1) zo
  rw[show p+(yW 32 s p-p)=yW 32 s p by omega] at e1
  rw[show p+(yW 32 s p-p+1)=yW 32 s p+1 by omega] at e2
  have hcs:(zht 32).size=1:=rfl
  have hll:(((Vo s 0).take i).map qi++List.replicate (N-i) (qi ⟨#[]⟩)).length=N:=by simp[hN];omega
  have hri:(((Vo s 0).take i).map qi++List.replicate (N-i) (qi ⟨#[]⟩))[i]? = some (qi ⟨#[]⟩):=by
   rw[List.getElem?_append_right (by simp;omega),List.length_map,List.length_take,hN,show min i N=i by omega,Nat.sub_self,show N-i=(N-i-1)+1 by omega,List.replicate_succ]
   rfl
  refine sC hI ?_
  refine sI ?_
  rw[Int.add_zero]
  refine⟨zo,zo,zo,?_⟩
  refine sW ?_
  rw[Int.toNat_natCast,e1]
  refine⟨zo,zo,?_⟩
  refine sW ?_
  refine⟨_,by rw[show 0+(i:Int).toNat=i by omega];exact hri,?_⟩
  refine sW ?_
  refine .inl ⟨by(unfold InR;rw[IntKind.wrap_i64];omega),?_⟩
  refine sW ?_
  refine⟨zo,zo,Nat.le_refl _,?_⟩
  rw[hz,hcs,show(((yW 32 s p-p:Nat):Int)+(1:Nat)).toNat=yW 32 s p-p+1 by omega,e2]
  refine sW ?_
  refine sI ?_
  rw[Yn hm] at hd
  obtain⟨q1,q2,q3⟩:=zj2 hN hd.symm
  refine⟨(i+1,yW 32 s p+1),⟨zo,zo,q2.symm⟩,zd,zD (by exact sK) ?_⟩
  show[zf.vec true 0 1 (List.set (((Vo s 0).take i).map qi++List.replicate (N-i) (qi ⟨#[]⟩)) (0+(i:Int).toNat) (qi (s.extract p (yW 32 s p))))]=[_]
  rw[show 0+(i:Int).toNat=i by omega,q1]
 ·have h1:i=N-1:=sO
  have hm:¬yW 32 s p<s.size:=λh=>by
   rw[Yn h,List.length_cons] at hlen
   have:=zg8 s (yW 32 s p+1)
   omega
  have hg:=zg7 (c:=32) (s:=s) _ p rfl hp
  have e1:s.extract p (yW 32 s p)=JA s p:=by unfold JA;congr 1;omega
  rw[YI hm,e1] at hd
  have hri:(((Vo s 0).take i).map qi++List.replicate (N-i) (qi ⟨#[]⟩))[i]? = some (qi ⟨#[]⟩):=by
   rw[List.getElem?_append_right (by simp;omega),List.length_map,List.length_take,hN,show min i N=i by omega,Nat.sub_self,show N-i=(N-i-1)+1 by omega,List.replicate_succ]
   rfl
  obtain⟨q1,q2,q3⟩:=zj2 hN hd.symm
  refine⟨zo,zo,?_⟩
  refine sW ?_
  refine⟨_,by rw[show 0+(i:Int).toNat=i by omega];exact hri,?_⟩
  refine sW ?_
  refine sI ?_
  refine⟨zo,zo,zo,?_⟩
  refine sW ?_
  rw[zlb]
  refine .own 0 0 _ _ 1 true _ _ rfl ?_
  show vA _ (((List.set (((Vo s 0).take i).map qi++List.replicate (N-i) (qi ⟨#[]⟩)) (0+(i:Int).toNat) (qi (JA s p))).take (0+((i:Int)+1).toNat)).drop (0+0)) _
  rw[show 0+(i:Int).toNat=i by omega,q1,show 0+((i:Int)+1).toNat=N by omega,show i+1=N by omega,Nat.sub_self,List.replicate_zero,List.append_nil,List.take_of_length_le (i:=N) (l:=Vo s 0) zo,List.drop_zero,List.take_of_length_le (i:=N) (by simp[hN])]
  exact z6 _
def c90:PC:=.seq (OP [Mv 4 cN]) (.seq (OP [qm 5 0,qm 6 1,Ca 7 166 [5,6,(cI 0),(cI (-1))],qm 4 7]) .ret)
theorem zxV:zy Tryz.prog 90 8 [.tmp 4] c90:=fK Tryz.func90
theorem zfi (s:ByteArray) (hs:s.size≤1000000000):zq Tryz.prog 90 [.sc (.string s),.sc (.string (zht 32))] (xZ (Vo s 0)):=by
 refine za zxV zs (by simp[ze,Pure]) ?_ (yL _)
 refine sR ?_
 refine sC (zaU s hs) ?_
 exact .refl _
end
section
open Go.RowKit
theorem zrS {k:Nat} (h:k<8):(zkR.map λs=>D.sc (.string s))[k]? = some (.sc (.string (JC k))):=by
 unfold JC
 rw[List.getElem?_map,List.getD_eq_getElem?_getD]
 have:k<zkR.length:=h
 rw[List.getElem?_eq_getElem this]
 rfl
def c91:PC:=.seq (OP [Mv 2 (cS #[])]) (.seq (OP [q 3 (.build [(.string ⟨#[]⟩),(.string ⟨#[]⟩),(.string ⟨#[]⟩),(.string ⟨#[]⟩),(.string ⟨#[]⟩),(.string ⟨#[]⟩),(.string ⟨#[]⟩),(.string ⟨#[]⟩)] [(0,1,(cS #[])),(1,1,(cS #[115,116,97,114,116])),(2,1,(cS #[101,110,100])),(3,1,(cS #[115,116,111,112])),(4,1,(cS #[116,97,115,107])),(5,1,(cS #[120,111,114])),(6,1,(cS #[97,110,100])),(7,1,(cS #[111,114]))]),qm 4 0,q 5 (.zoy 8 1 false 3 4),qm 2 5]) .ret)
theorem zzO:zy Tryz.prog 91 6 [.tmp 2] c91:=fK Tryz.func91
theorem zov (k:Nat) (hk:k<8):zq Tryz.prog 91 [.sc (.int .i64 k)] (.sc (.string (JC k))):=by
 refine za zzO zs (by simp[ze,Pure]) ?_ (by simp[Pure])
 refine sR ?_
 refine⟨zo,zo,_,by rw[Int.toNat_natCast,Nat.mul_one];exact zrS hk,?_⟩
 refine sW ?_
 exact .refl _
theorem zda {x:ByteArray} {k:Nat} (h:ZO x k≠0):∀n,ZO x (k+n)=ZO x k
 | 0=>rfl
 | n+1=>by
  show ZO x (k+n+1)=_
  have:=zda h n
  simp only[ZO]
  rw[this,if_pos h]
theorem zoo {x:ByteArray} {k:Nat} (h:ZO x k=0) (e:ZR x (JC (k+1))=true) (hk:k+1≤7):ZO x 7=k+1:=by
 have h1:ZO x (k+1)=k+1:=by simp only[ZO];rw[if_neg (by simp[h]),if_pos e]
 have:=zda (x:=x) (k:=k+1) (by rw[h1];omega) (7-(k+1))
 rw[show k+1+(7-(k+1))=7 by omega] at this
 rw[this,h1]
theorem zk0 {x:ByteArray} {k:Nat} (h:ZO x k=0) (e:ZR x (JC (k+1))=false):ZO x (k+1)=0:=by
 simp only[ZO];rw[if_neg (by simp[h]),if_neg (by simp[e])]
def ZB (x:ByteArray × ByteArray × Int):List D:=[.sc (.string x.1),.sc (.string x.2.1),.sc (.int .i64 x.2.2)]
def rdO (st:RdS):List zf:=[.row true [.own 1 st.nodes.length 0 st.nodes.length,.sc (.slice none 0 0),.own 2 st.zv.length 0 st.zv.length],.vec true st.nodes.length 2 (st.nodes.map ug),.vec true st.zv.length 3 (st.zv.map ZB)]
theorem XZ {w:List ByteArray} {i:Nat} (h:i<w.length):(w.map λs=>[D.sc (.string s)])[(i:Int).toNat]? = some [.sc (.string (w0 w i))]:=by
 rw[Int.toNat_natCast,List.getElem?_map,List.getElem?_eq_getElem h]
 unfold w0
 rw[List.getD_eq_getElem?_getD,List.getElem?_eq_getElem h]
 rfl
theorem zpQ (st:RdS):wD 3 (rdO st):=by
 refine⟨by simp[zf.under,zl,zt],zh _ (zC _ wW _),zh _ (zC _ (λx=>by simp[ZB,ze,Pure]) _),trivial⟩
theorem UO (st:RdS):∀o∈rdO st,o.under (rdO st).length:=by
 intro o ho
 simp only[rdO,List.mem_cons,List.not_mem_nil,or_false] at ho
 rcases ho with rfl|rfl|rfl
 ·simp[zf.under,zl,zt,rdO]
 ·exact zh _ (zC _ wW _)
 ·exact zh _ (zC _ (λx=>by simp[ZB,ze,Pure]) _)
def zBl:PC:=.seq (.seq (OP [qm 49 8,Bi 50 .leq 49 (cI 7)]) (.cond 50 .skip (.exit 0))) (.seq (.block 1 (.seq (.ops [qm 53 7,qd 54 (.zM 1 53 (cI 0)) 1,qd 55 (.zg 54) 3,qm 56 8,qd 57 (.call 91 [56]) 8,qd 58 (.bin .eql 55 57) 31] true) (.cond 58 (.seq (.seq (OP [qm 59 7,Ln 60 59,Bi 61 .neq 60 (cI 2),qm 62 61,GF 63 62 (.move 7),GF 64 62 (.zM 1 63 (cI 1)),GF 65 62 (.zg 64),GF 66 62 (.call 25 [65]),GF 67 62 (.un .not 66),Pk 68 62 cT 67,qm 69 68,GF 70 69 (.move 0),GF 71 69 (.zn 70),GF 72 69 (.zz 2 71),GF 73 69 (.zg 72),GF 74 69 (.len 73),GF 75 69 (.bin .gtr 74 (cI 0)),Pk 76 69 cT 75]) (.cond 76 (.seq (OP [Mv 6 cF]) .ret) .skip)) (.seq (.ops [qm 77 0,qm 78 0,qd 79 (.zn 78) 2,qd 80 (.zz 0 79) 6,qd 81 (.zz 0 80) 14,qd 82 (.zg 81) 30,qm 83 7,qd 84 (.zM 1 83 (cI 1)) 64,qd 85 (.zg 84) 192,qm 86 8,qd 87 (.build [(.string ⟨#[]⟩),(.int .i64 0)] [(0,1,85),(1,1,86)]) 960,qd 88 (.xe 2 1 [87]) 1984,qd 89 (.append 2 24 82 88) 4094,qd 90 (.zn 77) 8191,qd 91 (.zz 0 90) 16383,qd 92 (.zz 0 91) 32767,qk (.store 1 92 89) 65535] true) (.seq (OP [Mv 6 cT]) .ret))) .skip))) (OP [qm 51 8,Bi 52 .add 51 (cI 1),qm 8 52]))
def c38:PC:=.seq (OP [Mv 6 cF]) (.seq (OP [qm 9 1,q 10 (.call 90 [9,(cS #[32])]),qm 7 10]) (.seq (.seq (OP [qm 11 7,Ia 12 1 11 (cI 0),Lo 13 12,Bi 14 .eql 13 (cS #[102,108,111,119])]) (.cond 14 (.seq (.seq (OP [qm 15 7,Ln 16 15,Bi 17 .neq 16 (cI 3),qm 18 17,GF 19 18 (.move 7),GF 20 18 (.zM 1 19 (cI 1)),GF 21 18 (.zg 20),GF 22 18 (.call 25 [21]),GF 23 18 (.un .not 22),Pk 24 18 cT 23,qm 25 24,GF 26 25 (.move 7),GF 27 25 (.zM 1 26 (cI 2)),GF 28 25 (.zg 27),GF 29 25 (.call 25 [28]),GF 30 25 (.un .not 29),Pk 31 25 cT 30]) (.cond 31 (.seq (OP [Mv 6 cF]) .ret) .skip)) (.seq (.ops [qm 32 0,qm 33 0,qd 34 (.zn 33) 2,qd 35 (.zz 2 34) 6,qd 36 (.zg 35) 14,qm 37 7,qd 38 (.zM 1 37 (cI 1)) 32,qd 39 (.zg 38) 96,qm 40 7,qd 41 (.zM 1 40 (cI 2)) 256,qd 42 (.zg 41) 768,qm 43 2,qd 44 (.build [(.string ⟨#[]⟩),(.string ⟨#[]⟩),(.int .i64 0)] [(0,1,39),(1,1,42),(2,1,43)]) 4064,qd 45 (.xe 3 1 [44]) 8160,qd 46 (.append 3 40 36 45) 16382,qd 47 (.zn 32) 32767,qd 48 (.zz 2 47) 65535,qk (.store 1 48 46) 131071] true) (.seq (OP [Mv 6 cT]) .ret))) .skip)) (.seq (.seq (OP [Mv 8 (cI 1)]) (.block 0 (.loop zBl))) (.seq (OP [Mv 6 cF]) .ret))))
theorem zdr:zy Tryz.prog 38 93 [.tmp 6] c38:=fK Tryz.func38
theorem znE (st:RdS) (hst:st.nodes.length≤100000000∧st.zv.length≤100000000) (ln:ByteArray) (hln:ln.size≤100000000) (a:Int) :
  yu Tryz.prog 38 [.loc 0 0,.sc (.string ln),.sc (.int .i64 a)] (rdO st) (.sc (.bool (zbD st ln a).isSome)) (rdO ((zbD st ln a).getD st)):=by
 have hS:=zfi ln zo
 have hpos:=zg8 ln 0
 have hsz:∀i,(w0 (Vo ln 0) i).size≤9223372036854775807:=λi=>by
  unfold w0
  rw[List.getD_eq_getElem?_getD]
  cases h:(Vo ln 0)[i]? with
  | none=>show(0:Nat)≤_;omega
  | some x=>have:=zeL ln _ 0 rfl (Nat.zero_le _) x (List.mem_of_getElem? h);simp;omega
 have hnm:=λi=>u4 (w0 (Vo ln 0) i) (hsz i)
 obtain⟨R,hL⟩:∃R,R=zbD st ln a:=⟨_,rfl⟩
 rw[←hL]
 unfold zbD at hL
 generalize hw:Vo ln 0=w at hS hpos hsz hnm hL
 have n1:=hnm 1
 have n2:=hnm 2
 by_cases hf:ZR (w0 w 0) zrC=true
 ·rw[if_pos hf] at hL
  by_cases hl:w.length=3
  ·cases h1:xb (w0 w 1) with
   | true =>
    rw[h1] at n1
    cases h2:xb (w0 w 2) with
    | true =>
     rw[h2] at n2
     rw[if_pos ⟨hl,h1,h2⟩] at hL
     subst hL
     refine z1 zdr zs (by simp[rdO]) ?_ (by simp[zt]) (UO _)
     unfold rdO
     refine sR ?_
     refine sC hS ?_
     refine sL (XZ (i:=0) zo) ?_
     rw[show((w0 w 0).toList==(⟨#[102,108,111,119]⟩:ByteArray).toList)=true from hf]
     refine sW ?_
     rw[List.length_map]
     rw[show((w.length:Int) != 3)=false by rw[hl];rfl]
     refine sW ?_
     refine sL (XZ (i:=1) zo) ?_
     refine sC n1 ?_
     refine sL (XZ (i:=2) zo) ?_
     refine sC n2 ?_
     refine sL (XZ (i:=1) zo) ?_
     refine sL (XZ (i:=2) zo) ?_
     refine sJ ?_
     exact⟨by simp[ZB,List.take_of_length_le (l:=List.map ZB st.zv) (i:=st.zv.length) zs],zs⟩
    | false =>
     rw[h2] at n2
     rw[if_neg (by simp[h2])] at hL
     subst hL
     refine z1 zdr zs (by simp[rdO]) ?_ (by simp[zt]) (UO _)
     unfold rdO
     refine sR ?_
     refine sC hS ?_
     refine sL (XZ (i:=0) zo) ?_
     rw[show((w0 w 0).toList==(⟨#[102,108,111,119]⟩:ByteArray).toList)=true from hf]
     refine sW ?_
     rw[List.length_map]
     rw[show((w.length:Int) != 3)=false by rw[hl];rfl]
     refine sW ?_
     refine sL (XZ (i:=1) zo) ?_
     refine sC n1 ?_
     refine sL (XZ (i:=2) zo) ?_
     refine sC n2 ?_
     exact Nat.le_refl _
   | false =>
    rw[h1] at n1
    rw[if_neg (by simp[h1])] at hL
    subst hL
    refine z1 zdr zs (by simp[rdO]) ?_ (by simp[zt]) (UO _)
    unfold rdO
    refine sR ?_
    refine sC hS ?_
    refine sL (XZ (i:=0) zo) ?_
    rw[show((w0 w 0).toList==(⟨#[102,108,111,119]⟩:ByteArray).toList)=true from hf]
    refine sW ?_
    rw[List.length_map]
    rw[show((w.length:Int) != 3)=false by rw[hl];rfl]
    refine sW ?_
    refine sL (XZ (i:=1) zo) ?_
    refine sC n1 ?_
    exact Nat.le_refl _
  ·rw[if_neg (λq=>hl q.1)] at hL
   subst hL
   refine z1 zdr zs (by simp[rdO]) ?_ (by simp[zt]) (UO _)
   unfold rdO
   refine sR ?_
   refine sC hS ?_
   refine sL (XZ (i:=0) zo) ?_
   rw[show((w0 w 0).toList==(⟨#[102,108,111,119]⟩:ByteArray).toList)=true from hf]
   refine sW ?_
   rw[List.length_map]
   rw[show((w.length:Int) != 3)=true by simpa using (by omega:(w.length:Int)≠3)]
   refine sW ?_
   exact Nat.le_refl _
 ·rw[if_neg hf] at hL
  have hf:ZR (w0 w 0) zrC=false:=by simpa using hf
  refine z1 zdr zs (by simp[rdO]) ?_ (by simp[zt]) (UO _)
  unfold rdO
  refine sR ?_
  refine sC hS ?_
  refine sL (XZ (i:=0) zo) ?_
  rw[show((w0 w 0).toList==(⟨#[102,108,111,119]⟩:ByteArray).toList)=false from hf]
  refine sW ?_
  refine zO [0,7] (λk:Nat=>[(8,.sc (.int .i64 k))]) (λ_=>[]) (λk=>1≤k∧k≤8∧ZO (w0 w 0) (k-1)=0) (λk=>8-k) 1 ?_
  refine sW ?_
  refine⟨⟨Nat.le_refl _,zo,rfl⟩,by exact sK,rfl,?_⟩
  rintro k ⟨hk1,hk8,hk0⟩
  obtain⟨j,rfl⟩:∃j,k=j+1:=⟨k-1,zo⟩
  have hk0:ZO (w0 w 0) j=0:=hk0
  have hW:=λh=>zov (j+1) h
  refine sW ?_
  refine sR ?_
  refine sS (λh5=>?_) λh5=>?_
  ·have h5:j+1≤7:=sO
   refine sL (XZ (i:=0) zo) ?_
   refine sC (hW zo) ?_
   cases he:ZR (w0 w 0) (JC (j+1)) with
   | false =>
    rw[show((w0 w 0).toList==(JC (j+1)).toList)=false from he]
    refine sW ?_
    refine sI ?_
    exact⟨j+2,⟨zo,zo,zk0 hk0 he⟩,zd,zD (by exact sK) rfl⟩
   | true =>
    rw[show((w0 w 0).toList==(JC (j+1)).toList)=true from he]
    have hkd:=zoo hk0 he zo
    rw[hkd,if_pos zo] at hL
    refine sW ?_
    rw[List.length_map]
    by_cases hl:w.length=2
    ·rw[show((w.length:Int) != 2)=false by rw[hl];rfl]
     refine sW ?_
     refine sL (XZ (i:=1) zo) ?_
     cases h1:xb (w0 w 1) with
     | true =>
      rw[h1] at n1
      refine sC n1 ?_
      by_cases hfl:st.zv=[]
      ·rw[if_pos ⟨hl,h1,hfl⟩] at hL
       subst hL
       refine zjM (by rw[hfl];rfl) ?_
       refine sW ?_
       refine sL (XZ (i:=1) zo) ?_
       refine sJ ?_
       exact⟨by simp[ug,List.take_of_length_le (l:=List.map ug st.nodes) (i:=st.nodes.length) zs],zs⟩
      ·rw[if_neg (λq=>hfl q.2.2)] at hL
       subst hL
       have:0<st.zv.length:=List.length_pos_iff.2 hfl
       refine zms (by simp;omega) ?_
       refine sW ?_
       exact Nat.le_refl _
     | false =>
      rw[h1] at n1
      rw[if_neg (by simp[h1])] at hL
      subst hL
      refine sC n1 ?_
      exact Nat.le_refl _
    ·rw[if_neg (λq=>hl q.1)] at hL
     subst hL
     rw[show((w.length:Int) != 2)=true by simpa using (by omega:(w.length:Int)≠2)]
     refine sW ?_
     exact Nat.le_refl _
  ·have h5:j=7:=sO
   subst h5
   rw[hk0,if_neg zs] at hL
   subst hL
   exact⟨rfl,rfl,Nat.le_refl _⟩
end
section
open Go.RowKit
theorem zkK {st st':RdS} {ln:ByteArray} {a:Int} (h:zbD st ln a=some st') (hn:∀x∈st.nodes,x.1.size≤1000000) (hl:ln.size≤1000000) :
  st'.nodes.length≤st.nodes.length+1∧st'.zv.length≤st.zv.length+1∧∀x∈st'.nodes,x.1.size≤1000000:=by
 unfold zbD at h
 split at h
 ·split at h
  ·cases h;exact⟨zs,zs,hn⟩
  ·cases h
 ·split at h
  ·split at h
   ·cases h
    refine⟨zs,zs,λx hx=>?_⟩
    rcases List.mem_append.1 hx with hx|hx
    ·exact hn x hx
    ·rw[List.mem_singleton] at hx
     subst hx
     show(w0 (Vo ln 0) 1).size≤_
     unfold w0
     rw[List.getD_eq_getElem?_getD]
     cases e:(Vo ln 0)[1]? with
     | none=>show(0:Nat)≤_;omega
     | some y=>have:=zeL ln _ 0 rfl (Nat.zero_le _) y (List.mem_of_getElem? e);show y.size≤_;omega
   ·cases h
  ·cases h
theorem zb8 {H:List zf} {n:Nat} {l:List (List D)} (h:l.length≤n):vA H (List.drop 0 (List.take n l)) l:=by rw[List.drop_zero,List.take_of_length_le h];exact z6 _
theorem zbM (ρ:Nat→Nat) (l:List (ByteArray × Int)):vS ρ (l.map ug)=l.map ug:=yw _ (zC _ wW _)
theorem zam (ρ:Nat→Nat) (l:List (ByteArray × ByteArray × Int)):vS ρ (l.map ZB)=l.map ZB:=yw _ (zC _ (λx=>by simp[ZB,ze,Pure]) _)
theorem zkv (ρ:Nat→Nat) (l:List (Int × Int)):vS ρ (l.map YT)=l.map YT:=yw _ (zC _ Xm _)
theorem zmA (ρ:Nat→Nat) (st:RdS):(rdO st).map (zf.yI ρ)=[.row true [.own (ρ 1) st.nodes.length 0 st.nodes.length,.sc (.slice none 0 0),.own (ρ 2) st.zv.length 0 st.zv.length],.vec true st.nodes.length 2 (st.nodes.map ug),.vec true st.zv.length 3 (st.zv.map ZB)]:=by
 simp only[rdO,List.map_cons,List.map_nil,zf.yI,yG,D.yI,zbM,zam]
def rdQ (st:RdS) (fl:List (Int × Int)):List zf:=[.row true [.own 1 st.nodes.length 0 st.nodes.length,.own 3 fl.length 0 fl.length,.own 2 st.zv.length 0 st.zv.length],.vec true st.nodes.length 2 (st.nodes.map ug),.vec true st.zv.length 3 (st.zv.map ZB),.vec true fl.length 2 (fl.map YT)]
theorem zoQ (st:RdS) (fl:List (Int × Int)):wD 4 (rdQ st fl) :=
 ⟨by simp[zf.under,zl,zt],zh _ (zC _ wW _),zh _ (zC _ (λx=>by simp[ZB,ze,Pure]) _),zh _ (zC _ Xm _),trivial⟩
def c93:PC:=.seq (OP [Bx 2 0,Mv 3 cF]) (.seq (OP [Fa 4 0 2,Lo 5 4,Lo 6 1,Bi 7 .eql 5 6,qm 3 7]) .ret)
theorem zzq:zy Tryz.prog 93 8 [.tmp 3] c93:=fK Tryz.func93
theorem zl4 (m:ByteArray × Int) (x:ByteArray):zq Tryz.prog 93 [.agg (ug m),.y7 [.sc (.string x)]] (.sc (.bool (ZR m.1 x))):=by
 refine za zzq zs (by simp[ze,Pure,wW]) ?_ (by simp[Pure])
 refine sR ?_
 exact .refl _
def QH (nodes:List (ByteArray × Int)) (x:ByteArray):Int:=wA (λn=>ZR n.1 x) nodes
def c39:PC:=.seq (OP [Bx 3 1,Mv 4 (cI 0)]) (.seq (OP [qm 5 0,q 6 (.zn 5),Fa 7 0 6,Fa 8 0 7,Lo 9 8,q 10 (.qj (.func 93) [] [3]),Ca 11 92 [9,10],qm 4 11]) .ret)
theorem zzK:zy Tryz.prog 39 12 [.tmp 4] c39:=fK Tryz.func39
theorem zpJ (st:RdS) (hst:st.nodes.length≤1000000000) (fl:List (Int × Int)) (x:ByteArray):yu Tryz.prog 39 [.loc 0 0,.sc (.string x)] (rdQ st fl) (.sc (.int .i64 (QH st.nodes x))) (rdQ st fl):=by
 have hI:=zbS st.nodes zo (λn=>ZR n.1 x) 93 [.y7 [.sc (.string x)]] (by simp[ze,Pure]) λa _=>zl4 a x
 refine z1 zzK zs (by simp[rdQ]) ?_ (by simp[zt]) (by
  intro o ho
  simp only[rdQ,List.mem_cons,List.not_mem_nil,or_false] at ho
  rcases ho with rfl|rfl|rfl|rfl
  ·simp[zf.under,zl,zt,rdQ]
  ·exact zh _ (zC _ wW _)
  ·exact zh _ (zC _ (λx=>by simp[ZB,ze,Pure]) _)
  ·exact zh _ (zC _ Xm _))
 unfold rdQ
 refine sR ?_
 refine .inr (.inl ⟨_,_,wP.cons _ _ _ _ (.own 1 _ _ _ 2 true _ _ rfl (by rw[List.drop_zero,List.take_of_length_le zs];exact z6 _)) (.cons _ _ _ _ (.fn _ _ _ _ _ (.nil) (.cons _ _ _ _ (.loc 4 0 true _ _ rfl (xv _)) .nil)) .nil),hI,rfl,?_⟩)
 refine sW ?_
 simp
theorem zfN (st:RdS) (hst:st.nodes.length≤1000000000) (fl:List (Int × Int)) (x:ByteArray) {r0:zf} {T:List zf} :
  zgC Tryz.prog 39 [.loc 1 0,.sc (.string x)] (r0::.row true [.own 2 st.nodes.length 0 st.nodes.length,.own 4 fl.length 0 fl.length,.own 3 st.zv.length 0 st.zv.length]::.vec true st.nodes.length 2 (st.nodes.map ug)::.vec true st.zv.length 3 (st.zv.map ZB)::.vec true fl.length 2 (fl.map YT)::T) (.sc (.int .i64 (QH st.nodes x))) [1,2,3,4]:=by
 refine ziw (zpJ st hst fl x) [1,2,3,4] rfl zc (by simp[zl,zt,rdQ]) (zoQ st fl) (by simp[yG,D.yI]) (by simp[D.yI]) (λi o ho=>?_) 1 (q:=true) (cs:=[.own 2 st.nodes.length 0 st.nodes.length,.own 4 fl.length 0 fl.length,.own 3 st.zv.length 0 st.zv.length]) zs rfl zs (λid hid=>?_)
 ·match i,ho with
  | 0,ho=>cases ho;simp[zf.yI,yG,D.yI]
  | 1,ho=>cases ho;exact congrArg some (show zf.vec true _ 2 (st.nodes.map ug)=zf.yI _ (.vec true _ 2 (st.nodes.map ug)) by simp only[zf.yI,zbM])
  | 2,ho=>cases ho;exact congrArg some (show zf.vec true _ 3 (st.zv.map ZB)=zf.yI _ (.vec true _ 3 (st.zv.map ZB)) by simp only[zf.yI,zam])
  | 3,ho=>cases ho;exact congrArg some (show zf.vec true _ 2 (fl.map YT)=zf.yI _ (.vec true _ 2 (fl.map YT)) by simp only[zf.yI,zkv])
 ·simp only[List.mem_cons,List.not_mem_nil,or_false] at hid
  rcases hid with rfl|rfl|rfl|rfl
  ·exact .inl rfl
  ·exact .inr ⟨st.nodes.length,0,st.nodes.length,zs⟩
  ·exact .inr ⟨st.zv.length,0,st.zv.length,zs⟩
  ·exact .inr ⟨fl.length,0,fl.length,zs⟩
def znf (x:zb × Int × Int):D:=.yO [yU x.1,.sc (.int .i64 x.2.1),.sc (.int .i64 x.2.2)]
theorem zkN (x:zb × Int × Int):Pure (znf x):=by simp[znf,Pure,ze,yj]
def zA4:PC:=.seq (.seq (OP [qm 21 0,Bi 22 .neq 21 (cS #[])]) (.cond 22 .skip (.exit 0))) (.seq (.block 1 (.seq (OP [qm 26 0,q 27 (.call 37 [26,(cS #[10])]),qm 25 27,Xt 28 0 25,Xt 29 1 25,Xt 30 2 25,qm 7 28,qm 8 29,qm 9 30]) (.seq (.seq (OP [qm 31 9,Nt 32 31,qm 33 32,GF 34 33 (.move 5),GF 35 33 (.move 7),GF 36 33 (.move 6),GF 37 33 (.call 38 [34,35,36]),GF 38 33 (.un .not 37),Pk 39 33 cT 38]) (.cond 39 (.seq (OP [q 40 (.build [(.slice none 0 0),(.slice none 0 0)] []),qm 41 6,So 2 2 40,qm 3 41,Mv 4 (cI 3)]) .ret) .skip)) (OP [qm 42 8,qm 0 42])))) (OP [qm 23 6,Bi 24 .add 23 (cI 1),qm 6 24]))
def zB0:PC:=.seq (OP [Bi 49 .lss 48 47]) (.seq (.cond 49 .skip (.exit 2)) (.seq (.block 3 (.seq (OP [Ia 50 3 46 48,LA 51 3 50,q 11 (.alloc [(.string ⟨#[]⟩),(.string ⟨#[]⟩),(.int .i64 0)]),So 3 11 51]) (.seq (.ops [qm 52 5,Fa 53 0 11,qd 54 (.zg 53) 2,qd 55 (.call 39 [52,54]) 7,qm 56 5,Fa 57 1 11,qd 58 (.zg 57) 32,qd 59 (.call 39 [56,58]) 127,qw 12 55 255,qw 13 59 511] true) (.seq (.seq (OP [qm 60 12,Bi 61 .lss 60 (cI 0),qm 62 61,GF 63 62 (.move 13),GF 64 62 (.bin .lss 63 (cI 0)),Pk 65 62 cT 64]) (.cond 65 (.seq (.ops [q 66 (.build [(.slice none 0 0),(.slice none 0 0)] []),Fa 67 2 11,qd 68 (.zg 67) 2,qk (.store 2 2 66) 1,qw 3 68 15,qd 4 (.move (cI 4)) 31] true) .ret) .skip)) (OP [qm 69 5,qm 70 5,q 71 (.zn 70),Fa 72 0 71,Fa 73 1 72,Lo 74 73,qm 75 12,qm 76 13,q 77 (.build [(.int .i64 0),(.int .i64 0)] [(0,1,75),(1,1,76)]),Bs 78 2 1 [77],Ap 79 2 16 74 78,q 80 (.zn 69),Fa 81 0 80,Fa 82 1 81,So 1 82 79]))))) (OP [Bi 83 .add 48 (cI 1),qm 48 83])))
def c17:PC:=.seq (OP [q 2 (.alloc [(.slice none 0 0),(.slice none 0 0)]),Mv 3 (cI 0),Mv 4 (cI 0)]) (.seq (.seq (OP [qm 15 0,q 16 (.zhM 15),Bi 17 .gtr 16 (cI 4096)]) (.cond 17 (.seq (OP [q 18 (.build [(.slice none 0 0),(.slice none 0 0)] []),So 2 2 18,Mv 3 (cI 0),Mv 4 (cI 2)]) .ret) .skip)) (.seq (OP [q 19 (.build [(.slice none 0 0),(.slice none 0 0),(.slice none 0 0)] []),Bx 20 19,qm 5 20]) (.seq (.seq (OP [Mv 6 (cI 1)]) (.block 0 (.loop zA4))) (.seq (.seq (OP [qm 43 5,q 44 (.zn 43),Fa 45 2 44,Lo 46 45,Ln 47 46,Mv 48 (cI 0)]) (.block 2 (.loop zB0))) (.seq (.seq (OP [qm 84 5,q 85 (.zn 84),Fa 86 0 85,LA 87 2 86,Ca 88 40 [87],qm 14 88]) (.seq (OP [qm 89 14,Bi 90 .neq 89 (cI 0)]) (.cond 90 (.seq (OP [q 91 (.build [(.slice none 0 0),(.slice none 0 0)] []),qm 92 14,So 2 2 91,Mv 3 (cI 0),qm 4 92]) .ret) .skip))) (.seq (OP [qm 93 5,q 94 (.zn 93),Fa 95 0 94,LA 96 2 95,So 2 2 96,Mv 3 (cI 0),Mv 4 (cI 0)]) .ret))))))
theorem zyo:zy Tryz.prog 17 97 [.agg 2 2,.tmp 3,.tmp 4] c17:=fK Tryz.func17
theorem zk5 (s:ByteArray) (hs:s.size≤4096):zq Tryz.prog 17 [.sc (.string s)] (znf (ziu s)):=by
 refine za zyo zs (by simp[ze,Pure]) ?_ (zkN _)
 obtain⟨R,hR⟩:∃R,R=zaR s (s.size+1) 0 1 ⟨[],[]⟩:=⟨_,rfl⟩
 obtain⟨T,hT⟩:∃T,T=ziu s:=⟨_,rfl⟩
 rw[←hT]
 unfold ziu at hT
 rw[←hR] at hT
 refine sR ?_
 refine zjM (by simp;omega) ?_
 refine sW ?_
 refine zG (wT (yV 1 0 2 zs rfl rfl) (yV 1 2 3 zs rfl rfl)) ?_
 refine zO [2,5] (λ((f,p,a,st):Nat × Nat × Int × RdS)=>[(0,.sc (.string (JA s p))),(6,.sc (.int .i64 a))])
  (λ(f,p,a,st)=>[(1,.row true [.own 2 st.nodes.length 0 st.nodes.length,.sc (.slice none 0 0),.own 3 st.zv.length 0 st.zv.length]),(2,.vec true st.nodes.length 2 (st.nodes.map ug)),(3,.vec true st.zv.length 3 (st.zv.map ZB))])
  (λ(f,p,a,st)=>R=zaR s f p a st∧p≤s.size∧s.size-p<f∧st.nodes.length≤p∧st.zv.length≤p∧1≤a∧a≤p+1∧∀x∈st.nodes,x.1.size≤1000000) (λ(f,p,a,st)=>f) (s.size+1,0,1,⟨[],[]⟩) ?_
 refine sW ?_
 refine⟨⟨hR,Nat.zero_le _,zo,Nat.zero_le _,Nat.zero_le _,zo,zo,λx hx=>by cases hx⟩,by dsimp only;rw[zin];exact sK,rfl,?_⟩
 rintro⟨f,p,a,st⟩ ⟨hR,hp,hf,hn,hfl,ha1,ha2,hnm⟩
 obtain⟨f,rfl⟩:∃g,f=g+1:=⟨f-1,zo⟩
 have hC:=ziH 10 s zo p hp
 have hz:=zdD hp
 refine sW ?_
 refine sR ?_
 simp only[zaR] at hR
 by_cases hps:p<s.size
 ·rw[if_pos hps] at hR
  have he:ZR (JA s p) ⟨#[]⟩=false:=by
   cases h:ZR (JA s p) ⟨#[]⟩ with
   | false=>rfl
   | true=>have:=(zbe _).1 h;omega
  rw[show((JA s p).toList==(⟨#[]⟩:ByteArray).toList)=false from he]
  refine sW ?_
  by_cases hnl:yW 10 s p<s.size
  ·rw[if_pos hnl] at hR
   rw[show(10:UInt8).toNat=10 from rfl,if_pos hnl] at hC
   refine sC hC ?_
   have hg:=VW (c:=10) (s:=s) p
   have hln:(s.extract p (yW 10 s p)).size≤1000000:=by rw[ByteArray.size_extract];omega
   have hE:=znE st ⟨zo,zo⟩ (s.extract p (yW 10 s p)) zo a
   refine sA (vB hE [_] [] rfl (by simp[zl,zt,rdO]) (zpQ st) rfl rfl (by rw[zmA];try rfl) (by rw[zmA];try rfl)) ?_
   cases hlr:zbD st (s.extract p (yW 10 s p)) a with
   | none =>
    rw[hlr] at hR
    subst hR
    simp only at hT
    subst hT
    refine sW ?_
    exact sP
   | some st' =>
    rw[hlr] at hR
    obtain⟨f1,f2,f3⟩:=zkK hlr hnm hln
    refine sW ?_
    refine sI ?_
    exact⟨(f,yW 10 s p+1,a+1,st'),⟨hR,zo,zo,zo,zo,zo,zo,f3⟩,zd,zD (by exact sK) rfl⟩
  ·rw[if_neg hnl] at hR
   rw[show(10:UInt8).toNat=10 from rfl,if_neg hnl] at hC
   subst hR
   simp only at hT
   subst hT
   refine sC hC ?_
   exact sP
 ·rw[if_neg hps] at hR
  have he:ZR (JA s p) ⟨#[]⟩=true:=(zbe _).2 zo
  rw[show((JA s p).toList==(⟨#[]⟩:ByteArray).toList)=true from he]
  subst hR
  refine sW ?_
  obtain⟨FR,hFR⟩:∃FR,FR=Jp st.nodes st.zv []:=⟨_,rfl⟩
  simp only at hT
  rw[←hFR] at hT
  refine zG (yV 1 1 2 zs rfl rfl) ?_
  refine zO [2,5,46,47] (λ((k,c,out):Nat × Nat × List (Int × Int))=>[(48,.sc (.int .i64 k))])
   (λ(k,c,out)=>[(1,.row true [.own 2 st.nodes.length 0 st.nodes.length,.own 4 c 0 c,.own 3 st.zv.length 0 st.zv.length]),(4,.vec true c 2 (out.map YT))])
   (λ(k,c,out)=>FR=Jp st.nodes (st.zv.drop k) out∧k≤st.zv.length∧out.length=k∧c=out.length) (λ(k,c,out)=>st.zv.length-k) (0,0,[]) ?_
  refine sW ?_
  refine⟨⟨by rw[List.drop_zero];exact hFR,Nat.zero_le _,rfl,rfl⟩,by exact sK,rfl,?_⟩
  rintro⟨k,c,out⟩ ⟨hR,hk,ho,rfl⟩
  refine sW ?_
  refine sR ?_
  refine sS (λh6=>?_) λh6=>?_
  ·have hk':k<st.zv.length:=sO
   obtain⟨x,y,al,hx⟩:∃x y al,st.zv[k]=(x,y,al):=⟨_,_,_,rfl⟩
   have hat:(st.zv.map ZB)[k]? = some (ZB (x,y,al)):=by rw[List.getElem?_map,List.getElem?_eq_getElem hk',hx];rfl
   rw[List.drop_eq_getElem_cons hk',hx] at hR
   simp only[Jp] at hR
   refine⟨zo,zo,?_⟩
   refine sW ?_
   refine⟨_,by rw[show 0+(k:Int).toNat=k by omega];exact hat,?_⟩
   refine sW ?_
   refine sX (zfN st zo out x) ?_
   refine sX (zfN st zo out y) ?_
   cases hx1:zb5 st.nodes x with
   | none =>
    rw[hx1] at hR
    rw[show QH st.nodes x=-1 by unfold QH wA;unfold zb5 at hx1;rw[hx1]]
    subst hR
    simp only at hT
    subst hT
    refine sW ?_
    exact sP
   | some i =>
    rw[hx1] at hR
    rw[show QH st.nodes x=(i:Int) by unfold QH wA;unfold zb5 at hx1;rw[hx1]]
    rw[show decide ((i:Int)<0)=false by simp]
    refine sW ?_
    cases hy1:zb5 st.nodes y with
    | none =>
     rw[hy1] at hR
     rw[show QH st.nodes y=-1 by unfold QH wA;unfold zb5 at hy1;rw[hy1]]
     subst hR
     simp only at hT
     subst hT
     refine sW ?_
     exact sP
    | some j =>
     rw[hy1] at hR
     rw[show QH st.nodes y=(j:Int) by unfold QH wA;unfold zb5 at hy1;rw[hy1]]
     rw[show decide ((j:Int)<0)=false by simp]
     refine sW ?_
     refine sJ ?_
     refine sI ?_
     refine⟨(k+1,out.length+1,out++[((i:Int),(j:Int))]),⟨hR,zo,by simp[ho],zs⟩,zd,?_⟩
     (refine zj 5 zs rfl ?_ ?_<;>(repeat' (first|exact trivial|exact rfl|exact yc.refl _|exact zQ.refl _|exact zK.refl _|refine And.intro ?_ ?_|(simp[zt,zl,zF,-List.map_take,-List.map_drop];done))))
     all_goals first
      | exact zp (by rw[List.drop_zero,List.take_of_length_le zs,List.map_append];rfl)
      | exact zh _ (zC _ Xm _)
      | exact zh _ (zC _ wW _)
      | exact zh _ (zC _ (λx=>by simp[ZB,ze,Pure]) _)
  ·have hk':k=st.zv.length:=by have:¬k<st.zv.length:=sO
                               omega
   subst hk'
   rw[List.drop_length] at hR
   simp only[Jp] at hR
   subst hR
   simp only at hT
   have hC:=Ja ⟨st.nodes,out⟩ ⟨by show st.nodes.length≤_;omega,by show out.length≤_;omega,λx hx=>by have:=hnm x hx;omega⟩
   refine sN hC ?_
   by_cases h0:(zb.mk st.nodes out).yJ=0
   ·rw[if_pos h0] at hT
    subst hT
    refine zjM (by simp[h0]) ?_
    refine sW ?_
    exact .yO _ _ (.cons _ _ _ _ (.agg _ _ (.cons _ _ _ _ (.own 2 _ _ _ 2 true _ _ rfl (zb8 zs)) (.cons _ _ _ _ (.own 4 _ _ _ 2 true _ _ rfl (zb8 zs)) .nil))) (.cons _ _ _ _ (.refl _) (.cons _ _ _ _ (.refl _) .nil)))
   ·rw[if_neg h0] at hT
    subst hT
    refine zms (by simpa using h0) ?_
    refine sW ?_
    exact sP
end
section
open Go.RowKit
theorem cat3 (a b:ByteArray) (c:UInt8):a++⟨#[32]⟩++⟨#[c]⟩++⟨#[32]⟩++b=a++⟨#[32,c,32]⟩++b:=by
 rw[ByteArray.append_assoc (a:=a),ByteArray.append_assoc (a:=a)]
 rfl
theorem zf3:∀{ts:List Tree} {t:Tree},t∈ts→t.size≤Tree.Zu ts
 | a::r,t,h=>by
  simp only[Tree.Zu]
  rcases List.mem_cons.1 h with rfl|h
  ·omega
  ·have:=zf3 h;omega
theorem ziF {t:Tree} {j:Nat} (hj:j<t.width):(t.yD j).size<t.size:=by
 have h:t.yD j∈t.kids:=by rw[Tree.uD hj];exact List.getElem_mem _
 have:=zf3 h
 cases t
 simp only[Tree.size,Tree.kids] at this ⊢
 omega
def wH (names:List ByteArray) (bad:Bool):List D:=[xZ names,.sc (.bool bad)]
theorem zR (names:List ByteArray) (bad:Bool):ze (wH names bad):=by simp[wH,ze,Pure,yL]
def c223:PC:=.seq (OP [Mv 6 cF]) (.seq (.seq (OP [qm 7 2]) (.block 0 (.seq (OP [Bi 9 .eql 7 (cI 5),qm 8 9]) (.cond 8 (.seq (OP [qm 10 0,Bi 11 .eql 10 (cI 6),qm 12 11,GF 13 12 (.move 0),GF 14 12 (.bin .eql 13 (cI 5)),GF 15 12 (.move 14),GT 16 15 (.move 1),GT 17 15 (.bin .eql 16 (cI 0)),GF 18 12 (.pick 15 17 cF),Pk 19 12 cT 18,qm 6 19]) .ret) (.seq (OP [Bi 21 .eql 7 (cI 6),qm 20 21]) (.cond 20 (.seq (OP [qm 22 0,Bi 23 .eql 22 (cI 6),qm 24 23,GT 25 24 (.move 1),GT 26 24 (.bin .eql 25 (cI 0)),Pk 27 24 26 cF,qm 6 27]) .ret) (.seq (.seq (OP [Bi 29 .eql 7 (cI 8),qm 28 29]) (.cond 28 .skip (OP [Bi 30 .eql 7 (cI 9),qm 28 30]))) (.cond 28 (.seq (OP [qm 31 0,qm 32 2,Bi 33 .eql 31 32,qm 34 33,GT 35 34 (.move 1),GT 36 34 (.bin .eql 35 (cI 1)),Pk 37 34 36 cF,qm 6 37]) .ret) .skip)))))))) (.seq (OP [Mv 6 cT]) .ret))
theorem zuJ:zy Tryz.prog 223 38 [.tmp 6] c223:=fK Tryz.func223
def c177:PC:=.seq (OP [Bx 4 1,Mv 6 (cS #[])]) (.seq (OP [qm 8 0,Fa 9 2 4,Lo 10 9,qm 11 2,Ia 12 3 10 11,LA 13 3 12,Ca 14 107 [8,13],qm 7 14]) (.seq (.seq (.ops [Fa 15 0 4,qd 16 (.zg 15) 1,qm 17 2,Fa 18 2 4,qd 19 (.zg 18) 8,qm 20 2,qd 21 (.zM 3 19 20) 56,qd 22 (.zz 0 21) 120,qd 23 (.zg 22) 248,qd 24 (.call 223 [16,17,23]) 511] true) (.cond 24 (.seq (OP [qm 25 7,qm 6 25]) .ret) .skip)) (.seq (OP [qm 26 7,Bi 27 .add (cS #[40]) 26,Bi 28 .add 27 (cS #[41]),qm 6 28]) .ret)))
theorem zvM:zy Tryz.prog 177 29 [.tmp 6] c177:=fK Tryz.func177
def c107:PC:=.seq (OP [Bx 3 1,Mv 4 (cS #[])]) (.seq (.seq (OP [Fa 7 0 3,Lo 8 7]) (.block 0 (.seq (OP [Bi 10 .eql 8 (cI 1),qm 9 10]) (.cond 9 (.seq (OP [Mv 4 (cS #[116,114,117,101])]) .ret) (.seq (OP [Bi 12 .eql 8 (cI 2),qm 11 12]) (.cond 11 (.seq (OP [Mv 4 (cS #[102,97,108,115,101])]) .ret) (.seq (OP [Bi 14 .eql 8 (cI 3),qm 13 14]) (.cond 13 (.seq (.ops [Fa 15 1 3,qd 16 (.zg 15) 1,qm 17 0,qd 18 (.zn 17) 4,qd 19 (.zz 0 18) 12,qd 20 (.zg 19) 28,qd 21 (.call 176 [16,20]) 63,qw 5 21 127] true) (.seq (OP [qm 22 0,qm 23 0,q 24 (.zn 23),Fa 25 1 24,Lo 26 25,qm 27 26,GF 28 27 (.move 5),GF 29 27 (.bin .eql 28 (cS #[])),Pk 30 27 cT 29,q 31 (.zn 22),Fa 32 1 31,So 1 32 30]) (.seq (OP [qm 33 5,qm 4 33]) .ret))) (.seq (OP [Bi 35 .eql 8 (cI 4),qm 34 35]) (.cond 34 (.seq (OP [qm 36 0,LA 37 3 3,Ca 38 177 [36,37,(cI 0)],Bi 39 .add (cS #[33]) 38,qm 4 39]) .ret) (.seq (OP [Bi 41 .eql 8 (cI 7),qm 40 41]) (.cond 40 (.seq (OP [qm 42 0,LA 43 3 3,Ca 44 177 [42,43,(cI 0)],Bi 45 .add (cS #[88,32]) 44,qm 4 45]) .ret) (.seq (OP [Bi 47 .eql 8 (cI 10),qm 46 47]) (.cond 46 (.seq (OP [qm 48 0,LA 49 3 3,Ca 50 177 [48,49,(cI 0)],Bi 51 .add (cS #[70,32]) 50,qm 4 51]) .ret) (.seq (OP [Bi 53 .eql 8 (cI 11),qm 52 53]) (.cond 52 (.seq (OP [qm 54 0,LA 55 3 3,Ca 56 177 [54,55,(cI 0)],Bi 57 .add (cS #[71,32]) 56,qm 4 57]) .ret) .skip)))))))))))))))) (.seq (OP [q 58 (.build [(.string ⟨#[]⟩),(.string ⟨#[]⟩),(.string ⟨#[]⟩),(.string ⟨#[]⟩),(.string ⟨#[]⟩),(.string ⟨#[]⟩),(.string ⟨#[]⟩),(.string ⟨#[]⟩),(.string ⟨#[]⟩),(.string ⟨#[]⟩)] [(5,1,(cS #[38])),(6,1,(cS #[47])),(8,1,(cS #[85])),(9,1,(cS #[82]))]),Fa 59 0 3,Lo 60 59,q 61 (.zoy 10 1 false 58 60),qm 6 61]) (.seq (.ops [qm 62 0,LA 63 3 3,qd 64 (.call 177 [62,63,(cI 0)]) 3,qd 65 (.bin .add 64 (cS #[32])) 7,qm 66 6,qd 67 (.bin .add 65 66) 31,qd 68 (.bin .add 67 (cS #[32])) 63,qm 69 0,LA 70 3 3,qd 71 (.call 177 [69,70,(cI 1)]) 391,qd 72 (.bin .add 68 71) 1023,qw 4 72 2047] true) .ret)))
theorem zue:zy Tryz.prog 107 73 [.tmp 4] c107:=fK Tryz.func107
theorem zqZ (k i c:Int):zq Tryz.prog 223 [.sc (.int .i64 k),.sc (.int .i64 i),.sc (.int .i64 c)] (.sc (.bool (zaq k i c))):=by
 refine za zuJ zs (by simp[ze,Pure]) ?_ (by simp[Pure])
 refine sR ?_
 repeat' (first
  | (first|(refine zms ‹_› ?_;((conv=>whnf);repeat(refine⟨rfl,?_⟩;conv=>whnf)))|(refine zjM ‹_› ?_;((conv=>whnf);repeat(refine⟨rfl,?_⟩;conv=>whnf)))|(refine zaQ (λh=>?_) (λh=>?_)<;>(rw[h];((conv=>whnf);repeat(refine⟨rfl,?_⟩;conv=>whnf)))))
  | exact yA (congrArg (λb=>D.sc (.bool b)) (by unfold zaq;simp_all)))
theorem zuL (names:List ByteArray) (t:Tree) (j:Nat) (hj:j<t.width) (hsz:(XG names (t.yD j)).size≤1000000) (bad bad':Bool)
  (hT:yu Tryz.prog 107 ([]++.loc 0 0::[zZ (t.yD j)]) [.row true (wH names bad)] (.sc (.string (XG names (t.yD j)))) [.row true (wH names bad')]) :
  yu Tryz.prog 177 ([]++.loc 0 0::[zZ t,.sc (.int .i64 j)]) [.row true (wH names bad)] (.sc (.string (ZS names t j))) [.row true (wH names bad')]:=by
 refine z1 zvM zs zs ?_ (by simp[zt]) (by simp[zf.under,zr _ (zR _ _)])
 refine sR ?_
 refine sL (y8 hj) ?_
 refine sA (wU hT (by simp[ze]) (by simp[ze,zm]) (zR _ _) (zR _ _) (by simp[Pure]) (H:=[.row true (wH names bad),.row true (yo t)]) (id:=0) rfl) ?_
 refine sL (y8 hj) ?_
 refine sC (zqZ t.kind j (t.yD j).kind) ?_
 refine sS (λh=>?_) λh=>?_
 ·exact⟨congrArg (λs=>D.sc (.string s)) (by simp[ZS,Yp,h]),rfl,zs⟩
 ·refine⟨by simp only[ByteArray.size_append,yR,List.size_toArray,List.length_cons,List.length_nil];omega,?_⟩
  refine sW ?_
  refine⟨by simp only[ByteArray.size_append,yR,List.size_toArray,List.length_cons,List.length_nil];omega,?_⟩
  refine sW ?_
  exact⟨congrArg (λs=>D.sc (.string s)) (by simp[ZS,Yp,h]),rfl,zs⟩
theorem zsG (names:List ByteArray) (hn:qN names):∀t:Tree,t.wf zP→t.size≤60→∀bad:Bool,
  yu Tryz.prog 107 ([]++.loc 0 0::[zZ t]) [.row true (wH names bad)] (.sc (.string (XG names t))) [.row true (wH names (bad||!qs names t))]:=by
 intro t
 induction t using Tree.ind with
 | h t ih =>
  intro hwf hsz bad
  have hs:=WU t hwf
  have har:=vZ ((xM _ _).1 hwf).1
  have hnum:0≤t.num:=by have:=((xM _ _).1 hwf).1;unfold yC at this;omega
  have tsz:∀j,j<t.width→(XG names (t.yD j)).size≤720∧(t.yD j).size≤60:=λj hj=>by
   have h1:=zpu names (t.yD j)
   have h2:=ziF hj
   omega
  have hkid:∀j,j<t.width→∀bad:Bool,yu Tryz.prog 177 ([]++.loc 0 0::[zZ t,.sc (.int .i64 j)]) [.row true (wH names bad)] (.sc (.string (ZS names t j))) [.row true (wH names (bad||!qs names (t.yD j)))] :=
   λj hj bad=>zuL names t j hj (by have:=tsz j hj;omega) bad _ (ih j hj (x9 hwf hj) (tsz j hj).2 bad)
  have ksz:∀j,j<t.width→(ZS names t j).size≤722:=λj hj=>by
   have:=Zl (zaq t.kind j (t.yD j).kind) (XG names (t.yD j))
   have:=tsz j hj
   unfold ZS
   omega
  clear ih
  refine z1 zue zs zs ?_ (by simp[zt]) (by simp[zf.under,zr _ (zR _ _)])
  refine sR ?_
  have fin:∀{s:ByteArray} {b:Bool} {r:List D},s=XG names t→b=(bad||!qs names t)→(D.sc (.string s)=.sc (.string (XG names t))∧List.take 1 [zf.row true [xZ names,.sc (.bool b)],.row true r]=[zf.row true (wH names (bad||!qs names t))]∧[zf.row true (wH names (bad||!qs names t))].length≤2):=λh1 h2=>by
   subst h1 h2;exact⟨rfl,rfl,zs⟩
  have zero:t.width=0→XG names t=QQ names t.kind t.num ⟨#[]⟩ ⟨#[]⟩∧qs names t=w8 names t.kind t.num:=λh=>⟨zxq names h,zww names h⟩
  refine sS (λh1=>?_) λh1=>?_
  ·have hk:t.kind=1:=sO
   have:=zero zo
   exact fin (by rw[this.1,hk];rfl) (by rw[this.2,hk];simp[w8])
  refine sS (λh2=>?_) λh2=>?_
  ·have hk:t.kind=2:=sO
   have:=zero zo
   exact fin (by rw[this.1,hk];rfl) (by rw[this.2,hk];simp[w8])
  refine sS (λh3=>?_) λh3=>?_
  ·have hk:t.kind=3:=sO
   have:=zero zo
   refine sC (zsy names hn t.num hnum) ?_
   cases bad
   ·refine sW ?_
    exact fin (by rw[this.1,hk];rfl) (by rw[this.2,hk];show ZR (nm names t.num) ⟨#[]⟩=_;simp only[w8];cases ZR (nm names t.num) ⟨#[]⟩<;>rfl)
   ·refine sW ?_
    exact fin (by rw[this.1,hk];rfl) zs
  clear zero
  have one:t.width=1→XG names t=QQ names t.kind t.num (ZS names t 0) ⟨#[]⟩∧qs names t=qs names (t.yD 0):=λh=>⟨zzb names h,zwv names h (sO)⟩
  refine sS (λh4=>?_) λh4=>?_
  ·have hk:t.kind=4:=sO
   have hw:t.width=1:=zo
   have:=one hw
   have:=ksz 0 zo
   refine sA (wU (hkid 0 zo bad) (by simp[ze]) (by simp[ze,zm,Pure]) (zR _ _) (zR _ _) (by simp[Pure]) (H:=[.row true (wH names bad),.row true (yo t)]) (id:=0) rfl) ?_
   refine⟨by simp only[ByteArray.size_append,yR,List.size_toArray,List.length_cons,List.length_nil];omega,?_⟩
   refine sW ?_
   exact fin (by rw[(one hw).1,hk];rfl) (by rw[(one hw).2])
  refine sS (λh5=>?_) λh5=>?_
  ·have hk:t.kind=7:=sO
   have hw:t.width=1:=zo
   have:=one hw
   have:=ksz 0 zo
   refine sA (wU (hkid 0 zo bad) (by simp[ze]) (by simp[ze,zm,Pure]) (zR _ _) (zR _ _) (by simp[Pure]) (H:=[.row true (wH names bad),.row true (yo t)]) (id:=0) rfl) ?_
   refine⟨by simp only[ByteArray.size_append,yR,List.size_toArray,List.length_cons,List.length_nil];omega,?_⟩
   refine sW ?_
   exact fin (by rw[(one hw).1,hk];rfl) (by rw[(one hw).2])
  refine sS (λh6=>?_) λh6=>?_
  ·have hk:t.kind=10:=sO
   have hw:t.width=1:=zo
   have:=one hw
   have:=ksz 0 zo
   refine sA (wU (hkid 0 zo bad) (by simp[ze]) (by simp[ze,zm,Pure]) (zR _ _) (zR _ _) (by simp[Pure]) (H:=[.row true (wH names bad),.row true (yo t)]) (id:=0) rfl) ?_
   refine⟨by simp only[ByteArray.size_append,yR,List.size_toArray,List.length_cons,List.length_nil];omega,?_⟩
   refine sW ?_
   exact fin (by rw[(one hw).1,hk];rfl) (by rw[(one hw).2])
  refine sS (λh7=>?_) λh7=>?_
  ·have hk:t.kind=11:=sO
   have hw:t.width=1:=zo
   have:=one hw
   have:=ksz 0 zo
   refine sA (wU (hkid 0 zo bad) (by simp[ze]) (by simp[ze,zm,Pure]) (zR _ _) (zR _ _) (by simp[Pure]) (H:=[.row true (wH names bad),.row true (yo t)]) (id:=0) rfl) ?_
   refine⟨by simp only[ByteArray.size_append,yR,List.size_toArray,List.length_cons,List.length_nil];omega,?_⟩
   refine sW ?_
   exact fin (by rw[(one hw).1,hk];rfl) (by rw[(one hw).2])
  clear one
  have hw:t.width=2:=sO
  have k0:=ksz 0 zo
  have k1:=ksz 1 zo
  have e1:=zyj names hw
  have e2:=zwx names hw (sO)
  have hk:t.kind=5∨t.kind=6∨t.kind=8∨t.kind=9:=sO
  refine⟨zo,zo,?_⟩
  have two:∀{c:UInt8} {r:List D},QQ names t.kind t.num (ZS names t 0) (ZS names t 1)=ZS names t 0++⟨#[32,c,32]⟩++ZS names t 1 →
    (D.sc (.string (ZS names t 0++⟨#[32]⟩++⟨#[c]⟩++⟨#[32]⟩++ZS names t 1))=.sc (.string (XG names t))∧List.take 1 [zf.row true [xZ names,.sc (.bool ((bad||!qs names (t.yD 0))||!qs names (t.yD 1)))],.row true r]=[zf.row true (wH names (bad||!qs names t))]∧[zf.row true (wH names (bad||!qs names t))].length≤2):=λh =>
   fin (by rw[cat3,e1,h]) (by rw[e2];cases bad<;>cases qs names (t.yD 0)<;>rfl)
  clear fin
  have A0:=wa (hkid 0 zo bad) (by simp[ze]) (by simp[ze,zm,Pure]) (zR _ _) (zR _ _) (by simp[Pure]) (H:=[.row true (wH names bad),.row true (yo t)]) (id:=0) rfl
  have A1:=wa (hkid 1 zo (bad||!qs names (t.yD 0))) (by simp[ze]) (by simp[ze,zm,Pure]) (zR _ _) (zR _ _) (by simp[Pure]) (H:=[.row true (wH names (bad||!qs names (t.yD 0))),.row true (yo t)]) (id:=0) rfl
  rcases hk with hk|hk|hk|hk
  all_goals
   refine⟨_,by rw[hk];rfl,?_⟩
   refine sW ?_
   refine sE A0 ?_
   refine⟨by simp only[ByteArray.size_append,yR,List.size_toArray,List.length_cons,List.length_nil];omega,?_⟩
   refine sW ?_
   refine⟨by simp only[ByteArray.size_append,yR,List.size_toArray,List.length_cons,List.length_nil];omega,?_⟩
   refine sW ?_
   refine⟨by simp only[ByteArray.size_append,yR,List.size_toArray,List.length_cons,List.length_nil];omega,?_⟩
   refine sW ?_
   refine sE A1 ?_
   refine⟨by simp only[ByteArray.size_append,yR,List.size_toArray,List.length_cons,List.length_nil];omega,?_⟩
   refine sW ?_
   exact two (by rw[hk];rfl)
def c47:PC:=.seq (OP [Bx 2 0,Mv 4 (cS #[]),Mv 5 (cI 0)]) (.seq (.seq (OP [LA 9 3 2,Ca 10 32 [9],qm 6 10]) (.seq (OP [qm 11 6,Bi 12 .neq 11 (cI 0)]) (.cond 12 (.seq (OP [qm 13 6,Mv 4 (cS #[]),qm 5 13]) .ret) .skip))) (.seq (OP [qm 14 1,q 15 (.build [(.slice none 0 0),(.bool false)] [(0,1,14)]),Bx 16 15,qm 7 16]) (.seq (OP [qm 17 7,LA 18 3 2,Ca 19 107 [17,18],qm 8 19]) (.seq (.seq (OP [qm 20 7,q 21 (.zn 20),Fa 22 1 21,Lo 23 22]) (.cond 23 (.seq (OP [Mv 4 (cS #[]),Mv 5 (cI 4)]) .ret) .skip)) (.seq (OP [qm 24 8,qm 4 24,Mv 5 (cI 0)]) .ret)))))
theorem zyN:zy Tryz.prog 47 25 [.tmp 4,.tmp 5] c47:=fK Tryz.func47
noncomputable def WY (names:List ByteArray) (t:Tree):D :=
 if yJ zP t=0 then (if qs names t then .yO [.sc (.string (XG names t)),.sc (.int .i64 0)] else .yO [.sc (.string ⟨#[]⟩),.sc (.int .i64 4)]) else .yO [.sc (.string ⟨#[]⟩),.sc (.int .i64 (yJ zP t))]
theorem zpy (names:List ByteArray) (hn:qN names) (t:Tree) (hs:Small t):zq Tryz.prog 47 [zZ t,xZ names] (WY names t):=by
 refine za zyN zs (by simp[ze,zm,yL]) ?_ (by unfold WY;(repeat' split)<;>simp[Pure,ze])
 refine sR ?_
 refine sC (Xk t hs) ?_
 refine sS (λh1=>?_) λh1=>?_
 ·have h:¬yJ zP t=0:=sO
  unfold WY
  rw[if_neg h]
  exact sP
 ·have h:yJ zP t=0:=sO
  have hz:=(qG _ _).1 h
  unfold WY
  rw[if_pos h]
  refine sA (wU (zsG names hn t hz.2.2 hz.1 false) (by simp[ze]) (by simp[ze,zm]) (zR _ _) (zR _ _) (by simp[Pure]) (H:=[.row true (yo t),.row true (wH names false)]) (id:=1) rfl) ?_
  cases hk:qs names t
  ·refine sW ?_
   exact sP
  ·refine sW ?_
   exact sP
end
section
open Go.RowKit
theorem znm {t:Tree} (h:¬yC xn t):(t.kind=1∨t.kind=2∨t.kind=3)∧t.width=0∨(t.kind=4∨t.kind=7∨t.kind=8∨t.kind=9∨t.kind=11∨t.kind=12∨t.kind=13)∧t.width=1∨(t.kind=5∨t.kind=6∨t.kind=10∨t.kind=14)∧t.width=2:=by
 unfold yC xn at h
 (repeat' split at h)<;>omega
theorem zpr:∀t:Tree,t.wf xn→Small t:=by
 intro t
 induction t using Tree.ind with
 | h t ih =>
  intro hw
  refine .mk t ?_ λj hj=>ih j hj (x9 hw hj)
  have:=znm ((xM _ _).1 hw).1
  omega
def c224:PC:=.seq (OP [Mv 6 cF]) (.seq (.seq (OP [qm 7 2]) (.block 0 (.seq (OP [Bi 9 .eql 7 (cI 5),qm 8 9]) (.cond 8 (.seq (OP [qm 10 0,Bi 11 .eql 10 (cI 6),qm 12 11,GF 13 12 (.move 0),GF 14 12 (.bin .eql 13 (cI 5)),GF 15 12 (.move 14),GT 16 15 (.move 1),GT 17 15 (.bin .eql 16 (cI 0)),GF 18 12 (.pick 15 17 cF),Pk 19 12 cT 18,qm 6 19]) .ret) (.seq (OP [Bi 21 .eql 7 (cI 6),qm 20 21]) (.cond 20 (.seq (OP [qm 22 0,Bi 23 .eql 22 (cI 6),qm 24 23,GT 25 24 (.move 1),GT 26 24 (.bin .eql 25 (cI 0)),Pk 27 24 26 cF,qm 6 27]) .ret) .skip)))))) (.seq (OP [Mv 6 cT]) .ret))
theorem zv8:zy Tryz.prog 224 28 [.tmp 6] c224:=fK Tryz.func224
def c178:PC:=.seq (OP [Mv 4 (cS #[])]) (.seq (.seq (OP [qm 5 1,Bi 6 .eql 5 (cI 63)]) (.cond 6 (.seq (OP [Mv 4 (cS #[115,105,108,101,110,116])]) .ret) .skip)) (.seq (.seq (.ops [qm 7 1,qm 8 0,qd 9 (.zn 8) 2,qd 10 (.zz 0 9) 6,qd 11 (.zg 10) 14,qd 12 (.len 11) 30,qd 13 (.bin .geq 7 12) 63,qw 14 13 127,⟨some 15,.move 0,some (14,false),255⟩,⟨some 16,.zn 15,some (14,false),511⟩,⟨some 17,.zz 0 16,some (14,false),1023⟩,⟨some 18,.zg 17,some (14,false),2047⟩,⟨some 19,.move 1,some (14,false),255⟩,⟨some 20,.zM 1 18 19,some (14,false),8191⟩,⟨some 21,.zg 20,some (14,false),16383⟩,⟨some 22,.call 25 [21],some (14,false),32767⟩,⟨some 23,.un .not 22,some (14,false),65535⟩,qd 24 (.pick 14 cT 23) 131071,qw 25 24 262143,⟨some 26,.move 0,some (25,false),524287⟩,⟨some 27,.zn 26,some (25,false),1048575⟩,⟨some 28,.zz 0 27,some (25,false),2097151⟩,⟨some 29,.zg 28,some (25,false),4194303⟩,⟨some 30,.move 0,some (25,false),524287⟩,⟨some 31,.zn 30,some (25,false),8912895⟩,⟨some 32,.zz 0 31,some (25,false),25690111⟩,⟨some 33,.zg 32,some (25,false),59244543⟩,⟨some 34,.move 1,some (25,false),524287⟩,⟨some 35,.zM 1 33 34,some (25,false),260571135⟩,⟨some 36,.zg 35,some (25,false),529006591⟩,⟨some 37,.call 110 [29,36],some (25,false),1073741823⟩,⟨some 38,.move 1,some (25,false),524287⟩,⟨some 39,.bin .neq 37 38,some (25,false),4294967295⟩,qd 40 (.pick 25 cT 39) 8589934591] true) (.cond 40 (.seq (OP [qm 41 0,q 42 (.zn 41),Fa 43 1 42,So 1 43 cT]) (.seq (OP [Mv 4 (cS #[])]) .ret)) .skip)) (.seq (OP [qm 44 0,q 45 (.zn 44),Fa 46 0 45,Lo 47 46,qm 48 1,Ia 49 1 47 48,Lo 50 49,qm 4 50]) .ret)))
theorem zuo:zy Tryz.prog 178 51 [.tmp 4] c178:=fK Tryz.func178
def c179:PC:=.seq (OP [Bx 4 1,Mv 6 (cS #[])]) (.seq (OP [qm 8 0,Fa 9 2 4,Lo 10 9,qm 11 2,Ia 12 3 10 11,LA 13 3 12,Ca 14 108 [8,13],qm 7 14]) (.seq (.seq (.ops [Fa 15 0 4,qd 16 (.zg 15) 1,qm 17 2,Fa 18 2 4,qd 19 (.zg 18) 8,qm 20 2,qd 21 (.zM 3 19 20) 56,qd 22 (.zz 0 21) 120,qd 23 (.zg 22) 248,qd 24 (.call 224 [16,17,23]) 511] true) (.cond 24 (.seq (OP [qm 25 7,qm 6 25]) .ret) .skip)) (.seq (OP [qm 26 7,Bi 27 .add (cS #[40]) 26,Bi 28 .add 27 (cS #[41]),qm 6 28]) .ret)))
theorem ztO:zy Tryz.prog 179 29 [.tmp 6] c179:=fK Tryz.func179
def c108:PC:=.seq (OP [Bx 3 1,Mv 4 (cS #[])]) (.seq (.seq (OP [Fa 5 0 3,Lo 6 5]) (.block 0 (.seq (OP [Bi 8 .eql 6 (cI 1),qm 7 8]) (.cond 7 (.seq (OP [Mv 4 (cS #[116,114,117,101])]) .ret) (.seq (OP [Bi 10 .eql 6 (cI 2),qm 9 10]) (.cond 9 (.seq (OP [Mv 4 (cS #[102,97,108,115,101])]) .ret) (.seq (OP [Bi 12 .eql 6 (cI 3),qm 11 12]) (.cond 11 (.seq (OP [qm 13 0,Fa 14 1 3,Lo 15 14,Ca 16 178 [13,15],qm 4 16]) .ret) (.seq (OP [Bi 18 .eql 6 (cI 5),qm 17 18]) (.cond 17 (.seq (.ops [qm 19 0,LA 20 3 3,qd 21 (.call 179 [19,20,(cI 0)]) 3,qd 22 (.bin .add 21 (cS #[32,38,32])) 7,qm 23 0,LA 24 3 3,qd 25 (.call 179 [23,24,(cI 1)]) 55,qd 26 (.bin .add 22 25) 127,qw 4 26 255] true) .ret) (.seq (OP [Bi 28 .eql 6 (cI 6),qm 27 28]) (.cond 27 (.seq (.ops [qm 29 0,LA 30 3 3,qd 31 (.call 179 [29,30,(cI 0)]) 3,qd 32 (.bin .add 31 (cS #[32,47,32])) 7,qm 33 0,LA 34 3 3,qd 35 (.call 179 [33,34,(cI 1)]) 55,qd 36 (.bin .add 32 35) 127,qw 4 36 255] true) .ret) (.seq (OP [Bi 38 .eql 6 (cI 10),qm 37 38]) (.cond 37 (.seq (.ops [qm 39 0,Fa 40 2 3,qd 41 (.zg 40) 2,qd 42 (.zM 3 41 (cI 0)) 6,qd 43 (.vw 3 42) 14,qd 44 (.call 108 [39,43]) 31,qd 45 (.bin .add (cS #[69,32,91]) 44) 63,qd 46 (.bin .add 45 (cS #[32,85,32])) 127,qm 47 0,Fa 48 2 3,qd 49 (.zg 48) 512,qd 50 (.zM 3 49 (cI 1)) 1536,qd 51 (.vw 3 50) 3584,qd 52 (.call 108 [47,51]) 7999,qd 53 (.bin .add 46 52) 16383,qd 54 (.bin .add 53 (cS #[93])) 32767,qw 4 54 65535] true) .ret) (.seq (OP [Bi 56 .eql 6 (cI 14),qm 55 56]) (.cond 55 (.seq (.ops [qm 57 0,Fa 58 2 3,qd 59 (.zg 58) 2,qd 60 (.zM 3 59 (cI 0)) 6,qd 61 (.vw 3 60) 14,qd 62 (.call 108 [57,61]) 31,qd 63 (.bin .add (cS #[65,32,91]) 62) 63,qd 64 (.bin .add 63 (cS #[32,85,32])) 127,qm 65 0,Fa 66 2 3,qd 67 (.zg 66) 512,qd 68 (.zM 3 67 (cI 1)) 1536,qd 69 (.vw 3 68) 3584,qd 70 (.call 108 [65,69]) 7999,qd 71 (.bin .add 64 70) 16383,qd 72 (.bin .add 71 (cS #[93])) 32767,qw 4 72 65535] true) .ret) .skip)))))))))))))))) (.seq (.ops [Fa 73 0 3,qd 74 (.zg 73) 1,qd 75 (.call 180 [74]) 3,qm 76 0,LA 77 3 3,qd 78 (.call 179 [76,77,(cI 0)]) 31,qd 79 (.bin .add 75 78) 63,qw 4 79 127] true) .ret))
theorem zuz:zy Tryz.prog 108 80 [.tmp 4] c108:=fK Tryz.func108
def c180:PC:=.seq (OP [Mv 2 (cS #[])]) (.seq (OP [q 3 (.build [(.string ⟨#[]⟩),(.string ⟨#[]⟩),(.string ⟨#[]⟩),(.string ⟨#[]⟩),(.string ⟨#[]⟩),(.string ⟨#[]⟩),(.string ⟨#[]⟩),(.string ⟨#[]⟩),(.string ⟨#[]⟩),(.string ⟨#[]⟩),(.string ⟨#[]⟩),(.string ⟨#[]⟩),(.string ⟨#[]⟩),(.string ⟨#[]⟩)] [(4,1,(cS #[33])),(7,1,(cS #[69,88,32])),(8,1,(cS #[69,70,32])),(9,1,(cS #[69,71,32])),(11,1,(cS #[65,88,32])),(12,1,(cS #[65,70,32])),(13,1,(cS #[65,71,32]))]),qm 4 0,q 5 (.zoy 14 1 false 3 4),qm 2 5]) .ret)
theorem VR:zy Tryz.prog 180 6 [.tmp 2] c180:=fK Tryz.func180
theorem zqL (k i c:Int):zq Tryz.prog 224 [.sc (.int .i64 k),.sc (.int .i64 i),.sc (.int .i64 c)] (.sc (.bool (zib k i c))):=by
 refine za zv8 zs (by simp[ze,Pure]) ?_ (by simp[Pure])
 refine sR ?_
 repeat' (first
  | (first|(refine zms ‹_› ?_;((conv=>whnf);repeat(refine⟨rfl,?_⟩;conv=>whnf)))|(refine zjM ‹_› ?_;((conv=>whnf);repeat(refine⟨rfl,?_⟩;conv=>whnf)))|(refine zaQ (λh=>?_) (λh=>?_)<;>(rw[h];((conv=>whnf);repeat(refine⟨rfl,?_⟩;conv=>whnf)))))
  | exact yA (congrArg (λb=>D.sc (.bool b)) (by unfold zib;simp_all)))
theorem zpl:zq Tryz.prog 180 [.sc (.int .i64 4)] (.sc (.string ⟨#[33]⟩)):=by
 refine za VR zs (by simp[ze,Pure]) ?_ (by simp[Pure])
 refine sR ?_
 refine⟨zo,zo,_,rfl,?_⟩
 refine sW ?_
 exact sP
theorem zps:zq Tryz.prog 180 [.sc (.int .i64 7)] (.sc (.string ⟨#[69,88,32]⟩)):=by
 refine za VR zs (by simp[ze,Pure]) ?_ (by simp[Pure])
 refine sR ?_
 refine⟨zo,zo,_,rfl,?_⟩
 refine sW ?_
 exact sP
theorem znN:zq Tryz.prog 180 [.sc (.int .i64 8)] (.sc (.string ⟨#[69,70,32]⟩)):=by
 refine za VR zs (by simp[ze,Pure]) ?_ (by simp[Pure])
 refine sR ?_
 refine⟨zo,zo,_,rfl,?_⟩
 refine sW ?_
 exact sP
theorem zpt:zq Tryz.prog 180 [.sc (.int .i64 9)] (.sc (.string ⟨#[69,71,32]⟩)):=by
 refine za VR zs (by simp[ze,Pure]) ?_ (by simp[Pure])
 refine sR ?_
 refine⟨zo,zo,_,rfl,?_⟩
 refine sW ?_
 exact sP
theorem zl8:zq Tryz.prog 180 [.sc (.int .i64 11)] (.sc (.string ⟨#[65,88,32]⟩)):=by
 refine za VR zs (by simp[ze,Pure]) ?_ (by simp[Pure])
 refine sR ?_
 refine⟨zo,zo,_,rfl,?_⟩
 refine sW ?_
 exact sP
theorem zlm:zq Tryz.prog 180 [.sc (.int .i64 12)] (.sc (.string ⟨#[65,70,32]⟩)):=by
 refine za VR zs (by simp[ze,Pure]) ?_ (by simp[Pure])
 refine sR ?_
 refine⟨zo,zo,_,rfl,?_⟩
 refine sW ?_
 exact sP
theorem zln:zq Tryz.prog 180 [.sc (.int .i64 13)] (.sc (.string ⟨#[65,71,32]⟩)):=by
 refine za VR zs (by simp[ze,Pure]) ?_ (by simp[Pure])
 refine sR ?_
 refine⟨zo,zo,_,rfl,?_⟩
 refine sW ?_
 exact sP
theorem zqm (names:List ByteArray) (hs:qN names) (n:Int) (hn:0≤n) (bad:Bool) :
  yu Tryz.prog 178 ([]++.loc 0 0::[.sc (.int .i64 n)]) [.row true (wH names bad)] (.sc (.string (nm names n))) [.row true (wH names (bad||ZR (nm names n) ⟨#[]⟩))]:=by
 refine z1 zuo zs zs ?_ (by simp[zt]) (by simp[zf.under,zr _ (zR _ _)])
 unfold wH xZ
 refine sR ?_
 have vN:∀{s:ByteArray},s=nm names n→ZR s ⟨#[]⟩=false→(D.sc (.string s)=.sc (.string (nm names n))∧List.take 1 [zf.row true [.xj 1 (names.map λs=>[.sc (.string s)]),.sc (.bool bad)]]=[zf.row true [.xj 1 (names.map λs=>[.sc (.string s)]),.sc (.bool (bad||ZR (nm names n) ⟨#[]⟩))]]∧1≤1):=λh h'=>by
  subst h;rw[h'];simp
 have none_:nm names n=⟨#[]⟩→(D.sc (.string ⟨#[]⟩)=.sc (.string (nm names n))∧List.take 1 [zf.row true [.xj 1 (names.map λs=>[.sc (.string s)]),.sc (.bool true)]]=[zf.row true [.xj 1 (names.map λs=>[.sc (.string s)]),.sc (.bool (bad||ZR (nm names n) ⟨#[]⟩))]]∧1≤1):=λh=>by
  rw[h];simp
 refine sS (λh1=>?_) λh1=>?_
 ·exact vN (by simp only[beq_iff_eq] at h1;simp[nm,h1,Xb]) (by rw[←Bool.not_eq_true,zbe];decide)
 have h1:n≠63:=sO
 rw[List.length_map]
 refine sS (λh2=>?_) λh2=>?_
 ·exact none_ (by have:(names.length:Int)≤n:=sO
                  simp[nm,h1,this])
 have h2:¬(names.length:Int)≤n:=sO
 have hk:n.toNat<names.length:=zo
 refine⟨hn,_,Wv hk,?_⟩
 refine sW ?_
 refine sC (u4 _ (hs.at hk)) ?_
 refine sS (λh3=>?_) λh3=>?_
 ·exact none_ (by have:xb (names.getD n.toNat ⟨#[]⟩)=false:=by simpa using h3
                  unfold nm;rw[if_neg h1,if_neg h2,if_pos this])
 have h3:¬xb (names.getD n.toNat ⟨#[]⟩)=false:=by simpa using h3
 refine⟨hn,_,Wv hk,?_⟩
 refine sW ?_
 refine sC (zba names _ hs.1) ?_
 have hd:=zhm hk
 rw[show(n.toNat:Int)=n by omega] at hd
 refine sS (λh4=>?_) λh4=>?_
 ·exact none_ (by have:zaw names n.toNat (names.getD n.toNat ⟨#[]⟩)=true:=hd.1 (by simpa using h4)
                  unfold nm;rw[if_neg h1,if_neg h2,if_neg h3,if_pos this])
 ·refine⟨hn,_,Wv hk,?_⟩
  refine sW ?_
  exact vN (by have:¬zaw names n.toNat (names.getD n.toNat ⟨#[]⟩)=true:=λh=>hd.2 h (by simpa using h4)
               unfold nm;rw[if_neg h1,if_neg h2,if_neg h3,if_neg this]) (by
               have:xb (names.getD n.toNat ⟨#[]⟩)=true:=by simpa using h3
               unfold xb at this
               simp only[Bool.and_eq_true,Bool.not_eq_true'] at this
               exact this.1.1.1.1.1)
theorem zuO (names:List ByteArray) (t:Tree) (j:Nat) (hj:j<t.width) (hsz:(ZL names (t.yD j)).size≤1000000) (bad bad':Bool)
  (hT:yu Tryz.prog 108 ([]++.loc 0 0::[zZ (t.yD j)]) [.row true (wH names bad)] (.sc (.string (ZL names (t.yD j)))) [.row true (wH names bad')]) :
  yu Tryz.prog 179 ([]++.loc 0 0::[zZ t,.sc (.int .i64 j)]) [.row true (wH names bad)] (.sc (.string (Yp (zib t.kind j (t.yD j).kind) (ZL names (t.yD j))))) [.row true (wH names bad')]:=by
 refine z1 ztO zs zs ?_ (by simp[zt]) (by simp[zf.under,zr _ (zR _ _)])
 refine sR ?_
 refine sL (y8 hj) ?_
 refine sA (wU hT (by simp[ze]) (by simp[ze,zm]) (zR _ _) (zR _ _) (by simp[Pure]) (H:=[.row true (wH names bad),.row true (yo t)]) (id:=0) rfl) ?_
 refine sL (y8 hj) ?_
 refine sC (zqL t.kind j (t.yD j).kind) ?_
 refine sS (λh=>?_) λh=>?_
 ·first|exact⟨congrArg (λs=>D.sc (.string s)) (by simp[Yp,h]),rfl,zs⟩|simp
 ·refine⟨by simp only[ByteArray.size_append,yR,List.size_toArray,List.length_cons,List.length_nil];omega,?_⟩
  refine sW ?_
  refine⟨by simp only[ByteArray.size_append,yR,List.size_toArray,List.length_cons,List.length_nil];omega,?_⟩
  refine sW ?_
  first|exact⟨congrArg (λs=>D.sc (.string s)) (by simp[Yp,h]),rfl,zs⟩|simp
theorem zrX (names:List ByteArray) (hn:qN names):∀t:Tree,t.wf xn→t.size≤60→∀bad:Bool,
  yu Tryz.prog 108 ([]++.loc 0 0::[zZ t]) [.row true (wH names bad)] (.sc (.string (ZL names t))) [.row true (wH names (bad||!qs names t))]:=by
 intro t
 induction t using Tree.ind with
 | h t ih =>
  intro hwf hsz bad
  have hs:=zpr t hwf
  have har:=znm ((xM _ _).1 hwf).1
  have hnum:0≤t.num:=by have:=((xM _ _).1 hwf).1;unfold yC at this;omega
  have tsz:∀j,j<t.width→(ZL names (t.yD j)).size≤720∧(t.yD j).size≤60:=λj hj=>by
   have h1:=zoi names (t.yD j)
   have h2:=ziF hj
   omega
  have htxt:∀j,j<t.width→∀bad:Bool,yu Tryz.prog 108 ([]++.loc 0 0::[zZ (t.yD j)]) [.row true (wH names bad)] (.sc (.string (ZL names (t.yD j)))) [.row true (wH names (bad||!qs names (t.yD j)))] :=
   λj hj bad=>ih j hj (x9 hwf hj) (tsz j hj).2 bad
  have hkid:∀j,j<t.width→¬(t.kind=10∨t.kind=14)→∀bad:Bool,yu Tryz.prog 179 ([]++.loc 0 0::[zZ t,.sc (.int .i64 j)]) [.row true (wH names bad)] (.sc (.string (ZD names t j))) [.row true (wH names (bad||!qs names (t.yD j)))] :=
   λj hj hno bad=>by
    have:=zuO names t j hj (by have:=tsz j hj;omega) bad _ (htxt j hj bad)
    unfold ZD V0
    rw[if_neg hno]
    exact this
  have ksz:∀j,j<t.width→(ZD names t j).size≤722:=λj hj=>by
   have:=Zl (V0 t.kind j (t.yD j).kind) (ZL names (t.yD j))
   have:=tsz j hj
   unfold ZD
   omega
  clear ih
  refine z1 zuz zs zs ?_ (by simp[zt]) (by simp[zf.under,zr _ (zR _ _)])
  refine sR ?_
  have fin:∀{s:ByteArray} {b:Bool} {r:List D},s=ZL names t→b=(bad||!qs names t)→(D.sc (.string s)=.sc (.string (ZL names t))∧List.take 1 [zf.row true [xZ names,.sc (.bool b)],.row true r]=[zf.row true (wH names (bad||!qs names t))]∧[zf.row true (wH names (bad||!qs names t))].length≤2):=λh1 h2=>by
   subst h1 h2;exact⟨rfl,rfl,zs⟩
  have zero:t.width=0→ZL names t=JG names t.kind t.num ⟨#[]⟩ ⟨#[]⟩∧qs names t=w8 names t.kind t.num:=λh=>⟨zzm names h,zww names h⟩
  refine sS (λh1=>?_) λh1=>?_
  ·have hk:t.kind=1:=sO
   have:=zero zo
   exact fin (by rw[this.1,hk];rfl) (by rw[this.2,hk];simp[w8])
  refine sS (λh2=>?_) λh2=>?_
  ·have hk:t.kind=2:=sO
   have:=zero zo
   exact fin (by rw[this.1,hk];rfl) (by rw[this.2,hk];simp[w8])
  refine sS (λh3=>?_) λh3=>?_
  ·have hk:t.kind=3:=sO
   have:=zero zo
   refine sA (wU (zqm names hn t.num hnum bad) (by simp[ze]) (by simp[ze,Pure]) (zR _ _) (zR _ _) (by simp[Pure]) (H:=[.row true (wH names bad),.row true (yo t)]) (id:=0) rfl) ?_
   exact fin (by rw[this.1,hk];rfl) (by rw[this.2,hk];simp only[w8];cases ZR (nm names t.num) ⟨#[]⟩<;>cases bad<;>rfl)
  clear zero
  have two:t.width=2→ZL names t=JG names t.kind t.num (ZD names t 0) (ZD names t 1)∧(bad||!qs names t)=((bad||!qs names (t.yD 0))||!qs names (t.yD 1)):=λh=>⟨zwX names h,by
   rw[zwx names h (sO)];cases bad<;>cases qs names (t.yD 0)<;>rfl⟩
  refine sS (λh4=>?_) λh4=>?_
  ·have hk:t.kind=5:=sO
   have hw:t.width=2:=zo
   have k0:=ksz 0 zo
   have k1:=ksz 1 zo
   refine sE (wa (hkid 0 zo zo bad) (by simp[ze]) (by simp[ze,zm,Pure]) (zR _ _) (zR _ _) (by simp[Pure]) (H:=[.row true (wH names bad),.row true (yo t)]) (id:=0) rfl) ?_
   refine⟨by simp only[ByteArray.size_append,yR,List.size_toArray,List.length_cons,List.length_nil];omega,?_⟩
   refine sW ?_
   refine sE (wa (hkid 1 zo zo (bad||!qs names (t.yD 0))) (by simp[ze]) (by simp[ze,zm,Pure]) (zR _ _) (zR _ _) (by simp[Pure]) (H:=[.row true (wH names (bad||!qs names (t.yD 0))),.row true (yo t)]) (id:=0) rfl) ?_
   refine⟨by simp only[ByteArray.size_append,yR,List.size_toArray,List.length_cons,List.length_nil];omega,?_⟩
   refine sW ?_
   exact fin (by rw[(two hw).1,hk];rfl) (two hw).2.symm
  refine sS (λh5=>?_) λh5=>?_
  ·have hk:t.kind=6:=sO
   have hw:t.width=2:=zo
   have k0:=ksz 0 zo
   have k1:=ksz 1 zo
   refine sE (wa (hkid 0 zo zo bad) (by simp[ze]) (by simp[ze,zm,Pure]) (zR _ _) (zR _ _) (by simp[Pure]) (H:=[.row true (wH names bad),.row true (yo t)]) (id:=0) rfl) ?_
   refine⟨by simp only[ByteArray.size_append,yR,List.size_toArray,List.length_cons,List.length_nil];omega,?_⟩
   refine sW ?_
   refine sE (wa (hkid 1 zo zo (bad||!qs names (t.yD 0))) (by simp[ze]) (by simp[ze,zm,Pure]) (zR _ _) (zR _ _) (by simp[Pure]) (H:=[.row true (wH names (bad||!qs names (t.yD 0))),.row true (yo t)]) (id:=0) rfl) ?_
   refine⟨by simp only[ByteArray.size_append,yR,List.size_toArray,List.length_cons,List.length_nil];omega,?_⟩
   refine sW ?_
   exact fin (by rw[(two hw).1,hk];rfl) (two hw).2.symm
  refine sS (λh6=>?_) λh6=>?_
  ·have hk:t.kind=10:=sO
   have hw:t.width=2:=zo
   have t0:=tsz 0 zo
   have t1:=tsz 1 zo
   have e0:ZD names t 0=ZL names (t.yD 0):=by simp[ZD,V0,hk,Yp]
   have e1:ZD names t 1=ZL names (t.yD 1):=by simp[ZD,V0,hk,Yp]
   refine sL (y8 (t:=t) (j:=0) zo) ?_
   refine sE (wa (htxt 0 zo bad) (by simp[ze]) (by simp[ze,zm,Pure]) (zR _ _) (zR _ _) (by simp[Pure]) (H:=[.row true (wH names bad),.row true (yo t)]) (id:=0) rfl) ?_
   refine⟨by simp only[ByteArray.size_append,yR,List.size_toArray,List.length_cons,List.length_nil];omega,?_⟩
   refine sW ?_
   refine⟨by simp only[ByteArray.size_append,yR,List.size_toArray,List.length_cons,List.length_nil];omega,?_⟩
   refine sW ?_
   refine sL (y8 (t:=t) (j:=1) zo) ?_
   refine sE (wa (htxt 1 zo (bad||!qs names (t.yD 0))) (by simp[ze]) (by simp[ze,zm,Pure]) (zR _ _) (zR _ _) (by simp[Pure]) (H:=[.row true (wH names (bad||!qs names (t.yD 0))),.row true (yo t)]) (id:=0) rfl) ?_
   refine⟨by simp only[ByteArray.size_append,yR,List.size_toArray,List.length_cons,List.length_nil];omega,?_⟩
   refine sW ?_
   refine⟨by simp only[ByteArray.size_append,yR,List.size_toArray,List.length_cons,List.length_nil];omega,?_⟩
   refine sW ?_
   exact fin (by rw[(two hw).1,hk,e0,e1];rfl) (two hw).2.symm
  refine sS (λh7=>?_) λh7=>?_
  ·have hk:t.kind=14:=sO
   have hw:t.width=2:=zo
   have t0:=tsz 0 zo
   have t1:=tsz 1 zo
   have e0:ZD names t 0=ZL names (t.yD 0):=by simp[ZD,V0,hk,Yp]
   have e1:ZD names t 1=ZL names (t.yD 1):=by simp[ZD,V0,hk,Yp]
   refine sL (y8 (t:=t) (j:=0) zo) ?_
   refine sE (wa (htxt 0 zo bad) (by simp[ze]) (by simp[ze,zm,Pure]) (zR _ _) (zR _ _) (by simp[Pure]) (H:=[.row true (wH names bad),.row true (yo t)]) (id:=0) rfl) ?_
   refine⟨by simp only[ByteArray.size_append,yR,List.size_toArray,List.length_cons,List.length_nil];omega,?_⟩
   refine sW ?_
   refine⟨by simp only[ByteArray.size_append,yR,List.size_toArray,List.length_cons,List.length_nil];omega,?_⟩
   refine sW ?_
   refine sL (y8 (t:=t) (j:=1) zo) ?_
   refine sE (wa (htxt 1 zo (bad||!qs names (t.yD 0))) (by simp[ze]) (by simp[ze,zm,Pure]) (zR _ _) (zR _ _) (by simp[Pure]) (H:=[.row true (wH names (bad||!qs names (t.yD 0))),.row true (yo t)]) (id:=0) rfl) ?_
   refine⟨by simp only[ByteArray.size_append,yR,List.size_toArray,List.length_cons,List.length_nil];omega,?_⟩
   refine sW ?_
   refine⟨by simp only[ByteArray.size_append,yR,List.size_toArray,List.length_cons,List.length_nil];omega,?_⟩
   refine sW ?_
   exact fin (by rw[(two hw).1,hk,e0,e1];rfl) (two hw).2.symm
  have hw:t.width=1:=sO
  have k0:=ksz 0 zo
  have e1:=zxf names hw
  have e2:=zwv names hw (sO)
  have hk:t.kind=4∨t.kind=7∨t.kind=8∨t.kind=9∨t.kind=11∨t.kind=12∨t.kind=13:=sO
  have A0:=wa (hkid 0 zo zo bad) (by simp[ze]) (by simp[ze,zm,Pure]) (zR _ _) (zR _ _) (by simp[Pure]) (H:=[.row true (wH names bad),.row true (yo t)]) (id:=0) rfl
  rcases hk with hk|hk|hk|hk|hk|hk|hk
  ·refine sC (by rw[hk];exact zpl) ?_
   refine sE A0 ?_
   refine⟨by simp only[ByteArray.size_append,yR,List.size_toArray,List.length_cons,List.length_nil];omega,?_⟩
   refine sW ?_
   exact fin (by rw[e1,hk];rfl) (by rw[e2])
  ·refine sC (by rw[hk];exact zps) ?_
   refine sE A0 ?_
   refine⟨by simp only[ByteArray.size_append,yR,List.size_toArray,List.length_cons,List.length_nil];omega,?_⟩
   refine sW ?_
   exact fin (by rw[e1,hk];rfl) (by rw[e2])
  ·refine sC (by rw[hk];exact znN) ?_
   refine sE A0 ?_
   refine⟨by simp only[ByteArray.size_append,yR,List.size_toArray,List.length_cons,List.length_nil];omega,?_⟩
   refine sW ?_
   exact fin (by rw[e1,hk];rfl) (by rw[e2])
  ·refine sC (by rw[hk];exact zpt) ?_
   refine sE A0 ?_
   refine⟨by simp only[ByteArray.size_append,yR,List.size_toArray,List.length_cons,List.length_nil];omega,?_⟩
   refine sW ?_
   exact fin (by rw[e1,hk];rfl) (by rw[e2])
  ·refine sC (by rw[hk];exact zl8) ?_
   refine sE A0 ?_
   refine⟨by simp only[ByteArray.size_append,yR,List.size_toArray,List.length_cons,List.length_nil];omega,?_⟩
   refine sW ?_
   exact fin (by rw[e1,hk];rfl) (by rw[e2])
  ·refine sC (by rw[hk];exact zlm) ?_
   refine sE A0 ?_
   refine⟨by simp only[ByteArray.size_append,yR,List.size_toArray,List.length_cons,List.length_nil];omega,?_⟩
   refine sW ?_
   exact fin (by rw[e1,hk];rfl) (by rw[e2])
  ·refine sC (by rw[hk];exact zln) ?_
   refine sE A0 ?_
   refine⟨by simp only[ByteArray.size_append,yR,List.size_toArray,List.length_cons,List.length_nil];omega,?_⟩
   refine sW ?_
   exact fin (by rw[e1,hk];rfl) (by rw[e2])
def c48:PC:=.seq (OP [Bx 2 0,Mv 4 (cS #[]),Mv 5 (cI 0)]) (.seq (.seq (OP [LA 9 3 2,Ca 10 52 [9],qm 6 10]) (.seq (OP [qm 11 6,Bi 12 .neq 11 (cI 0)]) (.cond 12 (.seq (OP [qm 13 6,Mv 4 (cS #[]),qm 5 13]) .ret) .skip))) (.seq (OP [qm 14 1,q 15 (.build [(.slice none 0 0),(.bool false)] [(0,1,14)]),Bx 16 15,qm 7 16]) (.seq (OP [qm 17 7,LA 18 3 2,Ca 19 108 [17,18],qm 8 19]) (.seq (.seq (OP [qm 20 7,q 21 (.zn 20),Fa 22 1 21,Lo 23 22]) (.cond 23 (.seq (OP [Mv 4 (cS #[]),Mv 5 (cI 4)]) .ret) .skip)) (.seq (OP [qm 24 8,qm 4 24,Mv 5 (cI 0)]) .ret)))))
theorem zxB:zy Tryz.prog 48 25 [.tmp 4,.tmp 5] c48:=fK Tryz.func48
noncomputable def WL (names:List ByteArray) (t:Tree):D :=
 if yJ xn t=0 then (if qs names t then .yO [.sc (.string (ZL names t)),.sc (.int .i64 0)] else .yO [.sc (.string ⟨#[]⟩),.sc (.int .i64 4)]) else .yO [.sc (.string ⟨#[]⟩),.sc (.int .i64 (yJ xn t))]
theorem zo2 (names:List ByteArray) (hn:qN names) (t:Tree) (hs:Small t):zq Tryz.prog 48 [zZ t,xZ names] (WL names t):=by
 refine za zxB zs (by simp[ze,zm,yL]) ?_ (by unfold WL;(repeat' split)<;>simp[Pure,ze])
 refine sR ?_
 refine sC (zg1 t hs) ?_
 refine sS (λh1=>?_) λh1=>?_
 ·have h:¬yJ xn t=0:=sO
  unfold WL
  rw[if_neg h]
  exact sP
 ·have h:yJ xn t=0:=sO
  have hz:=(qG _ _).1 h
  unfold WL
  rw[if_pos h]
  refine sA (wU (zrX names hn t hz.2.2 hz.1 false) (by simp[ze]) (by simp[ze,zm]) (zR _ _) (zR _ _) (by simp[Pure]) (H:=[.row true (yo t),.row true (wH names false)]) (id:=1) rfl) ?_
  cases hk:qs names t
  ·refine sW ?_
   exact sP
  ·refine sW ?_
   exact sP
end
section
open Go.RowKit
def c51:PC:=.seq (OP [Mv 6 (cS #[])]) (.seq (.seq (OP [qm 7 0,Bi 8 .eql 7 (cI 63),qm 9 8,GT 10 9 (.move 2),Pk 11 9 10 cF]) (.cond 11 (.seq (OP [Mv 6 (cS #[115,105,108,101,110,116])]) .ret) .skip)) (.seq (.seq (OP [qm 12 0,Bi 13 .lss 12 (cI 0),qm 14 13,GF 15 14 (.move 0),GF 16 14 (.move 1),GF 17 14 (.len 16),GF 18 14 (.bin .geq 15 17),Pk 19 14 cT 18,qm 20 19,GF 21 20 (.move 0),GF 22 20 (.bin .geq 21 (cI 63)),Pk 23 20 cT 22,qm 24 23,GF 25 24 (.move 1),GF 26 24 (.move 0),GF 27 24 (.zM 1 25 26),GF 28 24 (.zg 27),GF 29 24 (.call 25 [28]),GF 30 24 (.un .not 29),Pk 31 24 cT 30,qm 32 31,GF 33 32 (.move 1),GF 34 32 (.move 1),GF 35 32 (.move 0),GF 36 32 (.zM 1 34 35),GF 37 32 (.zg 36),GF 38 32 (.call 110 [33,37]),GF 39 32 (.move 0),GF 40 32 (.bin .neq 38 39),Pk 41 32 cT 40]) (.cond 41 (.seq (OP [Mv 6 (cS #[])]) .ret) .skip)) (.seq (OP [qm 42 1,qm 43 0,Ia 44 1 42 43,Lo 45 44,qm 6 45]) .ret)))
theorem zzV:zy Tryz.prog 51 46 [.tmp 6] c51:=fK Tryz.func51
theorem zpj (names:List ByteArray) (hs:qN names) (n:Int) (silent:Bool):zq Tryz.prog 51 [.sc (.int .i64 n),xZ names,.sc (.bool silent)] (.sc (.string (rnm names silent n))):=by
 refine za zzV zs (by simp[ze,Pure,yL]) ?_ (by simp[Pure])
 unfold xZ
 refine sR ?_
 have eq:∀{s:ByteArray},s=rnm names silent n→Deep [] (D.sc (.string s)) (.sc (.string (rnm names silent n))):=λh=>h▸.refl _
 cases e1:(n==63)
 ·have e1:n≠63:=by simpa using e1
  have g1:¬(n=63∧silent=true):=λh=>e1 h.1
  refine sW ?_
  cases e2:decide (n<0)
  ·refine sW ?_
   rw[List.length_map]
   cases e3:decide (n≥(names.length:Int))
   ·refine sW ?_
    cases e4:decide (n≥63)
    ·have e2:¬n<0:=of_decide_eq_false e2
     have e3:¬n≥(names.length:Int):=of_decide_eq_false e3
     have e4:¬n≥63:=of_decide_eq_false e4
     have hk:n.toNat<names.length:=zo
     have g2:¬(n<0∨(names.length:Int)≤n∨63≤n):=zo
     refine sW ?_
     refine sL (Wv hk) ?_
     refine sC (u4 _ (hs.at hk)) ?_
     cases e5:xb (names.getD n.toNat ⟨#[]⟩)
     ·refine sW ?_
      exact eq (by unfold rnm;rw[if_neg g1,if_neg g2,if_pos e5])
     ·refine sW ?_
      refine sL (Wv hk) ?_
      refine sC (zba names _ hs.1) ?_
      have hd:=zhm hk
      rw[show(n.toNat:Int)=n by omega] at hd
      refine sS (λh4=>?_) λh4=>?_
      ·exact eq (by have:zaw names n.toNat (names.getD n.toNat ⟨#[]⟩)=true:=hd.1 (by simpa using h4)
                    unfold rnm;rw[if_neg g1,if_neg g2,if_neg (by rw[e5];decide),if_pos this])
      ·refine sL (Wv hk) ?_
       exact eq (by have:¬zaw names n.toNat (names.getD n.toNat ⟨#[]⟩)=true:=λh=>hd.2 h (by simpa using h4)
                    unfold rnm;rw[if_neg g1,if_neg g2,if_neg (by rw[e5];decide),if_neg this])
    ·refine sW ?_
     exact eq (by unfold rnm;rw[if_neg g1,if_pos (by have:=of_decide_eq_true e4;omega)])
   ·refine sW ?_
    exact eq (by unfold rnm;rw[if_neg g1,if_pos (by have:=of_decide_eq_true e3;omega)])
  ·refine sW ?_
   exact eq (by unfold rnm;rw[if_neg g1,if_pos (by have:=of_decide_eq_true e2;omega)])
 ·have e1:n=63:=by simpa using e1
  subst e1
  refine sW ?_
  cases silent
  ·refine sW ?_
   rw[List.length_map]
   cases e3:decide ((63:Int)≥(names.length:Int))
   ·refine sW ?_
    exact eq (by simp[rnm])
   ·refine sW ?_
    exact eq (by simp[rnm])
  ·refine sW ?_
   exact eq (by simp[rnm,Xb])
def c50:PC:=.seq (OP [Mv 4 cF]) (.seq (OP [qm 5 0,Lo 6 1,Lo 7 2,Ca 8 51 [5,6,7],Bi 9 .eql 8 (cS #[]),qm 4 9]) .ret)
theorem zyH:zy Tryz.prog 50 10 [.tmp 4] c50:=fK Tryz.func50
theorem Vz (names:List ByteArray) (hs:qN names) (silent:Bool) (n:Int):zq Tryz.prog 50 [.sc (.int .i64 n),.y7 [xZ names],.y7 [.sc (.bool silent)]] (.sc (.bool (zel names silent n))):=by
 refine za zyH zs (by simp[ze,Pure,yL]) ?_ (by simp[Pure])
 refine sR ?_
 refine sC (zpj names hs n silent) ?_
 exact .refl _
def c44:PC:=.seq (OP [Bx 1 0,Mv 2 cN,Mv 3 cN]) (.seq (OP [Fa 4 2 1,Lo 5 4,Bs 6 1 1 [5],qm 2 6]) (.seq (.seq (OP [Fa 7 0 1,Lo 8 7,Bi 9 .eql 8 (cI 5),qm 10 9,GF 11 10 (.zz 0 1),GF 12 10 (.zg 11),GF 13 10 (.bin .eql 12 (cI 6)),Pk 14 10 cT 13]) (.cond 14 (OP [Fa 15 3 1,Lo 16 15,Fa 17 2 1,Lo 18 17,Bs 19 1 2 [16,18],qm 2 19]) .skip)) (.seq (.seq (OP [Fa 20 1 1,Lo 21 20]) (.block 0 (.seq (OP [Bi 23 .eql 21 (cI 2),qm 22 23]) (.cond 22 (OP [Fa 24 5 1,Lo 25 24,Bs 26 1 1 [25],qm 3 26]) (.seq (OP [Bi 28 .eql 21 (cI 3),qm 27 28]) (.cond 27 (OP [Fa 29 4 1,Lo 30 29,Bs 31 1 1 [30],qm 3 31]) (.seq (.seq (OP [Bi 33 .eql 21 (cI 4),qm 32 33]) (.cond 32 .skip (OP [Bi 34 .eql 21 (cI 5),qm 32 34]))) (.cond 32 (OP [Fa 35 4 1,Lo 36 35,Fa 37 5 1,Lo 38 37,Bs 39 1 2 [36,38],qm 3 39]) .skip)))))))) (.seq (OP [qm 40 2,qm 41 3,qm 2 40,qm 3 41]) .ret))))
theorem zq3:zy Tryz.prog 44 42 [.tmp 2,.tmp 3] c44:=fK Tryz.func44
theorem zhk (x:ZM) (h:x.kind≠5∧x.kind≠6) (k:x.scope≠2∧x.scope≠3∧x.scope≠4∧x.scope≠5):yu Tryz.prog 44 [zbu x] [] (.yO [.own 1 0 0 1,.sc (.slice none 0 0)]) [.row true (zW x),.vec true 0 1 (zL [x.p])]:=by
 refine z1 zq3 zs zs ?_ (by simp[zt,zl]) (by simp[zf.under,zW,zl,zF,zt,zL])
 refine sR ?_
 rw[show(x.kind==5)=false from xB zo]
 refine sW ?_
 rw[show(x.kind==6)=false from xB zo]
 refine sW ?_
 rw[show(x.scope==2)=false from xB zo]
 refine sW ?_
 rw[show(x.scope==3)=false from xB zo]
 refine sW ?_
 rw[show(x.scope==4)=false from xB zo]
 refine sW ?_
 rw[show(x.scope==5)=false from xB zo]
 refine sW ?_
 exact Nat.le_refl _
theorem zhD (x:ZM) (h:x.kind=5∨x.kind=6) (k:x.scope≠2∧x.scope≠3∧x.scope≠4∧x.scope≠5):yu Tryz.prog 44 [zbu x] [] (.yO [.own 2 0 0 2,.sc (.slice none 0 0)]) [.row true (zW x),.vec true 0 1 (zL [x.p]),.vec true 0 1 (zL [x.s,x.p])]:=by
 refine z1 zq3 zs zs ?_ (by simp[zt,zl]) (by simp[zf.under,zW,zl,zF,zt,zL])
 refine sR ?_
 rcases h with h|h
 ·rw[show(x.kind==5)=true from zbn zo]
  refine sW ?_
  rw[show(x.scope==2)=false from xB zo]
  refine sW ?_
  rw[show(x.scope==3)=false from xB zo]
  refine sW ?_
  rw[show(x.scope==4)=false from xB zo]
  refine sW ?_
  rw[show(x.scope==5)=false from xB zo]
  refine sW ?_
  exact Nat.le_refl _
 ·rw[show(x.kind==5)=false from xB zo]
  refine sW ?_
  rw[show(x.kind==6)=true from zbn zo]
  refine sW ?_
  rw[show(x.scope==2)=false from xB zo]
  refine sW ?_
  rw[show(x.scope==3)=false from xB zo]
  refine sW ?_
  rw[show(x.scope==4)=false from xB zo]
  refine sW ?_
  rw[show(x.scope==5)=false from xB zo]
  refine sW ?_
  exact Nat.le_refl _
def c26:PC:=.seq (OP [Bx 2 0,Bx 3 1,Mv 4 (cI 0)]) (.seq (OP [Mv 5 (cI 0)]) (.seq (OP [Mv 6 cN]) (.seq (OP [q 7 (.alloc [(.bool false)]),So 1 7 cF]) (.seq (.seq (OP [Fa 10 1 2,Lo 11 10]) (.block 0 (.seq (OP [Bi 13 .eql 11 (cI 1),qm 12 13]) (.cond 12 (.seq (OP [Fa 14 2 2,LA 15 7 14,Ca 16 43 [15],qm 5 16]) (.seq (OP [Fa 18 2 2,LA 19 7 18,Ca 20 44 [19],qm 17 20,Xt 21 0 17,Xt 22 1 17,qm 8 21,qm 9 22]) (OP [qm 23 8,qm 24 9,Ap 25 1 8 23 24,qm 6 25,So 1 7 cT]))) (.seq (OP [Bi 27 .eql 11 (cI 2),qm 26 27]) (.cond 26 (.seq (OP [Fa 28 9 2,LA 29 4 28,Ca 30 45 [29],qm 5 30]) (.seq (OP [Fa 31 9 2,Fa 32 1 31,Lo 33 32,Bs 34 1 1 [33],qm 6 34]) (.seq (OP [Fa 35 9 2,Fa 36 0 35,Lo 37 36,Ca 38 46 [37],Nt 39 38]) (.cond 39 (OP [qm 40 6,Fa 41 9 2,Fa 42 2 41,Lo 43 42,Bs 44 1 1 [43],Ap 45 1 8 40 44,qm 6 45]) .skip)))) (.seq (OP [Bi 47 .eql 11 (cI 3),qm 46 47]) (.cond 46 (OP [Fa 49 13 2,LA 50 3 49,Lo 51 3,Ca 52 47 [50,51],qm 48 52,Xt 53 0 48,Xt 54 1 48,qm 5 54]) (.seq (OP [Bi 56 .eql 11 (cI 4),qm 55 56]) (.cond 55 (OP [Fa 58 16 2,LA 59 3 58,Lo 60 3,Ca 61 48 [59,60],qm 57 61,Xt 62 0 57,Xt 63 1 57,qm 5 63]) .skip)))))))))) (.seq (.seq (OP [qm 64 5,Bi 65 .eql 64 (cI 0),qm 66 65,GT 67 66 (.move 6),GT 68 66 (.qj (.func 50) [] [3,7]),GT 69 66 (.call 49 [67,68]),Pk 70 66 69 cF]) (.cond 70 (.seq (OP [Mv 4 (cI 4)]) .ret) .skip)) (.seq (OP [qm 71 5,qm 4 71]) .ret))))))
theorem zhO:zy Tryz.prog 26 72 [.tmp 4] c26:=fK Tryz.func26
section
variable (names:List ByteArray) (hn:qN names) (name:ByteArray) (sort:Int) (x:ZM) (k a b c:Int) (f g:Tree)
include hn
theorem zkk (h1:sort=1) (hk:x.kind≠5∧x.kind≠6) (hs:x.scope≠2∧x.scope≠3∧x.scope≠4∧x.scope≠5):zq Tryz.prog 26 [wy name sort x k a b c f g,xZ names] (.sc (.int .i64 (w7 names sort x k a b c f g))):=by
 have hE:w7 names sort x k a b c f g=if u0 x=0∧(QX x++Jl x).any (zel names true)=true then 4 else u0 x:=by unfold w7;rw[if_pos h1]
 have hO:QX x=[x.p]:=by unfold QX;rw[if_neg zo]
 have hP:Jl x=[]:=by unfold Jl;rw[if_neg zo,if_neg zo,if_neg zo]
 rw[hO,hP] at hE
 have hCk:=zbA x
 have hA:=zhk x hk hs
 have hF:=y4 (λn=>.sc (.int .i64 n)) (λ_=>by simp[Pure]) ([x.p]++[]) zs (zel names true) 50 [.y7 [xZ names],.y7 [.sc (.bool true)]] (by simp[ze,Pure,yL]) (λn _=>Vz names hn true n)
 refine za zhO zs (by simp[ze,xA,yL]) ?_ (by simp[Pure])
 rw[hE]
 unfold wy ZU zW zbu at *
 refine sR ?_
 rw[zbn h1]
 refine sW ?_
 refine sC hCk ?_
 refine sE (vP hA (by simp[ze,Pure,zW]) [3,4] rfl rfl (by simp[zf.yI,yG,D.yI];rfl)) ?_
 refine sJ ?_
 cases e:(u0 x==0)
 ·refine sW ?_
  exact yA (congrArg (λz=>D.sc (.int .i64 z)) (if_neg (λh=>by have:=h.1;simp[this] at e)).symm)
 ·have e:u0 x=0:=by simpa using e
  refine sW ?_
  refine sN hF ?_
  cases e2:([x.p]++[]).any (zel names true)
  ·refine sW ?_
   exact yA (congrArg (λz=>D.sc (.int .i64 z)) (if_neg (λh=>by cases h.2)).symm)
  ·refine sW ?_
   exact yA (congrArg (λz=>D.sc (.int .i64 z)) (if_pos ⟨e,rfl⟩).symm)
theorem zjF (h1:sort=1) (hk:x.kind=5∨x.kind=6) (hs:x.scope≠2∧x.scope≠3∧x.scope≠4∧x.scope≠5):zq Tryz.prog 26 [wy name sort x k a b c f g,xZ names] (.sc (.int .i64 (w7 names sort x k a b c f g))):=by
 have hE:w7 names sort x k a b c f g=if u0 x=0∧(QX x++Jl x).any (zel names true)=true then 4 else u0 x:=by unfold w7;rw[if_pos h1]
 have hO:QX x=[x.s,x.p]:=by unfold QX;rw[if_pos zo]
 have hP:Jl x=[]:=by unfold Jl;rw[if_neg zo,if_neg zo,if_neg zo]
 rw[hO,hP] at hE
 have hCk:=zbA x
 have hA:=zhD x hk hs
 have hF:=y4 (λn=>.sc (.int .i64 n)) (λ_=>by simp[Pure]) ([x.s,x.p]++[]) zs (zel names true) 50 [.y7 [xZ names],.y7 [.sc (.bool true)]] (by simp[ze,Pure,yL]) (λn _=>Vz names hn true n)
 refine za zhO zs (by simp[ze,xA,yL]) ?_ (by simp[Pure])
 rw[hE]
 unfold wy ZU zW zbu at *
 refine sR ?_
 rw[zbn h1]
 refine sW ?_
 refine sC hCk ?_
 refine sE (vP hA (by simp[ze,Pure,zW]) [3,4,5] rfl rfl (by simp[zf.yI,yG,D.yI];rfl)) ?_
 refine sJ ?_
 cases e:(u0 x==0)
 ·refine sW ?_
  exact yA (congrArg (λz=>D.sc (.int .i64 z)) (if_neg (λh=>by have:=h.1;simp[this] at e)).symm)
 ·have e:u0 x=0:=by simpa using e
  refine sW ?_
  refine sN hF ?_
  cases e2:([x.s,x.p]++[]).any (zel names true)
  ·refine sW ?_
   exact yA (congrArg (λz=>D.sc (.int .i64 z)) (if_neg (λh=>by cases h.2)).symm)
  ·refine sW ?_
   exact yA (congrArg (λz=>D.sc (.int .i64 z)) (if_pos ⟨e,rfl⟩).symm)
theorem zme (h1:sort=3) (hv:Small f):zq Tryz.prog 26 [wy name sort x k a b c f g,xZ names] (.sc (.int .i64 (w7 names sort x k a b c f g))):=by
 have hE:w7 names sort x k a b c f g=if yJ zP f=0 then (if qs names f then 0 else 4) else yJ zP f:=by unfold w7;rw[if_neg zo,if_neg zo,if_pos h1]
 have hR:=zpy names hn f hv
 have hF:=y4 (λn=>.sc (.int .i64 n)) (λ_=>by simp[Pure]) [] zs (zel names false) 50 [.y7 [xZ names],.y7 [.sc (.bool false)]] (by simp[ze,Pure,yL]) (λn _=>Vz names hn false n)
 have hD:∃s,WY names f=.yO [.sc (.string s),.sc (.int .i64 (w7 names sort x k a b c f g))]:=by
  rw[hE];unfold WY
  split
  ·split
   ·exact⟨_,rfl⟩
   ·exact⟨_,rfl⟩
  ·exact⟨_,rfl⟩
 obtain⟨s,hD⟩:=hD
 rw[hD] at hR
 refine za zhO zs (by simp[ze,xA,yL]) ?_ (by simp[Pure])
 generalize w7 names sort x k a b c f g=e at *
 unfold wy ZU zW Zq yo at *
 refine sR ?_
 rw[xB (show sort≠1 by omega)]
 refine sW ?_
 rw[xB (show sort≠2 by omega)]
 refine sW ?_
 rw[zbn h1]
 skip
 skip
 refine sW ?_
 refine sC hR ?_
 cases e2:(e==0)
 ·refine sW ?_
  exact .refl _
 ·refine sW ?_
  refine sN hF ?_
  exact .refl _
theorem zlD (h1:sort=4) (hv:Small g):zq Tryz.prog 26 [wy name sort x k a b c f g,xZ names] (.sc (.int .i64 (w7 names sort x k a b c f g))):=by
 have hE:w7 names sort x k a b c f g=if yJ xn g=0 then (if qs names g then 0 else 4) else yJ xn g:=by unfold w7;rw[if_neg zo,if_neg zo,if_neg zo,if_pos h1]
 have hR:=zo2 names hn g hv
 have hF:=y4 (λn=>.sc (.int .i64 n)) (λ_=>by simp[Pure]) [] zs (zel names false) 50 [.y7 [xZ names],.y7 [.sc (.bool false)]] (by simp[ze,Pure,yL]) (λn _=>Vz names hn false n)
 have hD:∃s,WL names g=.yO [.sc (.string s),.sc (.int .i64 (w7 names sort x k a b c f g))]:=by
  rw[hE];unfold WL
  split
  ·split
   ·exact⟨_,rfl⟩
   ·exact⟨_,rfl⟩
  ·exact⟨_,rfl⟩
 obtain⟨s,hD⟩:=hD
 rw[hD] at hR
 refine za zhO zs (by simp[ze,xA,yL]) ?_ (by simp[Pure])
 generalize w7 names sort x k a b c f g=e at *
 unfold wy ZU zW Zq yo at *
 refine sR ?_
 rw[xB (show sort≠1 by omega)]
 refine sW ?_
 rw[xB (show sort≠2 by omega)]
 refine sW ?_
 rw[xB (show sort≠3 by omega)]
 refine sW ?_
 rw[zbn h1]
 refine sW ?_
 refine sC hR ?_
 cases e2:(e==0)
 ·refine sW ?_
  exact .refl _
 ·refine sW ?_
  refine sN hF ?_
  exact .refl _
end
def c11:PC:=.seq (OP [Bx 2 0,Mv 4 (cI 0)]) (.seq (.seq (OP [Fa 7 0 2,Lo 8 7,Ca 9 25 [8],Nt 10 9,qm 11 10,GF 12 11 (.zz 1 2),GF 13 11 (.zg 12),GF 14 11 (.bin .lss 13 (cI 1)),Pk 15 11 cT 14,qm 16 15,GF 17 16 (.zz 1 2),GF 18 16 (.zg 17),GF 19 16 (.bin .gtr 18 (cI 4)),Pk 20 16 cT 19]) (.cond 20 (.seq (OP [Mv 4 (cI 1)]) .ret) .skip)) (.seq (.seq (OP [LA 21 19 2,qm 22 1,Ca 23 26 [21,22],qm 5 23]) (.seq (OP [qm 24 5,Bi 25 .neq 24 (cI 0)]) (.cond 25 (.seq (OP [qm 26 5,qm 4 26]) .ret) .skip))) (.seq (OP [Fa 27 1 2,Lo 28 27,Bi 29 .neq 28 (cI 1),qm 30 29,GT 31 30 (.zz 2 2),GT 32 30 (.vw 7 31),GT 33 30 (.build [(.int .i64 0),(.int .i64 0),(.int .i64 0),(.int .i64 0),(.int .i64 0),(.int .i64 0),(.int .i64 0)] []),GT 34 30 (.eqa true [0,0,0,0,0,0,0] 32 33),Pk 35 30 34 cF,qm 36 35,GF 37 36 (.zz 1 2),GF 38 36 (.zg 37),GF 39 36 (.bin .neq 38 (cI 2)),GF 40 36 (.move 39),GT 41 40 (.zz 9 2),GT 42 40 (.vw 4 41),GT 43 40 (.build [(.int .i64 0),(.int .i64 0),(.int .i64 0),(.int .i64 0)] []),GT 44 40 (.eqa true [0,0,0,0] 42 43),GF 45 36 (.pick 40 44 cF),Pk 46 36 cT 45,qm 6 46]) (.seq (OP [qm 47 6,qm 48 47,GF 49 48 (.zz 1 2),GF 50 48 (.zg 49),GF 51 48 (.bin .neq 50 (cI 3)),GF 52 48 (.move 51),GT 53 52 (.zz 13 2),GT 54 52 (.zz 0 53),GT 55 52 (.zg 54),GT 56 52 (.bin .neq 55 (cI 0)),GT 57 52 (.move 56),GF 58 57 (.zz 13 2),GF 59 57 (.zz 1 58),GF 60 57 (.zg 59),GF 61 57 (.bin .neq 60 (cI 0)),GT 62 52 (.pick 57 cT 61),GT 63 52 (.move 62),GF 64 63 (.zz 13 2),GF 65 63 (.zz 2 64),GF 66 63 (.zg 65),GF 67 63 (.len 66),GF 68 63 (.bin .gtr 67 (cI 0)),GT 69 52 (.pick 63 cT 68),GF 70 48 (.pick 52 69 cF),Pk 71 48 cT 70,qm 6 71]) (.seq (.seq (OP [qm 72 6,qm 73 72,GF 74 73 (.zz 1 2),GF 75 73 (.zg 74),GF 76 73 (.bin .neq 75 (cI 4)),GF 77 73 (.move 76),GT 78 77 (.zz 16 2),GT 79 77 (.zz 0 78),GT 80 77 (.zg 79),GT 81 77 (.bin .neq 80 (cI 0)),GT 82 77 (.move 81),GF 83 82 (.zz 16 2),GF 84 82 (.zz 1 83),GF 85 82 (.zg 84),GF 86 82 (.bin .neq 85 (cI 0)),GT 87 77 (.pick 82 cT 86),GT 88 77 (.move 87),GF 89 88 (.zz 16 2),GF 90 88 (.zz 2 89),GF 91 88 (.zg 90),GF 92 88 (.len 91),GF 93 88 (.bin .gtr 92 (cI 0)),GT 94 77 (.pick 88 cT 93),GF 95 73 (.pick 77 94 cF),Pk 96 73 cT 95]) (.cond 96 (.seq (OP [Mv 4 (cI 1)]) .ret) .skip)) (.seq (OP [Mv 4 (cI 0)]) .ret))))))
theorem zlL:zy Tryz.prog 11 97 [.tmp 4] c11:=fK Tryz.func11
end
section
open Go.RowKit
theorem ziy (names:List ByteArray) (hn:qN names) (name:ByteArray) (hnm:name.size≤9223372036854775807) (x:ZM) (hx:x.scope=1) :
  zq Tryz.prog 11 [wy name 1 x 0 0 0 0 (yB 0 0) (yB 0 0),xZ names] (.sc (.int .i64 (wK names name 1 x 0 0 0 0 (yB 0 0) (yB 0 0)))):=by
 have hN:=u4 name hnm
 refine za zlL zs (by simp[ze,xA,yL]) ?_ (by simp[Pure])
 have fin:∀{H:List zf} {z:Int},z=wK names name 1 x 0 0 0 0 (yB 0 0) (yB 0 0)→Deep H (.sc (.int .i64 z)) (.sc (.int .i64 (wK names name 1 x 0 0 0 0 (yB 0 0) (yB 0 0)))):=λh=>h▸.refl _
 have hP:zq Tryz.prog 26 [wy name 1 x 0 0 0 0 (yB 0 0) (yB 0 0),xZ names] (.sc (.int .i64 (w7 names 1 x 0 0 0 0 (yB 0 0) (yB 0 0)))):=by
  by_cases hk:x.kind=5∨x.kind=6
  ·exact zjF names hn name 1 x 0 0 0 0 _ _ rfl hk zo
  ·exact zkk names hn name 1 x 0 0 0 0 _ _ rfl zo zo
 have hB:U3 1 x 0 0 0 0 (yB 0 0) (yB 0 0)=false:=rfl
 unfold wy ZU zW Zq yo at *
 refine sR ?_
 refine sC hN ?_
 cases e1:xb name
 ·refine sW ?_
  exact fin (by unfold wK;rw[if_pos (.inl e1)])
 ·refine sW ?_
  refine sC hP ?_
  refine sS (λe2=>?_) λe2=>?_
  ·have e2:w7 names 1 x 0 0 0 0 (yB 0 0) (yB 0 0)≠0:=by simpa using e2
   exact fin (by unfold wK;rw[if_neg (by rw[e1];simp),if_pos e2])
  ·have e2:w7 names 1 x 0 0 0 0 (yB 0 0) (yB 0 0)=0:=by simpa using e2
   exact fin (by unfold wK;rw[if_neg (by rw[e1];simp),if_neg (by simp[e2]),hB];rfl)
theorem zfq (name:ByteArray) (x:ZM) (f g:Tree) (k a b c:Int):zq Tryz.prog 14 [wy name 1 x k a b c f g] (UQ (zaB 1 x k a b c f) (wL 1 x k a b c f)):=by
 refine za zq7 zs (by simp[ze,xA]) ?_ (Jf _ _)
 have e:zaB 1 x k a b c f=zed x:=rfl
 have t:wL 1 x k a b c f=xz x:=rfl
 rw[e,t]
 refine sR ?_
 refine sC (zoX x) ?_
 exact .refl _
end
section
open Go.RowKit
def X6 (h:Bool) (s l:List Int):D:=.agg [.sc (.bool h),zB s,zB l]
theorem VI (h:Bool) (s l:List Int):Pure (X6 h s l):=by simp[X6,Pure,ze,zi]
end
section
open Go.RowKit
def zBh:PC:=.seq (OP [Bi 10 .lss 9 8]) (.seq (.cond 10 .skip (.exit 0)) (.seq (.block 1 (.seq (OP [Ia 11 2 7 9,LA 12 2 11,q 5 (.alloc [(.string ⟨#[]⟩),(.int .i64 0)]),So 2 5 12]) (OP [qm 13 3,Fa 14 0 5,Lo 15 14,Bs 16 1 1 [15],Ap 17 1 16 13 16,qm 3 17]))) (OP [Bi 18 .add 9 (cI 1),qm 9 18])))
def c12:PC:=.seq (OP [Bx 1 0,Mv 2 cN]) (.seq (OP [Mv 3 cN]) (.seq (.seq (OP [Fa 6 0 1,Lo 7 6,Ln 8 7,Mv 9 (cI 0)]) (.block 0 (.loop zBh))) (.seq (OP [qm 19 3,qm 2 19]) .ret)))
theorem zyJ:zy Tryz.prog 12 20 [.tmp 2] c12:=fK Tryz.func12
theorem zlU {P:zb} {k:Nat} (h:k<P.nodes.length):List.drop 0 (List.take k (((P.nodes.take k).map λx=>x.1).map λs=>[D.sc (.string s)]))++[[D.sc (.string (P.name k))]]=((P.nodes.take (k+1)).map λx=>x.1).map λs=>[D.sc (.string s)]:=by
 rw[zu (by simp;omega),List.take_add_one,List.getElem?_eq_getElem h]
 unfold zb.name
 rw[List.getD_eq_getElem?_getD,List.getElem?_eq_getElem h]
 simp only[List.map_append,List.map_cons,List.map_nil,Option.toList_some,Option.getD_some]
def uN (P:zb):List ByteArray:=P.nodes.map λx=>x.1
theorem zja (P:zb) (hP:P.nodes.length≤1000000):zq Tryz.prog 12 [yU P] (xZ (uN P)):=by
 refine za zyJ zs (by simp[ze,yj]) ?_ (yL _)
 refine sR ?_
 rw[List.length_map]
 refine zG (xr 3 1 zs rfl) ?_
 refine zO [7,8] (λk:Nat=>[(3,.own 1 k 0 k),(9,.sc (.int .i64 k))]) (λk=>[(1,.vec true k 1 (((P.nodes.take k).map λx=>x.1).map λs=>[.sc (.string s)]))]) (λk=>k≤P.nodes.length) (λk=>P.nodes.length-k) 0 ?_
 refine sW ?_
 refine⟨zo,by exact sK,rfl,?_⟩
 rintro k hk
 refine sW ?_
 refine sR ?_
 refine sS (λh=>?_) λh=>?_
 ·have hk':k<P.nodes.length:=sO
  refine sL (Wr P (k:=k) zo hk') ?_
  refine sJ ?_
  refine sI ?_
  refine⟨k+1,zo,zd,?_⟩
  refine zj 2 zs rfl sQ (sU ?_)
  exact zp (zlU hk')
 ·have hk':k=P.nodes.length:=by have:¬k<P.nodes.length:=sO
                                omega
  subst hk'
  refine .own _ _ _ _ _ _ _ _ rfl ?_
  rw[zu zs,List.take_length]
  exact z6 _
def zAE:PC:=.seq (OP [Bi 11 .lss 10 9]) (.seq (.cond 11 .skip (.exit 0)) (.seq (.block 1 (.seq (OP [Ia 12 1 8 10,Lo 13 12,qm 7 13]) (OP [qm 14 5,qm 15 0,qm 16 7,Ia 17 2 15 16,Fa 18 0 17,Lo 19 18,Bs 20 1 1 [19],Ap 21 1 8 14 20,qm 5 21]))) (OP [Bi 22 .add 10 (cI 1),qm 10 22])))
def c16:PC:=.seq (OP [Mv 4 cN]) (.seq (OP [Mv 5 cN]) (.seq (.seq (OP [qm 8 1,Ln 9 8,Mv 10 (cI 0)]) (.block 0 (.loop zAE))) (.seq (OP [qm 23 5,qm 4 23]) .ret)))
theorem zzA:zy Tryz.prog 16 24 [.tmp 4] c16:=fK Tryz.func16
theorem zjh (of:List zN) (hof:of.length≤1000000) (l:List Int) (hl:l.length≤1000000000000) (xL:xH l of.length=true):zq Tryz.prog 16 [vm of,zB l] (zB (l.map λn=>(of.getD n.toNat (0,0)).1)):=by
 refine za zzA zs (by simp[ze,vf,zi]) ?_ (zi _)
 unfold vm zB
 refine sR ?_
 rw[List.length_map]
 refine zG (xr 5 1 zs rfl) ?_
 refine zO [0,8,9] (λk:Nat=>[(5,.own 0 k 0 k),(10,.sc (.int .i64 k))]) (λk=>[(0,.vec true k 1 (zL ((l.take k).map λn=>(of.getD n.toNat (0,0)).1)))]) (λk=>k≤l.length) (λk=>l.length-k) 0 ?_
 refine sW ?_
 refine⟨zo,by exact sK,rfl,?_⟩
 rintro k hk
 refine sW ?_
 refine sR ?_
 refine sS (λh=>?_) λh=>?_
 ·have hk':k<l.length:=sO
  have hx:=zT xL (yv hk')
  refine sL (yb (k:=k) zo hk') ?_
  refine sL (uv (k:=(l.getD k 0).toNat) zo zo) ?_
  refine sJ ?_
  refine sI ?_
  refine⟨k+1,zo,zd,?_⟩
  refine zj 1 zs rfl sQ (sU ?_)
  refine zp ((uo (by simp;omega)).trans ?_)
  have e:l.getD k 0=l[k]:=by rw[List.getD_eq_getElem?_getD,List.getElem?_eq_getElem hk'];rfl
  rw[List.take_add_one,List.getElem?_eq_getElem hk',e,List.map_append]
  rfl
 ·have hk':k=l.length:=by have:¬k<l.length:=sO
                          omega
  subst hk'
  rw[List.take_length]
  exact WZ zs rfl
section
variable (P:zb) (tok st:Int) (name:ByteArray) (sort:Int) (x:ZM) (k a b c:Int) (f g:Tree)
noncomputable def zjq (l:List Int):List Int:=l.map λn=>((wz (P.YO tok st) (P.YO tok st).length).getD n.toNat (0,0)).1
end
theorem zd1 {H:List zf} {e:Int}:Deep H (.yO [.agg [.sc (.bool false),.sc (.slice none 0 0),.sc (.slice none 0 0)],.sc (.int .i64 e)]) (.yO [X6 false [] [],.sc (.int .i64 e)]) :=
 .yO _ _ (.cons _ _ _ _ (.agg _ _ (.cons _ _ _ _ (.refl _) (.cons _ _ _ _ (.none _) (.cons _ _ _ _ (.none _) .nil)))) (.cons _ _ _ _ (.refl _) .nil))
def c7_1:PC:=.seq (OP [Bi 59 .lss 58 57]) (.seq (.cond 59 .skip (.exit 0)) (.seq (.block 1 (.seq (OP [Ia 60 1 56 58,Lo 61 60,qm 17 61]) (.seq (OP [qm 62 14,qm 63 17,Ia 64 1 62 63,Lo 65 64,Nt 66 65]) (.cond 66 (.seq (OP [q 67 (.build [(.bool false),(.slice none 0 0),(.slice none 0 0)] []),So 3 8 67,Mv 9 (cI 0)]) .ret) .skip)))) (OP [Bi 68 .add 58 (cI 1),qm 58 68])))
def c7:PC:=.seq (OP [Bx 4 0,Bx 5 1,q 8 (.alloc [(.bool false),(.slice none 0 0),(.slice none 0 0)]),Mv 9 (cI 0)]) (.seq (OP [LA 22 2 4,qm 23 2,qm 24 3,Ca 25 10 [22,23,24],qm 21 25,Xt 26 0 21,Xt 27 1 21,Xt 28 2 21,q 10 (.alloc [(.slice none 0 0),(.slice none 0 0),(.slice none 0 0),(.slice none 0 0)]),So 4 10 26,qm 11 27,qm 12 28]) (.seq (.seq (OP [qm 29 12,Bi 30 .neq 29 (cI 0)]) (.cond 30 (.seq (OP [q 31 (.build [(.bool false),(.slice none 0 0),(.slice none 0 0)] []),qm 32 12,So 3 8 31,qm 9 32]) .ret) .skip)) (.seq (.seq (.ops [LA 33 19 5,LA 34 2 4,qd 35 (.call 12 [34]) 2,qd 36 (.call 11 [33,35]) 7,qw 13 36 15] true) (.seq (OP [qm 37 13,Bi 38 .neq 37 (cI 0)]) (.cond 38 (.seq (OP [q 39 (.build [(.bool false),(.slice none 0 0),(.slice none 0 0)] []),qm 40 13,So 3 8 39,qm 9 40]) .ret) .skip))) (.seq (.seq (OP [Fa 41 1 5,Lo 42 41,Bi 43 .eql 42 (cI 4)]) (.cond 43 (.seq (OP [LA 45 4 10,Fa 46 16 5,LA 47 3 46,Ca 48 13 [45,47],qm 44 48,Xt 49 0 44,Xt 50 1 44,qm 14 49,qm 15 50]) (.seq (.seq (OP [qm 51 15,Bi 52 .neq 51 (cI 0)]) (.cond 52 (.seq (OP [q 53 (.build [(.bool false),(.slice none 0 0),(.slice none 0 0)] []),qm 54 15,So 3 8 53,qm 9 54]) .ret) .skip)) (.seq (.seq (OP [Fa 55 0 10,Lo 56 55,Ln 57 56,Mv 58 (cI 0)]) (.block 0 (.loop c7_1))) (.seq (OP [q 69 (.build [(.bool false),(.slice none 0 0),(.slice none 0 0)] [(0,1,cT)]),So 3 8 69,Mv 9 (cI 0)]) .ret)))) .skip)) (.seq (OP [LA 71 19 5,Ca 72 14 [71],qm 70 72,Xt 73 0 70,Xt 74 1 70,q 18 (.alloc [(.int .i64 0),(.int .i64 0),(.slice none 0 0)]),So 3 18 73,qm 12 74]) (.seq (.seq (OP [qm 75 12,Bi 76 .neq 75 (cI 0)]) (.cond 76 (.seq (OP [q 77 (.build [(.bool false),(.slice none 0 0),(.slice none 0 0)] []),qm 78 12,So 3 8 77,qm 9 78]) .ret) .skip)) (.seq (OP [LA 80 4 10,LA 81 3 18,Ca 82 15 [80,81],qm 79 82,Xt 83 0 79,Xt 84 1 79,Xt 85 2 79,q 19 (.alloc [(.slice none 0 0),(.slice none 0 0)]),So 2 19 83,qm 20 84,qm 12 85]) (.seq (.seq (OP [qm 86 12,Bi 87 .neq 86 (cI 0),qm 88 87,GF 89 88 (.move 20),Pk 90 88 cT 89]) (.cond 90 (.seq (OP [qm 91 20,q 92 (.build [(.bool false),(.slice none 0 0),(.slice none 0 0)] [(0,1,91)]),qm 93 12,So 3 8 92,qm 9 93]) .ret) .skip)) (.seq (.ops [qm 94 11,Fa 95 0 19,qd 96 (.zg 95) 2,qd 97 (.call 16 [94,96]) 7,qm 98 11,Fa 99 1 19,qd 100 (.zg 99) 32,qd 101 (.call 16 [98,100]) 127,qd 102 (.build [(.bool false),(.slice none 0 0),(.slice none 0 0)] [(1,1,97),(2,1,101)]) 255,qk (.store 3 8 102) 511,qd 9 (.move (cI 0)) 1023] true) .ret)))))))))
theorem zno:zy Tryz.prog 7 103 [.agg 8 3,.tmp 9] c7:=fK Tryz.func7
section
variable {P:zb} (hP:P.Fits) {tok st:Int} {name:ByteArray} (hnm:name.size≤9223372036854775807) {sort:Int} {x:ZM} {k a b c:Int} {f g:Tree} (hf:Small f) (hg:Small g)
include hP in
theorem znr (h1:P.Qb tok st≠0):zq Tryz.prog 7 [yU P,wy name sort x k a b c f g,.sc (.int .i64 tok),.sc (.int .i64 st)] (.yO [X6 false [] [],.sc (.int .i64 (P.Qb tok st))]):=by
 have hR:=zqu P hP tok st h1
 refine za zno zs (by simp[ze,Pure,yj,xA]) ?_ (by simp[Pure,ze,VI])
 generalize P.Qb tok st=e at *
 unfold yU zb.cells zkA at *
 refine sR ?_
 refine sC hR ?_
 refine sS (λh=>?_) λh=>?_
 ·exact zd1
 ·exfalso;exact sO
include hP in
theorem znz (h1:P.Qb tok st=0) (h2:¬x4 (P.YO tok st) (P.YO tok st).length≤600):zq Tryz.prog 7 [yU P,wy name sort x k a b c f g,.sc (.int .i64 tok),.sc (.int .i64 st)] (.yO [X6 false [] [],.sc (.int .i64 2)]):=by
 have hR:=zdE P hP tok st h1 (uZ h1)
 rw[if_neg h2] at hR
 refine za zno zs (by simp[ze,Pure,yj,xA]) ?_ (by simp[Pure,ze,VI])
 unfold yU zb.cells zkA at *
 refine sR ?_
 refine sC hR ?_
 exact zd1
theorem zpx (h:zaB sort x k a b c f=0):yJ zP (wL sort x k a b c f)=0:=by
 unfold zaB at h
 unfold wL
 split at h
 ·rename_i h1
  rw[if_pos h1]
  unfold zed at h
  split at h
  ·exact h
  ·rename_i q;exact absurd h q
 ·rename_i h1
  rw[if_neg h1]
  split at h
  ·rename_i h2
   rw[if_pos h2]
   unfold zwB at h
   split at h
   ·exact h
   ·rename_i q;exact absurd h q
  ·rename_i h2
   rw[if_neg h2]
   split at h
   ·exact h
   ·cases h
include hP in
include hP in
include hP hf in
theorem zm9 (hC:zq Tryz.prog 11 [wy name sort x k a b c f g,xZ (uN P)] (.sc (.int .i64 (wK (uN P) name sort x k a b c f g)))) (hM:zq Tryz.prog 14 [wy name sort x k a b c f g] (UQ (zaB sort x k a b c f) (wL sort x k a b c f))) (h1:P.Qb tok st=0) (h2:x4 (P.YO tok st) (P.YO tok st).length≤600) (h4:sort≠4) (h3:wK (uN P) name sort x k a b c f g=0) (h5:zaB sort x k a b c f=0) :
  ∃s l,zq Tryz.prog 7 [yU P,wy name sort x k a b c f g,.sc (.int .i64 tok),.sc (.int .i64 st)]
   (.yO [X6 (decide (uI (wL sort x k a b c f)=0)&&!(vM (VY P tok st) (vC (wL sort x k a b c f)))) (zjq P tok st s) (zjq P tok st l),.sc (.int .i64 (uI (wL sort x k a b c f)))]) ∧
   (uI (wL sort x k a b c f)=0→vM (VY P tok st) (vC (wL sort x k a b c f))=true→V2 (VY P tok st) (vC (wL sort x k a b c f)) (xc (VY P tok st) (vC (wL sort x k a b c f))).1 (xc (VY P tok st) (vC (wL sort x k a b c f))).2 (xh (VY P tok st) (vC (wL sort x k a b c f))).2=.yO [.agg [zB s,zB l],.sc (.bool (vM (VY P tok st) (vC (wL sort x k a b c f)))),.sc (.int .i64 0)]) ∧
   (¬(uI (wL sort x k a b c f)=0∧vM (VY P tok st) (vC (wL sort x k a b c f))=true)→s=[]∧l=[]):=by
 have hR:=zdE P hP tok st h1 (uZ h1)
 rw[if_pos h2,←zwN] at hR
 have hW:=zhG h1 h2
 have hc:=zb.xl (uZ h1).steps
 have hn20:=(xm hc.1).1
 have hNm:=zja P zo
 rw[h3] at hC
 unfold UQ at hM
 rw[if_pos h5,h5] at hM
 have hTc:=zpx h5
 obtain⟨s,l,hH,hs1,hs2⟩:=zp1 (VY P tok st) hW.fits hW.start hW.rows (wL sort x k a b c f) (zje _ _ _ _ _ _ _ hf)
 rw[if_neg (by simpa using hW.yJ),if_neg (by simpa using hTc)] at hH
 have hd:decide ((VY P tok st).yJ=0∧yJ zP (wL sort x k a b c f)=0∧uI (wL sort x k a b c f)=0)=decide (uI (wL sort x k a b c f)=0):=by rw[decide_eq_decide];exact⟨λh=>h.2.2,λh=>⟨hW.yJ,hTc,h⟩⟩
 rw[hd] at hH
 refine⟨s,l,?_,λq q2=>hs1 hW.yJ hTc q,λq=>hs2 λq2=>q q2.2.2⟩
 have xL:uI (wL sort x k a b c f)=0→vM (VY P tok st) (vC (wL sort x k a b c f))=true→xH s (VY P tok st).next.length=true∧xH l (VY P tok st).next.length=true∧s.length≤1000000000∧l.length≤1000000000:=λq q2 =>
  zsw (zag hW.fits hW.yJ hW.start hW.rows q) q2 (hs1 hW.yJ hTc q)
 have hol:(wz (P.YO tok st) (P.YO tok st).length).length=(VY P tok st).next.length:=by rw[XV];exact(QZ _).symm
 have hne:¬(uI (wL sort x k a b c f)=0∧vM (VY P tok st) (vC (wL sort x k a b c f))=true)→s=[]∧l=[]:=λq=>hs2 λq2=>q q2.2.2
 have h600:(wz (P.YO tok st) (P.YO tok st).length).length≤600:=h2
 unfold zjq
 clear hs1 hs2 hd hW hTc h3 h5
 generalize wz (P.YO tok st) (P.YO tok st).length=of at *
 generalize VY P tok st=W at *
 generalize wL sort x k a b c f=T at *
 generalize hA:vM W (vC T)=A at *
 generalize uI T=e at *
 refine za zno zs (by simp[ze,Pure,yj,xA]) ?_ (by simp[Pure,ze,VI])
 unfold yU zb.cells wy ZU zW Zq yo wC zA.cells at *
 by_cases he:e=0
 ·subst he
  cases A
  ·obtain⟨rfl,rfl⟩:=hne zs
   refine sR ?_
   refine sC hR ?_
   refine sC hNm ?_
   refine sC hC ?_
   rw[xB h4]
   refine sW ?_
   refine sC hM ?_
   refine sC hH ?_
   exact .yO _ _ (.cons _ _ _ _ (.agg _ _ (.cons _ _ _ _ (.refl _) (.cons _ _ _ _ (.none _) (.cons _ _ _ _ (.none _) .nil)))) (.cons _ _ _ _ (.refl _) .nil))
  ·obtain⟨i1,i2,i3,i4⟩:=xL rfl rfl
   have hL1:=zjh of zo s zo (by rw[hol];exact i1)
   have hL2:=zjh of zo l zo (by rw[hol];exact i2)
   refine sR ?_
   refine sC hR ?_
   refine sC hNm ?_
   refine sC hC ?_
   rw[xB h4]
   refine sW ?_
   refine sC hM ?_
   refine sC hH ?_
   refine sC hL1 ?_
   refine sC hL2 ?_
   exact .refl _
 ·obtain⟨rfl,rfl⟩:=hne (λq=>he q.1)
  refine sR ?_
  refine sC hR ?_
  refine sC hNm ?_
  refine sC hC ?_
  rw[xB h4]
  refine sW ?_
  refine sC hM ?_
  refine sC hH ?_
  rw[show(e != 0)=true by simpa using he]
  refine sW ?_
  rw[decide_eq_false he]
  exact .yO _ _ (.cons _ _ _ _ (.agg _ _ (.cons _ _ _ _ (.refl _) (.cons _ _ _ _ (.none _) (.cons _ _ _ _ (.none _) .nil)))) (.cons _ _ _ _ (.refl _) .nil))
end
end
section
open Go.RowKit
def JM (x:ZM):D:=wy ⟨#[114]⟩ 1 x 0 0 0 0 (yB 0 0) (yB 0 0)
def c9:PC:=.seq (OP [q 12 (.alloc [(.string ⟨#[]⟩),(.int .i64 0),(.int .i64 0),(.int .i64 0),(.int .i64 0),(.int .i64 0),(.int .i64 0),(.int .i64 0),(.int .i64 0),(.int .i64 0),(.int .i64 0),(.int .i64 0),(.int .i64 0),(.int .i64 0),(.int .i64 0),(.slice none 0 0),(.int .i64 0),(.int .i64 0),(.slice none 0 0)])]) (.seq (OP [qm 13 0,qm 14 1,qm 15 2,qm 16 3,qm 17 4,qm 18 5,q 19 (.build [(.int .i64 0),(.int .i64 0),(.int .i64 0),(.int .i64 0),(.int .i64 0),(.int .i64 0),(.int .i64 0)] [(0,1,13),(1,1,14),(2,1,15),(3,1,16),(4,1,17),(5,1,18)]),q 20 (.build [(.string ⟨#[]⟩),(.int .i64 0),(.int .i64 0),(.int .i64 0),(.int .i64 0),(.int .i64 0),(.int .i64 0),(.int .i64 0),(.int .i64 0),(.int .i64 0),(.int .i64 0),(.int .i64 0),(.int .i64 0),(.int .i64 0),(.int .i64 0),(.slice none 0 0),(.int .i64 0),(.int .i64 0),(.slice none 0 0)] [(0,1,(cS #[114])),(1,1,(cI 1)),(2,7,19)]),So 19 12 20]) .ret)
theorem zBY:zy Tryz.prog 9 21 [.agg 12 19] c9:=fK Tryz.func9
theorem zbQ (a b c d e f:Int):zq Tryz.prog 9 [.sc (.int .i64 a),.sc (.int .i64 b),.sc (.int .i64 c),.sc (.int .i64 d),.sc (.int .i64 e),.sc (.int .i64 f)] (JM ⟨a,b,c,d,e,f,0⟩):=by
 refine za zBY zs (by simp[ze,Pure]) ?_ (xA _ _ _ _ _ _ _ _ _)
 unfold JM wy ZU zW Zq yo
 refine sR ?_
 exact sP
theorem zxL:Small (yB 0 0):=zll
theorem zbT {P:zb} (hP:P.Fits) {tok st:Int} (h1:P.Qb tok st=0):qN (uN P):=by
 have hc:=zb.xl (uZ h1).steps
 have hn20:=(xm hc.1).1
 exact⟨by simp[uN];omega,λs hs=>by obtain⟨z,hz,rfl⟩:=List.mem_map.1 hs;exact hP.name z hz⟩
theorem zzj {P:zb} (hP:P.Fits) {tok st:Int} {x:ZM} (hx:x.scope=1) (h1:P.Qb tok st=0) (h2:x4 (P.YO tok st) (P.YO tok st).length≤600) (he:zed x=0)
  (hr:wK (uN P) ⟨#[114]⟩ 1 x 0 0 0 0 (yB 0 0) (yB 0 0)=0) (hn:uI (xz x)=0) :
  ∃s l,zq Tryz.prog 7 [yU P,JM x,.sc (.int .i64 tok),.sc (.int .i64 st)] (.yO [X6 (!(vM (VY P tok st) (vC (xz x)))) (zjq P tok st s) (zjq P tok st l),.sc (.int .i64 0)]) ∧
   (vM (VY P tok st) (vC (xz x))=true→V2 (VY P tok st) (vC (xz x)) (xc (VY P tok st) (vC (xz x))).1 (xc (VY P tok st) (vC (xz x))).2 (xh (VY P tok st) (vC (xz x))).2=.yO [.agg [zB s,zB l],.sc (.bool (vM (VY P tok st) (vC (xz x)))),.sc (.int .i64 0)]):=by
 have e:wL 1 x 0 0 0 0 (yB 0 0)=xz x:=rfl
 obtain⟨s,l,k1,k2,_⟩:=zm9 hP (tok:=tok) (st:=st) (name:=⟨#[114]⟩) (sort:=1) (x:=x) (k:=0) (a:=0) (b:=0) (c:=0) (f:=yB 0 0) (g:=yB 0 0) zxL (ziy _ (zbT hP h1) _ zc x hx) (zfq _ x _ _ _ _ _ _) h1 h2 zc hr (by unfold zaB;rw[if_pos rfl];exact he)
 rw[e,hn] at k1
 rw[e] at k2
 exact⟨s,l,by simpa [JM] using k1,k2 hn⟩
end
section
open Go.RowKit
def c8:PC:=.seq (OP [q 0 (.alloc [(.slice none 0 0),(.slice none 0 0)])]) (.seq (OP [q 5 (.call 17 [(cS #[115,116,97,114,116,32,97,10,116,97,115,107,32,98,10,120,111,114,32,120,10,116,97,115,107,32,99,10,101,110,100,32,101,10,102,108,111,119,32,97,32,98,10,102,108,111,119,32,98,32,120,10,102,108,111,119,32,120,32,98,10,102,108,111,119,32,120,32,99,10,102,108,111,119,32,99,32,101,10])]),qm 4 5,Xt 6 0 4,Xt 7 1 4,Xt 8 2 4,q 1 (.alloc [(.slice none 0 0),(.slice none 0 0)]),So 2 1 6,qm 2 7,qm 3 8]) (.seq (OP [LA 9 2 1,So 2 0 9]) .ret))
theorem zB6:zy Tryz.prog 8 10 [.agg 0 2] c8:=fK Tryz.func8
theorem zga:zq Tryz.prog 8 [] (yU um):=by
 have hR:=zk5 twT zc
 rw[zul] at hR
 refine za zB6 zs (by simp[ze]) ?_ (yj _)
 unfold znf yU zb.cells at *
 refine sR ?_
 refine sC hR ?_
 exact .refl _
theorem zqG:um.Fits:=⟨zc,zc,zc⟩
theorem zwl (x:ZM) (hx:x.scope=1) (he:zed x=0) (hr:wK [⟨#[97]⟩,⟨#[98]⟩,⟨#[120]⟩,⟨#[99]⟩,⟨#[101]⟩] ⟨#[114]⟩ 1 x 0 0 0 0 (yB 0 0) (yB 0 0)=0) (hn:uI (xz x)=0) :
  ∃s l,zq Tryz.prog 7 [yU um,JM x,.sc (.int .i64 1),.sc (.int .i64 20)] (.yO [X6 (!(vM (VY um 1 20) (vC (xz x)))) s l,.sc (.int .i64 0)])∧(vM (VY um 1 20) (vC (xz x))=true→0<l.length):=by
 obtain⟨s,l,h1,h2⟩:=zzj (P:=um) zqG (tok:=1) (st:=20) hx zmH.1 zrM he hr hn
 refine⟨zjq um 1 20 s,zjq um 1 20 l,h1,λha=>?_⟩
 have hb:=zag U4.fits U4.yJ U4.start U4.rows hn
 have:=zmj hb ha (h2 ha)
 unfold zjq
 rw[List.length_map]
 exact List.length_pos_iff.2 this
def c4:PC:=.seq (OP [Mv 0 cF]) (.seq (OP [Ca 6 8 [],Ca 7 9 [(cI 5),(cI 1),(cI 3),(cI 1),(cI 0),(cI 0)],Ca 8 7 [6,7,(cI 1),(cI 20)],qm 5 8,Xt 9 0 5,Xt 10 1 5,q 1 (.alloc [(.bool false),(.slice none 0 0),(.slice none 0 0)]),So 3 1 9,qm 2 10]) (.seq (OP [Ca 12 8 [],Ca 13 9 [(cI 3),(cI 1),(cI 3),(cI 0),(cI 0),(cI 0)],Ca 14 7 [12,13,(cI 1),(cI 20)],qm 11 14,Xt 15 0 11,Xt 16 1 11,q 3 (.alloc [(.bool false),(.slice none 0 0),(.slice none 0 0)]),So 3 3 15,qm 4 16]) (.seq (OP [qm 17 2,Bi 18 .eql 17 (cI 0),qm 19 18,GT 20 19 (.move 4),GT 21 19 (.bin .eql 20 (cI 0)),Pk 22 19 21 cF,qm 23 22,GT 24 23 (.zz 0 1),GT 25 23 (.zg 24),Pk 26 23 25 cF,qm 27 26,GT 28 27 (.zz 0 3),GT 29 27 (.zg 28),GT 30 27 (.un .not 29),Pk 31 27 30 cF,qm 32 31,GT 33 32 (.zz 2 3),GT 34 32 (.zg 33),GT 35 32 (.len 34),GT 36 32 (.bin .gtr 35 (cI 0)),Pk 37 32 36 cF,qm 0 37]) .ret)))
theorem zBk:zy Tryz.prog 4 38 [.tmp 0] c4:=fK Tryz.func4
theorem zsM:zq Tryz.prog 4 [] (zeF true):=by
 obtain⟨s1,l1,h1,_⟩:=zwl twX rfl zwT zBC zwI
 obtain⟨s2,l2,h2,k2⟩:=zwl twY rfl zwu zBA zwz
 rw[zvg] at h1
 rw[znc] at h2
 have k2:=k2 znc
 have hX:=zbQ 5 1 3 1 0 0
 have hY:=zbQ 3 1 3 0 0 0
 refine za zBk zs (by simp[ze]) ?_ (by simp[zeF,Pure])
 unfold X6 zB at *
 refine sR ?_
 refine sC zga ?_
 refine sC hX ?_
 refine sC h1 ?_
 refine sC zga ?_
 refine sC hY ?_
 refine sC h2 ?_
 rw[List.length_map]
 exact yA (congrArg (λb=>D.sc (.bool b)) (decide_eq_true zo))
end
section
open Go.RowKit
section
variable {P:zb} (hP:P.Fits) {tok st:Int} {name:ByteArray} {sort:Int} {x:ZM} {k a b c:Int} {f g:Tree} (hg:Small g)
theorem zsx {names:List ByteArray} (h:wK names name 4 x k a b c f g=0):yJ xn g=0:=by
 unfold wK at h
 split at h
 ·cases h
 ·split at h
  ·rename_i q;exact absurd h q
  ·rename_i q
   have q:=Classical.not_not.1 q
   unfold w7 at q
   rw[if_neg zc,if_neg zc,if_neg zc,if_pos rfl] at q
   split at q
   ·assumption
   ·exact q
include hP hg in
theorem ztz (hC:zq Tryz.prog 11 [wy name sort x k a b c f g,xZ (uN P)] (.sc (.int .i64 (wK (uN P) name sort x k a b c f g)))) (h1:P.Qb tok st=0) (h2:x4 (P.YO tok st) (P.YO tok st).length≤600) (h4:sort=4) (h3:wK (uN P) name sort x k a b c f g=0) :
  zq Tryz.prog 7 [yU P,wy name sort x k a b c f g,.sc (.int .i64 tok),.sc (.int .i64 st)] (.yO [X6 ((VY P tok st).start.all λn=>ZY (VY P tok st) g n.toNat) [] [],.sc (.int .i64 0)]):=by
 have hR:=zdE P hP tok st h1 (uZ h1)
 rw[if_pos h2,←zwN] at hR
 have hW:=zhG h1 h2
 have hc:=zb.xl (uZ h1).steps
 have hn20:=(xm hc.1).1
 have hNm:=zja P zo
 rw[h3] at hC
 subst h4
 have hL:=zqv (VY P tok st) hW.fits hW.znQ g hg hW.yJ (zsx h3)
 obtain⟨w1,w2,w3,w4,w5,w6⟩:=vK _ hW.yJ
 have hsl:=hW.start
 clear hW h3
 generalize VY P tok st=W at *
 refine za zno zs (by simp[ze,Pure,yj,xA]) ?_ (by simp[Pure,ze,VI])
 generalize hb:(W.start.all λn=>ZY W g n.toNat)=B
 unfold yU zb.cells wy ZU zW Zq yo wC zA.cells at *
 refine sR ?_
 refine sC hR ?_
 refine sC hNm ?_
 refine sC hC ?_
 refine sC hL ?_
 rw[List.length_map]
 refine zO [8,14,56,57] (λi:Nat=>[(58,.sc (.int .i64 i))]) (λ_=>[]) (λi=>i≤W.start.length∧∀j,j<i→ZY W g (W.start.getD j 0).toNat=true) (λi=>W.start.length-i) 0 ?_
 refine sW ?_
 refine⟨⟨zo,λj hj=>zo⟩,by exact sK,rfl,?_⟩
 rintro i ⟨hi,hall⟩
 refine sW ?_
 refine sR ?_
 refine sS (λh=>?_) λh=>?_
 ·have hi':i<W.start.length:=sO
  have hx:=zT w4 (yv hi')
  refine sL (yb (k:=i) zo hi') ?_
  refine sL (yd (W.start.getD i 0).toNat zo zo) ?_
  cases r:ZY W g (W.start.getD i 0).toNat
  ·refine sW ?_
   have:B=false:=by rw[←hb,List.all_eq_false];exact⟨_,yv hi',by rw[r];simp⟩
   rw[this]
   exact zd1
  ·refine sW ?_
   refine sI ?_
   refine⟨i+1,⟨zo,λj hj=>?_⟩,zd,zD (by exact sK) rfl⟩
   by_cases e:j=i
   ·subst e;exact r
   ·exact hall j zo
 ·have hi':i=W.start.length:=by have:¬i<W.start.length:=sO
                                omega
  subst hi'
  have:B=true:=by
   rw[←hb,List.all_eq_true]
   intro y hy
   obtain⟨j,hj,rfl⟩:=XK hy
   exact hall j hj
  rw[this]
  exact .yO _ _ (.cons _ _ _ _ (.agg _ _ (.cons _ _ _ _ (.refl _) (.cons _ _ _ _ (.none _) (.cons _ _ _ _ (.none _) .nil)))) (.cons _ _ _ _ (.refl _) .nil))
end
end
section
open Go.RowKit
structure Wc (W:zA) (u:Nat) (s:Nat→Int):Prop where
 start:s 0=(u:Int)
 next:∀i,s (i+1)∈W.next.getD (s i).toNat []
 fair:∀l∈W.fair,∀i,∃j,i≤j∧s j∈l
section
variable {W:zA} (hc:W.yJ=0)
include hc
theorem zjR {v:Nat} {x:Int} (h:x∈W.next.getD v []):0≤x∧x.toNat<W.next.length:=by
 obtain⟨_,_,_,_,w5,_⟩:=vK W hc
 have:=zT (y3 w5 v) h
 omega
theorem Wc.lt {u:Nat} {s:Nat→Int} (hu:u<W.next.length) (h:Wc W u s):∀i,0≤s i∧(s i).toNat<W.next.length
 | 0=>by rw[h.start];omega
 | i+1=>zjR hc (h.next i)
theorem zkW {a:Nat→Bool} {u:Nat} (hu:u<W.next.length):egF W a u=true↔∃s,Wc W u s∧∀i,a (s i).toNat=true:=by
 unfold egF
 rw[zmK]
 constructor
 ·intro h
  obtain⟨π,p0,p1,p2⟩:=zrh h
  have hlt:∀i,π i<W.next.length:=λi=>by
   induction i with
   | zero=>rw[p0];exact hu
   | succ i ih =>
    obtain⟨y,y1,y2⟩:=p1 i
    rw[zeH _ _ _ ih] at y1
    split at y1
    ·have:=zjR hc (List.mem_filter.1 y1).1;omega
    ·cases y1
  have key:∀i,a (π i)=true∧((π (i+1):Nat):Int)∈W.next.getD (π i) []:=λi=>by
   obtain⟨y,y1,y2⟩:=p1 i
   rw[zeH _ _ _ (hlt i)] at y1
   split at y1
   ·rename_i q
    have h1:=(List.mem_filter.1 y1).1
    have:=(zjR hc h1).1
    rw[←y2,Int.toNat_of_nonneg this]
    exact⟨q,h1⟩
   ·cases y1
  refine⟨λi=>(π i:Int),⟨congrArg (λz:Nat=>(z:Int)) p0,λi=>?_,λl hl i=>?_⟩,λi=>?_⟩
  ·show((π (i+1):Nat):Int)∈W.next.getD ((π i:Nat):Int).toNat []
   rw[Int.toNat_natCast];exact(key i).2
  ·obtain⟨j,j1,j2⟩:=p2 _ (List.mem_map.2 ⟨l,hl,rfl⟩) i
   exact⟨j,j1,Va.1 j2⟩
  ·show a ((π i:Nat):Int).toNat=true
   rw[Int.toNat_natCast];exact(key i).1
 ·rintro⟨s,hs,ha⟩
  have hlt:=Wc.lt hc hu hs
  have e:u=(s 0).toNat:=by rw[hs.start,Int.toNat_natCast]
  rw[e]
  refine zq0 (n:=W.next.length) (π:=λi=>(s i).toNat) (λi=>(hlt i).2) (λi=>?_) λS hS i=>?_
  ·refine⟨s (i+1),?_,rfl⟩
   rw[zeH _ _ _ (hlt i).2,if_pos (ha i)]
   exact List.mem_filter.2 ⟨hs.next i,ha (i+1)⟩
  ·obtain⟨l,hl,rfl⟩:=List.mem_map.1 hS
   obtain⟨j,j1,j2⟩:=hs.fair l hl i
   exact⟨j,j1,Va.2 (by rw[Int.toNat_of_nonneg (hlt j).1];exact j2)⟩
theorem zkf {u:Nat} (hu:u<W.next.length):Wq W u=true↔∃s,Wc W u s:=by
 have h:=zkW hc (a:=XL) hu
 unfold egF at h
 unfold Wq
 rw[h]
 exact⟨λ⟨s,a,_⟩=>⟨s,a⟩,λ⟨s,a⟩=>⟨s,a,λ_=>rfl⟩⟩
omit hc in
theorem Wc.tail {u:Nat} {s:Nat→Int} (h:Wc W u s) (h0:0≤s 1):Wc W (s 1).toNat λi=>s (i+1) :=
 ⟨by show s 1=_;rw[Int.toNat_of_nonneg h0],λi=>h.next (i+1),λl hl i=>by
  obtain⟨j,j1,j2⟩:=h.fair l hl (i+1)
  exact⟨j-1,zo,by show s (j-1+1)∈l;rw[show j-1+1=j by omega];exact j2⟩⟩
theorem zsH {a b:Nat→Bool}:∀{u:Nat},u<W.next.length→(euF W a b u=true↔∃s,Wc W u s∧∃j,b (s j).toNat=true∧∀m,m<j→a (s m).toNat=true):=by
 intro u hu
 unfold euF
 rw[zmy]
 constructor
 ·intro h
  induction h with
  | base q =>
   unfold WH at q
   rw[Bool.and_eq_true,zkf hc hu] at q
   obtain⟨q1,s,hs⟩:=q
   exact⟨s,hs,0,by rw[hs.start,Int.toNat_natCast];exact q1,λm hm=>zo⟩
  | step q k m ih =>
   rename_i i x
   have hx:=zjR hc k
   obtain⟨s,hs,j,h1,h2⟩:=ih hx.2
   refine⟨λn=>match n with|0=>(i:Int)|n+1=>s n,⟨rfl,λn=>?_,λl hl n=>?_⟩,j+1,h1,λn hn=>?_⟩
   ·cases n with
    | zero =>
     show s 0∈W.next.getD ((i:Nat):Int).toNat []
     rw[Int.toNat_natCast,hs.start,Int.toNat_of_nonneg hx.1];exact k
    | succ n=>exact hs.next n
   ·obtain⟨j,j1,j2⟩:=hs.fair l hl n
    exact⟨j+1,zo,j2⟩
   ·cases n with
    | zero=>show a ((i:Nat):Int).toNat=true;rw[Int.toNat_natCast];exact q
    | succ n=>exact h2 n zo
 ·rintro⟨s,hs,j,h1,h2⟩
  induction j generalizing u s with
  | zero =>
   refine .base ?_
   unfold WH
   rw[Bool.and_eq_true,zkf hc hu]
   rw[hs.start,Int.toNat_natCast] at h1
   exact⟨h1,s,hs⟩
  | succ j ih =>
   have hx:=zjR hc (hs.next 0)
   have ha:=h2 0 zo
   have hk:=hs.next 0
   rw[hs.start,Int.toNat_natCast] at ha hk
   exact .step ha hk (ih hx.2 (λi=>s (i+1)) (hs.tail hx.1) h1 λm hm=>h2 (m+1) zo)
theorem zxF {a b:Nat→Bool} {u:Nat} (hu:u<W.next.length):auF W a b u=true↔∀s,Wc W u s→∃j,b (s j).toNat=true∧∀m,m<j→a (s m).toNat=true:=by
 unfold auF xt orF
 rw[Bool.not_eq_true',Bool.or_eq_false_iff,←Bool.not_eq_true,←Bool.not_eq_true,zsH hc hu,zkW hc hu]
 constructor
 ·rintro⟨h1,h2⟩ s hs
  have hex:∃j,b (s j).toNat=true:=Classical.byContradiction λhn=>h2 ⟨s,hs,λi=>by
   have:=not_exists.1 hn i;simpa using this⟩
  obtain⟨j,hj,hmin⟩:∃j,b (s j).toNat=true∧∀m,m<j→b (s m).toNat=false:=by
   obtain⟨k,hk⟩:=hex
   induction k using Nat.strongRecOn with
   | ind k ih =>
    by_cases q:∃m,m<k∧b (s m).toNat=true
    ·obtain⟨m,m1,m2⟩:=q;exact ih m m1 m2
    ·exact⟨k,hk,λm hm=>by
      have:=not_exists.1 q m
      cases e:b (s m).toNat
      ·rfl
      ·exact absurd ⟨hm,e⟩ this⟩
  refine⟨j,hj,λm hm=>Classical.byContradiction λhn=>h1 ⟨s,hs,m,?_,λi hi=>?_⟩⟩
  ·show(!a (s m).toNat&&!b (s m).toNat)=true
   rw[hmin m hm]
   simpa using hn
  ·show(!b (s i).toNat)=true
   rw[hmin i zo];rfl
 ·intro h
  refine⟨?_,?_⟩
  ·rintro⟨s,hs,m,h1,h2⟩
   obtain⟨j,j1,j2⟩:=h s hs
   have h1:(!a (s m).toNat&&!b (s m).toNat)=true:=h1
   rw[Bool.and_eq_true] at h1
   rcases Nat.lt_trichotomy j m with q|q|q
   ·have:=h2 j q;rw[j1] at this;cases this
   ·subst q;have:=h1.2;rw[j1] at this;cases this
   ·have:=j2 m q;have h1:=h1.1;rw[this] at h1;cases h1
  ·rintro⟨s,hs,h2⟩
   obtain⟨j,j1,_⟩:=h s hs
   have:=h2 j;rw[j1] at this;cases this
theorem zzT {a:Nat→Bool} {u:Nat} (hu:u<W.next.length):xt (egF W (xt a)) u=true↔∀s,Wc W u s→∃j,a (s j).toNat=true:=by
 unfold xt
 rw[Bool.not_eq_true',←Bool.not_eq_true,zkW hc hu]
 constructor
 ·intro h s hs
  exact Classical.byContradiction λhn=>h ⟨s,hs,λi=>by
   have:=not_exists.1 hn i
   simpa using this⟩
 ·rintro h ⟨s,hs,h2⟩
  obtain⟨j,hj⟩:=h s hs
  have:=h2 j
  rw[hj] at this;cases this
theorem zzk {a:Nat→Bool} {u:Nat} (hu:u<W.next.length):xt (euF W XL (xt a)) u=true↔∀s,Wc W u s→∀j,a (s j).toNat=true:=by
 unfold xt
 rw[Bool.not_eq_true',←Bool.not_eq_true,zsH hc hu]
 constructor
 ·intro h s hs j
  exact Classical.byContradiction λhn=>h ⟨s,hs,j,by simpa using hn,λ_ _=>rfl⟩
 ·rintro h ⟨s,hs,j,hj,_⟩
  rw[h s hs j] at hj;cases hj
theorem zlZ {F:Nat→Bool} {Q:(Nat→Int)→Prop} (h:∀u,u<W.next.length→(F u=true↔∀s,Wc W u s→Q s)):(W.start.all λn=>F n.toNat)=true↔∀s,zrp W s→Q s:=by
 obtain⟨_,_,_,w4,_⟩:=vK W hc
 rw[List.all_eq_true]
 constructor
 ·intro k s hs
  have h0:=zT w4 hs.start
  exact(h _ zo).1 (k _ hs.start) s ⟨by rw[Int.toNat_of_nonneg h0.1],hs.next,hs.fair⟩
 ·intro k n hn
  have h0:=zT w4 hn
  exact(h _ zo).2 λs hs=>k s ⟨by rw[hs.start,Int.toNat_of_nonneg h0.1];exact hn,hs.next,hs.fair⟩
end
theorem zsp {x n:Int} (h0:0≤x) (h1:x<18446744073709551616) (hn:0≤n∧n≤62):zhB x n=zhu x n:=by
 obtain⟨k,rfl⟩:=Int.eq_ofNat_of_zero_le h0
 obtain⟨m,rfl⟩:=Int.eq_ofNat_of_zero_le hn.1
 unfold zhB zhu
 have e:BitVec.ofInt 64 (k:Int)=BitVec.ofNat 64 k:=BitVec.ofInt_natCast ..
 rw[e,BitVec.getLsbD_ofNat,Int.toNat_natCast,Nat.min_eq_left zo,decide_eq_true (by omega:m<64),Bool.true_and,Nat.testBit_eq_decide_div_mod_eq]
 have e2:((k:Int).fdiv (2^m))=((k/2^m:Nat):Int):=by
  rw[Int.fdiv_eq_ediv_of_nonneg _ (by exact Int.le_of_lt (Int.pow_pos zo))]
  simp[Int.natCast_ediv]
 rw[e2,show((k/2^m:Nat):Int).tmod 2=((k/2^m%2:Nat):Int) from(Int.ofNat_tmod _ 2).symm]
 rw[Bool.eq_iff_iff,beq_iff_eq,decide_eq_true_eq]
 omega
end
section
open Go.RowKit
def zwP (L:List ByteArray):Prop:=∀i,i<L.length→xb (L.getD i ⟨#[]⟩)=true∧zaw L i (L.getD i ⟨#[]⟩)=false
theorem zqd {s:ByteArray} (h:xb s=true):ZR s ⟨#[]⟩=false:=by
 unfold xb at h
 simp only[Bool.and_eq_true,Bool.not_eq_true'] at h
 exact h.1.1.1.1.1
theorem zxC:ZR Xb ⟨#[]⟩=false:=by decide +kernel
theorem Q6 (P:zb):(uN P).length=P.nodes.length:=by simp[uN]
theorem ze9 (P:zb) (i:Nat):(uN P).getD i ⟨#[]⟩=P.name i:=by
 unfold uN zb.name
 rw[List.getD_eq_getElem?_getD,List.getElem?_map,List.getD_eq_getElem?_getD]
 cases P.nodes[i]?<;>rfl
theorem zwc {P:zb} (h:P.XQ=0):zwP (uN P):=by
 intro i hi
 rw[Q6] at hi
 have:=zb.Yr.1 h i hi
 unfold zb.QP at this
 split at this
 ·cases this
 ·rename_i q
  split at this
  ·cases this
  ·rename_i q2
   rw[ze9]
   refine⟨by have:=not_or.1 q;simpa using this.1,?_⟩
   unfold zaw
   simp only[ze9]
   simpa using q2
theorem zpS {P:zb} (h:P.yJ=0):P.XQ=0:=by
 unfold zb.yJ at h
 split at h
 ·cases h
 ·split at h
  ·rename_i q;exact absurd h q
  ·rename_i q;exact Classical.not_not.1 q
end
section
open Go.RowKit
theorem zh6 (W:zA) (x:Int):ZY W (yB 3 x)=YF W x:=by rw[zcC];rfl
theorem zh4 (W:zA) (k:Int) (t:Tree):ZY W (yS k t)=qD W k 0 λj=>if j=0 then ZY W t else noT:=by
 rw[zcC]
 have:xf W (yS k t).kids=λj=>if j=0 then ZY W t else noT:=by
  funext j
  cases j with
  | zero=>rfl
  | succ j=>rfl
 rw[this];rfl
theorem zy7 (W:zA) (k:Int) (t u:Tree):ZY W (vx k t u)=qD W k 0 λj=>if j=0 then ZY W t else if j=1 then ZY W u else noT:=by
 rw[zcC]
 have:xf W (vx k t u).kids=λj=>if j=0 then ZY W t else if j=1 then ZY W u else noT:=by
  funext j
  match j with
  | 0=>rfl
  | 1=>rfl
  | j+2=>rfl
 rw[this];rfl
section
variable {W:zA} (hW:zsu W)
include hW
theorem UD {x:Int} (hx:0≤x∧x≤62) (i:Nat):YF W x i=zhu (W.label.getD i 0) x:=by
 unfold YF
 have:0≤W.label.getD i 0∧W.label.getD i 0<18446744073709551616:=by
  rw[List.getD_eq_getElem?_getD]
  cases e:W.label[i]? with
  | none=>simp
  | some z=>exact hW.znQ z (List.mem_of_getElem? e)
 exact zsp this.1 this.2 hx
theorem zh7 {F:Nat→Bool} {Q:(Nat→Int)→Prop} {l:Tree} (hw:l.wf zP) (hn:uI l=0) (h:∀u,u<W.next.length→(F u=true↔∀s,Wc W u s→Q s)) (hq:∀s,xN (Xv W s) l 0↔Q s) :
  (W.start.all λn=>F n.toNat)=!(vM W (vC l)):=by
 rw[Bool.eq_iff_iff,zlZ hW.yJ h,Bool.not_eq_true',←Bool.not_eq_true,zhl hW hw hn]
 constructor
 ·rintro k ⟨s,hs,q⟩
  exact q ((hq s).2 (k s hs))
 ·intro k s hs
  exact(hq s).1 (Classical.byContradiction λq=>k ⟨s,hs,q⟩)
theorem zBs {x:Int} (hx:0≤x∧x≤62) (hw:(yS 10 (yB 3 x)).wf zP) (hn:uI (yS 10 (yB 3 x))=0) :
  (W.start.all λn=>ZY W (yS 12 (yB 3 x)) n.toNat)=!(vM W (vC (yS 10 (yB 3 x)))):=by
 have e:ZY W (yS 12 (yB 3 x))=xt (egF W (xt (YF W x))):=by rw[zh4,←zh6];rfl
 rw[e]
 refine zh7 hW hw hn (λu hu=>zzT hW.yJ hu) λs=>?_
 rw[zqM rfl rfl]
 constructor
 ·rintro⟨j,_,h⟩
  exact⟨j,by rw[UD hW hx];exact(zhS rfl).1 h⟩
 ·rintro⟨j,h⟩
  exact⟨j,Nat.zero_le _,(zhS rfl).2 (by rw[UD hW hx] at h;exact h)⟩
theorem zAG {x:Int} (hx:0≤x∧x≤62) (hw:(yS 11 (yS 4 (yB 3 x))).wf zP) (hn:uI (yS 11 (yS 4 (yB 3 x)))=0) :
  (W.start.all λn=>ZY W (yS 13 (yS 4 (yB 3 x))) n.toNat)=!(vM W (vC (yS 11 (yS 4 (yB 3 x))))):=by
 have e:ZY W (yS 13 (yS 4 (yB 3 x)))=xt (euF W XL (xt (xt (YF W x)))):=by rw[zh4,zh4,←zh6];rfl
 rw[e]
 refine zh7 hW hw hn (λu hu=>zzk hW.yJ hu) λs=>?_
 rw[zwg rfl rfl]
 have key:∀j,xN (Xv W s) ((yS 11 (yS 4 (yB 3 x))).yD 0) j↔xt (YF W x) (s j).toNat=true:=λj=>by
  show xN (Xv W s) (yS 4 (yB 3 x)) j↔(!YF W x (s j).toNat)=true
  rw[zrW rfl rfl,UD hW hx,Bool.not_eq_true',←Bool.not_eq_true]
  exact not_congr (zhS rfl)
 exact⟨λh j=>(key j).1 (h j (Nat.zero_le _)),λh j _=>(key j).2 (h j)⟩
theorem zCc {x y:Int} (hx:0≤x∧x≤62) (hy:0≤y∧y≤62) (hw:(vx 8 (yS 4 (yB 3 x)) (yB 3 y)).wf zP) (hn:uI (vx 8 (yS 4 (yB 3 x)) (yB 3 y))=0) :
  (W.start.all λn=>ZY W (vx 14 (yS 4 (yB 3 x)) (yB 3 y)) n.toNat)=!(vM W (vC (vx 8 (yS 4 (yB 3 x)) (yB 3 y)))):=by
 have e:ZY W (vx 14 (yS 4 (yB 3 x)) (yB 3 y))=auF W (xt (YF W x)) (YF W y):=by rw[zy7,zh4,←zh6,←zh6];rfl
 rw[e]
 refine zh7 hW hw hn (λu hu=>zxF hW.yJ hu) λs=>?_
 rw[zpo rfl rfl]
 have k1:∀j,xN (Xv W s) ((vx 8 (yS 4 (yB 3 x)) (yB 3 y)).yD 0) j↔xt (YF W x) (s j).toNat=true:=λj=>by
  show xN (Xv W s) (yS 4 (yB 3 x)) j↔(!YF W x (s j).toNat)=true
  rw[zrW rfl rfl,UD hW hx,Bool.not_eq_true',←Bool.not_eq_true]
  exact not_congr (zhS rfl)
 have k2:∀j,xN (Xv W s) ((vx 8 (yS 4 (yB 3 x)) (yB 3 y)).yD 1) j↔YF W y (s j).toNat=true:=λj=>by
  rw[UD hW hy]
  exact zhS rfl
 constructor
 ·rintro⟨j,_,h1,h2⟩
  exact⟨j,(k2 j).1 h1,λm hm=>(k1 m).1 (h2 m (Nat.zero_le _) hm)⟩
 ·rintro⟨j,h1,h2⟩
  exact⟨j,Nat.zero_le _,(k2 j).2 h1,λm _ hm=>(k1 m).2 (h2 m hm)⟩
end
theorem wn1:∀x:Nat,x<20→uI (yS 10 (yB 3 x))=0:=by decide +kernel
theorem wn2:∀x:Nat,x<20→uI (yS 11 (yS 4 (yB 3 x)))=0:=by decide +kernel
theorem wn3:∀x:Nat,x<20→∀y:Nat,y<20→uI (vx 8 (yS 4 (yB 3 x)) (yB 3 y))=0:=by decide +kernel
theorem wl1:∀x:Nat,x<20→yJ zP (yS 10 (yB 3 x))=0:=by decide +kernel
theorem wl2:∀x:Nat,x<20→yJ zP (yS 11 (yS 4 (yB 3 x)))=0:=by decide +kernel
theorem wl3:∀x:Nat,x<20→∀y:Nat,y<20→yJ zP (vx 8 (yS 4 (yB 3 x)) (yB 3 y))=0:=by decide +kernel
theorem wc1:∀x:Nat,x<20→yJ xn (yS 12 (yB 3 x))=0:=by decide +kernel
theorem wc2:∀x:Nat,x<20→yJ xn (yS 13 (yS 4 (yB 3 x)))=0:=by decide +kernel
theorem wc3:∀x:Nat,x<20→∀y:Nat,y<20→yJ xn (vx 14 (yS 4 (yB 3 x)) (yB 3 y))=0:=by decide +kernel
theorem zwQ {L:List ByteArray} (h:zwP L) {x:Nat} (hx:x<L.length):qs L (yB 3 (x:Int))=true:=by
 rw[zbi]
 have e:w8 L 3 (x:Int)=true:=by
  unfold w8 nm
  obtain⟨k1,k2⟩:=h x hx
  by_cases h1:(x:Int)=63
  ·rw[if_pos h1,zxC];rfl
  ·rw[if_neg h1,if_neg zo,Int.toNat_natCast,if_neg (by rw[k1];decide),if_neg (by rw[k2];decide),zqd k1];rfl
 show(w8 L 3 (x:Int)&&([]:List Tree).all (qs L))=true
 rw[e];rfl
theorem zbO {L:List ByteArray} {k:Int} (hk:k≠3) (t:Tree):qs L (yS k t)=qs L t:=by
 rw[zbi]
 show(w8 L k 0&&([t]:List Tree).all (qs L))=qs L t
 have e:w8 L k 0=true:=by unfold w8;rw[show(k != 3)=true by simpa using hk];rfl
 rw[e];simp
theorem zwH {L:List ByteArray} {k:Int} (hk:k≠3) (t u:Tree):qs L (vx k t u)=(qs L t&&qs L u):=by
 rw[zbi]
 show(w8 L k 0&&([t,u]:List Tree).all (qs L))=_
 have e:w8 L k 0=true:=by unfold w8;rw[show(k != 3)=true by simpa using hk];rfl
 rw[e];simp
def qp:ZM:=⟨0,0,0,0,0,0,0⟩
theorem rc_3 {L:List ByteArray} {l:Tree} (hc:yJ zP l=0) (ho:qs L l=true):wK L ⟨#[114]⟩ 3 qp 0 0 0 0 l (yB 0 0)=0:=by
 have hp:w7 L 3 qp 0 0 0 0 l (yB 0 0)=0:=by
  unfold w7
  rw[if_neg zc,if_neg zc,if_pos rfl,if_pos hc,if_pos ho]
 have hb:U3 3 qp 0 0 0 0 l (yB 0 0)=false:=rfl
 unfold wK
 rw[if_neg (by decide +kernel),if_neg (by rw[hp];decide),hb];rfl
theorem rc_4 {L:List ByteArray} {c:Tree} (hc:yJ xn c=0) (ho:qs L c=true):wK L ⟨#[114]⟩ 4 qp 0 0 0 0 (yB 0 0) c=0:=by
 have hp:w7 L 4 qp 0 0 0 0 (yB 0 0) c=0:=by
  unfold w7
  rw[if_neg zc,if_neg zc,if_neg zc,if_pos rfl,if_pos hc,if_pos ho]
 have hb:U3 4 qp 0 0 0 0 (yB 0 0) c=false:=rfl
 unfold wK
 rw[if_neg (by decide +kernel),if_neg (by rw[hp];decide),hb];rfl
end
section
open Go.RowKit
theorem zkr (names:List ByteArray) (hn:qN names) (name:ByteArray) (hnm:name.size≤9223372036854775807) (l:Tree) (hl:Small l) :
  zq Tryz.prog 11 [wy name 3 qp 0 0 0 0 l (yB 0 0),xZ names] (.sc (.int .i64 (wK names name 3 qp 0 0 0 0 l (yB 0 0)))):=by
 have hN:=u4 name hnm
 refine za zlL zs (by simp[ze,xA,yL]) ?_ (by simp[Pure])
 have fin:∀{H:List zf} {z:Int},z=wK names name 3 qp 0 0 0 0 l (yB 0 0)→Deep H (.sc (.int .i64 z)) (.sc (.int .i64 (wK names name 3 qp 0 0 0 0 l (yB 0 0)))):=λh=>h▸.refl _
 have hP:=zme names hn name 3 qp 0 0 0 0 l (yB 0 0) rfl hl
 have hB:U3 3 qp 0 0 0 0 l (yB 0 0)=false:=rfl
 unfold wy ZU zW Zq yo at *
 refine sR ?_
 refine sC hN ?_
 cases e1:xb name
 ·refine sW ?_
  exact fin (by unfold wK;rw[if_pos (.inl e1)])
 ·refine sW ?_
  refine sC hP ?_
  refine sS (λe2=>?_) λe2=>?_
  ·have e2:w7 names 3 qp 0 0 0 0 l (yB 0 0)≠0:=by simpa using e2
   exact fin (by unfold wK;rw[if_neg (by rw[e1];simp),if_pos e2])
  ·have e2:w7 names 3 qp 0 0 0 0 l (yB 0 0)=0:=by simpa using e2
   exact fin (by unfold wK;rw[if_neg (by rw[e1];simp),if_neg (by simp[e2]),hB];rfl)
theorem zku (names:List ByteArray) (hn:qN names) (name:ByteArray) (hnm:name.size≤9223372036854775807) (l:Tree) (hl:Small l) :
  zq Tryz.prog 11 [wy name 4 qp 0 0 0 0 (yB 0 0) l,xZ names] (.sc (.int .i64 (wK names name 4 qp 0 0 0 0 (yB 0 0) l))):=by
 have hN:=u4 name hnm
 refine za zlL zs (by simp[ze,xA,yL]) ?_ (by simp[Pure])
 have fin:∀{H:List zf} {z:Int},z=wK names name 4 qp 0 0 0 0 (yB 0 0) l→Deep H (.sc (.int .i64 z)) (.sc (.int .i64 (wK names name 4 qp 0 0 0 0 (yB 0 0) l))):=λh=>h▸.refl _
 have hP:=zlD names hn name 4 qp 0 0 0 0 (yB 0 0) l rfl hl
 have hB:U3 4 qp 0 0 0 0 (yB 0 0) l=false:=rfl
 unfold wy ZU zW Zq yo at *
 refine sR ?_
 refine sC hN ?_
 cases e1:xb name
 ·refine sW ?_
  exact fin (by unfold wK;rw[if_pos (.inl e1)])
 ·refine sW ?_
  refine sC hP ?_
  refine sS (λe2=>?_) λe2=>?_
  ·have e2:w7 names 4 qp 0 0 0 0 (yB 0 0) l≠0:=by simpa using e2
   exact fin (by unfold wK;rw[if_neg (by rw[e1];simp),if_pos e2])
  ·have e2:w7 names 4 qp 0 0 0 0 (yB 0 0) l=0:=by simpa using e2
   exact fin (by unfold wK;rw[if_neg (by rw[e1];simp),if_neg (by simp[e2]),hB];rfl)
theorem zft (name:ByteArray) (l:Tree) (hl:Small l):zq Tryz.prog 14 [wy name 3 qp 0 0 0 0 l (yB 0 0)] (UQ (zaB 3 qp 0 0 0 0 l) (wL 3 qp 0 0 0 0 l)):=by
 refine za zq7 zs (by simp[ze,xA]) ?_ (Jf _ _)
 have e:zaB 3 qp 0 0 0 0 l=yJ zP l:=rfl
 have t:wL 3 qp 0 0 0 0 l=l:=rfl
 rw[e,t]
 refine sR ?_
 refine sC (Xk l hl) ?_
 refine sS (λh4=>?_) λh4=>?_
 ·exact zbq (sO) _
 ·have h4:yJ zP l=0:=sO
  refine sC (zjJ l ((qG _ _).1 h4).2.2) ?_
  exact zdR h4 (.refl _)
end
section
open Go.RowKit
def zhh (c:Tree):D:=wy ⟨#[114]⟩ 4 qp 0 0 0 0 (yB 0 0) c
def zii (l:Tree):D:=wy ⟨#[114]⟩ 3 qp 0 0 0 0 l (yB 0 0)
theorem zyi {P:zb} (hP:P.Fits) {tok st:Int} {c l:Tree} (hSc:Small c) (hSl:Small l)
  (h:P.Qb tok st=0→yJ xn c=0∧yJ zP l=0∧qs (uN P) c=true∧qs (uN P) l=true∧uI l=0∧∀W,zsu W→(W.start.all λn=>ZY W c n.toNat)=!(vM W (vC l))) :
  ∃B s t e,zq Tryz.prog 7 [yU P,zhh c,.sc (.int .i64 tok),.sc (.int .i64 st)] (.yO [X6 B [] [],.sc (.int .i64 e)]) ∧
   zq Tryz.prog 7 [yU P,zii l,.sc (.int .i64 tok),.sc (.int .i64 st)] (.yO [X6 B s t,.sc (.int .i64 e)]):=by
 by_cases h1:P.Qb tok st=0
 ·by_cases h2:x4 (P.YO tok st) (P.YO tok st).length≤600
  ·obtain⟨c1,c2,c3,c4,c5,c6⟩:=h h1
   have hW:=zhG h1 h2
   have n0:=zbT hP h1
   have a1:=ztz hP (tok:=tok) (st:=st) (name:=⟨#[114]⟩) (sort:=4) (x:=qp) (k:=0) (a:=0) (b:=0) (c:=0) (f:=yB 0 0) (g:=c) hSc (zku _ n0 _ zc c hSc) h1 h2 rfl (rc_4 c1 c3)
   have e:wL 3 qp 0 0 0 0 l=l:=rfl
   obtain⟨s,t,a2,_⟩:=zm9 hP (tok:=tok) (st:=st) (name:=⟨#[114]⟩) (sort:=3) (x:=qp) (k:=0) (a:=0) (b:=0) (c:=0) (f:=l) (g:=yB 0 0) hSl (zkr _ n0 _ zc l hSl) (zft _ l hSl) h1 h2 zc (rc_3 c2 c4) (show yJ zP l=0 from c2)
   rw[e,c5,decide_eq_true rfl,Bool.true_and,←c6 _ hW] at a2
   exact⟨_,_,_,_,a1,a2⟩
  ·exact⟨_,_,_,_,znz hP h1 h2,znz hP h1 h2⟩
 ·exact⟨_,_,_,_,znr hP h1,znr hP h1⟩
theorem zvy {P:zb} (hP:P.Fits) {tok st:Int} {x y:Nat} (hx:P.Qb tok st=0→x<P.nodes.length) (hy:P.Qb tok st=0→y<P.nodes.length)
  {c l:Tree} (hSc:Small c) (hSl:Small l)
  (hp:(c=yS 12 (yB 3 x)∧l=yS 10 (yB 3 x))∨(c=yS 13 (yS 4 (yB 3 x))∧l=yS 11 (yS 4 (yB 3 x)))∨(c=vx 14 (yS 4 (yB 3 x)) (yB 3 y)∧l=vx 8 (yS 4 (yB 3 x)) (yB 3 y))) :
  ∃B s t e,zq Tryz.prog 7 [yU P,zhh c,.sc (.int .i64 tok),.sc (.int .i64 st)] (.yO [X6 B [] [],.sc (.int .i64 e)]) ∧
   zq Tryz.prog 7 [yU P,zii l,.sc (.int .i64 tok),.sc (.int .i64 st)] (.yO [X6 B s t,.sc (.int .i64 e)]):=by
 refine zyi hP hSc hSl λh1=>?_
 have hc:=zb.xl (uZ h1).steps
 have hn20:=(xm hc.1).1
 have hx:=hx h1
 have hy:=hy h1
 have hg:=zwc (zpS hc.1)
 have kx:=zwQ hg (x:=x) (by rw[Q6];exact hx)
 have ky:=zwQ hg (x:=y) (by rw[Q6];exact hy)
 have wf:∀{t:Tree},yJ zP t=0→t.wf zP:=λh=>((qG _ _).1 h).2.2
 rcases hp with⟨rfl,rfl⟩|⟨rfl,rfl⟩|⟨rfl,rfl⟩
 ·exact⟨wc1 x zo,wl1 x zo,by rw[zbO zc];exact kx,by rw[zbO zc];exact kx,wn1 x zo,λW hW=>zBs hW zo (wf (wl1 x zo)) (wn1 x zo)⟩
 ·exact⟨wc2 x zo,wl2 x zo,by rw[zbO zc,zbO zc];exact kx,by rw[zbO zc,zbO zc];exact kx,wn2 x zo,λW hW=>zAG hW zo (wf (wl2 x zo)) (wn2 x zo)⟩
 ·exact⟨wc3 x zo y zo,wl3 x zo y zo,by rw[zwH zc,zbO zc,kx,ky];rfl,by rw[zwH zc,zbO zc,kx,ky];rfl,wn3 x zo y zo,λW hW=>zCc hW zo zo (wf (wl3 x zo y zo)) (wn3 x zo y zo)⟩
end
section
open Go.RowKit
def c5:PC:=.seq (OP [Mv 4 (cI 0)]) (.seq (OP [qm 6 0,qm 7 1,Bi 8 .rem 6 7,qm 5 8]) (.seq (.seq (OP [qm 9 5,Bi 10 .lss 9 (cI 0)]) (.cond 10 (OP [qm 11 5,qm 12 1,Bi 13 .add 11 12,qm 5 13]) .skip)) (.seq (OP [qm 14 5,qm 4 14]) .ret)))
theorem zBd:zy Tryz.prog 5 15 [.tmp 4] c5:=fK Tryz.func5
theorem zup (a n:Int) (hn:0<n):a%n=if a.tmod n<0 then a.tmod n+n else a.tmod n:=by
 have h1:=Int.tmod_lt_of_pos a hn
 have h2:-n<a.tmod n:=Int.lt_tmod_of_pos a hn
 have h:=Int.mul_tdiv_add_tmod a n
 have e:a%n=a.tmod n%n:=by
  conv=>lhs;rw[←h]
  exact Int.mul_add_emod_self_left ..
 rw[e]
 split
 ·have:(a.tmod n+n)%n=a.tmod n%n:=Int.add_emod_right ..
  rw[←this]
  exact Int.emod_eq_of_lt zo zo
 ·exact Int.emod_eq_of_lt zo zo
theorem zjK (a n:Int) (hn:0<n) (hn2:n≤9223372036854775807):zq Tryz.prog 5 [.sc (.int .i64 a),.sc (.int .i64 n)] (.sc (.int .i64 (a%n))):=by
 have h1:=Int.tmod_lt_of_pos a hn
 have h2:-n<a.tmod n:=Int.lt_tmod_of_pos a hn
 have e:=zup a n hn
 refine za zBd zs (by simp[ze,Pure]) ?_ (by simp[Pure])
 generalize a%n=r at *
 refine sR ?_
 refine⟨zo,?_⟩
 refine sW ?_
 generalize a.tmod n=q at *
 refine sS (λh=>?_) λh=>?_
 ·have h:q<0:=sO
  rw[if_pos h] at e
  refine sI ?_
  subst e
  exact .refl _
 ·have h:¬q<0:=sO
  rw[if_neg h] at e
  subst e
  exact .refl _
end
section
open Go.RowKit Go.ChangeShapes Go.WideShapes Go.ChangeAt
theorem znk {P:Program} {α:Type} {e:TypeId} {f:α→List D} {ok:α→Prop} (he:∀cs,OfT P e cs→∃a,cs=f a∧ok a) {xs:List (List D)} (h:OfTL P e xs):∃l:List α,xs=l.map f∧∀a∈l,ok a:=by
 induction xs with
 | nil=>exact⟨[],rfl,zs⟩
 | cons x r ih =>
  cases h with
  | cons _ _ _ h k =>
   obtain⟨a,rfl,ha⟩:=he x h
   obtain⟨l,rfl,hl⟩:=ih k
   exact⟨a::l,rfl,λb hb=>by
    rcases List.mem_cons.1 hb with rfl|hb
    ·exact ha
    ·exact hl b hb⟩
theorem zt3 {d:D} (h:OfA Tryz.prog 25 d):∃P:zb,d=yU P∧P.Fits:=by
 unfold OfA zon at h
 rw[Tryz.underlying25] at h
 obtain⟨cs,rfl,h⟩:=h
 have h:=of_struct Tryz.underlying25 h
 simp only[List.map_cons,List.map_nil] at h
 obtain⟨xs,r,rfl,hx0,hx,h⟩:=zd2 Tryz.underlying22 h
 obtain⟨ys,r,rfl,hy0,hy,h⟩:=zd2 Tryz.underlying23 h
 obtain rfl:=zeg h
 obtain⟨nodes,rfl,hn⟩:=znk (f:=ug) (ok:=λx=>x.1.size≤9223372036854775807) (λcs h=>by
  have h:=of_struct Tryz.underlying90 h
  simp only[List.map_cons,List.map_nil] at h
  obtain⟨s,_,rfl,hs,h⟩:=zqK Tryz.underlying9 h
  obtain⟨k,_,rfl,_,h⟩:=ze6 Tryz.underlying3 h
  obtain rfl:=zeg h
  exact⟨(s,k),rfl,hs⟩) hx
 obtain⟨zv,rfl,_⟩:=znk (f:=YT) (ok:=λ_=>True) (λcs h=>by
  have h:=of_struct Tryz.underlying118 h
  simp only[List.map_cons,List.map_nil] at h
  obtain⟨s,_,rfl,hs,h⟩:=ze6 Tryz.underlying3 h
  obtain⟨k,_,rfl,_,h⟩:=ze6 Tryz.underlying3 h
  obtain rfl:=zeg h
  exact⟨(s,k),rfl,trivial⟩) hy
 refine⟨⟨nodes,zv⟩,?_,⟨by simpa using hx0,by simpa using hy0,hn⟩⟩
 rw[show Tryz.prog.cellsOf 90=2 by kernel_rfl,show Tryz.prog.cellsOf 118=2 by kernel_rfl]
 rfl
end
section
open Go.RowKit
end
section
open Go.RowKit Go.ChangeShapes Go.WideShapes Go.ChangeAt
def c6:PC:=.seq (OP [Bx 1 0,q 2 (.alloc [(.int .i64 0),(.int .i64 0),(.slice none 0 0)])]) (.seq (OP [LA 3 3 1,Bs 4 3 1 [3],q 5 (.build [(.int .i64 0),(.int .i64 0),(.slice none 0 0)] [(0,1,(cI 4)),(2,1,4)]),So 3 2 5]) .ret)
theorem zBD:zy Tryz.prog 6 6 [.agg 2 3] c6:=fK Tryz.func6
theorem zmR (x:Int):zq Tryz.prog 6 [.agg [.sc (.int .i64 3),.sc (.int .i64 x),.sc (.slice none 0 0)]] (zZ (yS 4 (yB 3 x))):=by
 refine za zBD zs (by simp[ze,Pure]) ?_ (zm _)
 refine sR ?_
 exact .agg _ _ (.cons _ _ _ _ (.refl _) (.cons _ _ _ _ (.refl _) (.cons _ _ _ _ (.own _ _ _ _ _ _ _ _ rfl (.cons _ _ _ _ (.cons _ _ _ _ (.refl _) (.cons _ _ _ _ (.refl _) (.cons _ _ _ _ (.none _) .nil))) .nil)) .nil)))
def nw (x:Int):List D:=[.sc (.int .i64 3),.sc (.int .i64 x),.sc (.slice none 0 0)]
def zwK (x y:Int):List (List D):=[yo (yS 12 (yB 3 x))++yo (yS 10 (yB 3 x)),yo (yS 13 (yS 4 (yB 3 x)))++yo (yS 11 (yS 4 (yB 3 x))),yo (vx 14 (yS 4 (yB 3 x)) (yB 3 y))++yo (vx 8 (yS 4 (yB 3 x)) (yB 3 y))]
theorem zqa {x y i:Nat} (h:i<3):∃c l,(zwK x y)[((i:Nat):Int).toNat]? = some (yo c++yo l)∧Small c∧Small l∧((c=yS 12 (yB 3 x)∧l=yS 10 (yB 3 x))∨(c=yS 13 (yS 4 (yB 3 x))∧l=yS 11 (yS 4 (yB 3 x)))∨(c=vx 14 (yS 4 (yB 3 x)) (yB 3 y)∧l=vx 8 (yS 4 (yB 3 x)) (yB 3 y))):=by
 have hx:=uq 3 (x:Int)
 have hy:=uq 3 (y:Int)
 rw[Int.toNat_natCast]
 rcases (by omega:i=0∨i=1∨i=2) with rfl|rfl|rfl
 ·exact⟨_,_,rfl,xg hx,xg hx,.inl ⟨rfl,rfl⟩⟩
 ·exact⟨_,_,rfl,xg (xg hx),xg (xg hx),.inr (.inl ⟨rfl,rfl⟩)⟩
 ·exact⟨_,_,rfl,uu (xg hx) hy,uu (xg hx) hy,.inr (.inr ⟨rfl,rfl⟩)⟩
def c3_1:PC:=.seq (OP [Bi 82 .lss 81 80]) (.seq (.cond 82 .skip (.exit 0)) (.seq (.block 1 (.seq (OP [Ia 83 6 79 81,LA 84 6 83,q 20 (.alloc [(.int .i64 0),(.int .i64 0),(.slice none 0 0),(.int .i64 0),(.int .i64 0),(.slice none 0 0)]),So 6 20 84]) (.seq (OP [LA 86 2 5,Fa 87 0 20,LA 88 3 87,q 89 (.build [(.string ⟨#[]⟩),(.int .i64 0),(.int .i64 0),(.int .i64 0),(.int .i64 0),(.int .i64 0),(.int .i64 0),(.int .i64 0),(.int .i64 0),(.int .i64 0),(.int .i64 0),(.int .i64 0),(.int .i64 0),(.int .i64 0),(.int .i64 0),(.slice none 0 0),(.int .i64 0),(.int .i64 0),(.slice none 0 0)] [(0,1,(cS #[114])),(1,1,(cI 4)),(16,3,88)]),qm 90 3,qm 91 4,Ca 92 7 [86,89,90,91],qm 85 92,Xt 93 0 85,Xt 94 1 85,q 21 (.alloc [(.bool false),(.slice none 0 0),(.slice none 0 0)]),So 3 21 93,qm 22 94]) (.seq (OP [LA 96 2 5,Fa 97 3 20,LA 98 3 97,q 99 (.build [(.string ⟨#[]⟩),(.int .i64 0),(.int .i64 0),(.int .i64 0),(.int .i64 0),(.int .i64 0),(.int .i64 0),(.int .i64 0),(.int .i64 0),(.int .i64 0),(.int .i64 0),(.int .i64 0),(.int .i64 0),(.int .i64 0),(.int .i64 0),(.slice none 0 0),(.int .i64 0),(.int .i64 0),(.slice none 0 0)] [(0,1,(cS #[114])),(1,1,(cI 3)),(13,3,98)]),qm 100 3,qm 101 4,Ca 102 7 [96,99,100,101],qm 95 102,Xt 103 0 95,Xt 104 1 95,q 23 (.alloc [(.bool false),(.slice none 0 0),(.slice none 0 0)]),So 3 23 103,qm 24 104]) (.seq (OP [qm 105 22,qm 106 24,Bi 107 .neq 105 106,qm 108 107,GF 109 108 (.zz 0 21),GF 110 108 (.zg 109),GF 111 108 (.zz 0 23),GF 112 108 (.zg 111),GF 113 108 (.eqb true 110 112),Pk 114 108 cT 113]) (.cond 114 (.seq (OP [Mv 10 cF]) .ret) .skip)))))) (OP [Bi 115 .add 81 (cI 1),qm 81 115])))
def c3:PC:=.seq (OP [Bx 5 0,Mv 10 cF]) (.seq (.seq (OP [Ca 25 4 [],Nt 26 25]) (.cond 26 (.seq (OP [Mv 10 cF]) .ret) .skip)) (.seq (.seq (OP [Fa 27 0 5,Lo 28 27,Ln 29 28,Bi 30 .eql 29 (cI 0)]) (.cond 30 (.seq (OP [Mv 10 cT]) .ret) .skip)) (.seq (OP [Fa 31 0 5,Lo 32 31,Ln 33 32,qm 11 33]) (.seq (OP [qm 34 1,qm 35 11,Ca 36 5 [34,35],qm 37 2,qm 38 11,Ca 39 5 [37,38],qm 12 36,qm 13 39]) (.seq (OP [qm 40 12,q 41 (.build [(.int .i64 0),(.int .i64 0),(.slice none 0 0)] [(0,1,(cI 3)),(1,1,40)]),qm 42 13,q 43 (.build [(.int .i64 0),(.int .i64 0),(.slice none 0 0)] [(0,1,(cI 3)),(1,1,42)]),q 14 (.alloc [(.int .i64 0),(.int .i64 0),(.slice none 0 0)]),q 15 (.alloc [(.int .i64 0),(.int .i64 0),(.slice none 0 0)]),So 3 14 41,So 3 15 43]) (.seq (OP [qm 44 12,q 45 (.build [(.int .i64 0),(.int .i64 0),(.slice none 0 0)] [(0,1,(cI 3)),(1,1,44)]),qm 46 13,q 47 (.build [(.int .i64 0),(.int .i64 0),(.slice none 0 0)] [(0,1,(cI 3)),(1,1,46)]),q 16 (.alloc [(.int .i64 0),(.int .i64 0),(.slice none 0 0)]),q 17 (.alloc [(.int .i64 0),(.int .i64 0),(.slice none 0 0)]),So 3 16 45,So 3 17 47]) (.seq (OP [q 18 (.move (.func 6))]) (.seq (.seq (.ops [LA 48 3 14,qd 49 (.xe 3 1 [48]) 1,qd 50 (.build [(.int .i64 0),(.int .i64 0),(.slice none 0 0)] [(0,1,(cI 12)),(2,1,49)]) 3,LA 51 3 16,qd 52 (.xe 3 1 [51]) 8,qd 53 (.build [(.int .i64 0),(.int .i64 0),(.slice none 0 0)] [(0,1,(cI 10)),(2,1,52)]) 24,qd 54 (.build [(.int .i64 0),(.int .i64 0),(.slice none 0 0),(.int .i64 0),(.int .i64 0),(.slice none 0 0)] [(0,3,50),(3,3,53)]) 63,qm 55 18,LA 56 3 14,qd 57 (.vu 55 [56]) 384,qd 58 (.xe 3 1 [57]) 896,qd 59 (.build [(.int .i64 0),(.int .i64 0),(.slice none 0 0)] [(0,1,(cI 13)),(2,1,58)]) 1920,LA 60 3 16,qd 61 (.xe 3 1 [60]) 4096,qd 62 (.build [(.int .i64 0),(.int .i64 0),(.slice none 0 0)] [(0,1,(cI 4)),(2,1,61)]) 12288,qd 63 (.xe 3 1 [62]) 28672,qd 64 (.build [(.int .i64 0),(.int .i64 0),(.slice none 0 0)] [(0,1,(cI 11)),(2,1,63)]) 61440,qd 65 (.build [(.int .i64 0),(.int .i64 0),(.slice none 0 0),(.int .i64 0),(.int .i64 0),(.slice none 0 0)] [(0,3,59),(3,3,64)]) 130944,qm 66 18,LA 67 3 14,qd 68 (.vu 66 [67]) 787328,LA 69 3 15,qd 70 (.xe 3 2 [68,69]) 3933056,qd 71 (.build [(.int .i64 0),(.int .i64 0),(.slice none 0 0)] [(0,1,(cI 14)),(2,1,70)]) 8127360,LA 72 3 16,qd 73 (.xe 3 1 [72]) 16777216,qd 74 (.build [(.int .i64 0),(.int .i64 0),(.slice none 0 0)] [(0,1,(cI 4)),(2,1,73)]) 50331648,LA 75 3 17,qd 76 (.xe 3 2 [74,75]) 251658240,qd 77 (.build [(.int .i64 0),(.int .i64 0),(.slice none 0 0)] [(0,1,(cI 8)),(2,1,76)]) 520093696,qd 78 (.build [(.int .i64 0),(.int .i64 0),(.slice none 0 0),(.int .i64 0),(.int .i64 0),(.slice none 0 0)] [(0,3,71),(3,3,77)]) 1073480576,qd 79 (.xe 6 3 [54,65,78]) 2147483647,qd 80 (.len 79) 4294967295,Mv 81 (cI 0)] true) (.block 0 (.loop c3_1))) (.seq (OP [Mv 10 cT]) .ret)))))))))
theorem zBT:zy Tryz.prog 3 116 [.tmp 10] c3:=fK Tryz.func3
theorem zkt (P:zb) (hP:P.Fits) (a b tok st:Int) :
  zq Tryz.prog 3 [yU P,.sc (.int .i64 a),.sc (.int .i64 b),.sc (.int .i64 tok),.sc (.int .i64 st)] (zeF true):=by
 have hz:=hP.nodes
 have hS:=zsM
 unfold zeF at hS
 refine za zBT zs (by simp[ze,Pure,yj]) ?_ (by simp[zeF,Pure])
 unfold yU zb.cells at *
 refine sR ?_
 refine sC hS ?_
 rw[List.length_map]
 refine sS (λh0=>?_) λh0=>?_
 ·exact .refl _
 have h0:P.nodes.length≠0:=sO
 have hx:=zjK a P.nodes.length zo zo
 have hy:=zjK b P.nodes.length zo zo
 have x0:=Int.emod_nonneg a (b:=(P.nodes.length:Int)) zo
 have x1:=Int.emod_lt_of_pos a (b:=(P.nodes.length:Int)) zo
 have y0:=Int.emod_nonneg b (b:=(P.nodes.length:Int)) zo
 have y1:=Int.emod_lt_of_pos b (b:=(P.nodes.length:Int)) zo
 generalize a%(P.nodes.length:Int)=x at *
 generalize b%(P.nodes.length:Int)=y at *
 obtain⟨x,rfl⟩:=Int.eq_ofNat_of_zero_le x0
 obtain⟨y,rfl⟩:=Int.eq_ofNat_of_zero_le y0
 rw[List.length_map]
 refine sC hx ?_
 refine sC hy ?_
 refine sW ?_
 refine sC (zmR (x:Int)) ?_
 refine sC (zmR (x:Int)) ?_
 refine zG (Z9 (YZ 0) (env':=[(81,.sc (.int .i64 0)),(80,.sc (.int .i64 3)),(79,.xj 6 (zwK x y)),(5,.loc 0 0),(3,.sc (.int .i64 tok)),(4,.sc (.int .i64 st))])
  (H':=[.row false [.xj 2 (P.nodes.map ug),.xj 2 (P.zv.map YT)],.row false (nw x),.row false (nw y),.row false (nw x),.row false (nw y),.vec false 0 3 [nw x],.vec false 0 3 [nw x],.vec false 0 3 [yo (yS 4 (yB 3 x))],.vec false 0 3 [nw x],.vec false 0 3 [[.sc (.int .i64 4),.sc (.int .i64 0),.own 8 0 0 1]],.vec false 0 3 [yo (yS 4 (yB 3 x)),nw y],.vec false 0 3 [nw x],.vec false 0 3 [[.sc (.int .i64 4),.sc (.int .i64 0),.own 11 0 0 1],nw y],
   .vec false 0 6 [[.sc (.int .i64 12),.sc (.int .i64 0),.own 5 0 0 1,.sc (.int .i64 10),.sc (.int .i64 0),.own 6 0 0 1],[.sc (.int .i64 13),.sc (.int .i64 0),.own 7 0 0 1,.sc (.int .i64 11),.sc (.int .i64 0),.own 9 0 0 1],[.sc (.int .i64 14),.sc (.int .i64 0),.own 10 0 0 2,.sc (.int .i64 8),.sc (.int .i64 0),.own 12 0 0 2]]])
  ⟨.refl _,.refl _,?_,.refl _,.refl _,.refl _,trivial⟩
  ⟨⟨.inr ⟨rfl,rfl⟩,λ_=>rfl,.refl _⟩,⟨.inr ⟨rfl,rfl⟩,λ_=>rfl,.refl _⟩,⟨.inr ⟨rfl,rfl⟩,λ_=>rfl,.refl _⟩,⟨.inr ⟨rfl,rfl⟩,λ_=>rfl,.refl _⟩,⟨.inr ⟨rfl,rfl⟩,λ_=>rfl,.refl _⟩,
   ⟨.inr ⟨rfl,rfl⟩,λ_=>rfl,rfl,rfl,.refl _⟩,⟨.inr ⟨rfl,rfl⟩,λ_=>rfl,rfl,rfl,.refl _⟩,⟨.inr ⟨rfl,rfl⟩,λ_=>rfl,rfl,rfl,.refl _⟩,⟨.inr ⟨rfl,rfl⟩,λ_=>rfl,rfl,rfl,.refl _⟩,⟨.inr ⟨rfl,rfl⟩,λ_=>rfl,rfl,rfl,.refl _⟩,⟨.inr ⟨rfl,rfl⟩,λ_=>rfl,rfl,rfl,.refl _⟩,⟨.inr ⟨rfl,rfl⟩,λ_=>rfl,rfl,rfl,.refl _⟩,⟨.inr ⟨rfl,rfl⟩,λ_=>rfl,rfl,rfl,.refl _⟩,⟨.inr ⟨rfl,rfl⟩,λ_=>rfl,rfl,rfl,.refl _⟩,trivial⟩) ?_
 ·have at0:∀{S:Nat→Bool} {H:List zf} (z:Nat),zQ S H (nw z) (yo (yB 3 z)):=λz=>.cons _ _ _ _ (.refl _) (.cons _ _ _ _ (.refl _) (.cons _ _ _ _ (.none _) (.refl _)))
  have one:∀{S:Nat→Bool} {H:List zf} {a b:List D},zQ S H a b→zK S H [a] [b]:=λh=>.cons _ _ _ _ h (.refl _)
  have two:∀{S:Nat→Bool} {H:List zf} {a b c d:List D},zQ S H a b→zQ S H c d→zK S H [a,c] [b,d]:=λh k=>.cons _ _ _ _ h (.cons _ _ _ _ k (.refl _))
  have row2:∀{S:Nat→Bool} {H:List zf} {a b c d g p e f:D},yc S H a b→yc S H e f→zQ S H [g,c,a,p,d,e] [g,c,b,p,d,f]:=λh k=>.cons _ _ _ _ (.refl _) (.cons _ _ _ _ (.refl _) (.cons _ _ _ _ h (.cons _ _ _ _ (.refl _) (.cons _ _ _ _ (.refl _) (.cons _ _ _ _ k (.refl _))))))
  have nt:∀{S:Nat→Bool} {H:List zf} {a b:D},yc S H a b→zQ S H [.sc (.int .i64 4),.sc (.int .i64 0),a] [.sc (.int .i64 4),.sc (.int .i64 0),b]:=λh=>.cons _ _ _ _ (.refl _) (.cons _ _ _ _ (.refl _) (.cons _ _ _ _ h (.refl _)))
  refine .own _ _ _ _ _ _ _ _ rfl rfl (.cons _ _ _ _ (row2 (.own _ _ _ _ _ _ _ _ rfl rfl (one (at0 x))) (.own _ _ _ _ _ _ _ _ rfl rfl (one (at0 x)))) (.cons _ _ _ _ (row2 (.own _ _ _ _ _ _ _ _ rfl rfl (.refl _)) (.own _ _ _ _ _ _ _ _ rfl rfl (one (nt (.own _ _ _ _ _ _ _ _ rfl rfl (one (at0 x))))))) (.cons _ _ _ _ (row2 (.own _ _ _ _ _ _ _ _ rfl rfl (.cons _ _ _ _ (.refl _) (one (at0 y)))) (.own _ _ _ _ _ _ _ _ rfl rfl (.cons _ _ _ _ (nt (.own _ _ _ _ _ _ _ _ rfl rfl (one (at0 x)))) (one (at0 y))))) (.refl _))))
 refine zO [3,4,5,79,80] (λi:Nat=>[(81,.sc (.int .i64 i))]) (λi=>[]) (λi=>i≤3) (λi=>3-i) 0 ?_
 refine sW ?_
 refine⟨zo,by exact sK,rfl,?_⟩
 rintro i hi
 refine sW ?_
 refine sR ?_
 refine sS (λh=>?_) λh=>?_
 ·have hi':i<3:=sO
  obtain⟨c,l,hr,hSc,hSl,hp⟩:=zqa (x:=x) (y:=y) hi'
  obtain⟨B,s,t,e,hJ1,hJ2⟩:=zvy hP (tok:=tok) (st:=st) (x:=x) (y:=y) (λ_=>zo) (λ_=>zo) hSc hSl hp
  clear hp hS hx hy
  refine⟨zo,_,hr,?_⟩
  unfold yU zb.cells zhh zii wy ZU zW qp Zq yo X6 zB at *
  refine sW ?_
  refine sV hJ1 ?_
  refine sV hJ2 ?_
  rw[show(e != e)=false by simp]
  refine sW ?_
  cases B
  ·refine sW ?_
   refine sI ?_
   refine⟨i+1,zo,zd,?_⟩
   exact zj 14 zs rfl sQ sQ
  ·refine sW ?_
   refine sI ?_
   refine⟨i+1,zo,zd,?_⟩
   exact zj 14 zs rfl sQ sQ
 ·exact .refl _
namespace topWays
theorem law:∀Ds,OfAs Tryz.prog [25,3,3,3,3] Ds→zq Tryz.prog 3 Ds (zeF true)
 | [d1,d2,d3,d4,d5],h=>by
  obtain⟨P,rfl,hP⟩:=zt3 h.1
  obtain⟨a,rfl,_⟩:=zhI Tryz.underlying3 h.2.1
  obtain⟨b,rfl,_⟩:=zhI Tryz.underlying3 h.2.2.1
  obtain⟨tok,rfl,_⟩:=zhI Tryz.underlying3 h.2.2.2.1
  obtain⟨st,rfl,_⟩:=zhI Tryz.underlying3 h.2.2.2.2.1
  exact zkt P hP a b tok st
theorem types:zar Tryz.prog [25,3,22,23,90,118,9]=true:=by kernel_rfl
theorem laidOut:laidOutB Tryz.prog=true:=by kernel_rfl
theorem readable:(Tryz.f3.params.toList.all λt=>Tryz.prog.readableRec t&&decide (t<Tryz.prog.types.size))=true:=by kernel_rfl
theorem own:ownKnob Tryz.prog.godebug=none:=by kernel_rfl
theorem fok {W:World} (_h:laidMetH Tryz.prog Rows.topWaysRow.laid W):FOK (Wm W) W:=⟨λb h=>h,λg cs hg=>absurd hg (by simp[XW]),λg t s hg=>absurd hg (by simp[ziO])⟩
theorem lifted (os:Os) (started:os.Started) (H:Type) (enc:TypeId × Value→H) :
  ReturnsInHanded {} Tryz.checked os 3 .any (λw args=>(Rows.topWaysSpec.pre enc Tryz.prog Tryz.f3 Rows.topWaysRow.domain false w args∧laidMetH Tryz.prog Rows.topWaysRow.laid w)∧sizedMet enc Tryz.prog Tryz.f3 (OpenSpec.ofChange Rows.topWaysSpec) false w args)
   (Rows.topWaysSpec.post enc Tryz.prog Tryz.f3 false true false false):=by
 refine returnsInHanded_of_change_and (C:=Tryz.checked) (X:=λw _=>laidMetH Tryz.prog Rows.topWaysRow.laid w) (λ_ _ _ hh h=>h.of_heap hh) own started (by kernel_rfl) Tryz.func3
  (ChangeSpec.witness_at (enc:=enc) (C:=Tryz.checked) (os:=os) (X:=λw _=>laidMetH Tryz.prog Rows.topWaysRow.laid w) false (World.laidAll Tryz.prog os Rows.topWaysRow.laid) #[.agg #[.slice none 0 0,.slice none 0 0],.int .i64 0,.int .i64 0,.int .i64 0,.int .i64 0] 8 (World.laidAll_os _ _ _) (by kernel_rfl) (by kernel_rfl) (by kernel_rfl) (by kernel_rfl) (by kernel_rfl) (show laidMet _ _ _ from laidMet_laidAll _ (by kernel_rfl) (by kernel_rfl))) ?_
 intro W base args ds gs before hval0 hW _ hsz hL _
 have hval:∀(j:Nat) t v,Tryz.f3.params[j]? = some t→args[j]? = some v→Value.okWide Tryz.prog W .any base t v:=hval0
 have hW':=hW
 obtain⟨p,q,hA0,hV,_,hfz,hnd⟩:=hW
 have hA:DataW.TrodAll enc Tryz.prog W 0 (λ_=>true) true Tryz.f3.params.toList args.toList ds p:=hA0
 have hps:Tryz.f3.params.toList=[25,3,3,3,3]:=by kernel_rfl
 obtain⟨Ds,hD,hR⟩:=zrw types (base:=base) _ _ _ _ (λt ht=>by rw[hps] at ht;revert t;decide) (λj t v h1 h2=>hval j t v (by simpa using h1) (by simpa using h2)) hA λn hn=>by
  have:=List.all_eq_true.1 hsz n (V5 _ _ _ _ (UA _ _ _ _ hA).symm n hn)
  simpa using this
 rw[hps] at hD
 have hC:=(law Ds hD).run vV (Wm W) W args.toList (fok hL) hR
 rw[show args.toList.toArray=args from rfl] at hC
 refine hC.mono λe W' ⟨v,F',he,_,hv,hx⟩=>?_
 have hv':v=.bool true:=by simpa only[rep,zeF] using hv
 subst he hv'
 exact⟨_,rfl,zsv hW' rfl (by kernel_rfl) Tryz.underlying4 laidOut (λt ht=>by
   have:=List.all_eq_true.1 readable t ht
   simp only[Bool.and_eq_true,decide_eq_true_eq] at this
   exact this) (λds h=>by rw[hps] at h;match ds,h with|[_,_,_,_,_],_=>rfl) (zhR hx) (ok_one (by kernel_rfl) rfl (okWide_bool_mk Tryz.underlying4 _))⟩
theorem over:Rows.topWaysRow.holds Tryz.pinned (OpenSpec.ofChange Rows.topWaysSpec) :=
 OpenClaim.holds_of_wide 3 Tryz.f3 rfl rfl rfl rfl rfl rfl rfl ⟨rfl,rfl,rfl,rfl,rfl⟩ rfl rfl rfl rfl rfl (by kernel_rfl) Tryz.func3 (by kernel_rfl)
  (of_decide_eq_true (by kernel_rfl)) (by unfold Func.isWrapper;first|(rw[if_pos (by decide +kernel)];kernel_rfl)|(rw[if_neg (by decide +kernel)];exact⟨rfl,rfl⟩))
  (λos started H enc _=>lifted os started H enc)
theorem proved:Rows.TopWaysCardSaid :=
 Claim7.holds_tied_plain_at .later [] [.data, .pinned] true (true, "64812eae96daad8e440204404919bbfb22df217a0459255cf01eda0546275e12") false
  over (λ_ h=>by cases h) (by kernel_rfl) (λ_ h=>by cases h) topWays_row_tie rfl ⟨rfl,rfl⟩ (by kernel_rfl) rfl
  (λf fn hf hfn=>by
   obtain rfl : f = 3 := Option.some.inj ((show Tryz.prog.funcNamed "watchway/watchtop.TopWays" = some 3 by kernel_rfl).symm.trans hf) |>.symm
   obtain rfl:fn=Tryz.f3:=(Option.some.inj (Tryz.func3.symm.trans hfn)).symm
   refine⟨by kernel_rfl,λj t ht=>?_⟩
   have hm:t∈Tryz.f3.params.toList:=by
    rw[Array.mem_toList_iff]
    exact Array.mem_of_getElem? ht
   rw[show Tryz.f3.params.toList=[25,3,3,3,3] by kernel_rfl] at hm
   have:=List.all_eq_true.1 (show([25,3,3,3,3]:List TypeId).all (λt=>!Tryz.prog.wantsStandIn t)=true by kernel_rfl) t hm
   have h2:Tryz.prog.wantsStandIn t=false:=by simpa using this
   exact h2)
  (by kernel_rfl)
end topWays
end
end Go.Proofs.YtoehflejhaakpaaGreatDoor
