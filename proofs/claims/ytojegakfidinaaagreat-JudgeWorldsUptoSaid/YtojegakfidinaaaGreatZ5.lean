/-
  watchlaw.JudgeWorlds returns true for every world and every formula, and each argument reads afterwards as it read before. The condition: both together are of a bulk of at most 1048576.
-/
import Derived.Test.YtojegakfidinaaaGreatZ4
import Derived.Test.YtojegakfidinaaaGreatZ1
import Derived.Test.YtojegakfidinaaaGreatProg
import Derived.Test.YtojegakfidinaaaGreatZ3
import Derived.Test.YtojegakfidinaaaGreatZ2
import Derived.Test.YtojegakfidinaaaGreatRows
import Derived.Deep.CondSized
import Derived.JoinedCond
namespace Go.Proofs.YtojegakfidinaaaGreat
set_option linter.unusedSimpArgs false
set_option linter.unusedVariables false
set_option maxRecDepth 100000
section
open Go.RowKit
def c18_1 : PC:=.seq (.seq (.ops [qm 35 9,q 36 (.load1 (.tmp 4)),q 37 (.len (.tmp 36)),q 38 (.bin .lss (.tmp 35) (.tmp 37))] false) (.cond (.tmp 38) (.skip) (.exit 0))) (.seq (.block 1 (.ops [qm 41 8,q 42 (.bin .mul (.tmp 41) (.const (.int .i64 2))),qm 8 42] false)) (.ops [qm 39 9,q 40 (.bin .add (.tmp 39) (.const (.int .i64 1))),qm 9 40] false))
def c18_3 : PC:=.seq (.seq (.ops [qm 50 12,q 51 (.load1 (.tmp 4)),q 52 (.len (.tmp 51)),q 53 (.bin .lss (.tmp 50) (.tmp 52))] false) (.cond (.tmp 53) (.skip) (.exit 4))) (.seq (.block 5 (.seq (.ops [q 56 (.load1 (.tmp 4)),qm 57 12,q 58 (.iaddr 3 (.tmp 56) (.tmp 57)),q 59 (.loadA 3 (.tmp 58)),q 13 (.alloc [(.int .i64 0),(.int .i64 0),(.slice none 0 0)]),qn (.store 3 (.tmp 13) (.tmp 59))] false) (.seq (.seq (.ops [q 60 (.faddr 0 (.tmp 13)),q 61 (.load1 (.tmp 60)),q 62 (.bin .eql (.tmp 61) (.const (.int .i64 7)))] false) (.cond (.tmp 62) (.ops [q 63 (.faddr 2 (.tmp 13)),q 64 (.load1 (.tmp 63)),q 65 (.iaddr 3 (.tmp 64) (.const (.int .i64 0))),q 66 (.loadA 3 (.tmp 65)),qn (.store 3 (.tmp 13) (.tmp 66))] false) (.skip))) (.ops [qm 67 10,qm 68 11,qm 69 10,qm 70 11,qd 71 (.iaddr 1 (.tmp 69) (.tmp 70)) 12,qd 72 (.load1 (.tmp 71)) 28,q 73 (.load1 (.tmp 6)),q 74 (.loadA 3 (.tmp 13)),qm 75 11,qd 76 (.callv (.tmp 73) [(.tmp 74),(.tmp 75)]) 448,qd 77 (.bslice 1 1 [(.tmp 76)]) 960,qd 78 (.append 1 1 (.tmp 72) (.tmp 77)) 2044,qd 79 (.iaddr 1 (.tmp 67) (.tmp 68)) 4095,qk (.store 1 (.tmp 79) (.tmp 78)) 8191] true)))) (.ops [qm 54 12,q 55 (.bin .add (.tmp 54) (.const (.int .i64 1))),qm 12 55] false))
def c18_2 : PC:=.seq (.seq (.ops [qm 45 11,qm 46 8,q 47 (.bin .lss (.tmp 45) (.tmp 46))] false) (.cond (.tmp 47) (.skip) (.exit 2))) (.seq (.block 3 (.seq (.ops [q 12 (.move (.const (.int .i64 0)))] false) (.block 4 (.loop c18_3)))) (.ops [qm 48 11,q 49 (.bin .add (.tmp 48) (.const (.int .i64 1))),qm 11 49] false))
def c18_6 : PC:=.seq (.seq (.ops [qm 100 18,q 101 (.load1 (.tmp 4)),q 102 (.len (.tmp 101)),q 103 (.bin .lss (.tmp 100) (.tmp 102)),qm 104 103,⟨some 105,.move (.tmp 17),some (104,true),0⟩,q 106 (.pick (.tmp 104) (.tmp 105) (.const (.bool false)))] false) (.cond (.tmp 106) (.skip) (.exit 10))) (.seq (.block 11 (.ops [q 109 (.load1 (.tmp 4)),qm 110 18,qd 111 (.iaddr 3 (.tmp 109) (.tmp 110)) 3,qd 112 (.faddr 0 (.tmp 111)) 7,qd 113 (.load1 (.tmp 112)) 15,qd 114 (.bin .eql (.tmp 113) (.const (.int .i64 3))) 31,qw 115 114 63,⟨some 116,.move (.tmp 10),some (115,false),127⟩,⟨some 117,.move (.tmp 16),some (115,false),127⟩,⟨some 118,.iaddr 1 (.tmp 116) (.tmp 117),some (115,false),511⟩,⟨some 119,.load1 (.tmp 118),some (115,false),1023⟩,⟨some 120,.move (.tmp 18),some (115,false),127⟩,⟨some 121,.iaddr 1 (.tmp 119) (.tmp 120),some (115,false),4095⟩,⟨some 122,.load1 (.tmp 121),some (115,false),8191⟩,⟨some 123,.move (.tmp 14),some (115,false),127⟩,⟨some 124,.move (.tmp 18),some (115,false),127⟩,⟨some 125,.bin .shr (.tmp 123) (.tmp 124),some (115,false),49279⟩,⟨some 126,.bin .rem (.tmp 125) (.const (.int .i64 2)),some (115,false),114815⟩,⟨some 127,.bin .eql (.tmp 126) (.const (.int .i64 1)),some (115,false),245887⟩,⟨some 128,.eqb false (.tmp 122) (.tmp 127),some (115,false),524287⟩,qd 129 (.pick (.tmp 115) (.const (.bool true)) (.tmp 128)) 1048575,qw 17 129 2097151] true)) (.ops [qm 107 18,q 108 (.bin .add (.tmp 107) (.const (.int .i64 1))),qm 18 108] false))
def c18_5 : PC:=.seq (.seq (.ops [qm 95 16,qm 96 8,q 97 (.bin .lss (.tmp 95) (.tmp 96))] false) (.cond (.tmp 97) (.skip) (.exit 8))) (.seq (.block 9 (.seq (.ops [q 17 (.move (.const (.bool true)))] false) (.seq (.seq (.ops [q 18 (.move (.const (.int .i64 0)))] false) (.block 10 (.loop c18_6))) (.seq (.ops [qm 130 17] false) (.cond (.tmp 130) (.ops [qm 131 15,qm 132 16,q 133 (.bslice 1 1 [(.tmp 132)]),q 134 (.append 1 8 (.tmp 131) (.tmp 133)),qm 15 134] false) (.skip)))))) (.ops [qm 98 16,q 99 (.bin .add (.tmp 98) (.const (.int .i64 1))),qm 16 99] false))
def c18_7 : PC:=.seq (.seq (.ops [qm 141 21,q 142 (.load1 (.tmp 4)),q 143 (.len (.tmp 142)),q 144 (.bin .lss (.tmp 141) (.tmp 143))] false) (.cond (.tmp 144) (.skip) (.exit 12))) (.seq (.block 13 (.seq (.ops [q 147 (.load1 (.tmp 4)),qm 148 21,q 149 (.iaddr 3 (.tmp 147) (.tmp 148)),q 150 (.faddr 0 (.tmp 149)),q 151 (.load1 (.tmp 150)),q 152 (.bin .eql (.tmp 151) (.const (.int .i64 3))),qm 153 152,⟨some 154,.move (.tmp 14),some (153,true),0⟩,⟨some 155,.move (.tmp 21),some (153,true),0⟩,⟨some 156,.bin .shr (.tmp 154) (.tmp 155),some (153,true),0⟩,⟨some 157,.bin .rem (.tmp 156) (.const (.int .i64 2)),some (153,true),0⟩,⟨some 158,.bin .eql (.tmp 157) (.const (.int .i64 1)),some (153,true),0⟩,q 159 (.pick (.tmp 153) (.tmp 158) (.const (.bool false)))] false) (.cond (.tmp 159) (.ops [qm 160 19,q 161 (.load1 (.tmp 4)),qm 162 21,q 163 (.iaddr 3 (.tmp 161) (.tmp 162)),q 164 (.faddr 1 (.tmp 163)),q 165 (.load1 (.tmp 164)),q 166 (.bin .shl (.const (.int .u64 1)) (.tmp 165)),q 167 (.bin .or (.tmp 160) (.tmp 166)),qm 19 167] false) (.seq (.ops [q 168 (.load1 (.tmp 4)),qm 169 21,q 170 (.iaddr 3 (.tmp 168) (.tmp 169)),q 171 (.faddr 0 (.tmp 170)),q 172 (.load1 (.tmp 171)),q 173 (.bin .eql (.tmp 172) (.const (.int .i64 3)))] false) (.cond (.tmp 173) (.ops [qm 174 20,q 175 (.load1 (.tmp 4)),qm 176 21,q 177 (.iaddr 3 (.tmp 175) (.tmp 176)),q 178 (.faddr 1 (.tmp 177)),q 179 (.load1 (.tmp 178)),q 180 (.bin .shl (.const (.int .u64 1)) (.tmp 179)),q 181 (.bin .or (.tmp 174) (.tmp 180)),qm 20 181] false) (.skip)))))) (.ops [qm 145 21,q 146 (.bin .add (.tmp 145) (.const (.int .i64 1))),qm 21 146] false))
def c18_4 : PC:=.seq (.seq (.ops [qm 80 14,qm 81 8,q 82 (.bin .lss (.tmp 80) (.tmp 81))] false) (.cond (.tmp 82) (.skip) (.exit 6))) (.seq (.block 7 (.seq (.seq (.ops [q 85 (.load1 (.tmp 6)),q 86 (.loadA 3 (.tmp 1)),qm 87 14,q 88 (.callv (.tmp 85) [(.tmp 86),(.tmp 87)])] false) (.cond (.tmp 88) (.ops [q 89 (.faddr 0 (.tmp 7)),q 90 (.load1 (.tmp 89)),qm 91 14,q 92 (.bslice 1 1 [(.tmp 91)]),q 93 (.append 1 8 (.tmp 90) (.tmp 92)),q 94 (.faddr 0 (.tmp 7)),qn (.store 1 (.tmp 94) (.tmp 93))] false) (.skip))) (.seq (.ops [q 15 (.move (.const (.slice none 0 0)))] false) (.seq (.seq (.ops [q 16 (.move (.const (.int .i64 0)))] false) (.block 8 (.loop c18_5))) (.seq (.ops [q 135 (.faddr 1 (.tmp 7)),q 136 (.load1 (.tmp 135)),qm 137 15,q 138 (.bslice 1 1 [(.tmp 137)]),q 139 (.append 1 24 (.tmp 136) (.tmp 138)),q 140 (.faddr 1 (.tmp 7)),qn (.store 1 (.tmp 140) (.tmp 139))] false) (.seq (.ops [q 19 (.move (.const (.int .u64 0))),q 20 (.move (.const (.int .u64 0)))] false) (.seq (.seq (.ops [q 21 (.move (.const (.int .i64 0)))] false) (.block 12 (.loop c18_7))) (.seq (.ops [q 182 (.faddr 2 (.tmp 7)),q 183 (.load1 (.tmp 182)),qm 184 19,q 185 (.bslice 1 1 [(.tmp 184)]),q 186 (.append 1 8 (.tmp 183) (.tmp 185)),q 187 (.faddr 2 (.tmp 7)),qn (.store 1 (.tmp 187) (.tmp 186))] false) (.ops [q 188 (.faddr 3 (.tmp 7)),q 189 (.load1 (.tmp 188)),qm 190 20,q 191 (.bslice 1 1 [(.tmp 190)]),q 192 (.append 1 8 (.tmp 189) (.tmp 191)),q 193 (.faddr 3 (.tmp 7)),qn (.store 1 (.tmp 193) (.tmp 192))] false))))))))) (.ops [qm 83 14,q 84 (.bin .add (.tmp 83) (.const (.int .i64 1))),qm 14 84] false))
def c18_9 : PC:=.seq (.seq (.ops [qm 200 24,qm 201 8,q 202 (.bin .lss (.tmp 200) (.tmp 201))] false) (.cond (.tmp 202) (.skip) (.exit 16))) (.seq (.block 17 (.seq (.ops [q 205 (.load1 (.tmp 4)),qm 206 22,qd 207 (.iaddr 3 (.tmp 205) (.tmp 206)) 3,qd 208 (.faddr 0 (.tmp 207)) 7,qd 209 (.load1 (.tmp 208)) 15,qd 210 (.bin .eql (.tmp 209) (.const (.int .i64 8))) 31,qw 211 210 63,⟨some 212,.load1 (.tmp 6),some (211,true),127⟩,⟨some 213,.load1 (.tmp 4),some (211,true),127⟩,⟨some 214,.move (.tmp 22),some (211,true),127⟩,⟨some 215,.iaddr 3 (.tmp 213) (.tmp 214),some (211,true),895⟩,⟨some 216,.loadA 3 (.tmp 215),some (211,true),1919⟩,⟨some 217,.move (.tmp 24),some (211,true),127⟩,⟨some 218,.callv (.tmp 212) [(.tmp 216),(.tmp 217)],some (211,true),8191⟩,⟨some 219,.un .not (.tmp 218),some (211,true),16383⟩,⟨some 220,.move (.tmp 219),some (211,true),32767⟩,⟨some 221,.load1 (.tmp 6),some (220,false),65535⟩,⟨some 222,.load1 (.tmp 4),some (220,false),65535⟩,⟨some 223,.move (.tmp 22),some (220,false),65535⟩,⟨some 224,.iaddr 3 (.tmp 222) (.tmp 223),some (220,false),458751⟩,⟨some 225,.faddr 2 (.tmp 224),some (220,false),983039⟩,⟨some 226,.load1 (.tmp 225),some (220,false),2031615⟩,⟨some 227,.iaddr 3 (.tmp 226) (.const (.int .i64 1)),some (220,false),4128767⟩,⟨some 228,.loadA 3 (.tmp 227),some (220,false),8323071⟩,⟨some 229,.move (.tmp 24),some (220,false),65535⟩,⟨some 230,.callv (.tmp 221) [(.tmp 228),(.tmp 229)],some (220,false),33554431⟩,⟨some 231,.pick (.tmp 220) (.const (.bool true)) (.tmp 230),some (211,true),67108863⟩,qd 232 (.pick (.tmp 211) (.tmp 231) (.const (.bool false))) 134217727,qw 233 232 268435455,⟨some 234,.load1 (.tmp 4),some (233,false),536870911⟩,⟨some 235,.move (.tmp 22),some (233,false),536870911⟩,⟨some 236,.iaddr 3 (.tmp 234) (.tmp 235),some (233,false),2147483647⟩,⟨some 237,.faddr 0 (.tmp 236),some (233,false),4294967295⟩,⟨some 238,.load1 (.tmp 237),some (233,false),8589934591⟩,⟨some 239,.bin .eql (.tmp 238) (.const (.int .i64 9)),some (233,false),17179869183⟩,⟨some 240,.move (.tmp 239),some (233,false),34359738367⟩,⟨some 241,.load1 (.tmp 6),some (240,true),68719476735⟩,⟨some 242,.load1 (.tmp 4),some (240,true),68719476735⟩,⟨some 243,.move (.tmp 22),some (240,true),68719476735⟩,⟨some 244,.iaddr 3 (.tmp 242) (.tmp 243),some (240,true),481036337151⟩,⟨some 245,.loadA 3 (.tmp 244),some (240,true),1030792151039⟩,⟨some 246,.move (.tmp 24),some (240,true),68719476735⟩,⟨some 247,.callv (.tmp 241) [(.tmp 245),(.tmp 246)],some (240,true),4398046511103⟩,⟨some 248,.move (.tmp 247),some (240,true),8796093022207⟩,⟨some 249,.load1 (.tmp 6),some (248,false),17592186044415⟩,⟨some 250,.load1 (.tmp 4),some (248,false),17592186044415⟩,⟨some 251,.move (.tmp 22),some (248,false),17592186044415⟩,⟨some 252,.iaddr 3 (.tmp 250) (.tmp 251),some (248,false),123145302310911⟩,⟨some 253,.faddr 2 (.tmp 252),some (248,false),263882790666239⟩,⟨some 254,.load1 (.tmp 253),some (248,false),545357767376895⟩,⟨some 255,.iaddr 3 (.tmp 254) (.const (.int .i64 1)),some (248,false),1108307720798207⟩,⟨some 256,.loadA 3 (.tmp 255),some (248,false),2234207627640831⟩,⟨some 257,.move (.tmp 24),some (248,false),17592186044415⟩,⟨some 258,.callv (.tmp 249) [(.tmp 256),(.tmp 257)],some (248,false),9007199254740991⟩,⟨some 259,.un .not (.tmp 258),some (248,false),18014398509481983⟩,⟨some 260,.pick (.tmp 248) (.const (.bool true)) (.tmp 259),some (240,true),36028797018963967⟩,⟨some 261,.pick (.tmp 240) (.tmp 260) (.const (.bool false)),some (233,false),72057594037927935⟩,qd 262 (.pick (.tmp 233) (.const (.bool true)) (.tmp 261)) 144115188075855871] true) (.cond (.tmp 262) (.ops [qm 263 23,qm 264 24,q 265 (.bslice 1 1 [(.tmp 264)]),q 266 (.append 1 8 (.tmp 263) (.tmp 265)),qm 23 266] false) (.skip)))) (.ops [qm 203 24,q 204 (.bin .add (.tmp 203) (.const (.int .i64 1))),qm 24 204] false))
def c18_8 : PC:=.seq (.seq (.ops [qm 194 22,q 195 (.load1 (.tmp 4)),q 196 (.len (.tmp 195)),q 197 (.bin .lss (.tmp 194) (.tmp 196))] false) (.cond (.tmp 197) (.skip) (.exit 14))) (.seq (.block 15 (.seq (.ops [q 23 (.move (.const (.slice none 0 0)))] false) (.seq (.seq (.ops [q 24 (.move (.const (.int .i64 0)))] false) (.block 16 (.loop c18_9))) (.seq (.ops [q 267 (.load1 (.tmp 4)),qm 268 22,q 269 (.iaddr 3 (.tmp 267) (.tmp 268)),q 270 (.faddr 0 (.tmp 269)),q 271 (.load1 (.tmp 270)),q 272 (.bin .eql (.tmp 271) (.const (.int .i64 8))),qm 273 272,⟨some 274,.load1 (.tmp 4),some (273,false),0⟩,⟨some 275,.move (.tmp 22),some (273,false),0⟩,⟨some 276,.iaddr 3 (.tmp 274) (.tmp 275),some (273,false),0⟩,⟨some 277,.faddr 0 (.tmp 276),some (273,false),0⟩,⟨some 278,.load1 (.tmp 277),some (273,false),0⟩,⟨some 279,.bin .eql (.tmp 278) (.const (.int .i64 9)),some (273,false),0⟩,q 280 (.pick (.tmp 273) (.const (.bool true)) (.tmp 279))] false) (.cond (.tmp 280) (.ops [q 281 (.faddr 4 (.tmp 7)),q 282 (.load1 (.tmp 281)),qm 283 23,q 284 (.bslice 1 1 [(.tmp 283)]),q 285 (.append 1 24 (.tmp 282) (.tmp 284)),q 286 (.faddr 4 (.tmp 7)),qn (.store 1 (.tmp 286) (.tmp 285))] false) (.skip)))))) (.ops [qm 198 22,q 199 (.bin .add (.tmp 198) (.const (.int .i64 1))),qm 22 199] false))
def c18 : PC:=.seq (.ops [q 1 (.box (.tmp 0)),q 2 (.alloc [(.slice none 0 0),(.slice none 0 0),(.slice none 0 0),(.slice none 0 0),(.slice none 0 0)]),q 3 (.move (.const (.int .i64 0)))] false) (.seq (.ops [q 25 (.loadA 3 (.tmp 1)),q 26 (.call 17 [(.tmp 25)]),qn (.store 3 (.tmp 1) (.tmp 26))] false) (.seq (.ops [q 27 (.loadA 3 (.tmp 1)),q 28 (.call 51 [(.tmp 27)]),q 4 (.alloc [(.slice none 0 0)]),qn (.store 1 (.tmp 4) (.tmp 28))] false) (.seq (.seq (.ops [q 29 (.load1 (.tmp 4)),q 30 (.len (.tmp 29)),q 31 (.bin .gtr (.tmp 30) (.const (.int .i64 10)))] false) (.cond (.tmp 31) (.seq (.ops [q 32 (.build [(.slice none 0 0),(.slice none 0 0),(.slice none 0 0),(.slice none 0 0),(.slice none 0 0)] []),qn (.store 5 (.tmp 2) (.tmp 32)),q 3 (.move (.const (.int .i64 2)))] false) (.ret)) (.skip))) (.seq (.ops [q 33 (.mkfn (.func 52) [] [(.tmp 4)]),q 5 (.alloc [(.nilFunc)]),qn (.store 1 (.tmp 5) (.tmp 33))] false) (.seq (.ops [q 6 (.alloc [(.nilFunc)])] false) (.seq (.ops [q 34 (.mkfn (.func 56) [] [(.tmp 6),(.tmp 5)]),qn (.store 1 (.tmp 6) (.tmp 34))] false) (.seq (.ops [q 7 (.alloc [(.slice none 0 0),(.slice none 0 0),(.slice none 0 0),(.slice none 0 0),(.slice none 0 0)])] false) (.seq (.ops [q 8 (.move (.const (.int .i64 1)))] false) (.seq (.seq (.ops [q 9 (.move (.const (.int .i64 0)))] false) (.stop (.block 0 (.loop c18_1)))) (.seq (.ops [qm 43 8,q 44 (.mslice 1 24 [(.slice none 0 0)] (.tmp 43) (.tmp 43)),qm 10 44] false) (.seq (.seq (.ops [q 11 (.move (.const (.int .i64 0)))] false) (.stop (.block 2 (.loop c18_2)))) (.seq (.seq (.ops [q 14 (.move (.const (.int .i64 0)))] false) (.stop (.block 6 (.loop c18_4)))) (.seq (.seq (.ops [q 22 (.move (.const (.int .i64 0)))] false) (.stop (.block 14 (.loop c18_8)))) (.seq (.ops [q 287 (.loadA 5 (.tmp 7)),qn (.store 5 (.tmp 2) (.tmp 287)),q 3 (.move (.const (.int .i64 0)))] false) (.ret)))))))))))))))
theorem c18_ok : FunOK Tryz.prog 18 288 [.agg 2 5,.tmp 3] c18:=⟨⟨Tryz.f18,Tryz.func18,rfl,by kernel_rfl,rfl,by kernel_rfl⟩⟩
set_option maxHeartbeats 1000000 in
theorem zlk (t : Tree) (hwt : t.wf zaE) (hc2 : chk zaE (zaH t) = 0) : PCall Tryz.prog 18 [za7 t] (ansT (zaH t)):=by
 have hPl:=zhL t hwt
 have hpm : Pure (ansT (zaH t)):=by
  unfold ansT
  dsimp only
  split <;> simp [Pure,zao,zbY]
 have hwp:=zoh t hwt
 refine zag c18_ok (by simp) (by simp [zao,zap]) ?_ hpm
 (apply zac; focus (repeat' constructor))
 ((conv=>whnf);repeat(refine⟨rfl,?_⟩;conv=>whnf))
 (refine .inl ⟨_,hPl,?_⟩; ((conv=>whnf);repeat(refine⟨rfl,?_⟩;conv=>whnf)))
 have hwl:=((zey _ _).1 hc2).2.2
 have hsz:=((zey _ _).1 hc2).1
 clear hpm hPl hc2
 generalize zaH t = f at *
 have hEl:=zkD f hwl hsz
 have hT:=zor hwp
 have hTf:=zgP hwl
 have hla:=zho f
 have hlA:=zb0 (fun n=>(zaB f).contains (n : Int)) 64
 have hlP:=zbv (zaC f) []
 change (zex (zaB f)).length≤64 at hlA
 unfold ansT
 dsimp only
 have hel : elE f = elL (zex (zaB f)) (addT [] (zaC f)):=rfl
 rw [hel] at hEl
 generalize hA1 : zex (zaB f) = A at *
 generalize hP1 : addT [] (zaC f) = P at *
 simp only [List.length_nil] at hlP
 (refine .inl ⟨_,hEl,?_⟩; ((conv=>whnf);repeat(refine⟨rfl,?_⟩;conv=>whnf)))
 rw [zbS,zcH]
 (refine zab (fun h10=>?_) (fun h10=>?_) <;> (rw [h10]; ((conv=>whnf);repeat(refine⟨rfl,?_⟩;conv=>whnf))))
 ·have h10 : 10 < A.length + P.length:=by ((try simp only[oo,reduceCtorEq]at*)<;>omega)
  rw [if_pos h10]
  (repeat' (first | exact Deep.refl _ | exact Deep.none _ | exact zaF _ | exact DeepL.nil | exact DeepLL.nil | refine Deep.agg _ _ ?_ | refine Deep.tup _ _ ?_ | refine Deep.own _ _ _ _ _ _ _ _ rfl ?_ | refine Deep.loc _ _ _ _ _ rfl ?_ | refine Deep.ifc _ _ _ ?_ | refine Deep.fn _ _ _ _ _ ?_ ?_ | refine DeepL.cons _ _ _ _ ?_ ?_ | refine DeepLL.cons _ _ _ _ ?_ ?_ | exact zaq _))
 have h10 : ¬ 10 < A.length + P.length:=by ((try simp only[oo,reduceCtorEq]at*)<;>omega)
 rw [if_neg h10]
 have hI:=hT (by omega)
 have hn2:=zdR (n:=A.length + P.length) (by omega)
 refine zaA (zej (fun i=>i == 2 || i == 3) (env':=[(1,.loc 0 0),(2,.loc 1 0),(4,elD (elL A P)),(6,.loc 4 0),(7,.loc 5 0),(8,.sc (.int .i64 1)),(9,.sc (.int .i64 0))]) (H':=[.row true (drow f),.row true [.sc (.slice none 0 0),.sc (.slice none 0 0),.sc (.slice none 0 0),.sc (.slice none 0 0),.sc (.slice none 0 0)],.row false [.lst 3 (zaL (elL A P))],.row false [.fn (.func 52) [] [elD (elL A P)]],.row true [isF (elL A P) 4],.row true [.sc (.slice none 0 0),.sc (.slice none 0 0),.sc (.slice none 0 0),.sc (.slice none 0 0),.sc (.slice none 0 0)]]) ?_ ?_) ?_
 ·exact ⟨.refl _,.refl _,DeepM.loc _ _ _ _ _ rfl rfl (.refl _),.refl _,.refl _,.refl _,.refl _,trivial⟩
 ·exact ⟨⟨.inl rfl,(fun h=>by cases h),.refl _⟩,⟨.inl rfl,(fun h=>by cases h),.refl _⟩,⟨.inr ⟨rfl,rfl⟩,fun _=>rfl,.refl _⟩,⟨.inr ⟨rfl,rfl⟩,fun _=>rfl,.cons _ _ _ _ (.fn _ _ _ _ _ (.refl _) (.cons _ _ _ _ (DeepM.loc _ _ _ _ _ rfl rfl (.refl _)) (.refl _))) (.refl _)⟩,
   ⟨.inl rfl,(fun h=>by cases h),.cons _ _ _ _ (.fn _ _ _ _ _ (.refl _) (.cons _ _ _ _ (.refl _) (.cons _ _ _ _ (DeepM.loc _ _ _ _ _ rfl rfl (.cons _ _ _ _ (.fn _ _ _ _ _ (.refl _) (.cons _ _ _ _ (DeepM.loc _ _ _ _ _ rfl rfl (.refl _)) (.refl _))) (.refl _))) (.refl _)))) (.refl _)⟩,⟨.inl rfl,(fun h=>by cases h),.refl _⟩,trivial⟩
 have hcp:=zbj (elL A P)
 have hAn : (A.length + P.length : Nat)≤10:=by omega
 have hI2:=tab_is A P hI
 generalize hnn : A.length + P.length = n at *
 refine zfU (fun _ : Unit=>[(1,.loc 0 0),(2,.loc 1 0),(4,elD (elL A P)),(6,.loc 4 0),(7,.loc 5 0),(8,.sc (.int .i64 ((2 ^ n : Nat) : Int)))]) (fun _=>[.row true (drow f),.row true [.sc (.slice none 0 0),.sc (.slice none 0 0),.sc (.slice none 0 0),.sc (.slice none 0 0),.sc (.slice none 0 0)],.row false [.lst 3 (zaL (elL A P))],.row false [.fn (.func 52) [] [elD (elL A P)]],.row true [isF (elL A P) 4],.row true [.sc (.slice none 0 0),.sc (.slice none 0 0),.sc (.slice none 0 0),.sc (.slice none 0 0),.sc (.slice none 0 0)]]) (fun _=>True) ?_ ?_
 ·(apply zac; focus (repeat' constructor))
  ((conv=>whnf);repeat(refine⟨rfl,?_⟩;conv=>whnf))
  refine zaz [1,2,4,6,7] (fun k : Nat=>[(8,.sc (.int .i64 ((2 ^ k : Nat) : Int))),(9,.sc (.int .i64 k))]) (fun k=>[.row true (drow f),.row true [.sc (.slice none 0 0),.sc (.slice none 0 0),.sc (.slice none 0 0),.sc (.slice none 0 0),.sc (.slice none 0 0)],.row false [.lst 3 (zaL (elL A P))],.row false [.fn (.func 52) [] [elD (elL A P)]],.row true [isF (elL A P) 4],.row true [.sc (.slice none 0 0),.sc (.slice none 0 0),.sc (.slice none 0 0),.sc (.slice none 0 0),.sc (.slice none 0 0)]]) (fun k=>k≤n) (fun k=>n - k) 0 ?_
  ((conv=>whnf);repeat(refine⟨rfl,?_⟩;conv=>whnf))
  refine ⟨by omega,by (repeat' (first | exact trivial | refine And.intro rfl ?_)),rfl,?_⟩
  rintro k hk
  ((conv=>whnf);repeat(refine⟨rfl,?_⟩;conv=>whnf))
  (apply zac; focus (repeat' constructor))
  ((conv=>whnf);repeat(refine⟨rfl,?_⟩;conv=>whnf))
  unfold elD
  ((conv=>whnf);repeat(refine⟨rfl,?_⟩;conv=>whnf))
  rw [zbS,zcH,hnn]
  (refine zab (fun q0=>?_) (fun q0=>?_) <;> (rw [q0]; ((conv=>whnf);repeat(refine⟨rfl,?_⟩;conv=>whnf))))
  ·have q0 : k < n:=by ((try simp only[oo,reduceCtorEq]at*)<;>omega)
   have e : ((2 ^ k : Nat) : Int) * 2 = ((2 ^ (k + 1) : Nat) : Int):=by rw [Nat.pow_succ,Int.natCast_mul]; rfl
   have hb:=zdR (n:=k + 1) (by omega)
   rw [e]
   generalize hz : 2 ^ (k + 1) = z at *
   (refine .inl ⟨by (unfold InR; rw [IntKind.wrap_i64]; omega),?_⟩; ((conv=>whnf);repeat(refine⟨rfl,?_⟩;conv=>whnf)))
   (refine .inl ⟨by (unfold InR; rw [IntKind.wrap_i64]; omega),?_⟩; ((conv=>whnf);repeat(refine⟨rfl,?_⟩;conv=>whnf)))
   refine ⟨k + 1,by omega,by dsimp only; omega,zan ?_ rfl⟩
   dsimp only
   rw [hz]
   (repeat' (first | exact trivial | refine And.intro rfl ?_))
  ·have q0 : k = n:=by have : ¬ k < n:=by ((try simp only[oo,reduceCtorEq]at*)<;>omega)
                       omega
   subst q0
   exact ⟨(),trivial,zan (by (repeat' (first | exact trivial | refine And.intro rfl ?_))) rfl⟩
 intro _ _
 ((conv=>whnf);repeat(refine⟨rfl,?_⟩;conv=>whnf))
 generalize h2N : 2 ^ n = N at *
 refine ⟨by omega,by omega,by omega,?_⟩
 rw [Int.toNat_natCast]
 ((conv=>whnf);repeat(refine⟨rfl,?_⟩;conv=>whnf))
 have hIs : ∀ (g : Tree) (hw : g.wf pKids) (hT : Told A P g) (s : Nat) (H : List AObj),H[4]? = some (.row true [isF (elL A P) 4])→ARead Tryz.prog 56 [za7 g,.sc (.int .i64 s),.loc 4 0,chD (elL A P)] H (.sc (.bool (zaS (chE A P s) g))) [4]:=fun g hw hT s H hH =>
  zl4 (hI2 s g hw hT) [4] rfl (by simp) (by simp [zae,zai,zaf _ (zap _),zaf _ (zbj _)]) (by simp [zbg,AObj.under,isF,zae,zai,zaf _ (zbj _)]) (by simp [renL,D.ren,zbE _ (zbj _)]; rfl) (by simp [D.ren]) (fun i o ho=>by
   match i,ho with
   | 0,ho=>cases ho; rw [show ([4] : List Nat).getD 0 0 = 4 from rfl,hH]; simp [AObj.ren,isF,renL,D.ren,zbE _ (zbj _)]; rfl
   | i + 1,ho=>simp at ho) 4 (by simp) hH (by simp) (by simp)
 have hel2:=fun i (hi : i < A.length + P.length)=>hI.el hi
 refine zfU (fun _ : Unit=>[(1,.loc 0 0),(2,.loc 1 0),(4,elD (elL A P)),(6,.loc 4 0),(7,.loc 5 0),(8,.sc (.int .i64 N)),(10,.own 6 0 0 N)]) (fun _=>[.row true (drow f),.row true [.sc (.slice none 0 0),.sc (.slice none 0 0),.sc (.slice none 0 0),.sc (.slice none 0 0),.sc (.slice none 0 0)],.row false [.lst 3 (zaL (elL A P))],.row false [.fn (.func 52) [] [elD (elL A P)]],.row true [isF (elL A P) 4],.row true [.sc (.slice none 0 0),.sc (.slice none 0 0),.sc (.slice none 0 0),.sc (.slice none 0 0),.sc (.slice none 0 0)],.vec true 0 1 (((List.range N).map fun s=>zcb A P s n).map fun l=>[.lst 1 (l.map zdn)])]) (fun _=>True) ?_ ?_
 ·(apply zac; focus (repeat' constructor))
  ((conv=>whnf);repeat(refine⟨rfl,?_⟩;conv=>whnf))
  refine zaA (zjL 6 1 N 0 (by simp) rfl) ?_
  refine zaz [1,2,4,6,7,8,10] (fun s : Nat=>[(11,.sc (.int .i64 s))]) (fun s=>.row true (drow f) :: .row true [.sc (.slice none 0 0),.sc (.slice none 0 0),.sc (.slice none 0 0),.sc (.slice none 0 0),.sc (.slice none 0 0)] :: .row false [.lst 3 (zaL (elL A P))] :: .row false [.fn (.func 52) [] [elD (elL A P)]] :: .row true [isF (elL A P) 4] :: .row true [.sc (.slice none 0 0),.sc (.slice none 0 0),.sc (.slice none 0 0),.sc (.slice none 0 0),.sc (.slice none 0 0)] :: .vec true 0 1 (zcT 7 (curG N (fun s=>zcb A P s n) s [])) :: zbI 1 zdn (curG N (fun s=>zcb A P s n) s [])) (fun s=>s≤N) (fun s=>N - s) 0 ?_
  ((conv=>whnf);repeat(refine⟨rfl,?_⟩;conv=>whnf))
  refine ⟨by omega,by (repeat' (first | exact trivial | refine And.intro rfl ?_)),?_,?_⟩
  ·rw [zpi]
   show _ :: _ :: _ :: _ :: _ :: _ :: _ :: _ = _ :: _ :: _ :: _ :: _ :: _ :: _ :: _
   rw [zfG 1 _ zdn]
   exact congrArg (fun x=>_ :: _ :: _ :: _ :: _ :: _ :: AObj.vec true 0 1 x :: _) (zfR (α:=Bool) 7 _)
  rintro s hs
  ((conv=>whnf);repeat(refine⟨rfl,?_⟩;conv=>whnf))
  (apply zac; focus (repeat' constructor))
  ((conv=>whnf);repeat(refine⟨rfl,?_⟩;conv=>whnf))
  (refine zab (fun q0=>?_) (fun q0=>?_) <;> (rw [q0]; ((conv=>whnf);repeat(refine⟨rfl,?_⟩;conv=>whnf))))
  ·have q0 : s < N:=by ((try simp only[oo,reduceCtorEq]at*)<;>omega)
   refine zaz [1,2,4,6,7,8,10,11] (fun i : Nat=>[(12,.sc (.int .i64 i))]) (fun i=>.row true (drow f) :: .row true [.sc (.slice none 0 0),.sc (.slice none 0 0),.sc (.slice none 0 0),.sc (.slice none 0 0),.sc (.slice none 0 0)] :: .row false [.lst 3 (zaL (elL A P))] :: .row false [.fn (.func 52) [] [elD (elL A P)]] :: .row true [isF (elL A P) 4] :: .row true [.sc (.slice none 0 0),.sc (.slice none 0 0),.sc (.slice none 0 0),.sc (.slice none 0 0),.sc (.slice none 0 0)] :: .vec true 0 1 (zcT 7 (curG N (fun s=>zcb A P s n) s (zcb A P s i))) :: zbI 1 zdn (curG N (fun s=>zcb A P s n) s (zcb A P s i))) (fun i=>i≤n) (fun i=>n - i) 0 ?_
   ((conv=>whnf);repeat(refine⟨rfl,?_⟩;conv=>whnf))
   refine ⟨by omega,by (repeat' (first | exact trivial | refine And.intro rfl ?_)),rfl,?_⟩
   rintro i hi
   unfold elD
   ((conv=>whnf);repeat(refine⟨rfl,?_⟩;conv=>whnf))
   (apply zac; focus (repeat' constructor))
   ((conv=>whnf);repeat(refine⟨rfl,?_⟩;conv=>whnf))
   rw [zbS,zcH,hnn]
   (refine zab (fun q1=>?_) (fun q1=>?_) <;> (rw [q1]; ((conv=>whnf);repeat(refine⟨rfl,?_⟩;conv=>whnf))))
   ·have q1 : i < n:=by ((try simp only[oo,reduceCtorEq]at*)<;>omega)
    refine ⟨by omega,_,zd8 (k:=i) (by omega) (by rw [zcH]; omega),?_⟩
    ((conv=>whnf);repeat(refine⟨rfl,?_⟩;conv=>whnf))
    refine zlK ?_
    ((conv=>whnf);repeat(refine⟨rfl,?_⟩;conv=>whnf))
    (repeat (first | (refine zce 0 rfl ?_; ((conv=>whnf);repeat(refine⟨rfl,?_⟩;conv=>whnf))) | (refine zcd 0 rfl ?_; ((conv=>whnf);repeat(refine⟨rfl,?_⟩;conv=>whnf))) | (refine zce 1 rfl ?_; ((conv=>whnf);repeat(refine⟨rfl,?_⟩;conv=>whnf))) | (refine zcd 1 rfl ?_; ((conv=>whnf);repeat(refine⟨rfl,?_⟩;conv=>whnf)))))
    obtain ⟨hwE,hTE,-,hkE⟩:=hel2 i (by omega)
    have hrk : rk A P s i = zaS (chE A P s) (zhk ((elL A P).getD i default)):=rfl
    have hset:=curG_set (N:=N) (T:=fun s=>zcb A P s n) (c:=zcb A P s i) (c':=zcb A P s (i + 1)) q0
    have hat:=curG_at (N:=N) (T:=fun s=>zcb A P s n) (c:=zcb A P s i) q0
    have hlen:=curG_len N (fun s=>zcb A P s n) s (zcb A P s i)
    have hrs:=znj A P s i
    have hrl:=zn9 A P s i
    rw [hrs] at hset
    generalize rk A P s i = b at *
    generalize zcb A P s i = C at *
    generalize (elL A P).getD i default = g at *
    generalize curG N (fun s=>zcb A P s n) s C = R at *
    (refine zab (fun g7=>?_) (fun g7=>?_) <;> (rw [g7]; ((conv=>whnf);repeat(refine⟨rfl,?_⟩;conv=>whnf))))
    ·have g7 : g.kind = 7:=by simpa using g7
     have w0 : 0 < g.width:=zcD (wf_p hwE) (by omega)
     have hwb:=zbB hwE w0
     have hTb:=hTE.kid w0
     rw [show zhk g = g.kid 0 from if_pos g7] at hrk
     (repeat (first | (refine zce 0 rfl ?_; ((conv=>whnf);repeat(refine⟨rfl,?_⟩;conv=>whnf))) | (refine zcd 0 rfl ?_; ((conv=>whnf);repeat(refine⟨rfl,?_⟩;conv=>whnf))) | (refine zce 1 rfl ?_; ((conv=>whnf);repeat(refine⟨rfl,?_⟩;conv=>whnf))) | (refine zcd 1 rfl ?_; ((conv=>whnf);repeat(refine⟨rfl,?_⟩;conv=>whnf)))))
     refine ⟨by omega,_,zaZ w0,?_⟩
     ((conv=>whnf);repeat(refine⟨rfl,?_⟩;conv=>whnf))
     (repeat (first | (refine zce 0 rfl ?_; ((conv=>whnf);repeat(refine⟨rfl,?_⟩;conv=>whnf))) | (refine zcd 0 rfl ?_; ((conv=>whnf);repeat(refine⟨rfl,?_⟩;conv=>whnf))) | (refine zce 1 rfl ?_; ((conv=>whnf);repeat(refine⟨rfl,?_⟩;conv=>whnf))) | (refine zcd 1 rfl ?_; ((conv=>whnf);repeat(refine⟨rfl,?_⟩;conv=>whnf)))))
     (refine ⟨by omega,(by first | omega | (simp; done) | (simp; omega) | (simp only [ll]; omega)),?_⟩; ((conv=>whnf);repeat(refine⟨rfl,?_⟩;conv=>whnf)))
     refine ⟨_,zcz (i:=s) (by omega) (by rw [hlen]; omega),?_⟩
     ((conv=>whnf);repeat(refine⟨rfl,?_⟩;conv=>whnf))
     (repeat (first | (refine zce 0 rfl ?_; ((conv=>whnf);repeat(refine⟨rfl,?_⟩;conv=>whnf))) | (refine zcd 0 rfl ?_; ((conv=>whnf);repeat(refine⟨rfl,?_⟩;conv=>whnf))) | (refine zce 1 rfl ?_; ((conv=>whnf);repeat(refine⟨rfl,?_⟩;conv=>whnf))) | (refine zcd 1 rfl ?_; ((conv=>whnf);repeat(refine⟨rfl,?_⟩;conv=>whnf)))))
     (refine .inr (.inr (.inr (.inr (.inr (.inr ⟨_,_,(hIs _ hwb hTb s _ rfl),?_⟩))))); ((conv=>whnf);repeat(refine⟨rfl,?_⟩;conv=>whnf)))
     rw [← hrk]
     refine zlR ?_
     ((conv=>whnf);repeat(refine⟨rfl,?_⟩;conv=>whnf))
     (repeat (first | (refine zce 0 rfl ?_; ((conv=>whnf);repeat(refine⟨rfl,?_⟩;conv=>whnf))) | (refine zcd 0 rfl ?_; ((conv=>whnf);repeat(refine⟨rfl,?_⟩;conv=>whnf))) | (refine zce 1 rfl ?_; ((conv=>whnf);repeat(refine⟨rfl,?_⟩;conv=>whnf))) | (refine zcd 1 rfl ?_; ((conv=>whnf);repeat(refine⟨rfl,?_⟩;conv=>whnf)))))
     refine zjk (by omega) ?_
     ((conv=>whnf);repeat(refine⟨rfl,?_⟩;conv=>whnf))
     rw [hat]
     refine ⟨by unfold zaj; simp only [List.length_drop,List.length_take,List.length_cons,List.length_nil]; omega,?_⟩
     ((conv=>whnf);repeat(refine⟨rfl,?_⟩;conv=>whnf))
     refine zjY (C ++ [b]) (by omega) ?_ ?_
     ·exact zms
     ((conv=>whnf);repeat(refine⟨rfl,?_⟩;conv=>whnf))
     (refine ⟨by omega,(by first | omega | (simp; done) | (simp; omega) | (simp only [ll]; omega)),?_⟩; ((conv=>whnf);repeat(refine⟨rfl,?_⟩;conv=>whnf)))
     refine ⟨_,zcz (i:=s) (by omega) (by omega),?_⟩
     ((conv=>whnf);repeat(refine⟨rfl,?_⟩;conv=>whnf))
     (refine .inl ⟨by (unfold InR; rw [IntKind.wrap_i64]; omega),?_⟩; ((conv=>whnf);repeat(refine⟨rfl,?_⟩;conv=>whnf)))
     refine ⟨i + 1,by omega,by dsimp only; omega,?_⟩
     dsimp only
     rw [hrs,← hset]
     have hl2 : (R.set s (C ++ [b])).length = N:=by rw [List.length_set,hlen]
     refine zal (N + 7) (by simp) (by simp [hl2]) (by (repeat' (first | exact trivial | exact rfl | exact DeepM.refl _ | exact DeepML.refl _ | exact DeepMLL.refl _ | refine And.intro ?_ ?_ | (simp [zai,zae,zak,-List.map_take,-List.map_drop]; done)))) ⟨⟨rfl,.refl _,zad _ (zar _)⟩,⟨rfl,.refl _,by simp [zae,zai]⟩,⟨rfl,.refl _,by simp [zae,zai]⟩,⟨rfl,.refl _,by simp [zae,zai,elD]⟩,⟨rfl,.refl _,by simp [zae,zai,isF,zaf _ (zbj _)]⟩,⟨rfl,.refl _,by simp [zae,zai]⟩,⟨rfl,rfl,rfl,zah ?_,zc9 (by rw [List.length_set]; omega)⟩,zgk zh4⟩
     exact (zfi (by omega) (by omega) (C ++ [b]) (by simp))
    ·have g7 : ¬ g.kind = 7:=by simpa using g7
     have hwb:=hwE
     have hTb:=hTE
     rw [show zhk g = g from if_neg g7] at hrk
     (refine ⟨by omega,(by first | omega | (simp; done) | (simp; omega) | (simp only [ll]; omega)),?_⟩; ((conv=>whnf);repeat(refine⟨rfl,?_⟩;conv=>whnf)))
     refine ⟨_,zcz (i:=s) (by omega) (by rw [hlen]; omega),?_⟩
     ((conv=>whnf);repeat(refine⟨rfl,?_⟩;conv=>whnf))
     (repeat (first | (refine zce 0 rfl ?_; ((conv=>whnf);repeat(refine⟨rfl,?_⟩;conv=>whnf))) | (refine zcd 0 rfl ?_; ((conv=>whnf);repeat(refine⟨rfl,?_⟩;conv=>whnf))) | (refine zce 1 rfl ?_; ((conv=>whnf);repeat(refine⟨rfl,?_⟩;conv=>whnf))) | (refine zcd 1 rfl ?_; ((conv=>whnf);repeat(refine⟨rfl,?_⟩;conv=>whnf)))))
     (refine .inr (.inr (.inr (.inr (.inr (.inr ⟨_,_,(hIs _ hwb hTb s _ rfl),?_⟩))))); ((conv=>whnf);repeat(refine⟨rfl,?_⟩;conv=>whnf)))
     rw [← hrk]
     refine zlR ?_
     ((conv=>whnf);repeat(refine⟨rfl,?_⟩;conv=>whnf))
     (repeat (first | (refine zce 0 rfl ?_; ((conv=>whnf);repeat(refine⟨rfl,?_⟩;conv=>whnf))) | (refine zcd 0 rfl ?_; ((conv=>whnf);repeat(refine⟨rfl,?_⟩;conv=>whnf))) | (refine zce 1 rfl ?_; ((conv=>whnf);repeat(refine⟨rfl,?_⟩;conv=>whnf))) | (refine zcd 1 rfl ?_; ((conv=>whnf);repeat(refine⟨rfl,?_⟩;conv=>whnf)))))
     refine zjk (by omega) ?_
     ((conv=>whnf);repeat(refine⟨rfl,?_⟩;conv=>whnf))
     rw [hat]
     refine ⟨by unfold zaj; simp only [List.length_drop,List.length_take,List.length_cons,List.length_nil]; omega,?_⟩
     ((conv=>whnf);repeat(refine⟨rfl,?_⟩;conv=>whnf))
     refine zjY (C ++ [b]) (by omega) ?_ ?_
     ·exact zms
     ((conv=>whnf);repeat(refine⟨rfl,?_⟩;conv=>whnf))
     (refine ⟨by omega,(by first | omega | (simp; done) | (simp; omega) | (simp only [ll]; omega)),?_⟩; ((conv=>whnf);repeat(refine⟨rfl,?_⟩;conv=>whnf)))
     refine ⟨_,zcz (i:=s) (by omega) (by omega),?_⟩
     ((conv=>whnf);repeat(refine⟨rfl,?_⟩;conv=>whnf))
     (refine .inl ⟨by (unfold InR; rw [IntKind.wrap_i64]; omega),?_⟩; ((conv=>whnf);repeat(refine⟨rfl,?_⟩;conv=>whnf)))
     refine ⟨i + 1,by omega,by dsimp only; omega,?_⟩
     dsimp only
     rw [hrs,← hset]
     have hl2 : (R.set s (C ++ [b])).length = N:=by rw [List.length_set,hlen]
     refine zal (N + 7) (by simp) (by simp [hl2]) (by (repeat' (first | exact trivial | exact rfl | exact DeepM.refl _ | exact DeepML.refl _ | exact DeepMLL.refl _ | refine And.intro ?_ ?_ | (simp [zai,zae,zak,-List.map_take,-List.map_drop]; done)))) ⟨⟨rfl,.refl _,zad _ (zar _)⟩,⟨rfl,.refl _,by simp [zae,zai]⟩,⟨rfl,.refl _,by simp [zae,zai]⟩,⟨rfl,.refl _,by simp [zae,zai,elD]⟩,⟨rfl,.refl _,by simp [zae,zai,isF,zaf _ (zbj _)]⟩,⟨rfl,.refl _,by simp [zae,zai]⟩,⟨rfl,rfl,rfl,zah ?_,zc9 (by rw [List.length_set]; omega)⟩,zgk zh4⟩
     exact (zfi (by omega) (by omega) (C ++ [b]) (by simp))
   ·have q1 : i = n:=by have : ¬ i < n:=by ((try simp only[oo,reduceCtorEq]at*)<;>omega)
                        omega
    subst q1
    rw [zop rfl]
    (refine .inl ⟨by (unfold InR; rw [IntKind.wrap_i64]; omega),?_⟩; ((conv=>whnf);repeat(refine⟨rfl,?_⟩;conv=>whnf)))
    exact ⟨s + 1,by omega,by dsimp only; omega,zan (by (repeat' (first | exact trivial | refine And.intro rfl ?_))) rfl⟩
  ·have q0 : s = N:=by have : ¬ s < N:=by ((try simp only[oo,reduceCtorEq]at*)<;>omega)
                       omega
   subst q0
   rw [zoz]
   refine ⟨(),trivial,zal 7 (by simp) rfl (by (repeat' (first | exact trivial | exact rfl | exact DeepM.refl _ | exact DeepML.refl _ | exact DeepMLL.refl _ | refine And.intro ?_ ?_ | (simp [zai,zae,zak,-List.map_take,-List.map_drop]; done)))) ⟨⟨rfl,.refl _,zad _ (zar _)⟩,⟨rfl,.refl _,by simp [zae,zai]⟩,⟨rfl,.refl _,by simp [zae,zai]⟩,⟨rfl,.refl _,by simp [zae,zai,elD]⟩,⟨rfl,.refl _,by simp [zae,zai,isF,zaf _ (zbj _)]⟩,⟨rfl,.refl _,by simp [zae,zai]⟩,⟨rfl,rfl,rfl,ze6 (c:=zdn) (fun i hi=>by simp [zfH]) (fun i hi=>?_),zaa _ (zbu _)⟩,zgJ _⟩⟩
   exact zgl hi
 intro _ _
 ((conv=>whnf);repeat(refine⟨rfl,?_⟩;conv=>whnf))
 have hpow : ∀ s,s < N→s < 2 ^ (A.length + P.length):=fun s hs=>by rw [hnn,h2N]; exact hs
 refine zfU (fun _ : Unit=>[(1,.loc 0 0),(2,.loc 1 0),(4,elD (elL A P)),(6,.loc 4 0),(7,.loc 5 0),(8,.sc (.int .i64 N))])
  (fun _=>[.row true (drow f),.row true [.sc (.slice none 0 0),.sc (.slice none 0 0),.sc (.slice none 0 0),.sc (.slice none 0 0),.sc (.slice none 0 0)],.row false [.lst 3 (zaL (elL A P))],.row false [.fn (.func 52) [] [elD (elL A P)]],.row true [isF (elL A P) 4],.row true [.own 7 (stE A P f N).length 0 (stE A P f N).length,.own 8 N 0 N,.own 9 N 0 N,.own 10 N 0 N,.sc (.slice none 0 0)],.vec true 0 1 (((List.range N).map fun s=>zcb A P s n).map fun l=>[.lst 1 (l.map zdn)]),.vec true (stE A P f N).length 1 (i64s (stE A P f N)),.vec true N 1 (zba (tnxE A P N)),.vec true N 1 (u64r (leE A true N)),.vec true N 1 (u64r (leE A false N))]) (fun _=>True) ?_ ?_
 ·(apply zac; focus (repeat' constructor))
  ((conv=>whnf);repeat(refine⟨rfl,?_⟩;conv=>whnf))
  refine zaA (zb1 (zbp 5 0 1 (by simp) rfl rfl) (zb1 (zbp 5 1 1 (by simp) rfl rfl) (zb1 (zbp 5 2 1 (by simp) rfl rfl) (zbp 5 3 1 (by simp) rfl rfl)))) ?_
  refine zaz [1,2,4,6,7,8,10] (fun s : Nat=>[(14,.sc (.int .i64 s))]) (fun s=>[.row true (drow f),.row true [.sc (.slice none 0 0),.sc (.slice none 0 0),.sc (.slice none 0 0),.sc (.slice none 0 0),.sc (.slice none 0 0)],.row false [.lst 3 (zaL (elL A P))],.row false [.fn (.func 52) [] [elD (elL A P)]],.row true [isF (elL A P) 4],.row true [.own 7 (stE A P f s).length 0 (stE A P f s).length,.own 8 s 0 s,.own 9 s 0 s,.own 10 s 0 s,.sc (.slice none 0 0)],.vec true 0 1 (((List.range N).map fun s=>zcb A P s n).map fun l=>[.lst 1 (l.map zdn)]),.vec true (stE A P f s).length 1 (i64s (stE A P f s)),.vec true s 1 (zba (tnxE A P s)),.vec true s 1 (u64r (leE A true s)),.vec true s 1 (u64r (leE A false s))]) (fun s=>s≤N) (fun s=>N - s) 0 ?_
  ((conv=>whnf);repeat(refine⟨rfl,?_⟩;conv=>whnf))
  refine ⟨by omega,by (repeat' (first | exact trivial | refine And.intro rfl ?_)),rfl,?_⟩
  rintro s hs
  have hsl:=zoG A P f s
  ((conv=>whnf);repeat(refine⟨rfl,?_⟩;conv=>whnf))
  (apply zac; focus (repeat' constructor))
  ((conv=>whnf);repeat(refine⟨rfl,?_⟩;conv=>whnf))
  (refine zab (fun q0=>?_) (fun q0=>?_) <;> (rw [q0]; ((conv=>whnf);repeat(refine⟨rfl,?_⟩;conv=>whnf))))
  ·have q0 : s < N:=by ((try simp only[oo,reduceCtorEq]at*)<;>omega)
   have eS:=zmb A P f s
   have eN:=zkE A P s
   have eT:=zhm A true s
   have eF:=zhm A false s
   have hnx:=nxR_all (hpow s q0)
   rw [hnn,h2N] at hnx
   rw [hnn,← hnx] at eN
   (refine .inr (.inr (.inr (.inr (.inr (.inr ⟨_,_,(hIs f hwp hTf s _ rfl),?_⟩))))); ((conv=>whnf);repeat(refine⟨rfl,?_⟩;conv=>whnf)))
   cases r : zaS (chE A P s) f
   ·rw [r,if_neg (by decide)] at eS
    ((conv=>whnf);repeat(refine⟨rfl,?_⟩;conv=>whnf))
    refine zaA (zcu 15 1 (by simp) rfl) ?_
    refine zaz [1,2,4,6,7,8,10,14] (fun t : Nat=>[(15,.own 11 (nxR A P s t).length 0 (nxR A P s t).length),(16,.sc (.int .i64 t))]) (fun t=>[.row true (drow f),.row true [.sc (.slice none 0 0),.sc (.slice none 0 0),.sc (.slice none 0 0),.sc (.slice none 0 0),.sc (.slice none 0 0)],.row false [.lst 3 (zaL (elL A P))],.row false [.fn (.func 52) [] [elD (elL A P)]],.row true [isF (elL A P) 4],.row true [.own 7 (stE A P f s).length 0 (stE A P f s).length,.own 8 s 0 s,.own 9 s 0 s,.own 10 s 0 s,.sc (.slice none 0 0)],.vec true 0 1 (((List.range N).map fun s=>zcb A P s n).map fun l=>[.lst 1 (l.map zdn)]),.vec true (stE A P f s).length 1 (i64s (stE A P f s)),.vec true s 1 (zba (tnxE A P s)),.vec true s 1 (u64r (leE A true s)),.vec true s 1 (u64r (leE A false s)),.vec true (nxR A P s t).length 1 (i64s (nxR A P s t))]) (fun t=>t≤N) (fun t=>N - t) 0 ?_
    ((conv=>whnf);repeat(refine⟨rfl,?_⟩;conv=>whnf))
    refine ⟨by omega,by (repeat' (first | exact trivial | refine And.intro rfl ?_)),rfl,?_⟩
    rintro t ht
    have hxl:=znJ A P s t
    ((conv=>whnf);repeat(refine⟨rfl,?_⟩;conv=>whnf))
    (apply zac; focus (repeat' constructor))
    ((conv=>whnf);repeat(refine⟨rfl,?_⟩;conv=>whnf))
    (refine zab (fun q1=>?_) (fun q1=>?_) <;> (rw [q1]; ((conv=>whnf);repeat(refine⟨rfl,?_⟩;conv=>whnf))))
    ·have q1 : t < N:=by ((try simp only[oo,reduceCtorEq]at*)<;>omega)
     have eX:=zmi A P s t
     rw [hnn] at eX
     refine zaz [1,2,4,6,7,8,10,14,15,16] (fun i : Nat=>[(17,.sc (.bool (rOk A P s t i))),(18,.sc (.int .i64 i))]) (fun i=>[.row true (drow f),.row true [.sc (.slice none 0 0),.sc (.slice none 0 0),.sc (.slice none 0 0),.sc (.slice none 0 0),.sc (.slice none 0 0)],.row false [.lst 3 (zaL (elL A P))],.row false [.fn (.func 52) [] [elD (elL A P)]],.row true [isF (elL A P) 4],.row true [.own 7 (stE A P f s).length 0 (stE A P f s).length,.own 8 s 0 s,.own 9 s 0 s,.own 10 s 0 s,.sc (.slice none 0 0)],.vec true 0 1 (((List.range N).map fun s=>zcb A P s n).map fun l=>[.lst 1 (l.map zdn)]),.vec true (stE A P f s).length 1 (i64s (stE A P f s)),.vec true s 1 (zba (tnxE A P s)),.vec true s 1 (u64r (leE A true s)),.vec true s 1 (u64r (leE A false s)),.vec true (nxR A P s t).length 1 (i64s (nxR A P s t))]) (fun i=>i≤n) (fun i=>n - i) 0 ?_
     ((conv=>whnf);repeat(refine⟨rfl,?_⟩;conv=>whnf))
     refine ⟨by omega,by (repeat' (first | exact trivial | refine And.intro rfl ?_)),rfl,?_⟩
     rintro i hi
     have eO:=zjO A P s t i
     unfold elD
     ((conv=>whnf);repeat(refine⟨rfl,?_⟩;conv=>whnf))
     (apply zac; focus (repeat' constructor))
     ((conv=>whnf);repeat(refine⟨rfl,?_⟩;conv=>whnf))
     rw [zbS,zcH,hnn]
     (refine zab (fun q2=>?_) (fun q2=>?_) <;> (rw [q2]; ((conv=>whnf);repeat(refine⟨rfl,?_⟩;conv=>whnf))))
     ·have q2 : i < n:=by ((try simp only[oo,reduceCtorEq]at*)<;>omega)
      cases ro : rOk A P s t i
      ·have ro2:=zmu ro (Nat.le_of_lt q2)
       rw [ro2,if_neg (by decide)] at eX
       ((conv=>whnf);repeat(refine⟨rfl,?_⟩;conv=>whnf))
       (refine .inl ⟨by (unfold InR; rw [IntKind.wrap_i64]; omega),?_⟩; ((conv=>whnf);repeat(refine⟨rfl,?_⟩;conv=>whnf)))
       refine ⟨t + 1,by omega,by dsimp only; omega,?_⟩
       dsimp only
       rw [eX]
       exact zan (by (repeat' (first | exact trivial | refine And.intro rfl ?_))) rfl
      ·rw [ro,Bool.true_and] at eO
       ((conv=>whnf);repeat(refine⟨rfl,?_⟩;conv=>whnf))
       obtain ⟨-,-,hkA,-⟩:=hel2 i (by omega)
       refine ⟨by omega,_,zd8 (k:=i) (by omega) (by rw [zcH]; omega),?_⟩
       ((conv=>whnf);repeat(refine⟨rfl,?_⟩;conv=>whnf))
       by_cases q3 : i < A.length
       ·have e3 : (((elL A P).getD i default).kind == 3) = true:=by simpa using hkA.2 q3
        rw [decide_eq_true q3,Bool.true_or] at eO
        rw [e3]
        ((conv=>whnf);repeat(refine⟨rfl,?_⟩;conv=>whnf))
        (refine .inl ⟨by (unfold InR; rw [IntKind.wrap_i64]; omega),?_⟩; ((conv=>whnf);repeat(refine⟨rfl,?_⟩;conv=>whnf)))
        refine ⟨i + 1,by omega,by dsimp only; omega,?_⟩
        dsimp only
        rw [eO]
        exact zan (by (repeat' (first | exact trivial | refine And.intro rfl ?_))) rfl
       ·have e3 : (((elL A P).getD i default).kind == 3) = false:=by
         rw [beq_eq_false_iff_ne]; exact fun h=>q3 (hkA.1 h)
        rw [decide_eq_false q3,Bool.false_or] at eO
        have eb : (((s : Int).fdiv (2 ^ min ((i : Int)).toNat IntKind.i64.bits)).tmod 2 == 1) = s.testBit i:=znM s i (by omega)
        rw [e3]
        ((conv=>whnf);repeat(refine⟨rfl,?_⟩;conv=>whnf))
        (refine ⟨by omega,(by first | omega | (simp; done) | (simp; omega) | (simp only [ll]; omega)),?_⟩; ((conv=>whnf);repeat(refine⟨rfl,?_⟩;conv=>whnf)))
        refine ⟨_,znG (t:=t) (by omega) q1,?_⟩
        ((conv=>whnf);repeat(refine⟨rfl,?_⟩;conv=>whnf))
        refine ⟨by omega,_,rkc_at (i:=i) (by omega) q2,?_⟩
        ((conv=>whnf);repeat(refine⟨rfl,?_⟩;conv=>whnf))
        refine ⟨by omega,?_⟩
        ((conv=>whnf);repeat(refine⟨rfl,?_⟩;conv=>whnf))
        refine ⟨by omega,?_⟩
        ((conv=>whnf);repeat(refine⟨rfl,?_⟩;conv=>whnf))
        (refine .inl ⟨by (unfold InR; rw [IntKind.wrap_i64]; omega),?_⟩; ((conv=>whnf);repeat(refine⟨rfl,?_⟩;conv=>whnf)))
        refine ⟨i + 1,by omega,by dsimp only; omega,?_⟩
        dsimp only
        rw [eO,← eb]
        exact zan (by (repeat' (first | exact trivial | refine And.intro rfl ?_))) rfl
     ·have q2 : i = n:=by have : ¬ i < n:=by ((try simp only[oo,reduceCtorEq]at*)<;>omega)
                          omega
      subst q2
      cases ro : rOk A P s t i
      ·rw [ro,if_neg (by decide)] at eX
       ((conv=>whnf);repeat(refine⟨rfl,?_⟩;conv=>whnf))
       (refine .inl ⟨by (unfold InR; rw [IntKind.wrap_i64]; omega),?_⟩; ((conv=>whnf);repeat(refine⟨rfl,?_⟩;conv=>whnf)))
       refine ⟨t + 1,by omega,by dsimp only; omega,?_⟩
       dsimp only
       rw [eX]
       exact zan (by (repeat' (first | exact trivial | refine And.intro rfl ?_))) rfl
      ·rw [ro,if_pos rfl] at eX
       ((conv=>whnf);repeat(refine⟨rfl,?_⟩;conv=>whnf))
       refine ⟨(by unfold zaj; simp only [ll]; omega),?_⟩
       ((conv=>whnf);repeat(refine⟨rfl,?_⟩;conv=>whnf))
       (refine .inl ⟨by (unfold InR; rw [IntKind.wrap_i64]; omega),?_⟩; ((conv=>whnf);repeat(refine⟨rfl,?_⟩;conv=>whnf)))
       refine ⟨t + 1,by omega,by dsimp only; omega,?_⟩
       dsimp only
       rw [eX]
       rw [show (nxR A P s t ++ [(t : Int)]).length = (nxR A P s t).length + 1 by simp]
       (refine zal (11 + 1) (by simp) rfl ?_ ?_ <;> (repeat' (first | exact trivial | exact rfl | exact DeepM.refl _ | exact DeepML.refl _ | exact DeepMLL.refl _ | refine And.intro ?_ ?_ | (simp [zai,zae,zak,-List.map_take,-List.map_drop]; done))))
       all_goals
        first | exact zad _ (zar _) | exact zaf _ (zam _) | exact zad _ (by simp [zao,Pure,elD,zat]; done) | exact zaa _ (zbu _) | exact zaa _ (zbi _) | exact zaa _ (zaP _) | exact zaa _ (zat _) | exact zaa _ (zas _ (fun l=>by simp [zao,Pure]) _) | exact zaf _ (zbj _) | exact zah (zbk (by simp)) | exact za9 (by simp) rfl rfl rfl | exact zah (zaR _ _) | skip
    ·have q1 : t = N:=by have : ¬ t < N:=by ((try simp only[oo,reduceCtorEq]at*)<;>omega)
                         omega
     obtain rfl : N = t:=q1.symm
     refine ⟨(by unfold zaj; simp only [ll]; omega),?_⟩
     ((conv=>whnf);repeat(refine⟨rfl,?_⟩;conv=>whnf))
     refine zaz [1,2,4,6,7,8,10,14] (fun i : Nat=>[(19,.sc (.int .u64 (zeZ A s true i))),(20,.sc (.int .u64 (zeZ A s false i))),(21,.sc (.int .i64 i))]) (fun i=>[.row true (drow f),.row true [.sc (.slice none 0 0),.sc (.slice none 0 0),.sc (.slice none 0 0),.sc (.slice none 0 0),.sc (.slice none 0 0)],.row false [.lst 3 (zaL (elL A P))],.row false [.fn (.func 52) [] [elD (elL A P)]],.row true [isF (elL A P) 4],.row true [.own 7 (stE A P f s).length 0 (stE A P f s).length,.own 8 (s + 1) 0 (s + 1),.own 9 s 0 s,.own 10 s 0 s,.sc (.slice none 0 0)],.vec true 0 1 (((List.range N).map fun s=>zcb A P s n).map fun l=>[.lst 1 (l.map zdn)]),.vec true (stE A P f s).length 1 (i64s (stE A P f s)),.vec true (s + 1) 1 (List.drop 0 (List.take s (zba (tnxE A P s))) ++ List.drop 0 (List.take 1 [[D.own 11 (nxR A P s N).length 0 (nxR A P s N).length]])),.vec true s 1 (u64r (leE A true s)),.vec true s 1 (u64r (leE A false s)),.vec true (nxR A P s N).length 1 (i64s (nxR A P s N)),.vec true 0 1 [[.own 11 (nxR A P s N).length 0 (nxR A P s N).length]]]) (fun i=>i≤n) (fun i=>n - i) 0 ?_
     ((conv=>whnf);repeat(refine⟨rfl,?_⟩;conv=>whnf))
     refine ⟨by omega,by (repeat' (first | exact trivial | refine And.intro rfl ?_)),rfl,?_⟩
     rintro i hi
     unfold elD
     ((conv=>whnf);repeat(refine⟨rfl,?_⟩;conv=>whnf))
     (apply zac; focus (repeat' constructor))
     ((conv=>whnf);repeat(refine⟨rfl,?_⟩;conv=>whnf))
     rw [zbS,zcH,hnn]
     (refine zab (fun q2=>?_) (fun q2=>?_) <;> (rw [q2]; ((conv=>whnf);repeat(refine⟨rfl,?_⟩;conv=>whnf))))
     ·have q2 : i < n:=by ((try simp only[oo,reduceCtorEq]at*)<;>omega)
      obtain ⟨-,-,hkA,-⟩:=hel2 i (by omega)
      have hta:=fun (z : Nat) (hz : z = i)=>zd8 (P:=elL A P) hz (by rw [zcH]; omega)
      refine ⟨by omega,_,hta _ (by omega),?_⟩
      ((conv=>whnf);repeat(refine⟨rfl,?_⟩;conv=>whnf))
      by_cases q3 : i < A.length
      ·have e3 : (((elL A P).getD i default).kind == 3) = true:=by simpa using hkA.2 q3
       have e4 : ((elL A P).getD i default).num = A.getD i 0:=by rw [zjp q3]; rfl
       have hx:=hI.atoms _ (zaM q3)
       have lT:=zfh (s:=s) (is:=true) q3
       have lF:=zfh (s:=s) (is:=false) q3
       rw [e3]
       generalize (elL A P).getD i default = g at *
       generalize A.getD i 0 = x at *
       have eb : (((s : Int).fdiv (2 ^ min ((i : Int)).toNat IntKind.i64.bits)).tmod 2 == 1) = s.testBit i:=znM s i (by omega)
       have e1 : (1 : Int) * 2 ^ min x.toNat IntKind.u64.bits = 2 ^ x.toNat:=by
        rw [show IntKind.u64.bits = 64 from rfl,Nat.min_eq_left (by omega),Int.one_mul]
       have hb2 : (0 : Int)≤2 ^ x.toNat∧(2 : Int) ^ x.toNat < 18446744073709551616:=by
        have h1 : 2 ^ x.toNat≤2 ^ 63:=Nat.pow_le_pow_right (by omega) (by omega)
        have h2 : (2 : Nat) ^ 63 = 9223372036854775808:=by decide
        rw [zhs]
        generalize 2 ^ x.toNat = z at *
        omega
       ((conv=>whnf);repeat(refine⟨rfl,?_⟩;conv=>whnf))
       refine ⟨by omega,?_⟩
       ((conv=>whnf);repeat(refine⟨rfl,?_⟩;conv=>whnf))
       refine ⟨by omega,?_⟩
       ((conv=>whnf);repeat(refine⟨rfl,?_⟩;conv=>whnf))
       rw [eb]
       cases rb : s.testBit i
       ·rw [rb,if_neg (by decide)] at lT
        rw [rb,if_pos (by decide)] at lF
        ((conv=>whnf);repeat(refine⟨rfl,?_⟩;conv=>whnf))
        refine ⟨by omega,_,hta _ (by omega),?_⟩
        ((conv=>whnf);repeat(refine⟨rfl,?_⟩;conv=>whnf))
        rw [e3]
        ((conv=>whnf);repeat(refine⟨rfl,?_⟩;conv=>whnf))
        refine ⟨by omega,_,hta _ (by omega),?_⟩
        ((conv=>whnf);repeat(refine⟨rfl,?_⟩;conv=>whnf))
        rw [e4]
        refine ⟨by omega,?_⟩
        rw [e1]
        refine .inl ⟨by unfold InR; rw [IntKind.wrap_u64]; omega,?_⟩
        ((conv=>whnf);repeat(refine⟨rfl,?_⟩;conv=>whnf))
        (refine .inl ⟨by (unfold InR; rw [IntKind.wrap_i64]; omega),?_⟩; ((conv=>whnf);repeat(refine⟨rfl,?_⟩;conv=>whnf)))
        refine ⟨i + 1,by omega,by dsimp only; omega,?_⟩
        dsimp only
        rw [lT,lF]
        exact zan (by (repeat' (first | exact trivial | refine And.intro rfl ?_))) rfl
       ·rw [rb,if_pos (by decide)] at lT
        rw [rb,if_neg (by decide)] at lF
        ((conv=>whnf);repeat(refine⟨rfl,?_⟩;conv=>whnf))
        refine ⟨by omega,_,hta _ (by omega),?_⟩
        ((conv=>whnf);repeat(refine⟨rfl,?_⟩;conv=>whnf))
        rw [e4]
        refine ⟨by omega,?_⟩
        rw [e1]
        refine .inl ⟨by unfold InR; rw [IntKind.wrap_u64]; omega,?_⟩
        ((conv=>whnf);repeat(refine⟨rfl,?_⟩;conv=>whnf))
        (refine .inl ⟨by (unfold InR; rw [IntKind.wrap_i64]; omega),?_⟩; ((conv=>whnf);repeat(refine⟨rfl,?_⟩;conv=>whnf)))
        refine ⟨i + 1,by omega,by dsimp only; omega,?_⟩
        dsimp only
        rw [lT,lF]
        exact zan (by (repeat' (first | exact trivial | refine And.intro rfl ?_))) rfl
      ·have e3 : (((elL A P).getD i default).kind == 3) = false:=by
        rw [beq_eq_false_iff_ne]; exact fun h=>q3 (hkA.1 h)
       have lT:=zfx (s:=s) (is:=true) (Nat.le_of_not_lt q3)
       have lF:=zfx (s:=s) (is:=false) (Nat.le_of_not_lt q3)
       rw [e3]
       ((conv=>whnf);repeat(refine⟨rfl,?_⟩;conv=>whnf))
       refine ⟨by omega,_,hta _ (by omega),?_⟩
       ((conv=>whnf);repeat(refine⟨rfl,?_⟩;conv=>whnf))
       rw [e3]
       ((conv=>whnf);repeat(refine⟨rfl,?_⟩;conv=>whnf))
       (refine .inl ⟨by (unfold InR; rw [IntKind.wrap_i64]; omega),?_⟩; ((conv=>whnf);repeat(refine⟨rfl,?_⟩;conv=>whnf)))
       refine ⟨i + 1,by omega,by dsimp only; omega,?_⟩
       dsimp only
       rw [lT,lF]
       exact zan (by (repeat' (first | exact trivial | refine And.intro rfl ?_))) rfl
     ·have q2 : i = n:=by have : ¬ i < n:=by ((try simp only[oo,reduceCtorEq]at*)<;>omega)
                          omega
      obtain rfl : n = i:=q2.symm
      have lT : zeZ A s true n = zdk A s true A.length:=by rw [← hnn]; exact zgh
      have lF : zeZ A s false n = zdk A s false A.length:=by rw [← hnn]; exact zgh
      rw [← lT] at eT
      rw [← lF] at eF
      refine ⟨(by unfold zaj; simp only [ll]; omega),?_⟩
      ((conv=>whnf);repeat(refine⟨rfl,?_⟩;conv=>whnf))
      refine ⟨(by unfold zaj; simp only [ll]; omega),?_⟩
      ((conv=>whnf);repeat(refine⟨rfl,?_⟩;conv=>whnf))
      (refine .inl ⟨by (unfold InR; rw [IntKind.wrap_i64]; omega),?_⟩; ((conv=>whnf);repeat(refine⟨rfl,?_⟩;conv=>whnf)))
      refine ⟨s + 1,by omega,by dsimp only; omega,?_⟩
      dsimp only
      rw [eS,eN,eT,eF]
      (refine zal 11 (by simp) rfl ?_ ?_ <;> (repeat' (first | exact trivial | exact rfl | exact DeepM.refl _ | exact DeepML.refl _ | exact DeepMLL.refl _ | refine And.intro ?_ ?_ | (simp [zai,zae,zak,-List.map_take,-List.map_drop]; done))))
      all_goals
       first | exact zad _ (zar _) | exact zaf _ (zam _) | exact zad _ (by simp [zao,Pure,elD,zat]; done) | exact zaa _ (zbu _) | exact zaa _ (zbi _) | exact zaa _ (zaP _) | exact zaa _ (zat _) | exact zaa _ (zas _ (fun l=>by simp [zao,Pure]) _) | exact zaf _ (zbj _) | exact zah (zbk (by simp)) | exact za9 (by simp) rfl rfl rfl | exact zah (zaR _ _) | skip
   ·rw [r,if_pos rfl] at eS
    ((conv=>whnf);repeat(refine⟨rfl,?_⟩;conv=>whnf))
    refine ⟨(by unfold zaj; simp only [ll]; omega),?_⟩
    ((conv=>whnf);repeat(refine⟨rfl,?_⟩;conv=>whnf))
    refine zaA (zal 12 (env':=[(1,.loc 0 0),(2,.loc 1 0),(4,elD (elL A P)),(6,.loc 4 0),(7,.loc 5 0),(8,.sc (.int .i64 N)),(10,.own 6 0 0 N),(14,.sc (.int .i64 s)),(15,.sc (.slice none 0 0)),(16,.sc (.int .i64 0))])
     (H':=[.row true (drow f),.row true [.sc (.slice none 0 0),.sc (.slice none 0 0),.sc (.slice none 0 0),.sc (.slice none 0 0),.sc (.slice none 0 0)],.row false [.lst 3 (zaL (elL A P))],.row false [.fn (.func 52) [] [elD (elL A P)]],.row true [isF (elL A P) 4],.row true [.own 7 ((stE A P f s).length + 1) 0 ((stE A P f s).length + 1),.own 8 s 0 s,.own 9 s 0 s,.own 10 s 0 s,.sc (.slice none 0 0)],.vec true 0 1 (((List.range N).map fun s=>zcb A P s n).map fun l=>[.lst 1 (l.map zdn)]),.vec true ((stE A P f s).length + 1) 1 (i64s ((stE A P f s) ++ [(s : Int)])),.vec true s 1 (zba (tnxE A P s)),.vec true s 1 (u64r (leE A true s)),.vec true s 1 (u64r (leE A false s)),.vec true 0 1 [[.sc (.int .i64 s)]]]) (by simp) rfl ?_ ?_) ?_
    ·(repeat' (first | exact trivial | exact rfl | exact DeepM.refl _ | exact DeepML.refl _ | exact DeepMLL.refl _ | refine And.intro ?_ ?_ | (simp [zai,zae,zak,-List.map_take,-List.map_drop]; done)))
     all_goals
      first | exact zad _ (zar _) | exact zaf _ (zam _) | exact zad _ (by simp [zao,Pure,elD,zat]; done) | exact zaa _ (zbu _) | exact zaa _ (zbi _) | exact zaa _ (zaP _) | exact zaa _ (zat _) | exact zaa _ (zas _ (fun l=>by simp [zao,Pure]) _) | exact zaf _ (zbj _) | exact zah (zbk (by simp)) | exact za9 (by simp) rfl rfl rfl | exact zah (zaR _ _) | skip
    ·(repeat' (first | exact trivial | exact rfl | exact DeepM.refl _ | exact DeepML.refl _ | exact DeepMLL.refl _ | refine And.intro ?_ ?_ | (simp [zai,zae,zak,-List.map_take,-List.map_drop]; done)))
     all_goals
      first | exact zad _ (zar _) | exact zaf _ (zam _) | exact zad _ (by simp [zao,Pure,elD,zat]; done) | exact zaa _ (zbu _) | exact zaa _ (zbi _) | exact zaa _ (zaP _) | exact zaa _ (zat _) | exact zaa _ (zas _ (fun l=>by simp [zao,Pure]) _) | exact zaf _ (zbj _) | exact zah (zbk (by simp)) | exact za9 (by simp) rfl rfl rfl | exact zah (zaR _ _) | skip
    rw [show (stE A P f s).length + 1 = (stE A P f s ++ [(s : Int)]).length by simp]
    have hsl2 : (stE A P f s ++ [(s : Int)]).length≤s + 1:=by simp; omega
    refine zaA (zcu 15 1 (by simp) rfl) ?_
    refine zaz [1,2,4,6,7,8,10,14] (fun t : Nat=>[(15,.own 12 (nxR A P s t).length 0 (nxR A P s t).length),(16,.sc (.int .i64 t))]) (fun t=>[.row true (drow f),.row true [.sc (.slice none 0 0),.sc (.slice none 0 0),.sc (.slice none 0 0),.sc (.slice none 0 0),.sc (.slice none 0 0)],.row false [.lst 3 (zaL (elL A P))],.row false [.fn (.func 52) [] [elD (elL A P)]],.row true [isF (elL A P) 4],.row true [.own 7 (stE A P f s ++ [(s : Int)]).length 0 (stE A P f s ++ [(s : Int)]).length,.own 8 s 0 s,.own 9 s 0 s,.own 10 s 0 s,.sc (.slice none 0 0)],.vec true 0 1 (((List.range N).map fun s=>zcb A P s n).map fun l=>[.lst 1 (l.map zdn)]),.vec true (stE A P f s ++ [(s : Int)]).length 1 (i64s (stE A P f s ++ [(s : Int)])),.vec true s 1 (zba (tnxE A P s)),.vec true s 1 (u64r (leE A true s)),.vec true s 1 (u64r (leE A false s)),.vec true 0 1 [[.sc (.int .i64 s)]],.vec true (nxR A P s t).length 1 (i64s (nxR A P s t))]) (fun t=>t≤N) (fun t=>N - t) 0 ?_
    ((conv=>whnf);repeat(refine⟨rfl,?_⟩;conv=>whnf))
    refine ⟨by omega,by (repeat' (first | exact trivial | refine And.intro rfl ?_)),rfl,?_⟩
    rintro t ht
    have hxl:=znJ A P s t
    ((conv=>whnf);repeat(refine⟨rfl,?_⟩;conv=>whnf))
    (apply zac; focus (repeat' constructor))
    ((conv=>whnf);repeat(refine⟨rfl,?_⟩;conv=>whnf))
    (refine zab (fun q1=>?_) (fun q1=>?_) <;> (rw [q1]; ((conv=>whnf);repeat(refine⟨rfl,?_⟩;conv=>whnf))))
    ·have q1 : t < N:=by ((try simp only[oo,reduceCtorEq]at*)<;>omega)
     have eX:=zmi A P s t
     rw [hnn] at eX
     refine zaz [1,2,4,6,7,8,10,14,15,16] (fun i : Nat=>[(17,.sc (.bool (rOk A P s t i))),(18,.sc (.int .i64 i))]) (fun i=>[.row true (drow f),.row true [.sc (.slice none 0 0),.sc (.slice none 0 0),.sc (.slice none 0 0),.sc (.slice none 0 0),.sc (.slice none 0 0)],.row false [.lst 3 (zaL (elL A P))],.row false [.fn (.func 52) [] [elD (elL A P)]],.row true [isF (elL A P) 4],.row true [.own 7 (stE A P f s ++ [(s : Int)]).length 0 (stE A P f s ++ [(s : Int)]).length,.own 8 s 0 s,.own 9 s 0 s,.own 10 s 0 s,.sc (.slice none 0 0)],.vec true 0 1 (((List.range N).map fun s=>zcb A P s n).map fun l=>[.lst 1 (l.map zdn)]),.vec true (stE A P f s ++ [(s : Int)]).length 1 (i64s (stE A P f s ++ [(s : Int)])),.vec true s 1 (zba (tnxE A P s)),.vec true s 1 (u64r (leE A true s)),.vec true s 1 (u64r (leE A false s)),.vec true 0 1 [[.sc (.int .i64 s)]],.vec true (nxR A P s t).length 1 (i64s (nxR A P s t))]) (fun i=>i≤n) (fun i=>n - i) 0 ?_
     ((conv=>whnf);repeat(refine⟨rfl,?_⟩;conv=>whnf))
     refine ⟨by omega,by (repeat' (first | exact trivial | refine And.intro rfl ?_)),rfl,?_⟩
     rintro i hi
     have eO:=zjO A P s t i
     unfold elD
     ((conv=>whnf);repeat(refine⟨rfl,?_⟩;conv=>whnf))
     (apply zac; focus (repeat' constructor))
     ((conv=>whnf);repeat(refine⟨rfl,?_⟩;conv=>whnf))
     rw [zbS,zcH,hnn]
     (refine zab (fun q2=>?_) (fun q2=>?_) <;> (rw [q2]; ((conv=>whnf);repeat(refine⟨rfl,?_⟩;conv=>whnf))))
     ·have q2 : i < n:=by ((try simp only[oo,reduceCtorEq]at*)<;>omega)
      cases ro : rOk A P s t i
      ·have ro2:=zmu ro (Nat.le_of_lt q2)
       rw [ro2,if_neg (by decide)] at eX
       ((conv=>whnf);repeat(refine⟨rfl,?_⟩;conv=>whnf))
       (refine .inl ⟨by (unfold InR; rw [IntKind.wrap_i64]; omega),?_⟩; ((conv=>whnf);repeat(refine⟨rfl,?_⟩;conv=>whnf)))
       refine ⟨t + 1,by omega,by dsimp only; omega,?_⟩
       dsimp only
       rw [eX]
       exact zan (by (repeat' (first | exact trivial | refine And.intro rfl ?_))) rfl
      ·rw [ro,Bool.true_and] at eO
       ((conv=>whnf);repeat(refine⟨rfl,?_⟩;conv=>whnf))
       obtain ⟨-,-,hkA,-⟩:=hel2 i (by omega)
       refine ⟨by omega,_,zd8 (k:=i) (by omega) (by rw [zcH]; omega),?_⟩
       ((conv=>whnf);repeat(refine⟨rfl,?_⟩;conv=>whnf))
       by_cases q3 : i < A.length
       ·have e3 : (((elL A P).getD i default).kind == 3) = true:=by simpa using hkA.2 q3
        rw [decide_eq_true q3,Bool.true_or] at eO
        rw [e3]
        ((conv=>whnf);repeat(refine⟨rfl,?_⟩;conv=>whnf))
        (refine .inl ⟨by (unfold InR; rw [IntKind.wrap_i64]; omega),?_⟩; ((conv=>whnf);repeat(refine⟨rfl,?_⟩;conv=>whnf)))
        refine ⟨i + 1,by omega,by dsimp only; omega,?_⟩
        dsimp only
        rw [eO]
        exact zan (by (repeat' (first | exact trivial | refine And.intro rfl ?_))) rfl
       ·have e3 : (((elL A P).getD i default).kind == 3) = false:=by
         rw [beq_eq_false_iff_ne]; exact fun h=>q3 (hkA.1 h)
        rw [decide_eq_false q3,Bool.false_or] at eO
        have eb : (((s : Int).fdiv (2 ^ min ((i : Int)).toNat IntKind.i64.bits)).tmod 2 == 1) = s.testBit i:=znM s i (by omega)
        rw [e3]
        ((conv=>whnf);repeat(refine⟨rfl,?_⟩;conv=>whnf))
        (refine ⟨by omega,(by first | omega | (simp; done) | (simp; omega) | (simp only [ll]; omega)),?_⟩; ((conv=>whnf);repeat(refine⟨rfl,?_⟩;conv=>whnf)))
        refine ⟨_,znG (t:=t) (by omega) q1,?_⟩
        ((conv=>whnf);repeat(refine⟨rfl,?_⟩;conv=>whnf))
        refine ⟨by omega,_,rkc_at (i:=i) (by omega) q2,?_⟩
        ((conv=>whnf);repeat(refine⟨rfl,?_⟩;conv=>whnf))
        refine ⟨by omega,?_⟩
        ((conv=>whnf);repeat(refine⟨rfl,?_⟩;conv=>whnf))
        refine ⟨by omega,?_⟩
        ((conv=>whnf);repeat(refine⟨rfl,?_⟩;conv=>whnf))
        (refine .inl ⟨by (unfold InR; rw [IntKind.wrap_i64]; omega),?_⟩; ((conv=>whnf);repeat(refine⟨rfl,?_⟩;conv=>whnf)))
        refine ⟨i + 1,by omega,by dsimp only; omega,?_⟩
        dsimp only
        rw [eO,← eb]
        exact zan (by (repeat' (first | exact trivial | refine And.intro rfl ?_))) rfl
     ·have q2 : i = n:=by have : ¬ i < n:=by ((try simp only[oo,reduceCtorEq]at*)<;>omega)
                          omega
      subst q2
      cases ro : rOk A P s t i
      ·rw [ro,if_neg (by decide)] at eX
       ((conv=>whnf);repeat(refine⟨rfl,?_⟩;conv=>whnf))
       (refine .inl ⟨by (unfold InR; rw [IntKind.wrap_i64]; omega),?_⟩; ((conv=>whnf);repeat(refine⟨rfl,?_⟩;conv=>whnf)))
       refine ⟨t + 1,by omega,by dsimp only; omega,?_⟩
       dsimp only
       rw [eX]
       exact zan (by (repeat' (first | exact trivial | refine And.intro rfl ?_))) rfl
      ·rw [ro,if_pos rfl] at eX
       ((conv=>whnf);repeat(refine⟨rfl,?_⟩;conv=>whnf))
       refine ⟨(by unfold zaj; simp only [ll]; omega),?_⟩
       ((conv=>whnf);repeat(refine⟨rfl,?_⟩;conv=>whnf))
       (refine .inl ⟨by (unfold InR; rw [IntKind.wrap_i64]; omega),?_⟩; ((conv=>whnf);repeat(refine⟨rfl,?_⟩;conv=>whnf)))
       refine ⟨t + 1,by omega,by dsimp only; omega,?_⟩
       dsimp only
       rw [eX]
       rw [show (nxR A P s t ++ [(t : Int)]).length = (nxR A P s t).length + 1 by simp]
       (refine zal (12 + 1) (by simp) rfl ?_ ?_ <;> (repeat' (first | exact trivial | exact rfl | exact DeepM.refl _ | exact DeepML.refl _ | exact DeepMLL.refl _ | refine And.intro ?_ ?_ | (simp [zai,zae,zak,-List.map_take,-List.map_drop]; done))))
       all_goals
        first | exact zad _ (zar _) | exact zaf _ (zam _) | exact zad _ (by simp [zao,Pure,elD,zat]; done) | exact zaa _ (zbu _) | exact zaa _ (zbi _) | exact zaa _ (zaP _) | exact zaa _ (zat _) | exact zaa _ (zas _ (fun l=>by simp [zao,Pure]) _) | exact zaf _ (zbj _) | exact zah (zbk (by simp)) | exact za9 (by simp) rfl rfl rfl | exact zah (zaR _ _) | skip
    ·have q1 : t = N:=by have : ¬ t < N:=by ((try simp only[oo,reduceCtorEq]at*)<;>omega)
                         omega
     obtain rfl : N = t:=q1.symm
     refine ⟨(by unfold zaj; simp only [ll]; omega),?_⟩
     ((conv=>whnf);repeat(refine⟨rfl,?_⟩;conv=>whnf))
     refine zaz [1,2,4,6,7,8,10,14] (fun i : Nat=>[(19,.sc (.int .u64 (zeZ A s true i))),(20,.sc (.int .u64 (zeZ A s false i))),(21,.sc (.int .i64 i))]) (fun i=>[.row true (drow f),.row true [.sc (.slice none 0 0),.sc (.slice none 0 0),.sc (.slice none 0 0),.sc (.slice none 0 0),.sc (.slice none 0 0)],.row false [.lst 3 (zaL (elL A P))],.row false [.fn (.func 52) [] [elD (elL A P)]],.row true [isF (elL A P) 4],.row true [.own 7 (stE A P f s ++ [(s : Int)]).length 0 (stE A P f s ++ [(s : Int)]).length,.own 8 (s + 1) 0 (s + 1),.own 9 s 0 s,.own 10 s 0 s,.sc (.slice none 0 0)],.vec true 0 1 (((List.range N).map fun s=>zcb A P s n).map fun l=>[.lst 1 (l.map zdn)]),.vec true (stE A P f s ++ [(s : Int)]).length 1 (i64s (stE A P f s ++ [(s : Int)])),.vec true (s + 1) 1 (List.drop 0 (List.take s (zba (tnxE A P s))) ++ List.drop 0 (List.take 1 [[D.own 12 (nxR A P s N).length 0 (nxR A P s N).length]])),.vec true s 1 (u64r (leE A true s)),.vec true s 1 (u64r (leE A false s)),.vec true 0 1 [[.sc (.int .i64 s)]],.vec true (nxR A P s N).length 1 (i64s (nxR A P s N)),.vec true 0 1 [[.own 12 (nxR A P s N).length 0 (nxR A P s N).length]]]) (fun i=>i≤n) (fun i=>n - i) 0 ?_
     ((conv=>whnf);repeat(refine⟨rfl,?_⟩;conv=>whnf))
     refine ⟨by omega,by (repeat' (first | exact trivial | refine And.intro rfl ?_)),rfl,?_⟩
     rintro i hi
     unfold elD
     ((conv=>whnf);repeat(refine⟨rfl,?_⟩;conv=>whnf))
     (apply zac; focus (repeat' constructor))
     ((conv=>whnf);repeat(refine⟨rfl,?_⟩;conv=>whnf))
     rw [zbS,zcH,hnn]
     (refine zab (fun q2=>?_) (fun q2=>?_) <;> (rw [q2]; ((conv=>whnf);repeat(refine⟨rfl,?_⟩;conv=>whnf))))
     ·have q2 : i < n:=by ((try simp only[oo,reduceCtorEq]at*)<;>omega)
      obtain ⟨-,-,hkA,-⟩:=hel2 i (by omega)
      have hta:=fun (z : Nat) (hz : z = i)=>zd8 (P:=elL A P) hz (by rw [zcH]; omega)
      refine ⟨by omega,_,hta _ (by omega),?_⟩
      ((conv=>whnf);repeat(refine⟨rfl,?_⟩;conv=>whnf))
      by_cases q3 : i < A.length
      ·have e3 : (((elL A P).getD i default).kind == 3) = true:=by simpa using hkA.2 q3
       have e4 : ((elL A P).getD i default).num = A.getD i 0:=by rw [zjp q3]; rfl
       have hx:=hI.atoms _ (zaM q3)
       have lT:=zfh (s:=s) (is:=true) q3
       have lF:=zfh (s:=s) (is:=false) q3
       rw [e3]
       generalize (elL A P).getD i default = g at *
       generalize A.getD i 0 = x at *
       have eb : (((s : Int).fdiv (2 ^ min ((i : Int)).toNat IntKind.i64.bits)).tmod 2 == 1) = s.testBit i:=znM s i (by omega)
       have e1 : (1 : Int) * 2 ^ min x.toNat IntKind.u64.bits = 2 ^ x.toNat:=by
        rw [show IntKind.u64.bits = 64 from rfl,Nat.min_eq_left (by omega),Int.one_mul]
       have hb2 : (0 : Int)≤2 ^ x.toNat∧(2 : Int) ^ x.toNat < 18446744073709551616:=by
        have h1 : 2 ^ x.toNat≤2 ^ 63:=Nat.pow_le_pow_right (by omega) (by omega)
        have h2 : (2 : Nat) ^ 63 = 9223372036854775808:=by decide
        rw [zhs]
        generalize 2 ^ x.toNat = z at *
        omega
       ((conv=>whnf);repeat(refine⟨rfl,?_⟩;conv=>whnf))
       refine ⟨by omega,?_⟩
       ((conv=>whnf);repeat(refine⟨rfl,?_⟩;conv=>whnf))
       refine ⟨by omega,?_⟩
       ((conv=>whnf);repeat(refine⟨rfl,?_⟩;conv=>whnf))
       rw [eb]
       cases rb : s.testBit i
       ·rw [rb,if_neg (by decide)] at lT
        rw [rb,if_pos (by decide)] at lF
        ((conv=>whnf);repeat(refine⟨rfl,?_⟩;conv=>whnf))
        refine ⟨by omega,_,hta _ (by omega),?_⟩
        ((conv=>whnf);repeat(refine⟨rfl,?_⟩;conv=>whnf))
        rw [e3]
        ((conv=>whnf);repeat(refine⟨rfl,?_⟩;conv=>whnf))
        refine ⟨by omega,_,hta _ (by omega),?_⟩
        ((conv=>whnf);repeat(refine⟨rfl,?_⟩;conv=>whnf))
        rw [e4]
        refine ⟨by omega,?_⟩
        rw [e1]
        refine .inl ⟨by unfold InR; rw [IntKind.wrap_u64]; omega,?_⟩
        ((conv=>whnf);repeat(refine⟨rfl,?_⟩;conv=>whnf))
        (refine .inl ⟨by (unfold InR; rw [IntKind.wrap_i64]; omega),?_⟩; ((conv=>whnf);repeat(refine⟨rfl,?_⟩;conv=>whnf)))
        refine ⟨i + 1,by omega,by dsimp only; omega,?_⟩
        dsimp only
        rw [lT,lF]
        exact zan (by (repeat' (first | exact trivial | refine And.intro rfl ?_))) rfl
       ·rw [rb,if_pos (by decide)] at lT
        rw [rb,if_neg (by decide)] at lF
        ((conv=>whnf);repeat(refine⟨rfl,?_⟩;conv=>whnf))
        refine ⟨by omega,_,hta _ (by omega),?_⟩
        ((conv=>whnf);repeat(refine⟨rfl,?_⟩;conv=>whnf))
        rw [e4]
        refine ⟨by omega,?_⟩
        rw [e1]
        refine .inl ⟨by unfold InR; rw [IntKind.wrap_u64]; omega,?_⟩
        ((conv=>whnf);repeat(refine⟨rfl,?_⟩;conv=>whnf))
        (refine .inl ⟨by (unfold InR; rw [IntKind.wrap_i64]; omega),?_⟩; ((conv=>whnf);repeat(refine⟨rfl,?_⟩;conv=>whnf)))
        refine ⟨i + 1,by omega,by dsimp only; omega,?_⟩
        dsimp only
        rw [lT,lF]
        exact zan (by (repeat' (first | exact trivial | refine And.intro rfl ?_))) rfl
      ·have e3 : (((elL A P).getD i default).kind == 3) = false:=by
        rw [beq_eq_false_iff_ne]; exact fun h=>q3 (hkA.1 h)
       have lT:=zfx (s:=s) (is:=true) (Nat.le_of_not_lt q3)
       have lF:=zfx (s:=s) (is:=false) (Nat.le_of_not_lt q3)
       rw [e3]
       ((conv=>whnf);repeat(refine⟨rfl,?_⟩;conv=>whnf))
       refine ⟨by omega,_,hta _ (by omega),?_⟩
       ((conv=>whnf);repeat(refine⟨rfl,?_⟩;conv=>whnf))
       rw [e3]
       ((conv=>whnf);repeat(refine⟨rfl,?_⟩;conv=>whnf))
       (refine .inl ⟨by (unfold InR; rw [IntKind.wrap_i64]; omega),?_⟩; ((conv=>whnf);repeat(refine⟨rfl,?_⟩;conv=>whnf)))
       refine ⟨i + 1,by omega,by dsimp only; omega,?_⟩
       dsimp only
       rw [lT,lF]
       exact zan (by (repeat' (first | exact trivial | refine And.intro rfl ?_))) rfl
     ·have q2 : i = n:=by have : ¬ i < n:=by ((try simp only[oo,reduceCtorEq]at*)<;>omega)
                          omega
      obtain rfl : n = i:=q2.symm
      have lT : zeZ A s true n = zdk A s true A.length:=by rw [← hnn]; exact zgh
      have lF : zeZ A s false n = zdk A s false A.length:=by rw [← hnn]; exact zgh
      rw [← lT] at eT
      rw [← lF] at eF
      refine ⟨(by unfold zaj; simp only [ll]; omega),?_⟩
      ((conv=>whnf);repeat(refine⟨rfl,?_⟩;conv=>whnf))
      refine ⟨(by unfold zaj; simp only [ll]; omega),?_⟩
      ((conv=>whnf);repeat(refine⟨rfl,?_⟩;conv=>whnf))
      (refine .inl ⟨by (unfold InR; rw [IntKind.wrap_i64]; omega),?_⟩; ((conv=>whnf);repeat(refine⟨rfl,?_⟩;conv=>whnf)))
      refine ⟨s + 1,by omega,by dsimp only; omega,?_⟩
      dsimp only
      rw [eS,eN,eT,eF]
      (refine zal 11 (by simp) rfl ?_ ?_ <;> (repeat' (first | exact trivial | exact rfl | exact DeepM.refl _ | exact DeepML.refl _ | exact DeepMLL.refl _ | refine And.intro ?_ ?_ | (simp [zai,zae,zak,-List.map_take,-List.map_drop]; done))))
      all_goals
       first | exact zad _ (zar _) | exact zaf _ (zam _) | exact zad _ (by simp [zao,Pure,elD,zat]; done) | exact zaa _ (zbu _) | exact zaa _ (zbi _) | exact zaa _ (zaP _) | exact zaa _ (zat _) | exact zaa _ (zas _ (fun l=>by simp [zao,Pure]) _) | exact zaf _ (zbj _) | exact zah (zbk (by simp)) | exact za9 (by simp) rfl rfl rfl | exact zah (zaR _ _) | skip
  ·have q0 : s = N:=by have : ¬ s < N:=by ((try simp only[oo,reduceCtorEq]at*)<;>omega)
                       omega
   obtain rfl : N = s:=q0.symm
   exact ⟨(),trivial,zan (by (repeat' (first | exact trivial | refine And.intro rfl ?_))) rfl⟩
 intro _ _
 ((conv=>whnf);repeat(refine⟨rfl,?_⟩;conv=>whnf))
 (apply zac; focus (repeat' constructor))
 ((conv=>whnf);repeat(refine⟨rfl,?_⟩;conv=>whnf))
 refine zaA (zbp 5 4 1 (by simp) rfl rfl) ?_
 refine zaz [2,4,6,7,8] (fun k : Nat=>[(22,.sc (.int .i64 k))]) (fun k=>[.row true (drow f),.row true [.sc (.slice none 0 0),.sc (.slice none 0 0),.sc (.slice none 0 0),.sc (.slice none 0 0),.sc (.slice none 0 0)],.row false [.lst 3 (zaL (elL A P))],.row false [.fn (.func 52) [] [elD (elL A P)]],.row true [isF (elL A P) 4],.row true [.own 7 (stE A P f N).length 0 (stE A P f N).length,.own 8 N 0 N,.own 9 N 0 N,.own 10 N 0 N,.own 11 (zcl A P k).length 0 (zcl A P k).length],.vec true 0 1 (((List.range N).map fun s=>zcb A P s n).map fun l=>[.lst 1 (l.map zdn)]),.vec true (stE A P f N).length 1 (i64s (stE A P f N)),.vec true N 1 (zba (tnxE A P N)),.vec true N 1 (u64r (leE A true N)),.vec true N 1 (u64r (leE A false N)),.vec true (zcl A P k).length 1 (zba (zcl A P k))]) (fun k=>k≤n) (fun k=>n - k) 0 ?_
 ((conv=>whnf);repeat(refine⟨rfl,?_⟩;conv=>whnf))
 refine ⟨by omega,by (repeat' (first | exact trivial | refine And.intro rfl ?_)),by rw [show zcl A P 0 = [] by unfold zcl; rw [Nat.zero_sub]; rfl]; rfl,?_⟩
 rintro k hk
 have hfl:=znu A P k
 unfold elD
 ((conv=>whnf);repeat(refine⟨rfl,?_⟩;conv=>whnf))
 (apply zac; focus (repeat' constructor))
 ((conv=>whnf);repeat(refine⟨rfl,?_⟩;conv=>whnf))
 rw [zbS,zcH,hnn]
 (refine zab (fun q0=>?_) (fun q0=>?_) <;> (rw [q0]; ((conv=>whnf);repeat(refine⟨rfl,?_⟩;conv=>whnf))))
 ·have q0 : k < n:=by ((try simp only[oo,reduceCtorEq]at*)<;>omega)
  obtain ⟨hwE,hTE,hkA,hkE⟩:=hel2 k (by omega)
  have hta:=fun (z : Nat) (hz : z = k)=>zd8 (P:=elL A P) hz (by rw [zcH]; omega)
  have hfe : zcl A P (k + 1) = if ((elL A P).getD k default).kind = 3∨((elL A P).getD k default).kind = 7 then zcl A P k else zcl A P k ++ [zbC (zb6 A P ((elL A P).getD k default)) N]:=by
   by_cases qa : k < A.length
   ·rw [zna qa,if_pos (.inl (hkA.2 qa))]
   ·have n3 : ¬ ((elL A P).getD k default).kind = 3:=fun h=>qa (hkA.1 h)
    rw [zm2 (Nat.le_of_not_lt qa) (by omega)]
    have eset : setE A P (A.length + P.length) ((elL A P).getD k default) = zbC (zb6 A P ((elL A P).getD k default)) N:=by unfold setE; rw [hnn,h2N]
    rw [eset]
    by_cases q7 : ((elL A P).getD k default).kind = 7
    ·rw [if_pos q7,if_pos (.inr q7)]
    ·rw [if_neg q7,if_neg (by omega)]
  have hfE : ∀ s,zb6 A P ((elL A P).getD k default) s = if ((elL A P).getD k default).kind = 8 then !(zaS (chE A P s) ((elL A P).getD k default)) || zaS (chE A P s) (((elL A P).getD k default).kid 1) else zaS (chE A P s) ((elL A P).getD k default) || !(zaS (chE A P s) (((elL A P).getD k default).kid 1)):=fun s=>rfl
  generalize (elL A P).getD k default = g at *
  by_cases k8 : g.kind = 8
  ·rw [if_neg (by omega)] at hfe
   have e8 : (g.kind == 8) = true:=by simpa using k8
   have w1 : 1 < g.width:=by have:=zks hwE; omega
   refine zaA (zcu 23 1 (by simp) rfl) ?_
   refine zaz [2,4,6,7,8,22] (fun s : Nat=>[(23,.own 12 (zbC (zb6 A P g) s).length 0 (zbC (zb6 A P g) s).length),(24,.sc (.int .i64 s))]) (fun s=>[.row true (drow f),.row true [.sc (.slice none 0 0),.sc (.slice none 0 0),.sc (.slice none 0 0),.sc (.slice none 0 0),.sc (.slice none 0 0)],.row false [.lst 3 (zaL (elL A P))],.row false [.fn (.func 52) [] [elD (elL A P)]],.row true [isF (elL A P) 4],.row true [.own 7 (stE A P f N).length 0 (stE A P f N).length,.own 8 N 0 N,.own 9 N 0 N,.own 10 N 0 N,.own 11 (zcl A P k).length 0 (zcl A P k).length],.vec true 0 1 (((List.range N).map fun s=>zcb A P s n).map fun l=>[.lst 1 (l.map zdn)]),.vec true (stE A P f N).length 1 (i64s (stE A P f N)),.vec true N 1 (zba (tnxE A P N)),.vec true N 1 (u64r (leE A true N)),.vec true N 1 (u64r (leE A false N)),.vec true (zcl A P k).length 1 (zba (zcl A P k)),.vec true (zbC (zb6 A P g) s).length 1 (i64s (zbC (zb6 A P g) s))]) (fun s=>s≤N) (fun s=>N - s) 0 ?_
   ((conv=>whnf);repeat(refine⟨rfl,?_⟩;conv=>whnf))
   refine ⟨by omega,by (repeat' (first | exact trivial | refine And.intro rfl ?_)),rfl,?_⟩
   rintro s hs
   have hxl:=zb0 (zb6 A P g) s
   ((conv=>whnf);repeat(refine⟨rfl,?_⟩;conv=>whnf))
   (apply zac; focus (repeat' constructor))
   ((conv=>whnf);repeat(refine⟨rfl,?_⟩;conv=>whnf))
   (refine zab (fun q1=>?_) (fun q1=>?_) <;> (rw [q1]; ((conv=>whnf);repeat(refine⟨rfl,?_⟩;conv=>whnf))))
   ·have q1 : s < N:=by ((try simp only[oo,reduceCtorEq]at*)<;>omega)
    have eX:=zcE (zb6 A P g) s
    refine ⟨by omega,_,hta _ (by omega),?_⟩
    ((conv=>whnf);repeat(refine⟨rfl,?_⟩;conv=>whnf))
    have e9 : (g.kind == 9) = false:=by rw [beq_eq_false_iff_ne]; omega
    have r0:=fun H hH=>hIs g hwE hTE s H hH
    have r1:=fun H hH=>hIs (g.kid 1) (zbB hwE w1) (hTE.kid w1) s H hH
    have hf:=hfE s
    rw [if_pos k8] at hf
    rw [hf] at eX
    generalize zaS (chE A P s) g = b0 at *
    generalize zaS (chE A P s) (g.kid 1) = b1 at *
    rw [e8]
    ((conv=>whnf);repeat(refine⟨rfl,?_⟩;conv=>whnf))
    refine ⟨by omega,_,hta _ (by omega),?_⟩
    ((conv=>whnf);repeat(refine⟨rfl,?_⟩;conv=>whnf))
    (refine .inr (.inr (.inr (.inr (.inr (.inr ⟨_,_,(r0 _ rfl),?_⟩))))); ((conv=>whnf);repeat(refine⟨rfl,?_⟩;conv=>whnf)))
    cases b0
    ·rw [if_pos (by simp)] at eX
     ((conv=>whnf);repeat(refine⟨rfl,?_⟩;conv=>whnf))
     refine ⟨(by unfold zaj; simp only [ll]; omega),?_⟩
     ((conv=>whnf);repeat(refine⟨rfl,?_⟩;conv=>whnf))
     (refine .inl ⟨by (unfold InR; rw [IntKind.wrap_i64]; omega),?_⟩; ((conv=>whnf);repeat(refine⟨rfl,?_⟩;conv=>whnf)))
     refine ⟨s + 1,by omega,by dsimp only; omega,?_⟩
     dsimp only
     rw [eX]
     rw [show (zbC (zb6 A P g) s ++ [(s : Int)]).length = (zbC (zb6 A P g) s).length + 1 by simp]
     (refine zal 13 (by simp) rfl ?_ ?_ <;> (repeat' (first | exact trivial | exact rfl | exact DeepM.refl _ | exact DeepML.refl _ | exact DeepMLL.refl _ | refine And.intro ?_ ?_ | (simp [zai,zae,zak,-List.map_take,-List.map_drop]; done))))
     all_goals
      first | exact zad _ (zar _) | exact zaf _ (zam _) | exact zad _ (by simp [zao,Pure,elD,zat]; done) | exact zaa _ (zbu _) | exact zaa _ (zbi _) | exact zaa _ (zaP _) | exact zaa _ (zat _) | exact zaa _ (zas _ (fun l=>by simp [zao,Pure]) _) | exact zaf _ (zbj _) | exact zah (zbk (by simp)) | exact za9 (by simp) rfl rfl rfl | exact zah (zaR _ _) | skip
    ·((conv=>whnf);repeat(refine⟨rfl,?_⟩;conv=>whnf))
     refine ⟨by omega,_,hta _ (by omega),?_⟩
     ((conv=>whnf);repeat(refine⟨rfl,?_⟩;conv=>whnf))
     refine ⟨by omega,_,zaZ w1,?_⟩
     ((conv=>whnf);repeat(refine⟨rfl,?_⟩;conv=>whnf))
     (refine .inr (.inr (.inr (.inr (.inr (.inr ⟨_,_,(r1 _ rfl),?_⟩))))); ((conv=>whnf);repeat(refine⟨rfl,?_⟩;conv=>whnf)))
     cases b1
     ·rw [if_neg (by simp)] at eX
      ((conv=>whnf);repeat(refine⟨rfl,?_⟩;conv=>whnf))
      refine ⟨by omega,_,hta _ (by omega),?_⟩
      ((conv=>whnf);repeat(refine⟨rfl,?_⟩;conv=>whnf))
      rw [e9]
      ((conv=>whnf);repeat(refine⟨rfl,?_⟩;conv=>whnf))
      (refine .inl ⟨by (unfold InR; rw [IntKind.wrap_i64]; omega),?_⟩; ((conv=>whnf);repeat(refine⟨rfl,?_⟩;conv=>whnf)))
      refine ⟨s + 1,by omega,by dsimp only; omega,?_⟩
      dsimp only
      rw [eX]
      exact zan (by (repeat' (first | exact trivial | refine And.intro rfl ?_))) rfl
     ·rw [if_pos (by simp)] at eX
      ((conv=>whnf);repeat(refine⟨rfl,?_⟩;conv=>whnf))
      refine ⟨(by unfold zaj; simp only [ll]; omega),?_⟩
      ((conv=>whnf);repeat(refine⟨rfl,?_⟩;conv=>whnf))
      (refine .inl ⟨by (unfold InR; rw [IntKind.wrap_i64]; omega),?_⟩; ((conv=>whnf);repeat(refine⟨rfl,?_⟩;conv=>whnf)))
      refine ⟨s + 1,by omega,by dsimp only; omega,?_⟩
      dsimp only
      rw [eX]
      rw [show (zbC (zb6 A P g) s ++ [(s : Int)]).length = (zbC (zb6 A P g) s).length + 1 by simp]
      (refine zal 13 (by simp) rfl ?_ ?_ <;> (repeat' (first | exact trivial | exact rfl | exact DeepM.refl _ | exact DeepML.refl _ | exact DeepMLL.refl _ | refine And.intro ?_ ?_ | (simp [zai,zae,zak,-List.map_take,-List.map_drop]; done))))
      all_goals
       first | exact zad _ (zar _) | exact zaf _ (zam _) | exact zad _ (by simp [zao,Pure,elD,zat]; done) | exact zaa _ (zbu _) | exact zaa _ (zbi _) | exact zaa _ (zaP _) | exact zaa _ (zat _) | exact zaa _ (zas _ (fun l=>by simp [zao,Pure]) _) | exact zaf _ (zbj _) | exact zah (zbk (by simp)) | exact za9 (by simp) rfl rfl rfl | exact zah (zaR _ _) | skip
   ·have q1 : s = N:=by have : ¬ s < N:=by ((try simp only[oo,reduceCtorEq]at*)<;>omega)
                        omega
    obtain rfl : N = s:=q1.symm
    refine ⟨by omega,_,hta _ (by omega),?_⟩
    ((conv=>whnf);repeat(refine⟨rfl,?_⟩;conv=>whnf))
    rw [e8]
    ((conv=>whnf);repeat(refine⟨rfl,?_⟩;conv=>whnf))
    refine ⟨(by unfold zaj; simp only [ll]; omega),?_⟩
    ((conv=>whnf);repeat(refine⟨rfl,?_⟩;conv=>whnf))
    (refine .inl ⟨by (unfold InR; rw [IntKind.wrap_i64]; omega),?_⟩; ((conv=>whnf);repeat(refine⟨rfl,?_⟩;conv=>whnf)))
    refine ⟨k + 1,by omega,by dsimp only; omega,?_⟩
    dsimp only
    rw [hfe]
    rw [show (zcl A P k ++ [zbC (zb6 A P g) N]).length = (zcl A P k).length + 1 by simp]
    (refine zal 12 (by simp) rfl ?_ ?_ <;> (repeat' (first | exact trivial | exact rfl | exact DeepM.refl _ | exact DeepML.refl _ | exact DeepMLL.refl _ | refine And.intro ?_ ?_ | (simp [zai,zae,zak,-List.map_take,-List.map_drop]; done))))
    all_goals
     first | exact zad _ (zar _) | exact zaf _ (zam _) | exact zad _ (by simp [zao,Pure,elD,zat]; done) | exact zaa _ (zbu _) | exact zaa _ (zbi _) | exact zaa _ (zaP _) | exact zaa _ (zat _) | exact zaa _ (zas _ (fun l=>by simp [zao,Pure]) _) | exact zaf _ (zbj _) | exact zah (zbk (by simp)) | exact za9 (by simp) rfl rfl rfl | exact zah (zaR _ _) | skip
  ·by_cases k9 : g.kind = 9
   ·rw [if_neg (by omega)] at hfe
    have e8 : (g.kind == 8) = false:=by simpa using k8
    have e9 : (g.kind == 9) = true:=by simpa using k9
    have w1 : 1 < g.width:=by have:=zks hwE; omega
    refine zaA (zcu 23 1 (by simp) rfl) ?_
    refine zaz [2,4,6,7,8,22] (fun s : Nat=>[(23,.own 12 (zbC (zb6 A P g) s).length 0 (zbC (zb6 A P g) s).length),(24,.sc (.int .i64 s))]) (fun s=>[.row true (drow f),.row true [.sc (.slice none 0 0),.sc (.slice none 0 0),.sc (.slice none 0 0),.sc (.slice none 0 0),.sc (.slice none 0 0)],.row false [.lst 3 (zaL (elL A P))],.row false [.fn (.func 52) [] [elD (elL A P)]],.row true [isF (elL A P) 4],.row true [.own 7 (stE A P f N).length 0 (stE A P f N).length,.own 8 N 0 N,.own 9 N 0 N,.own 10 N 0 N,.own 11 (zcl A P k).length 0 (zcl A P k).length],.vec true 0 1 (((List.range N).map fun s=>zcb A P s n).map fun l=>[.lst 1 (l.map zdn)]),.vec true (stE A P f N).length 1 (i64s (stE A P f N)),.vec true N 1 (zba (tnxE A P N)),.vec true N 1 (u64r (leE A true N)),.vec true N 1 (u64r (leE A false N)),.vec true (zcl A P k).length 1 (zba (zcl A P k)),.vec true (zbC (zb6 A P g) s).length 1 (i64s (zbC (zb6 A P g) s))]) (fun s=>s≤N) (fun s=>N - s) 0 ?_
    ((conv=>whnf);repeat(refine⟨rfl,?_⟩;conv=>whnf))
    refine ⟨by omega,by (repeat' (first | exact trivial | refine And.intro rfl ?_)),rfl,?_⟩
    rintro s hs
    have hxl:=zb0 (zb6 A P g) s
    ((conv=>whnf);repeat(refine⟨rfl,?_⟩;conv=>whnf))
    (apply zac; focus (repeat' constructor))
    ((conv=>whnf);repeat(refine⟨rfl,?_⟩;conv=>whnf))
    (refine zab (fun q1=>?_) (fun q1=>?_) <;> (rw [q1]; ((conv=>whnf);repeat(refine⟨rfl,?_⟩;conv=>whnf))))
    ·have q1 : s < N:=by ((try simp only[oo,reduceCtorEq]at*)<;>omega)
     have eX:=zcE (zb6 A P g) s
     refine ⟨by omega,_,hta _ (by omega),?_⟩
     ((conv=>whnf);repeat(refine⟨rfl,?_⟩;conv=>whnf))
     have r0:=fun H hH=>hIs g hwE hTE s H hH
     have r1:=fun H hH=>hIs (g.kid 1) (zbB hwE w1) (hTE.kid w1) s H hH
     have hf:=hfE s
     rw [if_neg k8] at hf
     rw [hf] at eX
     generalize zaS (chE A P s) g = b0 at *
     generalize zaS (chE A P s) (g.kid 1) = b1 at *
     rw [e8]
     ((conv=>whnf);repeat(refine⟨rfl,?_⟩;conv=>whnf))
     refine ⟨by omega,_,hta _ (by omega),?_⟩
     ((conv=>whnf);repeat(refine⟨rfl,?_⟩;conv=>whnf))
     rw [e9]
     ((conv=>whnf);repeat(refine⟨rfl,?_⟩;conv=>whnf))
     refine ⟨by omega,_,hta _ (by omega),?_⟩
     ((conv=>whnf);repeat(refine⟨rfl,?_⟩;conv=>whnf))
     (refine .inr (.inr (.inr (.inr (.inr (.inr ⟨_,_,(r0 _ rfl),?_⟩))))); ((conv=>whnf);repeat(refine⟨rfl,?_⟩;conv=>whnf)))
     cases b0
     ·((conv=>whnf);repeat(refine⟨rfl,?_⟩;conv=>whnf))
      refine ⟨by omega,_,hta _ (by omega),?_⟩
      ((conv=>whnf);repeat(refine⟨rfl,?_⟩;conv=>whnf))
      refine ⟨by omega,_,zaZ w1,?_⟩
      ((conv=>whnf);repeat(refine⟨rfl,?_⟩;conv=>whnf))
      (refine .inr (.inr (.inr (.inr (.inr (.inr ⟨_,_,(r1 _ rfl),?_⟩))))); ((conv=>whnf);repeat(refine⟨rfl,?_⟩;conv=>whnf)))
      cases b1
      ·rw [if_pos (by simp)] at eX
       ((conv=>whnf);repeat(refine⟨rfl,?_⟩;conv=>whnf))
       refine ⟨(by unfold zaj; simp only [ll]; omega),?_⟩
       ((conv=>whnf);repeat(refine⟨rfl,?_⟩;conv=>whnf))
       (refine .inl ⟨by (unfold InR; rw [IntKind.wrap_i64]; omega),?_⟩; ((conv=>whnf);repeat(refine⟨rfl,?_⟩;conv=>whnf)))
       refine ⟨s + 1,by omega,by dsimp only; omega,?_⟩
       dsimp only
       rw [eX]
       rw [show (zbC (zb6 A P g) s ++ [(s : Int)]).length = (zbC (zb6 A P g) s).length + 1 by simp]
       (refine zal 13 (by simp) rfl ?_ ?_ <;> (repeat' (first | exact trivial | exact rfl | exact DeepM.refl _ | exact DeepML.refl _ | exact DeepMLL.refl _ | refine And.intro ?_ ?_ | (simp [zai,zae,zak,-List.map_take,-List.map_drop]; done))))
       all_goals
        first | exact zad _ (zar _) | exact zaf _ (zam _) | exact zad _ (by simp [zao,Pure,elD,zat]; done) | exact zaa _ (zbu _) | exact zaa _ (zbi _) | exact zaa _ (zaP _) | exact zaa _ (zat _) | exact zaa _ (zas _ (fun l=>by simp [zao,Pure]) _) | exact zaf _ (zbj _) | exact zah (zbk (by simp)) | exact za9 (by simp) rfl rfl rfl | exact zah (zaR _ _) | skip
      ·rw [if_neg (by simp)] at eX
       ((conv=>whnf);repeat(refine⟨rfl,?_⟩;conv=>whnf))
       (refine .inl ⟨by (unfold InR; rw [IntKind.wrap_i64]; omega),?_⟩; ((conv=>whnf);repeat(refine⟨rfl,?_⟩;conv=>whnf)))
       refine ⟨s + 1,by omega,by dsimp only; omega,?_⟩
       dsimp only
       rw [eX]
       exact zan (by (repeat' (first | exact trivial | refine And.intro rfl ?_))) rfl
     ·rw [if_pos (by simp)] at eX
      ((conv=>whnf);repeat(refine⟨rfl,?_⟩;conv=>whnf))
      refine ⟨(by unfold zaj; simp only [ll]; omega),?_⟩
      ((conv=>whnf);repeat(refine⟨rfl,?_⟩;conv=>whnf))
      (refine .inl ⟨by (unfold InR; rw [IntKind.wrap_i64]; omega),?_⟩; ((conv=>whnf);repeat(refine⟨rfl,?_⟩;conv=>whnf)))
      refine ⟨s + 1,by omega,by dsimp only; omega,?_⟩
      dsimp only
      rw [eX]
      rw [show (zbC (zb6 A P g) s ++ [(s : Int)]).length = (zbC (zb6 A P g) s).length + 1 by simp]
      (refine zal 13 (by simp) rfl ?_ ?_ <;> (repeat' (first | exact trivial | exact rfl | exact DeepM.refl _ | exact DeepML.refl _ | exact DeepMLL.refl _ | refine And.intro ?_ ?_ | (simp [zai,zae,zak,-List.map_take,-List.map_drop]; done))))
      all_goals
       first | exact zad _ (zar _) | exact zaf _ (zam _) | exact zad _ (by simp [zao,Pure,elD,zat]; done) | exact zaa _ (zbu _) | exact zaa _ (zbi _) | exact zaa _ (zaP _) | exact zaa _ (zat _) | exact zaa _ (zas _ (fun l=>by simp [zao,Pure]) _) | exact zaf _ (zbj _) | exact zah (zbk (by simp)) | exact za9 (by simp) rfl rfl rfl | exact zah (zaR _ _) | skip
    ·have q1 : s = N:=by have : ¬ s < N:=by ((try simp only[oo,reduceCtorEq]at*)<;>omega)
                         omega
     obtain rfl : N = s:=q1.symm
     refine ⟨by omega,_,hta _ (by omega),?_⟩
     ((conv=>whnf);repeat(refine⟨rfl,?_⟩;conv=>whnf))
     rw [e8]
     ((conv=>whnf);repeat(refine⟨rfl,?_⟩;conv=>whnf))
     refine ⟨by omega,_,hta _ (by omega),?_⟩
     ((conv=>whnf);repeat(refine⟨rfl,?_⟩;conv=>whnf))
     rw [e9]
     ((conv=>whnf);repeat(refine⟨rfl,?_⟩;conv=>whnf))
     refine ⟨(by unfold zaj; simp only [ll]; omega),?_⟩
     ((conv=>whnf);repeat(refine⟨rfl,?_⟩;conv=>whnf))
     (refine .inl ⟨by (unfold InR; rw [IntKind.wrap_i64]; omega),?_⟩; ((conv=>whnf);repeat(refine⟨rfl,?_⟩;conv=>whnf)))
     refine ⟨k + 1,by omega,by dsimp only; omega,?_⟩
     dsimp only
     rw [hfe]
     rw [show (zcl A P k ++ [zbC (zb6 A P g) N]).length = (zcl A P k).length + 1 by simp]
     (refine zal 12 (by simp) rfl ?_ ?_ <;> (repeat' (first | exact trivial | exact rfl | exact DeepM.refl _ | exact DeepML.refl _ | exact DeepMLL.refl _ | refine And.intro ?_ ?_ | (simp [zai,zae,zak,-List.map_take,-List.map_drop]; done))))
     all_goals
      first | exact zad _ (zar _) | exact zaf _ (zam _) | exact zad _ (by simp [zao,Pure,elD,zat]; done) | exact zaa _ (zbu _) | exact zaa _ (zbi _) | exact zaa _ (zaP _) | exact zaa _ (zat _) | exact zaa _ (zas _ (fun l=>by simp [zao,Pure]) _) | exact zaf _ (zbj _) | exact zah (zbk (by simp)) | exact za9 (by simp) rfl rfl rfl | exact zah (zaR _ _) | skip
   ·rw [if_pos (by omega)] at hfe
    have e8 : (g.kind == 8) = false:=by simpa using k8
    have e9 : (g.kind == 9) = false:=by simpa using k9
    refine zaA (zcu 23 1 (by simp) rfl) ?_
    refine zaz [2,4,6,7,8,22] (fun s : Nat=>[(23,.own 12 (zbC (fun _=>false) s).length 0 (zbC (fun _=>false) s).length),(24,.sc (.int .i64 s))]) (fun s=>[.row true (drow f),.row true [.sc (.slice none 0 0),.sc (.slice none 0 0),.sc (.slice none 0 0),.sc (.slice none 0 0),.sc (.slice none 0 0)],.row false [.lst 3 (zaL (elL A P))],.row false [.fn (.func 52) [] [elD (elL A P)]],.row true [isF (elL A P) 4],.row true [.own 7 (stE A P f N).length 0 (stE A P f N).length,.own 8 N 0 N,.own 9 N 0 N,.own 10 N 0 N,.own 11 (zcl A P k).length 0 (zcl A P k).length],.vec true 0 1 (((List.range N).map fun s=>zcb A P s n).map fun l=>[.lst 1 (l.map zdn)]),.vec true (stE A P f N).length 1 (i64s (stE A P f N)),.vec true N 1 (zba (tnxE A P N)),.vec true N 1 (u64r (leE A true N)),.vec true N 1 (u64r (leE A false N)),.vec true (zcl A P k).length 1 (zba (zcl A P k)),.vec true (zbC (fun _=>false) s).length 1 (i64s (zbC (fun _=>false) s))]) (fun s=>s≤N) (fun s=>N - s) 0 ?_
    ((conv=>whnf);repeat(refine⟨rfl,?_⟩;conv=>whnf))
    refine ⟨by omega,by (repeat' (first | exact trivial | refine And.intro rfl ?_)),rfl,?_⟩
    rintro s hs
    have hxl:=zb0 (fun _=>false) s
    ((conv=>whnf);repeat(refine⟨rfl,?_⟩;conv=>whnf))
    (apply zac; focus (repeat' constructor))
    ((conv=>whnf);repeat(refine⟨rfl,?_⟩;conv=>whnf))
    (refine zab (fun q1=>?_) (fun q1=>?_) <;> (rw [q1]; ((conv=>whnf);repeat(refine⟨rfl,?_⟩;conv=>whnf))))
    ·have q1 : s < N:=by ((try simp only[oo,reduceCtorEq]at*)<;>omega)
     have eX:=zcE (fun _=>false) s
     refine ⟨by omega,_,hta _ (by omega),?_⟩
     ((conv=>whnf);repeat(refine⟨rfl,?_⟩;conv=>whnf))
     rw [if_neg (by simp)] at eX
     rw [e8]
     ((conv=>whnf);repeat(refine⟨rfl,?_⟩;conv=>whnf))
     refine ⟨by omega,_,hta _ (by omega),?_⟩
     ((conv=>whnf);repeat(refine⟨rfl,?_⟩;conv=>whnf))
     rw [e9]
     ((conv=>whnf);repeat(refine⟨rfl,?_⟩;conv=>whnf))
     (refine .inl ⟨by (unfold InR; rw [IntKind.wrap_i64]; omega),?_⟩; ((conv=>whnf);repeat(refine⟨rfl,?_⟩;conv=>whnf)))
     refine ⟨s + 1,by omega,by dsimp only; omega,?_⟩
     dsimp only
     rw [eX]
     exact zan (by (repeat' (first | exact trivial | refine And.intro rfl ?_))) rfl
    ·have q1 : s = N:=by have : ¬ s < N:=by ((try simp only[oo,reduceCtorEq]at*)<;>omega)
                         omega
     obtain rfl : N = s:=q1.symm
     refine ⟨by omega,_,hta _ (by omega),?_⟩
     ((conv=>whnf);repeat(refine⟨rfl,?_⟩;conv=>whnf))
     rw [e8]
     ((conv=>whnf);repeat(refine⟨rfl,?_⟩;conv=>whnf))
     refine ⟨by omega,_,hta _ (by omega),?_⟩
     ((conv=>whnf);repeat(refine⟨rfl,?_⟩;conv=>whnf))
     rw [e9]
     ((conv=>whnf);repeat(refine⟨rfl,?_⟩;conv=>whnf))
     (refine .inl ⟨by (unfold InR; rw [IntKind.wrap_i64]; omega),?_⟩; ((conv=>whnf);repeat(refine⟨rfl,?_⟩;conv=>whnf)))
     refine ⟨k + 1,by omega,by dsimp only; omega,?_⟩
     dsimp only
     rw [hfe]
     (refine zal 12 (by simp) rfl ?_ ?_ <;> (repeat' (first | exact trivial | exact rfl | exact DeepM.refl _ | exact DeepML.refl _ | exact DeepMLL.refl _ | refine And.intro ?_ ?_ | (simp [zai,zae,zak,-List.map_take,-List.map_drop]; done))))
     all_goals
      first | exact zad _ (zar _) | exact zaf _ (zam _) | exact zad _ (by simp [zao,Pure,elD,zat]; done) | exact zaa _ (zbu _) | exact zaa _ (zbi _) | exact zaa _ (zaP _) | exact zaa _ (zat _) | exact zaa _ (zas _ (fun l=>by simp [zao,Pure]) _) | exact zaf _ (zbj _) | exact zah (zbk (by simp)) | exact za9 (by simp) rfl rfl rfl | exact zah (zaR _ _) | skip
 ·have q0 : k = n:=by have : ¬ k < n:=by ((try simp only[oo,reduceCtorEq]at*)<;>omega)
                      omega
  obtain rfl : n = k:=q0.symm
  have hE:=zoW A P f
  rw [hnn,h2N] at hE
  have hfr : zcl A P n = zcG A P n P.length:=by unfold zcl; rw [hnn,show n - A.length = P.length by omega]
  rw [hE,← hfr]
  refine .tup _ _ (.cons _ _ _ _ (.agg _ _ (.cons _ _ _ _ (.own _ _ _ _ _ _ _ _ rfl ?_) (.cons _ _ _ _ (.own _ _ _ _ _ _ _ _ rfl ?_) (.cons _ _ _ _ (.own _ _ _ _ _ _ _ _ rfl ?_) (.cons _ _ _ _ (.own _ _ _ _ _ _ _ _ rfl ?_) (.cons _ _ _ _ (.own _ _ _ _ _ _ _ _ rfl ?_) .nil)))))) (.cons _ _ _ _ (.refl _) .nil))
  ·exact za8 (by simp [i64s])
  ·exact za8 (by simp)
  ·exact za8 (by simp)
  ·exact za8 (by simp)
  ·exact za8 (by simp)
end
section
open Go.RowKit
def c15 : PC:=.seq (.ops [q 2 (.move (.const (.int .i64 0)))] false) (.seq (.seq (.ops [qm 3 0] false) (.block 0 (.seq (.seq (.ops [q 5 (.bin .eql (.tmp 3) (.const (.int .i64 1))),qm 4 5] false) (.cond (.tmp 4) (.skip) (.seq (.ops [q 6 (.bin .eql (.tmp 3) (.const (.int .i64 2))),qm 4 6] false) (.cond (.tmp 4) (.skip) (.ops [q 7 (.bin .eql (.tmp 3) (.const (.int .i64 3))),qm 4 7] false))))) (.cond (.tmp 4) (.seq (.ops [q 2 (.move (.const (.int .i64 0)))] false) (.ret)) (.seq (.seq (.ops [q 9 (.bin .eql (.tmp 3) (.const (.int .i64 4))),qm 8 9] false) (.cond (.tmp 8) (.skip) (.seq (.ops [q 10 (.bin .eql (.tmp 3) (.const (.int .i64 7))),qm 8 10] false) (.cond (.tmp 8) (.skip) (.seq (.ops [q 11 (.bin .eql (.tmp 3) (.const (.int .i64 10))),qm 8 11] false) (.cond (.tmp 8) (.skip) (.ops [q 12 (.bin .eql (.tmp 3) (.const (.int .i64 11))),qm 8 12] false))))))) (.cond (.tmp 8) (.seq (.ops [q 2 (.move (.const (.int .i64 1)))] false) (.ret)) (.seq (.seq (.ops [q 14 (.bin .eql (.tmp 3) (.const (.int .i64 5))),qm 13 14] false) (.cond (.tmp 13) (.skip) (.seq (.ops [q 15 (.bin .eql (.tmp 3) (.const (.int .i64 6))),qm 13 15] false) (.cond (.tmp 13) (.skip) (.seq (.ops [q 16 (.bin .eql (.tmp 3) (.const (.int .i64 8))),qm 13 16] false) (.cond (.tmp 13) (.skip) (.ops [q 17 (.bin .eql (.tmp 3) (.const (.int .i64 9))),qm 13 17] false))))))) (.cond (.tmp 13) (.seq (.ops [q 2 (.move (.const (.int .i64 2)))] false) (.ret)) (.skip))))))))) (.seq (.ops [q 2 (.move (.const (.int .i64 (-1))))] false) (.ret)))
theorem c15_ok : FunOK Tryz.prog 15 18 [.tmp 2] c15:=⟨⟨Tryz.f15,Tryz.func15,rfl,by kernel_rfl,rfl,by kernel_rfl⟩⟩
def c14_1 : PC:=.seq (.seq (.ops [qm 42 7,q 43 (.faddr 2 (.tmp 4)),q 44 (.load1 (.tmp 43)),q 45 (.len (.tmp 44)),q 46 (.bin .lss (.tmp 42) (.tmp 45))] false) (.cond (.tmp 46) (.skip) (.exit 0))) (.seq (.block 1 (.seq (.ops [q 49 (.load1 (.tmp 3)),q 50 (.faddr 2 (.tmp 4)),qd 51 (.load1 (.tmp 50)) 2,qm 52 7,qd 53 (.iaddr 3 (.tmp 51) (.tmp 52)) 14,qd 54 (.loadA 3 (.tmp 53)) 30,qm 55 1,qd 56 (.bin .add (.tmp 55) (.const (.int .i64 1))) 64,qd 57 (.callv (.tmp 49) [(.tmp 54),(.tmp 56)]) 255,qw 8 57 511] true) (.seq (.ops [qm 58 8,q 59 (.bin .neq (.tmp 58) (.const (.int .i64 0)))] false) (.cond (.tmp 59) (.seq (.ops [qm 60 8,qm 6 60] false) (.ret)) (.skip))))) (.ops [qm 47 7,q 48 (.bin .add (.tmp 47) (.const (.int .i64 1))),qm 7 48] false))
def c14 : PC:=.seq (.ops [q 4 (.box (.tmp 0)),q 6 (.move (.const (.int .i64 0)))] false) (.seq (.ops [q 9 (.load1 (.tmp 2)),q 10 (.bin .add (.tmp 9) (.const (.int .i64 1))),qn (.store 1 (.tmp 2) (.tmp 10))] false) (.seq (.seq (.ops [q 11 (.load1 (.tmp 2)),q 12 (.bin .gtr (.tmp 11) (.const (.int .i64 60)))] false) (.cond (.tmp 12) (.seq (.ops [q 6 (.move (.const (.int .i64 2)))] false) (.ret)) (.skip))) (.seq (.seq (.ops [qm 13 1,q 14 (.bin .gtr (.tmp 13) (.const (.int .i64 20)))] false) (.cond (.tmp 14) (.seq (.ops [q 6 (.move (.const (.int .i64 5)))] false) (.ret)) (.skip))) (.seq (.seq (.ops [q 15 (.faddr 2 (.tmp 4)),qd 16 (.load1 (.tmp 15)) 1,qd 17 (.len (.tmp 16)) 3,q 18 (.faddr 0 (.tmp 4)),qd 19 (.load1 (.tmp 18)) 8,qd 20 (.call 15 [(.tmp 19)]) 24,qd 21 (.bin .neq (.tmp 17) (.tmp 20)) 63,qw 22 21 127,⟨some 23,.faddr 1 (.tmp 4),some (22,false),255⟩,⟨some 24,.load1 (.tmp 23),some (22,false),511⟩,⟨some 25,.bin .lss (.tmp 24) (.const (.int .i64 0)),some (22,false),1023⟩,qd 26 (.pick (.tmp 22) (.const (.bool true)) (.tmp 25)) 2047,qw 27 26 4095,⟨some 28,.faddr 1 (.tmp 4),some (27,false),8191⟩,⟨some 29,.load1 (.tmp 28),some (27,false),16383⟩,⟨some 30,.bin .gtr (.tmp 29) (.const (.int .i64 63)),some (27,false),32767⟩,qd 31 (.pick (.tmp 27) (.const (.bool true)) (.tmp 30)) 65535,qw 32 31 131071,⟨some 33,.faddr 1 (.tmp 4),some (32,false),262143⟩,⟨some 34,.load1 (.tmp 33),some (32,false),524287⟩,⟨some 35,.bin .neq (.tmp 34) (.const (.int .i64 0)),some (32,false),1048575⟩,⟨some 36,.move (.tmp 35),some (32,false),2097151⟩,⟨some 37,.faddr 0 (.tmp 4),some (36,true),4194303⟩,⟨some 38,.load1 (.tmp 37),some (36,true),8388607⟩,⟨some 39,.bin .neq (.tmp 38) (.const (.int .i64 3)),some (36,true),16777215⟩,⟨some 40,.pick (.tmp 36) (.tmp 39) (.const (.bool false)),some (32,false),33554431⟩,qd 41 (.pick (.tmp 32) (.const (.bool true)) (.tmp 40)) 67108863] true) (.cond (.tmp 41) (.seq (.ops [q 6 (.move (.const (.int .i64 1)))] false) (.ret)) (.skip))) (.seq (.seq (.ops [q 7 (.move (.const (.int .i64 0)))] false) (.block 0 (.loop c14_1))) (.seq (.ops [q 6 (.move (.const (.int .i64 0)))] false) (.ret)))))))
theorem c14_ok : FunOK Tryz.prog 14 61 [.tmp 6] c14:=⟨⟨Tryz.f14,Tryz.func14,rfl,by kernel_rfl,rfl,by kernel_rfl⟩⟩
def c6 : PC:=.seq (.ops [q 1 (.box (.tmp 0)),q 2 (.move (.const (.int .i64 0)))] false) (.seq (.ops [q 3 (.alloc [(.int .i64 0)]),qn (.store 1 (.tmp 3) (.const (.int .i64 0)))] false) (.seq (.ops [q 4 (.alloc [(.nilFunc)])] false) (.seq (.ops [q 5 (.mkfn (.func 14) [] [(.tmp 3),(.tmp 4)]),qn (.store 1 (.tmp 4) (.tmp 5))] false) (.seq (.ops [q 6 (.load1 (.tmp 4)),q 7 (.loadA 3 (.tmp 1)),q 8 (.callv (.tmp 6) [(.tmp 7),(.const (.int .i64 1))]),qm 2 8] false) (.ret)))))
theorem c6_ok : FunOK Tryz.prog 6 9 [.tmp 2] c6:=⟨⟨Tryz.f6,Tryz.func6,rfl,by kernel_rfl,rfl,by kernel_rfl⟩⟩
def zef : D:=.fn (.func 14) [] [.loc 0 0,.loc 1 0]
@[simp] theorem under_lookLtl {m : Nat} : zai m zef↔0 < m∧1 < m:=by simp [zef,zai,zae]
theorem zlI (k : Int) : PCall Tryz.prog 15 [.sc (.int .i64 k)] (.sc (.int .i64 (zaE k))):=by
 refine zag c15_ok (by simp) (by simp [zao,Pure]) ?_ (by simp [Pure])
 (apply zac; focus (repeat' constructor))
 ((conv=>whnf);repeat(refine⟨rfl,?_⟩;conv=>whnf))
 repeat' (first | (refine zab (fun h=>?_) (fun h=>?_) <;> (rw [h]; ((conv=>whnf);repeat(refine⟨rfl,?_⟩;conv=>whnf)))) | exact zbW (by unfold zaE; congr 2; (repeat' split) <;> first | rfl | ((try simp only[oo,reduceCtorEq]at*)<;>omega)))
theorem ref_Ltl1 : ∀ (t : Tree) (d n : Int),Small t→0≤d→d≤21→0≤n→n≤60→ACall Tryz.prog 14 [za7 t,.sc (.int .i64 d),.loc 0 0,.loc 1 0] [.row true [.sc (.int .i64 n)],.row true [zef]] (.sc (.int .i64 (chkT zaE t d n).1)) [.row true [.sc (.int .i64 (chkT zaE t d n).2)],.row true [zef]]:=by
 intro t
 induction t using Tree.ind with
 | h t ih =>
  intro d n hs hd hd' hn hn'
  have hsz:=hs.width
  refine zb4 c14_ok (by simp) (by simp) ?_ (by simp [zai]) (by simp [AObj.under,zae,zai,zef])
  (apply zac; focus (repeat' constructor))
  ((conv=>whnf);repeat(refine⟨rfl,?_⟩;conv=>whnf))
  refine .inl ⟨by unfold InR; rw [IntKind.wrap_i64]; omega,?_⟩
  ((conv=>whnf);repeat(refine⟨rfl,?_⟩;conv=>whnf))
  have e:=zot zaE t d n
  (refine zab (fun h1=>?_) (fun h1=>?_) <;> (rw [h1]; ((conv=>whnf);repeat(refine⟨rfl,?_⟩;conv=>whnf))))
  ·simp at h1
   rw [e,if_pos h1]
   exact ⟨rfl,rfl,by simp⟩
  rw [if_neg (by simpa using h1)] at e
  (refine zab (fun h2=>?_) (fun h2=>?_) <;> (rw [h2]; ((conv=>whnf);repeat(refine⟨rfl,?_⟩;conv=>whnf))))
  ·simp at h2
   rw [e,if_pos h2]
   exact ⟨rfl,rfl,by simp⟩
  rw [if_neg (by simpa using h2)] at e
  (refine .inl ⟨_,(zlI t.kind),?_⟩; ((conv=>whnf);repeat(refine⟨rfl,?_⟩;conv=>whnf)))
  have odd : zbb zaE t→chkT zaE t d n = (1,n + 1):=fun h=>by rw [e,if_pos h]
  have bad : zbb zaE t→(D.sc (Value.int IntKind.i64 1) = .sc (.int .i64 (chkT zaE t d n).1)∧List.take [AObj.row true [D.sc (Value.int IntKind.i64 (chkT zaE t d n).2)],.row true [zef]].length [AObj.row true [D.sc (Value.int IntKind.i64 (n + 1))],.row true [zef],AObj.row true (drow t)] = [AObj.row true [D.sc (Value.int IntKind.i64 (chkT zaE t d n).2)],.row true [zef]]∧[AObj.row true [D.sc (Value.int IntKind.i64 (chkT zaE t d n).2)],.row true [zef]].length≤3):=fun h=>by
   rw [odd h]; exact ⟨rfl,rfl,by simp⟩
  repeat' (first
   | (refine zab (fun h=>?_) (fun h=>?_) <;> (rw [h]; ((conv=>whnf);repeat(refine⟨rfl,?_⟩;conv=>whnf))))
   | exact bad (by unfold zbb Tree.width; ((try simp only[oo,reduceCtorEq]at*)<;>omega)))
  all_goals
   have hno : ¬ zbb zaE t:=by unfold zbb Tree.width; ((try simp only[oo,reduceCtorEq]at*)<;>omega)
   rw [if_neg hno] at e
   have hn1 : n + 1≤60:=by simp at h1; omega
   have hd1 : d≤20:=by simp at h2; omega
   refine zeo (fun x : Nat × Int=>[(1,.sc (.int .i64 d)),(2,.loc 0 0),(3,.loc 1 0),(4,.loc 2 0),(7,.sc (.int .i64 x.1))])
    (fun x=>[.row true [.sc (.int .i64 x.2)],.row true [zef],.row true (drow t)]) (fun x=>x.1≤t.width∧0≤x.2∧x.2≤60∧chkF zaE t.kids (d + 1) (n + 1) = chkF zaE (t.kids.drop x.1) (d + 1) x.2) (fun x=>t.width - x.1) (0,n + 1)
    ⟨by simp,by simp; omega,hn1,rfl⟩ (zf0 ⟨rfl,rfl,rfl,rfl,rfl,trivial⟩) ?_
   clear h1 h2
   rintro ⟨k,m⟩ ⟨hk,hm0,hm1,hF⟩
   (apply zac; focus (repeat' constructor))
   ((conv=>whnf);repeat(refine⟨rfl,?_⟩;conv=>whnf))
   (refine zab (fun h4=>?_) (fun h4=>?_) <;> (rw [h4]; ((conv=>whnf);repeat(refine⟨rfl,?_⟩;conv=>whnf))))
   ·have hk' : k < t.width:=by simpa [Tree.width] using h4
    rw [zj2 _ hk'] at hF
    refine ⟨by omega,_,zaZ hk',?_⟩
    ((conv=>whnf);repeat(refine⟨rfl,?_⟩;conv=>whnf))
    refine .inl ⟨by unfold InR; rw [IntKind.wrap_i64]; omega,?_⟩
    ((conv=>whnf);repeat(refine⟨rfl,?_⟩;conv=>whnf))
    (refine .inr (.inr (.inr (.inl ⟨_,_,by simp [zae,zak,zbg,AObj.under,zai],by simp [zae,zak,zbg,AObj.under,zai],(zbh (ih k hk' (d + 1) m (hs.kid hk') (by omega) (by omega) hm0 hm1) [.row true (drow t)] rfl (by simp [zae,zai]) (by simp [zbg,AObj.under,zae,zai])),?_⟩))); ((conv=>whnf);repeat(refine⟨rfl,?_⟩;conv=>whnf)))
    (refine zab (fun h5=>?_) (fun h5=>?_) <;> (rw [h5]; ((conv=>whnf);repeat(refine⟨rfl,?_⟩;conv=>whnf))))
    ·rw [e,hF,if_neg (by simpa using h5)]
     exact ⟨rfl,rfl,by simp⟩
    ·have h5' : (chkT zaE (t.kid k) (d + 1) m).1 = 0:=by simpa using h5
     rw [if_pos h5'] at hF
     have b1:=(zhN zaE (t.kid k) (d + 1) m).1
     have b2:=zjF zaE (t.kid k) (d + 1) m h5'
     refine .inl ⟨by unfold InR; rw [IntKind.wrap_i64]; unfold Tree.width at *; omega,?_⟩
     ((conv=>whnf);repeat(refine⟨rfl,?_⟩;conv=>whnf))
     refine ⟨(k + 1,(chkT zaE (t.kid k) (d + 1) m).2),⟨by dsimp only at *; omega,by dsimp only at *; omega,b2,hF⟩,by dsimp only at *; omega,zf0 ⟨rfl,rfl,rfl,rfl,rfl,trivial⟩⟩
   ·have hk' : k = t.width:=by have : ¬ k < t.width:=by simpa [Tree.width] using h4
                               dsimp only at hk; omega
    rw [e,hF,hk',zk4]
    exact ⟨rfl,rfl,by simp⟩
theorem zgF (t : Tree) (hs : Small t) : PCall Tryz.prog 6 [za7 t] (.sc (.int .i64 (chk zaE t))):=by
 refine zag c6_ok (by simp) (by simp [zao,zap]) ?_ (by simp [Pure])
 (apply zac; focus (repeat' constructor))
 ((conv=>whnf);repeat(refine⟨rfl,?_⟩;conv=>whnf))
 (refine .inr (.inr (.inl ⟨rfl,_,_,(zcj (ref_Ltl1 t 1 0 hs (by omega) (by omega) (by omega) (by omega)) [.row true (drow t)] [] rfl (by simp [zae,zai]) (by simp [zbg,AObj.under,zae,zai]) (args2:=[za7 t,.sc (.int .i64 1),.loc 1 0,.loc 2 0]) (by simp [renL,D.ren]) rfl rfl rfl),?_⟩)); ((conv=>whnf);repeat(refine⟨rfl,?_⟩;conv=>whnf)))
 exact .refl _
end
section
open Go.RowKit
theorem zjs {p : Nat→Bool} {n : Nat} : inB (zbC p n) n = true:=zdP fun x hx=>by
 obtain ⟨k,hk,rfl⟩:=List.mem_map.1 hx
 have:=List.mem_range.1 (List.mem_filter.1 hk).1
 omega
theorem zeD (A : List Int) (P : List Tree) (f : Tree) : (tabE A P f).next.length = 2 ^ (A.length + P.length):=by simp [tabE]
theorem tabE_chk {A : List Int} {P : List Tree} (h : A.length + P.length≤10) (f : Tree) : (tabE A P f).chk = 0:=by
 have h2:=zdR h
 have hn:=zeD A P f
 have hf : (tabE A P f).fair.length≤P.length:=zfk _ _ _ _
 unfold AutoD.chk
 rw [if_neg (by omega),if_neg ?_,if_neg ?_,if_neg ?_]
 ·rw [Bool.not_eq_true,List.any_eq_false]
  intro l hl
  obtain ⟨g,_,rfl⟩:=List.mem_map.1 hl
  rw [hn,show inB (setE A P (A.length + P.length) g) (2 ^ (A.length + P.length)) = true from zjs]
  decide
 ·rw [Bool.not_eq_true,List.any_eq_false]
  intro l hl
  obtain ⟨s,_,rfl⟩:=List.mem_map.1 hl
  rw [hn,show inB (zir A P (A.length + P.length) s) (2 ^ (A.length + P.length)) = true from zjs]
  decide
 ·rw [hn]
  simp only [tabE,List.length_map,List.length_range,ne_eq,not_true_eq_false,false_or]
  rw [zjs]
  decide
theorem zhF (A : List Int) (s : Nat) (is : Bool) : ∀ k,0≤zdk A s is k∧zdk A s is k < 18446744073709551616
 | 0=>by simp [zdk]
 | k + 1=>by
  rw [zdk]
  split
  ·have e : zcW .or .u64 (zdk A s is k) (2 ^ (A.getD k 0).toNat) = (((BitVec.ofInt 64 (zdk A s is k) ||| BitVec.ofInt 64 (2 ^ (A.getD k 0).toNat)).toNat : Nat) : Int):=zlb _
   rw [e]
   have:=(BitVec.ofInt 64 (zdk A s is k) ||| BitVec.ofInt 64 (2 ^ (A.getD k 0).toNat)).isLt
   omega
  ·exact zhF A s is k
theorem znx (A : List Int) (P : List Tree) (f : Tree) : Lett (tabE A P f).must:=by
 intro x hx
 obtain ⟨s,_,rfl⟩:=List.mem_map.1 hx
 exact zhF A s true A.length
theorem zpb {A : List Int} {P : List Tree} (h : A.length + P.length≤10) (f : Tree) : (tabE A P f).Fits∧(tabE A P f).start.length≤1048576∧∀ l∈(tabE A P f).next,l.length≤1048576:=by
 have h2:=zdR h
 have s1 : (tabE A P f).start.length≤2 ^ (A.length + P.length):=zb0 _ _
 have s2 : ∀ l∈(tabE A P f).next,l.length≤2 ^ (A.length + P.length):=fun l hl=>by
  obtain ⟨s,_,rfl⟩:=List.mem_map.1 hl
  exact zb0 _ _
 have s3 : ∀ l∈(tabE A P f).fair,l.length≤2 ^ (A.length + P.length):=fun l hl=>by
  obtain ⟨s,_,rfl⟩:=List.mem_map.1 hl
  exact zb0 _ _
 have hf : (tabE A P f).fair.length≤P.length:=zfk _ _ _ _
 have hn:=zeD A P f
 have hm : (tabE A P f).must.length = 2 ^ (A.length + P.length):=by simp [tabE]
 have hm2 : (tabE A P f).nots.length = 2 ^ (A.length + P.length):=by simp [tabE]
 exact ⟨⟨by omega,by omega,by omega,by omega,by omega,fun l hl=>by have:=s2 l hl; omega,fun l hl=>by have:=s3 l hl; omega⟩,by omega,fun l hl=>by have:=s2 l hl; omega⟩
noncomputable def notE (t : Tree) : Int:=if (zeF (mk1 4 t) (zaH (mk1 4 t))).2 = 0 then if 10 < (zex (zaB (zaH (mk1 4 t)))).length + (addT [] (zaC (zaH (mk1 4 t)))).length then 2 else 0 else (zeF (mk1 4 t) (zaH (mk1 4 t))).2
noncomputable def notA (t : Tree) : AutoD:=if notE t = 0 then tabE (zex (zaB (zaH (mk1 4 t)))) (addT [] (zaC (zaH (mk1 4 t)))) (zaH (mk1 4 t)) else znD
theorem zkN (t : Tree) : zlx (mk1 4 t) = .tup [zeh (notA t),.sc (.int .i64 (notE t))]:=by
 unfold zlx notA notE ansT
 by_cases h : (zeF (mk1 4 t) (zaH (mk1 4 t))).2 = 0
 ·simp only [if_pos h]
  by_cases q : 10 < (zex (zaB (zaH (mk1 4 t)))).length + (addT [] (zaC (zaH (mk1 4 t)))).length
  ·simp only [if_pos q]
   rw [if_neg (by decide)]; rfl
  ·simp only [if_neg q]
   rfl
 ·simp only [if_neg h]
theorem notA_few {t : Tree} (h : notE t = 0) : (zex (zaB (zaH (mk1 4 t)))).length + (addT [] (zaC (zaH (mk1 4 t)))).length≤10:=by
 unfold notE at h
 split at h
 ·split at h
  ·exact absurd h (by decide)
  ·omega
 ·rename_i q; exact absurd h q
theorem zlf {t : Tree} (h : notE t = 0) : notA t = tabE (zex (zaB (zaH (mk1 4 t)))) (addT [] (zaC (zaH (mk1 4 t)))) (zaH (mk1 4 t)):=if_pos h
theorem zmy {W : WorldD} (hW : W.Fits) (hc : W.chk = 0) (s1 : W.start.length≤1048576) (r1 : ∀ l∈W.next,l.length≤1048576) {t : Tree} (h : notE t = 0) : BigW W (notA t):=by
 have hf:=notA_few h
 rw [zlf h]
 obtain ⟨h1,h2,h3⟩:=zpb hf (zaH (mk1 4 t))
 exact ⟨⟨hW,h1,hc,tabE_chk hf _⟩,s1,h2,r1,h3⟩
theorem zh9 {P : Program} {f : FuncId} {d : D} {H : List AObj} {id : Nat} {k : Int} {t : Tree} (h : PCall P f [za7 (mk1 k t)] d) (hp : Pure d) (hid : H[id]? = some (.vec true 0 3 [[.sc (.int .i64 t.kind),.sc (.int .i64 t.num),.lst 3 (t.kids.map zbo)]])) :
  ACallAt P f [.agg [.sc (.int .i64 k),.sc (.int .i64 0),.own id 0 0 1]] H d (H.set id (.vec false 0 3 [[.sc (.int .i64 t.kind),.sc (.int .i64 t.num),.lst 3 (t.kids.map zbo)]])) [id]:=by
 have hx : zbd [[D.sc (.int .i64 t.kind),.sc (.int .i64 t.num),.lst 3 (t.kids.map zbo)]]:=by
  have:=zar t
  exact ⟨this,trivial⟩
 have:=zf1 (args0:=[.agg [.sc (.int .i64 k),.sc (.int .i64 0),.own 0 0 0 1]]) (args':=[za7 (mk1 k t)]) (H0:=[.vec true 0 3 [[.sc (.int .i64 t.kind),.sc (.int .i64 t.num),.lst 3 (t.kids.map zbo)]]]) (H:=H) (args:=[.agg [.sc (.int .i64 k),.sc (.int .i64 0),.own id 0 0 1]])
  (.cons _ _ _ _ (.agg _ _ (.cons _ _ _ _ (.refl _) (.cons _ _ _ _ (.refl _) (.cons _ _ _ _ (.own _ _ _ _ _ _ _ _ rfl (.cons _ _ _ _ (by rw [zcV]; exact zc4 _) .nil)) .nil)))) .nil) h hp [id] rfl (by simp) (by simp [zae,zai]) ⟨zaa _ hx,trivial⟩ (by simp [renL,D.ren]) (fun i o ho=>by
   cases i with
   | zero =>
    simp at ho; subst ho
    show H[id]? = _
    rw [hid]
    simp only [AObj.ren,zbn _ hx]
   | succ i=>simp at ho)
 simpa [zfZ,AObj.frozen,AObj.ren,zbn _ hx,putL] using this
def c4 : PC:=.seq (.ops [q 2 (.box (.tmp 0)),q 3 (.box (.tmp 1)),q 4 (.alloc [(.slice none 0 0),(.slice none 0 0)]),q 5 (.move (.const (.bool false))),q 6 (.move (.const (.int .i64 0)))] false) (.seq (.seq (.ops [q 13 (.loadA 4 (.tmp 2)),q 14 (.call 9 [(.tmp 13)]),qm 7 14] false) (.seq (.ops [qm 15 7,q 16 (.bin .neq (.tmp 15) (.const (.int .i64 0)))] false) (.cond (.tmp 16) (.seq (.ops [q 17 (.build [(.slice none 0 0),(.slice none 0 0)] []),qm 18 7,qn (.store 2 (.tmp 4) (.tmp 17)),q 5 (.move (.const (.bool false))),qm 6 18] false) (.ret)) (.skip)))) (.seq (.seq (.ops [q 19 (.loadA 3 (.tmp 3)),q 20 (.call 10 [(.tmp 19)]),qm 8 20] false) (.seq (.ops [qm 21 8,q 22 (.bin .neq (.tmp 21) (.const (.int .i64 0)))] false) (.cond (.tmp 22) (.seq (.ops [q 23 (.build [(.slice none 0 0),(.slice none 0 0)] []),qm 24 8,qn (.store 2 (.tmp 4) (.tmp 23)),q 5 (.move (.const (.bool false))),qm 6 24] false) (.ret)) (.skip)))) (.seq (.ops [q 26 (.loadA 3 (.tmp 3)),q 27 (.bslice 3 1 [(.tmp 26)]),q 28 (.build [(.int .i64 0),(.int .i64 0),(.slice none 0 0)] [(0,1,(.const (.int .i64 4))),(2,1,(.tmp 27))]),q 29 (.call 11 [(.tmp 28)]),qm 25 29,q 30 (.ext 0 (.tmp 25)),q 31 (.ext 1 (.tmp 25)),q 9 (.alloc [(.slice none 0 0),(.slice none 0 0),(.slice none 0 0),(.slice none 0 0),(.slice none 0 0)]),qn (.store 5 (.tmp 9) (.tmp 30)),qm 10 31] false) (.seq (.seq (.ops [qm 32 10,q 33 (.bin .neq (.tmp 32) (.const (.int .i64 0)))] false) (.cond (.tmp 33) (.seq (.ops [q 34 (.build [(.slice none 0 0),(.slice none 0 0)] []),qm 35 10,qn (.store 2 (.tmp 4) (.tmp 34)),q 5 (.move (.const (.bool false))),qm 6 35] false) (.ret)) (.skip))) (.seq (.ops [q 37 (.loadA 4 (.tmp 2)),q 38 (.loadA 5 (.tmp 9)),q 39 (.call 12 [(.tmp 37),(.tmp 38)]),qm 36 39,q 40 (.ext 0 (.tmp 36)),q 41 (.ext 1 (.tmp 36)),q 42 (.ext 2 (.tmp 36)),q 11 (.alloc [(.slice none 0 0),(.slice none 0 0)]),qn (.store 2 (.tmp 11) (.tmp 40)),qm 12 41,qm 10 42] false) (.seq (.ops [q 43 (.loadA 2 (.tmp 11)),qm 44 12,q 45 (.un .not (.tmp 44)),qm 46 45,⟨some 47,.move (.tmp 10),some (46,true),0⟩,⟨some 48,.bin .eql (.tmp 47) (.const (.int .i64 0)),some (46,true),0⟩,q 49 (.pick (.tmp 46) (.tmp 48) (.const (.bool false))),qm 50 10,qn (.store 2 (.tmp 4) (.tmp 43)),qm 5 49,qm 6 50] false) (.ret)))))))
theorem c4_ok : FunOK Tryz.prog 4 51 [.agg 4 2,.tmp 5,.tmp 6] c4:=⟨⟨Tryz.f4,Tryz.func4,rfl,by kernel_rfl,rfl,by kernel_rfl⟩⟩
theorem ju_Holds (W : WorldD) (hW : W.Fits) (s1 : W.start.length≤1048576) (r1 : ∀ l∈W.next,l.length≤1048576) (t : Tree) (hs : Small t) :
  ∃ s l,PCall Tryz.prog 4 [zcR W,za7 t] (.tup [.agg [zaD s,zaD l],.sc (.bool (decide (W.chk = 0∧chk zaE t = 0∧notE t = 0) && !(ansE W (notA t)))),.sc (.int .i64 (if W.chk≠0 then W.chk else if chk zaE t≠0 then chk zaE t else notE t))]) ∧
   (W.chk = 0→chk zaE t = 0→notE t = 0→znc W (notA t) (finE W (notA t)).1 (finE W (notA t)).2 (zb3 W (notA t)).2 = .tup [.agg [zaD s,zaD l],.sc (.bool (ansE W (notA t))),.sc (.int .i64 0)])∧(¬ (W.chk = 0∧chk zaE t = 0∧notE t = 0∧ansE W (notA t) = true)→s = []∧l = []):=by
 have hC:=zmx W hW
 have hL:=zhK t hs
 have hM:=ta_Make (mk1 4 t) (zkr hs)
 rw [zkN] at hM
 by_cases h1 : W.chk = 0
 ·by_cases h2 : chk zaE t = 0
  ·by_cases h3 : notE t = 0
   ·have hb:=zmy hW h1 s1 r1 h3
    have hF:=em_Find hb
    obtain ⟨s,l,e1,e2⟩:=findR_is hb
    rw [e1] at hF
    refine ⟨s,l,?_,fun _ _ _=>e1,fun h=>e2 (by cases e : ansE W (notA t); rfl; exact absurd ⟨h1,h2,h3,e⟩ h)⟩
    rw [if_neg (by simpa using h1),if_neg (by simpa using h2),decide_eq_true ⟨h1,h2,h3⟩,Bool.true_and]
    rw [h1] at hC
    rw [h2] at hL
    rw [h3] at hM ⊢
    generalize ansE W (notA t) = b at *
    refine zag c4_ok (by simp) (by simp [zao,zb5,zap]) ?_ (by simp [Pure,zao,zam])
    unfold zcR at *
    (apply zac; focus (repeat' constructor))
    ((conv=>whnf);repeat(refine⟨rfl,?_⟩;conv=>whnf))
    (refine .inl ⟨_,hC,?_⟩; ((conv=>whnf);repeat(refine⟨rfl,?_⟩;conv=>whnf)))
    (refine .inl ⟨_,hL,?_⟩; ((conv=>whnf);repeat(refine⟨rfl,?_⟩;conv=>whnf)))
    (refine .inr (.inr (.inr (.inr (.inl ⟨_,_,_,(zh9 hM (by simp [Pure,zao,zbY]) rfl),?_⟩)))); ((conv=>whnf);repeat(refine⟨rfl,?_⟩;conv=>whnf)))
    (refine .inl ⟨_,hF,?_⟩; ((conv=>whnf);repeat(refine⟨rfl,?_⟩;conv=>whnf)))
    cases b
    ·((conv=>whnf);repeat(refine⟨rfl,?_⟩;conv=>whnf))
     (repeat' (first | exact Deep.refl _ | exact Deep.none _ | exact zaF _ | exact DeepL.nil | exact DeepLL.nil | refine Deep.agg _ _ ?_ | refine Deep.tup _ _ ?_ | refine Deep.own _ _ _ _ _ _ _ _ rfl ?_ | refine Deep.loc _ _ _ _ _ rfl ?_ | refine Deep.ifc _ _ _ ?_ | refine Deep.fn _ _ _ _ _ ?_ ?_ | refine DeepL.cons _ _ _ _ ?_ ?_ | refine DeepLL.cons _ _ _ _ ?_ ?_ | exact zaq _))
    ·((conv=>whnf);repeat(refine⟨rfl,?_⟩;conv=>whnf))
     (repeat' (first | exact Deep.refl _ | exact Deep.none _ | exact zaF _ | exact DeepL.nil | exact DeepLL.nil | refine Deep.agg _ _ ?_ | refine Deep.tup _ _ ?_ | refine Deep.own _ _ _ _ _ _ _ _ rfl ?_ | refine Deep.loc _ _ _ _ _ rfl ?_ | refine Deep.ifc _ _ _ ?_ | refine Deep.fn _ _ _ _ _ ?_ ?_ | refine DeepL.cons _ _ _ _ ?_ ?_ | refine DeepLL.cons _ _ _ _ ?_ ?_ | exact zaq _))
   ·refine ⟨[],[],?_,fun _ _ h=>absurd h h3,fun _=>⟨rfl,rfl⟩⟩
    rw [if_neg (by simpa using h1),if_neg (by simpa using h2),decide_eq_false (fun h=>h3 h.2.2),Bool.false_and]
    rw [h1] at hC
    rw [h2] at hL
    generalize notE t = c at *
    refine zag c4_ok (by simp) (by simp [zao,zb5,zap]) ?_ (by simp [Pure,zao,zam])
    unfold zcR at *
    (apply zac; focus (repeat' constructor))
    ((conv=>whnf);repeat(refine⟨rfl,?_⟩;conv=>whnf))
    (refine .inl ⟨_,hC,?_⟩; ((conv=>whnf);repeat(refine⟨rfl,?_⟩;conv=>whnf)))
    (refine .inl ⟨_,hL,?_⟩; ((conv=>whnf);repeat(refine⟨rfl,?_⟩;conv=>whnf)))
    (refine .inr (.inr (.inr (.inr (.inl ⟨_,_,_,(zh9 hM (by simp [Pure,zao,zbY]) rfl),?_⟩)))); ((conv=>whnf);repeat(refine⟨rfl,?_⟩;conv=>whnf)))
    (refine zab (fun g=>?_) (fun g=>?_) <;> (rw [g]; ((conv=>whnf);repeat(refine⟨rfl,?_⟩;conv=>whnf))))
    ·unfold zaD
     (repeat' (first | exact Deep.refl _ | exact Deep.none _ | exact zaF _ | exact DeepL.nil | exact DeepLL.nil | refine Deep.agg _ _ ?_ | refine Deep.tup _ _ ?_ | refine Deep.own _ _ _ _ _ _ _ _ rfl ?_ | refine Deep.loc _ _ _ _ _ rfl ?_ | refine Deep.ifc _ _ _ ?_ | refine Deep.fn _ _ _ _ _ ?_ ?_ | refine DeepL.cons _ _ _ _ ?_ ?_ | refine DeepLL.cons _ _ _ _ ?_ ?_ | exact zaq _))
    ·exact absurd (by ((try simp only[oo,reduceCtorEq]at*)<;>omega)) h3
  ·refine ⟨[],[],?_,fun _ h=>absurd h h2,fun _=>⟨rfl,rfl⟩⟩
   rw [if_neg (by simpa using h1),if_pos h2,decide_eq_false (fun h=>h2 h.2.1),Bool.false_and]
   rw [h1] at hC
   generalize chk zaE t = c at *
   refine zag c4_ok (by simp) (by simp [zao,zb5,zap]) ?_ (by simp [Pure,zao,zam])
   unfold zcR at *
   (apply zac; focus (repeat' constructor))
   ((conv=>whnf);repeat(refine⟨rfl,?_⟩;conv=>whnf))
   (refine .inl ⟨_,hC,?_⟩; ((conv=>whnf);repeat(refine⟨rfl,?_⟩;conv=>whnf)))
   (refine .inl ⟨_,hL,?_⟩; ((conv=>whnf);repeat(refine⟨rfl,?_⟩;conv=>whnf)))
   (refine zab (fun g=>?_) (fun g=>?_) <;> (rw [g]; ((conv=>whnf);repeat(refine⟨rfl,?_⟩;conv=>whnf))))
   ·unfold zaD
    (repeat' (first | exact Deep.refl _ | exact Deep.none _ | exact zaF _ | exact DeepL.nil | exact DeepLL.nil | refine Deep.agg _ _ ?_ | refine Deep.tup _ _ ?_ | refine Deep.own _ _ _ _ _ _ _ _ rfl ?_ | refine Deep.loc _ _ _ _ _ rfl ?_ | refine Deep.ifc _ _ _ ?_ | refine Deep.fn _ _ _ _ _ ?_ ?_ | refine DeepL.cons _ _ _ _ ?_ ?_ | refine DeepLL.cons _ _ _ _ ?_ ?_ | exact zaq _))
   ·exact absurd (by ((try simp only[oo,reduceCtorEq]at*)<;>omega)) h2
 ·refine ⟨[],[],?_,fun h=>absurd h h1,fun _=>⟨rfl,rfl⟩⟩
  rw [if_pos h1,decide_eq_false (fun h=>h1 h.1),Bool.false_and]
  generalize W.chk = c at *
  refine zag c4_ok (by simp) (by simp [zao,zb5,zap]) ?_ (by simp [Pure,zao,zam])
  unfold zcR at *
  (apply zac; focus (repeat' constructor))
  ((conv=>whnf);repeat(refine⟨rfl,?_⟩;conv=>whnf))
  (refine .inl ⟨_,hC,?_⟩; ((conv=>whnf);repeat(refine⟨rfl,?_⟩;conv=>whnf)))
  (refine zab (fun g=>?_) (fun g=>?_) <;> (rw [g]; ((conv=>whnf);repeat(refine⟨rfl,?_⟩;conv=>whnf))))
  ·unfold zaD
   (repeat' (first | exact Deep.refl _ | exact Deep.none _ | exact zaF _ | exact DeepL.nil | exact DeepLL.nil | refine Deep.agg _ _ ?_ | refine Deep.tup _ _ ?_ | refine Deep.own _ _ _ _ _ _ _ _ rfl ?_ | refine Deep.loc _ _ _ _ _ rfl ?_ | refine Deep.ifc _ _ _ ?_ | refine Deep.fn _ _ _ _ _ ?_ ?_ | refine DeepL.cons _ _ _ _ ?_ ?_ | refine DeepLL.cons _ _ _ _ ?_ ?_ | exact zaq _))
  ·exact absurd (by ((try simp only[oo,reduceCtorEq]at*)<;>omega)) h1
end
section
open Go.RowKit
theorem ziU {H : List AObj} : Deep H (.agg [.sc (.slice none 0 0),.sc (.slice none 0 0),.sc (.slice none 0 0),.sc (.slice none 0 0),.sc (.slice none 0 0)]) (zeh znD) :=
 .agg _ _ (.cons _ _ _ _ (.none _) (.cons _ _ _ _ (.none _) (.cons _ _ _ _ (.none _) (.cons _ _ _ _ (.none _) (.cons _ _ _ _ (.none _) .nil)))))
def c16j : PC:=.seq (.ops [q 1 (.box (.tmp 0)),q 2 (.alloc [(.int .i64 0),(.int .i64 0),(.slice none 0 0)])] false) (.seq (.ops [q 3 (.loadA 3 (.tmp 1)),q 4 (.call 48 [(.const (.int .i64 4)),(.tmp 3)]),qn (.store 3 (.tmp 2) (.tmp 4))] false) (.ret))
theorem c16j_ok : FunOK Tryz.prog 16 5 [.agg 2 3] c16j:=⟨⟨Tryz.f16,Tryz.func16,rfl,by kernel_rfl,rfl,by kernel_rfl⟩⟩
def c7 : PC:=.seq (.ops [q 1 (.box (.tmp 0)),q 2 (.alloc [(.slice none 0 0),(.slice none 0 0),(.slice none 0 0),(.slice none 0 0),(.slice none 0 0)]),q 3 (.move (.const (.int .i64 0)))] false) (.seq (.ops [q 7 (.loadA 3 (.tmp 1)),q 8 (.call 16 [(.tmp 7)]),q 4 (.alloc [(.int .i64 0),(.int .i64 0),(.slice none 0 0)]),qn (.store 3 (.tmp 4) (.tmp 8))] false) (.seq (.seq (.ops [q 9 (.loadA 3 (.tmp 4)),q 10 (.call 6 [(.tmp 9)]),qm 5 10] false) (.seq (.ops [qm 11 5,q 12 (.bin .neq (.tmp 11) (.const (.int .i64 0)))] false) (.cond (.tmp 12) (.seq (.ops [q 13 (.build [(.slice none 0 0),(.slice none 0 0),(.slice none 0 0),(.slice none 0 0),(.slice none 0 0)] []),qm 14 5,qn (.store 5 (.tmp 2) (.tmp 13)),qm 3 14] false) (.ret)) (.skip)))) (.seq (.seq (.ops [q 15 (.loadA 3 (.tmp 4)),q 16 (.call 17 [(.tmp 15)]),q 17 (.call 6 [(.tmp 16)]),qm 6 17] false) (.seq (.ops [qm 18 6,q 19 (.bin .neq (.tmp 18) (.const (.int .i64 0)))] false) (.cond (.tmp 19) (.seq (.ops [q 20 (.build [(.slice none 0 0),(.slice none 0 0),(.slice none 0 0),(.slice none 0 0),(.slice none 0 0)] []),qm 21 6,qn (.store 5 (.tmp 2) (.tmp 20)),qm 3 21] false) (.ret)) (.skip)))) (.seq (.ops [q 22 (.loadA 3 (.tmp 4)),q 23 (.call 18 [(.tmp 22)]),q 24 (.ext 0 (.tmp 23)),q 25 (.ext 1 (.tmp 23)),qn (.store 5 (.tmp 2) (.tmp 24)),qm 3 25] false) (.ret)))))
theorem c7_ok : FunOK Tryz.prog 7 26 [.agg 2 5,.tmp 3] c7:=⟨⟨Tryz.f7,Tryz.func7,rfl,by kernel_rfl,rfl,by kernel_rfl⟩⟩
theorem ref_notj (t : Tree) : PCall Tryz.prog 16 [za7 t] (za7 (mk1 4 t)):=by
 refine zag c16j_ok (by simp) (by simp [zao,zap]) ?_ (zap _)
 (apply zac; focus (repeat' constructor))
 ((conv=>whnf);repeat(refine⟨rfl,?_⟩;conv=>whnf))
 (refine .inl ⟨_,(ref_one 4 t),?_⟩; ((conv=>whnf);repeat(refine⟨rfl,?_⟩;conv=>whnf)))
 exact .refl _
theorem ref_Not (t : Tree) (hs : Small t) : PCall Tryz.prog 7 [za7 t] (.tup [zeh (notA t),.sc (.int .i64 (notE t))]):=by
 refine zag c7_ok (by simp) (by simp [zao,zap]) ?_ (by simp [Pure,zao,zbY])
 have hs1:=zkr (k:=4) hs
 have hA:=zkN t
 unfold zlx zeF at hA
 (apply zac; focus (repeat' constructor))
 ((conv=>whnf);repeat(refine⟨rfl,?_⟩;conv=>whnf))
 (refine .inl ⟨_,(ref_notj t),?_⟩; ((conv=>whnf);repeat(refine⟨rfl,?_⟩;conv=>whnf)))
 by_cases h0 : chk zaE (mk1 4 t) = 0
 ·have hwf:=((zey _ _).1 h0).2.2
  rw [if_pos h0] at hA
  have hsp:=zd9 _ (zlX _ hwf)
  by_cases h1 : chk zaE (zaH (mk1 4 t)) = 0
  ·rw [if_pos h1,if_pos rfl] at hA
   have hR:=zlk (mk1 4 t) hwf h1
   rw [hA] at hR
   (refine .inl ⟨_,(zgF _ hs1),?_⟩; ((conv=>whnf);repeat(refine⟨rfl,?_⟩;conv=>whnf)))
   rw [h0]
   ((conv=>whnf);repeat(refine⟨rfl,?_⟩;conv=>whnf))
   (refine .inl ⟨_,(zhL _ hwf),?_⟩; ((conv=>whnf);repeat(refine⟨rfl,?_⟩;conv=>whnf)))
   (refine .inl ⟨_,(zgF _ hsp),?_⟩; ((conv=>whnf);repeat(refine⟨rfl,?_⟩;conv=>whnf)))
   rw [h1]
   ((conv=>whnf);repeat(refine⟨rfl,?_⟩;conv=>whnf))
   (refine .inl ⟨_,hR,?_⟩; ((conv=>whnf);repeat(refine⟨rfl,?_⟩;conv=>whnf)))
   (repeat' (first | exact Deep.refl _ | exact Deep.none _ | exact zaF _ | exact DeepL.nil | exact DeepLL.nil | refine Deep.agg _ _ ?_ | refine Deep.tup _ _ ?_ | refine Deep.own _ _ _ _ _ _ _ _ rfl ?_ | refine Deep.loc _ _ _ _ _ rfl ?_ | refine Deep.ifc _ _ _ ?_ | refine Deep.fn _ _ _ _ _ ?_ ?_ | refine DeepL.cons _ _ _ _ ?_ ?_ | refine DeepLL.cons _ _ _ _ ?_ ?_ | exact zaq _))
  ·rw [if_neg h1,if_neg h1] at hA
   rw [← hA]
   (refine .inl ⟨_,(zgF _ hs1),?_⟩; ((conv=>whnf);repeat(refine⟨rfl,?_⟩;conv=>whnf)))
   rw [h0]
   ((conv=>whnf);repeat(refine⟨rfl,?_⟩;conv=>whnf))
   (refine .inl ⟨_,(zhL _ hwf),?_⟩; ((conv=>whnf);repeat(refine⟨rfl,?_⟩;conv=>whnf)))
   (refine .inl ⟨_,(zgF _ hsp),?_⟩; ((conv=>whnf);repeat(refine⟨rfl,?_⟩;conv=>whnf)))
   (refine zab (fun h2=>?_) (fun h2=>?_) <;> (rw [h2]; ((conv=>whnf);repeat(refine⟨rfl,?_⟩;conv=>whnf))))
   ·exact .tup _ _ (.cons _ _ _ _ ziU (.cons _ _ _ _ (.refl _) .nil))
   ·exact absurd (by simpa using h2) h1
 ·rw [if_neg h0,if_neg h0] at hA
  rw [← hA]
  (refine .inl ⟨_,(zgF _ hs1),?_⟩; ((conv=>whnf);repeat(refine⟨rfl,?_⟩;conv=>whnf)))
  (refine zab (fun h2=>?_) (fun h2=>?_) <;> (rw [h2]; ((conv=>whnf);repeat(refine⟨rfl,?_⟩;conv=>whnf))))
  ·exact .tup _ _ (.cons _ _ _ _ ziU (.cons _ _ _ _ (.refl _) .nil))
  ·exact absurd (by simpa using h2) h0
end
section
open Go.RowKit
theorem small_of {t : Tree} (h : t.kids.length≤9223372036854775807) (k : ∀ u∈t.kids,Small u) : Small t :=
 .mk t h fun j hj=>by rw [Tree.kid_get hj]; exact k _ (List.getElem_mem _)
theorem tree_of {P : Program} {L : Nat} {T E I : TypeId} {f0 f1 f2 : Field} (hT : P.underlying T = some (.struct #[f0,f1,f2])) (h0 : f0.type = I) (h1 : f1.type = I) (h2 : f2.type = E) (hE : P.underlying E = some (.slice T)) (hI : P.underlying I = some (.int .i64)) (hC : P.cellsOf T = 3) :
  ∀ (m : Nat) (ds : List D),SizeOf.sizeOf ds≤m→OfTz P L T ds→∃ t : Tree,ds = drow t∧Small t:=by
 intro m
 induction m with
 | zero=>intro ds hm; exact absurd hm (by cases ds <;> simp <;> omega)
 | succ m ih =>
  intro ds hm h
  have:=zkm hT h
  simp only [List.map_cons,List.map_nil,h0,h1,h2] at this
  obtain ⟨a,b,rfl,ha,hb⟩:=zeU this
  obtain ⟨c,d,rfl,hc,hd⟩:=zeU hb
  obtain ⟨e,f,rfl,he,hf⟩:=zeU hd
  obtain rfl:=zlV hf
  obtain ⟨k,rfl,_⟩:=zoq hI ha
  obtain ⟨n,rfl,_⟩:=zoq hI hc
  obtain ⟨xs,rfl,hl,hx⟩:=of_slice hE he
  rw [hC] at hm ⊢
  have each : ∀ x∈xs,∃ t : Tree,x = drow t∧Small t:=fun x hx'=>ih x (by
   have:=List.sizeOf_lt_of_mem hx'
   simp at hm
   omega) (zlO hx x hx')
  have all : ∃ ts : List Tree,xs = ts.map zbo∧∀ t∈ts,Small t:=by
   clear hm hx hl he hd hb this h ih
   induction xs with
   | nil=>exact ⟨[],rfl,by simp⟩
   | cons x r ihx =>
    obtain ⟨t,rfl,ht⟩:=each x (by simp)
    obtain ⟨ts,rfl,hts⟩:=ihx fun y hy=>each y (by simp [hy])
    refine ⟨t :: ts,by rw [List.map_cons,zcV],fun u hu=>?_⟩
    rcases List.mem_cons.1 hu with rfl | hu
    ·exact ht
    ·exact hts u hu
  obtain ⟨ts,rfl,hts⟩:=all
  exact ⟨.node k n ts,rfl,small_of (by simpa [Tree.kids] using hl) hts⟩
theorem argLtl {L : Nat} {d : D} (h : OfAz Tryz.prog L 29 d) : ∃ t : Tree,d = za7 t∧Small t:=by
 unfold OfAz at h
 rw [Tryz.underlying29] at h
 obtain ⟨cs,rfl,h⟩:=h
 obtain ⟨t,rfl,ht⟩:=tree_of (I:=3) (E:=27) Tryz.underlying29 rfl rfl rfl Tryz.underlying27 Tryz.underlying3 (by kernel_rfl) _ _ (Nat.le_refl _) h
 exact ⟨t,rfl,ht⟩
end
section
open Go.RowKit Go.ChangeShapes Go.WideShapes Go.ChangeAt
theorem fGridL {P : Program} {L : Nat} {t e u : TypeId} {ts : List TypeId} {cs : List D} (ht : P.underlying t = some (.slice e)) (he : P.underlying e = some (.slice u)) (hu : P.underlying u = some (.int .i64)) (hc : P.cellsOf u = 1) (hce : P.cellsOf e = 1) (h : OfTsz P (L + 1) (t :: ts) cs) :
  ∃ (g : List (List Int)) (r : List D),cs = zbe g :: r∧(g.length≤L + 1∧∀ l∈g,l.length≤L + 1)∧OfTsz P (L + 1) ts r:=by
 obtain ⟨a,b,rfl,ha,hb'⟩:=zeU h
 obtain ⟨g,rfl,hg⟩:=grid_ofL ht he hu hc hce ha
 exact ⟨g,b,rfl,hg,hb'⟩
theorem fListL {P : Program} {L : Nat} {t u : TypeId} {k : IntKind} {ts : List TypeId} {cs : List D} (ht : P.underlying t = some (.slice u)) (hu : P.underlying u = some (.int k)) (hc : P.cellsOf u = 1) (h : OfTsz P (L + 1) (t :: ts) cs) :
  ∃ (l : List Int) (r : List D),cs = .lst 1 (l.map fun n=>[.sc (.int k n)]) :: r∧l.length≤L + 1∧(∀ x∈l,k.min≤x∧x≤k.max)∧OfTsz P (L + 1) ts r:=by
 obtain ⟨a,b,rfl,ha,hb'⟩:=zeU h
 obtain ⟨l,rfl,hl,hk⟩:=zmE ht hu hc ha
 exact ⟨l,b,rfl,hl,hk,hb'⟩
end
section
open Go.RowKit Go.ChangeShapes Go.WideShapes Go.ChangeAt
def c3 : PC:=.seq (.ops [q 2 (.box (.tmp 0)),q 3 (.box (.tmp 1)),q 4 (.move (.const (.bool false)))] false) (.seq (.ops [q 11 (.loadA 4 (.tmp 2)),q 12 (.loadA 3 (.tmp 3)),q 13 (.call 4 [(.tmp 11),(.tmp 12)]),qm 10 13,q 14 (.ext 0 (.tmp 10)),q 15 (.ext 1 (.tmp 10)),q 16 (.ext 2 (.tmp 10)),q 5 (.alloc [(.slice none 0 0),(.slice none 0 0)]),qn (.store 2 (.tmp 5) (.tmp 14)),qm 6 15,qm 7 16] false) (.seq (.ops [q 17 (.loadA 4 (.tmp 2)),q 18 (.call 5 [(.tmp 17)]),qm 8 18] false) (.seq (.seq (.ops [qm 19 8,q 20 (.bin .eql (.tmp 19) (.const (.int .i64 0)))] false) (.cond (.tmp 20) (.ops [q 21 (.loadA 3 (.tmp 3)),q 22 (.call 6 [(.tmp 21)]),qm 8 22] false) (.skip))) (.seq (.ops [q 9 (.alloc [(.slice none 0 0),(.slice none 0 0),(.slice none 0 0),(.slice none 0 0),(.slice none 0 0)])] false) (.seq (.seq (.ops [qm 23 8,q 24 (.bin .eql (.tmp 23) (.const (.int .i64 0)))] false) (.cond (.tmp 24) (.ops [q 26 (.loadA 3 (.tmp 3)),q 27 (.call 7 [(.tmp 26)]),qm 25 27,q 28 (.ext 0 (.tmp 25)),q 29 (.ext 1 (.tmp 25)),qn (.store 5 (.tmp 9) (.tmp 28)),qm 8 29] false) (.skip))) (.seq (.seq (.ops [qm 30 8,q 31 (.bin .neq (.tmp 30) (.const (.int .i64 0)))] false) (.cond (.tmp 31) (.seq (.ops [qm 32 7,qm 33 8,q 34 (.bin .eql (.tmp 32) (.tmp 33)),qm 35 34,⟨some 36,.move (.tmp 6),some (35,true),0⟩,⟨some 37,.un .not (.tmp 36),some (35,true),0⟩,q 38 (.pick (.tmp 35) (.tmp 37) (.const (.bool false))),qm 39 38,⟨some 40,.faddr 0 (.tmp 5),some (39,true),0⟩,⟨some 41,.load1 (.tmp 40),some (39,true),0⟩,⟨some 42,.len (.tmp 41),some (39,true),0⟩,⟨some 43,.faddr 1 (.tmp 5),some (39,true),0⟩,⟨some 44,.load1 (.tmp 43),some (39,true),0⟩,⟨some 45,.len (.tmp 44),some (39,true),0⟩,⟨some 46,.bin .add (.tmp 42) (.tmp 45),some (39,true),0⟩,⟨some 47,.bin .eql (.tmp 46) (.const (.int .i64 0)),some (39,true),0⟩,q 48 (.pick (.tmp 39) (.tmp 47) (.const (.bool false))),qm 4 48] false) (.ret)) (.skip))) (.seq (.seq (.ops [qm 49 7,q 50 (.bin .neq (.tmp 49) (.const (.int .i64 0))),qm 51 50,⟨some 52,.move (.tmp 6),some (51,false),0⟩,⟨some 53,.move (.tmp 52),some (51,false),0⟩,⟨some 54,.faddr 0 (.tmp 5),some (53,true),0⟩,⟨some 55,.load1 (.tmp 54),some (53,true),0⟩,⟨some 56,.len (.tmp 55),some (53,true),0⟩,⟨some 57,.faddr 1 (.tmp 5),some (53,true),0⟩,⟨some 58,.load1 (.tmp 57),some (53,true),0⟩,⟨some 59,.len (.tmp 58),some (53,true),0⟩,⟨some 60,.bin .add (.tmp 56) (.tmp 59),some (53,true),0⟩,⟨some 61,.bin .gtr (.tmp 60) (.const (.int .i64 0)),some (53,true),0⟩,⟨some 62,.pick (.tmp 53) (.tmp 61) (.const (.bool false)),some (51,false),0⟩,q 63 (.pick (.tmp 51) (.const (.bool true)) (.tmp 62))] false) (.cond (.tmp 63) (.seq (.ops [q 4 (.move (.const (.bool false)))] false) (.ret)) (.skip))) (.seq (.ops [q 64 (.faddr 1 (.tmp 2)),q 65 (.load1 (.tmp 64)),q 66 (.len (.tmp 65)),q 67 (.faddr 1 (.tmp 9)),q 68 (.load1 (.tmp 67)),q 69 (.len (.tmp 68)),q 70 (.bin .mul (.tmp 66) (.tmp 69)),q 71 (.bin .gtr (.tmp 70) (.const (.int .i64 4000))),qm 72 71,⟨some 73,.move (.tmp 6),some (72,false),0⟩,⟨some 74,.loadA 4 (.tmp 2),some (72,false),0⟩,⟨some 75,.loadA 5 (.tmp 9),some (72,false),0⟩,⟨some 76,.call 8 [(.tmp 74),(.tmp 75)],some (72,false),0⟩,⟨some 77,.un .not (.tmp 76),some (72,false),0⟩,⟨some 78,.eqb false (.tmp 73) (.tmp 77),some (72,false),0⟩,q 79 (.pick (.tmp 72) (.const (.bool true)) (.tmp 78)),qm 4 79] false) (.ret)))))))))
theorem c3_ok : FunOK Tryz.prog 3 80 [.tmp 4] c3:=⟨⟨Tryz.f3,Tryz.func3,rfl,by kernel_rfl,rfl,by kernel_rfl⟩⟩
theorem zh5 (W : WorldD) (hW : W.Fits) (s1 : W.start.length≤1048576) (r1 : ∀ l∈W.next,l.length≤1048576) (t : Tree) (hs : Small t) :
  PCall Tryz.prog 3 [zcR W,za7 t] (dbool true):=by
 obtain ⟨s,l,hH,_,hsl⟩:=ju_Holds W hW s1 r1 t hs
 have hRW:=zpl W hW
 have hRL:=zgF t hs
 have hRN:=ref_Not t hs
 refine zag c3_ok (by simp) (by simp [zao,zb5,zap]) ?_ (by simp [dbool,Pure])
 by_cases h1 : W.chk = 0
 ·by_cases h2 : chk zaE t = 0
  ·by_cases h3 : notE t = 0
   ·have hb:=zmy hW h1 s1 r1 h3
    have hn:=zeD (zex (zaB (zaH (mk1 4 t)))) (addT [] (zaC (zaH (mk1 4 t)))) (zaH (mk1 4 t))
    rw [← zlf h3] at hn
    have hpos : 0 < (notA t).next.length:=by rw [hn]; exact Nat.two_pow_pos _
    have hM : Lett (notA t).must:=by rw [zlf h3]; exact znx _ _ _
    have h2l:=zl2 hb.two
    rw [if_neg (by simpa using h1),if_neg (by simpa using h2),decide_eq_true ⟨h1,h2,h3⟩,Bool.true_and] at hH
    rw [h1] at hRW
    rw [h2] at hRL
    rw [h3] at hRN hH
    have hT : W.next.length * (notA t).next.length≤4000→PCall Tryz.prog 8 [zcR W,zeh (notA t)] (.sc (.bool (ansE W (notA t)))):=fun h=>em_There hb h hM hpos
    have hsl2 : ansE W (notA t) = false→s = []∧l = []:=fun h=>hsl fun k=>by rw [k.2.2.2] at h; cases h
    have emul : (W.next.length : Int) * ((notA t).next.length : Int) = ((W.next.length * (notA t).next.length : Nat) : Int):=by rw [Int.natCast_mul]
    generalize hN : W.next.length * (notA t).next.length = N at *
    generalize ansE W (notA t) = ans at *
    unfold zcR zeh at *
    unfold WorldD.cells AutoD.cells at *
    (apply zac; focus (repeat' constructor))
    ((conv=>whnf);repeat(refine⟨rfl,?_⟩;conv=>whnf))
    (refine .inl ⟨_,hH,?_⟩; ((conv=>whnf);repeat(refine⟨rfl,?_⟩;conv=>whnf)))
    (refine .inl ⟨_,hRW,?_⟩; ((conv=>whnf);repeat(refine⟨rfl,?_⟩;conv=>whnf)))
    (refine .inl ⟨_,hRL,?_⟩; ((conv=>whnf);repeat(refine⟨rfl,?_⟩;conv=>whnf)))
    (refine .inl ⟨_,hRN,?_⟩; ((conv=>whnf);repeat(refine⟨rfl,?_⟩;conv=>whnf)))
    cases ans
    ·obtain ⟨rfl,rfl⟩:=hsl2 rfl
     ((conv=>whnf);repeat(refine⟨rfl,?_⟩;conv=>whnf))
     rw [List.map_nil,List.length_nil]
     (refine .inl ⟨by (unfold InR; rw [IntKind.wrap_i64]; omega),?_⟩; ((conv=>whnf);repeat(refine⟨rfl,?_⟩;conv=>whnf)))
     rw [List.length_map,List.length_map,emul]
     (refine .inl ⟨by (unfold InR; rw [IntKind.wrap_i64]; omega),?_⟩; ((conv=>whnf);repeat(refine⟨rfl,?_⟩;conv=>whnf)))
     (refine zab (fun g=>?_) (fun g=>?_) <;> (rw [g]; ((conv=>whnf);repeat(refine⟨rfl,?_⟩;conv=>whnf))))
     ·exact .refl _
     ·have g : ¬ ((N : Nat) : Int) > 4000:=of_decide_eq_false g
      (refine .inl ⟨_,(hT (by omega)),?_⟩; ((conv=>whnf);repeat(refine⟨rfl,?_⟩;conv=>whnf)))
      exact .refl _
    ·((conv=>whnf);repeat(refine⟨rfl,?_⟩;conv=>whnf))
     rw [List.length_map,List.length_map,emul]
     (refine .inl ⟨by (unfold InR; rw [IntKind.wrap_i64]; omega),?_⟩; ((conv=>whnf);repeat(refine⟨rfl,?_⟩;conv=>whnf)))
     (refine zab (fun g=>?_) (fun g=>?_) <;> (rw [g]; ((conv=>whnf);repeat(refine⟨rfl,?_⟩;conv=>whnf))))
     ·exact .refl _
     ·have g : ¬ ((N : Nat) : Int) > 4000:=of_decide_eq_false g
      (refine .inl ⟨_,(hT (by omega)),?_⟩; ((conv=>whnf);repeat(refine⟨rfl,?_⟩;conv=>whnf)))
      exact .refl _
   ·obtain ⟨rfl,rfl⟩:=hsl fun h=>h3 h.2.2.1
    rw [if_neg (by simpa using h1),if_neg (by simpa using h2),decide_eq_false (fun h=>h3 h.2.2),Bool.false_and] at hH
    rw [h1] at hRW
    rw [h2] at hRL
    generalize notE t = c at *
    unfold zcR at *
    (apply zac; focus (repeat' constructor))
    ((conv=>whnf);repeat(refine⟨rfl,?_⟩;conv=>whnf))
    (refine .inl ⟨_,hH,?_⟩; ((conv=>whnf);repeat(refine⟨rfl,?_⟩;conv=>whnf)))
    (refine .inl ⟨_,hRW,?_⟩; ((conv=>whnf);repeat(refine⟨rfl,?_⟩;conv=>whnf)))
    (refine .inl ⟨_,hRL,?_⟩; ((conv=>whnf);repeat(refine⟨rfl,?_⟩;conv=>whnf)))
    (refine .inl ⟨_,hRN,?_⟩; ((conv=>whnf);repeat(refine⟨rfl,?_⟩;conv=>whnf)))
    (refine zab (fun g=>?_) (fun g=>?_) <;> (rw [g]; ((conv=>whnf);repeat(refine⟨rfl,?_⟩;conv=>whnf))))
    ·rw [show (c == c) = true by simp]
     ((conv=>whnf);repeat(refine⟨rfl,?_⟩;conv=>whnf))
     rw [List.map_nil,List.length_nil]
     (refine .inl ⟨by (unfold InR; rw [IntKind.wrap_i64]; omega),?_⟩; ((conv=>whnf);repeat(refine⟨rfl,?_⟩;conv=>whnf)))
     exact .refl _
    ·exact absurd (by ((try simp only[oo,reduceCtorEq]at*)<;>omega)) h3
  ·obtain ⟨rfl,rfl⟩:=hsl fun h=>h2 h.2.1
   rw [if_neg (by simpa using h1),if_pos h2,decide_eq_false (fun h=>h2 h.2.1),Bool.false_and] at hH
   rw [h1] at hRW
   generalize chk zaE t = c at *
   unfold zcR at *
   (apply zac; focus (repeat' constructor))
   ((conv=>whnf);repeat(refine⟨rfl,?_⟩;conv=>whnf))
   (refine .inl ⟨_,hH,?_⟩; ((conv=>whnf);repeat(refine⟨rfl,?_⟩;conv=>whnf)))
   (refine .inl ⟨_,hRW,?_⟩; ((conv=>whnf);repeat(refine⟨rfl,?_⟩;conv=>whnf)))
   (refine .inl ⟨_,hRL,?_⟩; ((conv=>whnf);repeat(refine⟨rfl,?_⟩;conv=>whnf)))
   (refine zab (fun g0=>?_) (fun g0=>?_) <;> (rw [g0]; ((conv=>whnf);repeat(refine⟨rfl,?_⟩;conv=>whnf))))
   ·exact absurd (by ((try simp only[oo,reduceCtorEq]at*)<;>omega)) h2
   (refine zab (fun g=>?_) (fun g=>?_) <;> (rw [g]; ((conv=>whnf);repeat(refine⟨rfl,?_⟩;conv=>whnf))))
   ·rw [show (c == c) = true by simp]
    ((conv=>whnf);repeat(refine⟨rfl,?_⟩;conv=>whnf))
    rw [List.map_nil,List.length_nil]
    (refine .inl ⟨by (unfold InR; rw [IntKind.wrap_i64]; omega),?_⟩; ((conv=>whnf);repeat(refine⟨rfl,?_⟩;conv=>whnf)))
    exact .refl _
   ·exact absurd (by ((try simp only[oo,reduceCtorEq]at*)<;>omega)) h2
 ·obtain ⟨rfl,rfl⟩:=hsl fun h=>h1 h.1
  rw [if_pos h1,decide_eq_false (fun h=>h1 h.1),Bool.false_and] at hH
  generalize W.chk = c at *
  unfold zcR at *
  (apply zac; focus (repeat' constructor))
  ((conv=>whnf);repeat(refine⟨rfl,?_⟩;conv=>whnf))
  (refine .inl ⟨_,hH,?_⟩; ((conv=>whnf);repeat(refine⟨rfl,?_⟩;conv=>whnf)))
  (refine .inl ⟨_,hRW,?_⟩; ((conv=>whnf);repeat(refine⟨rfl,?_⟩;conv=>whnf)))
  (refine zab (fun g0=>?_) (fun g0=>?_) <;> (rw [g0]; ((conv=>whnf);repeat(refine⟨rfl,?_⟩;conv=>whnf))))
  ·exact absurd (by ((try simp only[oo,reduceCtorEq]at*)<;>omega)) h1
  (refine zab (fun g1=>?_) (fun g1=>?_) <;> (rw [g1]; ((conv=>whnf);repeat(refine⟨rfl,?_⟩;conv=>whnf))))
  ·exact absurd (by ((try simp only[oo,reduceCtorEq]at*)<;>omega)) h1
  (refine zab (fun g=>?_) (fun g=>?_) <;> (rw [g]; ((conv=>whnf);repeat(refine⟨rfl,?_⟩;conv=>whnf))))
  ·rw [show (c == c) = true by simp]
   ((conv=>whnf);repeat(refine⟨rfl,?_⟩;conv=>whnf))
   rw [List.map_nil,List.length_nil]
   (refine .inl ⟨by (unfold InR; rw [IntKind.wrap_i64]; omega),?_⟩; ((conv=>whnf);repeat(refine⟨rfl,?_⟩;conv=>whnf)))
   exact .refl _
  ·exact absurd (by ((try simp only[oo,reduceCtorEq]at*)<;>omega)) h1
namespace judgeWorlds
theorem law : ∀ Ds,OfAsz Tryz.prog 1048576 [26,29] Ds→PCall Tryz.prog 3 Ds (dbool true)
 | [d,e],h=>by
  have h1:=h.1
  obtain ⟨t,rfl,ht⟩:=argLtl h.2.1
  unfold OfAz at h1
  rw [Tryz.underlying26] at h1
  obtain ⟨cs,rfl,h1⟩:=h1
  have k1:=zkm Tryz.underlying26 h1
  simp only [List.map_cons,List.map_nil] at k1
  obtain ⟨start',r,rfl,d1,_,k1⟩:=fListL (L:=1048575) Tryz.underlying22 Tryz.underlying3 (by kernel_rfl) k1
  obtain ⟨next',r,rfl,d2,k1⟩:=fGridL (L:=1048575) Tryz.underlying23 Tryz.underlying22 Tryz.underlying3 (by kernel_rfl) (by kernel_rfl) k1
  obtain ⟨label,r,rfl,d3,_,k1⟩:=fListL (L:=1048575) Tryz.underlying24 Tryz.underlying50 (by kernel_rfl) k1
  obtain ⟨fair',r,rfl,d4,k1⟩:=fGridL (L:=1048575) Tryz.underlying23 Tryz.underlying22 Tryz.underlying3 (by kernel_rfl) (by kernel_rfl) k1
  obtain rfl:=zlV k1
  exact zh5 ⟨start',next',label,fair'⟩
   ⟨by show start'.length≤_; omega,by show next'.length≤_; omega,by show label.length≤_; omega,by show fair'.length≤_; omega,fun l hl=>by have:=d2.2 l hl; omega,fun l hl=>by have:=d4.2 l hl; omega⟩ d1 d2.2 t ht
theorem types : zjx Tryz.prog [26,29,22,23,24,3,27,50] = true:=by kernel_rfl
theorem laidOut : laidOutB Tryz.prog = true:=by kernel_rfl
theorem readable : (Tryz.f3.params.toList.all fun t=>Tryz.prog.readableRec t && decide (t < Tryz.prog.types.size)) = true:=by kernel_rfl
theorem own : ownKnob Tryz.prog.godebug = none:=by kernel_rfl
theorem one_le {H : Type} (d : DataW H) : 1≤Rows.uptoBulk d:=by
 cases d with
 | lit l=>cases l <;> simp [Rows.uptoBulk]
 | _=>simp [Rows.uptoBulk]
theorem zoo {H : Type} (l : List (DataW H)) : l.length≤Rows.uptoBulkAll l:=by
 induction l with
 | nil=>simp [Rows.uptoBulkAll]
 | cons x r ih=>have:=one_le x; simp only [Rows.uptoBulkAll,List.length_cons]; omega
mutual
theorem lens_of {H : Type} {L : Nat} : ∀ d : DataW H,Rows.uptoBulk d≤L→lens L d
 | .lit (.string b),h=>by simp only [Rows.uptoBulk] at h; simp only [lens]; omega
 | .lit (.bool _),_ | .lit (.int _ _),_ | .lit (.float _ _),_ | .lit .nil,_=>by simp only [lens]
 | .nil,_ | .ptr _,_ | .iface _ _,_ | .map _,_ | .held _,_=>by simp only [lens]
 | .slice elems spare,h=>by
  simp only [Rows.uptoBulk] at h
  simp only [lens]
  have:=zoo elems
  exact ⟨by omega,zft elems (by omega)⟩
 | .agg parts,h=>by
  simp only [Rows.uptoBulk] at h
  simp only [lens]
  exact zft parts (by omega)
theorem zft {H : Type} {L : Nat} : ∀ l : List (DataW H),Rows.uptoBulkAll l≤L→zdQ L l
 | [],_=>by simp only [zdQ]
 | d :: r,h=>by
  simp only [Rows.uptoBulkAll] at h
  simp only [zdQ]
  exact ⟨lens_of d (by omega),zft r (by omega)⟩
end
theorem zmq {H : Type} : ∀ l r : List (DataW H),Rows.uptoBulkAll (l ++ r) = Rows.uptoBulkAll l + Rows.uptoBulkAll r
 | [],r=>by simp [Rows.uptoBulkAll]
 | d :: l,r=>by simp only [List.cons_append,Rows.uptoBulkAll,zmq l r]; omega
theorem lifted (os : Os) (started : os.Started) (H : Type) (enc : TypeId × Value→H) (F : Stop.Interp) :
  ReturnsInHanded {} Tryz.checked os 3 .any ((Rows.OpenSpec.upto Rows.judgeWorldsSpec).pre6 enc Tryz.prog Tryz.f3 Rows.judgeWorldsUptoRow.domain false) (((Rows.OpenSpec.upto Rows.judgeWorldsSpec).at F).post enc Tryz.prog Tryz.f3 false true false false):=by
 refine returnsInHanded_of_cond_sized (C:=Tryz.checked) (s:=Rows.OpenSpec.upto Rows.judgeWorldsSpec) (k:=Rows.uptoSmall) rfl own started (by kernel_rfl) Tryz.func3
  (OpenSpec.witness (enc:=enc) (C:=Tryz.checked) (s:=Rows.OpenSpec.upto Rows.judgeWorldsSpec) (k:=Rows.uptoSmall) rfl false ⟨#[],#[.agg #[.slice none 0 0,.slice none 0 0,.slice none 0 0,.slice none 0 0],.agg #[.int .i64 0,.int .i64 0,.slice none 0 0]],[]⟩ 8 (by kernel_rfl) (by kernel_rfl) (by kernel_rfl)
   (x:=([.agg [.nil,.nil,.nil,.nil],.agg [.lit (.int .i64 0),.lit (.int .i64 0),.nil]],[],[])) (by kernel_rfl) rfl (by kernel_rfl)) ?_
 intro W base args ds gs before hval0 hW _ hk hsz _
 have hval : ∀ (j : Nat) t v,Tryz.f3.params[j]? = some t→args[j]? = some v→Value.okWide Tryz.prog W .any base t v:=hval0
 have hW':=hW
 obtain ⟨p,q,hA0,hV,_,hfz,hnd⟩:=hW
 have hA : DataW.TrodAll enc Tryz.prog W 0 (fun _=>true) true Tryz.f3.params.toList args.toList ds p:=hA0
 have hps : Tryz.f3.params.toList = [26,29]:=by kernel_rfl
 have hb : Rows.uptoBulkAll (ds ++ gs)≤1048576:=of_decide_eq_true hk
 rw [zmq] at hb
 obtain ⟨Ds,hD,hR⟩:=zkM (L:=1048576) types (base:=base) _ _ _ _ (fun t ht=>by rw [hps] at ht; revert t; decide) (fun j t v h1 h2=>hval j t v (by simpa using h1) (by simpa using h2)) hA (fun n hn=>by
  have:=List.all_eq_true.1 hsz n (ze9 _ _ _ _ (zfX _ _ _ _ hA).symm n hn)
  simpa using this) (.inr (zft ds (by omega)))
 rw [hps] at hD
 have hC:=(law Ds hD).run noInj (zhh W) W args.toList ⟨fun b h=>h,fun g cs hg=>absurd hg (by simp [theGlobs])⟩ hR
 rw [show args.toList.toArray = args from rfl] at hC
 refine hC.mono fun e W' ⟨v,F',he,_,hv,hx⟩=>?_
 have hv' : v = .bool true:=by simpa only [rep,dbool] using hv
 subst he hv'
 exact ⟨_,rfl,row_post hW' rfl (by kernel_rfl) Tryz.underlying4 laidOut (fun t ht=>by
   have:=List.all_eq_true.1 readable t ht
   simp only [Bool.and_eq_true,decide_eq_true_eq] at this
   exact this) (fun ds h=>by rw [hps] at h; match ds,h with | [_,_],_=>rfl) (zk7 hx) (ok_one (by kernel_rfl) rfl (okWide_bool_mk Tryz.underlying4 _))⟩
theorem proved : Rows.JudgeWorldsUptoSaid :=
 OpenClaim.holds_of_cond 3 Tryz.f3 rfl rfl rfl rfl rfl rfl rfl ⟨rfl,rfl,rfl,rfl,rfl⟩ rfl rfl rfl rfl rfl (by kernel_rfl) Tryz.func3 (by kernel_rfl)
  (of_decide_eq_true (by kernel_rfl)) (by unfold Func.isWrapper; first | (rw [if_pos (by decide +kernel)]; kernel_rfl) | (rw [if_neg (by decide +kernel)]; exact ⟨rfl,rfl⟩))
  (fun os started H enc _ F=>lifted os started H enc F)
end judgeWorlds
end
end Go.Proofs.YtojegakfidinaaaGreat
