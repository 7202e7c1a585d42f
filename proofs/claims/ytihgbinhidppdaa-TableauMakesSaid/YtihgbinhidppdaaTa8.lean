/-
  The reference's automaton of a formula, over deep values. No statement is proved here.
-/
import Derived.Test.YtihgbinhidppdaaTa7
namespace Go.Proofs.Ytihgbinhidppdaa
open Go.RowKit
set_option linter.unusedSimpArgs false
set_option linter.unusedVariables false
def c8_1 : PC := .seq (.seq (.ops [⟨some 35,.move (.tmp 9),none,0⟩,
 ⟨some 36,.load1 (.tmp 4),none,0⟩,
 ⟨some 37,.len (.tmp 36),none,0⟩,
 ⟨some 38,.bin .lss (.tmp 35) (.tmp 37),none,0⟩] false) (.cond (.tmp 38) (.skip) (.exit 0))) (.seq (.block 1 (.ops [⟨some 41,.move (.tmp 8),none,0⟩,
 ⟨some 42,.bin .mul (.tmp 41) (.const (.int .i64 2)),none,0⟩,
 ⟨some 8,.move (.tmp 42),none,0⟩] false)) (.ops [⟨some 39,.move (.tmp 9),none,0⟩,
 ⟨some 40,.bin .add (.tmp 39) (.const (.int .i64 1)),none,0⟩,
 ⟨some 9,.move (.tmp 40),none,0⟩] false))
def c8_3 : PC := .seq (.seq (.ops [⟨some 50,.move (.tmp 12),none,0⟩,
 ⟨some 51,.load1 (.tmp 4),none,0⟩,
 ⟨some 52,.len (.tmp 51),none,0⟩,
 ⟨some 53,.bin .lss (.tmp 50) (.tmp 52),none,0⟩] false) (.cond (.tmp 53) (.skip) (.exit 4))) (.seq (.block 5 (.seq (.ops [⟨some 56,.load1 (.tmp 4),none,0⟩,
 ⟨some 57,.move (.tmp 12),none,0⟩,
 ⟨some 58,.iaddr 3 (.tmp 56) (.tmp 57),none,0⟩,
 ⟨some 59,.loadA 3 (.tmp 58),none,0⟩,
 ⟨some 13,.alloc [(.int .i64 0), (.int .i64 0), (.slice none 0 0)],none,0⟩,
 ⟨none,.store 3 (.tmp 13) (.tmp 59),none,0⟩] false) (.seq (.seq (.ops [⟨some 60,.faddr 0 (.tmp 13),none,0⟩,
 ⟨some 61,.load1 (.tmp 60),none,0⟩,
 ⟨some 62,.bin .eql (.tmp 61) (.const (.int .i64 7)),none,0⟩] false) (.cond (.tmp 62) (.ops [⟨some 63,.faddr 2 (.tmp 13),none,0⟩,
 ⟨some 64,.load1 (.tmp 63),none,0⟩,
 ⟨some 65,.iaddr 3 (.tmp 64) (.const (.int .i64 0)),none,0⟩,
 ⟨some 66,.loadA 3 (.tmp 65),none,0⟩,
 ⟨none,.store 3 (.tmp 13) (.tmp 66),none,0⟩] false) (.skip))) (.ops [⟨some 67,.move (.tmp 10),none,0⟩,
 ⟨some 68,.move (.tmp 11),none,0⟩,
 ⟨some 69,.move (.tmp 10),none,0⟩,
 ⟨some 70,.move (.tmp 11),none,0⟩,
 ⟨some 71,.iaddr 1 (.tmp 69) (.tmp 70),none,12⟩,
 ⟨some 72,.load1 (.tmp 71),none,28⟩,
 ⟨some 73,.load1 (.tmp 6),none,0⟩,
 ⟨some 74,.loadA 3 (.tmp 13),none,0⟩,
 ⟨some 75,.move (.tmp 11),none,0⟩,
 ⟨some 76,.callv (.tmp 73) [(.tmp 74), (.tmp 75)],none,448⟩,
 ⟨some 77,.bslice 1 1 [(.tmp 76)],none,960⟩,
 ⟨some 78,.append 1 1 (.tmp 72) (.tmp 77),none,2044⟩,
 ⟨some 79,.iaddr 1 (.tmp 67) (.tmp 68),none,4095⟩,
 ⟨none,.store 1 (.tmp 79) (.tmp 78),none,8191⟩] true)))) (.ops [⟨some 54,.move (.tmp 12),none,0⟩,
 ⟨some 55,.bin .add (.tmp 54) (.const (.int .i64 1)),none,0⟩,
 ⟨some 12,.move (.tmp 55),none,0⟩] false))
def c8_2 : PC := .seq (.seq (.ops [⟨some 45,.move (.tmp 11),none,0⟩,
 ⟨some 46,.move (.tmp 8),none,0⟩,
 ⟨some 47,.bin .lss (.tmp 45) (.tmp 46),none,0⟩] false) (.cond (.tmp 47) (.skip) (.exit 2))) (.seq (.block 3 (.seq (.ops [⟨some 12,.move (.const (.int .i64 0)),none,0⟩] false) (.block 4 (.loop c8_3)))) (.ops [⟨some 48,.move (.tmp 11),none,0⟩,
 ⟨some 49,.bin .add (.tmp 48) (.const (.int .i64 1)),none,0⟩,
 ⟨some 11,.move (.tmp 49),none,0⟩] false))
def c8_6 : PC := .seq (.seq (.ops [⟨some 100,.move (.tmp 18),none,0⟩,
 ⟨some 101,.load1 (.tmp 4),none,0⟩,
 ⟨some 102,.len (.tmp 101),none,0⟩,
 ⟨some 103,.bin .lss (.tmp 100) (.tmp 102),none,0⟩,
 ⟨some 104,.move (.tmp 103),none,0⟩,
 ⟨some 105,.move (.tmp 17),some (104,true),0⟩,
 ⟨some 106,.pick (.tmp 104) (.tmp 105) (.const (.bool false)),none,0⟩] false) (.cond (.tmp 106) (.skip) (.exit 10))) (.seq (.block 11 (.ops [⟨some 109,.load1 (.tmp 4),none,0⟩,
 ⟨some 110,.move (.tmp 18),none,0⟩,
 ⟨some 111,.iaddr 3 (.tmp 109) (.tmp 110),none,3⟩,
 ⟨some 112,.faddr 0 (.tmp 111),none,7⟩,
 ⟨some 113,.load1 (.tmp 112),none,15⟩,
 ⟨some 114,.bin .eql (.tmp 113) (.const (.int .i64 3)),none,31⟩,
 ⟨some 115,.move (.tmp 114),none,63⟩,
 ⟨some 116,.move (.tmp 10),some (115,false),127⟩,
 ⟨some 117,.move (.tmp 16),some (115,false),127⟩,
 ⟨some 118,.iaddr 1 (.tmp 116) (.tmp 117),some (115,false),511⟩,
 ⟨some 119,.load1 (.tmp 118),some (115,false),1023⟩,
 ⟨some 120,.move (.tmp 18),some (115,false),127⟩,
 ⟨some 121,.iaddr 1 (.tmp 119) (.tmp 120),some (115,false),4095⟩,
 ⟨some 122,.load1 (.tmp 121),some (115,false),8191⟩,
 ⟨some 123,.move (.tmp 14),some (115,false),127⟩,
 ⟨some 124,.move (.tmp 18),some (115,false),127⟩,
 ⟨some 125,.bin .shr (.tmp 123) (.tmp 124),some (115,false),49279⟩,
 ⟨some 126,.bin .rem (.tmp 125) (.const (.int .i64 2)),some (115,false),114815⟩,
 ⟨some 127,.bin .eql (.tmp 126) (.const (.int .i64 1)),some (115,false),245887⟩,
 ⟨some 128,.eqb false (.tmp 122) (.tmp 127),some (115,false),524287⟩,
 ⟨some 129,.pick (.tmp 115) (.const (.bool true)) (.tmp 128),none,1048575⟩,
 ⟨some 17,.move (.tmp 129),none,2097151⟩] true)) (.ops [⟨some 107,.move (.tmp 18),none,0⟩,
 ⟨some 108,.bin .add (.tmp 107) (.const (.int .i64 1)),none,0⟩,
 ⟨some 18,.move (.tmp 108),none,0⟩] false))
def c8_5 : PC := .seq (.seq (.ops [⟨some 95,.move (.tmp 16),none,0⟩,
 ⟨some 96,.move (.tmp 8),none,0⟩,
 ⟨some 97,.bin .lss (.tmp 95) (.tmp 96),none,0⟩] false) (.cond (.tmp 97) (.skip) (.exit 8))) (.seq (.block 9 (.seq (.ops [⟨some 17,.move (.const (.bool true)),none,0⟩] false) (.seq (.seq (.ops [⟨some 18,.move (.const (.int .i64 0)),none,0⟩] false) (.block 10 (.loop c8_6))) (.seq (.ops [⟨some 130,.move (.tmp 17),none,0⟩] false) (.cond (.tmp 130) (.ops [⟨some 131,.move (.tmp 15),none,0⟩,
 ⟨some 132,.move (.tmp 16),none,0⟩,
 ⟨some 133,.bslice 1 1 [(.tmp 132)],none,0⟩,
 ⟨some 134,.append 1 8 (.tmp 131) (.tmp 133),none,0⟩,
 ⟨some 15,.move (.tmp 134),none,0⟩] false) (.skip)))))) (.ops [⟨some 98,.move (.tmp 16),none,0⟩,
 ⟨some 99,.bin .add (.tmp 98) (.const (.int .i64 1)),none,0⟩,
 ⟨some 16,.move (.tmp 99),none,0⟩] false))
def c8_7 : PC := .seq (.seq (.ops [⟨some 141,.move (.tmp 21),none,0⟩,
 ⟨some 142,.load1 (.tmp 4),none,0⟩,
 ⟨some 143,.len (.tmp 142),none,0⟩,
 ⟨some 144,.bin .lss (.tmp 141) (.tmp 143),none,0⟩] false) (.cond (.tmp 144) (.skip) (.exit 12))) (.seq (.block 13 (.seq (.ops [⟨some 147,.load1 (.tmp 4),none,0⟩,
 ⟨some 148,.move (.tmp 21),none,0⟩,
 ⟨some 149,.iaddr 3 (.tmp 147) (.tmp 148),none,0⟩,
 ⟨some 150,.faddr 0 (.tmp 149),none,0⟩,
 ⟨some 151,.load1 (.tmp 150),none,0⟩,
 ⟨some 152,.bin .eql (.tmp 151) (.const (.int .i64 3)),none,0⟩,
 ⟨some 153,.move (.tmp 152),none,0⟩,
 ⟨some 154,.move (.tmp 14),some (153,true),0⟩,
 ⟨some 155,.move (.tmp 21),some (153,true),0⟩,
 ⟨some 156,.bin .shr (.tmp 154) (.tmp 155),some (153,true),0⟩,
 ⟨some 157,.bin .rem (.tmp 156) (.const (.int .i64 2)),some (153,true),0⟩,
 ⟨some 158,.bin .eql (.tmp 157) (.const (.int .i64 1)),some (153,true),0⟩,
 ⟨some 159,.pick (.tmp 153) (.tmp 158) (.const (.bool false)),none,0⟩] false) (.cond (.tmp 159) (.ops [⟨some 160,.move (.tmp 19),none,0⟩,
 ⟨some 161,.load1 (.tmp 4),none,0⟩,
 ⟨some 162,.move (.tmp 21),none,0⟩,
 ⟨some 163,.iaddr 3 (.tmp 161) (.tmp 162),none,0⟩,
 ⟨some 164,.faddr 1 (.tmp 163),none,0⟩,
 ⟨some 165,.load1 (.tmp 164),none,0⟩,
 ⟨some 166,.bin .shl (.const (.int .u64 1)) (.tmp 165),none,0⟩,
 ⟨some 167,.bin .or (.tmp 160) (.tmp 166),none,0⟩,
 ⟨some 19,.move (.tmp 167),none,0⟩] false) (.seq (.ops [⟨some 168,.load1 (.tmp 4),none,0⟩,
 ⟨some 169,.move (.tmp 21),none,0⟩,
 ⟨some 170,.iaddr 3 (.tmp 168) (.tmp 169),none,0⟩,
 ⟨some 171,.faddr 0 (.tmp 170),none,0⟩,
 ⟨some 172,.load1 (.tmp 171),none,0⟩,
 ⟨some 173,.bin .eql (.tmp 172) (.const (.int .i64 3)),none,0⟩] false) (.cond (.tmp 173) (.ops [⟨some 174,.move (.tmp 20),none,0⟩,
 ⟨some 175,.load1 (.tmp 4),none,0⟩,
 ⟨some 176,.move (.tmp 21),none,0⟩,
 ⟨some 177,.iaddr 3 (.tmp 175) (.tmp 176),none,0⟩,
 ⟨some 178,.faddr 1 (.tmp 177),none,0⟩,
 ⟨some 179,.load1 (.tmp 178),none,0⟩,
 ⟨some 180,.bin .shl (.const (.int .u64 1)) (.tmp 179),none,0⟩,
 ⟨some 181,.bin .or (.tmp 174) (.tmp 180),none,0⟩,
 ⟨some 20,.move (.tmp 181),none,0⟩] false) (.skip)))))) (.ops [⟨some 145,.move (.tmp 21),none,0⟩,
 ⟨some 146,.bin .add (.tmp 145) (.const (.int .i64 1)),none,0⟩,
 ⟨some 21,.move (.tmp 146),none,0⟩] false))
def c8_4 : PC := .seq (.seq (.ops [⟨some 80,.move (.tmp 14),none,0⟩,
 ⟨some 81,.move (.tmp 8),none,0⟩,
 ⟨some 82,.bin .lss (.tmp 80) (.tmp 81),none,0⟩] false) (.cond (.tmp 82) (.skip) (.exit 6))) (.seq (.block 7 (.seq (.seq (.ops [⟨some 85,.load1 (.tmp 6),none,0⟩,
 ⟨some 86,.loadA 3 (.tmp 1),none,0⟩,
 ⟨some 87,.move (.tmp 14),none,0⟩,
 ⟨some 88,.callv (.tmp 85) [(.tmp 86), (.tmp 87)],none,0⟩] false) (.cond (.tmp 88) (.ops [⟨some 89,.faddr 0 (.tmp 7),none,0⟩,
 ⟨some 90,.load1 (.tmp 89),none,0⟩,
 ⟨some 91,.move (.tmp 14),none,0⟩,
 ⟨some 92,.bslice 1 1 [(.tmp 91)],none,0⟩,
 ⟨some 93,.append 1 8 (.tmp 90) (.tmp 92),none,0⟩,
 ⟨some 94,.faddr 0 (.tmp 7),none,0⟩,
 ⟨none,.store 1 (.tmp 94) (.tmp 93),none,0⟩] false) (.skip))) (.seq (.ops [⟨some 15,.move (.const (.slice none 0 0)),none,0⟩] false) (.seq (.seq (.ops [⟨some 16,.move (.const (.int .i64 0)),none,0⟩] false) (.block 8 (.loop c8_5))) (.seq (.ops [⟨some 135,.faddr 1 (.tmp 7),none,0⟩,
 ⟨some 136,.load1 (.tmp 135),none,0⟩,
 ⟨some 137,.move (.tmp 15),none,0⟩,
 ⟨some 138,.bslice 1 1 [(.tmp 137)],none,0⟩,
 ⟨some 139,.append 1 24 (.tmp 136) (.tmp 138),none,0⟩,
 ⟨some 140,.faddr 1 (.tmp 7),none,0⟩,
 ⟨none,.store 1 (.tmp 140) (.tmp 139),none,0⟩] false) (.seq (.ops [⟨some 19,.move (.const (.int .u64 0)),none,0⟩,
 ⟨some 20,.move (.const (.int .u64 0)),none,0⟩] false) (.seq (.seq (.ops [⟨some 21,.move (.const (.int .i64 0)),none,0⟩] false) (.block 12 (.loop c8_7))) (.seq (.ops [⟨some 182,.faddr 2 (.tmp 7),none,0⟩,
 ⟨some 183,.load1 (.tmp 182),none,0⟩,
 ⟨some 184,.move (.tmp 19),none,0⟩,
 ⟨some 185,.bslice 1 1 [(.tmp 184)],none,0⟩,
 ⟨some 186,.append 1 8 (.tmp 183) (.tmp 185),none,0⟩,
 ⟨some 187,.faddr 2 (.tmp 7),none,0⟩,
 ⟨none,.store 1 (.tmp 187) (.tmp 186),none,0⟩] false) (.ops [⟨some 188,.faddr 3 (.tmp 7),none,0⟩,
 ⟨some 189,.load1 (.tmp 188),none,0⟩,
 ⟨some 190,.move (.tmp 20),none,0⟩,
 ⟨some 191,.bslice 1 1 [(.tmp 190)],none,0⟩,
 ⟨some 192,.append 1 8 (.tmp 189) (.tmp 191),none,0⟩,
 ⟨some 193,.faddr 3 (.tmp 7),none,0⟩,
 ⟨none,.store 1 (.tmp 193) (.tmp 192),none,0⟩] false))))))))) (.ops [⟨some 83,.move (.tmp 14),none,0⟩,
 ⟨some 84,.bin .add (.tmp 83) (.const (.int .i64 1)),none,0⟩,
 ⟨some 14,.move (.tmp 84),none,0⟩] false))
def c8_9 : PC := .seq (.seq (.ops [⟨some 200,.move (.tmp 24),none,0⟩,
 ⟨some 201,.move (.tmp 8),none,0⟩,
 ⟨some 202,.bin .lss (.tmp 200) (.tmp 201),none,0⟩] false) (.cond (.tmp 202) (.skip) (.exit 16))) (.seq (.block 17 (.seq (.ops [⟨some 205,.load1 (.tmp 4),none,0⟩,
 ⟨some 206,.move (.tmp 22),none,0⟩,
 ⟨some 207,.iaddr 3 (.tmp 205) (.tmp 206),none,3⟩,
 ⟨some 208,.faddr 0 (.tmp 207),none,7⟩,
 ⟨some 209,.load1 (.tmp 208),none,15⟩,
 ⟨some 210,.bin .eql (.tmp 209) (.const (.int .i64 8)),none,31⟩,
 ⟨some 211,.move (.tmp 210),none,63⟩,
 ⟨some 212,.load1 (.tmp 6),some (211,true),127⟩,
 ⟨some 213,.load1 (.tmp 4),some (211,true),127⟩,
 ⟨some 214,.move (.tmp 22),some (211,true),127⟩,
 ⟨some 215,.iaddr 3 (.tmp 213) (.tmp 214),some (211,true),895⟩,
 ⟨some 216,.loadA 3 (.tmp 215),some (211,true),1919⟩,
 ⟨some 217,.move (.tmp 24),some (211,true),127⟩,
 ⟨some 218,.callv (.tmp 212) [(.tmp 216), (.tmp 217)],some (211,true),8191⟩,
 ⟨some 219,.un .not (.tmp 218),some (211,true),16383⟩,
 ⟨some 220,.move (.tmp 219),some (211,true),32767⟩,
 ⟨some 221,.load1 (.tmp 6),some (220,false),65535⟩,
 ⟨some 222,.load1 (.tmp 4),some (220,false),65535⟩,
 ⟨some 223,.move (.tmp 22),some (220,false),65535⟩,
 ⟨some 224,.iaddr 3 (.tmp 222) (.tmp 223),some (220,false),458751⟩,
 ⟨some 225,.faddr 2 (.tmp 224),some (220,false),983039⟩,
 ⟨some 226,.load1 (.tmp 225),some (220,false),2031615⟩,
 ⟨some 227,.iaddr 3 (.tmp 226) (.const (.int .i64 1)),some (220,false),4128767⟩,
 ⟨some 228,.loadA 3 (.tmp 227),some (220,false),8323071⟩,
 ⟨some 229,.move (.tmp 24),some (220,false),65535⟩,
 ⟨some 230,.callv (.tmp 221) [(.tmp 228), (.tmp 229)],some (220,false),33554431⟩,
 ⟨some 231,.pick (.tmp 220) (.const (.bool true)) (.tmp 230),some (211,true),67108863⟩,
 ⟨some 232,.pick (.tmp 211) (.tmp 231) (.const (.bool false)),none,134217727⟩,
 ⟨some 233,.move (.tmp 232),none,268435455⟩,
 ⟨some 234,.load1 (.tmp 4),some (233,false),536870911⟩,
 ⟨some 235,.move (.tmp 22),some (233,false),536870911⟩,
 ⟨some 236,.iaddr 3 (.tmp 234) (.tmp 235),some (233,false),2147483647⟩,
 ⟨some 237,.faddr 0 (.tmp 236),some (233,false),4294967295⟩,
 ⟨some 238,.load1 (.tmp 237),some (233,false),8589934591⟩,
 ⟨some 239,.bin .eql (.tmp 238) (.const (.int .i64 9)),some (233,false),17179869183⟩,
 ⟨some 240,.move (.tmp 239),some (233,false),34359738367⟩,
 ⟨some 241,.load1 (.tmp 6),some (240,true),68719476735⟩,
 ⟨some 242,.load1 (.tmp 4),some (240,true),68719476735⟩,
 ⟨some 243,.move (.tmp 22),some (240,true),68719476735⟩,
 ⟨some 244,.iaddr 3 (.tmp 242) (.tmp 243),some (240,true),481036337151⟩,
 ⟨some 245,.loadA 3 (.tmp 244),some (240,true),1030792151039⟩,
 ⟨some 246,.move (.tmp 24),some (240,true),68719476735⟩,
 ⟨some 247,.callv (.tmp 241) [(.tmp 245), (.tmp 246)],some (240,true),4398046511103⟩,
 ⟨some 248,.move (.tmp 247),some (240,true),8796093022207⟩,
 ⟨some 249,.load1 (.tmp 6),some (248,false),17592186044415⟩,
 ⟨some 250,.load1 (.tmp 4),some (248,false),17592186044415⟩,
 ⟨some 251,.move (.tmp 22),some (248,false),17592186044415⟩,
 ⟨some 252,.iaddr 3 (.tmp 250) (.tmp 251),some (248,false),123145302310911⟩,
 ⟨some 253,.faddr 2 (.tmp 252),some (248,false),263882790666239⟩,
 ⟨some 254,.load1 (.tmp 253),some (248,false),545357767376895⟩,
 ⟨some 255,.iaddr 3 (.tmp 254) (.const (.int .i64 1)),some (248,false),1108307720798207⟩,
 ⟨some 256,.loadA 3 (.tmp 255),some (248,false),2234207627640831⟩,
 ⟨some 257,.move (.tmp 24),some (248,false),17592186044415⟩,
 ⟨some 258,.callv (.tmp 249) [(.tmp 256), (.tmp 257)],some (248,false),9007199254740991⟩,
 ⟨some 259,.un .not (.tmp 258),some (248,false),18014398509481983⟩,
 ⟨some 260,.pick (.tmp 248) (.const (.bool true)) (.tmp 259),some (240,true),36028797018963967⟩,
 ⟨some 261,.pick (.tmp 240) (.tmp 260) (.const (.bool false)),some (233,false),72057594037927935⟩,
 ⟨some 262,.pick (.tmp 233) (.const (.bool true)) (.tmp 261),none,144115188075855871⟩] true) (.cond (.tmp 262) (.ops [⟨some 263,.move (.tmp 23),none,0⟩,
 ⟨some 264,.move (.tmp 24),none,0⟩,
 ⟨some 265,.bslice 1 1 [(.tmp 264)],none,0⟩,
 ⟨some 266,.append 1 8 (.tmp 263) (.tmp 265),none,0⟩,
 ⟨some 23,.move (.tmp 266),none,0⟩] false) (.skip)))) (.ops [⟨some 203,.move (.tmp 24),none,0⟩,
 ⟨some 204,.bin .add (.tmp 203) (.const (.int .i64 1)),none,0⟩,
 ⟨some 24,.move (.tmp 204),none,0⟩] false))
def c8_8 : PC := .seq (.seq (.ops [⟨some 194,.move (.tmp 22),none,0⟩,
 ⟨some 195,.load1 (.tmp 4),none,0⟩,
 ⟨some 196,.len (.tmp 195),none,0⟩,
 ⟨some 197,.bin .lss (.tmp 194) (.tmp 196),none,0⟩] false) (.cond (.tmp 197) (.skip) (.exit 14))) (.seq (.block 15 (.seq (.ops [⟨some 23,.move (.const (.slice none 0 0)),none,0⟩] false) (.seq (.seq (.ops [⟨some 24,.move (.const (.int .i64 0)),none,0⟩] false) (.block 16 (.loop c8_9))) (.seq (.ops [⟨some 267,.load1 (.tmp 4),none,0⟩,
 ⟨some 268,.move (.tmp 22),none,0⟩,
 ⟨some 269,.iaddr 3 (.tmp 267) (.tmp 268),none,0⟩,
 ⟨some 270,.faddr 0 (.tmp 269),none,0⟩,
 ⟨some 271,.load1 (.tmp 270),none,0⟩,
 ⟨some 272,.bin .eql (.tmp 271) (.const (.int .i64 8)),none,0⟩,
 ⟨some 273,.move (.tmp 272),none,0⟩,
 ⟨some 274,.load1 (.tmp 4),some (273,false),0⟩,
 ⟨some 275,.move (.tmp 22),some (273,false),0⟩,
 ⟨some 276,.iaddr 3 (.tmp 274) (.tmp 275),some (273,false),0⟩,
 ⟨some 277,.faddr 0 (.tmp 276),some (273,false),0⟩,
 ⟨some 278,.load1 (.tmp 277),some (273,false),0⟩,
 ⟨some 279,.bin .eql (.tmp 278) (.const (.int .i64 9)),some (273,false),0⟩,
 ⟨some 280,.pick (.tmp 273) (.const (.bool true)) (.tmp 279),none,0⟩] false) (.cond (.tmp 280) (.ops [⟨some 281,.faddr 4 (.tmp 7),none,0⟩,
 ⟨some 282,.load1 (.tmp 281),none,0⟩,
 ⟨some 283,.move (.tmp 23),none,0⟩,
 ⟨some 284,.bslice 1 1 [(.tmp 283)],none,0⟩,
 ⟨some 285,.append 1 24 (.tmp 282) (.tmp 284),none,0⟩,
 ⟨some 286,.faddr 4 (.tmp 7),none,0⟩,
 ⟨none,.store 1 (.tmp 286) (.tmp 285),none,0⟩] false) (.skip)))))) (.ops [⟨some 198,.move (.tmp 22),none,0⟩,
 ⟨some 199,.bin .add (.tmp 198) (.const (.int .i64 1)),none,0⟩,
 ⟨some 22,.move (.tmp 199),none,0⟩] false))
def c8 : PC := .seq (.ops [⟨some 1,.box (.tmp 0),none,0⟩,
 ⟨some 2,.alloc [(.slice none 0 0), (.slice none 0 0), (.slice none 0 0), (.slice none 0 0), (.slice none 0 0)],none,0⟩,
 ⟨some 3,.move (.const (.int .i64 0)),none,0⟩] false) (.seq (.ops [⟨some 25,.loadA 3 (.tmp 1),none,0⟩,
 ⟨some 26,.call 6 [(.tmp 25)],none,0⟩,
 ⟨none,.store 3 (.tmp 1) (.tmp 26),none,0⟩] false) (.seq (.ops [⟨some 27,.loadA 3 (.tmp 1),none,0⟩,
 ⟨some 28,.call 26 [(.tmp 27)],none,0⟩,
 ⟨some 4,.alloc [(.slice none 0 0)],none,0⟩,
 ⟨none,.store 1 (.tmp 4) (.tmp 28),none,0⟩] false) (.seq (.seq (.ops [⟨some 29,.load1 (.tmp 4),none,0⟩,
 ⟨some 30,.len (.tmp 29),none,0⟩,
 ⟨some 31,.bin .gtr (.tmp 30) (.const (.int .i64 10)),none,0⟩] false) (.cond (.tmp 31) (.seq (.ops [⟨some 32,.build [(.slice none 0 0), (.slice none 0 0), (.slice none 0 0), (.slice none 0 0), (.slice none 0 0)] [],none,0⟩,
 ⟨none,.store 5 (.tmp 2) (.tmp 32),none,0⟩,
 ⟨some 3,.move (.const (.int .i64 2)),none,0⟩] false) (.ret)) (.skip))) (.seq (.ops [⟨some 33,.mkfn (.func 27) [] [(.tmp 4)],none,0⟩,
 ⟨some 5,.alloc [(.nilFunc)],none,0⟩,
 ⟨none,.store 1 (.tmp 5) (.tmp 33),none,0⟩] false) (.seq (.ops [⟨some 6,.alloc [(.nilFunc)],none,0⟩] false) (.seq (.ops [⟨some 34,.mkfn (.func 31) [] [(.tmp 6), (.tmp 5)],none,0⟩,
 ⟨none,.store 1 (.tmp 6) (.tmp 34),none,0⟩] false) (.seq (.ops [⟨some 7,.alloc [(.slice none 0 0), (.slice none 0 0), (.slice none 0 0), (.slice none 0 0), (.slice none 0 0)],none,0⟩] false) (.seq (.ops [⟨some 8,.move (.const (.int .i64 1)),none,0⟩] false) (.seq (.seq (.ops [⟨some 9,.move (.const (.int .i64 0)),none,0⟩] false) (.stop (.block 0 (.loop c8_1)))) (.seq (.ops [⟨some 43,.move (.tmp 8),none,0⟩,
 ⟨some 44,.mslice 1 24 [(.slice none 0 0)] (.tmp 43) (.tmp 43),none,0⟩,
 ⟨some 10,.move (.tmp 44),none,0⟩] false) (.seq (.seq (.ops [⟨some 11,.move (.const (.int .i64 0)),none,0⟩] false) (.stop (.block 2 (.loop c8_2)))) (.seq (.seq (.ops [⟨some 14,.move (.const (.int .i64 0)),none,0⟩] false) (.stop (.block 6 (.loop c8_4)))) (.seq (.seq (.ops [⟨some 22,.move (.const (.int .i64 0)),none,0⟩] false) (.stop (.block 14 (.loop c8_8)))) (.seq (.ops [⟨some 287,.loadA 5 (.tmp 7),none,0⟩,
 ⟨none,.store 5 (.tmp 2) (.tmp 287),none,0⟩,
 ⟨some 3,.move (.const (.int .i64 0)),none,0⟩] false) (.ret)))))))))))))))
set_option maxRecDepth 100000 in
theorem c8_ok : FunOK Try.prog 8 288 [.agg 2 5, .tmp 3] c8 := ⟨⟨Try.f8, Try.func8, rfl, by kernel_rfl, rfl, by kernel_rfl⟩⟩
set_option maxHeartbeats 1000000 in
set_option maxRecDepth 100000 in
theorem ref_Tableau (t : Tree) (hwt : t.wf lKids) (hc2 : chk lKids (plainT t) = 0) : PCall Try.prog 8 [dtree t] (ansT (plainT t)) := by
  have hPl := ref_Plain t hwt
  have hpm : Pure (ansT (plainT t)) := by
    unfold ansT
    dsimp only
    split <;> simp [Pure, PureL, pure_dauto]
  have hwp := plain_p t hwt
  refine pcall_intro c8_ok (by simp) (by simp [PureL, pure_dtree]) ?_ hpm
  (apply rd_sound; focus (repeat' constructor))
  ((conv=>whnf);repeat(refine .intro rfl ?_;conv=>whnf))
  (refine .inl ⟨_, hPl, ?_⟩; ((conv=>whnf);repeat(refine .intro rfl ?_;conv=>whnf)))
  have hwl := ((chk_zero _ _).1 hc2).2.2
  have hsz := ((chk_zero _ _).1 hc2).1
  clear hpm hPl hc2
  generalize plainT t = f at *
  have hEl := ref_elements f hwl hsz
  have hT := tabI_of hwp
  have hTf := sortA_told hwl
  have hla := parts_le f
  have hlA := numsF_len (fun n => (atomsOf f).contains (n : Int)) 64
  have hlP := addT_len (partsOf f) []
  change (sortA (atomsOf f)).length ≤ 64 at hlA
  unfold ansT
  dsimp only
  have hel : elE f = elL (sortA (atomsOf f)) (addT [] (partsOf f)) := rfl
  rw [hel] at hEl
  generalize hA1 : sortA (atomsOf f) = A at *
  generalize hP1 : addT [] (partsOf f) = P at *
  simp only [List.length_nil] at hlP
  (refine .inl ⟨_, hEl, ?_⟩; ((conv=>whnf);repeat(refine .intro rfl ?_;conv=>whnf)))
  rw [trows_len, elL_len]
  (refine ifK_split (fun h10 => ?_) (fun h10 => ?_) <;> (rw [h10]; ((conv=>whnf);repeat(refine .intro rfl ?_;conv=>whnf))))
  · have h10 : 10 < A.length + P.length := by ((try simp only[oo,reduceCtorEq]at*)<;>omega)
    rw [if_pos h10]
    (repeat' (first | exact Deep.refl _ | exact Deep.none _ | exact deep_row _ | exact DeepL.nil | exact DeepLL.nil | refine Deep.agg _ _ ?_ | refine Deep.tup _ _ ?_ | refine Deep.own _ _ _ _ _ _ _ _ rfl ?_ | refine Deep.loc _ _ _ _ _ rfl ?_ | refine Deep.ifc _ _ _ ?_ | refine Deep.fn _ _ _ _ _ ?_ ?_ | refine DeepL.cons _ _ _ _ ?_ ?_ | refine DeepLL.cons _ _ _ _ ?_ ?_ | exact deepLL_refl _))
  have h10 : ¬ 10 < A.length + P.length := by ((try simp only[oo,reduceCtorEq]at*)<;>omega)
  rw [if_neg h10]
  have hI := hT (by omega)
  have hn2 := two_pow10 (n := A.length + P.length) (by omega)
  refine pwp_ghostB (leB_freeze (fun i => i == 2 || i == 3) (env' := [(1, .loc 0 0), (2, .loc 1 0), (4, elD (elL A P)), (6, .loc 4 0), (7, .loc 5 0), (8, .sc (.int .i64 1)), (9, .sc (.int .i64 0))]) (H' := [.row true (drow f), .row true [.sc (.slice none 0 0), .sc (.slice none 0 0), .sc (.slice none 0 0), .sc (.slice none 0 0), .sc (.slice none 0 0)], .row false [.lst 3 (trows (elL A P))], .row false [.fn (.func 27) [] [elD (elL A P)]], .row true [isF (elL A P) 4], .row true [.sc (.slice none 0 0), .sc (.slice none 0 0), .sc (.slice none 0 0), .sc (.slice none 0 0), .sc (.slice none 0 0)]]) ?_ ?_) ?_
  · exact ⟨.refl _, .refl _, DeepM.loc _ _ _ _ _ rfl rfl (.refl _), .refl _, .refl _, .refl _, .refl _, trivial⟩
  · exact ⟨⟨.inl rfl, (fun h => by cases h), .refl _⟩, ⟨.inl rfl, (fun h => by cases h), .refl _⟩, ⟨.inr ⟨rfl, rfl⟩, fun _ => rfl, .refl _⟩, ⟨.inr ⟨rfl, rfl⟩, fun _ => rfl, .cons _ _ _ _ (.fn _ _ _ _ _ (.refl _) (.cons _ _ _ _ (DeepM.loc _ _ _ _ _ rfl rfl (.refl _)) (.refl _))) (.refl _)⟩,
      ⟨.inl rfl, (fun h => by cases h), .cons _ _ _ _ (.fn _ _ _ _ _ (.refl _) (.cons _ _ _ _ (.refl _) (.cons _ _ _ _ (DeepM.loc _ _ _ _ _ rfl rfl (.cons _ _ _ _ (.fn _ _ _ _ _ (.refl _) (.cons _ _ _ _ (DeepM.loc _ _ _ _ _ rfl rfl (.refl _)) (.refl _))) (.refl _))) (.refl _)))) (.refl _)⟩, ⟨.inl rfl, (fun h => by cases h), .refl _⟩, trivial⟩
  have hcp := pure_chD (elL A P)
  have hAn : (A.length + P.length : Nat) ≤ 10 := by omega
  have hI2 := tab_is A P hI
  generalize hnn : A.length + P.length = n at *
  refine pwp_cut (fun _ : Unit => [(1, .loc 0 0), (2, .loc 1 0), (4, elD (elL A P)), (6, .loc 4 0), (7, .loc 5 0), (8, .sc (.int .i64 ((2 ^ n : Nat) : Int)))]) (fun _ => [.row true (drow f), .row true [.sc (.slice none 0 0), .sc (.slice none 0 0), .sc (.slice none 0 0), .sc (.slice none 0 0), .sc (.slice none 0 0)], .row false [.lst 3 (trows (elL A P))], .row false [.fn (.func 27) [] [elD (elL A P)]], .row true [isF (elL A P) 4], .row true [.sc (.slice none 0 0), .sc (.slice none 0 0), .sc (.slice none 0 0), .sc (.slice none 0 0), .sc (.slice none 0 0)]]) (fun _ => True) ?_ ?_
  · (apply rd_sound; focus (repeat' constructor))
    ((conv=>whnf);repeat(refine .intro rfl ?_;conv=>whnf))
    refine pwp_forH [1, 2, 4, 6, 7] (fun k : Nat => [(8, .sc (.int .i64 ((2 ^ k : Nat) : Int))), (9, .sc (.int .i64 k))]) (fun k => [.row true (drow f), .row true [.sc (.slice none 0 0), .sc (.slice none 0 0), .sc (.slice none 0 0), .sc (.slice none 0 0), .sc (.slice none 0 0)], .row false [.lst 3 (trows (elL A P))], .row false [.fn (.func 27) [] [elD (elL A P)]], .row true [isF (elL A P) 4], .row true [.sc (.slice none 0 0), .sc (.slice none 0 0), .sc (.slice none 0 0), .sc (.slice none 0 0), .sc (.slice none 0 0)]]) (fun k => k ≤ n) (fun k => n - k) 0 ?_
    ((conv=>whnf);repeat(refine .intro rfl ?_;conv=>whnf))
    refine ⟨by omega, by (repeat' (first | exact trivial | refine And.intro rfl ?_)), rfl, ?_⟩
    rintro k hk
    ((conv=>whnf);repeat(refine .intro rfl ?_;conv=>whnf))
    (apply rd_sound; focus (repeat' constructor))
    ((conv=>whnf);repeat(refine .intro rfl ?_;conv=>whnf))
    unfold elD
    ((conv=>whnf);repeat(refine .intro rfl ?_;conv=>whnf))
    rw [trows_len, elL_len, hnn]
    (refine ifK_split (fun q0 => ?_) (fun q0 => ?_) <;> (rw [q0]; ((conv=>whnf);repeat(refine .intro rfl ?_;conv=>whnf))))
    · have q0 : k < n := by ((try simp only[oo,reduceCtorEq]at*)<;>omega)
      have e : ((2 ^ k : Nat) : Int) * 2 = ((2 ^ (k + 1) : Nat) : Int) := by rw [Nat.pow_succ, Int.natCast_mul]; rfl
      have hb := two_pow10 (n := k + 1) (by omega)
      rw [e]
      generalize hz : 2 ^ (k + 1) = z at *
      (refine .inl ⟨by (unfold InR; rw [IntKind.wrap_i64]; omega), ?_⟩; ((conv=>whnf);repeat(refine .intro rfl ?_;conv=>whnf)))
      (refine .inl ⟨by (unfold InR; rw [IntKind.wrap_i64]; omega), ?_⟩; ((conv=>whnf);repeat(refine .intro rfl ?_;conv=>whnf)))
      refine ⟨k + 1, by omega, by dsimp only; omega, leB_envH ?_ rfl⟩
      dsimp only
      rw [hz]
      (repeat' (first | exact trivial | refine And.intro rfl ?_))
    · have q0 : k = n := by have : ¬ k < n := by ((try simp only[oo,reduceCtorEq]at*)<;>omega)
                            omega
      subst q0
      exact ⟨(), trivial, leB_envH (by (repeat' (first | exact trivial | refine And.intro rfl ?_))) rfl⟩
  intro _ _
  ((conv=>whnf);repeat(refine .intro rfl ?_;conv=>whnf))
  generalize h2N : 2 ^ n = N at *
  refine ⟨by omega, by omega, by omega, ?_⟩
  rw [Int.toNat_natCast]
  ((conv=>whnf);repeat(refine .intro rfl ?_;conv=>whnf))
  have hIs : ∀ (g : Tree) (hw : g.wf pKids) (hT : Told A P g) (s : Nat) (H : List AObj), H[4]? = some (.row true [isF (elL A P) 4]) → ARead Try.prog 31 [dtree g, .sc (.int .i64 s), .loc 4 0, chD (elL A P)] H (.sc (.bool (holdsT (chE A P s) g))) [4] := fun g hw hT s H hH =>
    aread_of (hI2 s g hw hT) [4] rfl (by simp) (by simp [UnderL, Under, under_pure _ (pure_dtree _), under_pure _ (pure_chD _)]) (by simp [UnderO, AObj.under, isF, UnderL, Under, under_pure _ (pure_chD _)]) (by simp [renL, D.ren, ren_pure _ (pure_chD _)]; rfl) (by simp [D.ren]) (fun i o ho => by
      match i, ho with
      | 0, ho => cases ho; rw [show ([4] : List Nat).getD 0 0 = 4 from rfl, hH]; simp [AObj.ren, isF, renL, D.ren, ren_pure _ (pure_chD _)]; rfl
      | i + 1, ho => simp at ho) 4 (by simp) hH (by simp) (by simp)
  have hel2 := fun i (hi : i < A.length + P.length) => hI.el hi
  refine pwp_cut (fun _ : Unit => [(1, .loc 0 0), (2, .loc 1 0), (4, elD (elL A P)), (6, .loc 4 0), (7, .loc 5 0), (8, .sc (.int .i64 N)), (10, .own 6 0 0 N)]) (fun _ => [.row true (drow f), .row true [.sc (.slice none 0 0), .sc (.slice none 0 0), .sc (.slice none 0 0), .sc (.slice none 0 0), .sc (.slice none 0 0)], .row false [.lst 3 (trows (elL A P))], .row false [.fn (.func 27) [] [elD (elL A P)]], .row true [isF (elL A P) 4], .row true [.sc (.slice none 0 0), .sc (.slice none 0 0), .sc (.slice none 0 0), .sc (.slice none 0 0), .sc (.slice none 0 0)], .vec true 0 1 (((List.range N).map fun s => rkRow A P s n).map fun l => [.lst 1 (l.map bcell)])]) (fun _ => True) ?_ ?_
  · (apply rd_sound; focus (repeat' constructor))
    ((conv=>whnf);repeat(refine .intro rfl ?_;conv=>whnf))
    refine pwp_ghostB (leB_nils 6 1 N 0 (by simp) rfl) ?_
    refine pwp_forH [1, 2, 4, 6, 7, 8, 10] (fun s : Nat => [(11, .sc (.int .i64 s))]) (fun s => .row true (drow f) :: .row true [.sc (.slice none 0 0), .sc (.slice none 0 0), .sc (.slice none 0 0), .sc (.slice none 0 0), .sc (.slice none 0 0)] :: .row false [.lst 3 (trows (elL A P))] :: .row false [.fn (.func 27) [] [elD (elL A P)]] :: .row true [isF (elL A P) 4] :: .row true [.sc (.slice none 0 0), .sc (.slice none 0 0), .sc (.slice none 0 0), .sc (.slice none 0 0), .sc (.slice none 0 0)] :: .vec true 0 1 (ogRows 7 (curG N (fun s => rkRow A P s n) s [])) :: ogObjs 1 bcell (curG N (fun s => rkRow A P s n) s [])) (fun s => s ≤ N) (fun s => N - s) 0 ?_
    ((conv=>whnf);repeat(refine .intro rfl ?_;conv=>whnf))
    refine ⟨by omega, by (repeat' (first | exact trivial | refine And.intro rfl ?_)), ?_, ?_⟩
    · rw [curG_zero]
      show _ :: _ :: _ :: _ :: _ :: _ :: _ :: _ = _ :: _ :: _ :: _ :: _ :: _ :: _ :: _
      rw [ogObjs_nils 1 _ bcell]
      exact congrArg (fun x => _ :: _ :: _ :: _ :: _ :: _ :: AObj.vec true 0 1 x :: _) (ogRows_nils (α := Bool) 7 _)
    rintro s hs
    ((conv=>whnf);repeat(refine .intro rfl ?_;conv=>whnf))
    (apply rd_sound; focus (repeat' constructor))
    ((conv=>whnf);repeat(refine .intro rfl ?_;conv=>whnf))
    (refine ifK_split (fun q0 => ?_) (fun q0 => ?_) <;> (rw [q0]; ((conv=>whnf);repeat(refine .intro rfl ?_;conv=>whnf))))
    · have q0 : s < N := by ((try simp only[oo,reduceCtorEq]at*)<;>omega)
      refine pwp_forH [1, 2, 4, 6, 7, 8, 10, 11] (fun i : Nat => [(12, .sc (.int .i64 i))]) (fun i => .row true (drow f) :: .row true [.sc (.slice none 0 0), .sc (.slice none 0 0), .sc (.slice none 0 0), .sc (.slice none 0 0), .sc (.slice none 0 0)] :: .row false [.lst 3 (trows (elL A P))] :: .row false [.fn (.func 27) [] [elD (elL A P)]] :: .row true [isF (elL A P) 4] :: .row true [.sc (.slice none 0 0), .sc (.slice none 0 0), .sc (.slice none 0 0), .sc (.slice none 0 0), .sc (.slice none 0 0)] :: .vec true 0 1 (ogRows 7 (curG N (fun s => rkRow A P s n) s (rkRow A P s i))) :: ogObjs 1 bcell (curG N (fun s => rkRow A P s n) s (rkRow A P s i))) (fun i => i ≤ n) (fun i => n - i) 0 ?_
      ((conv=>whnf);repeat(refine .intro rfl ?_;conv=>whnf))
      refine ⟨by omega, by (repeat' (first | exact trivial | refine And.intro rfl ?_)), rfl, ?_⟩
      rintro i hi
      unfold elD
      ((conv=>whnf);repeat(refine .intro rfl ?_;conv=>whnf))
      (apply rd_sound; focus (repeat' constructor))
      ((conv=>whnf);repeat(refine .intro rfl ?_;conv=>whnf))
      rw [trows_len, elL_len, hnn]
      (refine ifK_split (fun q1 => ?_) (fun q1 => ?_) <;> (rw [q1]; ((conv=>whnf);repeat(refine .intro rfl ?_;conv=>whnf))))
      · have q1 : i < n := by ((try simp only[oo,reduceCtorEq]at*)<;>omega)
        refine ⟨by omega, _, trows_at (k := i) (by omega) (by rw [elL_len]; omega), ?_⟩
        ((conv=>whnf);repeat(refine .intro rfl ?_;conv=>whnf))
        refine og_push ?_
        ((conv=>whnf);repeat(refine .intro rfl ?_;conv=>whnf))
        (repeat (first | (refine og_getE 0 rfl ?_; ((conv=>whnf);repeat(refine .intro rfl ?_;conv=>whnf))) | (refine og_putE 0 rfl ?_; ((conv=>whnf);repeat(refine .intro rfl ?_;conv=>whnf))) | (refine og_getE 1 rfl ?_; ((conv=>whnf);repeat(refine .intro rfl ?_;conv=>whnf))) | (refine og_putE 1 rfl ?_; ((conv=>whnf);repeat(refine .intro rfl ?_;conv=>whnf)))))
        obtain ⟨hwE, hTE, -, hkE⟩ := hel2 i (by omega)
        have hrk : rk A P s i = holdsT (chE A P s) (baseT ((elL A P).getD i default)) := rfl
        have hset := curG_set (N := N) (T := fun s => rkRow A P s n) (c := rkRow A P s i) (c' := rkRow A P s (i + 1)) q0
        have hat := curG_at (N := N) (T := fun s => rkRow A P s n) (c := rkRow A P s i) q0
        have hlen := curG_len N (fun s => rkRow A P s n) s (rkRow A P s i)
        have hrs := rkRow_succ A P s i
        have hrl := rkRow_len A P s i
        rw [hrs] at hset
        generalize rk A P s i = b at *
        generalize rkRow A P s i = C at *
        generalize (elL A P).getD i default = g at *
        generalize curG N (fun s => rkRow A P s n) s C = R at *
        (refine ifK_split (fun g7 => ?_) (fun g7 => ?_) <;> (rw [g7]; ((conv=>whnf);repeat(refine .intro rfl ?_;conv=>whnf))))
        · have g7 : g.kind = 7 := by simpa using g7
          have w0 : 0 < g.width := wf_wide (wf_p hwE) (by omega)
          have hwb := wf_kid hwE w0
          have hTb := hTE.kid w0
          rw [show baseT g = g.kid 0 from if_pos g7] at hrk
          (repeat (first | (refine og_getE 0 rfl ?_; ((conv=>whnf);repeat(refine .intro rfl ?_;conv=>whnf))) | (refine og_putE 0 rfl ?_; ((conv=>whnf);repeat(refine .intro rfl ?_;conv=>whnf))) | (refine og_getE 1 rfl ?_; ((conv=>whnf);repeat(refine .intro rfl ?_;conv=>whnf))) | (refine og_putE 1 rfl ?_; ((conv=>whnf);repeat(refine .intro rfl ?_;conv=>whnf)))))
          refine ⟨by omega, _, kid_at w0, ?_⟩
          ((conv=>whnf);repeat(refine .intro rfl ?_;conv=>whnf))
          (repeat (first | (refine og_getE 0 rfl ?_; ((conv=>whnf);repeat(refine .intro rfl ?_;conv=>whnf))) | (refine og_putE 0 rfl ?_; ((conv=>whnf);repeat(refine .intro rfl ?_;conv=>whnf))) | (refine og_getE 1 rfl ?_; ((conv=>whnf);repeat(refine .intro rfl ?_;conv=>whnf))) | (refine og_putE 1 rfl ?_; ((conv=>whnf);repeat(refine .intro rfl ?_;conv=>whnf)))))
          (refine ⟨by omega, (by first | omega | (simp; done) | (simp; omega) | (simp only [ll]; omega)), ?_⟩; ((conv=>whnf);repeat(refine .intro rfl ?_;conv=>whnf)))
          refine ⟨_, ogRows_at (i := s) (by omega) (by rw [hlen]; omega), ?_⟩
          ((conv=>whnf);repeat(refine .intro rfl ?_;conv=>whnf))
          (repeat (first | (refine og_getE 0 rfl ?_; ((conv=>whnf);repeat(refine .intro rfl ?_;conv=>whnf))) | (refine og_putE 0 rfl ?_; ((conv=>whnf);repeat(refine .intro rfl ?_;conv=>whnf))) | (refine og_getE 1 rfl ?_; ((conv=>whnf);repeat(refine .intro rfl ?_;conv=>whnf))) | (refine og_putE 1 rfl ?_; ((conv=>whnf);repeat(refine .intro rfl ?_;conv=>whnf)))))
          (refine .inr (.inr (.inr (.inr (.inr (.inr ⟨_, _, (hIs _ hwb hTb s _ rfl), ?_⟩))))); ((conv=>whnf);repeat(refine .intro rfl ?_;conv=>whnf)))
          rw [← hrk]
          refine og_pushT ?_
          ((conv=>whnf);repeat(refine .intro rfl ?_;conv=>whnf))
          (repeat (first | (refine og_getE 0 rfl ?_; ((conv=>whnf);repeat(refine .intro rfl ?_;conv=>whnf))) | (refine og_putE 0 rfl ?_; ((conv=>whnf);repeat(refine .intro rfl ?_;conv=>whnf))) | (refine og_getE 1 rfl ?_; ((conv=>whnf);repeat(refine .intro rfl ?_;conv=>whnf))) | (refine og_putE 1 rfl ?_; ((conv=>whnf);repeat(refine .intro rfl ?_;conv=>whnf)))))
          refine og_getT (by omega) ?_
          ((conv=>whnf);repeat(refine .intro rfl ?_;conv=>whnf))
          rw [hat]
          refine ⟨by unfold sliceAppend; simp only [List.length_drop, List.length_take, List.length_cons, List.length_nil]; omega, ?_⟩
          ((conv=>whnf);repeat(refine .intro rfl ?_;conv=>whnf))
          refine og_putT (C ++ [b]) (by omega) ?_ ?_
          · exact og_app
          ((conv=>whnf);repeat(refine .intro rfl ?_;conv=>whnf))
          (refine ⟨by omega, (by first | omega | (simp; done) | (simp; omega) | (simp only [ll]; omega)), ?_⟩; ((conv=>whnf);repeat(refine .intro rfl ?_;conv=>whnf)))
          refine ⟨_, ogRows_at (i := s) (by omega) (by omega), ?_⟩
          ((conv=>whnf);repeat(refine .intro rfl ?_;conv=>whnf))
          (refine .inl ⟨by (unfold InR; rw [IntKind.wrap_i64]; omega), ?_⟩; ((conv=>whnf);repeat(refine .intro rfl ?_;conv=>whnf)))
          refine ⟨i + 1, by omega, by dsimp only; omega, ?_⟩
          dsimp only
          rw [hrs, ← hset]
          have hl2 : (R.set s (C ++ [b])).length = N := by rw [List.length_set, hlen]
          refine leB_close (N + 7) (by simp) (by simp [hl2]) (by (repeat' (first | exact trivial | exact rfl | exact DeepM.refl _ | exact DeepML.refl _ | exact DeepMLL.refl _ | refine And.intro ?_ ?_ | (simp [Under, UnderL, UnderLL, -List.map_take, -List.map_drop]; done)))) ⟨⟨rfl, .refl _, underL_pure _ (pure_drow _)⟩, ⟨rfl, .refl _, by simp [UnderL, Under]⟩, ⟨rfl, .refl _, by simp [UnderL, Under]⟩, ⟨rfl, .refl _, by simp [UnderL, Under, elD]⟩, ⟨rfl, .refl _, by simp [UnderL, Under, isF, under_pure _ (pure_chD _)]⟩, ⟨rfl, .refl _, by simp [UnderL, Under]⟩, ⟨rfl, rfl, rfl, deepMLL_eq ?_, underLL_ogRows (by rw [List.length_set]; omega)⟩, closeH_og under_bcell⟩
          exact (ogRows_set (by omega) (by omega) (C ++ [b]) (by simp))
        · have g7 : ¬ g.kind = 7 := by simpa using g7
          have hwb := hwE
          have hTb := hTE
          rw [show baseT g = g from if_neg g7] at hrk
          (refine ⟨by omega, (by first | omega | (simp; done) | (simp; omega) | (simp only [ll]; omega)), ?_⟩; ((conv=>whnf);repeat(refine .intro rfl ?_;conv=>whnf)))
          refine ⟨_, ogRows_at (i := s) (by omega) (by rw [hlen]; omega), ?_⟩
          ((conv=>whnf);repeat(refine .intro rfl ?_;conv=>whnf))
          (repeat (first | (refine og_getE 0 rfl ?_; ((conv=>whnf);repeat(refine .intro rfl ?_;conv=>whnf))) | (refine og_putE 0 rfl ?_; ((conv=>whnf);repeat(refine .intro rfl ?_;conv=>whnf))) | (refine og_getE 1 rfl ?_; ((conv=>whnf);repeat(refine .intro rfl ?_;conv=>whnf))) | (refine og_putE 1 rfl ?_; ((conv=>whnf);repeat(refine .intro rfl ?_;conv=>whnf)))))
          (refine .inr (.inr (.inr (.inr (.inr (.inr ⟨_, _, (hIs _ hwb hTb s _ rfl), ?_⟩))))); ((conv=>whnf);repeat(refine .intro rfl ?_;conv=>whnf)))
          rw [← hrk]
          refine og_pushT ?_
          ((conv=>whnf);repeat(refine .intro rfl ?_;conv=>whnf))
          (repeat (first | (refine og_getE 0 rfl ?_; ((conv=>whnf);repeat(refine .intro rfl ?_;conv=>whnf))) | (refine og_putE 0 rfl ?_; ((conv=>whnf);repeat(refine .intro rfl ?_;conv=>whnf))) | (refine og_getE 1 rfl ?_; ((conv=>whnf);repeat(refine .intro rfl ?_;conv=>whnf))) | (refine og_putE 1 rfl ?_; ((conv=>whnf);repeat(refine .intro rfl ?_;conv=>whnf)))))
          refine og_getT (by omega) ?_
          ((conv=>whnf);repeat(refine .intro rfl ?_;conv=>whnf))
          rw [hat]
          refine ⟨by unfold sliceAppend; simp only [List.length_drop, List.length_take, List.length_cons, List.length_nil]; omega, ?_⟩
          ((conv=>whnf);repeat(refine .intro rfl ?_;conv=>whnf))
          refine og_putT (C ++ [b]) (by omega) ?_ ?_
          · exact og_app
          ((conv=>whnf);repeat(refine .intro rfl ?_;conv=>whnf))
          (refine ⟨by omega, (by first | omega | (simp; done) | (simp; omega) | (simp only [ll]; omega)), ?_⟩; ((conv=>whnf);repeat(refine .intro rfl ?_;conv=>whnf)))
          refine ⟨_, ogRows_at (i := s) (by omega) (by omega), ?_⟩
          ((conv=>whnf);repeat(refine .intro rfl ?_;conv=>whnf))
          (refine .inl ⟨by (unfold InR; rw [IntKind.wrap_i64]; omega), ?_⟩; ((conv=>whnf);repeat(refine .intro rfl ?_;conv=>whnf)))
          refine ⟨i + 1, by omega, by dsimp only; omega, ?_⟩
          dsimp only
          rw [hrs, ← hset]
          have hl2 : (R.set s (C ++ [b])).length = N := by rw [List.length_set, hlen]
          refine leB_close (N + 7) (by simp) (by simp [hl2]) (by (repeat' (first | exact trivial | exact rfl | exact DeepM.refl _ | exact DeepML.refl _ | exact DeepMLL.refl _ | refine And.intro ?_ ?_ | (simp [Under, UnderL, UnderLL, -List.map_take, -List.map_drop]; done)))) ⟨⟨rfl, .refl _, underL_pure _ (pure_drow _)⟩, ⟨rfl, .refl _, by simp [UnderL, Under]⟩, ⟨rfl, .refl _, by simp [UnderL, Under]⟩, ⟨rfl, .refl _, by simp [UnderL, Under, elD]⟩, ⟨rfl, .refl _, by simp [UnderL, Under, isF, under_pure _ (pure_chD _)]⟩, ⟨rfl, .refl _, by simp [UnderL, Under]⟩, ⟨rfl, rfl, rfl, deepMLL_eq ?_, underLL_ogRows (by rw [List.length_set]; omega)⟩, closeH_og under_bcell⟩
          exact (ogRows_set (by omega) (by omega) (C ++ [b]) (by simp))
      · have q1 : i = n := by have : ¬ i < n := by ((try simp only[oo,reduceCtorEq]at*)<;>omega)
                              omega
        subst q1
        rw [curG_next rfl]
        (refine .inl ⟨by (unfold InR; rw [IntKind.wrap_i64]; omega), ?_⟩; ((conv=>whnf);repeat(refine .intro rfl ?_;conv=>whnf)))
        exact ⟨s + 1, by omega, by dsimp only; omega, leB_envH (by (repeat' (first | exact trivial | refine And.intro rfl ?_))) rfl⟩
    · have q0 : s = N := by have : ¬ s < N := by ((try simp only[oo,reduceCtorEq]at*)<;>omega)
                            omega
      subst q0
      rw [curG_done]
      refine ⟨(), trivial, leB_close 7 (by simp) rfl (by (repeat' (first | exact trivial | exact rfl | exact DeepM.refl _ | exact DeepML.refl _ | exact DeepMLL.refl _ | refine And.intro ?_ ?_ | (simp [Under, UnderL, UnderLL, -List.map_take, -List.map_drop]; done)))) ⟨⟨rfl, .refl _, underL_pure _ (pure_drow _)⟩, ⟨rfl, .refl _, by simp [UnderL, Under]⟩, ⟨rfl, .refl _, by simp [UnderL, Under]⟩, ⟨rfl, .refl _, by simp [UnderL, Under, elD]⟩, ⟨rfl, .refl _, by simp [UnderL, Under, isF, under_pure _ (pure_chD _)]⟩, ⟨rfl, .refl _, by simp [UnderL, Under]⟩, ⟨rfl, rfl, rfl, deepM_ogRows (c := bcell) (fun i hi => by simp [fromN]) (fun i hi => ?_), underLL_pure _ (pure_boolV _)⟩, closeH_nil _⟩⟩
      exact ogObjs_at hi
  intro _ _
  ((conv=>whnf);repeat(refine .intro rfl ?_;conv=>whnf))
  have hpow : ∀ s, s < N → s < 2 ^ (A.length + P.length) := fun s hs => by rw [hnn, h2N]; exact hs
  refine pwp_cut (fun _ : Unit => [(1, .loc 0 0), (2, .loc 1 0), (4, elD (elL A P)), (6, .loc 4 0), (7, .loc 5 0), (8, .sc (.int .i64 N))])
    (fun _ => [.row true (drow f), .row true [.sc (.slice none 0 0), .sc (.slice none 0 0), .sc (.slice none 0 0), .sc (.slice none 0 0), .sc (.slice none 0 0)], .row false [.lst 3 (trows (elL A P))], .row false [.fn (.func 27) [] [elD (elL A P)]], .row true [isF (elL A P) 4], .row true [.own 7 (stE A P f N).length 0 (stE A P f N).length, .own 8 N 0 N, .own 9 N 0 N, .own 10 N 0 N, .sc (.slice none 0 0)], .vec true 0 1 (((List.range N).map fun s => rkRow A P s n).map fun l => [.lst 1 (l.map bcell)]), .vec true (stE A P f N).length 1 (i64s (stE A P f N)), .vec true N 1 (growsI (nxE A P N)), .vec true N 1 (u64r (leE A true N)), .vec true N 1 (u64r (leE A false N))]) (fun _ => True) ?_ ?_
  · (apply rd_sound; focus (repeat' constructor))
    ((conv=>whnf);repeat(refine .intro rfl ?_;conv=>whnf))
    refine pwp_ghostB (leB_trans (leB_nilc 5 0 1 (by simp) rfl rfl) (leB_trans (leB_nilc 5 1 1 (by simp) rfl rfl) (leB_trans (leB_nilc 5 2 1 (by simp) rfl rfl) (leB_nilc 5 3 1 (by simp) rfl rfl)))) ?_
    refine pwp_forH [1, 2, 4, 6, 7, 8, 10] (fun s : Nat => [(14, .sc (.int .i64 s))]) (fun s => [.row true (drow f), .row true [.sc (.slice none 0 0), .sc (.slice none 0 0), .sc (.slice none 0 0), .sc (.slice none 0 0), .sc (.slice none 0 0)], .row false [.lst 3 (trows (elL A P))], .row false [.fn (.func 27) [] [elD (elL A P)]], .row true [isF (elL A P) 4], .row true [.own 7 (stE A P f s).length 0 (stE A P f s).length, .own 8 s 0 s, .own 9 s 0 s, .own 10 s 0 s, .sc (.slice none 0 0)], .vec true 0 1 (((List.range N).map fun s => rkRow A P s n).map fun l => [.lst 1 (l.map bcell)]), .vec true (stE A P f s).length 1 (i64s (stE A P f s)), .vec true s 1 (growsI (nxE A P s)), .vec true s 1 (u64r (leE A true s)), .vec true s 1 (u64r (leE A false s))]) (fun s => s ≤ N) (fun s => N - s) 0 ?_
    ((conv=>whnf);repeat(refine .intro rfl ?_;conv=>whnf))
    refine ⟨by omega, by (repeat' (first | exact trivial | refine And.intro rfl ?_)), rfl, ?_⟩
    rintro s hs
    have hsl := stE_len A P f s
    ((conv=>whnf);repeat(refine .intro rfl ?_;conv=>whnf))
    (apply rd_sound; focus (repeat' constructor))
    ((conv=>whnf);repeat(refine .intro rfl ?_;conv=>whnf))
    (refine ifK_split (fun q0 => ?_) (fun q0 => ?_) <;> (rw [q0]; ((conv=>whnf);repeat(refine .intro rfl ?_;conv=>whnf))))
    · have q0 : s < N := by ((try simp only[oo,reduceCtorEq]at*)<;>omega)
      have eS := stE_succ A P f s
      have eN := nxE_succ A P s
      have eT := leE_succ A true s
      have eF := leE_succ A false s
      have hnx := nxR_all (hpow s q0)
      rw [hnn, h2N] at hnx
      rw [hnn, ← hnx] at eN
      (refine .inr (.inr (.inr (.inr (.inr (.inr ⟨_, _, (hIs f hwp hTf s _ rfl), ?_⟩))))); ((conv=>whnf);repeat(refine .intro rfl ?_;conv=>whnf)))
      cases r : holdsT (chE A P s) f
      · rw [r, if_neg (by decide)] at eS
        ((conv=>whnf);repeat(refine .intro rfl ?_;conv=>whnf))
        refine pwp_ghostB (leB_nil 15 1 (by simp) rfl) ?_
        refine pwp_forH [1, 2, 4, 6, 7, 8, 10, 14] (fun t : Nat => [(15, .own 11 (nxR A P s t).length 0 (nxR A P s t).length), (16, .sc (.int .i64 t))]) (fun t => [.row true (drow f), .row true [.sc (.slice none 0 0), .sc (.slice none 0 0), .sc (.slice none 0 0), .sc (.slice none 0 0), .sc (.slice none 0 0)], .row false [.lst 3 (trows (elL A P))], .row false [.fn (.func 27) [] [elD (elL A P)]], .row true [isF (elL A P) 4], .row true [.own 7 (stE A P f s).length 0 (stE A P f s).length, .own 8 s 0 s, .own 9 s 0 s, .own 10 s 0 s, .sc (.slice none 0 0)], .vec true 0 1 (((List.range N).map fun s => rkRow A P s n).map fun l => [.lst 1 (l.map bcell)]), .vec true (stE A P f s).length 1 (i64s (stE A P f s)), .vec true s 1 (growsI (nxE A P s)), .vec true s 1 (u64r (leE A true s)), .vec true s 1 (u64r (leE A false s)), .vec true (nxR A P s t).length 1 (i64s (nxR A P s t))]) (fun t => t ≤ N) (fun t => N - t) 0 ?_
        ((conv=>whnf);repeat(refine .intro rfl ?_;conv=>whnf))
        refine ⟨by omega, by (repeat' (first | exact trivial | refine And.intro rfl ?_)), rfl, ?_⟩
        rintro t ht
        have hxl := nxR_len A P s t
        ((conv=>whnf);repeat(refine .intro rfl ?_;conv=>whnf))
        (apply rd_sound; focus (repeat' constructor))
        ((conv=>whnf);repeat(refine .intro rfl ?_;conv=>whnf))
        (refine ifK_split (fun q1 => ?_) (fun q1 => ?_) <;> (rw [q1]; ((conv=>whnf);repeat(refine .intro rfl ?_;conv=>whnf))))
        · have q1 : t < N := by ((try simp only[oo,reduceCtorEq]at*)<;>omega)
          have eX := nxR_succ A P s t
          rw [hnn] at eX
          refine pwp_forH [1, 2, 4, 6, 7, 8, 10, 14, 15, 16] (fun i : Nat => [(17, .sc (.bool (rOk A P s t i))), (18, .sc (.int .i64 i))]) (fun i => [.row true (drow f), .row true [.sc (.slice none 0 0), .sc (.slice none 0 0), .sc (.slice none 0 0), .sc (.slice none 0 0), .sc (.slice none 0 0)], .row false [.lst 3 (trows (elL A P))], .row false [.fn (.func 27) [] [elD (elL A P)]], .row true [isF (elL A P) 4], .row true [.own 7 (stE A P f s).length 0 (stE A P f s).length, .own 8 s 0 s, .own 9 s 0 s, .own 10 s 0 s, .sc (.slice none 0 0)], .vec true 0 1 (((List.range N).map fun s => rkRow A P s n).map fun l => [.lst 1 (l.map bcell)]), .vec true (stE A P f s).length 1 (i64s (stE A P f s)), .vec true s 1 (growsI (nxE A P s)), .vec true s 1 (u64r (leE A true s)), .vec true s 1 (u64r (leE A false s)), .vec true (nxR A P s t).length 1 (i64s (nxR A P s t))]) (fun i => i ≤ n) (fun i => n - i) 0 ?_
          ((conv=>whnf);repeat(refine .intro rfl ?_;conv=>whnf))
          refine ⟨by omega, by (repeat' (first | exact trivial | refine And.intro rfl ?_)), rfl, ?_⟩
          rintro i hi
          have eO := rOk_succ A P s t i
          unfold elD
          ((conv=>whnf);repeat(refine .intro rfl ?_;conv=>whnf))
          (apply rd_sound; focus (repeat' constructor))
          ((conv=>whnf);repeat(refine .intro rfl ?_;conv=>whnf))
          rw [trows_len, elL_len, hnn]
          (refine ifK_split (fun q2 => ?_) (fun q2 => ?_) <;> (rw [q2]; ((conv=>whnf);repeat(refine .intro rfl ?_;conv=>whnf))))
          · have q2 : i < n := by ((try simp only[oo,reduceCtorEq]at*)<;>omega)
            cases ro : rOk A P s t i
            · have ro2 := rOk_mono ro (Nat.le_of_lt q2)
              rw [ro2, if_neg (by decide)] at eX
              ((conv=>whnf);repeat(refine .intro rfl ?_;conv=>whnf))
              (refine .inl ⟨by (unfold InR; rw [IntKind.wrap_i64]; omega), ?_⟩; ((conv=>whnf);repeat(refine .intro rfl ?_;conv=>whnf)))
              refine ⟨t + 1, by omega, by dsimp only; omega, ?_⟩
              dsimp only
              rw [eX]
              exact leB_envH (by (repeat' (first | exact trivial | refine And.intro rfl ?_))) rfl
            · rw [ro, Bool.true_and] at eO
              ((conv=>whnf);repeat(refine .intro rfl ?_;conv=>whnf))
              obtain ⟨-, -, hkA, -⟩ := hel2 i (by omega)
              refine ⟨by omega, _, trows_at (k := i) (by omega) (by rw [elL_len]; omega), ?_⟩
              ((conv=>whnf);repeat(refine .intro rfl ?_;conv=>whnf))
              by_cases q3 : i < A.length
              · have e3 : (((elL A P).getD i default).kind == 3) = true := by simpa using hkA.2 q3
                rw [decide_eq_true q3, Bool.true_or] at eO
                rw [e3]
                ((conv=>whnf);repeat(refine .intro rfl ?_;conv=>whnf))
                (refine .inl ⟨by (unfold InR; rw [IntKind.wrap_i64]; omega), ?_⟩; ((conv=>whnf);repeat(refine .intro rfl ?_;conv=>whnf)))
                refine ⟨i + 1, by omega, by dsimp only; omega, ?_⟩
                dsimp only
                rw [eO]
                exact leB_envH (by (repeat' (first | exact trivial | refine And.intro rfl ?_))) rfl
              · have e3 : (((elL A P).getD i default).kind == 3) = false := by
                  rw [beq_eq_false_iff_ne]; exact fun h => q3 (hkA.1 h)
                rw [decide_eq_false q3, Bool.false_or] at eO
                have eb : (((s : Int).fdiv (2 ^ min ((i : Int)).toNat IntKind.i64.bits)).tmod 2 == 1) = s.testBit i := bit_R s i (by omega)
                rw [e3]
                ((conv=>whnf);repeat(refine .intro rfl ?_;conv=>whnf))
                (refine ⟨by omega, (by first | omega | (simp; done) | (simp; omega) | (simp only [ll]; omega)), ?_⟩; ((conv=>whnf);repeat(refine .intro rfl ?_;conv=>whnf)))
                refine ⟨_, rows_at (t := t) (by omega) q1, ?_⟩
                ((conv=>whnf);repeat(refine .intro rfl ?_;conv=>whnf))
                refine ⟨by omega, _, rkc_at (i := i) (by omega) q2, ?_⟩
                ((conv=>whnf);repeat(refine .intro rfl ?_;conv=>whnf))
                refine ⟨by omega, ?_⟩
                ((conv=>whnf);repeat(refine .intro rfl ?_;conv=>whnf))
                refine ⟨by omega, ?_⟩
                ((conv=>whnf);repeat(refine .intro rfl ?_;conv=>whnf))
                (refine .inl ⟨by (unfold InR; rw [IntKind.wrap_i64]; omega), ?_⟩; ((conv=>whnf);repeat(refine .intro rfl ?_;conv=>whnf)))
                refine ⟨i + 1, by omega, by dsimp only; omega, ?_⟩
                dsimp only
                rw [eO, ← eb]
                exact leB_envH (by (repeat' (first | exact trivial | refine And.intro rfl ?_))) rfl
          · have q2 : i = n := by have : ¬ i < n := by ((try simp only[oo,reduceCtorEq]at*)<;>omega)
                                  omega
            subst q2
            cases ro : rOk A P s t i
            · rw [ro, if_neg (by decide)] at eX
              ((conv=>whnf);repeat(refine .intro rfl ?_;conv=>whnf))
              (refine .inl ⟨by (unfold InR; rw [IntKind.wrap_i64]; omega), ?_⟩; ((conv=>whnf);repeat(refine .intro rfl ?_;conv=>whnf)))
              refine ⟨t + 1, by omega, by dsimp only; omega, ?_⟩
              dsimp only
              rw [eX]
              exact leB_envH (by (repeat' (first | exact trivial | refine And.intro rfl ?_))) rfl
            · rw [ro, if_pos rfl] at eX
              ((conv=>whnf);repeat(refine .intro rfl ?_;conv=>whnf))
              refine ⟨(by unfold sliceAppend; simp only [ll]; omega), ?_⟩
              ((conv=>whnf);repeat(refine .intro rfl ?_;conv=>whnf))
              (refine .inl ⟨by (unfold InR; rw [IntKind.wrap_i64]; omega), ?_⟩; ((conv=>whnf);repeat(refine .intro rfl ?_;conv=>whnf)))
              refine ⟨t + 1, by omega, by dsimp only; omega, ?_⟩
              dsimp only
              rw [eX]
              rw [show (nxR A P s t ++ [(t : Int)]).length = (nxR A P s t).length + 1 by simp]
              (refine leB_close (11 + 1) (by simp) rfl ?_ ?_ <;> (repeat' (first | exact trivial | exact rfl | exact DeepM.refl _ | exact DeepML.refl _ | exact DeepMLL.refl _ | refine And.intro ?_ ?_ | (simp [Under, UnderL, UnderLL, -List.map_take, -List.map_drop]; done))))
              all_goals
                first | exact underL_pure _ (pure_drow _) | exact under_pure _ (pure_dints _) | exact underL_pure _ (by simp [PureL, Pure, elD, pure_trows]; done) | exact underLL_pure _ (pure_boolV _) | exact underLL_pure _ (pure_u64r _) | exact underLL_pure _ (pure_growsI _) | exact underLL_pure _ (pure_trows _) | exact underLL_pure _ (pureLL_map _ (fun l => by simp [PureL, Pure]) _) | exact under_pure _ (pure_chD _) | exact deepMLL_eq (u64r_snoc (by simp)) | exact deepM_grow (by simp) rfl rfl rfl | exact deepMLL_eq (i64s_snoc _ _) | skip
        · have q1 : t = N := by have : ¬ t < N := by ((try simp only[oo,reduceCtorEq]at*)<;>omega)
                                omega
          obtain rfl : N = t := q1.symm
          refine ⟨(by unfold sliceAppend; simp only [ll]; omega), ?_⟩
          ((conv=>whnf);repeat(refine .intro rfl ?_;conv=>whnf))
          refine pwp_forH [1, 2, 4, 6, 7, 8, 10, 14] (fun i : Nat => [(19, .sc (.int .u64 (lettR A s true i))), (20, .sc (.int .u64 (lettR A s false i))), (21, .sc (.int .i64 i))]) (fun i => [.row true (drow f), .row true [.sc (.slice none 0 0), .sc (.slice none 0 0), .sc (.slice none 0 0), .sc (.slice none 0 0), .sc (.slice none 0 0)], .row false [.lst 3 (trows (elL A P))], .row false [.fn (.func 27) [] [elD (elL A P)]], .row true [isF (elL A P) 4], .row true [.own 7 (stE A P f s).length 0 (stE A P f s).length, .own 8 (s + 1) 0 (s + 1), .own 9 s 0 s, .own 10 s 0 s, .sc (.slice none 0 0)], .vec true 0 1 (((List.range N).map fun s => rkRow A P s n).map fun l => [.lst 1 (l.map bcell)]), .vec true (stE A P f s).length 1 (i64s (stE A P f s)), .vec true (s + 1) 1 (List.drop 0 (List.take s (growsI (nxE A P s))) ++ List.drop 0 (List.take 1 [[D.own 11 (nxR A P s N).length 0 (nxR A P s N).length]])), .vec true s 1 (u64r (leE A true s)), .vec true s 1 (u64r (leE A false s)), .vec true (nxR A P s N).length 1 (i64s (nxR A P s N)), .vec true 0 1 [[.own 11 (nxR A P s N).length 0 (nxR A P s N).length]]]) (fun i => i ≤ n) (fun i => n - i) 0 ?_
          ((conv=>whnf);repeat(refine .intro rfl ?_;conv=>whnf))
          refine ⟨by omega, by (repeat' (first | exact trivial | refine And.intro rfl ?_)), rfl, ?_⟩
          rintro i hi
          unfold elD
          ((conv=>whnf);repeat(refine .intro rfl ?_;conv=>whnf))
          (apply rd_sound; focus (repeat' constructor))
          ((conv=>whnf);repeat(refine .intro rfl ?_;conv=>whnf))
          rw [trows_len, elL_len, hnn]
          (refine ifK_split (fun q2 => ?_) (fun q2 => ?_) <;> (rw [q2]; ((conv=>whnf);repeat(refine .intro rfl ?_;conv=>whnf))))
          · have q2 : i < n := by ((try simp only[oo,reduceCtorEq]at*)<;>omega)
            obtain ⟨-, -, hkA, -⟩ := hel2 i (by omega)
            have hta := fun (z : Nat) (hz : z = i) => trows_at (P := elL A P) hz (by rw [elL_len]; omega)
            refine ⟨by omega, _, hta _ (by omega), ?_⟩
            ((conv=>whnf);repeat(refine .intro rfl ?_;conv=>whnf))
            by_cases q3 : i < A.length
            · have e3 : (((elL A P).getD i default).kind == 3) = true := by simpa using hkA.2 q3
              have e4 : ((elL A P).getD i default).num = A.getD i 0 := by rw [elL_atom q3]; rfl
              have hx := hI.atoms _ (mem_getD q3)
              have lT := lettR_succ (s := s) (is := true) q3
              have lF := lettR_succ (s := s) (is := false) q3
              rw [e3]
              generalize (elL A P).getD i default = g at *
              generalize A.getD i 0 = x at *
              have eb : (((s : Int).fdiv (2 ^ min ((i : Int)).toNat IntKind.i64.bits)).tmod 2 == 1) = s.testBit i := bit_R s i (by omega)
              have e1 : (1 : Int) * 2 ^ min x.toNat IntKind.u64.bits = 2 ^ x.toNat := by
                rw [show IntKind.u64.bits = 64 from rfl, Nat.min_eq_left (by omega), Int.one_mul]
              have hb2 : (0 : Int) ≤ 2 ^ x.toNat ∧ (2 : Int) ^ x.toNat < 18446744073709551616 := by
                have h1 : 2 ^ x.toNat ≤ 2 ^ 63 := Nat.pow_le_pow_right (by omega) (by omega)
                have h2 : (2 : Nat) ^ 63 = 9223372036854775808 := by decide
                rw [two_powI]
                generalize 2 ^ x.toNat = z at *
                omega
              ((conv=>whnf);repeat(refine .intro rfl ?_;conv=>whnf))
              refine ⟨by omega, ?_⟩
              ((conv=>whnf);repeat(refine .intro rfl ?_;conv=>whnf))
              refine ⟨by omega, ?_⟩
              ((conv=>whnf);repeat(refine .intro rfl ?_;conv=>whnf))
              rw [eb]
              cases rb : s.testBit i
              · rw [rb, if_neg (by decide)] at lT
                rw [rb, if_pos (by decide)] at lF
                ((conv=>whnf);repeat(refine .intro rfl ?_;conv=>whnf))
                refine ⟨by omega, _, hta _ (by omega), ?_⟩
                ((conv=>whnf);repeat(refine .intro rfl ?_;conv=>whnf))
                rw [e3]
                ((conv=>whnf);repeat(refine .intro rfl ?_;conv=>whnf))
                refine ⟨by omega, _, hta _ (by omega), ?_⟩
                ((conv=>whnf);repeat(refine .intro rfl ?_;conv=>whnf))
                rw [e4]
                refine ⟨by omega, ?_⟩
                rw [e1]
                refine .inl ⟨by unfold InR; rw [IntKind.wrap_u64]; omega, ?_⟩
                ((conv=>whnf);repeat(refine .intro rfl ?_;conv=>whnf))
                (refine .inl ⟨by (unfold InR; rw [IntKind.wrap_i64]; omega), ?_⟩; ((conv=>whnf);repeat(refine .intro rfl ?_;conv=>whnf)))
                refine ⟨i + 1, by omega, by dsimp only; omega, ?_⟩
                dsimp only
                rw [lT, lF]
                exact leB_envH (by (repeat' (first | exact trivial | refine And.intro rfl ?_))) rfl
              · rw [rb, if_pos (by decide)] at lT
                rw [rb, if_neg (by decide)] at lF
                ((conv=>whnf);repeat(refine .intro rfl ?_;conv=>whnf))
                refine ⟨by omega, _, hta _ (by omega), ?_⟩
                ((conv=>whnf);repeat(refine .intro rfl ?_;conv=>whnf))
                rw [e4]
                refine ⟨by omega, ?_⟩
                rw [e1]
                refine .inl ⟨by unfold InR; rw [IntKind.wrap_u64]; omega, ?_⟩
                ((conv=>whnf);repeat(refine .intro rfl ?_;conv=>whnf))
                (refine .inl ⟨by (unfold InR; rw [IntKind.wrap_i64]; omega), ?_⟩; ((conv=>whnf);repeat(refine .intro rfl ?_;conv=>whnf)))
                refine ⟨i + 1, by omega, by dsimp only; omega, ?_⟩
                dsimp only
                rw [lT, lF]
                exact leB_envH (by (repeat' (first | exact trivial | refine And.intro rfl ?_))) rfl
            · have e3 : (((elL A P).getD i default).kind == 3) = false := by
                rw [beq_eq_false_iff_ne]; exact fun h => q3 (hkA.1 h)
              have lT := lettR_part (s := s) (is := true) (Nat.le_of_not_lt q3)
              have lF := lettR_part (s := s) (is := false) (Nat.le_of_not_lt q3)
              rw [e3]
              ((conv=>whnf);repeat(refine .intro rfl ?_;conv=>whnf))
              refine ⟨by omega, _, hta _ (by omega), ?_⟩
              ((conv=>whnf);repeat(refine .intro rfl ?_;conv=>whnf))
              rw [e3]
              ((conv=>whnf);repeat(refine .intro rfl ?_;conv=>whnf))
              (refine .inl ⟨by (unfold InR; rw [IntKind.wrap_i64]; omega), ?_⟩; ((conv=>whnf);repeat(refine .intro rfl ?_;conv=>whnf)))
              refine ⟨i + 1, by omega, by dsimp only; omega, ?_⟩
              dsimp only
              rw [lT, lF]
              exact leB_envH (by (repeat' (first | exact trivial | refine And.intro rfl ?_))) rfl
          · have q2 : i = n := by have : ¬ i < n := by ((try simp only[oo,reduceCtorEq]at*)<;>omega)
                                  omega
            obtain rfl : n = i := q2.symm
            have lT : lettR A s true n = lettA A s true A.length := by rw [← hnn]; exact lettR_all
            have lF : lettR A s false n = lettA A s false A.length := by rw [← hnn]; exact lettR_all
            rw [← lT] at eT
            rw [← lF] at eF
            refine ⟨(by unfold sliceAppend; simp only [ll]; omega), ?_⟩
            ((conv=>whnf);repeat(refine .intro rfl ?_;conv=>whnf))
            refine ⟨(by unfold sliceAppend; simp only [ll]; omega), ?_⟩
            ((conv=>whnf);repeat(refine .intro rfl ?_;conv=>whnf))
            (refine .inl ⟨by (unfold InR; rw [IntKind.wrap_i64]; omega), ?_⟩; ((conv=>whnf);repeat(refine .intro rfl ?_;conv=>whnf)))
            refine ⟨s + 1, by omega, by dsimp only; omega, ?_⟩
            dsimp only
            rw [eS, eN, eT, eF]
            (refine leB_close 11 (by simp) rfl ?_ ?_ <;> (repeat' (first | exact trivial | exact rfl | exact DeepM.refl _ | exact DeepML.refl _ | exact DeepMLL.refl _ | refine And.intro ?_ ?_ | (simp [Under, UnderL, UnderLL, -List.map_take, -List.map_drop]; done))))
            all_goals
              first | exact underL_pure _ (pure_drow _) | exact under_pure _ (pure_dints _) | exact underL_pure _ (by simp [PureL, Pure, elD, pure_trows]; done) | exact underLL_pure _ (pure_boolV _) | exact underLL_pure _ (pure_u64r _) | exact underLL_pure _ (pure_growsI _) | exact underLL_pure _ (pure_trows _) | exact underLL_pure _ (pureLL_map _ (fun l => by simp [PureL, Pure]) _) | exact under_pure _ (pure_chD _) | exact deepMLL_eq (u64r_snoc (by simp)) | exact deepM_grow (by simp) rfl rfl rfl | exact deepMLL_eq (i64s_snoc _ _) | skip
      · rw [r, if_pos rfl] at eS
        ((conv=>whnf);repeat(refine .intro rfl ?_;conv=>whnf))
        refine ⟨(by unfold sliceAppend; simp only [ll]; omega), ?_⟩
        ((conv=>whnf);repeat(refine .intro rfl ?_;conv=>whnf))
        refine pwp_ghostB (leB_close 12 (env' := [(1, .loc 0 0), (2, .loc 1 0), (4, elD (elL A P)), (6, .loc 4 0), (7, .loc 5 0), (8, .sc (.int .i64 N)), (10, .own 6 0 0 N), (14, .sc (.int .i64 s)), (15, .sc (.slice none 0 0)), (16, .sc (.int .i64 0))])
          (H' := [.row true (drow f), .row true [.sc (.slice none 0 0), .sc (.slice none 0 0), .sc (.slice none 0 0), .sc (.slice none 0 0), .sc (.slice none 0 0)], .row false [.lst 3 (trows (elL A P))], .row false [.fn (.func 27) [] [elD (elL A P)]], .row true [isF (elL A P) 4], .row true [.own 7 ((stE A P f s).length + 1) 0 ((stE A P f s).length + 1), .own 8 s 0 s, .own 9 s 0 s, .own 10 s 0 s, .sc (.slice none 0 0)], .vec true 0 1 (((List.range N).map fun s => rkRow A P s n).map fun l => [.lst 1 (l.map bcell)]), .vec true ((stE A P f s).length + 1) 1 (i64s ((stE A P f s) ++ [(s : Int)])), .vec true s 1 (growsI (nxE A P s)), .vec true s 1 (u64r (leE A true s)), .vec true s 1 (u64r (leE A false s)), .vec true 0 1 [[.sc (.int .i64 s)]]]) (by simp) rfl ?_ ?_) ?_
        · (repeat' (first | exact trivial | exact rfl | exact DeepM.refl _ | exact DeepML.refl _ | exact DeepMLL.refl _ | refine And.intro ?_ ?_ | (simp [Under, UnderL, UnderLL, -List.map_take, -List.map_drop]; done)))
          all_goals
            first | exact underL_pure _ (pure_drow _) | exact under_pure _ (pure_dints _) | exact underL_pure _ (by simp [PureL, Pure, elD, pure_trows]; done) | exact underLL_pure _ (pure_boolV _) | exact underLL_pure _ (pure_u64r _) | exact underLL_pure _ (pure_growsI _) | exact underLL_pure _ (pure_trows _) | exact underLL_pure _ (pureLL_map _ (fun l => by simp [PureL, Pure]) _) | exact under_pure _ (pure_chD _) | exact deepMLL_eq (u64r_snoc (by simp)) | exact deepM_grow (by simp) rfl rfl rfl | exact deepMLL_eq (i64s_snoc _ _) | skip
        · (repeat' (first | exact trivial | exact rfl | exact DeepM.refl _ | exact DeepML.refl _ | exact DeepMLL.refl _ | refine And.intro ?_ ?_ | (simp [Under, UnderL, UnderLL, -List.map_take, -List.map_drop]; done)))
          all_goals
            first | exact underL_pure _ (pure_drow _) | exact under_pure _ (pure_dints _) | exact underL_pure _ (by simp [PureL, Pure, elD, pure_trows]; done) | exact underLL_pure _ (pure_boolV _) | exact underLL_pure _ (pure_u64r _) | exact underLL_pure _ (pure_growsI _) | exact underLL_pure _ (pure_trows _) | exact underLL_pure _ (pureLL_map _ (fun l => by simp [PureL, Pure]) _) | exact under_pure _ (pure_chD _) | exact deepMLL_eq (u64r_snoc (by simp)) | exact deepM_grow (by simp) rfl rfl rfl | exact deepMLL_eq (i64s_snoc _ _) | skip
        rw [show (stE A P f s).length + 1 = (stE A P f s ++ [(s : Int)]).length by simp]
        have hsl2 : (stE A P f s ++ [(s : Int)]).length ≤ s + 1 := by simp; omega
        refine pwp_ghostB (leB_nil 15 1 (by simp) rfl) ?_
        refine pwp_forH [1, 2, 4, 6, 7, 8, 10, 14] (fun t : Nat => [(15, .own 12 (nxR A P s t).length 0 (nxR A P s t).length), (16, .sc (.int .i64 t))]) (fun t => [.row true (drow f), .row true [.sc (.slice none 0 0), .sc (.slice none 0 0), .sc (.slice none 0 0), .sc (.slice none 0 0), .sc (.slice none 0 0)], .row false [.lst 3 (trows (elL A P))], .row false [.fn (.func 27) [] [elD (elL A P)]], .row true [isF (elL A P) 4], .row true [.own 7 (stE A P f s ++ [(s : Int)]).length 0 (stE A P f s ++ [(s : Int)]).length, .own 8 s 0 s, .own 9 s 0 s, .own 10 s 0 s, .sc (.slice none 0 0)], .vec true 0 1 (((List.range N).map fun s => rkRow A P s n).map fun l => [.lst 1 (l.map bcell)]), .vec true (stE A P f s ++ [(s : Int)]).length 1 (i64s (stE A P f s ++ [(s : Int)])), .vec true s 1 (growsI (nxE A P s)), .vec true s 1 (u64r (leE A true s)), .vec true s 1 (u64r (leE A false s)), .vec true 0 1 [[.sc (.int .i64 s)]], .vec true (nxR A P s t).length 1 (i64s (nxR A P s t))]) (fun t => t ≤ N) (fun t => N - t) 0 ?_
        ((conv=>whnf);repeat(refine .intro rfl ?_;conv=>whnf))
        refine ⟨by omega, by (repeat' (first | exact trivial | refine And.intro rfl ?_)), rfl, ?_⟩
        rintro t ht
        have hxl := nxR_len A P s t
        ((conv=>whnf);repeat(refine .intro rfl ?_;conv=>whnf))
        (apply rd_sound; focus (repeat' constructor))
        ((conv=>whnf);repeat(refine .intro rfl ?_;conv=>whnf))
        (refine ifK_split (fun q1 => ?_) (fun q1 => ?_) <;> (rw [q1]; ((conv=>whnf);repeat(refine .intro rfl ?_;conv=>whnf))))
        · have q1 : t < N := by ((try simp only[oo,reduceCtorEq]at*)<;>omega)
          have eX := nxR_succ A P s t
          rw [hnn] at eX
          refine pwp_forH [1, 2, 4, 6, 7, 8, 10, 14, 15, 16] (fun i : Nat => [(17, .sc (.bool (rOk A P s t i))), (18, .sc (.int .i64 i))]) (fun i => [.row true (drow f), .row true [.sc (.slice none 0 0), .sc (.slice none 0 0), .sc (.slice none 0 0), .sc (.slice none 0 0), .sc (.slice none 0 0)], .row false [.lst 3 (trows (elL A P))], .row false [.fn (.func 27) [] [elD (elL A P)]], .row true [isF (elL A P) 4], .row true [.own 7 (stE A P f s ++ [(s : Int)]).length 0 (stE A P f s ++ [(s : Int)]).length, .own 8 s 0 s, .own 9 s 0 s, .own 10 s 0 s, .sc (.slice none 0 0)], .vec true 0 1 (((List.range N).map fun s => rkRow A P s n).map fun l => [.lst 1 (l.map bcell)]), .vec true (stE A P f s ++ [(s : Int)]).length 1 (i64s (stE A P f s ++ [(s : Int)])), .vec true s 1 (growsI (nxE A P s)), .vec true s 1 (u64r (leE A true s)), .vec true s 1 (u64r (leE A false s)), .vec true 0 1 [[.sc (.int .i64 s)]], .vec true (nxR A P s t).length 1 (i64s (nxR A P s t))]) (fun i => i ≤ n) (fun i => n - i) 0 ?_
          ((conv=>whnf);repeat(refine .intro rfl ?_;conv=>whnf))
          refine ⟨by omega, by (repeat' (first | exact trivial | refine And.intro rfl ?_)), rfl, ?_⟩
          rintro i hi
          have eO := rOk_succ A P s t i
          unfold elD
          ((conv=>whnf);repeat(refine .intro rfl ?_;conv=>whnf))
          (apply rd_sound; focus (repeat' constructor))
          ((conv=>whnf);repeat(refine .intro rfl ?_;conv=>whnf))
          rw [trows_len, elL_len, hnn]
          (refine ifK_split (fun q2 => ?_) (fun q2 => ?_) <;> (rw [q2]; ((conv=>whnf);repeat(refine .intro rfl ?_;conv=>whnf))))
          · have q2 : i < n := by ((try simp only[oo,reduceCtorEq]at*)<;>omega)
            cases ro : rOk A P s t i
            · have ro2 := rOk_mono ro (Nat.le_of_lt q2)
              rw [ro2, if_neg (by decide)] at eX
              ((conv=>whnf);repeat(refine .intro rfl ?_;conv=>whnf))
              (refine .inl ⟨by (unfold InR; rw [IntKind.wrap_i64]; omega), ?_⟩; ((conv=>whnf);repeat(refine .intro rfl ?_;conv=>whnf)))
              refine ⟨t + 1, by omega, by dsimp only; omega, ?_⟩
              dsimp only
              rw [eX]
              exact leB_envH (by (repeat' (first | exact trivial | refine And.intro rfl ?_))) rfl
            · rw [ro, Bool.true_and] at eO
              ((conv=>whnf);repeat(refine .intro rfl ?_;conv=>whnf))
              obtain ⟨-, -, hkA, -⟩ := hel2 i (by omega)
              refine ⟨by omega, _, trows_at (k := i) (by omega) (by rw [elL_len]; omega), ?_⟩
              ((conv=>whnf);repeat(refine .intro rfl ?_;conv=>whnf))
              by_cases q3 : i < A.length
              · have e3 : (((elL A P).getD i default).kind == 3) = true := by simpa using hkA.2 q3
                rw [decide_eq_true q3, Bool.true_or] at eO
                rw [e3]
                ((conv=>whnf);repeat(refine .intro rfl ?_;conv=>whnf))
                (refine .inl ⟨by (unfold InR; rw [IntKind.wrap_i64]; omega), ?_⟩; ((conv=>whnf);repeat(refine .intro rfl ?_;conv=>whnf)))
                refine ⟨i + 1, by omega, by dsimp only; omega, ?_⟩
                dsimp only
                rw [eO]
                exact leB_envH (by (repeat' (first | exact trivial | refine And.intro rfl ?_))) rfl
              · have e3 : (((elL A P).getD i default).kind == 3) = false := by
                  rw [beq_eq_false_iff_ne]; exact fun h => q3 (hkA.1 h)
                rw [decide_eq_false q3, Bool.false_or] at eO
                have eb : (((s : Int).fdiv (2 ^ min ((i : Int)).toNat IntKind.i64.bits)).tmod 2 == 1) = s.testBit i := bit_R s i (by omega)
                rw [e3]
                ((conv=>whnf);repeat(refine .intro rfl ?_;conv=>whnf))
                (refine ⟨by omega, (by first | omega | (simp; done) | (simp; omega) | (simp only [ll]; omega)), ?_⟩; ((conv=>whnf);repeat(refine .intro rfl ?_;conv=>whnf)))
                refine ⟨_, rows_at (t := t) (by omega) q1, ?_⟩
                ((conv=>whnf);repeat(refine .intro rfl ?_;conv=>whnf))
                refine ⟨by omega, _, rkc_at (i := i) (by omega) q2, ?_⟩
                ((conv=>whnf);repeat(refine .intro rfl ?_;conv=>whnf))
                refine ⟨by omega, ?_⟩
                ((conv=>whnf);repeat(refine .intro rfl ?_;conv=>whnf))
                refine ⟨by omega, ?_⟩
                ((conv=>whnf);repeat(refine .intro rfl ?_;conv=>whnf))
                (refine .inl ⟨by (unfold InR; rw [IntKind.wrap_i64]; omega), ?_⟩; ((conv=>whnf);repeat(refine .intro rfl ?_;conv=>whnf)))
                refine ⟨i + 1, by omega, by dsimp only; omega, ?_⟩
                dsimp only
                rw [eO, ← eb]
                exact leB_envH (by (repeat' (first | exact trivial | refine And.intro rfl ?_))) rfl
          · have q2 : i = n := by have : ¬ i < n := by ((try simp only[oo,reduceCtorEq]at*)<;>omega)
                                  omega
            subst q2
            cases ro : rOk A P s t i
            · rw [ro, if_neg (by decide)] at eX
              ((conv=>whnf);repeat(refine .intro rfl ?_;conv=>whnf))
              (refine .inl ⟨by (unfold InR; rw [IntKind.wrap_i64]; omega), ?_⟩; ((conv=>whnf);repeat(refine .intro rfl ?_;conv=>whnf)))
              refine ⟨t + 1, by omega, by dsimp only; omega, ?_⟩
              dsimp only
              rw [eX]
              exact leB_envH (by (repeat' (first | exact trivial | refine And.intro rfl ?_))) rfl
            · rw [ro, if_pos rfl] at eX
              ((conv=>whnf);repeat(refine .intro rfl ?_;conv=>whnf))
              refine ⟨(by unfold sliceAppend; simp only [ll]; omega), ?_⟩
              ((conv=>whnf);repeat(refine .intro rfl ?_;conv=>whnf))
              (refine .inl ⟨by (unfold InR; rw [IntKind.wrap_i64]; omega), ?_⟩; ((conv=>whnf);repeat(refine .intro rfl ?_;conv=>whnf)))
              refine ⟨t + 1, by omega, by dsimp only; omega, ?_⟩
              dsimp only
              rw [eX]
              rw [show (nxR A P s t ++ [(t : Int)]).length = (nxR A P s t).length + 1 by simp]
              (refine leB_close (12 + 1) (by simp) rfl ?_ ?_ <;> (repeat' (first | exact trivial | exact rfl | exact DeepM.refl _ | exact DeepML.refl _ | exact DeepMLL.refl _ | refine And.intro ?_ ?_ | (simp [Under, UnderL, UnderLL, -List.map_take, -List.map_drop]; done))))
              all_goals
                first | exact underL_pure _ (pure_drow _) | exact under_pure _ (pure_dints _) | exact underL_pure _ (by simp [PureL, Pure, elD, pure_trows]; done) | exact underLL_pure _ (pure_boolV _) | exact underLL_pure _ (pure_u64r _) | exact underLL_pure _ (pure_growsI _) | exact underLL_pure _ (pure_trows _) | exact underLL_pure _ (pureLL_map _ (fun l => by simp [PureL, Pure]) _) | exact under_pure _ (pure_chD _) | exact deepMLL_eq (u64r_snoc (by simp)) | exact deepM_grow (by simp) rfl rfl rfl | exact deepMLL_eq (i64s_snoc _ _) | skip
        · have q1 : t = N := by have : ¬ t < N := by ((try simp only[oo,reduceCtorEq]at*)<;>omega)
                                omega
          obtain rfl : N = t := q1.symm
          refine ⟨(by unfold sliceAppend; simp only [ll]; omega), ?_⟩
          ((conv=>whnf);repeat(refine .intro rfl ?_;conv=>whnf))
          refine pwp_forH [1, 2, 4, 6, 7, 8, 10, 14] (fun i : Nat => [(19, .sc (.int .u64 (lettR A s true i))), (20, .sc (.int .u64 (lettR A s false i))), (21, .sc (.int .i64 i))]) (fun i => [.row true (drow f), .row true [.sc (.slice none 0 0), .sc (.slice none 0 0), .sc (.slice none 0 0), .sc (.slice none 0 0), .sc (.slice none 0 0)], .row false [.lst 3 (trows (elL A P))], .row false [.fn (.func 27) [] [elD (elL A P)]], .row true [isF (elL A P) 4], .row true [.own 7 (stE A P f s ++ [(s : Int)]).length 0 (stE A P f s ++ [(s : Int)]).length, .own 8 (s + 1) 0 (s + 1), .own 9 s 0 s, .own 10 s 0 s, .sc (.slice none 0 0)], .vec true 0 1 (((List.range N).map fun s => rkRow A P s n).map fun l => [.lst 1 (l.map bcell)]), .vec true (stE A P f s ++ [(s : Int)]).length 1 (i64s (stE A P f s ++ [(s : Int)])), .vec true (s + 1) 1 (List.drop 0 (List.take s (growsI (nxE A P s))) ++ List.drop 0 (List.take 1 [[D.own 12 (nxR A P s N).length 0 (nxR A P s N).length]])), .vec true s 1 (u64r (leE A true s)), .vec true s 1 (u64r (leE A false s)), .vec true 0 1 [[.sc (.int .i64 s)]], .vec true (nxR A P s N).length 1 (i64s (nxR A P s N)), .vec true 0 1 [[.own 12 (nxR A P s N).length 0 (nxR A P s N).length]]]) (fun i => i ≤ n) (fun i => n - i) 0 ?_
          ((conv=>whnf);repeat(refine .intro rfl ?_;conv=>whnf))
          refine ⟨by omega, by (repeat' (first | exact trivial | refine And.intro rfl ?_)), rfl, ?_⟩
          rintro i hi
          unfold elD
          ((conv=>whnf);repeat(refine .intro rfl ?_;conv=>whnf))
          (apply rd_sound; focus (repeat' constructor))
          ((conv=>whnf);repeat(refine .intro rfl ?_;conv=>whnf))
          rw [trows_len, elL_len, hnn]
          (refine ifK_split (fun q2 => ?_) (fun q2 => ?_) <;> (rw [q2]; ((conv=>whnf);repeat(refine .intro rfl ?_;conv=>whnf))))
          · have q2 : i < n := by ((try simp only[oo,reduceCtorEq]at*)<;>omega)
            obtain ⟨-, -, hkA, -⟩ := hel2 i (by omega)
            have hta := fun (z : Nat) (hz : z = i) => trows_at (P := elL A P) hz (by rw [elL_len]; omega)
            refine ⟨by omega, _, hta _ (by omega), ?_⟩
            ((conv=>whnf);repeat(refine .intro rfl ?_;conv=>whnf))
            by_cases q3 : i < A.length
            · have e3 : (((elL A P).getD i default).kind == 3) = true := by simpa using hkA.2 q3
              have e4 : ((elL A P).getD i default).num = A.getD i 0 := by rw [elL_atom q3]; rfl
              have hx := hI.atoms _ (mem_getD q3)
              have lT := lettR_succ (s := s) (is := true) q3
              have lF := lettR_succ (s := s) (is := false) q3
              rw [e3]
              generalize (elL A P).getD i default = g at *
              generalize A.getD i 0 = x at *
              have eb : (((s : Int).fdiv (2 ^ min ((i : Int)).toNat IntKind.i64.bits)).tmod 2 == 1) = s.testBit i := bit_R s i (by omega)
              have e1 : (1 : Int) * 2 ^ min x.toNat IntKind.u64.bits = 2 ^ x.toNat := by
                rw [show IntKind.u64.bits = 64 from rfl, Nat.min_eq_left (by omega), Int.one_mul]
              have hb2 : (0 : Int) ≤ 2 ^ x.toNat ∧ (2 : Int) ^ x.toNat < 18446744073709551616 := by
                have h1 : 2 ^ x.toNat ≤ 2 ^ 63 := Nat.pow_le_pow_right (by omega) (by omega)
                have h2 : (2 : Nat) ^ 63 = 9223372036854775808 := by decide
                rw [two_powI]
                generalize 2 ^ x.toNat = z at *
                omega
              ((conv=>whnf);repeat(refine .intro rfl ?_;conv=>whnf))
              refine ⟨by omega, ?_⟩
              ((conv=>whnf);repeat(refine .intro rfl ?_;conv=>whnf))
              refine ⟨by omega, ?_⟩
              ((conv=>whnf);repeat(refine .intro rfl ?_;conv=>whnf))
              rw [eb]
              cases rb : s.testBit i
              · rw [rb, if_neg (by decide)] at lT
                rw [rb, if_pos (by decide)] at lF
                ((conv=>whnf);repeat(refine .intro rfl ?_;conv=>whnf))
                refine ⟨by omega, _, hta _ (by omega), ?_⟩
                ((conv=>whnf);repeat(refine .intro rfl ?_;conv=>whnf))
                rw [e3]
                ((conv=>whnf);repeat(refine .intro rfl ?_;conv=>whnf))
                refine ⟨by omega, _, hta _ (by omega), ?_⟩
                ((conv=>whnf);repeat(refine .intro rfl ?_;conv=>whnf))
                rw [e4]
                refine ⟨by omega, ?_⟩
                rw [e1]
                refine .inl ⟨by unfold InR; rw [IntKind.wrap_u64]; omega, ?_⟩
                ((conv=>whnf);repeat(refine .intro rfl ?_;conv=>whnf))
                (refine .inl ⟨by (unfold InR; rw [IntKind.wrap_i64]; omega), ?_⟩; ((conv=>whnf);repeat(refine .intro rfl ?_;conv=>whnf)))
                refine ⟨i + 1, by omega, by dsimp only; omega, ?_⟩
                dsimp only
                rw [lT, lF]
                exact leB_envH (by (repeat' (first | exact trivial | refine And.intro rfl ?_))) rfl
              · rw [rb, if_pos (by decide)] at lT
                rw [rb, if_neg (by decide)] at lF
                ((conv=>whnf);repeat(refine .intro rfl ?_;conv=>whnf))
                refine ⟨by omega, _, hta _ (by omega), ?_⟩
                ((conv=>whnf);repeat(refine .intro rfl ?_;conv=>whnf))
                rw [e4]
                refine ⟨by omega, ?_⟩
                rw [e1]
                refine .inl ⟨by unfold InR; rw [IntKind.wrap_u64]; omega, ?_⟩
                ((conv=>whnf);repeat(refine .intro rfl ?_;conv=>whnf))
                (refine .inl ⟨by (unfold InR; rw [IntKind.wrap_i64]; omega), ?_⟩; ((conv=>whnf);repeat(refine .intro rfl ?_;conv=>whnf)))
                refine ⟨i + 1, by omega, by dsimp only; omega, ?_⟩
                dsimp only
                rw [lT, lF]
                exact leB_envH (by (repeat' (first | exact trivial | refine And.intro rfl ?_))) rfl
            · have e3 : (((elL A P).getD i default).kind == 3) = false := by
                rw [beq_eq_false_iff_ne]; exact fun h => q3 (hkA.1 h)
              have lT := lettR_part (s := s) (is := true) (Nat.le_of_not_lt q3)
              have lF := lettR_part (s := s) (is := false) (Nat.le_of_not_lt q3)
              rw [e3]
              ((conv=>whnf);repeat(refine .intro rfl ?_;conv=>whnf))
              refine ⟨by omega, _, hta _ (by omega), ?_⟩
              ((conv=>whnf);repeat(refine .intro rfl ?_;conv=>whnf))
              rw [e3]
              ((conv=>whnf);repeat(refine .intro rfl ?_;conv=>whnf))
              (refine .inl ⟨by (unfold InR; rw [IntKind.wrap_i64]; omega), ?_⟩; ((conv=>whnf);repeat(refine .intro rfl ?_;conv=>whnf)))
              refine ⟨i + 1, by omega, by dsimp only; omega, ?_⟩
              dsimp only
              rw [lT, lF]
              exact leB_envH (by (repeat' (first | exact trivial | refine And.intro rfl ?_))) rfl
          · have q2 : i = n := by have : ¬ i < n := by ((try simp only[oo,reduceCtorEq]at*)<;>omega)
                                  omega
            obtain rfl : n = i := q2.symm
            have lT : lettR A s true n = lettA A s true A.length := by rw [← hnn]; exact lettR_all
            have lF : lettR A s false n = lettA A s false A.length := by rw [← hnn]; exact lettR_all
            rw [← lT] at eT
            rw [← lF] at eF
            refine ⟨(by unfold sliceAppend; simp only [ll]; omega), ?_⟩
            ((conv=>whnf);repeat(refine .intro rfl ?_;conv=>whnf))
            refine ⟨(by unfold sliceAppend; simp only [ll]; omega), ?_⟩
            ((conv=>whnf);repeat(refine .intro rfl ?_;conv=>whnf))
            (refine .inl ⟨by (unfold InR; rw [IntKind.wrap_i64]; omega), ?_⟩; ((conv=>whnf);repeat(refine .intro rfl ?_;conv=>whnf)))
            refine ⟨s + 1, by omega, by dsimp only; omega, ?_⟩
            dsimp only
            rw [eS, eN, eT, eF]
            (refine leB_close 11 (by simp) rfl ?_ ?_ <;> (repeat' (first | exact trivial | exact rfl | exact DeepM.refl _ | exact DeepML.refl _ | exact DeepMLL.refl _ | refine And.intro ?_ ?_ | (simp [Under, UnderL, UnderLL, -List.map_take, -List.map_drop]; done))))
            all_goals
              first | exact underL_pure _ (pure_drow _) | exact under_pure _ (pure_dints _) | exact underL_pure _ (by simp [PureL, Pure, elD, pure_trows]; done) | exact underLL_pure _ (pure_boolV _) | exact underLL_pure _ (pure_u64r _) | exact underLL_pure _ (pure_growsI _) | exact underLL_pure _ (pure_trows _) | exact underLL_pure _ (pureLL_map _ (fun l => by simp [PureL, Pure]) _) | exact under_pure _ (pure_chD _) | exact deepMLL_eq (u64r_snoc (by simp)) | exact deepM_grow (by simp) rfl rfl rfl | exact deepMLL_eq (i64s_snoc _ _) | skip
    · have q0 : s = N := by have : ¬ s < N := by ((try simp only[oo,reduceCtorEq]at*)<;>omega)
                            omega
      obtain rfl : N = s := q0.symm
      exact ⟨(), trivial, leB_envH (by (repeat' (first | exact trivial | refine And.intro rfl ?_))) rfl⟩
  intro _ _
  ((conv=>whnf);repeat(refine .intro rfl ?_;conv=>whnf))
  (apply rd_sound; focus (repeat' constructor))
  ((conv=>whnf);repeat(refine .intro rfl ?_;conv=>whnf))
  refine pwp_ghostB (leB_nilc 5 4 1 (by simp) rfl rfl) ?_
  refine pwp_forH [2, 4, 6, 7, 8] (fun k : Nat => [(22, .sc (.int .i64 k))]) (fun k => [.row true (drow f), .row true [.sc (.slice none 0 0), .sc (.slice none 0 0), .sc (.slice none 0 0), .sc (.slice none 0 0), .sc (.slice none 0 0)], .row false [.lst 3 (trows (elL A P))], .row false [.fn (.func 27) [] [elD (elL A P)]], .row true [isF (elL A P) 4], .row true [.own 7 (stE A P f N).length 0 (stE A P f N).length, .own 8 N 0 N, .own 9 N 0 N, .own 10 N 0 N, .own 11 (fairR A P k).length 0 (fairR A P k).length], .vec true 0 1 (((List.range N).map fun s => rkRow A P s n).map fun l => [.lst 1 (l.map bcell)]), .vec true (stE A P f N).length 1 (i64s (stE A P f N)), .vec true N 1 (growsI (nxE A P N)), .vec true N 1 (u64r (leE A true N)), .vec true N 1 (u64r (leE A false N)), .vec true (fairR A P k).length 1 (growsI (fairR A P k))]) (fun k => k ≤ n) (fun k => n - k) 0 ?_
  ((conv=>whnf);repeat(refine .intro rfl ?_;conv=>whnf))
  refine ⟨by omega, by (repeat' (first | exact trivial | refine And.intro rfl ?_)), by rw [show fairR A P 0 = [] by unfold fairR; rw [Nat.zero_sub]; rfl]; rfl, ?_⟩
  rintro k hk
  have hfl := fairR_len A P k
  unfold elD
  ((conv=>whnf);repeat(refine .intro rfl ?_;conv=>whnf))
  (apply rd_sound; focus (repeat' constructor))
  ((conv=>whnf);repeat(refine .intro rfl ?_;conv=>whnf))
  rw [trows_len, elL_len, hnn]
  (refine ifK_split (fun q0 => ?_) (fun q0 => ?_) <;> (rw [q0]; ((conv=>whnf);repeat(refine .intro rfl ?_;conv=>whnf))))
  · have q0 : k < n := by ((try simp only[oo,reduceCtorEq]at*)<;>omega)
    obtain ⟨hwE, hTE, hkA, hkE⟩ := hel2 k (by omega)
    have hta := fun (z : Nat) (hz : z = k) => trows_at (P := elL A P) hz (by rw [elL_len]; omega)
    have hfe : fairR A P (k + 1) = if ((elL A P).getD k default).kind = 3 ∨ ((elL A P).getD k default).kind = 7 then fairR A P k else fairR A P k ++ [numsF (fairE A P ((elL A P).getD k default)) N] := by
      by_cases qa : k < A.length
      · rw [fairR_atom qa, if_pos (.inl (hkA.2 qa))]
      · have n3 : ¬ ((elL A P).getD k default).kind = 3 := fun h => qa (hkA.1 h)
        rw [fairR_part (Nat.le_of_not_lt qa) (by omega)]
        have eset : setE A P (A.length + P.length) ((elL A P).getD k default) = numsF (fairE A P ((elL A P).getD k default)) N := by unfold setE; rw [hnn, h2N]
        rw [eset]
        by_cases q7 : ((elL A P).getD k default).kind = 7
        · rw [if_pos q7, if_pos (.inr q7)]
        · rw [if_neg q7, if_neg (by omega)]
    have hfE : ∀ s, fairE A P ((elL A P).getD k default) s = if ((elL A P).getD k default).kind = 8 then !(holdsT (chE A P s) ((elL A P).getD k default)) || holdsT (chE A P s) (((elL A P).getD k default).kid 1) else holdsT (chE A P s) ((elL A P).getD k default) || !(holdsT (chE A P s) (((elL A P).getD k default).kid 1)) := fun s => rfl
    generalize (elL A P).getD k default = g at *
    by_cases k8 : g.kind = 8
    · rw [if_neg (by omega)] at hfe
      have e8 : (g.kind == 8) = true := by simpa using k8
      have w1 : 1 < g.width := by have := p_kind hwE; omega
      refine pwp_ghostB (leB_nil 23 1 (by simp) rfl) ?_
      refine pwp_forH [2, 4, 6, 7, 8, 22] (fun s : Nat => [(23, .own 12 (numsF (fairE A P g) s).length 0 (numsF (fairE A P g) s).length), (24, .sc (.int .i64 s))]) (fun s => [.row true (drow f), .row true [.sc (.slice none 0 0), .sc (.slice none 0 0), .sc (.slice none 0 0), .sc (.slice none 0 0), .sc (.slice none 0 0)], .row false [.lst 3 (trows (elL A P))], .row false [.fn (.func 27) [] [elD (elL A P)]], .row true [isF (elL A P) 4], .row true [.own 7 (stE A P f N).length 0 (stE A P f N).length, .own 8 N 0 N, .own 9 N 0 N, .own 10 N 0 N, .own 11 (fairR A P k).length 0 (fairR A P k).length], .vec true 0 1 (((List.range N).map fun s => rkRow A P s n).map fun l => [.lst 1 (l.map bcell)]), .vec true (stE A P f N).length 1 (i64s (stE A P f N)), .vec true N 1 (growsI (nxE A P N)), .vec true N 1 (u64r (leE A true N)), .vec true N 1 (u64r (leE A false N)), .vec true (fairR A P k).length 1 (growsI (fairR A P k)), .vec true (numsF (fairE A P g) s).length 1 (i64s (numsF (fairE A P g) s))]) (fun s => s ≤ N) (fun s => N - s) 0 ?_
      ((conv=>whnf);repeat(refine .intro rfl ?_;conv=>whnf))
      refine ⟨by omega, by (repeat' (first | exact trivial | refine And.intro rfl ?_)), rfl, ?_⟩
      rintro s hs
      have hxl := numsF_len (fairE A P g) s
      ((conv=>whnf);repeat(refine .intro rfl ?_;conv=>whnf))
      (apply rd_sound; focus (repeat' constructor))
      ((conv=>whnf);repeat(refine .intro rfl ?_;conv=>whnf))
      (refine ifK_split (fun q1 => ?_) (fun q1 => ?_) <;> (rw [q1]; ((conv=>whnf);repeat(refine .intro rfl ?_;conv=>whnf))))
      · have q1 : s < N := by ((try simp only[oo,reduceCtorEq]at*)<;>omega)
        have eX := numsF_succ (fairE A P g) s
        refine ⟨by omega, _, hta _ (by omega), ?_⟩
        ((conv=>whnf);repeat(refine .intro rfl ?_;conv=>whnf))
        have e9 : (g.kind == 9) = false := by rw [beq_eq_false_iff_ne]; omega
        have r0 := fun H hH => hIs g hwE hTE s H hH
        have r1 := fun H hH => hIs (g.kid 1) (wf_kid hwE w1) (hTE.kid w1) s H hH
        have hf := hfE s
        rw [if_pos k8] at hf
        rw [hf] at eX
        generalize holdsT (chE A P s) g = b0 at *
        generalize holdsT (chE A P s) (g.kid 1) = b1 at *
        rw [e8]
        ((conv=>whnf);repeat(refine .intro rfl ?_;conv=>whnf))
        refine ⟨by omega, _, hta _ (by omega), ?_⟩
        ((conv=>whnf);repeat(refine .intro rfl ?_;conv=>whnf))
        (refine .inr (.inr (.inr (.inr (.inr (.inr ⟨_, _, (r0 _ rfl), ?_⟩))))); ((conv=>whnf);repeat(refine .intro rfl ?_;conv=>whnf)))
        cases b0
        · rw [if_pos (by simp)] at eX
          ((conv=>whnf);repeat(refine .intro rfl ?_;conv=>whnf))
          refine ⟨(by unfold sliceAppend; simp only [ll]; omega), ?_⟩
          ((conv=>whnf);repeat(refine .intro rfl ?_;conv=>whnf))
          (refine .inl ⟨by (unfold InR; rw [IntKind.wrap_i64]; omega), ?_⟩; ((conv=>whnf);repeat(refine .intro rfl ?_;conv=>whnf)))
          refine ⟨s + 1, by omega, by dsimp only; omega, ?_⟩
          dsimp only
          rw [eX]
          rw [show (numsF (fairE A P g) s ++ [(s : Int)]).length = (numsF (fairE A P g) s).length + 1 by simp]
          (refine leB_close 13 (by simp) rfl ?_ ?_ <;> (repeat' (first | exact trivial | exact rfl | exact DeepM.refl _ | exact DeepML.refl _ | exact DeepMLL.refl _ | refine And.intro ?_ ?_ | (simp [Under, UnderL, UnderLL, -List.map_take, -List.map_drop]; done))))
          all_goals
            first | exact underL_pure _ (pure_drow _) | exact under_pure _ (pure_dints _) | exact underL_pure _ (by simp [PureL, Pure, elD, pure_trows]; done) | exact underLL_pure _ (pure_boolV _) | exact underLL_pure _ (pure_u64r _) | exact underLL_pure _ (pure_growsI _) | exact underLL_pure _ (pure_trows _) | exact underLL_pure _ (pureLL_map _ (fun l => by simp [PureL, Pure]) _) | exact under_pure _ (pure_chD _) | exact deepMLL_eq (u64r_snoc (by simp)) | exact deepM_grow (by simp) rfl rfl rfl | exact deepMLL_eq (i64s_snoc _ _) | skip
        · ((conv=>whnf);repeat(refine .intro rfl ?_;conv=>whnf))
          refine ⟨by omega, _, hta _ (by omega), ?_⟩
          ((conv=>whnf);repeat(refine .intro rfl ?_;conv=>whnf))
          refine ⟨by omega, _, kid_at w1, ?_⟩
          ((conv=>whnf);repeat(refine .intro rfl ?_;conv=>whnf))
          (refine .inr (.inr (.inr (.inr (.inr (.inr ⟨_, _, (r1 _ rfl), ?_⟩))))); ((conv=>whnf);repeat(refine .intro rfl ?_;conv=>whnf)))
          cases b1
          · rw [if_neg (by simp)] at eX
            ((conv=>whnf);repeat(refine .intro rfl ?_;conv=>whnf))
            refine ⟨by omega, _, hta _ (by omega), ?_⟩
            ((conv=>whnf);repeat(refine .intro rfl ?_;conv=>whnf))
            rw [e9]
            ((conv=>whnf);repeat(refine .intro rfl ?_;conv=>whnf))
            (refine .inl ⟨by (unfold InR; rw [IntKind.wrap_i64]; omega), ?_⟩; ((conv=>whnf);repeat(refine .intro rfl ?_;conv=>whnf)))
            refine ⟨s + 1, by omega, by dsimp only; omega, ?_⟩
            dsimp only
            rw [eX]
            exact leB_envH (by (repeat' (first | exact trivial | refine And.intro rfl ?_))) rfl
          · rw [if_pos (by simp)] at eX
            ((conv=>whnf);repeat(refine .intro rfl ?_;conv=>whnf))
            refine ⟨(by unfold sliceAppend; simp only [ll]; omega), ?_⟩
            ((conv=>whnf);repeat(refine .intro rfl ?_;conv=>whnf))
            (refine .inl ⟨by (unfold InR; rw [IntKind.wrap_i64]; omega), ?_⟩; ((conv=>whnf);repeat(refine .intro rfl ?_;conv=>whnf)))
            refine ⟨s + 1, by omega, by dsimp only; omega, ?_⟩
            dsimp only
            rw [eX]
            rw [show (numsF (fairE A P g) s ++ [(s : Int)]).length = (numsF (fairE A P g) s).length + 1 by simp]
            (refine leB_close 13 (by simp) rfl ?_ ?_ <;> (repeat' (first | exact trivial | exact rfl | exact DeepM.refl _ | exact DeepML.refl _ | exact DeepMLL.refl _ | refine And.intro ?_ ?_ | (simp [Under, UnderL, UnderLL, -List.map_take, -List.map_drop]; done))))
            all_goals
              first | exact underL_pure _ (pure_drow _) | exact under_pure _ (pure_dints _) | exact underL_pure _ (by simp [PureL, Pure, elD, pure_trows]; done) | exact underLL_pure _ (pure_boolV _) | exact underLL_pure _ (pure_u64r _) | exact underLL_pure _ (pure_growsI _) | exact underLL_pure _ (pure_trows _) | exact underLL_pure _ (pureLL_map _ (fun l => by simp [PureL, Pure]) _) | exact under_pure _ (pure_chD _) | exact deepMLL_eq (u64r_snoc (by simp)) | exact deepM_grow (by simp) rfl rfl rfl | exact deepMLL_eq (i64s_snoc _ _) | skip
      · have q1 : s = N := by have : ¬ s < N := by ((try simp only[oo,reduceCtorEq]at*)<;>omega)
                              omega
        obtain rfl : N = s := q1.symm
        refine ⟨by omega, _, hta _ (by omega), ?_⟩
        ((conv=>whnf);repeat(refine .intro rfl ?_;conv=>whnf))
        rw [e8]
        ((conv=>whnf);repeat(refine .intro rfl ?_;conv=>whnf))
        refine ⟨(by unfold sliceAppend; simp only [ll]; omega), ?_⟩
        ((conv=>whnf);repeat(refine .intro rfl ?_;conv=>whnf))
        (refine .inl ⟨by (unfold InR; rw [IntKind.wrap_i64]; omega), ?_⟩; ((conv=>whnf);repeat(refine .intro rfl ?_;conv=>whnf)))
        refine ⟨k + 1, by omega, by dsimp only; omega, ?_⟩
        dsimp only
        rw [hfe]
        rw [show (fairR A P k ++ [numsF (fairE A P g) N]).length = (fairR A P k).length + 1 by simp]
        (refine leB_close 12 (by simp) rfl ?_ ?_ <;> (repeat' (first | exact trivial | exact rfl | exact DeepM.refl _ | exact DeepML.refl _ | exact DeepMLL.refl _ | refine And.intro ?_ ?_ | (simp [Under, UnderL, UnderLL, -List.map_take, -List.map_drop]; done))))
        all_goals
          first | exact underL_pure _ (pure_drow _) | exact under_pure _ (pure_dints _) | exact underL_pure _ (by simp [PureL, Pure, elD, pure_trows]; done) | exact underLL_pure _ (pure_boolV _) | exact underLL_pure _ (pure_u64r _) | exact underLL_pure _ (pure_growsI _) | exact underLL_pure _ (pure_trows _) | exact underLL_pure _ (pureLL_map _ (fun l => by simp [PureL, Pure]) _) | exact under_pure _ (pure_chD _) | exact deepMLL_eq (u64r_snoc (by simp)) | exact deepM_grow (by simp) rfl rfl rfl | exact deepMLL_eq (i64s_snoc _ _) | skip
    · by_cases k9 : g.kind = 9
      · rw [if_neg (by omega)] at hfe
        have e8 : (g.kind == 8) = false := by simpa using k8
        have e9 : (g.kind == 9) = true := by simpa using k9
        have w1 : 1 < g.width := by have := p_kind hwE; omega
        refine pwp_ghostB (leB_nil 23 1 (by simp) rfl) ?_
        refine pwp_forH [2, 4, 6, 7, 8, 22] (fun s : Nat => [(23, .own 12 (numsF (fairE A P g) s).length 0 (numsF (fairE A P g) s).length), (24, .sc (.int .i64 s))]) (fun s => [.row true (drow f), .row true [.sc (.slice none 0 0), .sc (.slice none 0 0), .sc (.slice none 0 0), .sc (.slice none 0 0), .sc (.slice none 0 0)], .row false [.lst 3 (trows (elL A P))], .row false [.fn (.func 27) [] [elD (elL A P)]], .row true [isF (elL A P) 4], .row true [.own 7 (stE A P f N).length 0 (stE A P f N).length, .own 8 N 0 N, .own 9 N 0 N, .own 10 N 0 N, .own 11 (fairR A P k).length 0 (fairR A P k).length], .vec true 0 1 (((List.range N).map fun s => rkRow A P s n).map fun l => [.lst 1 (l.map bcell)]), .vec true (stE A P f N).length 1 (i64s (stE A P f N)), .vec true N 1 (growsI (nxE A P N)), .vec true N 1 (u64r (leE A true N)), .vec true N 1 (u64r (leE A false N)), .vec true (fairR A P k).length 1 (growsI (fairR A P k)), .vec true (numsF (fairE A P g) s).length 1 (i64s (numsF (fairE A P g) s))]) (fun s => s ≤ N) (fun s => N - s) 0 ?_
        ((conv=>whnf);repeat(refine .intro rfl ?_;conv=>whnf))
        refine ⟨by omega, by (repeat' (first | exact trivial | refine And.intro rfl ?_)), rfl, ?_⟩
        rintro s hs
        have hxl := numsF_len (fairE A P g) s
        ((conv=>whnf);repeat(refine .intro rfl ?_;conv=>whnf))
        (apply rd_sound; focus (repeat' constructor))
        ((conv=>whnf);repeat(refine .intro rfl ?_;conv=>whnf))
        (refine ifK_split (fun q1 => ?_) (fun q1 => ?_) <;> (rw [q1]; ((conv=>whnf);repeat(refine .intro rfl ?_;conv=>whnf))))
        · have q1 : s < N := by ((try simp only[oo,reduceCtorEq]at*)<;>omega)
          have eX := numsF_succ (fairE A P g) s
          refine ⟨by omega, _, hta _ (by omega), ?_⟩
          ((conv=>whnf);repeat(refine .intro rfl ?_;conv=>whnf))
          have r0 := fun H hH => hIs g hwE hTE s H hH
          have r1 := fun H hH => hIs (g.kid 1) (wf_kid hwE w1) (hTE.kid w1) s H hH
          have hf := hfE s
          rw [if_neg k8] at hf
          rw [hf] at eX
          generalize holdsT (chE A P s) g = b0 at *
          generalize holdsT (chE A P s) (g.kid 1) = b1 at *
          rw [e8]
          ((conv=>whnf);repeat(refine .intro rfl ?_;conv=>whnf))
          refine ⟨by omega, _, hta _ (by omega), ?_⟩
          ((conv=>whnf);repeat(refine .intro rfl ?_;conv=>whnf))
          rw [e9]
          ((conv=>whnf);repeat(refine .intro rfl ?_;conv=>whnf))
          refine ⟨by omega, _, hta _ (by omega), ?_⟩
          ((conv=>whnf);repeat(refine .intro rfl ?_;conv=>whnf))
          (refine .inr (.inr (.inr (.inr (.inr (.inr ⟨_, _, (r0 _ rfl), ?_⟩))))); ((conv=>whnf);repeat(refine .intro rfl ?_;conv=>whnf)))
          cases b0
          · ((conv=>whnf);repeat(refine .intro rfl ?_;conv=>whnf))
            refine ⟨by omega, _, hta _ (by omega), ?_⟩
            ((conv=>whnf);repeat(refine .intro rfl ?_;conv=>whnf))
            refine ⟨by omega, _, kid_at w1, ?_⟩
            ((conv=>whnf);repeat(refine .intro rfl ?_;conv=>whnf))
            (refine .inr (.inr (.inr (.inr (.inr (.inr ⟨_, _, (r1 _ rfl), ?_⟩))))); ((conv=>whnf);repeat(refine .intro rfl ?_;conv=>whnf)))
            cases b1
            · rw [if_pos (by simp)] at eX
              ((conv=>whnf);repeat(refine .intro rfl ?_;conv=>whnf))
              refine ⟨(by unfold sliceAppend; simp only [ll]; omega), ?_⟩
              ((conv=>whnf);repeat(refine .intro rfl ?_;conv=>whnf))
              (refine .inl ⟨by (unfold InR; rw [IntKind.wrap_i64]; omega), ?_⟩; ((conv=>whnf);repeat(refine .intro rfl ?_;conv=>whnf)))
              refine ⟨s + 1, by omega, by dsimp only; omega, ?_⟩
              dsimp only
              rw [eX]
              rw [show (numsF (fairE A P g) s ++ [(s : Int)]).length = (numsF (fairE A P g) s).length + 1 by simp]
              (refine leB_close 13 (by simp) rfl ?_ ?_ <;> (repeat' (first | exact trivial | exact rfl | exact DeepM.refl _ | exact DeepML.refl _ | exact DeepMLL.refl _ | refine And.intro ?_ ?_ | (simp [Under, UnderL, UnderLL, -List.map_take, -List.map_drop]; done))))
              all_goals
                first | exact underL_pure _ (pure_drow _) | exact under_pure _ (pure_dints _) | exact underL_pure _ (by simp [PureL, Pure, elD, pure_trows]; done) | exact underLL_pure _ (pure_boolV _) | exact underLL_pure _ (pure_u64r _) | exact underLL_pure _ (pure_growsI _) | exact underLL_pure _ (pure_trows _) | exact underLL_pure _ (pureLL_map _ (fun l => by simp [PureL, Pure]) _) | exact under_pure _ (pure_chD _) | exact deepMLL_eq (u64r_snoc (by simp)) | exact deepM_grow (by simp) rfl rfl rfl | exact deepMLL_eq (i64s_snoc _ _) | skip
            · rw [if_neg (by simp)] at eX
              ((conv=>whnf);repeat(refine .intro rfl ?_;conv=>whnf))
              (refine .inl ⟨by (unfold InR; rw [IntKind.wrap_i64]; omega), ?_⟩; ((conv=>whnf);repeat(refine .intro rfl ?_;conv=>whnf)))
              refine ⟨s + 1, by omega, by dsimp only; omega, ?_⟩
              dsimp only
              rw [eX]
              exact leB_envH (by (repeat' (first | exact trivial | refine And.intro rfl ?_))) rfl
          · rw [if_pos (by simp)] at eX
            ((conv=>whnf);repeat(refine .intro rfl ?_;conv=>whnf))
            refine ⟨(by unfold sliceAppend; simp only [ll]; omega), ?_⟩
            ((conv=>whnf);repeat(refine .intro rfl ?_;conv=>whnf))
            (refine .inl ⟨by (unfold InR; rw [IntKind.wrap_i64]; omega), ?_⟩; ((conv=>whnf);repeat(refine .intro rfl ?_;conv=>whnf)))
            refine ⟨s + 1, by omega, by dsimp only; omega, ?_⟩
            dsimp only
            rw [eX]
            rw [show (numsF (fairE A P g) s ++ [(s : Int)]).length = (numsF (fairE A P g) s).length + 1 by simp]
            (refine leB_close 13 (by simp) rfl ?_ ?_ <;> (repeat' (first | exact trivial | exact rfl | exact DeepM.refl _ | exact DeepML.refl _ | exact DeepMLL.refl _ | refine And.intro ?_ ?_ | (simp [Under, UnderL, UnderLL, -List.map_take, -List.map_drop]; done))))
            all_goals
              first | exact underL_pure _ (pure_drow _) | exact under_pure _ (pure_dints _) | exact underL_pure _ (by simp [PureL, Pure, elD, pure_trows]; done) | exact underLL_pure _ (pure_boolV _) | exact underLL_pure _ (pure_u64r _) | exact underLL_pure _ (pure_growsI _) | exact underLL_pure _ (pure_trows _) | exact underLL_pure _ (pureLL_map _ (fun l => by simp [PureL, Pure]) _) | exact under_pure _ (pure_chD _) | exact deepMLL_eq (u64r_snoc (by simp)) | exact deepM_grow (by simp) rfl rfl rfl | exact deepMLL_eq (i64s_snoc _ _) | skip
        · have q1 : s = N := by have : ¬ s < N := by ((try simp only[oo,reduceCtorEq]at*)<;>omega)
                                omega
          obtain rfl : N = s := q1.symm
          refine ⟨by omega, _, hta _ (by omega), ?_⟩
          ((conv=>whnf);repeat(refine .intro rfl ?_;conv=>whnf))
          rw [e8]
          ((conv=>whnf);repeat(refine .intro rfl ?_;conv=>whnf))
          refine ⟨by omega, _, hta _ (by omega), ?_⟩
          ((conv=>whnf);repeat(refine .intro rfl ?_;conv=>whnf))
          rw [e9]
          ((conv=>whnf);repeat(refine .intro rfl ?_;conv=>whnf))
          refine ⟨(by unfold sliceAppend; simp only [ll]; omega), ?_⟩
          ((conv=>whnf);repeat(refine .intro rfl ?_;conv=>whnf))
          (refine .inl ⟨by (unfold InR; rw [IntKind.wrap_i64]; omega), ?_⟩; ((conv=>whnf);repeat(refine .intro rfl ?_;conv=>whnf)))
          refine ⟨k + 1, by omega, by dsimp only; omega, ?_⟩
          dsimp only
          rw [hfe]
          rw [show (fairR A P k ++ [numsF (fairE A P g) N]).length = (fairR A P k).length + 1 by simp]
          (refine leB_close 12 (by simp) rfl ?_ ?_ <;> (repeat' (first | exact trivial | exact rfl | exact DeepM.refl _ | exact DeepML.refl _ | exact DeepMLL.refl _ | refine And.intro ?_ ?_ | (simp [Under, UnderL, UnderLL, -List.map_take, -List.map_drop]; done))))
          all_goals
            first | exact underL_pure _ (pure_drow _) | exact under_pure _ (pure_dints _) | exact underL_pure _ (by simp [PureL, Pure, elD, pure_trows]; done) | exact underLL_pure _ (pure_boolV _) | exact underLL_pure _ (pure_u64r _) | exact underLL_pure _ (pure_growsI _) | exact underLL_pure _ (pure_trows _) | exact underLL_pure _ (pureLL_map _ (fun l => by simp [PureL, Pure]) _) | exact under_pure _ (pure_chD _) | exact deepMLL_eq (u64r_snoc (by simp)) | exact deepM_grow (by simp) rfl rfl rfl | exact deepMLL_eq (i64s_snoc _ _) | skip
      · rw [if_pos (by omega)] at hfe
        have e8 : (g.kind == 8) = false := by simpa using k8
        have e9 : (g.kind == 9) = false := by simpa using k9
        refine pwp_ghostB (leB_nil 23 1 (by simp) rfl) ?_
        refine pwp_forH [2, 4, 6, 7, 8, 22] (fun s : Nat => [(23, .own 12 (numsF (fun _ => false) s).length 0 (numsF (fun _ => false) s).length), (24, .sc (.int .i64 s))]) (fun s => [.row true (drow f), .row true [.sc (.slice none 0 0), .sc (.slice none 0 0), .sc (.slice none 0 0), .sc (.slice none 0 0), .sc (.slice none 0 0)], .row false [.lst 3 (trows (elL A P))], .row false [.fn (.func 27) [] [elD (elL A P)]], .row true [isF (elL A P) 4], .row true [.own 7 (stE A P f N).length 0 (stE A P f N).length, .own 8 N 0 N, .own 9 N 0 N, .own 10 N 0 N, .own 11 (fairR A P k).length 0 (fairR A P k).length], .vec true 0 1 (((List.range N).map fun s => rkRow A P s n).map fun l => [.lst 1 (l.map bcell)]), .vec true (stE A P f N).length 1 (i64s (stE A P f N)), .vec true N 1 (growsI (nxE A P N)), .vec true N 1 (u64r (leE A true N)), .vec true N 1 (u64r (leE A false N)), .vec true (fairR A P k).length 1 (growsI (fairR A P k)), .vec true (numsF (fun _ => false) s).length 1 (i64s (numsF (fun _ => false) s))]) (fun s => s ≤ N) (fun s => N - s) 0 ?_
        ((conv=>whnf);repeat(refine .intro rfl ?_;conv=>whnf))
        refine ⟨by omega, by (repeat' (first | exact trivial | refine And.intro rfl ?_)), rfl, ?_⟩
        rintro s hs
        have hxl := numsF_len (fun _ => false) s
        ((conv=>whnf);repeat(refine .intro rfl ?_;conv=>whnf))
        (apply rd_sound; focus (repeat' constructor))
        ((conv=>whnf);repeat(refine .intro rfl ?_;conv=>whnf))
        (refine ifK_split (fun q1 => ?_) (fun q1 => ?_) <;> (rw [q1]; ((conv=>whnf);repeat(refine .intro rfl ?_;conv=>whnf))))
        · have q1 : s < N := by ((try simp only[oo,reduceCtorEq]at*)<;>omega)
          have eX := numsF_succ (fun _ => false) s
          refine ⟨by omega, _, hta _ (by omega), ?_⟩
          ((conv=>whnf);repeat(refine .intro rfl ?_;conv=>whnf))
          rw [if_neg (by simp)] at eX
          rw [e8]
          ((conv=>whnf);repeat(refine .intro rfl ?_;conv=>whnf))
          refine ⟨by omega, _, hta _ (by omega), ?_⟩
          ((conv=>whnf);repeat(refine .intro rfl ?_;conv=>whnf))
          rw [e9]
          ((conv=>whnf);repeat(refine .intro rfl ?_;conv=>whnf))
          (refine .inl ⟨by (unfold InR; rw [IntKind.wrap_i64]; omega), ?_⟩; ((conv=>whnf);repeat(refine .intro rfl ?_;conv=>whnf)))
          refine ⟨s + 1, by omega, by dsimp only; omega, ?_⟩
          dsimp only
          rw [eX]
          exact leB_envH (by (repeat' (first | exact trivial | refine And.intro rfl ?_))) rfl
        · have q1 : s = N := by have : ¬ s < N := by ((try simp only[oo,reduceCtorEq]at*)<;>omega)
                                omega
          obtain rfl : N = s := q1.symm
          refine ⟨by omega, _, hta _ (by omega), ?_⟩
          ((conv=>whnf);repeat(refine .intro rfl ?_;conv=>whnf))
          rw [e8]
          ((conv=>whnf);repeat(refine .intro rfl ?_;conv=>whnf))
          refine ⟨by omega, _, hta _ (by omega), ?_⟩
          ((conv=>whnf);repeat(refine .intro rfl ?_;conv=>whnf))
          rw [e9]
          ((conv=>whnf);repeat(refine .intro rfl ?_;conv=>whnf))
          (refine .inl ⟨by (unfold InR; rw [IntKind.wrap_i64]; omega), ?_⟩; ((conv=>whnf);repeat(refine .intro rfl ?_;conv=>whnf)))
          refine ⟨k + 1, by omega, by dsimp only; omega, ?_⟩
          dsimp only
          rw [hfe]
          (refine leB_close 12 (by simp) rfl ?_ ?_ <;> (repeat' (first | exact trivial | exact rfl | exact DeepM.refl _ | exact DeepML.refl _ | exact DeepMLL.refl _ | refine And.intro ?_ ?_ | (simp [Under, UnderL, UnderLL, -List.map_take, -List.map_drop]; done))))
          all_goals
            first | exact underL_pure _ (pure_drow _) | exact under_pure _ (pure_dints _) | exact underL_pure _ (by simp [PureL, Pure, elD, pure_trows]; done) | exact underLL_pure _ (pure_boolV _) | exact underLL_pure _ (pure_u64r _) | exact underLL_pure _ (pure_growsI _) | exact underLL_pure _ (pure_trows _) | exact underLL_pure _ (pureLL_map _ (fun l => by simp [PureL, Pure]) _) | exact under_pure _ (pure_chD _) | exact deepMLL_eq (u64r_snoc (by simp)) | exact deepM_grow (by simp) rfl rfl rfl | exact deepMLL_eq (i64s_snoc _ _) | skip
  · have q0 : k = n := by have : ¬ k < n := by ((try simp only[oo,reduceCtorEq]at*)<;>omega)
                          omega
    obtain rfl : n = k := q0.symm
    have hE := tabE_eq A P f
    rw [hnn, h2N] at hE
    have hfr : fairR A P n = fairsE A P n P.length := by unfold fairR; rw [hnn, show n - A.length = P.length by omega]
    rw [hE, ← hfr]
    refine .tup _ _ (.cons _ _ _ _ (.agg _ _ (.cons _ _ _ _ (.own _ _ _ _ _ _ _ _ rfl ?_) (.cons _ _ _ _ (.own _ _ _ _ _ _ _ _ rfl ?_) (.cons _ _ _ _ (.own _ _ _ _ _ _ _ _ rfl ?_) (.cons _ _ _ _ (.own _ _ _ _ _ _ _ _ rfl ?_) (.cons _ _ _ _ (.own _ _ _ _ _ _ _ _ rfl ?_) .nil)))))) (.cons _ _ _ _ (.refl _) .nil))
    · exact deepLL_all (by simp [i64s])
    · exact deepLL_all (by simp)
    · exact deepLL_all (by simp)
    · exact deepLL_all (by simp)
    · exact deepLL_all (by simp)
end Go.Proofs.Ytihgbinhidppdaa
