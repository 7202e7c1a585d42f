/-
  watchlaw.EmptyFinds returns true for every world and every automaton, and each argument reads afterwards as it read before. The condition: both together are of a bulk of at most 1048576.
-/
import Derived.Test.YtfaekhadjlgbbaaQDC
import Derived.Test.YtfaekhadjlgbbaaQEmC
import Derived.Test.YtfaekhadjlgbbaaQAf
import Derived.Test.YtfaekhadjlgbbaaQAgL
import Derived.Test.YtfaekhadjlgbbaaRows
import Derived.Deep.CondSized
import Derived.JoinedCond
namespace Go.Proofs.Ytfaekhadjlgbbaa
open Go.RowKit Go.ChangeShapes Go.WideShapes Go.ChangeAt
set_option linter.unusedSimpArgs false
set_option linter.unusedVariables false
def c18x_1 : PC := .seq (.seq (.ops [⟨some 42,.move (.tmp 10),none,0⟩,
 ⟨some 43,.move (.tmp 9),none,0⟩,
 ⟨some 44,.nilchk (.tmp 43),none,0⟩,
 ⟨some 45,.faddr 10 (.tmp 44),none,0⟩,
 ⟨some 46,.load1 (.tmp 45),none,0⟩,
 ⟨some 47,.len (.tmp 46),none,0⟩,
 ⟨some 48,.bin .lss (.tmp 42) (.tmp 47),none,0⟩] false) (.cond (.tmp 48) (.skip) (.exit 0))) (.seq (.block 1 (.ops [⟨some 51,.move (.tmp 9),none,0⟩,
 ⟨some 52,.move (.tmp 9),none,0⟩,
 ⟨some 53,.nilchk (.tmp 52),none,2⟩,
 ⟨some 54,.faddr 11 (.tmp 53),none,6⟩,
 ⟨some 55,.load1 (.tmp 54),none,14⟩,
 ⟨some 56,.move (.tmp 9),none,0⟩,
 ⟨some 57,.faddr 1 (.tmp 2),none,0⟩,
 ⟨some 58,.load1 (.tmp 57),none,64⟩,
 ⟨some 59,.move (.tmp 9),none,0⟩,
 ⟨some 60,.nilchk (.tmp 59),none,256⟩,
 ⟨some 61,.faddr 10 (.tmp 60),none,768⟩,
 ⟨some 62,.load1 (.tmp 61),none,1792⟩,
 ⟨some 63,.move (.tmp 10),none,0⟩,
 ⟨some 64,.iaddr 2 (.tmp 62) (.tmp 63),none,7936⟩,
 ⟨some 65,.faddr 0 (.tmp 64),none,16128⟩,
 ⟨some 66,.load1 (.tmp 65),none,32512⟩,
 ⟨some 67,.iaddr 1 (.tmp 58) (.tmp 66),none,65472⟩,
 ⟨some 68,.load1 (.tmp 67),none,131008⟩,
 ⟨some 69,.faddr 1 (.tmp 3),none,0⟩,
 ⟨some 70,.load1 (.tmp 69),none,262144⟩,
 ⟨some 71,.move (.tmp 9),none,0⟩,
 ⟨some 72,.nilchk (.tmp 71),none,1048576⟩,
 ⟨some 73,.faddr 10 (.tmp 72),none,3145728⟩,
 ⟨some 74,.load1 (.tmp 73),none,7340032⟩,
 ⟨some 75,.move (.tmp 10),none,0⟩,
 ⟨some 76,.iaddr 2 (.tmp 74) (.tmp 75),none,32505856⟩,
 ⟨some 77,.faddr 1 (.tmp 76),none,66060288⟩,
 ⟨some 78,.load1 (.tmp 77),none,133169152⟩,
 ⟨some 79,.iaddr 1 (.tmp 70) (.tmp 78),none,268173312⟩,
 ⟨some 80,.load1 (.tmp 79),none,536608768⟩,
 ⟨some 81,.call 55 [(.tmp 56), (.tmp 68), (.tmp 80)],none,1073741792⟩,
 ⟨some 82,.bslice 1 1 [(.tmp 81)],none,2147483616⟩,
 ⟨some 83,.append 1 24 (.tmp 55) (.tmp 82),none,4294967294⟩,
 ⟨some 84,.nilchk (.tmp 51),none,8589934591⟩,
 ⟨some 85,.faddr 11 (.tmp 84),none,17179869183⟩,
 ⟨none,.store 1 (.tmp 85) (.tmp 83),none,34359738367⟩] true)) (.ops [⟨some 49,.move (.tmp 10),none,0⟩,
 ⟨some 50,.bin .add (.tmp 49) (.const (.int .i64 1)),none,0⟩,
 ⟨some 10,.move (.tmp 50),none,0⟩] false))
def c18x : PC := .seq (.ops [⟨some 2,.box (.tmp 0),none,0⟩,
 ⟨some 3,.box (.tmp 1),none,0⟩,
 ⟨some 4,.alloc [(.slice none 0 0), (.slice none 0 0)],none,0⟩,
 ⟨some 5,.move (.const (.bool false)),none,0⟩,
 ⟨some 6,.move (.const (.int .i64 0)),none,0⟩] false) (.seq (.seq (.ops [⟨some 16,.loadA 4 (.tmp 2),none,0⟩,
 ⟨some 17,.call 54 [(.tmp 16)],none,0⟩,
 ⟨some 7,.move (.tmp 17),none,0⟩] false) (.seq (.ops [⟨some 18,.move (.tmp 7),none,0⟩,
 ⟨some 19,.bin .neq (.tmp 18) (.const (.int .i64 0)),none,0⟩] false) (.cond (.tmp 19) (.seq (.ops [⟨some 20,.build [(.slice none 0 0), (.slice none 0 0)] [],none,0⟩,
 ⟨some 21,.move (.tmp 7),none,0⟩,
 ⟨none,.store 2 (.tmp 4) (.tmp 20),none,0⟩,
 ⟨some 5,.move (.const (.bool false)),none,0⟩,
 ⟨some 6,.move (.tmp 21),none,0⟩] false) (.ret)) (.skip)))) (.seq (.seq (.ops [⟨some 22,.loadA 5 (.tmp 3),none,0⟩,
 ⟨some 23,.call 10 [(.tmp 22)],none,0⟩,
 ⟨some 8,.move (.tmp 23),none,0⟩] false) (.seq (.ops [⟨some 24,.move (.tmp 8),none,0⟩,
 ⟨some 25,.bin .neq (.tmp 24) (.const (.int .i64 0)),none,0⟩] false) (.cond (.tmp 25) (.seq (.ops [⟨some 26,.build [(.slice none 0 0), (.slice none 0 0)] [],none,0⟩,
 ⟨some 27,.move (.tmp 8),none,0⟩,
 ⟨none,.store 2 (.tmp 4) (.tmp 26),none,0⟩,
 ⟨some 5,.move (.const (.bool false)),none,0⟩,
 ⟨some 6,.move (.tmp 27),none,0⟩] false) (.ret)) (.skip)))) (.seq (.ops [⟨some 28,.loadA 4 (.tmp 2),none,0⟩,
 ⟨some 29,.loadA 5 (.tmp 3),none,0⟩,
 ⟨some 30,.mkmap 97,none,0⟩,
 ⟨some 31,.build [(.slice none 0 0), (.slice none 0 0), (.slice none 0 0), (.slice none 0 0), (.slice none 0 0), (.slice none 0 0), (.slice none 0 0), (.slice none 0 0), (.slice none 0 0), (.map none), (.slice none 0 0), (.slice none 0 0), (.slice none 0 0)] [(0, 4, (.tmp 28)), (4, 5, (.tmp 29)), (9, 1, (.tmp 30))],none,0⟩,
 ⟨some 32,.box (.tmp 31),none,0⟩,
 ⟨some 9,.move (.tmp 32),none,0⟩] false) (.seq (.ops [⟨some 33,.move (.tmp 9),none,0⟩,
 ⟨some 34,.move (.tmp 9),none,0⟩,
 ⟨some 35,.faddr 0 (.tmp 2),none,0⟩,
 ⟨some 36,.load1 (.tmp 35),none,0⟩,
 ⟨some 37,.faddr 0 (.tmp 3),none,0⟩,
 ⟨some 38,.load1 (.tmp 37),none,0⟩,
 ⟨some 39,.call 55 [(.tmp 34), (.tmp 36), (.tmp 38)],none,0⟩,
 ⟨some 40,.nilchk (.tmp 33),none,0⟩,
 ⟨some 41,.faddr 12 (.tmp 40),none,0⟩,
 ⟨none,.store 1 (.tmp 41) (.tmp 39),none,0⟩] false) (.seq (.seq (.ops [⟨some 10,.move (.const (.int .i64 0)),none,0⟩] false) (.block 0 (.loop c18x_1))) (.seq (.ops [⟨some 86,.move (.tmp 9),none,0⟩,
 ⟨some 87,.nilchk (.tmp 86),none,0⟩,
 ⟨some 88,.faddr 11 (.tmp 87),none,0⟩,
 ⟨some 89,.load1 (.tmp 88),none,0⟩,
 ⟨some 90,.call 56 [(.tmp 89)],none,0⟩,
 ⟨some 11,.alloc [(.slice none 0 0)],none,0⟩,
 ⟨none,.store 1 (.tmp 11) (.tmp 90),none,0⟩] false) (.seq (.ops [⟨some 91,.move (.tmp 9),none,0⟩,
 ⟨some 92,.call 57 [(.tmp 91)],none,0⟩,
 ⟨some 12,.move (.tmp 92),none,0⟩] false) (.seq (.ops [⟨some 93,.move (.tmp 9),none,0⟩,
 ⟨some 94,.load1 (.tmp 11),none,0⟩,
 ⟨some 95,.move (.tmp 12),none,0⟩,
 ⟨some 96,.call 58 [(.tmp 93), (.tmp 94), (.tmp 95)],none,0⟩,
 ⟨some 13,.alloc [(.int .i64 0)],none,0⟩,
 ⟨none,.store 1 (.tmp 13) (.tmp 96),none,0⟩] false) (.seq (.seq (.ops [⟨some 97,.load1 (.tmp 13),none,0⟩,
 ⟨some 98,.bin .lss (.tmp 97) (.const (.int .i64 0)),none,0⟩] false) (.cond (.tmp 98) (.seq (.ops [⟨some 99,.build [(.slice none 0 0), (.slice none 0 0)] [],none,0⟩,
 ⟨none,.store 2 (.tmp 4) (.tmp 99),none,0⟩,
 ⟨some 5,.move (.const (.bool false)),none,0⟩,
 ⟨some 6,.move (.const (.int .i64 0)),none,0⟩] false) (.ret)) (.skip))) (.seq (.ops [⟨some 100,.move (.tmp 9),none,0⟩,
 ⟨some 101,.move (.tmp 9),none,0⟩,
 ⟨some 102,.nilchk (.tmp 101),none,2⟩,
 ⟨some 103,.faddr 12 (.tmp 102),none,6⟩,
 ⟨some 104,.load1 (.tmp 103),none,14⟩,
 ⟨some 105,.mkfn (.func 60) [] [(.tmp 11), (.tmp 13)],none,0⟩,
 ⟨some 106,.load1 (.tmp 11),none,0⟩,
 ⟨some 107,.call 59 [(.tmp 100), (.tmp 104), (.tmp 105), (.tmp 106), (.const (.int .i64 (-1)))],none,127⟩,
 ⟨some 14,.move (.tmp 107),none,255⟩] true) (.seq (.ops [⟨some 108,.move (.tmp 9),none,0⟩,
 ⟨some 109,.move (.tmp 14),none,0⟩,
 ⟨some 110,.move (.tmp 14),none,0⟩,
 ⟨some 111,.len (.tmp 110),none,4⟩,
 ⟨some 112,.bin .sub (.tmp 111) (.const (.int .i64 1)),none,12⟩,
 ⟨some 113,.iaddr 1 (.tmp 109) (.tmp 112),none,30⟩,
 ⟨some 114,.load1 (.tmp 113),none,62⟩,
 ⟨some 115,.load1 (.tmp 11),none,0⟩,
 ⟨some 116,.move (.tmp 12),none,0⟩,
 ⟨some 117,.call 61 [(.tmp 108), (.tmp 114), (.tmp 115), (.tmp 116)],none,511⟩,
 ⟨some 15,.move (.tmp 117),none,1023⟩] true) (.seq (.ops [⟨some 118,.move (.tmp 9),none,0⟩,
 ⟨some 119,.move (.tmp 14),none,0⟩,
 ⟨some 120,.move (.tmp 14),none,0⟩,
 ⟨some 121,.len (.tmp 120),none,0⟩,
 ⟨some 122,.bin .sub (.tmp 121) (.const (.int .i64 1)),none,0⟩,
 ⟨some 123,.slc 1 (.tmp 119) none (some (.tmp 122)) none,none,0⟩,
 ⟨some 124,.call 62 [(.tmp 118), (.tmp 123)],none,0⟩,
 ⟨some 125,.move (.tmp 9),none,0⟩,
 ⟨some 126,.move (.tmp 15),none,0⟩,
 ⟨some 127,.call 62 [(.tmp 125), (.tmp 126)],none,0⟩,
 ⟨some 128,.build [(.slice none 0 0), (.slice none 0 0)] [(0, 1, (.tmp 124)), (1, 1, (.tmp 127))],none,0⟩,
 ⟨none,.store 2 (.tmp 4) (.tmp 128),none,0⟩,
 ⟨some 5,.move (.const (.bool true)),none,0⟩,
 ⟨some 6,.move (.const (.int .i64 0)),none,0⟩] false) (.ret)))))))))))))
set_option maxRecDepth 100000 in
theorem c18x_ok : FunOK Try.prog 18 129 [.agg 4 2, .tmp 5, .tmp 6] c18x := ⟨⟨Try.f18, Try.func18, rfl, by kernel_rfl, rfl, by kernel_rfl⟩⟩
def c20x_2 : PC := .seq (.seq (.ops [⟨some 49,.move (.tmp 13),none,0⟩,
 ⟨some 50,.faddr 0 (.tmp 3),none,0⟩,
 ⟨some 51,.load1 (.tmp 50),none,0⟩,
 ⟨some 52,.len (.tmp 51),none,0⟩,
 ⟨some 53,.bin .lss (.tmp 49) (.tmp 52),none,0⟩] false) (.cond (.tmp 53) (.skip) (.exit 2))) (.seq (.block 3 (.seq (.ops [⟨some 56,.move (.tmp 10),none,0⟩,
 ⟨some 57,.faddr 0 (.tmp 2),none,0⟩,
 ⟨some 58,.load1 (.tmp 57),none,2⟩,
 ⟨some 59,.move (.tmp 12),none,0⟩,
 ⟨some 60,.iaddr 1 (.tmp 58) (.tmp 59),none,14⟩,
 ⟨some 61,.load1 (.tmp 60),none,30⟩,
 ⟨some 62,.faddr 0 (.tmp 3),none,0⟩,
 ⟨some 63,.load1 (.tmp 62),none,64⟩,
 ⟨some 64,.move (.tmp 13),none,0⟩,
 ⟨some 65,.iaddr 1 (.tmp 63) (.tmp 64),none,448⟩,
 ⟨some 66,.load1 (.tmp 65),none,960⟩,
 ⟨some 67,.callv (.tmp 56) [(.tmp 61), (.tmp 66)],none,2047⟩] true) (.seq (.ops [⟨some 68,.loadA 5 (.tmp 3),none,0⟩,
 ⟨some 69,.faddr 0 (.tmp 3),none,0⟩,
 ⟨some 70,.load1 (.tmp 69),none,2⟩,
 ⟨some 71,.move (.tmp 13),none,0⟩,
 ⟨some 72,.iaddr 1 (.tmp 70) (.tmp 71),none,14⟩,
 ⟨some 73,.load1 (.tmp 72),none,30⟩,
 ⟨some 74,.faddr 2 (.tmp 2),none,0⟩,
 ⟨some 75,.load1 (.tmp 74),none,64⟩,
 ⟨some 76,.faddr 0 (.tmp 2),none,0⟩,
 ⟨some 77,.load1 (.tmp 76),none,256⟩,
 ⟨some 78,.move (.tmp 12),none,0⟩,
 ⟨some 79,.iaddr 1 (.tmp 77) (.tmp 78),none,1792⟩,
 ⟨some 80,.load1 (.tmp 79),none,3840⟩,
 ⟨some 81,.iaddr 1 (.tmp 75) (.tmp 80),none,8128⟩,
 ⟨some 82,.load1 (.tmp 81),none,16320⟩,
 ⟨some 83,.call 33 [(.tmp 68), (.tmp 73), (.tmp 82)],none,32767⟩] true) (.cond (.tmp 83) (.ops [⟨some 84,.move (.tmp 11),none,0⟩,
 ⟨some 85,.faddr 0 (.tmp 2),none,0⟩,
 ⟨some 86,.load1 (.tmp 85),none,2⟩,
 ⟨some 87,.move (.tmp 12),none,0⟩,
 ⟨some 88,.iaddr 1 (.tmp 86) (.tmp 87),none,14⟩,
 ⟨some 89,.load1 (.tmp 88),none,30⟩,
 ⟨some 90,.load1 (.tmp 6),none,0⟩,
 ⟨some 91,.bin .mul (.tmp 89) (.tmp 90),none,126⟩,
 ⟨some 92,.faddr 0 (.tmp 3),none,0⟩,
 ⟨some 93,.load1 (.tmp 92),none,256⟩,
 ⟨some 94,.move (.tmp 13),none,0⟩,
 ⟨some 95,.iaddr 1 (.tmp 93) (.tmp 94),none,1792⟩,
 ⟨some 96,.load1 (.tmp 95),none,3840⟩,
 ⟨some 97,.bin .add (.tmp 91) (.tmp 96),none,8190⟩,
 ⟨some 98,.bslice 1 1 [(.tmp 97)],none,16382⟩,
 ⟨some 99,.append 1 8 (.tmp 84) (.tmp 98),none,32767⟩,
 ⟨some 11,.move (.tmp 99),none,65535⟩] true) (.skip))))) (.ops [⟨some 54,.move (.tmp 13),none,0⟩,
 ⟨some 55,.bin .add (.tmp 54) (.const (.int .i64 1)),none,0⟩,
 ⟨some 13,.move (.tmp 55),none,0⟩] false))
def c20x_1 : PC := .seq (.seq (.ops [⟨some 42,.move (.tmp 12),none,0⟩,
 ⟨some 43,.faddr 0 (.tmp 2),none,0⟩,
 ⟨some 44,.load1 (.tmp 43),none,0⟩,
 ⟨some 45,.len (.tmp 44),none,0⟩,
 ⟨some 46,.bin .lss (.tmp 42) (.tmp 45),none,0⟩] false) (.cond (.tmp 46) (.skip) (.exit 0))) (.seq (.block 1 (.seq (.ops [⟨some 13,.move (.const (.int .i64 0)),none,0⟩] false) (.block 2 (.loop c20x_2)))) (.ops [⟨some 47,.move (.tmp 12),none,0⟩,
 ⟨some 48,.bin .add (.tmp 47) (.const (.int .i64 1)),none,0⟩,
 ⟨some 12,.move (.tmp 48),none,0⟩] false))
def c20x_5 : PC := .seq (.seq (.ops [⟨some 120,.move (.tmp 16),none,0⟩,
 ⟨some 121,.faddr 1 (.tmp 3),none,0⟩,
 ⟨some 122,.load1 (.tmp 121),none,2⟩,
 ⟨some 123,.move (.tmp 14),none,0⟩,
 ⟨some 124,.load1 (.tmp 6),none,0⟩,
 ⟨some 125,.bin .rem (.tmp 123) (.tmp 124),none,24⟩,
 ⟨some 126,.iaddr 1 (.tmp 122) (.tmp 125),none,62⟩,
 ⟨some 127,.load1 (.tmp 126),none,126⟩,
 ⟨some 128,.len (.tmp 127),none,254⟩,
 ⟨some 129,.bin .lss (.tmp 120) (.tmp 128),none,511⟩] true) (.cond (.tmp 129) (.skip) (.exit 8))) (.seq (.block 9 (.seq (.ops [⟨some 132,.faddr 1 (.tmp 2),none,0⟩,
 ⟨some 133,.load1 (.tmp 132),none,1⟩,
 ⟨some 134,.move (.tmp 14),none,0⟩,
 ⟨some 135,.load1 (.tmp 6),none,0⟩,
 ⟨some 136,.bin .quo (.tmp 134) (.tmp 135),none,12⟩,
 ⟨some 137,.iaddr 1 (.tmp 133) (.tmp 136),none,31⟩,
 ⟨some 138,.load1 (.tmp 137),none,63⟩,
 ⟨some 139,.move (.tmp 15),none,0⟩,
 ⟨some 140,.iaddr 1 (.tmp 138) (.tmp 139),none,255⟩,
 ⟨some 141,.load1 (.tmp 140),none,511⟩,
 ⟨some 142,.faddr 1 (.tmp 3),none,0⟩,
 ⟨some 143,.load1 (.tmp 142),none,1024⟩,
 ⟨some 144,.move (.tmp 14),none,0⟩,
 ⟨some 145,.load1 (.tmp 6),none,0⟩,
 ⟨some 146,.bin .rem (.tmp 144) (.tmp 145),none,12288⟩,
 ⟨some 147,.iaddr 1 (.tmp 143) (.tmp 146),none,31744⟩,
 ⟨some 148,.load1 (.tmp 147),none,64512⟩,
 ⟨some 149,.move (.tmp 16),none,0⟩,
 ⟨some 150,.iaddr 1 (.tmp 148) (.tmp 149),none,261120⟩,
 ⟨some 151,.load1 (.tmp 150),none,523264⟩,
 ⟨some 17,.move (.tmp 141),none,1023⟩,
 ⟨some 18,.move (.tmp 151),none,2097151⟩] true) (.seq (.ops [⟨some 152,.move (.tmp 10),none,0⟩,
 ⟨some 153,.move (.tmp 17),none,0⟩,
 ⟨some 154,.move (.tmp 18),none,0⟩,
 ⟨some 155,.callv (.tmp 152) [(.tmp 153), (.tmp 154)],none,0⟩] false) (.seq (.ops [⟨some 156,.load1 (.tmp 8),none,0⟩,
 ⟨some 157,.move (.tmp 17),none,0⟩,
 ⟨some 158,.load1 (.tmp 6),none,0⟩,
 ⟨some 159,.bin .mul (.tmp 157) (.tmp 158),none,0⟩,
 ⟨some 160,.move (.tmp 18),none,0⟩,
 ⟨some 161,.bin .add (.tmp 159) (.tmp 160),none,0⟩,
 ⟨some 162,.iaddr 1 (.tmp 156) (.tmp 161),none,0⟩,
 ⟨some 163,.load1 (.tmp 162),none,0⟩] false) (.cond (.tmp 163) (.ops [⟨some 164,.move (.tmp 7),none,0⟩,
 ⟨some 165,.move (.tmp 14),none,0⟩,
 ⟨some 166,.move (.tmp 7),none,0⟩,
 ⟨some 167,.move (.tmp 14),none,0⟩,
 ⟨some 168,.iaddr 1 (.tmp 166) (.tmp 167),none,12⟩,
 ⟨some 169,.load1 (.tmp 168),none,28⟩,
 ⟨some 170,.move (.tmp 17),none,0⟩,
 ⟨some 171,.load1 (.tmp 6),none,0⟩,
 ⟨some 172,.bin .mul (.tmp 170) (.tmp 171),none,192⟩,
 ⟨some 173,.move (.tmp 18),none,0⟩,
 ⟨some 174,.bin .add (.tmp 172) (.tmp 173),none,960⟩,
 ⟨some 175,.bslice 1 1 [(.tmp 174)],none,1984⟩,
 ⟨some 176,.append 1 8 (.tmp 169) (.tmp 175),none,4092⟩,
 ⟨some 177,.iaddr 1 (.tmp 164) (.tmp 165),none,8191⟩,
 ⟨none,.store 1 (.tmp 177) (.tmp 176),none,16383⟩] true) (.skip)))))) (.ops [⟨some 130,.move (.tmp 16),none,0⟩,
 ⟨some 131,.bin .add (.tmp 130) (.const (.int .i64 1)),none,0⟩,
 ⟨some 16,.move (.tmp 131),none,0⟩] false))
def c20x_4 : PC := .seq (.seq (.ops [⟨some 108,.move (.tmp 15),none,0⟩,
 ⟨some 109,.faddr 1 (.tmp 2),none,0⟩,
 ⟨some 110,.load1 (.tmp 109),none,2⟩,
 ⟨some 111,.move (.tmp 14),none,0⟩,
 ⟨some 112,.load1 (.tmp 6),none,0⟩,
 ⟨some 113,.bin .quo (.tmp 111) (.tmp 112),none,24⟩,
 ⟨some 114,.iaddr 1 (.tmp 110) (.tmp 113),none,62⟩,
 ⟨some 115,.load1 (.tmp 114),none,126⟩,
 ⟨some 116,.len (.tmp 115),none,254⟩,
 ⟨some 117,.bin .lss (.tmp 108) (.tmp 116),none,511⟩] true) (.cond (.tmp 117) (.skip) (.exit 6))) (.seq (.block 7 (.seq (.ops [⟨some 16,.move (.const (.int .i64 0)),none,0⟩] false) (.block 8 (.loop c20x_5)))) (.ops [⟨some 118,.move (.tmp 15),none,0⟩,
 ⟨some 119,.bin .add (.tmp 118) (.const (.int .i64 1)),none,0⟩,
 ⟨some 15,.move (.tmp 119),none,0⟩] false))
def c20x_3 : PC := .seq (.seq (.ops [⟨some 100,.load1 (.tmp 9),none,0⟩,
 ⟨some 101,.len (.tmp 100),none,0⟩,
 ⟨some 102,.bin .gtr (.tmp 101) (.const (.int .i64 0)),none,0⟩] false) (.cond (.tmp 102) (.skip) (.exit 4))) (.block 5 (.seq (.ops [⟨some 103,.load1 (.tmp 9),none,0⟩,
 ⟨some 104,.iaddr 1 (.tmp 103) (.const (.int .i64 0)),none,0⟩,
 ⟨some 105,.load1 (.tmp 104),none,0⟩,
 ⟨some 14,.move (.tmp 105),none,0⟩] false) (.seq (.ops [⟨some 106,.load1 (.tmp 9),none,0⟩,
 ⟨some 107,.slc 1 (.tmp 106) (some (.const (.int .i64 1))) none none,none,0⟩,
 ⟨none,.store 1 (.tmp 9) (.tmp 107),none,0⟩] false) (.seq (.ops [⟨some 15,.move (.const (.int .i64 0)),none,0⟩] false) (.block 6 (.loop c20x_4))))))
def c20x_6 : PC := .seq (.seq (.ops [⟨some 179,.move (.tmp 21),none,0⟩,
 ⟨some 180,.faddr 3 (.tmp 2),none,0⟩,
 ⟨some 181,.load1 (.tmp 180),none,0⟩,
 ⟨some 182,.len (.tmp 181),none,0⟩,
 ⟨some 183,.bin .lss (.tmp 179) (.tmp 182),none,0⟩] false) (.cond (.tmp 183) (.skip) (.exit 10))) (.seq (.block 11 (.ops [⟨some 186,.move (.tmp 20),none,0⟩,
 ⟨some 187,.faddr 3 (.tmp 2),none,0⟩,
 ⟨some 188,.load1 (.tmp 187),none,2⟩,
 ⟨some 189,.move (.tmp 21),none,0⟩,
 ⟨some 190,.iaddr 1 (.tmp 188) (.tmp 189),none,14⟩,
 ⟨some 191,.load1 (.tmp 190),none,30⟩,
 ⟨some 192,.load1 (.tmp 5),none,0⟩,
 ⟨some 193,.mkfn (.func 65) [] [(.tmp 6)],none,0⟩,
 ⟨some 194,.callv (.tmp 186) [(.tmp 191), (.tmp 192), (.tmp 193)],none,255⟩] true)) (.ops [⟨some 184,.move (.tmp 21),none,0⟩,
 ⟨some 185,.bin .add (.tmp 184) (.const (.int .i64 1)),none,0⟩,
 ⟨some 21,.move (.tmp 185),none,0⟩] false))
def c20x_7 : PC := .seq (.seq (.ops [⟨some 195,.move (.tmp 22),none,0⟩,
 ⟨some 196,.faddr 4 (.tmp 3),none,0⟩,
 ⟨some 197,.load1 (.tmp 196),none,0⟩,
 ⟨some 198,.len (.tmp 197),none,0⟩,
 ⟨some 199,.bin .lss (.tmp 195) (.tmp 198),none,0⟩] false) (.cond (.tmp 199) (.skip) (.exit 12))) (.seq (.block 13 (.ops [⟨some 202,.move (.tmp 20),none,0⟩,
 ⟨some 203,.faddr 4 (.tmp 3),none,0⟩,
 ⟨some 204,.load1 (.tmp 203),none,2⟩,
 ⟨some 205,.move (.tmp 22),none,0⟩,
 ⟨some 206,.iaddr 1 (.tmp 204) (.tmp 205),none,14⟩,
 ⟨some 207,.load1 (.tmp 206),none,30⟩,
 ⟨some 208,.load1 (.tmp 6),none,0⟩,
 ⟨some 209,.mkfn (.func 66) [] [(.tmp 6)],none,0⟩,
 ⟨some 210,.callv (.tmp 202) [(.tmp 207), (.tmp 208), (.tmp 209)],none,255⟩] true)) (.ops [⟨some 200,.move (.tmp 22),none,0⟩,
 ⟨some 201,.bin .add (.tmp 200) (.const (.int .i64 1)),none,0⟩,
 ⟨some 22,.move (.tmp 201),none,0⟩] false))
def c20x_8 : PC := .seq (.seq (.ops [⟨some 214,.move (.tmp 24),none,0⟩,
 ⟨some 215,.move (.tmp 11),none,0⟩,
 ⟨some 216,.len (.tmp 215),none,0⟩,
 ⟨some 217,.bin .lss (.tmp 214) (.tmp 216),none,0⟩] false) (.cond (.tmp 217) (.skip) (.exit 14))) (.seq (.block 15 (.seq (.ops [⟨some 220,.move (.tmp 23),none,0⟩,
 ⟨some 221,.move (.tmp 11),none,0⟩,
 ⟨some 222,.move (.tmp 24),none,0⟩,
 ⟨some 223,.iaddr 1 (.tmp 221) (.tmp 222),none,0⟩,
 ⟨some 224,.load1 (.tmp 223),none,0⟩,
 ⟨some 225,.iaddr 1 (.tmp 220) (.tmp 224),none,0⟩,
 ⟨some 226,.load1 (.tmp 225),none,0⟩] false) (.cond (.tmp 226) (.seq (.ops [⟨some 4,.move (.const (.bool true)),none,0⟩] false) (.ret)) (.skip)))) (.ops [⟨some 218,.move (.tmp 24),none,0⟩,
 ⟨some 219,.bin .add (.tmp 218) (.const (.int .i64 1)),none,0⟩,
 ⟨some 24,.move (.tmp 219),none,0⟩] false))
def c20x : PC := .seq (.ops [⟨some 2,.box (.tmp 0),none,0⟩,
 ⟨some 3,.box (.tmp 1),none,0⟩,
 ⟨some 4,.move (.const (.bool false)),none,0⟩] false) (.seq (.ops [⟨some 25,.faddr 1 (.tmp 2),none,0⟩,
 ⟨some 26,.load1 (.tmp 25),none,1⟩,
 ⟨some 27,.len (.tmp 26),none,3⟩,
 ⟨some 28,.faddr 1 (.tmp 3),none,0⟩,
 ⟨some 29,.load1 (.tmp 28),none,8⟩,
 ⟨some 30,.len (.tmp 29),none,24⟩,
 ⟨some 5,.alloc [(.int .i64 0)],none,0⟩,
 ⟨some 6,.alloc [(.int .i64 0)],none,0⟩,
 ⟨none,.store 1 (.tmp 5) (.tmp 27),none,199⟩,
 ⟨none,.store 1 (.tmp 6) (.tmp 30),none,511⟩] true) (.seq (.seq (.ops [⟨some 31,.load1 (.tmp 6),none,0⟩,
 ⟨some 32,.bin .eql (.tmp 31) (.const (.int .i64 0)),none,0⟩] false) (.cond (.tmp 32) (.seq (.ops [⟨some 4,.move (.const (.bool false)),none,0⟩] false) (.ret)) (.skip))) (.seq (.ops [⟨some 33,.load1 (.tmp 5),none,0⟩,
 ⟨some 34,.load1 (.tmp 6),none,0⟩,
 ⟨some 35,.bin .mul (.tmp 33) (.tmp 34),none,0⟩,
 ⟨some 36,.mslice 1 24 [(.slice none 0 0)] (.tmp 35) (.tmp 35),none,0⟩,
 ⟨some 7,.move (.tmp 36),none,0⟩] false) (.seq (.ops [⟨some 37,.load1 (.tmp 5),none,0⟩,
 ⟨some 38,.load1 (.tmp 6),none,0⟩,
 ⟨some 39,.bin .mul (.tmp 37) (.tmp 38),none,0⟩,
 ⟨some 40,.mslice 1 1 [(.bool false)] (.tmp 39) (.tmp 39),none,0⟩,
 ⟨some 8,.alloc [(.slice none 0 0)],none,0⟩,
 ⟨none,.store 1 (.tmp 8) (.tmp 40),none,0⟩] false) (.seq (.ops [⟨some 9,.alloc [(.slice none 0 0)],none,0⟩] false) (.seq (.ops [⟨some 41,.mkfn (.func 63) [] [(.tmp 3), (.tmp 2), (.tmp 8), (.tmp 6), (.tmp 9)],none,0⟩,
 ⟨some 10,.move (.tmp 41),none,0⟩] false) (.seq (.ops [⟨some 11,.move (.const (.slice none 0 0)),none,0⟩] false) (.seq (.seq (.ops [⟨some 12,.move (.const (.int .i64 0)),none,0⟩] false) (.block 0 (.loop c20x_1))) (.seq (.block 4 (.loop c20x_3)) (.seq (.ops [⟨some 19,.alloc [(.slice none 0 0)],none,0⟩] false) (.seq (.ops [⟨some 178,.mkfn (.func 64) [] [(.tmp 5), (.tmp 6), (.tmp 19)],none,0⟩,
 ⟨some 20,.move (.tmp 178),none,0⟩] false) (.seq (.seq (.ops [⟨some 21,.move (.const (.int .i64 0)),none,0⟩] false) (.block 10 (.loop c20x_6))) (.seq (.seq (.ops [⟨some 22,.move (.const (.int .i64 0)),none,0⟩] false) (.block 12 (.loop c20x_7))) (.seq (.ops [⟨some 211,.move (.tmp 7),none,0⟩,
 ⟨some 212,.load1 (.tmp 19),none,0⟩,
 ⟨some 213,.call 36 [(.tmp 211), (.tmp 212)],none,0⟩,
 ⟨some 23,.move (.tmp 213),none,0⟩] false) (.seq (.seq (.ops [⟨some 24,.move (.const (.int .i64 0)),none,0⟩] false) (.block 14 (.loop c20x_8))) (.seq (.ops [⟨some 4,.move (.const (.bool false)),none,0⟩] false) (.ret)))))))))))))))))
set_option maxRecDepth 100000 in
theorem c20x_ok : FunOK Try.prog 20 227 [.tmp 4] c20x := ⟨⟨Try.f20, Try.func20, rfl, by kernel_rfl, rfl, by kernel_rfl⟩⟩
theorem em_Find_bad (W : WorldD) (A : AutoD) (hW : W.Fits) (h : W.chk ≠ 0) : PCall Try.prog 18 [dworld W, dauto A] (.tup [.agg [dints [], dints []], .sc (.bool false), .sc (.int .i64 W.chk)]) := by
  refine pcall_intro c18x_ok (by simp) (by simp [PureL, pure_dworld, pure_dauto]) ?_ (by simp [Pure, PureL, pure_dints])
  have hC := wo_Check W hW
  generalize W.chk = c at *
  unfold dworld dauto at *
  (apply rd_sound; focus (repeat' constructor))
  ((conv=>whnf);repeat(refine .intro rfl ?_;conv=>whnf))
  (refine .inl ⟨_, hC, ?_⟩; ((conv=>whnf);repeat(refine .intro rfl ?_;conv=>whnf)))
  (refine ifK_split (fun h1 => ?_) (fun h1 => ?_) <;> (rw [h1]; ((conv=>whnf);repeat(refine .intro rfl ?_;conv=>whnf))))
  · exact .tup _ _ (.cons _ _ _ _ (.agg _ _ (.cons _ _ _ _ (.none _) (.cons _ _ _ _ (.none _) .nil))) (.cons _ _ _ _ (.refl _) (.cons _ _ _ _ (.refl _) .nil)))
  · exact absurd (by ((try simp only[oo,reduceCtorEq]at*)<;>omega)) h
theorem em_Find_bad2 (W : WorldD) (A : AutoD) (hW : W.Fits) (hA : A.Fits) (h : W.chk = 0) (h' : A.chk ≠ 0) : PCall Try.prog 18 [dworld W, dauto A] (.tup [.agg [dints [], dints []], .sc (.bool false), .sc (.int .i64 A.chk)]) := by
  refine pcall_intro c18x_ok (by simp) (by simp [PureL, pure_dworld, pure_dauto]) ?_ (by simp [Pure, PureL, pure_dints])
  have hC := wo_Check W hW
  have hC' := au_Check A hA
  rw [h] at hC
  generalize A.chk = c at *
  unfold dworld dauto at *
  (apply rd_sound; focus (repeat' constructor))
  ((conv=>whnf);repeat(refine .intro rfl ?_;conv=>whnf))
  (refine .inl ⟨_, hC, ?_⟩; ((conv=>whnf);repeat(refine .intro rfl ?_;conv=>whnf)))
  (refine .inl ⟨_, hC', ?_⟩; ((conv=>whnf);repeat(refine .intro rfl ?_;conv=>whnf)))
  (refine ifK_split (fun h1 => ?_) (fun h1 => ?_) <;> (rw [h1]; ((conv=>whnf);repeat(refine .intro rfl ?_;conv=>whnf))))
  · exact .tup _ _ (.cons _ _ _ _ (.agg _ _ (.cons _ _ _ _ (.none _) (.cons _ _ _ _ (.none _) .nil))) (.cons _ _ _ _ (.refl _) (.cons _ _ _ _ (.refl _) .nil)))
  · exact absurd (by ((try simp only[oo,reduceCtorEq]at*)<;>omega)) h'
theorem em_There0 (W : WorldD) (A : AutoD) (h : A.next = []) : PCall Try.prog 20 [dworld W, dauto A] (.sc (.bool false)) := by
  refine pcall_intro c20x_ok (by simp) (by simp [PureL, pure_dworld, pure_dauto]) ?_ (by simp [Pure])
  unfold dworld dauto WorldD.cells AutoD.cells
  rw [h]
  (apply rd_sound; focus (repeat' constructor))
  ((conv=>whnf);repeat(refine .intro rfl ?_;conv=>whnf))
  exact .refl _
theorem ans0 {W : WorldD} {A : AutoD} (hb : BigW W A) (h : A.next = []) : ansE W A = false := by
  obtain ⟨_, _, _, _, a5, _, _⟩ := chk_auto A hb.two.ca
  have hs : A.start = [] := by
    cases e : A.start with
    | nil => rfl
    | cons x r =>
      rw [e, h] at a5
      have := inB_mem a5 (x := x) (by simp)
      simp at this
      omega
  have hc : crossE W A W.start A.start = [] := by
    rw [hs]
    unfold crossE rowE
    simp
  have hf : finE W A = ([], []) := by
    unfold finE beginE
    rw [hc]
    simp [eAdd, eRun]
  cases e : ansE W A
  · rfl
  · exfalso
    have hA : ∃ v, v < (finE W A).2.length ∧ Fw (finE W A).2 (setsE W A (finE W A).1) v := by unfold ansE at e; simpa only [decide_eq_true_eq] using e
    obtain ⟨v, hv, _⟩ := hA
    rw [hf] at hv
    simp at hv
theorem findR_is {W : WorldD} {A : AutoD} (hb : BigW W A) : ∃ s l, findR W A (finE W A).1 (finE W A).2 (beginE W A).2 = .tup [.agg [dints s, dints l], .sc (.bool (ansE W A)), .sc (.int .i64 0)] ∧ (ansE W A = false → s = [] ∧ l = []) := by
  obtain ⟨hN, hg⟩ := finE_ok hb
  have hp := pE_iff (F := setsE W A (finE W A).1) hN.inG
  have hA : ansE W A = true ↔ ∃ v, v < (finE W A).2.length ∧ Fw (finE W A).2 (setsE W A (finE W A).1) v := by unfold ansE; simp only [decide_eq_true_eq]
  rw [← hA] at hp
  unfold findR
  by_cases h : pE (finE W A).2 (setsE W A (finE W A).1) < 0
  · rw [if_pos h]
    have : ansE W A = false := by
      cases e : ansE W A
      · rfl
      · exact absurd h (hp.2 e)
    exact ⟨[], [], by rw [this], fun _ => ⟨rfl, rfl⟩⟩
  · rw [if_neg h, hp.1 h]
    exact ⟨_, _, rfl, fun q => by cases q⟩
def c6 : PC := .seq (.ops [⟨some 2,.box (.tmp 0),none,0⟩,
 ⟨some 3,.box (.tmp 1),none,0⟩,
 ⟨some 4,.move (.const (.bool false)),none,0⟩] false) (.seq (.ops [⟨some 10,.loadA 4 (.tmp 2),none,0⟩,
 ⟨some 11,.loadA 5 (.tmp 3),none,0⟩,
 ⟨some 12,.call 18 [(.tmp 10), (.tmp 11)],none,0⟩,
 ⟨some 9,.move (.tmp 12),none,0⟩,
 ⟨some 13,.ext 0 (.tmp 9),none,0⟩,
 ⟨some 14,.ext 1 (.tmp 9),none,0⟩,
 ⟨some 15,.ext 2 (.tmp 9),none,0⟩,
 ⟨some 5,.alloc [(.slice none 0 0), (.slice none 0 0)],none,0⟩,
 ⟨none,.store 2 (.tmp 5) (.tmp 13),none,0⟩,
 ⟨some 6,.move (.tmp 14),none,0⟩,
 ⟨some 7,.move (.tmp 15),none,0⟩] false) (.seq (.ops [⟨some 16,.loadA 4 (.tmp 2),none,0⟩,
 ⟨some 17,.call 19 [(.tmp 16)],none,0⟩,
 ⟨some 8,.move (.tmp 17),none,0⟩] false) (.seq (.seq (.ops [⟨some 18,.move (.tmp 8),none,0⟩,
 ⟨some 19,.bin .eql (.tmp 18) (.const (.int .i64 0)),none,0⟩] false) (.cond (.tmp 19) (.ops [⟨some 20,.loadA 5 (.tmp 3),none,0⟩,
 ⟨some 21,.call 8 [(.tmp 20)],none,0⟩,
 ⟨some 8,.move (.tmp 21),none,0⟩] false) (.skip))) (.seq (.seq (.ops [⟨some 22,.move (.tmp 8),none,0⟩,
 ⟨some 23,.bin .neq (.tmp 22) (.const (.int .i64 0)),none,0⟩] false) (.cond (.tmp 23) (.seq (.ops [⟨some 24,.move (.tmp 7),none,0⟩,
 ⟨some 25,.move (.tmp 8),none,0⟩,
 ⟨some 26,.bin .eql (.tmp 24) (.tmp 25),none,0⟩,
 ⟨some 27,.move (.tmp 26),none,0⟩,
 ⟨some 28,.move (.tmp 6),some (27,true),0⟩,
 ⟨some 29,.un .not (.tmp 28),some (27,true),0⟩,
 ⟨some 30,.pick (.tmp 27) (.tmp 29) (.const (.bool false)),none,0⟩,
 ⟨some 31,.move (.tmp 30),none,0⟩,
 ⟨some 32,.faddr 0 (.tmp 5),some (31,true),0⟩,
 ⟨some 33,.load1 (.tmp 32),some (31,true),0⟩,
 ⟨some 34,.len (.tmp 33),some (31,true),0⟩,
 ⟨some 35,.bin .eql (.tmp 34) (.const (.int .i64 0)),some (31,true),0⟩,
 ⟨some 36,.pick (.tmp 31) (.tmp 35) (.const (.bool false)),none,0⟩,
 ⟨some 37,.move (.tmp 36),none,0⟩,
 ⟨some 38,.faddr 1 (.tmp 5),some (37,true),0⟩,
 ⟨some 39,.load1 (.tmp 38),some (37,true),0⟩,
 ⟨some 40,.len (.tmp 39),some (37,true),0⟩,
 ⟨some 41,.bin .eql (.tmp 40) (.const (.int .i64 0)),some (37,true),0⟩,
 ⟨some 42,.pick (.tmp 37) (.tmp 41) (.const (.bool false)),none,0⟩,
 ⟨some 4,.move (.tmp 42),none,0⟩] false) (.ret)) (.skip))) (.seq (.seq (.ops [⟨some 43,.move (.tmp 7),none,0⟩,
 ⟨some 44,.bin .neq (.tmp 43) (.const (.int .i64 0)),none,0⟩,
 ⟨some 45,.move (.tmp 44),none,0⟩,
 ⟨some 46,.move (.tmp 6),some (45,false),0⟩,
 ⟨some 47,.un .not (.tmp 46),some (45,false),0⟩,
 ⟨some 48,.move (.tmp 47),some (45,false),0⟩,
 ⟨some 49,.faddr 0 (.tmp 5),some (48,true),0⟩,
 ⟨some 50,.load1 (.tmp 49),some (48,true),0⟩,
 ⟨some 51,.len (.tmp 50),some (48,true),0⟩,
 ⟨some 52,.faddr 1 (.tmp 5),some (48,true),0⟩,
 ⟨some 53,.load1 (.tmp 52),some (48,true),0⟩,
 ⟨some 54,.len (.tmp 53),some (48,true),0⟩,
 ⟨some 55,.bin .add (.tmp 51) (.tmp 54),some (48,true),0⟩,
 ⟨some 56,.bin .gtr (.tmp 55) (.const (.int .i64 0)),some (48,true),0⟩,
 ⟨some 57,.pick (.tmp 48) (.tmp 56) (.const (.bool false)),some (45,false),0⟩,
 ⟨some 58,.pick (.tmp 45) (.const (.bool true)) (.tmp 57),none,0⟩] false) (.cond (.tmp 58) (.seq (.ops [⟨some 4,.move (.const (.bool false)),none,0⟩] false) (.ret)) (.skip))) (.seq (.ops [⟨some 59,.faddr 1 (.tmp 2),none,0⟩,
 ⟨some 60,.load1 (.tmp 59),none,0⟩,
 ⟨some 61,.len (.tmp 60),none,0⟩,
 ⟨some 62,.faddr 1 (.tmp 3),none,0⟩,
 ⟨some 63,.load1 (.tmp 62),none,0⟩,
 ⟨some 64,.len (.tmp 63),none,0⟩,
 ⟨some 65,.bin .mul (.tmp 61) (.tmp 64),none,0⟩,
 ⟨some 66,.bin .gtr (.tmp 65) (.const (.int .i64 4000)),none,0⟩,
 ⟨some 67,.move (.tmp 66),none,0⟩,
 ⟨some 68,.move (.tmp 6),some (67,false),0⟩,
 ⟨some 69,.loadA 4 (.tmp 2),some (67,false),0⟩,
 ⟨some 70,.loadA 5 (.tmp 3),some (67,false),0⟩,
 ⟨some 71,.call 20 [(.tmp 69), (.tmp 70)],some (67,false),0⟩,
 ⟨some 72,.eqb false (.tmp 68) (.tmp 71),some (67,false),0⟩,
 ⟨some 73,.pick (.tmp 67) (.const (.bool true)) (.tmp 72),none,0⟩,
 ⟨some 4,.move (.tmp 73),none,0⟩] false) (.ret)))))))
set_option maxRecDepth 100000 in
theorem c6_ok : FunOK Try.prog 6 74 [.tmp 4] c6 := ⟨⟨Try.f6, Try.func6, rfl, by kernel_rfl, rfl, by kernel_rfl⟩⟩
set_option maxRecDepth 100000 in
theorem law_EmptyFinds (W : WorldD) (A : AutoD) (hW : W.Fits) (hA : A.Fits) (hM : Lett A.must) (s1 : W.start.length ≤ 1048576) (s2 : A.start.length ≤ 1048576) (r1 : ∀ l ∈ W.next, l.length ≤ 1048576) (r2 : ∀ l ∈ A.next, l.length ≤ 1048576) :
    PCall Try.prog 6 [dworld W, dauto A] (dbool true) := by
  refine pcall_intro c6_ok (by simp) (by simp [PureL, pure_dworld, pure_dauto]) ?_ (by simp [dbool, Pure])
  have hRW := ref_World W hW
  have hRA := ref_Auto A hA
  by_cases hw : W.chk = 0
  · by_cases ha : A.chk = 0
    · have hb : BigW W A := ⟨⟨hW, hA, hw, ha⟩, s1, s2, r1, r2⟩
      have hF := em_Find hb
      obtain ⟨s, l, e1, e2⟩ := findR_is hb
      rw [e1] at hF
      rw [hw] at hRW
      rw [ha] at hRA
      have h2 := two_le hb.two
      have hT : W.next.length * A.next.length ≤ 4000 → PCall Try.prog 20 [dworld W, dauto A] (.sc (.bool (ansE W A))) := fun h => by
        rcases Nat.eq_zero_or_pos A.next.length with e | e
        · have e := List.eq_nil_of_length_eq_zero e
          rw [ans0 hb e]
          exact em_There0 W A e
        · exact em_There hb h hM e
      have emul : (W.next.length : Int) * (A.next.length : Int) = ((W.next.length * A.next.length : Nat) : Int) := by rw [Int.natCast_mul]
      generalize hN : W.next.length * A.next.length = N at *
      generalize ansE W A = ans at *
      unfold dworld dauto at *
      unfold WorldD.cells AutoD.cells at *
      (apply rd_sound; focus (repeat' constructor))
      ((conv=>whnf);repeat(refine .intro rfl ?_;conv=>whnf))
      (refine .inl ⟨_, hF, ?_⟩; ((conv=>whnf);repeat(refine .intro rfl ?_;conv=>whnf)))
      (refine .inl ⟨_, hRW, ?_⟩; ((conv=>whnf);repeat(refine .intro rfl ?_;conv=>whnf)))
      (refine .inl ⟨_, hRA, ?_⟩; ((conv=>whnf);repeat(refine .intro rfl ?_;conv=>whnf)))
      cases ans
      · obtain ⟨rfl, rfl⟩ := e2 rfl
        ((conv=>whnf);repeat(refine .intro rfl ?_;conv=>whnf))
        rw [List.map_nil, List.length_nil]
        (refine .inl ⟨by (unfold InR; rw [IntKind.wrap_i64]; omega), ?_⟩; ((conv=>whnf);repeat(refine .intro rfl ?_;conv=>whnf)))
        rw [List.length_map, List.length_map, emul]
        (refine .inl ⟨by (unfold InR; rw [IntKind.wrap_i64]; omega), ?_⟩; ((conv=>whnf);repeat(refine .intro rfl ?_;conv=>whnf)))
        (refine ifK_split (fun g => ?_) (fun g => ?_) <;> (rw [g]; ((conv=>whnf);repeat(refine .intro rfl ?_;conv=>whnf))))
        · exact .refl _
        · have g : ¬ ((N : Nat) : Int) > 4000 := of_decide_eq_false g
          (refine .inl ⟨_, (hT (by omega)), ?_⟩; ((conv=>whnf);repeat(refine .intro rfl ?_;conv=>whnf)))
          exact .refl _
      · ((conv=>whnf);repeat(refine .intro rfl ?_;conv=>whnf))
        rw [List.length_map, List.length_map, emul]
        (refine .inl ⟨by (unfold InR; rw [IntKind.wrap_i64]; omega), ?_⟩; ((conv=>whnf);repeat(refine .intro rfl ?_;conv=>whnf)))
        (refine ifK_split (fun g => ?_) (fun g => ?_) <;> (rw [g]; ((conv=>whnf);repeat(refine .intro rfl ?_;conv=>whnf))))
        · exact .refl _
        · have g : ¬ ((N : Nat) : Int) > 4000 := of_decide_eq_false g
          (refine .inl ⟨_, (hT (by omega)), ?_⟩; ((conv=>whnf);repeat(refine .intro rfl ?_;conv=>whnf)))
          exact .refl _
    · have hF := em_Find_bad2 W A hW hA hw ha
      rw [hw] at hRW
      generalize A.chk = c at *
      unfold dworld dauto at *
      (apply rd_sound; focus (repeat' constructor))
      ((conv=>whnf);repeat(refine .intro rfl ?_;conv=>whnf))
      (refine .inl ⟨_, hF, ?_⟩; ((conv=>whnf);repeat(refine .intro rfl ?_;conv=>whnf)))
      (refine .inl ⟨_, hRW, ?_⟩; ((conv=>whnf);repeat(refine .intro rfl ?_;conv=>whnf)))
      (refine .inl ⟨_, hRA, ?_⟩; ((conv=>whnf);repeat(refine .intro rfl ?_;conv=>whnf)))
      (refine ifK_split (fun g => ?_) (fun g => ?_) <;> (rw [g]; ((conv=>whnf);repeat(refine .intro rfl ?_;conv=>whnf))))
      · rw [show (c == c) = true by simp]
        ((conv=>whnf);repeat(refine .intro rfl ?_;conv=>whnf))
        exact .refl _
      · exfalso; ((try simp only[oo,reduceCtorEq]at*)<;>omega)
  · have hF := em_Find_bad W A hW hw
    generalize W.chk = c at *
    unfold dworld dauto at *
    (apply rd_sound; focus (repeat' constructor))
    ((conv=>whnf);repeat(refine .intro rfl ?_;conv=>whnf))
    (refine .inl ⟨_, hF, ?_⟩; ((conv=>whnf);repeat(refine .intro rfl ?_;conv=>whnf)))
    (refine .inl ⟨_, hRW, ?_⟩; ((conv=>whnf);repeat(refine .intro rfl ?_;conv=>whnf)))
    (refine ifK_split (fun g => ?_) (fun g => ?_) <;> (rw [g]; ((conv=>whnf);repeat(refine .intro rfl ?_;conv=>whnf))))
    · exfalso; ((try simp only[oo,reduceCtorEq]at*)<;>omega)
    (refine ifK_split (fun g2 => ?_) (fun g2 => ?_) <;> (rw [g2]; ((conv=>whnf);repeat(refine .intro rfl ?_;conv=>whnf))))
    · rw [show (c == c) = true by simp]
      ((conv=>whnf);repeat(refine .intro rfl ?_;conv=>whnf))
      exact .refl _
    · exfalso; ((try simp only[oo,reduceCtorEq]at*)<;>omega)
namespace emptyFinds
set_option maxRecDepth 100000 in
theorem law : ∀ Ds, OfAsz Try.prog 1048576 [41, 26] Ds → PCall Try.prog 6 Ds (dbool true)
  | [d, e], h => by
    have h1 := h.1
    have h2 := h.2.1
    unfold OfAz at h1 h2
    rw [Try.underlying41] at h1
    rw [Try.underlying26] at h2
    obtain ⟨cs, rfl, h1⟩ := h1
    obtain ⟨ds, rfl, h2⟩ := h2
    have k1 := of_struct Try.underlying41 h1
    have k2 := of_struct Try.underlying26 h2
    simp only [List.map_cons, List.map_nil] at k1 k2
    obtain ⟨start', r, rfl, d1, _, k1⟩ := fListL (L := 1048575) Try.underlying22 Try.underlying3 (by kernel_rfl) k1
    obtain ⟨next', r, rfl, d2, k1⟩ := fGridL (L := 1048575) Try.underlying23 Try.underlying22 Try.underlying3 (by kernel_rfl) (by kernel_rfl) k1
    obtain ⟨label, r, rfl, d3, _, k1⟩ := fListL (L := 1048575) Try.underlying24 Try.underlying62 (by kernel_rfl) k1
    obtain ⟨fair', r, rfl, d4, k1⟩ := fGridL (L := 1048575) Try.underlying23 Try.underlying22 Try.underlying3 (by kernel_rfl) (by kernel_rfl) k1
    obtain rfl := ofTs_nil k1
    obtain ⟨start, r, rfl, b1, _, k2⟩ := fListL (L := 1048575) Try.underlying22 Try.underlying3 (by kernel_rfl) k2
    obtain ⟨next, r, rfl, b2, k2⟩ := fGridL (L := 1048575) Try.underlying23 Try.underlying22 Try.underlying3 (by kernel_rfl) (by kernel_rfl) k2
    obtain ⟨must, r, rfl, b3, c3, k2⟩ := fListL (L := 1048575) Try.underlying24 Try.underlying62 (by kernel_rfl) k2
    obtain ⟨nots, r, rfl, b4, _, k2⟩ := fListL (L := 1048575) Try.underlying24 Try.underlying62 (by kernel_rfl) k2
    obtain ⟨fair, r, rfl, b5, k2⟩ := fGridL (L := 1048575) Try.underlying23 Try.underlying22 Try.underlying3 (by kernel_rfl) (by kernel_rfl) k2
    obtain rfl := ofTs_nil k2
    exact law_EmptyFinds ⟨start', next', label, fair'⟩ ⟨start, next, must, nots, fair⟩
      ⟨by show start'.length ≤ _; omega, by show next'.length ≤ _; omega, by show label.length ≤ _; omega, by show fair'.length ≤ _; omega, fun l hl => by have := d2.2 l hl; omega, fun l hl => by have := d4.2 l hl; omega⟩
      ⟨by show start.length ≤ _; omega, by show next.length ≤ _; omega, by show must.length ≤ _; omega, by show nots.length ≤ _; omega, by show fair.length ≤ _; omega, fun l hl => by have := b2.2 l hl; omega, fun l hl => by have := b5.2 l hl; omega⟩ (fun x hx => by have := c3 x hx; rw [show IntKind.u64.min = 0 from rfl, show IntKind.u64.max = 18446744073709551615 from rfl] at this; omega) d1 b1 d2.2 b2.2
theorem types : typesOK Try.prog [41, 26, 22, 23, 24, 3, 62] = true := by kernel_rfl
set_option maxRecDepth 100000 in
theorem laidOut : laidOutB Try.prog = true := by kernel_rfl
set_option maxRecDepth 100000 in
theorem readable : (Try.f6.params.toList.all fun t => Try.prog.readableRec t && decide (t < Try.prog.types.size)) = true := by kernel_rfl
theorem own : ownKnob Try.prog.godebug = none := by kernel_rfl
theorem one_le {H : Type} (d : DataW H) : 1 ≤ Rows.uptoBulk d := by
  cases d with
  | lit l => cases l <;> simp [Rows.uptoBulk]
  | _ => simp [Rows.uptoBulk]
theorem length_le {H : Type} (l : List (DataW H)) : l.length ≤ Rows.uptoBulkAll l := by
  induction l with
  | nil => simp [Rows.uptoBulkAll]
  | cons x r ih => have := one_le x; simp only [Rows.uptoBulkAll, List.length_cons]; omega
mutual
theorem lens_of {H : Type} {L : Nat} : ∀ d : DataW H, Rows.uptoBulk d ≤ L → lens L d
  | .lit (.string b), h => by simp only [Rows.uptoBulk] at h; simp only [lens]; omega
  | .lit (.bool _), _ | .lit (.int _ _), _ | .lit (.float _ _), _ | .lit .nil, _ => by simp only [lens]
  | .nil, _ | .ptr _, _ | .iface _ _, _ | .map _, _ | .held _, _ => by simp only [lens]
  | .slice elems spare, h => by
    simp only [Rows.uptoBulk] at h
    simp only [lens]
    have := length_le elems
    exact ⟨by omega, lensAll_of elems (by omega)⟩
  | .agg parts, h => by
    simp only [Rows.uptoBulk] at h
    simp only [lens]
    exact lensAll_of parts (by omega)
theorem lensAll_of {H : Type} {L : Nat} : ∀ l : List (DataW H), Rows.uptoBulkAll l ≤ L → lensAll L l
  | [], _ => by simp only [lensAll]
  | d :: r, h => by
    simp only [Rows.uptoBulkAll] at h
    simp only [lensAll]
    exact ⟨lens_of d (by omega), lensAll_of r (by omega)⟩
end
theorem bulk_app {H : Type} : ∀ l r : List (DataW H), Rows.uptoBulkAll (l ++ r) = Rows.uptoBulkAll l + Rows.uptoBulkAll r
  | [], r => by simp [Rows.uptoBulkAll]
  | d :: l, r => by simp only [List.cons_append, Rows.uptoBulkAll, bulk_app l r]; omega
set_option maxRecDepth 100000 in
theorem lifted (os : Os) (started : os.Started) (H : Type) (enc : TypeId × Value → H) (F : Stop.Interp) :
    ReturnsInHanded {} Try.checked os 6 .any ((Rows.OpenSpec.upto Rows.emptyFindsSpec).pre6 enc Try.prog Try.f6 Rows.emptyFindsUptoRow.domain false) (((Rows.OpenSpec.upto Rows.emptyFindsSpec).at F).post enc Try.prog Try.f6 false true false false) := by
  refine returnsInHanded_of_cond_sized (C := Try.checked) (s := Rows.OpenSpec.upto Rows.emptyFindsSpec) (k := Rows.uptoSmall) rfl own started (by kernel_rfl) Try.func6
    (OpenSpec.witness (enc := enc) (C := Try.checked) (s := Rows.OpenSpec.upto Rows.emptyFindsSpec) (k := Rows.uptoSmall) rfl false ⟨#[], #[.agg #[.slice none 0 0, .slice none 0 0, .slice none 0 0, .slice none 0 0], .agg #[.slice none 0 0, .slice none 0 0, .slice none 0 0, .slice none 0 0, .slice none 0 0]], []⟩ 8 (by kernel_rfl) (by kernel_rfl) (by kernel_rfl)
      (x := ([.agg [.nil, .nil, .nil, .nil], .agg [.nil, .nil, .nil, .nil, .nil]], [], [])) (by kernel_rfl) rfl (by kernel_rfl)) ?_
  intro W base args ds gs before hval0 hW _ hk hsz _
  have hval : ∀ (j : Nat) t v, Try.f6.params[j]? = some t → args[j]? = some v → Value.okWide Try.prog W .any base t v := hval0
  have hW' := hW
  obtain ⟨p, q, hA0, hV, _, hfz, hnd⟩ := hW
  have hA : DataW.TrodAll enc Try.prog W 0 (fun _ => true) true Try.f6.params.toList args.toList ds p := hA0
  have hps : Try.f6.params.toList = [41, 26] := by kernel_rfl
  have hb : Rows.uptoBulkAll (ds ++ gs) ≤ 1048576 := of_decide_eq_true hk
  rw [bulk_app] at hb
  obtain ⟨Ds, hD, hR⟩ := args_repL (L := 1048576) types (base := base) _ _ _ _ (fun t ht => by rw [hps] at ht; revert t; decide) (fun j t v h1 h2 => hval j t v (by simpa using h1) (by simpa using h2)) hA (fun n hn => by
    have := List.all_eq_true.1 hsz n (weightsEach_pre _ _ _ _ (trodAll_len _ _ _ _ hA).symm n hn)
    simpa using this) (.inr (lensAll_of ds (by omega)))
  rw [hps] at hD
  have hC := (law Ds hD).run noInj (There W) W args.toList ⟨fun b h => h, fun g cs hg => absurd hg (by simp [theGlobs])⟩ hR
  rw [show args.toList.toArray = args from rfl] at hC
  refine hC.mono fun e W' ⟨v, F', he, _, hv, hx⟩ => ?_
  have hv' : v = .bool true := by simpa only [rep, dbool] using hv
  subst he hv'
  exact ⟨_, rfl, row_post hW' rfl (by kernel_rfl) Try.underlying4 laidOut (fun t ht => by
      have := List.all_eq_true.1 readable t ht
      simp only [Bool.and_eq_true, decide_eq_true_eq] at this
      exact this) (fun ds h => by rw [hps] at h; match ds, h with | [_, _], _ => rfl) (below_of_ext hx) (ok_one (by kernel_rfl) rfl (okWide_bool_mk Try.underlying4 _))⟩

theorem proved : Rows.EmptyFindsUptoSaid :=
  OpenClaim.holds_of_cond 6 Try.f6 rfl rfl rfl rfl rfl rfl rfl ⟨rfl, rfl, rfl, rfl, rfl⟩ rfl rfl rfl rfl rfl (by kernel_rfl) Try.func6 (by kernel_rfl)
    (of_decide_eq_true (by kernel_rfl)) (by unfold Func.isWrapper; first | (rw [if_pos (by decide +kernel)]; kernel_rfl) | (rw [if_neg (by decide +kernel)]; exact ⟨rfl, rfl⟩))
    (fun os started H enc _ F => lifted os started H enc F)
end emptyFinds
end Go.Proofs.Ytfaekhadjlgbbaa
