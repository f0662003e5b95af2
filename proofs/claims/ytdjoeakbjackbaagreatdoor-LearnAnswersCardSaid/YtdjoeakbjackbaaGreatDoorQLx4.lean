/- Our texts for this statement, merged: what its theorem leads to. -/
import Derived.Test.YtdjoeakbjackbaaGreatDoorQLx3
set_option linter.unusedVariables false
set_option linter.unusedSimpArgs false
noncomputable section
namespace Go.Ab.Tryz
open Go Go.Proofs
set_option maxRecDepth 100000
set_option maxHeartbeats 4000000
def p3:Lit (zae Tryz.prog .lit [1000200] 3):=⟨_,by cbv⟩
def g3F:Fn:=lit (fnF p3.v [])
def g3:Fn:=g3F
theorem cmp3:zae Tryz.prog .lit [1000200] 3=some g3:=p3.h.trans (by kernel_rfl)
def zK9:Cd:=(.seq (.seq (.region [⟨some 55,.mov (.t 11),none,0,[]⟩,
  ⟨some 56,.fad (.t 3) 5,none,0,[]⟩,
  ⟨some 57,.load false 1 (.t 56),none,0,[]⟩,
  ⟨some 58,.len false (.t 57),none,0,[]⟩,
  ⟨some 59,.bin .lss .num (.t 55) (.t 58),none,0,[]⟩]) (.cond (.t 59) .skip (.exit 2 [10,9,4,7,3]))) (.seq (.block 3 (.region [⟨some 62,.mov (.t 10),none,0,[]⟩,
  ⟨some 63,.mov (.t 62),none,0,[]⟩,
  ⟨some 64,.fad (.t 3) 5,some (63,false),0,[]⟩,
  ⟨some 65,.load false 1 (.t 64),some (63,false),0,[]⟩,
  ⟨some 66,.mov (.t 11),some (63,false),0,[]⟩,
  ⟨some 67,.iadS 55 (.t 65) (.t 66),some (63,false),0,[]⟩,
  ⟨some 68,.fad (.t 67) 0,some (63,false),0,[]⟩,
  ⟨some 69,.load true 2 (.t 68),some (63,false),0,[]⟩,
  ⟨some 70,.fad (.t 7) 5,some (63,false),0,[]⟩,
  ⟨some 71,.load false 1 (.t 70),some (63,false),0,[]⟩,
  ⟨some 72,.mov (.t 9),some (63,false),0,[]⟩,
  ⟨some 73,.iadS 55 (.t 71) (.t 72),some (63,false),0,[]⟩,
  ⟨some 74,.fad (.t 73) 0,some (63,false),0,[]⟩,
  ⟨some 75,.load true 2 (.t 74),some (63,false),0,[]⟩,
  ⟨some 76,.eqs false [.num,.num] (.t 69) (.t 75),some (63,false),0,[]⟩,
  ⟨some 77,.pick (.t 63) (.c (.sc (.bool true))) (.t 76),none,0,[]⟩,
  ⟨some 10,.mov (.t 77),none,0,[]⟩])) (.region [⟨some 60,.mov (.t 11),none,0,[]⟩,
  ⟨some 61,.bin .add .num (.t 60) (.c (.sc (.int .i64 1))),none,0,[]⟩,
  ⟨some 11,.mov (.t 61),none,0,[]⟩])))
def b5_0:Cd:=zK9
def zLa:Cd:=(.seq (.seq (.region [⟨some 78,.mov (.t 12),none,0,[]⟩,
  ⟨some 79,.fad (.t 3) 9,none,0,[]⟩,
  ⟨some 80,.load false 1 (.t 79),none,0,[]⟩,
  ⟨some 81,.len false (.t 80),none,0,[]⟩,
  ⟨some 82,.bin .lss .num (.t 78) (.t 81),none,0,[]⟩]) (.cond (.t 82) .skip (.exit 4 [10,9,4,7,3]))) (.seq (.block 5 (.region [⟨some 85,.mov (.t 10),none,0,[]⟩,
  ⟨some 86,.mov (.t 85),none,0,[]⟩,
  ⟨some 87,.fad (.t 3) 9,some (86,false),0,[]⟩,
  ⟨some 88,.load false 1 (.t 87),some (86,false),0,[]⟩,
  ⟨some 89,.mov (.t 12),some (86,false),0,[]⟩,
  ⟨some 90,.iadS 57 (.t 88) (.t 89),some (86,false),0,[]⟩,
  ⟨some 91,.fad (.t 90) 1,some (86,false),0,[]⟩,
  ⟨some 92,.load false 1 (.t 91),some (86,false),0,[]⟩,
  ⟨some 93,.bin .eql .num (.t 92) (.c (.sc (.int .i64 1))),some (86,false),0,[]⟩,
  ⟨some 94,.mov (.t 93),some (86,false),0,[]⟩,
  ⟨some 95,.fad (.t 3) 9,some (94,true),0,[]⟩,
  ⟨some 96,.load false 1 (.t 95),some (94,true),0,[]⟩,
  ⟨some 97,.mov (.t 12),some (94,true),0,[]⟩,
  ⟨some 98,.iadS 57 (.t 96) (.t 97),some (94,true),0,[]⟩,
  ⟨some 99,.fad (.t 98) 8,some (94,true),0,[]⟩,
  ⟨some 100,.load true 2 (.t 99),some (94,true),0,[]⟩,
  ⟨some 101,.fad (.t 7) 5,some (94,true),0,[]⟩,
  ⟨some 102,.load false 1 (.t 101),some (94,true),0,[]⟩,
  ⟨some 103,.mov (.t 9),some (94,true),0,[]⟩,
  ⟨some 104,.iadS 55 (.t 102) (.t 103),some (94,true),0,[]⟩,
  ⟨some 105,.fad (.t 104) 0,some (94,true),0,[]⟩,
  ⟨some 106,.load true 2 (.t 105),some (94,true),0,[]⟩,
  ⟨some 107,.eqs false [.num,.num] (.t 100) (.t 106),some (94,true),0,[]⟩,
  ⟨some 108,.pick (.t 94) (.t 107) (.c (.sc (.bool false))),some (86,false),0,[]⟩,
  ⟨some 109,.pick (.t 86) (.c (.sc (.bool true))) (.t 108),none,0,[]⟩,
  ⟨some 10,.mov (.t 109),none,0,[]⟩])) (.region [⟨some 83,.mov (.t 12),none,0,[]⟩,
  ⟨some 84,.bin .add .num (.t 83) (.c (.sc (.int .i64 1))),none,0,[]⟩,
  ⟨some 12,.mov (.t 84),none,0,[]⟩])))
def b5_1:Cd:=zLa
def zLb(c0:Cd)(c1:Cd):Cd:=(.seq (.seq (.region [⟨some 39,.mov (.t 9),none,0,[]⟩,
  ⟨some 40,.fad (.t 7) 5,none,0,[]⟩,
  ⟨some 41,.load false 1 (.t 40),none,0,[]⟩,
  ⟨some 42,.len false (.t 41),none,0,[]⟩,
  ⟨some 43,.bin .lss .num (.t 39) (.t 42),none,0,[]⟩]) (.cond (.t 43) .skip (.exit 0 [4,7,3]))) (.seq (.block 1 (.seq (.region [⟨some 46,.fad (.t 7) 5,none,0,[]⟩,
  ⟨some 47,.load false 1 (.t 46),none,0,[]⟩,
  ⟨some 48,.mov (.t 9),none,0,[]⟩,
  ⟨some 49,.iadS 55 (.t 47) (.t 48),none,0,[]⟩,
  ⟨some 50,.fad (.t 49) 0,none,0,[]⟩,
  ⟨some 51,.load true 2 (.t 50),none,0,[]⟩,
  ⟨some 52,.fad (.t 4) 4,none,0,[]⟩,
  ⟨some 53,.load true 2 (.t 52),none,0,[]⟩,
  ⟨some 54,.eqs false [.num,.num] (.t 51) (.t 53),none,0,[]⟩,
  ⟨some 10,.mov (.t 54),none,0,[]⟩]) (.seq (.seq (.region [⟨some 11,.mov (.c (.sc (.int .i64 0))),none,0,[]⟩]) (.block 2 (.loop [11,10,9,4,7,3] c0))) (.seq (.seq (.region [⟨some 12,.mov (.c (.sc (.int .i64 0))),none,0,[]⟩]) (.block 4 (.loop [12,10,9,4,7,3] c1))) (.seq (.region [⟨some 110,.mov (.t 10),none,0,[]⟩,
  ⟨some 111,.un .not (.t 110),none,0,[]⟩]) (.cond (.t 111) (.seq (.region [⟨some 6,.mov (.c (.sc (.bool false))),none,0,[]⟩]) (.ret [6])) .skip)))))) (.region [⟨some 44,.mov (.t 9),none,0,[]⟩,
  ⟨some 45,.bin .add .num (.t 44) (.c (.sc (.int .i64 1))),none,0,[]⟩,
  ⟨some 9,.mov (.t 45),none,0,[]⟩])))
def b5_2:Cd:=zLb b5_0 b5_1
def zLc:Cd:=(.seq (.region [⟨some 166,.fad (.t 7) 4,none,0,[]⟩,
  ⟨some 167,.load false 1 (.t 166),none,0,[]⟩,
  ⟨some 168,.len false (.t 167),none,0,[]⟩,
  ⟨some 169,.fad (.t 3) 4,none,0,[]⟩,
  ⟨some 170,.load false 1 (.t 169),none,0,[]⟩,
  ⟨some 171,.len false (.t 170),none,0,[]⟩,
  ⟨some 172,.bin .eql .num (.t 168) (.t 171),none,0,[]⟩,
  ⟨some 173,.mov (.t 172),none,0,[]⟩,
  ⟨some 174,.fad (.t 13) 4,some (173,true),0,[]⟩,
  ⟨some 175,.load false 1 (.t 174),some (173,true),0,[]⟩,
  ⟨some 176,.len false (.t 175),some (173,true),0,[]⟩,
  ⟨some 177,.fad (.t 3) 4,some (173,true),0,[]⟩,
  ⟨some 178,.load false 1 (.t 177),some (173,true),0,[]⟩,
  ⟨some 179,.len false (.t 178),some (173,true),0,[]⟩,
  ⟨some 180,.bin .leq .num (.t 176) (.t 179),some (173,true),0,[]⟩,
  ⟨some 181,.pick (.t 173) (.t 180) (.c (.sc (.bool false))),none,0,[]⟩,
  ⟨some 182,.mov (.t 181),none,0,[]⟩,
  ⟨some 183,.call 14 [] [],some (182,true),0,[]⟩,
  ⟨some 184,.pick (.t 182) (.t 183) (.c (.sc (.bool false))),none,0,[]⟩,
  ⟨some 6,.mov (.t 184),none,0,[]⟩]) (.ret [6]))
def b5_3:Cd:=zLc
def zLd(c2:Cd)(c3:Cd):Cd:=(.seq (.region [⟨some 33,.load true 14 (.t 3),none,0,[]⟩,
  ⟨some 34,.load true 7 (.t 4),none,0,[]⟩,
  ⟨some 35,.load true 11 (.t 5),none,0,[]⟩,
  ⟨some 36,.call 16 [.a [.s,.s,.s,.s,.l 55,.l 55,.l 82,.l 76,.l 36,.l 57,.l 74,.s,.s,.s],.a [.s,.s,.s,.s,.s,.s,.s],.a [.s,.s,.s,.s,.s,.s,.s,.s,.s,.l 25,.l 76]] [.t 33,.t 34,.t 35],none,0,[]⟩,
  ⟨some 32,.mov (.t 36),none,0,[]⟩,
  ⟨some 37,.ext (.t 32) 0,none,0,[]⟩,
  ⟨some 38,.ext (.t 32) 1,none,0,[]⟩,
  ⟨some 7,.box 34 14 (.c (.agg [.sc (.int .u64 0),.sc (.int .u16 0),.sc (.int .i64 0),.sc (.bool false),.lit 0 true [],.lit 0 true [],.lit 0 true [],.lit 0 true [],.lit 0 true [],.lit 0 true [],.lit 0 true [],.sc (.int .u32 0),.sc (.int .i64 0),.sc (.int .i64 0)])),none,0,[]⟩,
  ⟨none,.store 14 (.t 7) (.t 37),none,0,[]⟩,
  ⟨some 8,.mov (.t 38),none,0,[]⟩]) (.seq (.seq (.region [⟨some 9,.mov (.c (.sc (.int .i64 0))),none,0,[]⟩]) (.block 0 (.loop [9,4,7,3] c2))) (.seq (.region [⟨some 113,.load true 14 (.t 3),none,0,[]⟩,
  ⟨some 114,.load true 7 (.t 4),none,0,[]⟩,
  ⟨some 115,.call 20 [.a [.s,.s,.s,.s,.l 55,.l 55,.l 82,.l 76,.l 36,.l 57,.l 74,.s,.s,.s],.a [.s,.s,.s,.s,.s,.s,.s]] [.t 113,.t 114],none,0,[]⟩,
  ⟨some 112,.mov (.t 115),none,0,[]⟩,
  ⟨some 116,.ext (.t 112) 0,none,0,[]⟩,
  ⟨some 117,.ext (.t 112) 1,none,0,[]⟩,
  ⟨some 13,.box 34 14 (.c (.agg [.sc (.int .u64 0),.sc (.int .u16 0),.sc (.int .i64 0),.sc (.bool false),.lit 0 true [],.lit 0 true [],.lit 0 true [],.lit 0 true [],.lit 0 true [],.lit 0 true [],.lit 0 true [],.sc (.int .u32 0),.sc (.int .i64 0),.sc (.int .i64 0)])),none,0,[]⟩,
  ⟨none,.store 14 (.t 13) (.t 116),none,0,[]⟩,
  ⟨some 14,.mov (.t 117),none,0,[]⟩]) (.seq (.region [⟨some 118,.fad (.t 13) 5,none,0,[]⟩,
  ⟨some 119,.load false 1 (.t 118),none,0,[]⟩,
  ⟨some 120,.fad (.t 4) 4,none,0,[]⟩,
  ⟨some 121,.fad (.t 120) 1,none,0,[]⟩,
  ⟨some 122,.load false 1 (.t 121),none,0,[]⟩,
  ⟨some 123,.call 25 [.l 55,.s] [.t 119,.t 122],none,1,[]⟩,
  ⟨some 124,.fad (.t 3) 5,none,2,[]⟩,
  ⟨some 125,.load false 1 (.t 124),none,2,[]⟩,
  ⟨some 126,.fad (.t 4) 4,none,2,[]⟩,
  ⟨some 127,.fad (.t 126) 1,none,2,[]⟩,
  ⟨some 128,.load false 1 (.t 127),none,2,[]⟩,
  ⟨some 129,.call 25 [.l 55,.s] [.t 125,.t 128],none,0,[]⟩,
  ⟨some 15,.mov (.t 123),none,0,[]⟩,
  ⟨some 16,.mov (.t 129),none,0,[]⟩]) (.seq (.seq (.region [⟨some 130,.mov (.t 15),none,0,[]⟩,
  ⟨some 131,.bin .geq .num (.t 130) (.c (.sc (.int .i64 0))),none,0,[]⟩,
  ⟨some 132,.mov (.t 131),none,0,[]⟩,
  ⟨some 133,.mov (.t 16),some (132,true),0,[]⟩,
  ⟨some 134,.bin .lss .num (.t 133) (.c (.sc (.int .i64 0))),some (132,true),0,[]⟩,
  ⟨some 135,.mov (.t 134),some (132,true),0,[]⟩,
  ⟨some 136,.fad (.t 13) 5,some (135,false),0,[]⟩,
  ⟨some 137,.load false 1 (.t 136),some (135,false),0,[]⟩,
  ⟨some 138,.mov (.t 15),some (135,false),0,[]⟩,
  ⟨some 139,.iadS 55 (.t 137) (.t 138),some (135,false),0,[]⟩,
  ⟨some 140,.fad (.t 139) 2,some (135,false),0,[]⟩,
  ⟨some 141,.load false 1 (.t 140),some (135,false),0,[]⟩,
  ⟨some 142,.fad (.t 3) 5,some (135,false),0,[]⟩,
  ⟨some 143,.load false 1 (.t 142),some (135,false),0,[]⟩,
  ⟨some 144,.mov (.t 16),some (135,false),0,[]⟩,
  ⟨some 145,.iadS 55 (.t 143) (.t 144),some (135,false),0,[]⟩,
  ⟨some 146,.fad (.t 145) 2,some (135,false),0,[]⟩,
  ⟨some 147,.load false 1 (.t 146),some (135,false),0,[]⟩,
  ⟨some 148,.bin .leq .num (.t 141) (.t 147),some (135,false),0,[]⟩,
  ⟨some 149,.mov (.t 148),some (135,false),0,[]⟩,
  ⟨some 150,.fad (.t 13) 5,some (149,true),0,[]⟩,
  ⟨some 151,.load false 1 (.t 150),some (149,true),0,[]⟩,
  ⟨some 152,.mov (.t 15),some (149,true),0,[]⟩,
  ⟨some 153,.iadS 55 (.t 151) (.t 152),some (149,true),0,[]⟩,
  ⟨some 154,.fad (.t 153) 0,some (149,true),0,[]⟩,
  ⟨some 155,.load true 2 (.t 154),some (149,true),0,[]⟩,
  ⟨some 156,.fad (.t 3) 5,some (149,true),0,[]⟩,
  ⟨some 157,.load false 1 (.t 156),some (149,true),0,[]⟩,
  ⟨some 158,.mov (.t 16),some (149,true),0,[]⟩,
  ⟨some 159,.iadS 55 (.t 157) (.t 158),some (149,true),0,[]⟩,
  ⟨some 160,.fad (.t 159) 0,some (149,true),0,[]⟩,
  ⟨some 161,.load true 2 (.t 160),some (149,true),0,[]⟩,
  ⟨some 162,.eqs false [.num,.num] (.t 155) (.t 161),some (149,true),0,[]⟩,
  ⟨some 163,.pick (.t 149) (.t 162) (.c (.sc (.bool false))),some (135,false),0,[]⟩,
  ⟨some 164,.pick (.t 135) (.c (.sc (.bool true))) (.t 163),some (132,true),0,[]⟩,
  ⟨some 165,.pick (.t 132) (.t 164) (.c (.sc (.bool false))),none,0,[]⟩]) (.cond (.t 165) (.seq (.region [⟨some 6,.mov (.c (.sc (.bool false))),none,0,[]⟩]) (.ret [6])) .skip)) (.seg [7,13,3] [6] c3))))))
def b5_4:Cd:=zLd b5_2 b5_3
def g5F(c4:Cd):Fn:=⟨185,[.t 6],[.s],.lit,
 (.seq (.region [⟨some 3,.box 34 14 (.t 0),none,0,[]⟩,
  ⟨some 4,.box 36 7 (.t 1),none,0,[]⟩,
  ⟨some 5,.box 39 11 (.t 2),none,0,[]⟩,
  ⟨some 6,.mov (.c (.sc (.bool false))),none,0,[]⟩]) (.seq (.seq (.region [⟨some 17,.load true 14 (.t 3),none,0,[]⟩,
  ⟨some 18,.call 12 [.a [.s,.s,.s,.s,.l 55,.l 55,.l 82,.l 76,.l 36,.l 57,.l 74,.s,.s,.s]] [.t 17],none,0,[]⟩,
  ⟨some 19,.mov (.t 18),none,0,[]⟩,
  ⟨some 20,.load true 11 (.t 5),some (19,false),0,[]⟩,
  ⟨some 21,.call 13 [.a [.s,.s,.s,.s,.s,.s,.s,.s,.s,.l 25,.l 76]] [.t 20],some (19,false),0,[]⟩,
  ⟨some 22,.pick (.t 19) (.c (.sc (.bool true))) (.t 21),none,0,[]⟩,
  ⟨some 23,.mov (.t 22),none,0,[]⟩,
  ⟨some 24,.fad (.t 3) 0,some (23,false),0,[]⟩,
  ⟨some 25,.load true 2 (.t 24),some (23,false),0,[]⟩,
  ⟨some 26,.fad (.t 3) 5,some (23,false),0,[]⟩,
  ⟨some 27,.load false 1 (.t 26),some (23,false),0,[]⟩,
  ⟨some 28,.call 24 [.a [.s,.s],.l 55] [.t 25,.t 27],some (23,false),0,[]⟩,
  ⟨some 29,.un .not (.t 28),some (23,false),0,[]⟩,
  ⟨some 30,.pick (.t 23) (.c (.sc (.bool true))) (.t 29),none,0,[]⟩]) (.cond (.t 30) (.seq (.region [⟨some 31,.call 14 [] [],none,0,[]⟩,
  ⟨some 6,.mov (.t 31),none,0,[]⟩]) (.ret [6])) .skip)) (.seg [5,4,3] [6] c4)))⟩
def g5:Fn:=g5F b5_4
theorem cmp5:zae Tryz.prog .lit [1000016] 5=some g5:=by kernel_rfl
def p12:Lit (zae Tryz.prog .lit [1000016] 12):=⟨_,by cbv⟩
def zHz:Cd:=lit (bdF p12.v 0 [])
def zv9:Cd:=zHz
def zHA:Cd:=lit (bdF p12.v 1 [])
def zwa:Cd:=zHA
def zHB(c0:Cd)(c1:Cd):Cd:=lit (bdF p12.v 2 [c0,c1])
def zBr:Cd:=zHB zv9 zwa
def g12F(c2:Cd):Fn:=lit (fnF p12.v [.skip,.skip,c2])
def g12:Fn:=g12F zBr
theorem cmp12:zae Tryz.prog .lit [1000016] 12=some g12:=p12.h.trans (by kernel_rfl)
def p13:Lit (zae Tryz.prog .lit [1000016] 13):=⟨_,by cbv⟩
def zHC:Cd:=lit (bdF p13.v 0 [])
def zwb:Cd:=zHC
def g13F(c0:Cd):Fn:=lit (fnF p13.v [c0])
def g13:Fn:=g13F zwb
theorem cmp13:zae Tryz.prog .lit [1000016] 13=some g13:=p13.h.trans (by kernel_rfl)
def g14F:Fn:=⟨83,[.t 0],[.s],.lit,
 (.seq (.region [⟨some 0,.mov (.c (.sc (.bool false))),none,0,[]⟩]) (.seq (.region [⟨some 7,.build [.sc (.int .u64 0),.sc (.int .u16 0)] [(0,1,.c (.sc (.int .u64 9))),(1,1,.c (.sc (.int .u16 1)))],none,0,[]⟩,
  ⟨some 8,.build [.sc (.int .u64 0),.sc (.int .u16 0),.sc (.int .i64 0),.sc (.bool false),.lit 0 true [],.lit 0 true [],.lit 0 true [],.lit 0 true [],.lit 0 true [],.lit 0 true [],.lit 0 true [],.sc (.int .u32 0),.sc (.int .i64 0),.sc (.int .i64 0)] [(0,2,.t 7)],none,0,[]⟩,
  ⟨some 1,.box 34 14 (.c (.agg [.sc (.int .u64 0),.sc (.int .u16 0),.sc (.int .i64 0),.sc (.bool false),.lit 0 true [],.lit 0 true [],.lit 0 true [],.lit 0 true [],.lit 0 true [],.lit 0 true [],.lit 0 true [],.sc (.int .u32 0),.sc (.int .i64 0),.sc (.int .i64 0)])),none,0,[]⟩,
  ⟨none,.store 14 (.t 1) (.t 8),none,0,[]⟩]) (.seq (.region [⟨some 9,.build [.sc (.int .u64 0),.sc (.int .u16 0)] [(0,1,.c (.sc (.int .u64 3))),(1,1,.c (.sc (.int .u16 2)))],none,0,[]⟩,
  ⟨some 10,.build [.sc (.int .u32 0),.sc (.int .i64 0),.sc (.int .i64 0),.sc (.int .i64 0),.sc (.int .u64 0),.sc (.int .u16 0),.sc (.int .i64 0)] [(1,1,.c (.sc (.int .i64 3))),(2,1,.c (.sc (.int .i64 1))),(4,2,.t 9)],none,0,[]⟩,
  ⟨some 2,.box 36 7 (.c (.agg [.sc (.int .u32 0),.sc (.int .i64 0),.sc (.int .i64 0),.sc (.int .i64 0),.sc (.int .u64 0),.sc (.int .u16 0),.sc (.int .i64 0)])),none,0,[]⟩,
  ⟨none,.store 7 (.t 2) (.t 10),none,0,[]⟩]) (.seq (.region [⟨some 12,.load true 14 (.t 1),none,0,[]⟩,
  ⟨some 13,.load true 7 (.t 2),none,0,[]⟩,
  ⟨some 14,.build [.sc (.int .u64 0),.sc (.int .u16 0)] [(0,1,.c (.sc (.int .u64 5))),(1,1,.c (.sc (.int .u16 4)))],none,0,[]⟩,
  ⟨some 15,.fad (.t 1) 0,none,0,[]⟩,
  ⟨some 16,.load true 2 (.t 15),none,0,[]⟩,
  ⟨some 17,.build [.sc (.int .u64 0),.sc (.int .u16 0)] [(0,1,.c (.sc (.int .u64 5))),(1,1,.c (.sc (.int .u16 4)))],none,0,[]⟩,
  ⟨some 18,.bsl 25 2 (.a [.s,.s]) [.t 14,.t 16,.t 17],none,0,[]⟩,
  ⟨some 19,.build [.sc (.int .i64 0),.sc (.int .u32 0),.sc (.int .u8 0),.sc (.bool false),.sc (.int .u64 0),.sc (.string ⟨#[]⟩),.sc (.string ⟨#[]⟩),.sc (.int .u64 0),.sc (.int .u16 0),.lit 0 true [],.lit 0 true []] [(0,1,.c (.sc (.int .i64 4))),(9,1,.t 18)],none,0,[]⟩,
  ⟨some 20,.call 16 [.a [.s,.s,.s,.s,.l 55,.l 55,.l 82,.l 76,.l 36,.l 57,.l 74,.s,.s,.s],.a [.s,.s,.s,.s,.s,.s,.s],.a [.s,.s,.s,.s,.s,.s,.s,.s,.s,.l 25,.l 76]] [.t 12,.t 13,.t 19],none,0,[]⟩,
  ⟨some 11,.mov (.t 20),none,0,[]⟩,
  ⟨some 21,.ext (.t 11) 0,none,0,[]⟩,
  ⟨some 22,.ext (.t 11) 1,none,0,[]⟩,
  ⟨some 3,.box 34 14 (.c (.agg [.sc (.int .u64 0),.sc (.int .u16 0),.sc (.int .i64 0),.sc (.bool false),.lit 0 true [],.lit 0 true [],.lit 0 true [],.lit 0 true [],.lit 0 true [],.lit 0 true [],.lit 0 true [],.sc (.int .u32 0),.sc (.int .i64 0),.sc (.int .i64 0)])),none,0,[]⟩,
  ⟨none,.store 14 (.t 3) (.t 21),none,0,[]⟩,
  ⟨some 4,.mov (.t 22),none,0,[]⟩]) (.seq (.region [⟨some 24,.load true 14 (.t 3),none,0,[]⟩,
  ⟨some 25,.load true 7 (.t 2),none,0,[]⟩,
  ⟨some 26,.call 20 [.a [.s,.s,.s,.s,.l 55,.l 55,.l 82,.l 76,.l 36,.l 57,.l 74,.s,.s,.s],.a [.s,.s,.s,.s,.s,.s,.s]] [.t 24,.t 25],none,0,[]⟩,
  ⟨some 23,.mov (.t 26),none,0,[]⟩,
  ⟨some 27,.ext (.t 23) 0,none,0,[]⟩,
  ⟨some 28,.ext (.t 23) 1,none,0,[]⟩,
  ⟨some 5,.box 34 14 (.c (.agg [.sc (.int .u64 0),.sc (.int .u16 0),.sc (.int .i64 0),.sc (.bool false),.lit 0 true [],.lit 0 true [],.lit 0 true [],.lit 0 true [],.lit 0 true [],.lit 0 true [],.lit 0 true [],.sc (.int .u32 0),.sc (.int .i64 0),.sc (.int .i64 0)])),none,0,[]⟩,
  ⟨none,.store 14 (.t 5) (.t 27),none,0,[]⟩,
  ⟨some 6,.mov (.t 28),none,0,[]⟩]) (.seq (.region [⟨some 29,.fad (.t 3) 5,none,0,[]⟩,
  ⟨some 30,.load false 1 (.t 29),none,0,[]⟩,
  ⟨some 31,.len false (.t 30),none,0,[]⟩,
  ⟨some 32,.bin .eql .num (.t 31) (.c (.sc (.int .i64 1))),none,0,[]⟩,
  ⟨some 33,.mov (.t 32),none,0,[]⟩,
  ⟨some 34,.fad (.t 3) 5,some (33,true),0,[]⟩,
  ⟨some 35,.load false 1 (.t 34),some (33,true),0,[]⟩,
  ⟨some 36,.iadS 55 (.t 35) (.c (.sc (.int .i64 0))),some (33,true),0,[]⟩,
  ⟨some 37,.fad (.t 36) 0,some (33,true),0,[]⟩,
  ⟨some 38,.load true 2 (.t 37),some (33,true),0,[]⟩,
  ⟨some 39,.fad (.t 2) 4,some (33,true),0,[]⟩,
  ⟨some 40,.load true 2 (.t 39),some (33,true),0,[]⟩,
  ⟨some 41,.eqs false [.num,.num] (.t 38) (.t 40),some (33,true),0,[]⟩,
  ⟨some 42,.pick (.t 33) (.t 41) (.c (.sc (.bool false))),none,0,[]⟩,
  ⟨some 43,.mov (.t 42),none,0,[]⟩,
  ⟨some 44,.mov (.t 4),some (43,true),0,[]⟩,
  ⟨some 45,.len false (.t 44),some (43,true),0,[]⟩,
  ⟨some 46,.bin .eql .num (.t 45) (.c (.sc (.int .i64 1))),some (43,true),0,[]⟩,
  ⟨some 47,.pick (.t 43) (.t 46) (.c (.sc (.bool false))),none,0,[]⟩,
  ⟨some 48,.mov (.t 47),none,0,[]⟩,
  ⟨some 49,.mov (.t 4),some (48,true),0,[]⟩,
  ⟨some 50,.iadS 78 (.t 49) (.c (.sc (.int .i64 0))),some (48,true),0,[]⟩,
  ⟨some 51,.fad (.t 50) 2,some (48,true),0,[]⟩,
  ⟨some 52,.fad (.t 51) 0,some (48,true),0,[]⟩,
  ⟨some 53,.load false 1 (.t 52),some (48,true),0,[]⟩,
  ⟨some 54,.bin .eql .num (.t 53) (.c (.sc (.int .i64 11))),some (48,true),0,[]⟩,
  ⟨some 55,.pick (.t 48) (.t 54) (.c (.sc (.bool false))),none,0,[]⟩,
  ⟨some 56,.mov (.t 55),none,0,[]⟩,
  ⟨some 57,.mov (.t 4),some (56,true),0,[]⟩,
  ⟨some 58,.iadS 78 (.t 57) (.c (.sc (.int .i64 0))),some (56,true),0,[]⟩,
  ⟨some 59,.fad (.t 58) 0,some (56,true),0,[]⟩,
  ⟨some 60,.fad (.t 59) 1,some (56,true),0,[]⟩,
  ⟨some 61,.load false 1 (.t 60),some (56,true),0,[]⟩,
  ⟨some 62,.bin .eql .num (.t 61) (.c (.sc (.int .u16 4))),some (56,true),0,[]⟩,
  ⟨some 63,.pick (.t 56) (.t 62) (.c (.sc (.bool false))),none,0,[]⟩,
  ⟨some 64,.mov (.t 63),none,0,[]⟩,
  ⟨some 65,.fad (.t 5) 5,some (64,true),0,[]⟩,
  ⟨some 66,.load false 1 (.t 65),some (64,true),0,[]⟩,
  ⟨some 67,.len false (.t 66),some (64,true),0,[]⟩,
  ⟨some 68,.bin .eql .num (.t 67) (.c (.sc (.int .i64 1))),some (64,true),0,[]⟩,
  ⟨some 69,.pick (.t 64) (.t 68) (.c (.sc (.bool false))),none,0,[]⟩,
  ⟨some 70,.mov (.t 69),none,0,[]⟩,
  ⟨some 71,.fad (.t 5) 5,some (70,true),0,[]⟩,
  ⟨some 72,.load false 1 (.t 71),some (70,true),0,[]⟩,
  ⟨some 73,.iadS 55 (.t 72) (.c (.sc (.int .i64 0))),some (70,true),0,[]⟩,
  ⟨some 74,.fad (.t 73) 2,some (70,true),0,[]⟩,
  ⟨some 75,.load false 1 (.t 74),some (70,true),0,[]⟩,
  ⟨some 76,.bin .eql .num (.t 75) (.c (.sc (.int .i64 1))),some (70,true),0,[]⟩,
  ⟨some 77,.pick (.t 70) (.t 76) (.c (.sc (.bool false))),none,0,[]⟩,
  ⟨some 78,.mov (.t 77),none,0,[]⟩,
  ⟨some 79,.mov (.t 6),some (78,true),0,[]⟩,
  ⟨some 80,.len false (.t 79),some (78,true),0,[]⟩,
  ⟨some 81,.bin .eql .num (.t 80) (.c (.sc (.int .i64 0))),some (78,true),0,[]⟩,
  ⟨some 82,.pick (.t 78) (.t 81) (.c (.sc (.bool false))),none,0,[]⟩,
  ⟨some 0,.mov (.t 82),none,0,[]⟩]) (.ret [0])))))))⟩
def g14:Fn:=g14F
theorem cmp14:zae Tryz.prog .lit [1000200] 14=some g14:=by kernel_rfl
def p15:Lit (zae Tryz.prog .keep [1000016] 15):=⟨_,by cbv⟩
def g15F:Fn:=lit (fnF p15.v [])
def g15:Fn:=g15F
theorem cmp15:zae Tryz.prog .keep [1000016] 15=some g15:=p15.h.trans (by kernel_rfl)
def p16:Lit (zae Tryz.prog .lit [1000200,12,1000800078,1000900078,1000700078] 16):=⟨_,by cbv⟩
def g16F:Fn:=lit (fnF p16.v [])
def g16:Fn:=g16F
theorem cmp16:zae Tryz.prog .lit [1000200,12,1000800078,1000900078,1000700078] 16=some g16:=p16.h.trans (by kernel_rfl)
def p17:Lit (zae Tryz.prog .lit [1000200,1000900025,1000800078,1000700078] 17):=⟨_,by cbv⟩
def g17F:Fn:=lit (fnF p17.v [])
def g17:Fn:=g17F
theorem cmp17:zae Tryz.prog .lit [1000200,1000900025,1000800078,1000700078] 17=some g17:=p17.h.trans (by kernel_rfl)
def p18:Lit (zae Tryz.prog .lit [1000016] 18):=⟨_,by cbv⟩
def zHD:Cd:=lit (bdF p18.v 0 [])
def zBs:Cd:=zHD
def zHE(c0:Cd):Cd:=lit (bdF p18.v 1 [c0])
def zBt:Cd:=zHE zBs
def g18F(c1:Cd):Fn:=lit (fnF p18.v [.skip,c1])
def g18:Fn:=g18F zBt
theorem cmp18:zae Tryz.prog .lit [1000016] 18=some g18:=p18.h.trans (by kernel_rfl)
def zHF:Cd:=(.seq (.seq (.region [⟨some 11,.mov (.t 5),none,0,[]⟩,
  ⟨some 12,.mov (.t 0),none,0,[]⟩,
  ⟨some 13,.len false (.t 12),none,0,[]⟩,
  ⟨some 14,.bin .lss .num (.t 11) (.t 13),none,0,[]⟩]) (.cond (.t 14) .skip (.exit 0 []))) (.seq (.block 1 (.seq (.region [⟨some 17,.mov (.t 0),none,0,[]⟩,
  ⟨some 18,.mov (.t 5),none,0,[]⟩,
  ⟨some 19,.iadS 78 (.t 17) (.t 18),none,0,[]⟩,
  ⟨some 20,.fad (.t 19) 0,none,0,[]⟩,
  ⟨some 21,.load true 2 (.t 20),none,0,[]⟩,
  ⟨some 22,.mov (.t 1),none,0,[]⟩,
  ⟨some 23,.mov (.t 5),none,0,[]⟩,
  ⟨some 24,.iadS 78 (.t 22) (.t 23),none,0,[]⟩,
  ⟨some 25,.fad (.t 24) 0,none,0,[]⟩,
  ⟨some 26,.load true 2 (.t 25),none,0,[]⟩,
  ⟨some 27,.eqs true [.num,.num] (.t 21) (.t 26),none,0,[]⟩,
  ⟨some 28,.mov (.t 27),none,0,[]⟩,
  ⟨some 29,.mov (.t 0),some (28,false),0,[]⟩,
  ⟨some 30,.mov (.t 5),some (28,false),0,[]⟩,
  ⟨some 31,.iadS 78 (.t 29) (.t 30),some (28,false),0,[]⟩,
  ⟨some 32,.fad (.t 31) 2,some (28,false),0,[]⟩,
  ⟨some 33,.load true 11 (.t 32),some (28,false),0,[]⟩,
  ⟨some 34,.mov (.t 1),some (28,false),0,[]⟩,
  ⟨some 35,.mov (.t 5),some (28,false),0,[]⟩,
  ⟨some 36,.iadS 78 (.t 34) (.t 35),some (28,false),0,[]⟩,
  ⟨some 37,.fad (.t 36) 2,some (28,false),0,[]⟩,
  ⟨some 38,.load true 11 (.t 37),some (28,false),0,[]⟩,
  ⟨some 39,.call 60 [.a [.s,.s,.s,.s,.s,.s,.s,.s,.s,.l 25,.l 76],.a [.s,.s,.s,.s,.s,.s,.s,.s,.s,.l 25,.l 76]] [.t 33,.t 38],some (28,false),0,[]⟩,
  ⟨some 40,.un .not (.t 39),some (28,false),0,[]⟩,
  ⟨some 41,.pick (.t 28) (.c (.sc (.bool true))) (.t 40),none,0,[]⟩]) (.cond (.t 41) (.seq (.region [⟨some 4,.mov (.c (.sc (.bool false))),none,0,[]⟩]) (.ret [4])) .skip))) (.region [⟨some 15,.mov (.t 5),none,0,[]⟩,
  ⟨some 16,.bin .add .num (.t 15) (.c (.sc (.int .i64 1))),none,0,[]⟩,
  ⟨some 5,.mov (.t 16),none,0,[]⟩])))
def zwc:Cd:=zHF
def g19F(c0:Cd):Fn:=⟨42,[.t 4],[.s],.lit,
 (.seq (.region [⟨some 4,.mov (.c (.sc (.bool false))),none,0,[]⟩]) (.seq (.seq (.region [⟨some 6,.mov (.t 0),none,0,[]⟩,
  ⟨some 7,.len false (.t 6),none,0,[]⟩,
  ⟨some 8,.mov (.t 1),none,0,[]⟩,
  ⟨some 9,.len false (.t 8),none,0,[]⟩,
  ⟨some 10,.bin .neq .num (.t 7) (.t 9),none,0,[]⟩]) (.cond (.t 10) (.seq (.region [⟨some 4,.mov (.c (.sc (.bool false))),none,0,[]⟩]) (.ret [4])) .skip)) (.seq (.seq (.region [⟨some 5,.mov (.c (.sc (.int .i64 0))),none,0,[]⟩]) (.block 0 (.loop [0,1,5] c0))) (.seq (.region [⟨some 4,.mov (.c (.sc (.bool true))),none,0,[]⟩]) (.ret [4])))))⟩
def g19:Fn:=g19F zwc
theorem cmp19:zae Tryz.prog .lit [1000016] 19=some g19:=by kernel_rfl
def p20:Lit (zae Tryz.prog .lit [1000200,7,1000500078] 20):=⟨_,by cbv⟩
def g20F:Fn:=lit (fnF p20.v [])
def g20:Fn:=g20F
theorem cmp20:zae Tryz.prog .lit [1000200,7,1000500078] 20=some g20:=p20.h.trans (by kernel_rfl)
def p22:Lit (zae Tryz.prog .keep [1000200,13,1000600078,1000500078] 22):=⟨_,by cbv⟩
def zHG:Cd:=lit (bdF p22.v 0 [])
def zwd:Cd:=zHG
def g22F(c0:Cd):Fn:=lit (fnF p22.v [c0])
def g22:Fn:=g22F zwd
theorem cmp22:zae Tryz.prog .keep [1000200,13,1000600078,1000500078] 22=some g22:=p22.h.trans (by kernel_rfl)
def zHH:Cd:=(.seq (.seq (.region [⟨some 37,.mov (.t 9),none,0,[]⟩,
  ⟨some 38,.fad (.t 2) 5,none,0,[]⟩,
  ⟨some 39,.load false 1 (.t 38),none,0,[]⟩,
  ⟨some 40,.len false (.t 39),none,0,[]⟩,
  ⟨some 41,.bin .lss .num (.t 37) (.t 40),none,0,[]⟩]) (.cond (.t 41) .skip (.exit 2 [8,7,1,2,6,4]))) (.seq (.block 3 (.region [⟨some 44,.mov (.t 8),none,0,[]⟩,
  ⟨some 45,.mov (.t 44),none,0,[]⟩,
  ⟨some 46,.fad (.t 2) 5,some (45,false),0,[]⟩,
  ⟨some 47,.load false 1 (.t 46),some (45,false),0,[]⟩,
  ⟨some 48,.mov (.t 9),some (45,false),0,[]⟩,
  ⟨some 49,.iadS 55 (.t 47) (.t 48),some (45,false),0,[]⟩,
  ⟨some 50,.fad (.t 49) 0,some (45,false),0,[]⟩,
  ⟨some 51,.load true 2 (.t 50),some (45,false),0,[]⟩,
  ⟨some 52,.mov (.t 1),some (45,false),0,[]⟩,
  ⟨some 53,.mov (.t 7),some (45,false),0,[]⟩,
  ⟨some 54,.iadS 25 (.t 52) (.t 53),some (45,false),0,[]⟩,
  ⟨some 55,.load true 2 (.t 54),some (45,false),0,[]⟩,
  ⟨some 56,.eqs false [.num,.num] (.t 51) (.t 55),some (45,false),0,[]⟩,
  ⟨some 57,.pick (.t 45) (.c (.sc (.bool true))) (.t 56),none,0,[]⟩,
  ⟨some 8,.mov (.t 57),none,0,[]⟩])) (.region [⟨some 42,.mov (.t 9),none,0,[]⟩,
  ⟨some 43,.bin .add .num (.t 42) (.c (.sc (.int .i64 1))),none,0,[]⟩,
  ⟨some 9,.mov (.t 43),none,0,[]⟩])))
def zwe:Cd:=zHH
def zHI(c0:Cd):Cd:=(.seq (.seq (.region [⟨some 12,.mov (.t 7),none,0,[]⟩,
  ⟨some 13,.mov (.t 1),none,0,[]⟩,
  ⟨some 14,.len false (.t 13),none,0,[]⟩,
  ⟨some 15,.bin .lss .num (.t 12) (.t 14),none,0,[]⟩]) (.cond (.t 15) .skip (.exit 0 [2,6,4]))) (.seq (.block 1 (.seq (.region [⟨some 18,.mov (.t 1),none,0,[]⟩,
  ⟨some 19,.mov (.t 7),none,0,[]⟩,
  ⟨some 20,.iadS 25 (.t 18) (.t 19),none,0,[]⟩,
  ⟨some 21,.fad (.t 20) 1,none,0,[]⟩,
  ⟨some 22,.load false 1 (.t 21),none,0,[]⟩,
  ⟨some 23,.fad (.t 2) 0,none,0,[]⟩,
  ⟨some 24,.fad (.t 23) 1,none,0,[]⟩,
  ⟨some 25,.load false 1 (.t 24),none,0,[]⟩,
  ⟨some 26,.bin .eql .num (.t 22) (.t 25),none,0,[]⟩,
  ⟨some 27,.mov (.t 26),none,0,[]⟩,
  ⟨some 28,.fad (.t 2) 8,some (27,false),0,[]⟩,
  ⟨some 29,.load false 1 (.t 28),some (27,false),0,[]⟩,
  ⟨some 30,.mov (.t 1),some (27,false),0,[]⟩,
  ⟨some 31,.mov (.t 7),some (27,false),0,[]⟩,
  ⟨some 32,.iadS 25 (.t 30) (.t 31),some (27,false),0,[]⟩,
  ⟨some 33,.fad (.t 32) 1,some (27,false),0,[]⟩,
  ⟨some 34,.load false 1 (.t 33),some (27,false),0,[]⟩,
  ⟨some 35,.call 74 [.l 36,.s,.s] [.t 29,.c (.sc (.int .i64 3)),.t 34],some (27,false),0,[]⟩,
  ⟨some 36,.pick (.t 27) (.c (.sc (.bool true))) (.t 35),none,0,[]⟩,
  ⟨some 8,.mov (.t 36),none,0,[]⟩]) (.seq (.seq (.region [⟨some 9,.mov (.c (.sc (.int .i64 0))),none,0,[]⟩]) (.block 2 (.loop [9,8,7,1,2,6,4] c0))) (.seq (.region [⟨some 58,.mov (.t 8),none,0,[]⟩,
  ⟨some 59,.un .not (.t 58),none,0,[]⟩]) (.cond (.t 59) (.seq (.seq (.region [⟨some 10,.box 34 14 (.c (.agg [.sc (.int .u64 0),.sc (.int .u16 0),.sc (.int .i64 0),.sc (.bool false),.lit 0 true [],.lit 0 true [],.lit 0 true [],.lit 0 true [],.lit 0 true [],.lit 0 true [],.lit 0 true [],.sc (.int .u32 0),.sc (.int .i64 0),.sc (.int .i64 0)])),none,0,[]⟩]) (.region [⟨some 61,.load true 14 (.t 2),none,0,[10]⟩,
  ⟨some 62,.mov (.t 1),none,0,[]⟩,
  ⟨some 63,.mov (.t 7),none,0,[]⟩,
  ⟨some 64,.iadS 25 (.t 62) (.t 63),none,0,[10]⟩,
  ⟨some 65,.load true 2 (.t 64),none,0,[10]⟩,
  ⟨some 66,.build [.sc (.int .i64 0),.sc (.int .u32 0),.sc (.int .u8 0),.sc (.bool false),.sc (.int .u64 0),.sc (.string ⟨#[]⟩),.sc (.string ⟨#[]⟩),.sc (.int .u64 0),.sc (.int .u16 0),.lit 0 true [],.lit 0 true []] [(0,1,.c (.sc (.int .i64 11)))],none,0,[]⟩,
  ⟨some 67,.call 75 [.a [.s,.s,.s,.s,.l 55,.l 55,.l 82,.l 76,.l 36,.l 57,.l 74,.s,.s,.s],.a [.s,.s],.a [.s,.s,.s,.s,.s,.s,.s,.s,.s,.l 25,.l 76],.s,.s] [.t 61,.t 65,.t 66,.c (.sc (.int .i64 3)),.c (.sc (.int .i64 0))],none,0,[10]⟩,
  ⟨some 60,.mov (.t 67),none,0,[]⟩,
  ⟨some 68,.ext (.t 60) 0,none,0,[]⟩,
  ⟨some 69,.ext (.t 60) 1,none,0,[]⟩,
  ⟨some 10,.mov (.t 10),none,0,[]⟩,
  ⟨none,.store 14 (.t 10) (.t 68),none,0,[]⟩,
  ⟨some 11,.mov (.t 69),none,0,[]⟩])) (.seq (.region [⟨some 70,.load true 14 (.t 10),none,0,[]⟩,
  ⟨none,.store 14 (.t 2) (.t 70),none,0,[]⟩]) (.region [⟨some 71,.mov (.t 6),none,0,[]⟩,
  ⟨some 72,.mov (.t 11),none,0,[]⟩,
  ⟨some 73,.app 78 136 (.t 71) (.t 72),none,0,[]⟩,
  ⟨some 6,.mov (.t 73),none,0,[]⟩]))) .skip))))) (.region [⟨some 16,.mov (.t 7),none,0,[]⟩,
  ⟨some 17,.bin .add .num (.t 16) (.c (.sc (.int .i64 1))),none,0,[]⟩,
  ⟨some 7,.mov (.t 17),none,0,[]⟩])))
def zwf:Cd:=zHI zwe
def g23F(c1:Cd):Fn:=⟨76,[.cell 4 true 14,.t 5],[.a [.s,.s,.s,.s,.l 55,.l 55,.l 82,.l 76,.l 36,.l 57,.l 74,.s,.s,.s],.l 78],.keep,
 (.seq (.region [⟨some 2,.box 34 14 (.t 0),none,0,[]⟩,
  ⟨some 4,.box 34 14 (.c (.agg [.sc (.int .u64 0),.sc (.int .u16 0),.sc (.int .i64 0),.sc (.bool false),.lit 0 true [],.lit 0 true [],.lit 0 true [],.lit 0 true [],.lit 0 true [],.lit 0 true [],.lit 0 true [],.sc (.int .u32 0),.sc (.int .i64 0),.sc (.int .i64 0)])),none,0,[]⟩,
  ⟨some 5,.nil 78,none,0,[]⟩]) (.seq (.region [⟨some 6,.nil 78,none,0,[]⟩]) (.seq (.seq (.region [⟨some 7,.mov (.c (.sc (.int .i64 0))),none,0,[]⟩]) (.block 0 (.loop [1,7,2,6,4] c1))) (.seq (.region [⟨some 74,.load true 14 (.t 2),none,0,[]⟩,
  ⟨some 75,.mov (.t 6),none,0,[]⟩,
  ⟨none,.store 14 (.t 4) (.t 74),none,0,[]⟩,
  ⟨some 5,.mov (.t 75),none,0,[]⟩]) (.ret [4,5])))))⟩
def g23:Fn:=g23F zwf
theorem cmp23:zae Tryz.prog .keep [1000200,1000600078,1000500078] 23=some g23:=by kernel_rfl
def p24:Lit (zae Tryz.prog .lit [1000016] 24):=⟨_,by cbv⟩
def zHJ:Cd:=lit (bdF p24.v 0 [])
def zBu:Cd:=zHJ
def zHK(c0:Cd):Cd:=lit (bdF p24.v 1 [c0])
def zwg:Cd:=zHK zBu
def g24F(c1:Cd):Fn:=lit (fnF p24.v [.skip,c1])
def g24:Fn:=g24F zwg
theorem cmp24:zae Tryz.prog .lit [1000016] 24=some g24:=p24.h.trans (by kernel_rfl)
def p25:Lit (zae Tryz.prog .lit [1000016] 25):=⟨_,by cbv⟩
def g25F:Fn:=lit (fnF p25.v [])
def g25:Fn:=g25F
theorem cmp25:zae Tryz.prog .lit [1000016] 25=some g25:=p25.h.trans (by kernel_rfl)
def p42:Lit (zae Tryz.prog .lit [1000016] 42):=⟨_,by cbv⟩
def zHL:Cd:=lit (bdF p42.v 0 [])
def zwh:Cd:=zHL
def g42F(c0:Cd):Fn:=lit (fnF p42.v [c0])
def g42:Fn:=g42F zwh
theorem cmp42:zae Tryz.prog .lit [1000016] 42=some g42:=p42.h.trans (by kernel_rfl)
def p49:Lit (zae Tryz.prog .lit [1000016,1000600055] 49):=⟨_,by cbv⟩
def zHM:Cd:=lit (bdF p49.v 0 [])
def zBv:Cd:=zHM
def zHN(c0:Cd):Cd:=lit (bdF p49.v 1 [c0])
def zBw:Cd:=zHN zBv
def g49F(c1:Cd):Fn:=lit (fnF p49.v [.skip,c1])
def g49:Fn:=g49F zBw
theorem cmp49:zae Tryz.prog .lit [1000016,1000600055] 49=some g49:=p49.h.trans (by kernel_rfl)
def p50:Lit (zae Tryz.prog .lit [1000016,26,72,1000700078] 50):=⟨_,by cbv⟩
def zHO:Cd:=lit (bdF p50.v 0 [])
def zBx:Cd:=zHO
def zHP(c0:Cd):Cd:=lit (bdF p50.v 1 [c0])
def zBy:Cd:=zHP zBx
def g50F(c1:Cd):Fn:=lit (fnF p50.v [.skip,c1])
def g50:Fn:=g50F zBy
theorem cmp50:zae Tryz.prog .lit [1000016,26,72,1000700078] 50=some g50:=p50.h.trans (by kernel_rfl)
def p51:Lit (zae Tryz.prog .lit [1000016,28,85,1000700078] 51):=⟨_,by cbv⟩
def zHQ:Cd:=lit (bdF p51.v 0 [])
def zBz:Cd:=zHQ
def zHR(c0:Cd):Cd:=lit (bdF p51.v 1 [c0])
def zBA:Cd:=zHR zBz
def zHS(c1:Cd):Cd:=lit (bdF p51.v 2 [.skip,c1])
def zBB:Cd:=zHS zBA
def g51F(c2:Cd):Fn:=lit (fnF p51.v [.skip,.skip,c2])
def g51:Fn:=g51F zBB
theorem cmp51:zae Tryz.prog .lit [1000016,28,85,1000700078] 51=some g51:=p51.h.trans (by kernel_rfl)
end Go.Ab.Tryz
