/- Our texts for this statement, merged: what its theorem leads to. -/
import Derived.Test.YtjmmobicnfojeaaGreatDoorQWb3
set_option linter.unusedVariables false
set_option linter.unusedSimpArgs false
noncomputable section
namespace Go.Ab.Tryz
open Go Go.Proofs
set_option maxRecDepth 100000
set_option maxHeartbeats 4000000
def p134:Lit (zag Tryz.prog .lit [1000016] 134):=⟨_,by cbv⟩
def zHD:Fn:=lit (fnF p134.v [])
def g134:Fn:=zHD
theorem zJ6:zag Tryz.prog .lit [1000016] 134=some g134:=p134.h.trans (by kernel_rfl)
def zBq:Cd:=(.seq (.seq (.region [⟨some 22,.mov (.t 12),none,0,[]⟩,
  ⟨some 23,.mov (.t 2),none,0,[]⟩,
  ⟨some 24,.len false (.t 23),none,0,[]⟩,
  ⟨some 25,.bin .lss .num (.t 22) (.t 24),none,0,[]⟩]) (.cond (.t 25) .skip (.exit 0 [11,3,5,4]))) (.seq (.block 1 (.region [⟨some 28,.mov (.t 11),none,0,[]⟩,
  ⟨some 29,.mov (.t 2),none,0,[]⟩,
  ⟨some 30,.mov (.t 12),none,0,[]⟩,
  ⟨some 31,.iadS 84 (.t 29) (.t 30),none,0,[]⟩,
  ⟨some 32,.fad (.t 31) 1,none,0,[]⟩,
  ⟨some 33,.load true 2 (.t 32),none,0,[]⟩,
  ⟨some 34,.bsl 25 2 (.a [.s,.s]) [.t 33],none,0,[]⟩,
  ⟨some 35,.app 25 16 (.t 28) (.t 34),none,0,[]⟩,
  ⟨some 11,.mov (.t 35),none,0,[]⟩])) (.region [⟨some 26,.mov (.t 12),none,0,[]⟩,
  ⟨some 27,.bin .add .num (.t 26) (.c (.sc (.int .i64 1))),none,0,[]⟩,
  ⟨some 12,.mov (.t 27),none,0,[]⟩])))
def zoW:Cd:=zBq
def zBr:Cd:=(.seq (.seq (.region [⟨some 73,.mov (.t 17),none,0,[]⟩,
  ⟨some 74,.mov (.t 14),none,0,[]⟩,
  ⟨some 75,.len false (.t 74),none,0,[]⟩,
  ⟨some 76,.bin .lss .num (.t 73) (.t 75),none,0,[]⟩,
  ⟨some 77,.mov (.t 76),none,0,[]⟩,
  ⟨some 78,.fad (.t 5) 0,some (77,true),0,[]⟩,
  ⟨some 79,.load false 1 (.t 78),some (77,true),0,[]⟩,
  ⟨some 80,.mov (.t 14),some (77,true),0,[]⟩,
  ⟨some 81,.mov (.t 17),some (77,true),0,[]⟩,
  ⟨some 82,.iadS 25 (.t 80) (.t 81),some (77,true),0,[]⟩,
  ⟨some 83,.fad (.t 82) 0,some (77,true),0,[]⟩,
  ⟨some 84,.load false 1 (.t 83),some (77,true),0,[]⟩,
  ⟨some 85,.call 201 [.s,.s] [.t 79,.t 84],some (77,true),0,[]⟩,
  ⟨some 86,.mov (.t 18),some (77,true),0,[]⟩,
  ⟨some 87,.bin .gtr .num (.t 85) (.t 86),some (77,true),0,[]⟩,
  ⟨some 88,.mov (.t 87),some (77,true),0,[]⟩,
  ⟨some 89,.fad (.t 5) 0,some (88,false),0,[]⟩,
  ⟨some 90,.load false 1 (.t 89),some (88,false),0,[]⟩,
  ⟨some 91,.mov (.t 14),some (88,false),0,[]⟩,
  ⟨some 92,.mov (.t 17),some (88,false),0,[]⟩,
  ⟨some 93,.iadS 25 (.t 91) (.t 92),some (88,false),0,[]⟩,
  ⟨some 94,.fad (.t 93) 0,some (88,false),0,[]⟩,
  ⟨some 95,.load false 1 (.t 94),some (88,false),0,[]⟩,
  ⟨some 96,.call 201 [.s,.s] [.t 90,.t 95],some (88,false),0,[]⟩,
  ⟨some 97,.mov (.t 18),some (88,false),0,[]⟩,
  ⟨some 98,.bin .eql .num (.t 96) (.t 97),some (88,false),0,[]⟩,
  ⟨some 99,.mov (.t 98),some (88,false),0,[]⟩,
  ⟨some 100,.mov (.t 14),some (99,true),0,[]⟩,
  ⟨some 101,.mov (.t 17),some (99,true),0,[]⟩,
  ⟨some 102,.iadS 25 (.t 100) (.t 101),some (99,true),0,[]⟩,
  ⟨some 103,.fad (.t 102) 1,some (99,true),0,[]⟩,
  ⟨some 104,.load false 1 (.t 103),some (99,true),0,[]⟩,
  ⟨some 105,.fad (.t 16) 1,some (99,true),0,[]⟩,
  ⟨some 106,.load false 1 (.t 105),some (99,true),0,[]⟩,
  ⟨some 107,.bin .lss .num (.t 104) (.t 106),some (99,true),0,[]⟩,
  ⟨some 108,.pick (.t 99) (.t 107) (.c (.sc (.bool false))),some (88,false),0,[]⟩,
  ⟨some 109,.pick (.t 88) (.c (.sc (.bool true))) (.t 108),some (77,true),0,[]⟩,
  ⟨some 110,.pick (.t 77) (.t 109) (.c (.sc (.bool false))),none,0,[]⟩]) (.cond (.t 110) .skip (.exit 4 [16,14,17,15,11,13,3,5,4]))) (.block 5 (.region [⟨some 111,.mov (.t 17),none,0,[]⟩,
  ⟨some 112,.bin .add .num (.t 111) (.c (.sc (.int .i64 1))),none,0,[]⟩,
  ⟨some 17,.mov (.t 112),none,0,[]⟩])))
def zoX:Cd:=zBr
def zBs (c1:Cd):Cd:=(.seq (.region [⟨some 57,.mov (.t 13),none,0,[]⟩,
  ⟨some 58,.load true 2 (.t 16),none,0,[]⟩,
  ⟨some 59,.bsl 25 2 (.a [.s,.s]) [.t 58],none,0,[]⟩,
  ⟨some 60,.app 25 16 (.t 57) (.t 59),none,0,[]⟩,
  ⟨some 13,.mov (.t 60),none,0,[]⟩]) (.seq (.seq (.region [⟨some 61,.fad (.t 5) 0,none,0,[]⟩,
  ⟨some 62,.load false 1 (.t 61),none,0,[]⟩,
  ⟨some 63,.fad (.t 16) 0,none,0,[]⟩,
  ⟨some 64,.load false 1 (.t 63),none,0,[]⟩,
  ⟨some 65,.mov (.t 3),none,0,[]⟩,
  ⟨some 66,.call 116 [.s,.s,.s] [.t 62,.t 64,.t 65],none,0,[]⟩,
  ⟨some 67,.un .not (.t 66),none,0,[]⟩]) (.cond (.t 67) (.exit 3 [15,11,13,3,5,4,14]) .skip)) (.seq (.region [⟨some 17,.mov (.c (.sc (.int .i64 0))),none,0,[]⟩]) (.seq (.region [⟨some 68,.fad (.t 5) 0,none,0,[]⟩,
  ⟨some 69,.load false 1 (.t 68),none,0,[]⟩,
  ⟨some 70,.fad (.t 16) 0,none,0,[]⟩,
  ⟨some 71,.load false 1 (.t 70),none,0,[]⟩,
  ⟨some 72,.call 201 [.s,.s] [.t 69,.t 71],none,0,[]⟩,
  ⟨some 18,.mov (.t 72),none,0,[]⟩]) (.seq (.block 4 (.loop [18,16,14,17,15,11,13,3,5,4] c1)) (.seq (.region [⟨some 113,.bsl 25 2 (.a [.s,.s]) [],none,0,[]⟩,
  ⟨some 114,.mov (.t 14),none,0,[]⟩,
  ⟨some 115,.mov (.t 17),none,0,[]⟩,
  ⟨some 116,.sls 25 (.t 114) none (some (.t 115)),none,0,[]⟩,
  ⟨some 117,.app 25 16 (.t 113) (.t 116),none,0,[]⟩,
  ⟨some 19,.mov (.t 117),none,0,[]⟩]) (.seq (.region [⟨some 118,.mov (.t 19),none,0,[]⟩,
  ⟨some 119,.load true 2 (.t 16),none,0,[]⟩,
  ⟨some 120,.bsl 25 2 (.a [.s,.s]) [.t 119],none,0,[]⟩,
  ⟨some 121,.app 25 16 (.t 118) (.t 120),none,0,[]⟩,
  ⟨some 19,.mov (.t 121),none,0,[]⟩]) (.region [⟨some 122,.mov (.t 19),none,0,[]⟩,
  ⟨some 123,.mov (.t 14),none,0,[]⟩,
  ⟨some 124,.mov (.t 17),none,0,[]⟩,
  ⟨some 125,.sls 25 (.t 123) (some (.t 124)) none,none,0,[]⟩,
  ⟨some 126,.app 25 16 (.t 122) (.t 125),none,0,[]⟩,
  ⟨some 14,.frz 25 (.t 126),none,0,[]⟩]))))))))
def zu9:Cd:=zBs zoX
def zBt (c2:Cd):Cd:=(.seq (.seq (.region [⟨some 36,.mov (.t 15),none,0,[]⟩,
  ⟨some 37,.mov (.t 11),none,0,[]⟩,
  ⟨some 38,.len false (.t 37),none,0,[]⟩,
  ⟨some 39,.bin .lss .num (.t 36) (.t 38),none,0,[]⟩]) (.cond (.t 39) .skip (.exit 2 [4,14]))) (.seq (.block 3 (.seq (.region [⟨some 42,.mov (.t 11),none,0,[]⟩,
  ⟨some 43,.mov (.t 15),none,0,[]⟩,
  ⟨some 44,.iadS 25 (.t 42) (.t 43),none,0,[]⟩,
  ⟨some 45,.load true 2 (.t 44),none,0,[]⟩,
  ⟨some 16,.box 25 2 (.c (.agg [.sc (.int .u64 0),.sc (.int .u16 0)])),none,0,[]⟩,
  ⟨none,.store 2 (.t 16) (.t 45),none,0,[]⟩]) (.seq (.seq (.region [⟨some 46,.mov (.t 13),none,0,[]⟩,
  ⟨some 47,.fad (.t 16) 1,none,0,[]⟩,
  ⟨some 48,.load false 1 (.t 47),none,0,[]⟩,
  ⟨some 49,.call 200 [.l 25,.s] [.t 46,.t 48],none,0,[]⟩,
  ⟨some 50,.mov (.t 49),none,0,[]⟩,
  ⟨some 51,.fad (.t 16) 1,some (50,false),0,[]⟩,
  ⟨some 52,.load false 1 (.t 51),some (50,false),0,[]⟩,
  ⟨some 53,.fad (.t 5) 1,some (50,false),0,[]⟩,
  ⟨some 54,.load false 1 (.t 53),some (50,false),0,[]⟩,
  ⟨some 55,.bin .eql .num (.t 52) (.t 54),some (50,false),0,[]⟩,
  ⟨some 56,.pick (.t 50) (.c (.sc (.bool true))) (.t 55),none,0,[]⟩]) (.cond (.t 56) (.exit 3 [15,11,13,3,5,4,14]) .skip)) (.seg [13,16,14,15,11,3,5,4] [15,11,13,3,5,4,14] c2)))) (.region [⟨some 40,.mov (.t 15),none,0,[]⟩,
  ⟨some 41,.bin .add .num (.t 40) (.c (.sc (.int .i64 1))),none,0,[]⟩,
  ⟨some 15,.mov (.t 41),none,0,[]⟩])))
def zoY:Cd:=zBt zu9
def zHE (c0:Cd) (c3:Cd):Fn:=⟨137,[.t 10],[.l 25],.lit,
 (.seq (.region [⟨some 5,.box 25 2 (.t 0),none,0,[]⟩,
  ⟨some 10,.nil 25,none,0,[]⟩]) (.seq (.region [⟨some 20,.mov (.t 1),none,0,[]⟩,
  ⟨some 21,.call 78 [.l 81] [.t 20],none,0,[]⟩,
  ⟨some 11,.mov (.t 21),none,0,[]⟩]) (.seq (.seq (.region [⟨some 12,.mov (.c (.sc (.int .i64 0))),none,0,[]⟩]) (.block 0 (.loop [2,12,11,3,5,4] c0))) (.seq (.region [⟨some 13,.nil 25,none,0,[]⟩]) (.seq (.region [⟨some 14,.frz 25 (.c (.lit 0 true [])),none,0,[]⟩]) (.seq (.seq (.region [⟨some 15,.mov (.c (.sc (.int .i64 0))),none,0,[]⟩]) (.block 2 (.loop [11,13,3,5,15,4,14] c3))) (.seq (.seq (.region [⟨some 127,.mov (.t 4),none,0,[]⟩,
  ⟨some 128,.bin .lss .num (.t 127) (.c (.sc (.int .i64 0))),none,0,[]⟩]) (.cond (.t 128) (.seq (.region [⟨some 10,.nil 25,none,0,[]⟩]) (.ret [10])) .skip)) (.seq (.seq (.region [⟨some 129,.mov (.t 14),none,0,[]⟩,
  ⟨some 130,.len false (.t 129),none,0,[]⟩,
  ⟨some 131,.mov (.t 4),none,0,[]⟩,
  ⟨some 132,.bin .gtr .num (.t 130) (.t 131),none,0,[]⟩]) (.cond (.t 132) (.region [⟨some 133,.mov (.t 14),none,0,[]⟩,
  ⟨some 134,.mov (.t 4),none,0,[]⟩,
  ⟨some 135,.sls 25 (.t 133) none (some (.t 134)),none,0,[]⟩,
  ⟨some 14,.frz 25 (.t 135),none,0,[]⟩]) .skip)) (.seq (.region [⟨some 136,.mov (.t 14),none,0,[]⟩,
  ⟨some 10,.mov (.t 136),none,0,[]⟩]) (.ret [10]))))))))))⟩
def g135:Fn:=zHE zoW zoY
theorem zJ7:zag Tryz.prog .lit [1000016,80000001400025,1001000025,1001300025] 135=some g135:=by kernel_rfl
def p139:Lit (zag Tryz.prog .lit [1000016] 139):=⟨_,by cbv⟩
def zBu:Cd:=lit (bdF p139.v 0 [])
def zoZ:Cd:=zBu
def zHF (c0:Cd):Fn:=lit (fnF p139.v [c0])
def g139:Fn:=zHF zoZ
theorem zJ8:zag Tryz.prog .lit [1000016] 139=some g139:=p139.h.trans (by kernel_rfl)
def p140:Lit (zag Tryz.prog .lit [1000016] 140):=⟨_,by cbv⟩
def zBv:Cd:=lit (bdF p140.v 0 [])
def zo0:Cd:=zBv
def zHG (c0:Cd):Fn:=lit (fnF p140.v [c0])
def g140:Fn:=zHG zo0
theorem zJ9:zag Tryz.prog .lit [1000016] 140=some g140:=p140.h.trans (by kernel_rfl)
def p141:Lit (zag Tryz.prog .lit [1000016] 141):=⟨_,by cbv⟩
def zHH:Fn:=lit (fnF p141.v [])
def g141:Fn:=zHH
theorem zKa:zag Tryz.prog .lit [1000016] 141=some g141:=p141.h.trans (by kernel_rfl)
def p142:Lit (zag Tryz.prog .lit [1000016] 142):=⟨_,by cbv⟩
def zwe:Cd:=lit (bdF p142.v 0 [])
def zhc:Cd:=zwe
def zCG (c0:Cd):Fn:=lit (fnF p142.v [c0])
def g142:Fn:=zCG zhc
theorem zKb:zag Tryz.prog .lit [1000016] 142=some g142:=p142.h.trans (by kernel_rfl)
def p143:Lit (zag Tryz.prog .lit [1000016] 143):=⟨_,by cbv⟩
def zHI:Fn:=lit (fnF p143.v [])
def g143:Fn:=zHI
theorem zKc:zag Tryz.prog .lit [1000016] 143=some g143:=p143.h.trans (by kernel_rfl)
def p145:Lit (zag Tryz.prog .keep [1000016,1000500025,1000400025] 145):=⟨_,by cbv⟩
def zBw:Cd:=lit (bdF p145.v 0 [])
def zo1:Cd:=zBw
def zHJ (c0:Cd):Fn:=lit (fnF p145.v [c0])
def g145:Fn:=zHJ zo1
theorem zKd:zag Tryz.prog .keep [1000016,1000500025,1000400025] 145=some g145:=p145.h.trans (by kernel_rfl)
def p146:Lit (zag Tryz.prog .lit [1000016] 146):=⟨_,by cbv⟩
def zHK:Fn:=lit (fnF p146.v [])
def g146:Fn:=zHK
theorem zKe:zag Tryz.prog .lit [1000016] 146=some g146:=p146.h.trans (by kernel_rfl)
def p147:Lit (zag Tryz.prog .lit [1000016] 147):=⟨_,by cbv⟩
def zBx:Cd:=lit (bdF p147.v 0 [])
def zva:Cd:=zBx
def zBy (c0:Cd):Cd:=lit (bdF p147.v 1 [c0])
def zo2:Cd:=zBy zva
def zHL (c1:Cd):Fn:=lit (fnF p147.v [.skip,c1])
def g147:Fn:=zHL zo2
theorem zKf:zag Tryz.prog .lit [1000016] 147=some g147:=p147.h.trans (by kernel_rfl)
def p149:Lit (zag Tryz.prog .lit [1000016] 149):=⟨_,by cbv⟩
def zHM:Fn:=lit (fnF p149.v [])
def g149:Fn:=zHM
theorem zKg:zag Tryz.prog .lit [1000016] 149=some g149:=p149.h.trans (by kernel_rfl)
def p150:Lit (zag Tryz.prog .lit [1000016] 150):=⟨_,by cbv⟩
def zHN:Fn:=lit (fnF p150.v [])
def g150:Fn:=zHN
theorem zKh:zag Tryz.prog .lit [1000016] 150=some g150:=p150.h.trans (by kernel_rfl)
def p151:Lit (zag Tryz.prog .lit [1000016] 151):=⟨_,by cbv⟩
def zHO:Fn:=lit (fnF p151.v [])
def g151:Fn:=zHO
theorem zKi:zag Tryz.prog .lit [1000016] 151=some g151:=p151.h.trans (by kernel_rfl)
def p152:Lit (zag Tryz.prog .lit [1000016] 152):=⟨_,by cbv⟩
def zHP:Fn:=lit (fnF p152.v [])
def g152:Fn:=zHP
theorem zKj:zag Tryz.prog .lit [1000016] 152=some g152:=p152.h.trans (by kernel_rfl)
def p153:Lit (zag Tryz.prog .lit [1000016] 153):=⟨_,by cbv⟩
def zBz:Cd:=lit (bdF p153.v 0 [])
def zvb:Cd:=zBz
def zBA:Cd:=lit (bdF p153.v 1 [])
def zvc:Cd:=zBA
def zBB (c1:Cd):Cd:=lit (bdF p153.v 2 [.skip,c1])
def zvd:Cd:=zBB zvc
def zBC (c0:Cd) (c2:Cd):Cd:=lit (bdF p153.v 3 [c0,.skip,c2])
def zve:Cd:=zBC zvb zvd
def zHQ (c3:Cd):Fn:=lit (fnF p153.v [.skip,.skip,.skip,c3])
def g153:Fn:=zHQ zve
theorem zKk:zag Tryz.prog .lit [1000016] 153=some g153:=p153.h.trans (by kernel_rfl)
def p154:Lit (zag Tryz.prog .lit [1000016] 154):=⟨_,by cbv⟩
def zBD:Cd:=lit (bdF p154.v 0 [])
def zvf:Cd:=zBD
def zHR (c0:Cd):Fn:=lit (fnF p154.v [c0])
def g154:Fn:=zHR zvf
theorem zKl:zag Tryz.prog .lit [1000016] 154=some g154:=p154.h.trans (by kernel_rfl)
def p155:Lit (zag Tryz.prog .lit [1000016] 155):=⟨_,by cbv⟩
def zHS:Fn:=lit (fnF p155.v [])
def g155:Fn:=zHS
theorem zKm:zag Tryz.prog .lit [1000016] 155=some g155:=p155.h.trans (by kernel_rfl)
def p156:Lit (zag Tryz.prog .lit [1000016] 156):=⟨_,by cbv⟩
def zBE:Cd:=lit (bdF p156.v 0 [])
def zo3:Cd:=zBE
def zHT (c0:Cd):Fn:=lit (fnF p156.v [c0])
def g156:Fn:=zHT zo3
theorem zKn:zag Tryz.prog .lit [1000016] 156=some g156:=p156.h.trans (by kernel_rfl)
def p157:Lit (zag Tryz.prog .lit [1000016] 157):=⟨_,by cbv⟩
def zBF:Cd:=lit (bdF p157.v 0 [])
def zvg:Cd:=zBF
def zHU (c0:Cd):Fn:=lit (fnF p157.v [c0])
def g157:Fn:=zHU zvg
theorem zKo:zag Tryz.prog .lit [1000016] 157=some g157:=p157.h.trans (by kernel_rfl)
def p158:Lit (zag Tryz.prog .lit [1000016] 158):=⟨_,by cbv⟩
def zHV:Fn:=lit (fnF p158.v [])
def g158:Fn:=zHV
theorem zKp:zag Tryz.prog .lit [1000016] 158=some g158:=p158.h.trans (by kernel_rfl)
def p159:Lit (zag Tryz.prog .lit [1000016] 159):=⟨_,by cbv⟩
def zBG:Cd:=lit (bdF p159.v 0 [])
def zo4:Cd:=zBG
def zHW (c0:Cd):Fn:=lit (fnF p159.v [c0])
def g159:Fn:=zHW zo4
theorem zKq:zag Tryz.prog .lit [1000016] 159=some g159:=p159.h.trans (by kernel_rfl)
def p160:Lit (zag Tryz.prog .lit [1000016] 160):=⟨_,by cbv⟩
def zHX:Fn:=lit (fnF p160.v [])
def g160:Fn:=zHX
theorem zKr:zag Tryz.prog .lit [1000016] 160=some g160:=p160.h.trans (by kernel_rfl)
def p161:Lit (zag Tryz.prog .lit [1000016] 161):=⟨_,by cbv⟩
def zHY:Fn:=lit (fnF p161.v [])
def g161:Fn:=zHY
theorem zKs:zag Tryz.prog .lit [1000016] 161=some g161:=p161.h.trans (by kernel_rfl)
def p162:Lit (zag Tryz.prog .lit [1000016] 162):=⟨_,by cbv⟩
def zHZ:Fn:=lit (fnF p162.v [])
def g162:Fn:=zHZ
theorem zKt:zag Tryz.prog .lit [1000016] 162=some g162:=p162.h.trans (by kernel_rfl)
def p163:Lit (zag Tryz.prog .mv [1000016,11,40000001100084] 163):=⟨_,by cbv⟩
def zCH:Fn:=lit (fnF p163.v [])
def g163:Fn:=zCH
theorem zKu:zag Tryz.prog .mv [1000016,11,40000001100084] 163=some g163:=p163.h.trans (by kernel_rfl)
def p166:Lit (zag Tryz.prog .lit [1000016] 166):=⟨_,by cbv⟩
def zH0:Fn:=lit (fnF p166.v [])
def g166:Fn:=zH0
theorem zKv:zag Tryz.prog .lit [1000016] 166=some g166:=p166.h.trans (by kernel_rfl)
def p174:Lit (zag Tryz.prog .mv [1000016] 174):=⟨_,by cbv⟩
def zCI:Fn:=lit (fnF p174.v [])
def g174:Fn:=zCI
theorem zKw:zag Tryz.prog .mv [1000016] 174=some g174:=p174.h.trans (by kernel_rfl)
def p175:Lit (zag Tryz.prog .mv [1000016] 175):=⟨_,by cbv⟩
def zH1:Fn:=lit (fnF p175.v [])
def g175:Fn:=zH1
theorem zKx:zag Tryz.prog .mv [1000016] 175=some g175:=p175.h.trans (by kernel_rfl)
def p176:Lit (zag Tryz.prog .mv [1000016] 176):=⟨_,by cbv⟩
def zH2:Fn:=lit (fnF p176.v [])
def g176:Fn:=zH2
theorem zKy:zag Tryz.prog .mv [1000016] 176=some g176:=p176.h.trans (by kernel_rfl)
def p177:Lit (zag Tryz.prog .mv [1000016] 177):=⟨_,by cbv⟩
def zH3:Fn:=lit (fnF p177.v [])
def g177:Fn:=zH3
theorem zKz:zag Tryz.prog .mv [1000016] 177=some g177:=p177.h.trans (by kernel_rfl)
def p178:Lit (zag Tryz.prog .mv [1000016] 178):=⟨_,by cbv⟩
def zBH:Cd:=lit (bdF p178.v 0 [])
def zo5:Cd:=zBH
def zH4 (c0:Cd):Fn:=lit (fnF p178.v [c0])
def g178:Fn:=zH4 zo5
theorem zKA:zag Tryz.prog .mv [1000016] 178=some g178:=p178.h.trans (by kernel_rfl)
def p180:Lit (zag Tryz.prog .lit [1000016,1000600067] 180):=⟨_,by cbv⟩
def zBI:Cd:=lit (bdF p180.v 0 [])
def zo6:Cd:=zBI
def zH5 (c0:Cd):Fn:=lit (fnF p180.v [c0])
def g180:Fn:=zH5 zo6
theorem zKB:zag Tryz.prog .lit [1000016,1000600067] 180=some g180:=p180.h.trans (by kernel_rfl)
def p181:Lit (zag Tryz.prog .lit [1000016,1000700056] 181):=⟨_,by cbv⟩
def zBJ:Cd:=lit (bdF p181.v 0 [])
def zvh:Cd:=zBJ
def zH6 (c0:Cd):Fn:=lit (fnF p181.v [c0])
def g181:Fn:=zH6 zvh
theorem zKC:zag Tryz.prog .lit [1000016,1000700056] 181=some g181:=p181.h.trans (by kernel_rfl)
def p182:Lit (zag Tryz.prog .lit [1000016,1000900084,1000600084] 182):=⟨_,by cbv⟩
def zBK:Cd:=lit (bdF p182.v 0 [])
def zvi:Cd:=zBK
def zBL (c0:Cd):Cd:=lit (bdF p182.v 1 [c0])
def zo7:Cd:=zBL zvi
def zBM (c1:Cd):Cd:=lit (bdF p182.v 2 [.skip,c1])
def zvj:Cd:=zBM zo7
def zH7 (c2:Cd):Fn:=lit (fnF p182.v [.skip,.skip,c2])
def g182:Fn:=zH7 zvj
theorem zKD:zag Tryz.prog .lit [1000016,1000900084,1000600084] 182=some g182:=p182.h.trans (by kernel_rfl)
end Go.Ab.Tryz
