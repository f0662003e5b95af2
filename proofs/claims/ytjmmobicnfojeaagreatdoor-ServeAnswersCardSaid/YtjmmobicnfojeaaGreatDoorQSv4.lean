/- Our texts for this statement, merged: what its theorem leads to. -/
import Derived.Test.YtjmmobicnfojeaaGreatDoorQSv3
set_option linter.unusedVariables false
set_option linter.unusedSimpArgs false
noncomputable section
namespace Go.Ab.Tryz
open Go Go.Proofs
set_option maxRecDepth 100000
set_option maxHeartbeats 4000000
def p3:Lit (zaj Tryz.prog .lit [1000016] 3):=⟨_,by cbv⟩
def zHv:Cd:=lit (bdF p3.v 0 [])
def b3_0:Cd:=zHv
def g3F (c0:Cd):Fn:=lit (fnF p3.v [c0])
def g3:Fn:=g3F b3_0
theorem cmp3:zaj Tryz.prog .lit [1000016] 3=some g3:=p3.h.trans (by kernel_rfl)
def p4:Lit (zaj Tryz.prog .lit [1000016] 4):=⟨_,by cbv⟩
def b4_0F:Cd:=lit (bdF p4.v 0 [])
def b4_0:Cd:=b4_0F
def g4F (c0:Cd):Fn:=lit (fnF p4.v [c0])
def g4:Fn:=g4F b4_0
theorem cmp4:zaj Tryz.prog .lit [1000016] 4=some g4:=p4.h.trans (by kernel_rfl)
def p5:Lit (zaj Tryz.prog .lit [1000016] 5):=⟨_,by cbv⟩
def b5_0F:Cd:=lit (bdF p5.v 0 [])
def b5_0:Cd:=b5_0F
def b5_1F (c0:Cd):Cd:=lit (bdF p5.v 1 [c0])
def b5_1:Cd:=b5_1F b5_0
def g5F (c1:Cd):Fn:=lit (fnF p5.v [.skip,c1])
def g5:Fn:=g5F b5_1
theorem cmp5:zaj Tryz.prog .lit [1000016] 5=some g5:=p5.h.trans (by kernel_rfl)
def zHw:Cd:=(.seq (.seq (.region [⟨some 55,.mov (.t 9),none,0,[]⟩,
  ⟨some 56,.mov (.t 8),none,0,[]⟩,
  ⟨some 57,.len false (.t 56),none,0,[]⟩,
  ⟨some 58,.bin .lss .num (.t 55) (.t 57),none,0,[]⟩]) (.cond (.t 58) .skip (.exit 0 [1,5,8]))) (.seq (.block 1 (.seq (.region [⟨some 61,.mov (.t 8),none,0,[]⟩,
  ⟨some 62,.mov (.t 9),none,0,[]⟩,
  ⟨some 63,.iadS 56 (.t 61) (.t 62),none,0,[]⟩,
  ⟨some 64,.fad (.t 63) 2,none,0,[]⟩,
  ⟨some 65,.load true 11 (.t 64),none,0,[]⟩,
  ⟨some 66,.call 38 [.a [.s,.s,.s,.s,.s,.s,.s,.s,.s,.l 25,.l 78]] [.t 65],none,0,[]⟩,
  ⟨some 67,.bin .neq .num (.t 66) (.c (.sc (.int .i64 0))),none,0,[]⟩]) (.cond (.t 67) (.seq (.region [⟨some 6,.mov (.c (.sc (.bool false))),none,0,[]⟩]) (.ret [6])) .skip))) (.region [⟨some 59,.mov (.t 9),none,0,[]⟩,
  ⟨some 60,.bin .add .num (.t 59) (.c (.sc (.int .i64 1))),none,0,[]⟩,
  ⟨some 9,.mov (.t 60),none,0,[]⟩])))
def b9_0:Cd:=zHw
def zHx (c0:Cd):Cd:=(.seq (.seq (.region [⟨some 9,.mov (.c (.sc (.int .i64 0))),none,0,[]⟩]) (.block 0 (.loop [9,1,5,8] c0))) (.seq (.seq (.region [⟨some 68,.fad (.t 5) 0,none,0,[]⟩,
  ⟨some 69,.load false 1 (.t 68),none,0,[]⟩,
  ⟨some 70,.call 39 [.s] [.t 69],none,0,[]⟩,
  ⟨some 71,.un .not (.t 70),none,0,[]⟩]) (.cond (.t 71) (.seq (.region [⟨some 72,.mov (.t 8),none,0,[]⟩,
  ⟨some 73,.len false (.t 72),none,0,[]⟩,
  ⟨some 74,.bin .eql .num (.t 73) (.c (.sc (.int .i64 0))),none,0,[]⟩,
  ⟨some 75,.mov (.t 74),none,0,[]⟩,
  ⟨some 76,.call 13 [] [],some (75,true),0,[]⟩,
  ⟨some 77,.pick (.t 75) (.t 76) (.c (.sc (.bool false))),none,0,[]⟩,
  ⟨some 6,.mov (.t 77),none,0,[]⟩]) (.ret [6])) .skip)) (.seq (.region [⟨some 78,.mov (.t 8),none,0,[]⟩,
  ⟨some 79,.len false (.t 78),none,0,[]⟩,
  ⟨some 80,.bin .gtr .num (.t 79) (.c (.sc (.int .i64 0))),none,0,[]⟩,
  ⟨some 81,.mov (.t 80),none,0,[]⟩,
  ⟨some 82,.mov (.t 8),some (81,true),0,[]⟩,
  ⟨some 83,.iadS 56 (.t 82) (.c (.sc (.int .i64 0))),some (81,true),0,[]⟩,
  ⟨some 84,.fad (.t 83) 0,some (81,true),0,[]⟩,
  ⟨some 85,.load true 2 (.t 84),some (81,true),0,[]⟩,
  ⟨some 86,.mov (.t 1),some (81,true),0,[]⟩,
  ⟨some 87,.build [.sc (.int .u64 0),.sc (.int .u16 0)] [(1,1,.t 86)],some (81,true),0,[]⟩,
  ⟨some 88,.eqs false [.num,.num] (.t 85) (.t 87),some (81,true),0,[]⟩,
  ⟨some 89,.pick (.t 81) (.t 88) (.c (.sc (.bool false))),none,0,[]⟩,
  ⟨some 90,.mov (.t 89),none,0,[]⟩,
  ⟨some 91,.mov (.t 8),some (90,true),0,[]⟩,
  ⟨some 92,.iadS 56 (.t 91) (.c (.sc (.int .i64 0))),some (90,true),0,[]⟩,
  ⟨some 93,.fad (.t 92) 2,some (90,true),0,[]⟩,
  ⟨some 94,.fad (.t 93) 1,some (90,true),0,[]⟩,
  ⟨some 95,.load false 1 (.t 94),some (90,true),0,[]⟩,
  ⟨some 96,.fad (.t 5) 1,some (90,true),0,[]⟩,
  ⟨some 97,.load false 1 (.t 96),some (90,true),0,[]⟩,
  ⟨some 98,.bin .eql .num (.t 95) (.t 97),some (90,true),0,[]⟩,
  ⟨some 99,.pick (.t 90) (.t 98) (.c (.sc (.bool false))),none,0,[]⟩,
  ⟨some 100,.mov (.t 99),none,0,[]⟩,
  ⟨some 101,.fad (.t 5) 0,some (100,true),0,[]⟩,
  ⟨some 102,.load false 1 (.t 101),some (100,true),0,[]⟩,
  ⟨some 103,.mov (.t 8),some (100,true),0,[]⟩,
  ⟨some 104,.iadS 56 (.t 103) (.c (.sc (.int .i64 0))),some (100,true),0,[]⟩,
  ⟨some 105,.fad (.t 104) 2,some (100,true),0,[]⟩,
  ⟨some 106,.fad (.t 105) 0,some (100,true),0,[]⟩,
  ⟨some 107,.load false 1 (.t 106),some (100,true),0,[]⟩,
  ⟨some 108,.call 40 [.s,.s] [.t 102,.t 107],some (100,true),0,[]⟩,
  ⟨some 109,.pick (.t 100) (.t 108) (.c (.sc (.bool false))),none,0,[]⟩,
  ⟨some 110,.mov (.t 109),none,0,[]⟩,
  ⟨some 111,.call 13 [] [],some (110,true),0,[]⟩,
  ⟨some 112,.pick (.t 110) (.t 111) (.c (.sc (.bool false))),none,0,[]⟩,
  ⟨some 6,.mov (.t 112),none,0,[]⟩]) (.ret [6]))))
def b9_1:Cd:=zHx b9_0
def zHy (c1:Cd):Cd:=(.seq (.region [⟨some 37,.load true 14 (.t 3),none,0,[]⟩,
  ⟨some 38,.mov (.t 1),none,0,[]⟩,
  ⟨some 39,.load true 11 (.t 5),none,0,[]⟩,
  ⟨some 40,.call 15 [.a [.s,.s,.s,.s,.l 81,.l 81,.l 84,.l 78,.l 88,.l 67,.l 60,.s,.s,.s],.s,.a [.s,.s,.s,.s,.s,.s,.s,.s,.s,.l 25,.l 78]] [.t 37,.t 38,.t 39],none,0,[]⟩,
  ⟨some 36,.mov (.t 40),none,0,[]⟩,
  ⟨some 41,.ext (.t 36) 0,none,0,[]⟩,
  ⟨some 42,.ext (.t 36) 1,none,0,[]⟩,
  ⟨some 7,.box 34 14 (.c (.agg [.sc (.int .u64 0),.sc (.int .u16 0),.sc (.int .i64 0),.sc (.bool false),.lit 0 true [],.lit 0 true [],.lit 0 true [],.lit 0 true [],.lit 0 true [],.lit 0 true [],.lit 0 true [],.sc (.int .u32 0),.sc (.int .i64 0),.sc (.int .i64 0)])),none,0,[]⟩,
  ⟨none,.store 14 (.t 7) (.t 41),none,0,[]⟩,
  ⟨some 8,.mov (.t 42),none,0,[]⟩]) (.seq (.seq (.region [⟨some 43,.fad (.t 3) 0,none,0,[]⟩,
  ⟨some 44,.load true 2 (.t 43),none,0,[]⟩,
  ⟨some 45,.fad (.t 7) 5,none,0,[]⟩,
  ⟨some 46,.load false 1 (.t 45),none,0,[]⟩,
  ⟨some 47,.call 35 [.a [.s,.s],.l 81] [.t 44,.t 46],none,0,[]⟩,
  ⟨some 48,.un .not (.t 47),none,0,[]⟩,
  ⟨some 49,.mov (.t 48),none,0,[]⟩,
  ⟨some 50,.fad (.t 7) 7,some (49,false),0,[]⟩,
  ⟨some 51,.load false 1 (.t 50),some (49,false),0,[]⟩,
  ⟨some 52,.call 36 [.l 78] [.t 51],some (49,false),0,[]⟩,
  ⟨some 53,.un .not (.t 52),some (49,false),0,[]⟩,
  ⟨some 54,.pick (.t 49) (.c (.sc (.bool true))) (.t 53),none,0,[]⟩]) (.cond (.t 54) (.seq (.region [⟨some 6,.mov (.c (.sc (.bool false))),none,0,[]⟩]) (.ret [6])) .skip)) (.seg [1,5,8] [6] c1)))
def b9_2:Cd:=zHy b9_1
def g9F (c2:Cd):Fn:=⟨113,[.t 6],[.s],.lit,
 (.seq (.region [⟨some 3,.box 34 14 (.t 0),none,0,[]⟩,
  ⟨some 5,.box 37 11 (.t 2),none,0,[]⟩,
  ⟨some 6,.mov (.c (.sc (.bool false))),none,0,[]⟩]) (.seq (.seq (.region [⟨some 10,.load true 14 (.t 3),none,0,[]⟩,
  ⟨some 11,.call 11 [.a [.s,.s,.s,.s,.l 81,.l 81,.l 84,.l 78,.l 88,.l 67,.l 60,.s,.s,.s]] [.t 10],none,0,[]⟩,
  ⟨some 12,.mov (.t 11),none,0,[]⟩,
  ⟨some 13,.load true 11 (.t 5),some (12,false),0,[]⟩,
  ⟨some 14,.call 12 [.a [.s,.s,.s,.s,.s,.s,.s,.s,.s,.l 25,.l 78]] [.t 13],some (12,false),0,[]⟩,
  ⟨some 15,.pick (.t 12) (.c (.sc (.bool true))) (.t 14),none,0,[]⟩,
  ⟨some 16,.mov (.t 15),none,0,[]⟩,
  ⟨some 17,.fad (.t 3) 0,some (16,false),0,[]⟩,
  ⟨some 18,.load true 2 (.t 17),some (16,false),0,[]⟩,
  ⟨some 19,.fad (.t 3) 5,some (16,false),0,[]⟩,
  ⟨some 20,.load false 1 (.t 19),some (16,false),0,[]⟩,
  ⟨some 21,.call 35 [.a [.s,.s],.l 81] [.t 18,.t 20],some (16,false),0,[]⟩,
  ⟨some 22,.un .not (.t 21),some (16,false),0,[]⟩,
  ⟨some 23,.pick (.t 16) (.c (.sc (.bool true))) (.t 22),none,0,[]⟩,
  ⟨some 24,.mov (.t 23),none,0,[]⟩,
  ⟨some 25,.fad (.t 3) 7,some (24,false),0,[]⟩,
  ⟨some 26,.load false 1 (.t 25),some (24,false),0,[]⟩,
  ⟨some 27,.call 36 [.l 78] [.t 26],some (24,false),0,[]⟩,
  ⟨some 28,.un .not (.t 27),some (24,false),0,[]⟩,
  ⟨some 29,.pick (.t 24) (.c (.sc (.bool true))) (.t 28),none,0,[]⟩,
  ⟨some 30,.mov (.t 29),none,0,[]⟩,
  ⟨some 31,.load true 11 (.t 5),some (30,false),0,[]⟩,
  ⟨some 32,.call 37 [.a [.s,.s,.s,.s,.s,.s,.s,.s,.s,.l 25,.l 78]] [.t 31],some (30,false),0,[]⟩,
  ⟨some 33,.bin .neq .num (.t 32) (.c (.sc (.int .i64 0))),some (30,false),0,[]⟩,
  ⟨some 34,.pick (.t 30) (.c (.sc (.bool true))) (.t 33),none,0,[]⟩]) (.cond (.t 34) (.seq (.region [⟨some 35,.call 13 [] [],none,0,[]⟩,
  ⟨some 6,.mov (.t 35),none,0,[]⟩]) (.ret [6])) .skip)) (.seg [3,1,5] [6] c2)))⟩
def g9:Fn:=g9F b9_2
theorem cmp9:zaj Tryz.prog .lit [1000016] 9=some g9:=by kernel_rfl
def p11:Lit (zaj Tryz.prog .lit [1000016] 11):=⟨_,by cbv⟩
def zD1:Cd:=lit (bdF p11.v 0 [])
def ztb:Cd:=zD1
def zD2:Cd:=lit (bdF p11.v 1 [])
def ztc:Cd:=zD2
def zD3 (c0:Cd) (c1:Cd):Cd:=lit (bdF p11.v 2 [c0,c1])
def zyl:Cd:=zD3 ztb ztc
def g11F (c2:Cd):Fn:=lit (fnF p11.v [.skip,.skip,c2])
def g11:Fn:=g11F zyl
theorem cmp11:zaj Tryz.prog .lit [1000016] 11=some g11:=p11.h.trans (by kernel_rfl)
def p12:Lit (zaj Tryz.prog .lit [1000016] 12):=⟨_,by cbv⟩
def zD4:Cd:=lit (bdF p12.v 0 [])
def ztd:Cd:=zD4
def g12F (c0:Cd):Fn:=lit (fnF p12.v [c0])
def g12:Fn:=g12F ztd
theorem cmp12:zaj Tryz.prog .lit [1000016] 12=some g12:=p12.h.trans (by kernel_rfl)
def p13:Lit (zaj Tryz.prog .lit [1000016] 13):=⟨_,by cbv⟩
def g13F:Fn:=lit (fnF p13.v [])
def g13:Fn:=g13F
theorem cmp13:zaj Tryz.prog .lit [1000016] 13=some g13:=p13.h.trans (by kernel_rfl)
def p14:Lit (zaj Tryz.prog .keep [1000016] 14):=⟨_,by cbv⟩
def g14F:Fn:=lit (fnF p14.v [])
def g14:Fn:=g14F
theorem cmp14:zaj Tryz.prog .keep [1000016] 14=some g14:=p14.h.trans (by kernel_rfl)
def p15:Lit (zaj Tryz.prog .lit [1000016,10,100000285200113,1000700056] 15):=⟨_,by cbv⟩
def g15F:Fn:=lit (fnF p15.v [])
def g15:Fn:=g15F
theorem cmp15:zaj Tryz.prog .lit [1000016,10,100000285200113,1000700056] 15=some g15:=p15.h.trans (by kernel_rfl)
def zD5:Cd:=(.seq (.seq (.region [⟨some 46,.fad (.t 5) 0,none,0,[]⟩,
  ⟨some 47,.load false 1 (.t 46),none,0,[]⟩,
  ⟨some 48,.bin .eql .num (.t 47) (.c (.sc (.int .i64 1))),none,0,[]⟩]) (.cond (.t 48) (.seq (.region [⟨some 50,.load true 14 (.t 3),none,0,[]⟩,
  ⟨some 51,.fad (.t 5) 4,none,0,[]⟩,
  ⟨some 52,.load false 1 (.t 51),none,0,[]⟩,
  ⟨some 53,.call 63 [.a [.s,.s,.s,.s,.l 81,.l 81,.l 84,.l 78,.l 88,.l 67,.l 60,.s,.s,.s],.s] [.t 50,.t 52],none,0,[]⟩,
  ⟨some 49,.mov (.t 53),none,0,[]⟩,
  ⟨some 54,.ext (.t 49) 0,none,0,[]⟩,
  ⟨some 55,.ext (.t 49) 1,none,0,[]⟩,
  ⟨some 56,.ext (.t 49) 2,none,0,[]⟩,
  ⟨some 9,.box 25 2 (.c (.agg [.sc (.int .u64 0),.sc (.int .u16 0)])),none,0,[]⟩,
  ⟨none,.store 2 (.t 9) (.t 54),none,0,[]⟩,
  ⟨some 10,.mov (.t 55),none,0,[]⟩,
  ⟨some 11,.mov (.t 56),none,0,[]⟩]) (.seq (.seq (.region [⟨some 57,.mov (.t 11),none,0,[]⟩]) (.cond (.t 57) (.region [⟨some 58,.load true 2 (.t 9),none,0,[]⟩,
  ⟨some 59,.bsl 25 2 (.a [.s,.s]) [.t 58],none,0,[]⟩,
  ⟨some 10,.mov (.t 59),none,0,[]⟩]) .skip)) (.seq (.region [⟨some 60,.load true 14 (.t 3),none,2,[]⟩,
  ⟨some 61,.mov (.t 1),none,0,[]⟩,
  ⟨some 62,.fad (.t 5) 1,none,0,[]⟩,
  ⟨some 63,.load false 1 (.t 62),none,0,[]⟩,
  ⟨some 64,.mov (.t 11),none,0,[]⟩,
  ⟨some 65,.mov (.t 10),none,0,[]⟩,
  ⟨some 66,.build [.sc (.int .i64 0),.sc (.int .u32 0),.sc (.int .u8 0),.sc (.bool false),.sc (.int .u64 0),.sc (.string ⟨#[]⟩),.sc (.string ⟨#[]⟩),.sc (.int .u64 0),.sc (.int .u16 0),.lit 0 true [],.lit 0 true []] [(0,1,.c (.sc (.int .i64 2))),(3,1,.t 64),(9,1,.t 65)],none,0,[]⟩,
  ⟨some 67,.call 62 [.s,.s,.a [.s,.s,.s,.s,.s,.s,.s,.s,.s,.l 25,.l 78]] [.t 61,.t 63,.t 66],none,1,[]⟩,
  ⟨none,.store 14 (.t 6) (.t 60),none,0,[]⟩,
  ⟨some 7,.mov (.t 67),none,0,[]⟩]) (.ret [6,7])))) .skip)) (.seq (.seq (.region [⟨some 68,.fad (.t 5) 0,none,0,[]⟩,
  ⟨some 69,.load false 1 (.t 68),none,0,[]⟩,
  ⟨some 70,.bin .eql .num (.t 69) (.c (.sc (.int .i64 3))),none,0,[]⟩]) (.cond (.t 70) (.seq (.region [⟨some 71,.fad (.t 3) 5,none,0,[]⟩,
  ⟨some 72,.load false 1 (.t 71),none,0,[]⟩,
  ⟨some 73,.call 64 [.l 81] [.t 72],none,0,[]⟩,
  ⟨some 12,.mov (.t 73),none,0,[]⟩]) (.seq (.seq (.region [⟨some 74,.mov (.t 12),none,0,[]⟩,
  ⟨some 75,.len false (.t 74),none,0,[]⟩,
  ⟨some 76,.bin .gtr .num (.t 75) (.c (.sc (.int .i64 16))),none,0,[]⟩]) (.cond (.t 76) (.region [⟨some 77,.mov (.t 12),none,0,[]⟩,
  ⟨some 78,.sls 25 (.t 77) none (some (.c (.sc (.int .i64 16)))),none,0,[]⟩,
  ⟨some 12,.mov (.t 78),none,0,[]⟩]) .skip)) (.seq (.region [⟨some 79,.mov (.t 12),none,0,[]⟩,
  ⟨some 80,.build [.sc (.int .i64 0),.sc (.int .u32 0),.sc (.int .u8 0),.sc (.bool false),.sc (.int .u64 0),.sc (.string ⟨#[]⟩),.sc (.string ⟨#[]⟩),.sc (.int .u64 0),.sc (.int .u16 0),.lit 0 true [],.lit 0 true []] [(0,1,.c (.sc (.int .i64 4))),(9,1,.t 79)],none,0,[]⟩,
  ⟨some 13,.box 37 11 (.c (.agg [.sc (.int .i64 0),.sc (.int .u32 0),.sc (.int .u8 0),.sc (.bool false),.sc (.int .u64 0),.sc (.string ⟨#[]⟩),.sc (.string ⟨#[]⟩),.sc (.int .u64 0),.sc (.int .u16 0),.lit 0 true [],.lit 0 true []])),none,0,[]⟩,
  ⟨none,.store 11 (.t 13) (.t 80),none,0,[]⟩]) (.seq (.seq (.region [⟨some 81,.fad (.t 3) 4,none,0,[]⟩,
  ⟨some 82,.load false 1 (.t 81),none,0,[]⟩,
  ⟨some 83,.len false (.t 82),none,0,[]⟩,
  ⟨some 84,.bin .gtr .num (.t 83) (.c (.sc (.int .i64 0))),none,0,[]⟩]) (.cond (.t 84) (.seq (.region [⟨some 85,.fad (.t 13) 3,none,0,[]⟩,
  ⟨none,.store 1 (.t 85) (.c (.sc (.bool true))),none,0,[]⟩]) (.region [⟨some 86,.fad (.t 3) 4,none,0,[]⟩,
  ⟨some 87,.load false 1 (.t 86),none,0,[]⟩,
  ⟨some 88,.iadS 81 (.t 87) (.c (.sc (.int .i64 0))),none,0,[]⟩,
  ⟨some 89,.fad (.t 88) 0,none,0,[]⟩,
  ⟨some 90,.load true 2 (.t 89),none,0,[]⟩,
  ⟨some 91,.fad (.t 13) 7,none,0,[]⟩,
  ⟨none,.store 2 (.t 91) (.t 90),none,0,[]⟩])) .skip)) (.seq (.region [⟨some 92,.load true 14 (.t 3),none,2,[]⟩,
  ⟨some 93,.mov (.t 1),none,0,[]⟩,
  ⟨some 94,.fad (.t 5) 1,none,0,[]⟩,
  ⟨some 95,.load false 1 (.t 94),none,0,[]⟩,
  ⟨some 96,.load true 11 (.t 13),none,0,[]⟩,
  ⟨some 97,.call 62 [.s,.s,.a [.s,.s,.s,.s,.s,.s,.s,.s,.s,.l 25,.l 78]] [.t 93,.t 95,.t 96],none,1,[]⟩,
  ⟨none,.store 14 (.t 6) (.t 92),none,0,[]⟩,
  ⟨some 7,.mov (.t 97),none,0,[]⟩]) (.ret [6,7])))))) .skip)) (.seq (.seq (.region [⟨some 98,.fad (.t 5) 0,none,0,[]⟩,
  ⟨some 99,.load false 1 (.t 98),none,0,[]⟩,
  ⟨some 100,.bin .eql .num (.t 99) (.c (.sc (.int .i64 5))),none,0,[]⟩]) (.cond (.t 100) (.seq (.region [⟨some 102,.load true 14 (.t 3),none,0,[]⟩,
  ⟨some 103,.mov (.t 1),none,0,[]⟩,
  ⟨some 104,.fad (.t 5) 7,none,0,[]⟩,
  ⟨some 105,.load true 2 (.t 104),none,0,[]⟩,
  ⟨some 106,.call 65 [.a [.s,.s,.s,.s,.l 81,.l 81,.l 84,.l 78,.l 88,.l 67,.l 60,.s,.s,.s],.s,.a [.s,.s]] [.t 102,.t 103,.t 105],none,0,[]⟩,
  ⟨some 101,.mov (.t 106),none,0,[]⟩,
  ⟨some 107,.ext (.t 101) 0,none,0,[]⟩,
  ⟨some 108,.ext (.t 101) 1,none,0,[]⟩,
  ⟨some 14,.box 34 14 (.c (.agg [.sc (.int .u64 0),.sc (.int .u16 0),.sc (.int .i64 0),.sc (.bool false),.lit 0 true [],.lit 0 true [],.lit 0 true [],.lit 0 true [],.lit 0 true [],.lit 0 true [],.lit 0 true [],.sc (.int .u32 0),.sc (.int .i64 0),.sc (.int .i64 0)])),none,0,[]⟩,
  ⟨none,.store 14 (.t 14) (.t 107),none,0,[]⟩,
  ⟨some 15,.mov (.t 108),none,0,[]⟩]) (.seq (.region [⟨some 109,.load true 14 (.t 14),none,2,[]⟩,
  ⟨some 110,.mov (.t 8),none,0,[]⟩,
  ⟨some 111,.mov (.t 15),none,0,[]⟩,
  ⟨some 112,.app 56 136 (.t 110) (.t 111),none,1,[]⟩,
  ⟨none,.store 14 (.t 6) (.t 109),none,0,[]⟩,
  ⟨some 7,.mov (.t 112),none,0,[]⟩]) (.ret [6,7]))) .skip)) (.seq (.seq (.region [⟨some 113,.fad (.t 5) 0,none,0,[]⟩,
  ⟨some 114,.load false 1 (.t 113),none,0,[]⟩,
  ⟨some 115,.bin .eql .num (.t 114) (.c (.sc (.int .i64 10))),none,0,[]⟩]) (.cond (.t 115) (.seq (.region [⟨some 116,.fad (.t 3) 7,none,0,[]⟩,
  ⟨some 117,.load false 1 (.t 116),none,0,[]⟩,
  ⟨some 118,.fad (.t 5) 10,none,0,[]⟩,
  ⟨some 119,.load false 1 (.t 118),none,0,[]⟩,
  ⟨some 120,.fad (.t 5) 3,none,0,[]⟩,
  ⟨some 121,.load false 1 (.t 120),none,0,[]⟩,
  ⟨some 122,.call 66 [.l 78,.l 78,.s] [.t 117,.t 119,.t 121],none,0,[]⟩,
  ⟨some 123,.fad (.t 3) 7,none,0,[]⟩,
  ⟨none,.store 1 (.t 123) (.t 122),none,0,[]⟩]) (.seq (.region [⟨some 124,.load true 14 (.t 3),none,0,[]⟩,
  ⟨some 125,.mov (.t 8),none,0,[]⟩,
  ⟨none,.store 14 (.t 6) (.t 124),none,0,[]⟩,
  ⟨some 7,.mov (.t 125),none,0,[]⟩]) (.ret [6,7]))) .skip)) (.seq (.seq (.region [⟨some 126,.fad (.t 5) 0,none,0,[]⟩,
  ⟨some 127,.load false 1 (.t 126),none,0,[]⟩,
  ⟨some 128,.bin .eql .num (.t 127) (.c (.sc (.int .i64 11))),none,0,[]⟩]) (.cond (.t 128) (.seq (.region [⟨some 129,.load true 14 (.t 3),none,0,[]⟩,
  ⟨some 130,.mov (.t 8),none,0,[]⟩,
  ⟨none,.store 14 (.t 6) (.t 129),none,0,[]⟩,
  ⟨some 7,.mov (.t 130),none,0,[]⟩]) (.ret [6,7])) .skip)) (.seq (.region [⟨some 131,.load true 14 (.t 3),none,0,[]⟩,
  ⟨some 132,.fad (.t 5) 5,none,0,[]⟩,
  ⟨some 133,.load false 1 (.t 132),none,0,[]⟩,
  ⟨some 134,.call 67 [.a [.s,.s,.s,.s,.l 81,.l 81,.l 84,.l 78,.l 88,.l 67,.l 60,.s,.s,.s],.s] [.t 131,.t 133],none,0,[]⟩,
  ⟨some 16,.mov (.t 134),none,0,[]⟩]) (.seq (.seq (.region [⟨some 135,.mov (.t 16),none,0,[]⟩,
  ⟨some 136,.bin .eql .num (.t 135) (.c (.sc (.int .i64 0))),none,0,[]⟩,
  ⟨some 137,.mov (.t 136),none,0,[]⟩,
  ⟨some 138,.fad (.t 5) 0,some (137,true),0,[]⟩,
  ⟨some 139,.load false 1 (.t 138),some (137,true),0,[]⟩,
  ⟨some 140,.bin .eql .num (.t 139) (.c (.sc (.int .i64 8))),some (137,true),0,[]⟩,
  ⟨some 141,.pick (.t 137) (.t 140) (.c (.sc (.bool false))),none,0,[]⟩]) (.cond (.t 141) (.seq (.region [⟨some 143,.fad (.t 3) 7,none,0,[]⟩,
  ⟨some 144,.load false 1 (.t 143),none,0,[]⟩,
  ⟨some 145,.fad (.t 5) 5,none,0,[]⟩,
  ⟨some 146,.load false 1 (.t 145),none,0,[]⟩,
  ⟨some 147,.call 68 [.l 78,.s] [.t 144,.t 146],none,0,[]⟩,
  ⟨some 142,.mov (.t 147),none,0,[]⟩,
  ⟨some 148,.ext (.t 142) 0,none,0,[]⟩,
  ⟨some 149,.ext (.t 142) 1,none,0,[]⟩,
  ⟨some 17,.mov (.t 148),none,0,[]⟩,
  ⟨some 18,.mov (.t 149),none,0,[]⟩]) (.seq (.region [⟨some 150,.load true 14 (.t 3),none,2,[]⟩,
  ⟨some 151,.mov (.t 1),none,0,[]⟩,
  ⟨some 152,.fad (.t 5) 1,none,0,[]⟩,
  ⟨some 153,.load false 1 (.t 152),none,0,[]⟩,
  ⟨some 154,.mov (.t 18),none,0,[]⟩,
  ⟨some 155,.mov (.t 17),none,0,[]⟩,
  ⟨some 156,.build [.sc (.int .i64 0),.sc (.int .u32 0),.sc (.int .u8 0),.sc (.bool false),.sc (.int .u64 0),.sc (.string ⟨#[]⟩),.sc (.string ⟨#[]⟩),.sc (.int .u64 0),.sc (.int .u16 0),.lit 0 true [],.lit 0 true []] [(0,1,.c (.sc (.int .i64 9))),(3,1,.t 154),(6,1,.t 155)],none,0,[]⟩,
  ⟨some 157,.call 62 [.s,.s,.a [.s,.s,.s,.s,.s,.s,.s,.s,.s,.l 25,.l 78]] [.t 151,.t 153,.t 156],none,1,[]⟩,
  ⟨none,.store 14 (.t 6) (.t 150),none,0,[]⟩,
  ⟨some 7,.mov (.t 157),none,0,[]⟩]) (.ret [6,7]))) .skip)) (.seq (.seq (.region [⟨some 158,.mov (.t 16),none,0,[]⟩,
  ⟨some 159,.bin .eql .num (.t 158) (.c (.sc (.int .i64 0))),none,0,[]⟩]) (.cond (.t 159) (.seq (.region [⟨some 161,.load true 14 (.t 3),none,0,[]⟩,
  ⟨some 162,.fad (.t 5) 5,none,0,[]⟩,
  ⟨some 163,.load false 1 (.t 162),none,0,[]⟩,
  ⟨some 164,.fad (.t 5) 6,none,0,[]⟩,
  ⟨some 165,.load false 1 (.t 164),none,0,[]⟩,
  ⟨some 166,.call 21 [.a [.s,.s,.s,.s,.l 81,.l 81,.l 84,.l 78,.l 88,.l 67,.l 60,.s,.s,.s],.s,.s] [.t 161,.t 163,.t 165],none,0,[]⟩,
  ⟨some 160,.mov (.t 166),none,0,[]⟩,
  ⟨some 167,.ext (.t 160) 0,none,0,[]⟩,
  ⟨some 168,.ext (.t 160) 1,none,0,[]⟩,
  ⟨some 169,.ext (.t 160) 2,none,0,[]⟩,
  ⟨some 19,.box 34 14 (.c (.agg [.sc (.int .u64 0),.sc (.int .u16 0),.sc (.int .i64 0),.sc (.bool false),.lit 0 true [],.lit 0 true [],.lit 0 true [],.lit 0 true [],.lit 0 true [],.lit 0 true [],.lit 0 true [],.sc (.int .u32 0),.sc (.int .i64 0),.sc (.int .i64 0)])),none,0,[]⟩,
  ⟨none,.store 14 (.t 19) (.t 167),none,0,[]⟩,
  ⟨some 20,.mov (.t 168),none,0,[]⟩,
  ⟨some 21,.mov (.t 169),none,0,[]⟩]) (.seq (.seq (.region [⟨some 170,.mov (.t 21),none,0,[]⟩,
  ⟨some 171,.bin .eql .num (.t 170) (.c (.sc (.int .i64 0))),none,0,[]⟩]) (.cond (.t 171) (.seq (.region [⟨some 172,.load true 14 (.t 19),none,2,[]⟩,
  ⟨some 173,.mov (.t 8),none,0,[]⟩,
  ⟨some 174,.mov (.t 20),none,0,[]⟩,
  ⟨some 175,.app 56 136 (.t 173) (.t 174),none,1,[]⟩,
  ⟨none,.store 14 (.t 6) (.t 172),none,0,[]⟩,
  ⟨some 7,.mov (.t 175),none,0,[]⟩]) (.ret [6,7])) .skip)) (.region [⟨some 176,.mov (.t 21),none,0,[]⟩,
  ⟨some 16,.mov (.t 176),none,0,[]⟩]))) .skip)) (.seq (.region [⟨some 177,.load true 14 (.t 3),none,2,[]⟩,
  ⟨some 178,.mov (.t 1),none,0,[]⟩,
  ⟨some 179,.fad (.t 5) 1,none,0,[]⟩,
  ⟨some 180,.load false 1 (.t 179),none,0,[]⟩,
  ⟨some 181,.mov (.t 16),none,0,[]⟩,
  ⟨some 182,.conv .u8 (.t 181),none,0,[]⟩,
  ⟨some 183,.build [.sc (.int .i64 0),.sc (.int .u32 0),.sc (.int .u8 0),.sc (.bool false),.sc (.int .u64 0),.sc (.string ⟨#[]⟩),.sc (.string ⟨#[]⟩),.sc (.int .u64 0),.sc (.int .u16 0),.lit 0 true [],.lit 0 true []] [(0,1,.c (.sc (.int .i64 12))),(2,1,.t 182)],none,0,[]⟩,
  ⟨some 184,.call 62 [.s,.s,.a [.s,.s,.s,.s,.s,.s,.s,.s,.s,.l 25,.l 78]] [.t 178,.t 180,.t 183],none,1,[]⟩,
  ⟨none,.store 14 (.t 6) (.t 177),none,0,[]⟩,
  ⟨some 7,.mov (.t 184),none,0,[]⟩]) (.ret [6,7]))))))))))
def zym:Cd:=zD5
def g16F (c0:Cd):Fn:=⟨185,[.cell 6 true 14,.t 7],[.a [.s,.s,.s,.s,.l 81,.l 81,.l 84,.l 78,.l 88,.l 67,.l 60,.s,.s,.s],.l 56],.lit,
 (.seq (.region [⟨some 3,.box 34 14 (.t 0),none,0,[]⟩,
  ⟨some 5,.box 37 11 (.t 2),none,0,[]⟩,
  ⟨some 6,.box 34 14 (.c (.agg [.sc (.int .u64 0),.sc (.int .u16 0),.sc (.int .i64 0),.sc (.bool false),.lit 0 true [],.lit 0 true [],.lit 0 true [],.lit 0 true [],.lit 0 true [],.lit 0 true [],.lit 0 true [],.sc (.int .u32 0),.sc (.int .i64 0),.sc (.int .i64 0)])),none,0,[]⟩,
  ⟨some 7,.nil 56,none,0,[]⟩]) (.seq (.seq (.region [⟨some 22,.fad (.t 5) 0,none,0,[]⟩,
  ⟨some 23,.load false 1 (.t 22),none,0,[]⟩,
  ⟨some 24,.call 39 [.s] [.t 23],none,0,[]⟩,
  ⟨some 25,.un .not (.t 24),none,0,[]⟩]) (.cond (.t 25) (.seq (.region [⟨some 26,.load true 14 (.t 3),none,0,[]⟩,
  ⟨none,.store 14 (.t 6) (.t 26),none,0,[]⟩,
  ⟨some 7,.nil 56,none,0,[]⟩]) (.ret [6,7])) .skip)) (.seq (.region [⟨some 27,.mov (.t 1),none,0,[]⟩,
  ⟨some 28,.fad (.t 5) 1,none,0,[]⟩,
  ⟨some 29,.load false 1 (.t 28),none,0,[]⟩,
  ⟨some 30,.build [.sc (.int .i64 0),.sc (.int .u32 0),.sc (.int .u8 0),.sc (.bool false),.sc (.int .u64 0),.sc (.string ⟨#[]⟩),.sc (.string ⟨#[]⟩),.sc (.int .u64 0),.sc (.int .u16 0),.lit 0 true [],.lit 0 true []] [(0,1,.c (.sc (.int .i64 6)))],none,0,[]⟩,
  ⟨some 31,.call 62 [.s,.s,.a [.s,.s,.s,.s,.s,.s,.s,.s,.s,.l 25,.l 78]] [.t 27,.t 29,.t 30],none,0,[]⟩,
  ⟨some 8,.mov (.t 31),none,0,[]⟩]) (.seq (.seq (.region [⟨some 32,.fad (.t 5) 0,none,0,[]⟩,
  ⟨some 33,.load false 1 (.t 32),none,0,[]⟩,
  ⟨some 34,.bin .eql .num (.t 33) (.c (.sc (.int .i64 1))),none,0,[]⟩,
  ⟨some 35,.mov (.t 34),none,0,[]⟩,
  ⟨some 36,.fad (.t 3) 3,some (35,true),0,[]⟩,
  ⟨some 37,.load false 1 (.t 36),some (35,true),0,[]⟩,
  ⟨some 38,.un .not (.t 37),some (35,true),0,[]⟩,
  ⟨some 39,.pick (.t 35) (.t 38) (.c (.sc (.bool false))),none,0,[]⟩]) (.cond (.t 39) (.seq (.region [⟨some 40,.load true 14 (.t 3),none,2,[]⟩,
  ⟨some 41,.mov (.t 1),none,0,[]⟩,
  ⟨some 42,.fad (.t 5) 1,none,0,[]⟩,
  ⟨some 43,.load false 1 (.t 42),none,0,[]⟩,
  ⟨some 44,.build [.sc (.int .i64 0),.sc (.int .u32 0),.sc (.int .u8 0),.sc (.bool false),.sc (.int .u64 0),.sc (.string ⟨#[]⟩),.sc (.string ⟨#[]⟩),.sc (.int .u64 0),.sc (.int .u16 0),.lit 0 true [],.lit 0 true []] [(0,1,.c (.sc (.int .i64 12))),(2,1,.c (.sc (.int .u8 17)))],none,0,[]⟩,
  ⟨some 45,.call 62 [.s,.s,.a [.s,.s,.s,.s,.s,.s,.s,.s,.s,.l 25,.l 78]] [.t 41,.t 43,.t 44],none,1,[]⟩,
  ⟨none,.store 14 (.t 6) (.t 40),none,0,[]⟩,
  ⟨some 7,.mov (.t 45),none,0,[]⟩]) (.ret [6,7])) .skip)) (.seg [8,3,1,5,6] [6,7] c0)))))⟩
def g16:Fn:=g16F zym
theorem cmp16:zaj Tryz.prog .lit [1000200,1000700056] 16=some g16:=by kernel_rfl
def p17:Lit (zaj Tryz.prog .lit [1000016] 17):=⟨_,by cbv⟩
def zD6:Cd:=lit (bdF p17.v 0 [])
def zyn:Cd:=zD6
def zD7 (c0:Cd):Cd:=lit (bdF p17.v 1 [c0])
def zyo:Cd:=zD7 zyn
def g17F (c1:Cd):Fn:=lit (fnF p17.v [.skip,c1])
def g17:Fn:=g17F zyo
theorem cmp17:zaj Tryz.prog .lit [1000016] 17=some g17:=p17.h.trans (by kernel_rfl)
def p18:Lit (zaj Tryz.prog .lit [1000016] 18):=⟨_,by cbv⟩
def zD8:Cd:=lit (bdF p18.v 0 [])
def ztg:Cd:=zD8
def g18F (c0:Cd):Fn:=lit (fnF p18.v [c0])
def g18:Fn:=g18F ztg
theorem cmp18:zaj Tryz.prog .lit [1000016] 18=some g18:=p18.h.trans (by kernel_rfl)
def p19:Lit (zaj Tryz.prog .lit [1000016] 19):=⟨_,by cbv⟩
def zD9:Cd:=lit (bdF p19.v 0 [])
def zth:Cd:=zD9
def g19F (c0:Cd):Fn:=lit (fnF p19.v [c0])
def g19:Fn:=g19F zth
theorem cmp19:zaj Tryz.prog .lit [1000016] 19=some g19:=p19.h.trans (by kernel_rfl)
def p20:Lit (zaj Tryz.prog .lit [1000016,18,35,1001200056,1000700056] 20):=⟨_,by cbv⟩
def zEa:Cd:=lit (bdF p20.v 0 [])
def zti:Cd:=zEa
def g20F (c0:Cd):Fn:=lit (fnF p20.v [c0])
def g20:Fn:=g20F zti
theorem cmp20:zaj Tryz.prog .lit [1000016,18,35,1001200056,1000700056] 20=some g20:=p20.h.trans (by kernel_rfl)
end Go.Ab.Tryz
