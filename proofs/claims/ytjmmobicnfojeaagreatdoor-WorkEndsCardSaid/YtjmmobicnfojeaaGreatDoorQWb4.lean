/- Our texts for this statement, merged: what its theorem leads to. -/
import Derived.Test.YtjmmobicnfojeaaGreatDoorQWb3
set_option linter.unusedVariables false
set_option linter.unusedSimpArgs false
noncomputable section
namespace Go.Ab.Tryz
open Go Go.Proofs
set_option maxRecDepth 100000
set_option maxHeartbeats 4000000
def zHl:Cd:=(.seq (.seq (.region [⟨some 18,.box 60 6 (.c (.agg [.sc (.int .i64 0),.sc (.int .i64 0),.sc (.string ⟨#[]⟩),.sc (.string ⟨#[]⟩),.sc (.bool false),.sc (.int .i64 0)])),none,0,[]⟩,
  ⟨some 19,.box 60 6 (.c (.agg [.sc (.int .i64 0),.sc (.int .i64 0),.sc (.string ⟨#[]⟩),.sc (.string ⟨#[]⟩),.sc (.bool false),.sc (.int .i64 0)])),none,0,[]⟩,
  ⟨some 20,.box 60 6 (.c (.agg [.sc (.int .i64 0),.sc (.int .i64 0),.sc (.string ⟨#[]⟩),.sc (.string ⟨#[]⟩),.sc (.bool false),.sc (.int .i64 0)])),none,0,[]⟩]) (.region [⟨some 99,.fad (.t 15) 10,none,0,[18,19,20]⟩,
  ⟨some 100,.load false 1 (.t 99),none,0,[18,19,20]⟩,
  ⟨some 101,.iadS 60 (.t 100) (.c (.sc (.int .i64 0))),none,0,[18,19,20]⟩,
  ⟨some 102,.load true 6 (.t 101),none,0,[18,19,20]⟩,
  ⟨some 103,.fad (.t 15) 10,none,2,[18,19,20]⟩,
  ⟨some 104,.load false 1 (.t 103),none,2,[18,19,20]⟩,
  ⟨some 105,.iadS 60 (.t 104) (.c (.sc (.int .i64 1))),none,2,[18,19,20]⟩,
  ⟨some 106,.load true 6 (.t 105),none,2,[18,19,20]⟩,
  ⟨some 107,.fad (.t 15) 10,none,2,[18,19,20]⟩,
  ⟨some 108,.load false 1 (.t 107),none,2,[18,19,20]⟩,
  ⟨some 109,.iadS 60 (.t 108) (.c (.sc (.int .i64 2))),none,2,[18,19,20]⟩,
  ⟨some 110,.load true 6 (.t 109),none,2,[18,19,20]⟩,
  ⟨some 18,.mov (.t 18),none,0,[]⟩,
  ⟨some 19,.mov (.t 19),none,0,[]⟩,
  ⟨some 20,.mov (.t 20),none,0,[]⟩,
  ⟨none,.store 6 (.t 18) (.t 102),none,1,[]⟩,
  ⟨none,.store 6 (.t 19) (.t 106),none,1,[]⟩,
  ⟨none,.store 6 (.t 20) (.t 110),none,0,[]⟩])) (.seq (.region [⟨some 111,.fad (.t 18) 5,none,0,[]⟩,
  ⟨some 112,.load false 1 (.t 111),none,0,[]⟩,
  ⟨some 113,.bin .eql .num (.t 112) (.c (.sc (.int .i64 0))),none,0,[]⟩,
  ⟨some 114,.mov (.t 113),none,0,[]⟩,
  ⟨some 115,.fad (.t 18) 4,some (114,true),0,[]⟩,
  ⟨some 116,.load false 1 (.t 115),some (114,true),0,[]⟩,
  ⟨some 117,.pick (.t 114) (.t 116) (.c (.sc (.bool false))),none,0,[]⟩,
  ⟨some 118,.mov (.t 117),none,0,[]⟩,
  ⟨some 119,.fad (.t 19) 5,some (118,true),0,[]⟩,
  ⟨some 120,.load false 1 (.t 119),some (118,true),0,[]⟩,
  ⟨some 121,.bin .eql .num (.t 120) (.c (.sc (.int .i64 0))),some (118,true),0,[]⟩,
  ⟨some 122,.pick (.t 118) (.t 121) (.c (.sc (.bool false))),none,0,[]⟩,
  ⟨some 123,.mov (.t 122),none,0,[]⟩,
  ⟨some 124,.fad (.t 19) 4,some (123,true),0,[]⟩,
  ⟨some 125,.load false 1 (.t 124),some (123,true),0,[]⟩,
  ⟨some 126,.pick (.t 123) (.t 125) (.c (.sc (.bool false))),none,0,[]⟩,
  ⟨some 127,.mov (.t 126),none,0,[]⟩,
  ⟨some 128,.fad (.t 19) 3,some (127,true),0,[]⟩,
  ⟨some 129,.load false 1 (.t 128),some (127,true),0,[]⟩,
  ⟨some 130,.mov (.t 2),some (127,true),0,[]⟩,
  ⟨some 131,.bin .eql .str (.t 129) (.t 130),some (127,true),0,[]⟩,
  ⟨some 132,.pick (.t 127) (.t 131) (.c (.sc (.bool false))),none,0,[]⟩,
  ⟨some 133,.mov (.t 132),none,0,[]⟩,
  ⟨some 134,.fad (.t 20) 5,some (133,true),0,[]⟩,
  ⟨some 135,.load false 1 (.t 134),some (133,true),0,[]⟩,
  ⟨some 136,.bin .eql .num (.t 135) (.c (.sc (.int .i64 0))),some (133,true),0,[]⟩,
  ⟨some 137,.pick (.t 133) (.t 136) (.c (.sc (.bool false))),none,0,[]⟩,
  ⟨some 138,.mov (.t 137),none,0,[]⟩,
  ⟨some 139,.fad (.t 20) 4,some (138,true),0,[]⟩,
  ⟨some 140,.load false 1 (.t 139),some (138,true),0,[]⟩,
  ⟨some 141,.mov (.t 3),some (138,true),0,[]⟩,
  ⟨some 142,.mov (.t 1),some (138,true),0,[]⟩,
  ⟨some 143,.bin .eql .str (.t 141) (.t 142),some (138,true),0,[]⟩,
  ⟨some 144,.bin .eql .bool (.t 140) (.t 143),some (138,true),0,[]⟩,
  ⟨some 145,.pick (.t 138) (.t 144) (.c (.sc (.bool false))),none,0,[]⟩,
  ⟨some 146,.mov (.t 145),none,0,[]⟩,
  ⟨some 147,.call 26 [] [],some (146,true),0,[]⟩,
  ⟨some 148,.pick (.t 146) (.t 147) (.c (.sc (.bool false))),none,0,[]⟩,
  ⟨some 8,.mov (.t 148),none,0,[]⟩]) (.ret [8])))
def b6_0:Cd:=zHl
def zHm (c0:Cd):Cd:=(.seq (.region [⟨some 39,.fad (.t 4) 3,none,0,[]⟩,
  ⟨none,.store 1 (.t 39) (.c (.sc (.bool true))),none,0,[]⟩,
  ⟨some 40,.fad (.t 4) 5,none,0,[]⟩,
  ⟨none,.store 1 (.t 40) (.c (.lit 0 true [])),none,0,[]⟩,
  ⟨some 41,.fad (.t 4) 7,none,0,[]⟩,
  ⟨none,.store 1 (.t 41) (.c (.lit 0 true [])),none,0,[]⟩,
  ⟨some 42,.fad (.t 4) 9,none,0,[]⟩,
  ⟨none,.store 1 (.t 42) (.c (.lit 0 true [])),none,0,[]⟩,
  ⟨some 43,.fad (.t 4) 10,none,0,[]⟩,
  ⟨none,.store 1 (.t 43) (.c (.lit 0 true [])),none,0,[]⟩]) (.seq (.region [⟨some 45,.load true 14 (.t 4),none,0,[]⟩,
  ⟨some 46,.mov (.t 1),none,0,[]⟩,
  ⟨some 47,.mov (.t 2),none,0,[]⟩,
  ⟨some 48,.call 27 [.a [.s,.s,.s,.s,.l 81,.l 81,.l 84,.l 78,.l 88,.l 67,.l 60,.s,.s,.s],.s,.s,.s] [.t 45,.c (.sc (.int .i64 2)),.t 46,.t 47],none,0,[]⟩,
  ⟨some 44,.mov (.t 48),none,0,[]⟩,
  ⟨some 49,.ext (.t 44) 0,none,0,[]⟩,
  ⟨some 50,.ext (.t 44) 1,none,0,[]⟩,
  ⟨some 51,.ext (.t 44) 2,none,0,[]⟩,
  ⟨some 9,.box 34 14 (.c (.agg [.sc (.int .u64 0),.sc (.int .u16 0),.sc (.int .i64 0),.sc (.bool false),.lit 0 true [],.lit 0 true [],.lit 0 true [],.lit 0 true [],.lit 0 true [],.lit 0 true [],.lit 0 true [],.sc (.int .u32 0),.sc (.int .i64 0),.sc (.int .i64 0)])),none,0,[]⟩,
  ⟨none,.store 14 (.t 9) (.t 49),none,0,[]⟩,
  ⟨some 10,.mov (.t 50),none,0,[]⟩,
  ⟨some 11,.mov (.t 51),none,0,[]⟩]) (.seq (.region [⟨some 53,.load true 14 (.t 9),none,0,[]⟩,
  ⟨some 54,.mov (.t 1),none,0,[]⟩,
  ⟨some 55,.call 27 [.a [.s,.s,.s,.s,.l 81,.l 81,.l 84,.l 78,.l 88,.l 67,.l 60,.s,.s,.s],.s,.s,.s] [.t 53,.c (.sc (.int .i64 3)),.t 54,.c (.sc (.string ⟨#[]⟩))],none,0,[]⟩,
  ⟨some 52,.mov (.t 55),none,0,[]⟩,
  ⟨some 56,.ext (.t 52) 0,none,0,[]⟩,
  ⟨some 57,.ext (.t 52) 1,none,0,[]⟩,
  ⟨some 58,.ext (.t 52) 2,none,0,[]⟩,
  ⟨some 12,.box 34 14 (.c (.agg [.sc (.int .u64 0),.sc (.int .u16 0),.sc (.int .i64 0),.sc (.bool false),.lit 0 true [],.lit 0 true [],.lit 0 true [],.lit 0 true [],.lit 0 true [],.lit 0 true [],.lit 0 true [],.sc (.int .u32 0),.sc (.int .i64 0),.sc (.int .i64 0)])),none,0,[]⟩,
  ⟨none,.store 14 (.t 12) (.t 56),none,0,[]⟩,
  ⟨some 13,.mov (.t 57),none,0,[]⟩,
  ⟨some 14,.mov (.t 58),none,0,[]⟩]) (.seq (.region [⟨some 60,.load true 14 (.t 12),none,0,[]⟩,
  ⟨some 61,.mov (.t 3),none,0,[]⟩,
  ⟨some 62,.call 27 [.a [.s,.s,.s,.s,.l 81,.l 81,.l 84,.l 78,.l 88,.l 67,.l 60,.s,.s,.s],.s,.s,.s] [.t 60,.c (.sc (.int .i64 3)),.t 61,.c (.sc (.string ⟨#[]⟩))],none,0,[]⟩,
  ⟨some 59,.mov (.t 62),none,0,[]⟩,
  ⟨some 63,.ext (.t 59) 0,none,0,[]⟩,
  ⟨some 64,.ext (.t 59) 1,none,0,[]⟩,
  ⟨some 65,.ext (.t 59) 2,none,0,[]⟩,
  ⟨some 15,.box 34 14 (.c (.agg [.sc (.int .u64 0),.sc (.int .u16 0),.sc (.int .i64 0),.sc (.bool false),.lit 0 true [],.lit 0 true [],.lit 0 true [],.lit 0 true [],.lit 0 true [],.lit 0 true [],.lit 0 true [],.sc (.int .u32 0),.sc (.int .i64 0),.sc (.int .i64 0)])),none,0,[]⟩,
  ⟨none,.store 14 (.t 15) (.t 63),none,0,[]⟩,
  ⟨some 16,.mov (.t 64),none,0,[]⟩,
  ⟨some 17,.mov (.t 65),none,0,[]⟩]) (.seq (.seq (.region [⟨some 66,.mov (.t 11),none,0,[]⟩,
  ⟨some 67,.bin .neq .num (.t 66) (.c (.sc (.int .i64 0))),none,0,[]⟩,
  ⟨some 68,.mov (.t 67),none,0,[]⟩,
  ⟨some 69,.mov (.t 14),some (68,false),0,[]⟩,
  ⟨some 70,.bin .neq .num (.t 69) (.c (.sc (.int .i64 0))),some (68,false),0,[]⟩,
  ⟨some 71,.pick (.t 68) (.c (.sc (.bool true))) (.t 70),none,0,[]⟩,
  ⟨some 72,.mov (.t 71),none,0,[]⟩,
  ⟨some 73,.mov (.t 17),some (72,false),0,[]⟩,
  ⟨some 74,.bin .neq .num (.t 73) (.c (.sc (.int .i64 0))),some (72,false),0,[]⟩,
  ⟨some 75,.pick (.t 72) (.c (.sc (.bool true))) (.t 74),none,0,[]⟩,
  ⟨some 76,.mov (.t 75),none,0,[]⟩,
  ⟨some 77,.mov (.t 10),some (76,false),0,[]⟩,
  ⟨some 78,.len false (.t 77),some (76,false),0,[]⟩,
  ⟨some 79,.mov (.t 13),some (76,false),0,[]⟩,
  ⟨some 80,.len false (.t 79),some (76,false),0,[]⟩,
  ⟨some 81,.bin .add .num (.t 78) (.t 80),some (76,false),0,[]⟩,
  ⟨some 82,.mov (.t 16),some (76,false),0,[]⟩,
  ⟨some 83,.len false (.t 82),some (76,false),0,[]⟩,
  ⟨some 84,.bin .add .num (.t 81) (.t 83),some (76,false),0,[]⟩,
  ⟨some 85,.bin .gtr .num (.t 84) (.c (.sc (.int .i64 0))),some (76,false),0,[]⟩,
  ⟨some 86,.pick (.t 76) (.c (.sc (.bool true))) (.t 85),none,0,[]⟩,
  ⟨some 87,.mov (.t 86),none,0,[]⟩,
  ⟨some 88,.fad (.t 15) 9,some (87,false),0,[]⟩,
  ⟨some 89,.load false 1 (.t 88),some (87,false),0,[]⟩,
  ⟨some 90,.len false (.t 89),some (87,false),0,[]⟩,
  ⟨some 91,.bin .gtr .num (.t 90) (.c (.sc (.int .i64 0))),some (87,false),0,[]⟩,
  ⟨some 92,.pick (.t 87) (.c (.sc (.bool true))) (.t 91),none,0,[]⟩,
  ⟨some 93,.mov (.t 92),none,0,[]⟩,
  ⟨some 94,.fad (.t 15) 10,some (93,false),0,[]⟩,
  ⟨some 95,.load false 1 (.t 94),some (93,false),0,[]⟩,
  ⟨some 96,.len false (.t 95),some (93,false),0,[]⟩,
  ⟨some 97,.bin .neq .num (.t 96) (.c (.sc (.int .i64 3))),some (93,false),0,[]⟩,
  ⟨some 98,.pick (.t 93) (.c (.sc (.bool true))) (.t 97),none,0,[]⟩]) (.cond (.t 98) (.seq (.region [⟨some 8,.mov (.c (.sc (.bool false))),none,0,[]⟩]) (.ret [8])) .skip)) (.seg [15,2,3,1] [8] c0))))))
def b6_1:Cd:=zHm b6_0
def g6F (c1:Cd):Fn:=⟨149,[.t 8],[.s],.lit,
 (.seq (.region [⟨some 4,.box 34 14 (.t 0),none,0,[]⟩,
  ⟨some 8,.mov (.c (.sc (.bool false))),none,0,[]⟩]) (.seq (.seq (.region [⟨some 21,.load true 14 (.t 4),none,0,[]⟩,
  ⟨some 22,.call 11 [.a [.s,.s,.s,.s,.l 81,.l 81,.l 84,.l 78,.l 88,.l 67,.l 60,.s,.s,.s]] [.t 21],none,0,[]⟩,
  ⟨some 23,.mov (.t 22),none,0,[]⟩,
  ⟨some 24,.mov (.t 1),some (23,false),0,[]⟩,
  ⟨some 25,.call 25 [.s] [.t 24],some (23,false),0,[]⟩,
  ⟨some 26,.un .not (.t 25),some (23,false),0,[]⟩,
  ⟨some 27,.pick (.t 23) (.c (.sc (.bool true))) (.t 26),none,0,[]⟩,
  ⟨some 28,.mov (.t 27),none,0,[]⟩,
  ⟨some 29,.mov (.t 3),some (28,false),0,[]⟩,
  ⟨some 30,.call 25 [.s] [.t 29],some (28,false),0,[]⟩,
  ⟨some 31,.un .not (.t 30),some (28,false),0,[]⟩,
  ⟨some 32,.pick (.t 28) (.c (.sc (.bool true))) (.t 31),none,0,[]⟩,
  ⟨some 33,.mov (.t 32),none,0,[]⟩,
  ⟨some 34,.mov (.t 2),some (33,false),0,[]⟩,
  ⟨some 35,.len true (.t 34),some (33,false),0,[]⟩,
  ⟨some 36,.bin .gtr .num (.t 35) (.c (.sc (.int .i64 512))),some (33,false),0,[]⟩,
  ⟨some 37,.pick (.t 33) (.c (.sc (.bool true))) (.t 36),none,0,[]⟩]) (.cond (.t 37) (.seq (.region [⟨some 38,.call 26 [] [],none,0,[]⟩,
  ⟨some 8,.mov (.t 38),none,0,[]⟩]) (.ret [8])) .skip)) (.seg [4,2,3,1] [8] c1)))⟩
def g6:Fn:=g6F b6_1
theorem cmp6:zag Tryz.prog .lit [1000016] 6=some g6:=by kernel_rfl
def p7:Lit (zag Tryz.prog .lit [1000016] 7):=⟨_,by cbv⟩
def zHn:Cd:=lit (bdF p7.v 0 [])
def b7_0:Cd:=zHn
def zHo (c0:Cd):Cd:=lit (bdF p7.v 1 [c0])
def b7_1:Cd:=zHo b7_0
def g7F (c1:Cd):Fn:=lit (fnF p7.v [.skip,c1])
def g7:Fn:=g7F b7_1
theorem cmp7:zag Tryz.prog .lit [1000016] 7=some g7:=p7.h.trans (by kernel_rfl)
def p8:Lit (zag Tryz.prog .lit [1000016,90000006900060] 8):=⟨_,by cbv⟩
def zHp:Cd:=lit (bdF p8.v 0 [])
def b8_0:Cd:=zHp
def zHq:Cd:=lit (bdF p8.v 1 [])
def b8_1:Cd:=zHq
def zHr (c0:Cd) (c1:Cd):Cd:=lit (bdF p8.v 2 [c0,c1])
def b8_2:Cd:=zHr b8_0 b8_1
def g8F (c2:Cd):Fn:=lit (fnF p8.v [.skip,.skip,c2])
def g8:Fn:=g8F b8_2
theorem cmp8:zag Tryz.prog .lit [1000016,90000006900060] 8=some g8:=p8.h.trans (by kernel_rfl)
def p11:Lit (zag Tryz.prog .lit [1000016] 11):=⟨_,by cbv⟩
def zDR:Cd:=lit (bdF p11.v 0 [])
def ztd:Cd:=zDR
def zDS:Cd:=lit (bdF p11.v 1 [])
def zte:Cd:=zDS
def zDT (c0:Cd) (c1:Cd):Cd:=lit (bdF p11.v 2 [c0,c1])
def zyf:Cd:=zDT ztd zte
def g11F (c2:Cd):Fn:=lit (fnF p11.v [.skip,.skip,c2])
def g11:Fn:=g11F zyf
theorem cmp11:zag Tryz.prog .lit [1000016] 11=some g11:=p11.h.trans (by kernel_rfl)
def p14:Lit (zag Tryz.prog .keep [1000016] 14):=⟨_,by cbv⟩
def g14F:Fn:=lit (fnF p14.v [])
def g14:Fn:=g14F
theorem cmp14:zag Tryz.prog .keep [1000016] 14=some g14:=p14.h.trans (by kernel_rfl)
def p17:Lit (zag Tryz.prog .lit [1000016] 17):=⟨_,by cbv⟩
def zDU:Cd:=lit (bdF p17.v 0 [])
def zyg:Cd:=zDU
def zDV (c0:Cd):Cd:=lit (bdF p17.v 1 [c0])
def zyh:Cd:=zDV zyg
def g17F (c1:Cd):Fn:=lit (fnF p17.v [.skip,c1])
def g17:Fn:=g17F zyh
theorem cmp17:zag Tryz.prog .lit [1000016] 17=some g17:=p17.h.trans (by kernel_rfl)
def p18:Lit (zag Tryz.prog .lit [1000016] 18):=⟨_,by cbv⟩
def zDW:Cd:=lit (bdF p18.v 0 [])
def ztf:Cd:=zDW
def g18F (c0:Cd):Fn:=lit (fnF p18.v [c0])
def g18:Fn:=g18F ztf
theorem cmp18:zag Tryz.prog .lit [1000016] 18=some g18:=p18.h.trans (by kernel_rfl)
def p19:Lit (zag Tryz.prog .lit [1000016] 19):=⟨_,by cbv⟩
def zDX:Cd:=lit (bdF p19.v 0 [])
def ztg:Cd:=zDX
def g19F (c0:Cd):Fn:=lit (fnF p19.v [c0])
def g19:Fn:=g19F ztg
theorem cmp19:zag Tryz.prog .lit [1000016] 19=some g19:=p19.h.trans (by kernel_rfl)
def p20:Lit (zag Tryz.prog .lit [1000016,18,35,1001200056,1000700056] 20):=⟨_,by cbv⟩
def zDY:Cd:=lit (bdF p20.v 0 [])
def zth:Cd:=zDY
def g20F (c0:Cd):Fn:=lit (fnF p20.v [c0])
def g20:Fn:=g20F zth
theorem cmp20:zag Tryz.prog .lit [1000016,18,35,1001200056,1000700056] 20=some g20:=p20.h.trans (by kernel_rfl)
def p21:Lit (zag Tryz.prog .lit [1000016,1001100056,1000700056] 21):=⟨_,by cbv⟩
def zDZ:Cd:=lit (bdF p21.v 0 [])
def zyi:Cd:=zDZ
def zD0 (c0:Cd):Cd:=lit (bdF p21.v 1 [c0])
def zti:Cd:=zD0 zyi
def g21F (c1:Cd):Fn:=lit (fnF p21.v [.skip,c1])
def g21:Fn:=g21F zti
theorem cmp21:zag Tryz.prog .lit [1000016,1001100056,1000700056] 21=some g21:=p21.h.trans (by kernel_rfl)
def p22:Lit (zag Tryz.prog .lit [1000016,16,1001000056,1000900056] 22):=⟨_,by cbv⟩
def zD1:Cd:=lit (bdF p22.v 0 [])
def ztj:Cd:=zD1
def g22F (c0:Cd):Fn:=lit (fnF p22.v [c0])
def g22:Fn:=g22F ztj
theorem cmp22:zag Tryz.prog .lit [1000016,16,1001000056,1000900056] 22=some g22:=p22.h.trans (by kernel_rfl)
def p23:Lit (zag Tryz.prog .lit [1000016,1001000056,1000900056] 23):=⟨_,by cbv⟩
def zD2:Cd:=lit (bdF p23.v 0 [])
def ztl:Cd:=zD2
def g23F (c0:Cd):Fn:=lit (fnF p23.v [c0])
def g23:Fn:=g23F ztl
theorem cmp23:zag Tryz.prog .lit [1000016,1001000056,1000900056] 23=some g23:=p23.h.trans (by kernel_rfl)
def p24:Lit (zag Tryz.prog .lit [1000016] 24):=⟨_,by cbv⟩
def g24F:Fn:=lit (fnF p24.v [])
def g24:Fn:=g24F
theorem cmp24:zag Tryz.prog .lit [1000016] 24=some g24:=p24.h.trans (by kernel_rfl)
def p25:Lit (zag Tryz.prog .lit [1000016] 25):=⟨_,by cbv⟩
def g25F:Fn:=lit (fnF p25.v [])
def g25:Fn:=g25F
theorem cmp25:zag Tryz.prog .lit [1000016] 25=some g25:=p25.h.trans (by kernel_rfl)
def p26:Lit (zag Tryz.prog .lit [1000016] 26):=⟨_,by cbv⟩
def g26F:Fn:=lit (fnF p26.v [])
def g26:Fn:=g26F
theorem cmp26:zag Tryz.prog .lit [1000016] 26=some g26:=p26.h.trans (by kernel_rfl)
end Go.Ab.Tryz
