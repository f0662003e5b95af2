/- Our texts for this statement, merged: what its theorem leads to. -/
import Derived.Test.YtdjoeakbjackbaaGreatDoorQLm3
set_option linter.unusedVariables false
set_option linter.unusedSimpArgs false
noncomputable section
namespace Go.Ab.Tryz
open Go Go.Proofs
set_option maxRecDepth 100000
set_option maxHeartbeats 4000000
def p4:Lit (zac Tryz.prog .lit [1000200] 4):=⟨_,by cbv⟩
def g4F:Fn:=lit (fnF p4.v [])
def g4:Fn:=g4F
theorem cmp4:zac Tryz.prog .lit [1000200] 4=some g4:=p4.h.trans (by kernel_rfl)
def p12:Lit (zac Tryz.prog .lit [1000016] 12):=⟨_,by cbv⟩
def zDm:Cd:=lit (bdF p12.v 0 [])
def zsX:Cd:=zDm
def zDn:Cd:=lit (bdF p12.v 1 [])
def zsY:Cd:=zDn
def zDo(c0:Cd)(c1:Cd):Cd:=lit (bdF p12.v 2 [c0,c1])
def zxQ:Cd:=zDo zsX zsY
def g12F(c2:Cd):Fn:=lit (fnF p12.v [.skip,.skip,c2])
def g12:Fn:=g12F zxQ
theorem cmp12:zac Tryz.prog .lit [1000016] 12=some g12:=p12.h.trans (by kernel_rfl)
def g14F:Fn:=⟨83,[.t 0],[.s],.lit,
 (.seq (.region [⟨some 0,.mov (.c (.sc (.bool false))),none,0,[]⟩]) (.seq (.region [⟨some 7,.build [.sc (.int .u64 0),.sc (.int .u16 0)] [(0,1,.c (.sc (.int .u64 9))),(1,1,.c (.sc (.int .u16 1)))],none,0,[]⟩,
  ⟨some 8,.build [.sc (.int .u64 0),.sc (.int .u16 0),.sc (.int .i64 0),.sc (.bool false),.lit 0 true [],.lit 0 true [],.lit 0 true [],.lit 0 true [],.lit 0 true [],.lit 0 true [],.lit 0 true [],.sc (.int .u32 0),.sc (.int .i64 0),.sc (.int .i64 0)] [(0,2,.t 7)],none,0,[]⟩,
  ⟨some 1,.box 34 14 (.c (.agg [.sc (.int .u64 0),.sc (.int .u16 0),.sc (.int .i64 0),.sc (.bool false),.lit 0 true [],.lit 0 true [],.lit 0 true [],.lit 0 true [],.lit 0 true [],.lit 0 true [],.lit 0 true [],.sc (.int .u32 0),.sc (.int .i64 0),.sc (.int .i64 0)])),none,0,[]⟩,
  ⟨none,.store 14 (.t 1) (.t 8),none,0,[]⟩]) (.seq (.region [⟨some 9,.build [.sc (.int .u64 0),.sc (.int .u16 0)] [(0,1,.c (.sc (.int .u64 3))),(1,1,.c (.sc (.int .u16 2)))],none,0,[]⟩,
  ⟨some 10,.build [.sc (.int .u32 0),.sc (.int .i64 0),.sc (.int .i64 0),.sc (.int .i64 0),.sc (.int .u64 0),.sc (.int .u16 0),.sc (.int .i64 0)] [(1,1,.c (.sc (.int .i64 3))),(2,1,.c (.sc (.int .i64 1))),(4,2,.t 9)],none,0,[]⟩,
  ⟨some 2,.box 36 7 (.c (.agg [.sc (.int .u32 0),.sc (.int .i64 0),.sc (.int .i64 0),.sc (.int .i64 0),.sc (.int .u64 0),.sc (.int .u16 0),.sc (.int .i64 0)])),none,0,[]⟩,
  ⟨none,.store 7 (.t 2) (.t 10),none,0,[]⟩]) (.seq (.region [⟨some 12,.load true 14 (.t 1),none,0,[]⟩,
  ⟨some 13,.load true 7 (.t 2),none,0,[]⟩,
  ⟨some 14,.build [.sc (.int .u64 0),.sc (.int .u16 0)] [(0,1,.c (.sc (.int .u64 5))),(1,1,.c (.sc (.int .u16 4)))],none,0,[]⟩,
  ⟨some 15,.fad (.t 1) 0,none,0,[]⟩,
  ⟨some 16,.load true 2 (.t 15),none,0,[]⟩,
  ⟨some 17,.build [.sc (.int .u64 0),.sc (.int .u16 0)] [(0,1,.c (.sc (.int .u64 5))),(1,1,.c (.sc (.int .u16 4)))],none,0,[]⟩,
  ⟨some 18,.bsl 25 2 (.a [.s,.s]) [.t 14,.t 16,.t 17],none,0,[]⟩,
  ⟨some 19,.build [.sc (.int .i64 0),.sc (.int .u32 0),.sc (.int .u8 0),.sc (.bool false),.sc (.int .u64 0),.sc (.string ⟨#[]⟩),.sc (.string ⟨#[]⟩),.sc (.int .u64 0),.sc (.int .u16 0),.lit 0 true [],.lit 0 true []] [(0,1,.c (.sc (.int .i64 4))),(9,1,.t 18)],none,0,[]⟩,
  ⟨some 20,.call 16 [.a [.s,.s,.s,.s,.l 55,.l 55,.l 82,.l 76,.l 36,.l 57,.l 74,.s,.s,.s],.a [.s,.s,.s,.s,.s,.s,.s],.a [.s,.s,.s,.s,.s,.s,.s,.s,.s,.l 25,.l 76]] [.t 12,.t 13,.t 19],none,0,[]⟩,
  ⟨some 11,.mov (.t 20),none,0,[]⟩,
  ⟨some 21,.ext (.t 11) 0,none,0,[]⟩,
  ⟨some 22,.ext (.t 11) 1,none,0,[]⟩,
  ⟨some 3,.box 34 14 (.c (.agg [.sc (.int .u64 0),.sc (.int .u16 0),.sc (.int .i64 0),.sc (.bool false),.lit 0 true [],.lit 0 true [],.lit 0 true [],.lit 0 true [],.lit 0 true [],.lit 0 true [],.lit 0 true [],.sc (.int .u32 0),.sc (.int .i64 0),.sc (.int .i64 0)])),none,0,[]⟩,
  ⟨none,.store 14 (.t 3) (.t 21),none,0,[]⟩,
  ⟨some 4,.mov (.t 22),none,0,[]⟩]) (.seq (.region [⟨some 24,.load true 14 (.t 3),none,0,[]⟩,
  ⟨some 25,.load true 7 (.t 2),none,0,[]⟩,
  ⟨some 26,.call 20 [.a [.s,.s,.s,.s,.l 55,.l 55,.l 82,.l 76,.l 36,.l 57,.l 74,.s,.s,.s],.a [.s,.s,.s,.s,.s,.s,.s]] [.t 24,.t 25],none,0,[]⟩,
  ⟨some 23,.mov (.t 26),none,0,[]⟩,
  ⟨some 27,.ext (.t 23) 0,none,0,[]⟩,
  ⟨some 28,.ext (.t 23) 1,none,0,[]⟩,
  ⟨some 5,.box 34 14 (.c (.agg [.sc (.int .u64 0),.sc (.int .u16 0),.sc (.int .i64 0),.sc (.bool false),.lit 0 true [],.lit 0 true [],.lit 0 true [],.lit 0 true [],.lit 0 true [],.lit 0 true [],.lit 0 true [],.sc (.int .u32 0),.sc (.int .i64 0),.sc (.int .i64 0)])),none,0,[]⟩,
  ⟨none,.store 14 (.t 5) (.t 27),none,0,[]⟩,
  ⟨some 6,.mov (.t 28),none,0,[]⟩]) (.seq (.region [⟨some 29,.fad (.t 3) 5,none,0,[]⟩,
  ⟨some 30,.load false 1 (.t 29),none,0,[]⟩,
  ⟨some 31,.len false (.t 30),none,0,[]⟩,
  ⟨some 32,.bin .eql .num (.t 31) (.c (.sc (.int .i64 1))),none,0,[]⟩,
  ⟨some 33,.mov (.t 32),none,0,[]⟩,
  ⟨some 34,.fad (.t 3) 5,some (33,true),0,[]⟩,
  ⟨some 35,.load false 1 (.t 34),some (33,true),0,[]⟩,
  ⟨some 36,.iadS 55 (.t 35) (.c (.sc (.int .i64 0))),some (33,true),0,[]⟩,
  ⟨some 37,.fad (.t 36) 0,some (33,true),0,[]⟩,
  ⟨some 38,.load true 2 (.t 37),some (33,true),0,[]⟩,
  ⟨some 39,.fad (.t 2) 4,some (33,true),0,[]⟩,
  ⟨some 40,.load true 2 (.t 39),some (33,true),0,[]⟩,
  ⟨some 41,.eqs false [.num,.num] (.t 38) (.t 40),some (33,true),0,[]⟩,
  ⟨some 42,.pick (.t 33) (.t 41) (.c (.sc (.bool false))),none,0,[]⟩,
  ⟨some 43,.mov (.t 42),none,0,[]⟩,
  ⟨some 44,.mov (.t 4),some (43,true),0,[]⟩,
  ⟨some 45,.len false (.t 44),some (43,true),0,[]⟩,
  ⟨some 46,.bin .eql .num (.t 45) (.c (.sc (.int .i64 1))),some (43,true),0,[]⟩,
  ⟨some 47,.pick (.t 43) (.t 46) (.c (.sc (.bool false))),none,0,[]⟩,
  ⟨some 48,.mov (.t 47),none,0,[]⟩,
  ⟨some 49,.mov (.t 4),some (48,true),0,[]⟩,
  ⟨some 50,.iadS 78 (.t 49) (.c (.sc (.int .i64 0))),some (48,true),0,[]⟩,
  ⟨some 51,.fad (.t 50) 2,some (48,true),0,[]⟩,
  ⟨some 52,.fad (.t 51) 0,some (48,true),0,[]⟩,
  ⟨some 53,.load false 1 (.t 52),some (48,true),0,[]⟩,
  ⟨some 54,.bin .eql .num (.t 53) (.c (.sc (.int .i64 11))),some (48,true),0,[]⟩,
  ⟨some 55,.pick (.t 48) (.t 54) (.c (.sc (.bool false))),none,0,[]⟩,
  ⟨some 56,.mov (.t 55),none,0,[]⟩,
  ⟨some 57,.mov (.t 4),some (56,true),0,[]⟩,
  ⟨some 58,.iadS 78 (.t 57) (.c (.sc (.int .i64 0))),some (56,true),0,[]⟩,
  ⟨some 59,.fad (.t 58) 0,some (56,true),0,[]⟩,
  ⟨some 60,.fad (.t 59) 1,some (56,true),0,[]⟩,
  ⟨some 61,.load false 1 (.t 60),some (56,true),0,[]⟩,
  ⟨some 62,.bin .eql .num (.t 61) (.c (.sc (.int .u16 4))),some (56,true),0,[]⟩,
  ⟨some 63,.pick (.t 56) (.t 62) (.c (.sc (.bool false))),none,0,[]⟩,
  ⟨some 64,.mov (.t 63),none,0,[]⟩,
  ⟨some 65,.fad (.t 5) 5,some (64,true),0,[]⟩,
  ⟨some 66,.load false 1 (.t 65),some (64,true),0,[]⟩,
  ⟨some 67,.len false (.t 66),some (64,true),0,[]⟩,
  ⟨some 68,.bin .eql .num (.t 67) (.c (.sc (.int .i64 1))),some (64,true),0,[]⟩,
  ⟨some 69,.pick (.t 64) (.t 68) (.c (.sc (.bool false))),none,0,[]⟩,
  ⟨some 70,.mov (.t 69),none,0,[]⟩,
  ⟨some 71,.fad (.t 5) 5,some (70,true),0,[]⟩,
  ⟨some 72,.load false 1 (.t 71),some (70,true),0,[]⟩,
  ⟨some 73,.iadS 55 (.t 72) (.c (.sc (.int .i64 0))),some (70,true),0,[]⟩,
  ⟨some 74,.fad (.t 73) 2,some (70,true),0,[]⟩,
  ⟨some 75,.load false 1 (.t 74),some (70,true),0,[]⟩,
  ⟨some 76,.bin .eql .num (.t 75) (.c (.sc (.int .i64 1))),some (70,true),0,[]⟩,
  ⟨some 77,.pick (.t 70) (.t 76) (.c (.sc (.bool false))),none,0,[]⟩,
  ⟨some 78,.mov (.t 77),none,0,[]⟩,
  ⟨some 79,.mov (.t 6),some (78,true),0,[]⟩,
  ⟨some 80,.len false (.t 79),some (78,true),0,[]⟩,
  ⟨some 81,.bin .eql .num (.t 80) (.c (.sc (.int .i64 0))),some (78,true),0,[]⟩,
  ⟨some 82,.pick (.t 78) (.t 81) (.c (.sc (.bool false))),none,0,[]⟩,
  ⟨some 0,.mov (.t 82),none,0,[]⟩]) (.ret [0])))))))⟩
def g14:Fn:=g14F
theorem cmp14:zac Tryz.prog .lit [1000200] 14=some g14:=by kernel_rfl
def p15:Lit (zac Tryz.prog .keep [1000016] 15):=⟨_,by cbv⟩
def g15F:Fn:=lit (fnF p15.v [])
def g15:Fn:=g15F
theorem cmp15:zac Tryz.prog .keep [1000016] 15=some g15:=p15.h.trans (by kernel_rfl)
def p16:Lit (zac Tryz.prog .lit [1000200,12,1000800078,1000900078,1000700078] 16):=⟨_,by cbv⟩
def g16F:Fn:=lit (fnF p16.v [])
def g16:Fn:=g16F
theorem cmp16:zac Tryz.prog .lit [1000200,12,1000800078,1000900078,1000700078] 16=some g16:=p16.h.trans (by kernel_rfl)
def p18:Lit (zac Tryz.prog .lit [1000016] 18):=⟨_,by cbv⟩
def zDp:Cd:=lit (bdF p18.v 0 [])
def zxR:Cd:=zDp
def zDq(c0:Cd):Cd:=lit (bdF p18.v 1 [c0])
def zxS:Cd:=zDq zxR
def g18F(c1:Cd):Fn:=lit (fnF p18.v [.skip,c1])
def g18:Fn:=g18F zxS
theorem cmp18:zac Tryz.prog .lit [1000016] 18=some g18:=p18.h.trans (by kernel_rfl)
def zDr:Cd:=(.seq (.seq (.region [⟨some 11,.mov (.t 5),none,0,[]⟩,
  ⟨some 12,.mov (.t 0),none,0,[]⟩,
  ⟨some 13,.len false (.t 12),none,0,[]⟩,
  ⟨some 14,.bin .lss .num (.t 11) (.t 13),none,0,[]⟩]) (.cond (.t 14) .skip (.exit 0 []))) (.seq (.block 1 (.seq (.region [⟨some 17,.mov (.t 0),none,0,[]⟩,
  ⟨some 18,.mov (.t 5),none,0,[]⟩,
  ⟨some 19,.iadS 78 (.t 17) (.t 18),none,0,[]⟩,
  ⟨some 20,.fad (.t 19) 0,none,0,[]⟩,
  ⟨some 21,.load true 2 (.t 20),none,0,[]⟩,
  ⟨some 22,.mov (.t 1),none,0,[]⟩,
  ⟨some 23,.mov (.t 5),none,0,[]⟩,
  ⟨some 24,.iadS 78 (.t 22) (.t 23),none,0,[]⟩,
  ⟨some 25,.fad (.t 24) 0,none,0,[]⟩,
  ⟨some 26,.load true 2 (.t 25),none,0,[]⟩,
  ⟨some 27,.eqs true [.num,.num] (.t 21) (.t 26),none,0,[]⟩,
  ⟨some 28,.mov (.t 27),none,0,[]⟩,
  ⟨some 29,.mov (.t 0),some (28,false),0,[]⟩,
  ⟨some 30,.mov (.t 5),some (28,false),0,[]⟩,
  ⟨some 31,.iadS 78 (.t 29) (.t 30),some (28,false),0,[]⟩,
  ⟨some 32,.fad (.t 31) 2,some (28,false),0,[]⟩,
  ⟨some 33,.load true 11 (.t 32),some (28,false),0,[]⟩,
  ⟨some 34,.mov (.t 1),some (28,false),0,[]⟩,
  ⟨some 35,.mov (.t 5),some (28,false),0,[]⟩,
  ⟨some 36,.iadS 78 (.t 34) (.t 35),some (28,false),0,[]⟩,
  ⟨some 37,.fad (.t 36) 2,some (28,false),0,[]⟩,
  ⟨some 38,.load true 11 (.t 37),some (28,false),0,[]⟩,
  ⟨some 39,.call 60 [.a [.s,.s,.s,.s,.s,.s,.s,.s,.s,.l 25,.l 76],.a [.s,.s,.s,.s,.s,.s,.s,.s,.s,.l 25,.l 76]] [.t 33,.t 38],some (28,false),0,[]⟩,
  ⟨some 40,.un .not (.t 39),some (28,false),0,[]⟩,
  ⟨some 41,.pick (.t 28) (.c (.sc (.bool true))) (.t 40),none,0,[]⟩]) (.cond (.t 41) (.seq (.region [⟨some 4,.mov (.c (.sc (.bool false))),none,0,[]⟩]) (.ret [4])) .skip))) (.region [⟨some 15,.mov (.t 5),none,0,[]⟩,
  ⟨some 16,.bin .add .num (.t 15) (.c (.sc (.int .i64 1))),none,0,[]⟩,
  ⟨some 5,.mov (.t 16),none,0,[]⟩])))
def zsZ:Cd:=zDr
def g19F(c0:Cd):Fn:=⟨42,[.t 4],[.s],.lit,
 (.seq (.region [⟨some 4,.mov (.c (.sc (.bool false))),none,0,[]⟩]) (.seq (.seq (.region [⟨some 6,.mov (.t 0),none,0,[]⟩,
  ⟨some 7,.len false (.t 6),none,0,[]⟩,
  ⟨some 8,.mov (.t 1),none,0,[]⟩,
  ⟨some 9,.len false (.t 8),none,0,[]⟩,
  ⟨some 10,.bin .neq .num (.t 7) (.t 9),none,0,[]⟩]) (.cond (.t 10) (.seq (.region [⟨some 4,.mov (.c (.sc (.bool false))),none,0,[]⟩]) (.ret [4])) .skip)) (.seq (.seq (.region [⟨some 5,.mov (.c (.sc (.int .i64 0))),none,0,[]⟩]) (.block 0 (.loop [0,1,5] c0))) (.seq (.region [⟨some 4,.mov (.c (.sc (.bool true))),none,0,[]⟩]) (.ret [4])))))⟩
def g19:Fn:=g19F zsZ
theorem cmp19:zac Tryz.prog .lit [1000016] 19=some g19:=by kernel_rfl
def p20:Lit (zac Tryz.prog .lit [1000200,7,1000500078] 20):=⟨_,by cbv⟩
def g20F:Fn:=lit (fnF p20.v [])
def g20:Fn:=g20F
theorem cmp20:zac Tryz.prog .lit [1000200,7,1000500078] 20=some g20:=p20.h.trans (by kernel_rfl)
def p21:Lit (zac Tryz.prog .lit [1000200,1000500078] 21):=⟨_,by cbv⟩
def g21F:Fn:=lit (fnF p21.v [])
def g21:Fn:=g21F
theorem cmp21:zac Tryz.prog .lit [1000200,1000500078] 21=some g21:=p21.h.trans (by kernel_rfl)
def p22:Lit (zac Tryz.prog .keep [1000200,13,1000600078,1000500078] 22):=⟨_,by cbv⟩
def zDs:Cd:=lit (bdF p22.v 0 [])
def zs0:Cd:=zDs
def g22F(c0:Cd):Fn:=lit (fnF p22.v [c0])
def g22:Fn:=g22F zs0
theorem cmp22:zac Tryz.prog .keep [1000200,13,1000600078,1000500078] 22=some g22:=p22.h.trans (by kernel_rfl)
def zDt:Cd:=(.seq (.seq (.region [⟨some 37,.mov (.t 9),none,0,[]⟩,
  ⟨some 38,.fad (.t 2) 5,none,0,[]⟩,
  ⟨some 39,.load false 1 (.t 38),none,0,[]⟩,
  ⟨some 40,.len false (.t 39),none,0,[]⟩,
  ⟨some 41,.bin .lss .num (.t 37) (.t 40),none,0,[]⟩]) (.cond (.t 41) .skip (.exit 2 [8,7,1,2,6,4]))) (.seq (.block 3 (.region [⟨some 44,.mov (.t 8),none,0,[]⟩,
  ⟨some 45,.mov (.t 44),none,0,[]⟩,
  ⟨some 46,.fad (.t 2) 5,some (45,false),0,[]⟩,
  ⟨some 47,.load false 1 (.t 46),some (45,false),0,[]⟩,
  ⟨some 48,.mov (.t 9),some (45,false),0,[]⟩,
  ⟨some 49,.iadS 55 (.t 47) (.t 48),some (45,false),0,[]⟩,
  ⟨some 50,.fad (.t 49) 0,some (45,false),0,[]⟩,
  ⟨some 51,.load true 2 (.t 50),some (45,false),0,[]⟩,
  ⟨some 52,.mov (.t 1),some (45,false),0,[]⟩,
  ⟨some 53,.mov (.t 7),some (45,false),0,[]⟩,
  ⟨some 54,.iadS 25 (.t 52) (.t 53),some (45,false),0,[]⟩,
  ⟨some 55,.load true 2 (.t 54),some (45,false),0,[]⟩,
  ⟨some 56,.eqs false [.num,.num] (.t 51) (.t 55),some (45,false),0,[]⟩,
  ⟨some 57,.pick (.t 45) (.c (.sc (.bool true))) (.t 56),none,0,[]⟩,
  ⟨some 8,.mov (.t 57),none,0,[]⟩])) (.region [⟨some 42,.mov (.t 9),none,0,[]⟩,
  ⟨some 43,.bin .add .num (.t 42) (.c (.sc (.int .i64 1))),none,0,[]⟩,
  ⟨some 9,.mov (.t 43),none,0,[]⟩])))
def zs1:Cd:=zDt
def zDu(c0:Cd):Cd:=(.seq (.seq (.region [⟨some 12,.mov (.t 7),none,0,[]⟩,
  ⟨some 13,.mov (.t 1),none,0,[]⟩,
  ⟨some 14,.len false (.t 13),none,0,[]⟩,
  ⟨some 15,.bin .lss .num (.t 12) (.t 14),none,0,[]⟩]) (.cond (.t 15) .skip (.exit 0 [2,6,4]))) (.seq (.block 1 (.seq (.region [⟨some 18,.mov (.t 1),none,0,[]⟩,
  ⟨some 19,.mov (.t 7),none,0,[]⟩,
  ⟨some 20,.iadS 25 (.t 18) (.t 19),none,0,[]⟩,
  ⟨some 21,.fad (.t 20) 1,none,0,[]⟩,
  ⟨some 22,.load false 1 (.t 21),none,0,[]⟩,
  ⟨some 23,.fad (.t 2) 0,none,0,[]⟩,
  ⟨some 24,.fad (.t 23) 1,none,0,[]⟩,
  ⟨some 25,.load false 1 (.t 24),none,0,[]⟩,
  ⟨some 26,.bin .eql .num (.t 22) (.t 25),none,0,[]⟩,
  ⟨some 27,.mov (.t 26),none,0,[]⟩,
  ⟨some 28,.fad (.t 2) 8,some (27,false),0,[]⟩,
  ⟨some 29,.load false 1 (.t 28),some (27,false),0,[]⟩,
  ⟨some 30,.mov (.t 1),some (27,false),0,[]⟩,
  ⟨some 31,.mov (.t 7),some (27,false),0,[]⟩,
  ⟨some 32,.iadS 25 (.t 30) (.t 31),some (27,false),0,[]⟩,
  ⟨some 33,.fad (.t 32) 1,some (27,false),0,[]⟩,
  ⟨some 34,.load false 1 (.t 33),some (27,false),0,[]⟩,
  ⟨some 35,.call 74 [.l 36,.s,.s] [.t 29,.c (.sc (.int .i64 3)),.t 34],some (27,false),0,[]⟩,
  ⟨some 36,.pick (.t 27) (.c (.sc (.bool true))) (.t 35),none,0,[]⟩,
  ⟨some 8,.mov (.t 36),none,0,[]⟩]) (.seq (.seq (.region [⟨some 9,.mov (.c (.sc (.int .i64 0))),none,0,[]⟩]) (.block 2 (.loop [9,8,7,1,2,6,4] c0))) (.seq (.region [⟨some 58,.mov (.t 8),none,0,[]⟩,
  ⟨some 59,.un .not (.t 58),none,0,[]⟩]) (.cond (.t 59) (.seq (.seq (.region [⟨some 10,.box 34 14 (.c (.agg [.sc (.int .u64 0),.sc (.int .u16 0),.sc (.int .i64 0),.sc (.bool false),.lit 0 true [],.lit 0 true [],.lit 0 true [],.lit 0 true [],.lit 0 true [],.lit 0 true [],.lit 0 true [],.sc (.int .u32 0),.sc (.int .i64 0),.sc (.int .i64 0)])),none,0,[]⟩]) (.region [⟨some 61,.load true 14 (.t 2),none,0,[10]⟩,
  ⟨some 62,.mov (.t 1),none,0,[]⟩,
  ⟨some 63,.mov (.t 7),none,0,[]⟩,
  ⟨some 64,.iadS 25 (.t 62) (.t 63),none,0,[10]⟩,
  ⟨some 65,.load true 2 (.t 64),none,0,[10]⟩,
  ⟨some 66,.build [.sc (.int .i64 0),.sc (.int .u32 0),.sc (.int .u8 0),.sc (.bool false),.sc (.int .u64 0),.sc (.string ⟨#[]⟩),.sc (.string ⟨#[]⟩),.sc (.int .u64 0),.sc (.int .u16 0),.lit 0 true [],.lit 0 true []] [(0,1,.c (.sc (.int .i64 11)))],none,0,[]⟩,
  ⟨some 67,.call 75 [.a [.s,.s,.s,.s,.l 55,.l 55,.l 82,.l 76,.l 36,.l 57,.l 74,.s,.s,.s],.a [.s,.s],.a [.s,.s,.s,.s,.s,.s,.s,.s,.s,.l 25,.l 76],.s,.s] [.t 61,.t 65,.t 66,.c (.sc (.int .i64 3)),.c (.sc (.int .i64 0))],none,0,[10]⟩,
  ⟨some 60,.mov (.t 67),none,0,[]⟩,
  ⟨some 68,.ext (.t 60) 0,none,0,[]⟩,
  ⟨some 69,.ext (.t 60) 1,none,0,[]⟩,
  ⟨some 10,.mov (.t 10),none,0,[]⟩,
  ⟨none,.store 14 (.t 10) (.t 68),none,0,[]⟩,
  ⟨some 11,.mov (.t 69),none,0,[]⟩])) (.seq (.region [⟨some 70,.load true 14 (.t 10),none,0,[]⟩,
  ⟨none,.store 14 (.t 2) (.t 70),none,0,[]⟩]) (.region [⟨some 71,.mov (.t 6),none,0,[]⟩,
  ⟨some 72,.mov (.t 11),none,0,[]⟩,
  ⟨some 73,.app 78 136 (.t 71) (.t 72),none,0,[]⟩,
  ⟨some 6,.mov (.t 73),none,0,[]⟩]))) .skip))))) (.region [⟨some 16,.mov (.t 7),none,0,[]⟩,
  ⟨some 17,.bin .add .num (.t 16) (.c (.sc (.int .i64 1))),none,0,[]⟩,
  ⟨some 7,.mov (.t 17),none,0,[]⟩])))
def zs2:Cd:=zDu zs1
def g23F(c1:Cd):Fn:=⟨76,[.cell 4 true 14,.t 5],[.a [.s,.s,.s,.s,.l 55,.l 55,.l 82,.l 76,.l 36,.l 57,.l 74,.s,.s,.s],.l 78],.keep,
 (.seq (.region [⟨some 2,.box 34 14 (.t 0),none,0,[]⟩,
  ⟨some 4,.box 34 14 (.c (.agg [.sc (.int .u64 0),.sc (.int .u16 0),.sc (.int .i64 0),.sc (.bool false),.lit 0 true [],.lit 0 true [],.lit 0 true [],.lit 0 true [],.lit 0 true [],.lit 0 true [],.lit 0 true [],.sc (.int .u32 0),.sc (.int .i64 0),.sc (.int .i64 0)])),none,0,[]⟩,
  ⟨some 5,.nil 78,none,0,[]⟩]) (.seq (.region [⟨some 6,.nil 78,none,0,[]⟩]) (.seq (.seq (.region [⟨some 7,.mov (.c (.sc (.int .i64 0))),none,0,[]⟩]) (.block 0 (.loop [1,7,2,6,4] c1))) (.seq (.region [⟨some 74,.load true 14 (.t 2),none,0,[]⟩,
  ⟨some 75,.mov (.t 6),none,0,[]⟩,
  ⟨none,.store 14 (.t 4) (.t 74),none,0,[]⟩,
  ⟨some 5,.mov (.t 75),none,0,[]⟩]) (.ret [4,5])))))⟩
def g23:Fn:=g23F zs2
theorem cmp23:zac Tryz.prog .keep [1000200,1000600078,1000500078] 23=some g23:=by kernel_rfl
def p25:Lit (zac Tryz.prog .lit [1000016] 25):=⟨_,by cbv⟩
def g25F:Fn:=lit (fnF p25.v [])
def g25:Fn:=g25F
theorem cmp25:zac Tryz.prog .lit [1000016] 25=some g25:=p25.h.trans (by kernel_rfl)
def p42:Lit (zac Tryz.prog .lit [1000016] 42):=⟨_,by cbv⟩
def zDv:Cd:=lit (bdF p42.v 0 [])
def zs3:Cd:=zDv
def g42F(c0:Cd):Fn:=lit (fnF p42.v [c0])
def g42:Fn:=g42F zs3
theorem cmp42:zac Tryz.prog .lit [1000016] 42=some g42:=p42.h.trans (by kernel_rfl)
def p49:Lit (zac Tryz.prog .lit [1000016,1000600055] 49):=⟨_,by cbv⟩
def zI5:Cd:=lit (bdF p49.v 0 [])
def b49_0:Cd:=zI5
def zI6(c0:Cd):Cd:=lit (bdF p49.v 1 [c0])
def b49_1:Cd:=zI6 b49_0
def g49F(c1:Cd):Fn:=lit (fnF p49.v [.skip,c1])
def g49:Fn:=g49F b49_1
theorem cmp49:zac Tryz.prog .lit [1000016,1000600055] 49=some g49:=p49.h.trans (by kernel_rfl)
def p50:Lit (zac Tryz.prog .lit [1000016,26,72,1000700078] 50):=⟨_,by cbv⟩
def zI7:Cd:=lit (bdF p50.v 0 [])
def b50_0:Cd:=zI7
def zI8(c0:Cd):Cd:=lit (bdF p50.v 1 [c0])
def b50_1:Cd:=zI8 b50_0
def g50F(c1:Cd):Fn:=lit (fnF p50.v [.skip,c1])
def g50:Fn:=g50F b50_1
theorem cmp50:zac Tryz.prog .lit [1000016,26,72,1000700078] 50=some g50:=p50.h.trans (by kernel_rfl)
def p51:Lit (zac Tryz.prog .lit [1000016,28,85,1000700078] 51):=⟨_,by cbv⟩
def zI9:Cd:=lit (bdF p51.v 0 [])
def b51_0:Cd:=zI9
def zJa(c0:Cd):Cd:=lit (bdF p51.v 1 [c0])
def b51_1:Cd:=zJa b51_0
def zJb(c1:Cd):Cd:=lit (bdF p51.v 2 [.skip,c1])
def b51_2:Cd:=zJb b51_1
def g51F(c2:Cd):Fn:=lit (fnF p51.v [.skip,.skip,c2])
def g51:Fn:=g51F b51_2
theorem cmp51:zac Tryz.prog .lit [1000016,28,85,1000700078] 51=some g51:=p51.h.trans (by kernel_rfl)
def p55:Lit (zac Tryz.prog .lit [1000016] 55):=⟨_,by cbv⟩
def zDw:Cd:=lit (bdF p55.v 0 [])
def zs4:Cd:=zDw
def g55F(c0:Cd):Fn:=lit (fnF p55.v [c0])
def g55:Fn:=g55F zs4
theorem cmp55:zac Tryz.prog .lit [1000016] 55=some g55:=p55.h.trans (by kernel_rfl)
def p56:Lit (zac Tryz.prog .lit [1000016] 56):=⟨_,by cbv⟩
def zDx:Cd:=lit (bdF p56.v 0 [])
def zs5:Cd:=zDx
def g56F(c0:Cd):Fn:=lit (fnF p56.v [c0])
def g56:Fn:=g56F zs5
theorem cmp56:zac Tryz.prog .lit [1000016] 56=some g56:=p56.h.trans (by kernel_rfl)
def p57:Lit (zac Tryz.prog .lit [1000016] 57):=⟨_,by cbv⟩
def zDy:Cd:=lit (bdF p57.v 0 [])
def zs6:Cd:=zDy
def g57F(c0:Cd):Fn:=lit (fnF p57.v [c0])
def g57:Fn:=g57F zs6
theorem cmp57:zac Tryz.prog .lit [1000016] 57=some g57:=p57.h.trans (by kernel_rfl)
def p58:Lit (zac Tryz.prog .lit [1000016] 58):=⟨_,by cbv⟩
def zDz:Cd:=lit (bdF p58.v 0 [])
def zs7:Cd:=zDz
def g58F(c0:Cd):Fn:=lit (fnF p58.v [c0])
def g58:Fn:=g58F zs7
theorem cmp58:zac Tryz.prog .lit [1000016] 58=some g58:=p58.h.trans (by kernel_rfl)
end Go.Ab.Tryz
