/- Our texts for this statement, merged: what its theorem leads to. -/
import Derived.Test.YtdjoeakbjackbaaGreatDoorQLx3
set_option linter.unusedVariables false
set_option linter.unusedSimpArgs false
noncomputable section
namespace Go.Ab.Tryz
open Go Go.Proofs
set_option maxRecDepth 100000
set_option maxHeartbeats 4000000
def p217:Lit (zae Tryz.prog .lit [1000016] 217):=⟨_,by cbv⟩
def zL1:Fn:=lit (fnF p217.v [])
def g217:Fn:=zL1
theorem zOP:zae Tryz.prog .lit [1000016] 217=some g217:=p217.h.trans (by kernel_rfl)
def p218:Lit (zae Tryz.prog .lit [1000016] 218):=⟨_,by cbv⟩
def zL2:Fn:=lit (fnF p218.v [])
def g218:Fn:=zL2
theorem zOQ:zae Tryz.prog .lit [1000016] 218=some g218:=p218.h.trans (by kernel_rfl)
def p219:Lit (zae Tryz.prog .mv [1000016] 219):=⟨_,by cbv⟩
def zrN:Cd:=lit (bdF p219.v 0 [])
def zch:Cd:=zrN
def zyz(c0:Cd):Fn:=lit (fnF p219.v [c0])
def g219:Fn:=zyz zch
theorem zOR:zae Tryz.prog .mv [1000016] 219=some g219:=p219.h.trans (by kernel_rfl)
def p225:Lit (zae Tryz.prog .lit [1000016] 225):=⟨_,by cbv⟩
def zL3:Fn:=lit (fnF p225.v [])
def g225:Fn:=zL3
theorem zOS:zae Tryz.prog .lit [1000016] 225=some g225:=p225.h.trans (by kernel_rfl)
def zL4:Fn:=⟨30,[.t 4],[.s],.lit,
 (.seq (.region [⟨some 2,.box 34 14 (.t 0),none,0,[]⟩,
  ⟨some 4,.mov (.c (.sc (.bool false))),none,0,[]⟩]) (.seq (.region [⟨some 5,.fad (.t 2) 4,none,0,[]⟩,
  ⟨some 6,.load false 1 (.t 5),none,0,[]⟩,
  ⟨some 7,.len false (.t 6),none,0,[]⟩,
  ⟨some 8,.bin .gtr .num (.t 7) (.c (.sc (.int .i64 0))),none,0,[]⟩,
  ⟨some 9,.mov (.t 8),none,0,[]⟩,
  ⟨some 10,.fad (.t 2) 4,some (9,true),0,[]⟩,
  ⟨some 11,.load false 1 (.t 10),some (9,true),0,[]⟩,
  ⟨some 12,.iadS 55 (.t 11) (.c (.sc (.int .i64 0))),some (9,true),0,[]⟩,
  ⟨some 13,.fad (.t 12) 2,some (9,true),0,[]⟩,
  ⟨some 14,.load false 1 (.t 13),some (9,true),0,[]⟩,
  ⟨some 15,.bin .leq .num (.t 14) (.c (.sc (.int .i64 0))),some (9,true),0,[]⟩,
  ⟨some 16,.pick (.t 9) (.t 15) (.c (.sc (.bool false))),none,0,[]⟩,
  ⟨some 17,.mov (.t 16),none,0,[]⟩,
  ⟨some 18,.fad (.t 2) 4,some (17,true),0,[]⟩,
  ⟨some 19,.load false 1 (.t 18),some (17,true),0,[]⟩,
  ⟨some 20,.iadS 55 (.t 19) (.c (.sc (.int .i64 0))),some (17,true),0,[]⟩,
  ⟨some 21,.fad (.t 20) 0,some (17,true),0,[]⟩,
  ⟨some 22,.fad (.t 21) 0,some (17,true),0,[]⟩,
  ⟨some 23,.load false 1 (.t 22),some (17,true),0,[]⟩,
  ⟨some 24,.mov (.t 1),some (17,true),0,[]⟩,
  ⟨some 25,.fad (.t 2) 0,some (17,true),0,[]⟩,
  ⟨some 26,.fad (.t 25) 0,some (17,true),0,[]⟩,
  ⟨some 27,.load false 1 (.t 26),some (17,true),0,[]⟩,
  ⟨some 28,.call 225 [.s,.s,.s] [.t 23,.t 24,.t 27],some (17,true),0,[]⟩,
  ⟨some 29,.pick (.t 17) (.t 28) (.c (.sc (.bool false))),none,0,[]⟩,
  ⟨some 4,.mov (.t 29),none,0,[]⟩]) (.ret [4])))⟩
def g226:Fn:=zL4
theorem zOT:zae Tryz.prog .lit [1000016] 226=some g226:=by kernel_rfl
def p227:Lit (zae Tryz.prog .lit [1000016,80000003200025,80000003900025,1001400025,1001000025] 227):=⟨_,by cbv⟩
def zFj:Cd:=lit (bdF p227.v 0 [])
def zrO:Cd:=zFj
def zFk:Cd:=lit (bdF p227.v 1 [])
def zrP:Cd:=zFk
def zL5(c0:Cd)(c1:Cd):Fn:=lit (fnF p227.v [c0,c1])
def g227:Fn:=zL5 zrO zrP
theorem zOU:zae Tryz.prog .lit [1000016,80000003200025,80000003900025,1001400025,1001000025] 227=some g227:=p227.h.trans (by kernel_rfl)
def zFl:Cd:=(.seq (.seq (.region [⟨some 22,.mov (.t 12),none,0,[]⟩,
  ⟨some 23,.mov (.t 2),none,0,[]⟩,
  ⟨some 24,.len false (.t 23),none,0,[]⟩,
  ⟨some 25,.bin .lss .num (.t 22) (.t 24),none,0,[]⟩]) (.cond (.t 25) .skip (.exit 0 [11,3,5,4]))) (.seq (.block 1 (.region [⟨some 28,.mov (.t 11),none,0,[]⟩,
  ⟨some 29,.mov (.t 2),none,0,[]⟩,
  ⟨some 30,.mov (.t 12),none,0,[]⟩,
  ⟨some 31,.iadS 82 (.t 29) (.t 30),none,0,[]⟩,
  ⟨some 32,.fad (.t 31) 1,none,0,[]⟩,
  ⟨some 33,.load true 2 (.t 32),none,0,[]⟩,
  ⟨some 34,.bsl 25 2 (.a [.s,.s]) [.t 33],none,0,[]⟩,
  ⟨some 35,.app 25 16 (.t 28) (.t 34),none,0,[]⟩,
  ⟨some 11,.mov (.t 35),none,0,[]⟩])) (.region [⟨some 26,.mov (.t 12),none,0,[]⟩,
  ⟨some 27,.bin .add .num (.t 26) (.c (.sc (.int .i64 1))),none,0,[]⟩,
  ⟨some 12,.mov (.t 27),none,0,[]⟩])))
def zrQ:Cd:=zFl
def zFm:Cd:=(.seq (.seq (.region [⟨some 73,.mov (.t 17),none,0,[]⟩,
  ⟨some 74,.mov (.t 14),none,0,[]⟩,
  ⟨some 75,.len false (.t 74),none,0,[]⟩,
  ⟨some 76,.bin .lss .num (.t 73) (.t 75),none,0,[]⟩,
  ⟨some 77,.mov (.t 76),none,0,[]⟩,
  ⟨some 78,.fad (.t 5) 0,some (77,true),0,[]⟩,
  ⟨some 79,.load false 1 (.t 78),some (77,true),0,[]⟩,
  ⟨some 80,.mov (.t 14),some (77,true),0,[]⟩,
  ⟨some 81,.mov (.t 17),some (77,true),0,[]⟩,
  ⟨some 82,.iadS 25 (.t 80) (.t 81),some (77,true),0,[]⟩,
  ⟨some 83,.fad (.t 82) 0,some (77,true),0,[]⟩,
  ⟨some 84,.load false 1 (.t 83),some (77,true),0,[]⟩,
  ⟨some 85,.call 211 [.s,.s] [.t 79,.t 84],some (77,true),0,[]⟩,
  ⟨some 86,.mov (.t 18),some (77,true),0,[]⟩,
  ⟨some 87,.bin .gtr .num (.t 85) (.t 86),some (77,true),0,[]⟩,
  ⟨some 88,.mov (.t 87),some (77,true),0,[]⟩,
  ⟨some 89,.fad (.t 5) 0,some (88,false),0,[]⟩,
  ⟨some 90,.load false 1 (.t 89),some (88,false),0,[]⟩,
  ⟨some 91,.mov (.t 14),some (88,false),0,[]⟩,
  ⟨some 92,.mov (.t 17),some (88,false),0,[]⟩,
  ⟨some 93,.iadS 25 (.t 91) (.t 92),some (88,false),0,[]⟩,
  ⟨some 94,.fad (.t 93) 0,some (88,false),0,[]⟩,
  ⟨some 95,.load false 1 (.t 94),some (88,false),0,[]⟩,
  ⟨some 96,.call 211 [.s,.s] [.t 90,.t 95],some (88,false),0,[]⟩,
  ⟨some 97,.mov (.t 18),some (88,false),0,[]⟩,
  ⟨some 98,.bin .eql .num (.t 96) (.t 97),some (88,false),0,[]⟩,
  ⟨some 99,.mov (.t 98),some (88,false),0,[]⟩,
  ⟨some 100,.mov (.t 14),some (99,true),0,[]⟩,
  ⟨some 101,.mov (.t 17),some (99,true),0,[]⟩,
  ⟨some 102,.iadS 25 (.t 100) (.t 101),some (99,true),0,[]⟩,
  ⟨some 103,.fad (.t 102) 1,some (99,true),0,[]⟩,
  ⟨some 104,.load false 1 (.t 103),some (99,true),0,[]⟩,
  ⟨some 105,.fad (.t 16) 1,some (99,true),0,[]⟩,
  ⟨some 106,.load false 1 (.t 105),some (99,true),0,[]⟩,
  ⟨some 107,.bin .lss .num (.t 104) (.t 106),some (99,true),0,[]⟩,
  ⟨some 108,.pick (.t 99) (.t 107) (.c (.sc (.bool false))),some (88,false),0,[]⟩,
  ⟨some 109,.pick (.t 88) (.c (.sc (.bool true))) (.t 108),some (77,true),0,[]⟩,
  ⟨some 110,.pick (.t 77) (.t 109) (.c (.sc (.bool false))),none,0,[]⟩]) (.cond (.t 110) .skip (.exit 4 [16,14,17,15,11,13,3,5,4]))) (.block 5 (.region [⟨some 111,.mov (.t 17),none,0,[]⟩,
  ⟨some 112,.bin .add .num (.t 111) (.c (.sc (.int .i64 1))),none,0,[]⟩,
  ⟨some 17,.mov (.t 112),none,0,[]⟩])))
def zrR:Cd:=zFm
def zFn(c1:Cd):Cd:=(.seq (.region [⟨some 57,.mov (.t 13),none,0,[]⟩,
  ⟨some 58,.load true 2 (.t 16),none,0,[]⟩,
  ⟨some 59,.bsl 25 2 (.a [.s,.s]) [.t 58],none,0,[]⟩,
  ⟨some 60,.app 25 16 (.t 57) (.t 59),none,0,[]⟩,
  ⟨some 13,.mov (.t 60),none,0,[]⟩]) (.seq (.seq (.region [⟨some 61,.fad (.t 5) 0,none,0,[]⟩,
  ⟨some 62,.load false 1 (.t 61),none,0,[]⟩,
  ⟨some 63,.fad (.t 16) 0,none,0,[]⟩,
  ⟨some 64,.load false 1 (.t 63),none,0,[]⟩,
  ⟨some 65,.mov (.t 3),none,0,[]⟩,
  ⟨some 66,.call 128 [.s,.s,.s] [.t 62,.t 64,.t 65],none,0,[]⟩,
  ⟨some 67,.un .not (.t 66),none,0,[]⟩]) (.cond (.t 67) (.exit 3 [15,11,13,3,5,4,14]) .skip)) (.seq (.region [⟨some 17,.mov (.c (.sc (.int .i64 0))),none,0,[]⟩]) (.seq (.region [⟨some 68,.fad (.t 5) 0,none,0,[]⟩,
  ⟨some 69,.load false 1 (.t 68),none,0,[]⟩,
  ⟨some 70,.fad (.t 16) 0,none,0,[]⟩,
  ⟨some 71,.load false 1 (.t 70),none,0,[]⟩,
  ⟨some 72,.call 211 [.s,.s] [.t 69,.t 71],none,0,[]⟩,
  ⟨some 18,.mov (.t 72),none,0,[]⟩]) (.seq (.block 4 (.loop [18,16,14,17,15,11,13,3,5,4] c1)) (.seq (.region [⟨some 113,.bsl 25 2 (.a [.s,.s]) [],none,0,[]⟩,
  ⟨some 114,.mov (.t 14),none,0,[]⟩,
  ⟨some 115,.mov (.t 17),none,0,[]⟩,
  ⟨some 116,.sls 25 (.t 114) none (some (.t 115)),none,0,[]⟩,
  ⟨some 117,.app 25 16 (.t 113) (.t 116),none,0,[]⟩,
  ⟨some 19,.mov (.t 117),none,0,[]⟩]) (.seq (.region [⟨some 118,.mov (.t 19),none,0,[]⟩,
  ⟨some 119,.load true 2 (.t 16),none,0,[]⟩,
  ⟨some 120,.bsl 25 2 (.a [.s,.s]) [.t 119],none,0,[]⟩,
  ⟨some 121,.app 25 16 (.t 118) (.t 120),none,0,[]⟩,
  ⟨some 19,.mov (.t 121),none,0,[]⟩]) (.region [⟨some 122,.mov (.t 19),none,0,[]⟩,
  ⟨some 123,.mov (.t 14),none,0,[]⟩,
  ⟨some 124,.mov (.t 17),none,0,[]⟩,
  ⟨some 125,.sls 25 (.t 123) (some (.t 124)) none,none,0,[]⟩,
  ⟨some 126,.app 25 16 (.t 122) (.t 125),none,0,[]⟩,
  ⟨some 14,.frz 25 (.t 126),none,0,[]⟩]))))))))
def zyi:Cd:=zFn zrR
def zFo(c2:Cd):Cd:=(.seq (.seq (.region [⟨some 36,.mov (.t 15),none,0,[]⟩,
  ⟨some 37,.mov (.t 11),none,0,[]⟩,
  ⟨some 38,.len false (.t 37),none,0,[]⟩,
  ⟨some 39,.bin .lss .num (.t 36) (.t 38),none,0,[]⟩]) (.cond (.t 39) .skip (.exit 2 [4,14]))) (.seq (.block 3 (.seq (.region [⟨some 42,.mov (.t 11),none,0,[]⟩,
  ⟨some 43,.mov (.t 15),none,0,[]⟩,
  ⟨some 44,.iadS 25 (.t 42) (.t 43),none,0,[]⟩,
  ⟨some 45,.load true 2 (.t 44),none,0,[]⟩,
  ⟨some 16,.box 25 2 (.c (.agg [.sc (.int .u64 0),.sc (.int .u16 0)])),none,0,[]⟩,
  ⟨none,.store 2 (.t 16) (.t 45),none,0,[]⟩]) (.seq (.seq (.region [⟨some 46,.mov (.t 13),none,0,[]⟩,
  ⟨some 47,.fad (.t 16) 1,none,0,[]⟩,
  ⟨some 48,.load false 1 (.t 47),none,0,[]⟩,
  ⟨some 49,.call 271 [.l 25,.s] [.t 46,.t 48],none,0,[]⟩,
  ⟨some 50,.mov (.t 49),none,0,[]⟩,
  ⟨some 51,.fad (.t 16) 1,some (50,false),0,[]⟩,
  ⟨some 52,.load false 1 (.t 51),some (50,false),0,[]⟩,
  ⟨some 53,.fad (.t 5) 1,some (50,false),0,[]⟩,
  ⟨some 54,.load false 1 (.t 53),some (50,false),0,[]⟩,
  ⟨some 55,.bin .eql .num (.t 52) (.t 54),some (50,false),0,[]⟩,
  ⟨some 56,.pick (.t 50) (.c (.sc (.bool true))) (.t 55),none,0,[]⟩]) (.cond (.t 56) (.exit 3 [15,11,13,3,5,4,14]) .skip)) (.seg [13,16,14,15,11,3,5,4] [15,11,13,3,5,4,14] c2)))) (.region [⟨some 40,.mov (.t 15),none,0,[]⟩,
  ⟨some 41,.bin .add .num (.t 40) (.c (.sc (.int .i64 1))),none,0,[]⟩,
  ⟨some 15,.mov (.t 41),none,0,[]⟩])))
def zrS:Cd:=zFo zyi
def zL6(c0:Cd)(c3:Cd):Fn:=⟨137,[.t 10],[.l 25],.lit,
 (.seq (.region [⟨some 5,.box 25 2 (.t 0),none,0,[]⟩,
  ⟨some 10,.nil 25,none,0,[]⟩]) (.seq (.region [⟨some 20,.mov (.t 1),none,0,[]⟩,
  ⟨some 21,.call 92 [.l 55] [.t 20],none,0,[]⟩,
  ⟨some 11,.mov (.t 21),none,0,[]⟩]) (.seq (.seq (.region [⟨some 12,.mov (.c (.sc (.int .i64 0))),none,0,[]⟩]) (.block 0 (.loop [2,12,11,3,5,4] c0))) (.seq (.region [⟨some 13,.nil 25,none,0,[]⟩]) (.seq (.region [⟨some 14,.frz 25 (.c (.lit 0 true [])),none,0,[]⟩]) (.seq (.seq (.region [⟨some 15,.mov (.c (.sc (.int .i64 0))),none,0,[]⟩]) (.block 2 (.loop [11,13,3,5,15,4,14] c3))) (.seq (.seq (.region [⟨some 127,.mov (.t 4),none,0,[]⟩,
  ⟨some 128,.bin .lss .num (.t 127) (.c (.sc (.int .i64 0))),none,0,[]⟩]) (.cond (.t 128) (.seq (.region [⟨some 10,.nil 25,none,0,[]⟩]) (.ret [10])) .skip)) (.seq (.seq (.region [⟨some 129,.mov (.t 14),none,0,[]⟩,
  ⟨some 130,.len false (.t 129),none,0,[]⟩,
  ⟨some 131,.mov (.t 4),none,0,[]⟩,
  ⟨some 132,.bin .gtr .num (.t 130) (.t 131),none,0,[]⟩]) (.cond (.t 132) (.region [⟨some 133,.mov (.t 14),none,0,[]⟩,
  ⟨some 134,.mov (.t 4),none,0,[]⟩,
  ⟨some 135,.sls 25 (.t 133) none (some (.t 134)),none,0,[]⟩,
  ⟨some 14,.frz 25 (.t 135),none,0,[]⟩]) .skip)) (.seq (.region [⟨some 136,.mov (.t 14),none,0,[]⟩,
  ⟨some 10,.mov (.t 136),none,0,[]⟩]) (.ret [10]))))))))))⟩
def g229:Fn:=zL6 zrQ zrS
theorem zOV:zae Tryz.prog .lit [1000016,80000001400025,1001000025,1001300025] 229=some g229:=by kernel_rfl
def p233:Lit (zae Tryz.prog .lit [1000016] 233):=⟨_,by cbv⟩
def zL7:Fn:=lit (fnF p233.v [])
def g233:Fn:=zL7
theorem zOW:zae Tryz.prog .lit [1000016] 233=some g233:=p233.h.trans (by kernel_rfl)
def p243:Lit (zae Tryz.prog .lit [1000016,18,35,1001200078,1000700078] 243):=⟨_,by cbv⟩
def zFp:Cd:=lit (bdF p243.v 0 [])
def zrT:Cd:=zFp
def zL8(c0:Cd):Fn:=lit (fnF p243.v [c0])
def g243:Fn:=zL8 zrT
theorem zOX:zae Tryz.prog .lit [1000016,18,35,1001200078,1000700078] 243=some g243:=p243.h.trans (by kernel_rfl)
def p245:Lit (zae Tryz.prog .lit [1000016,1000600076] 245):=⟨_,by cbv⟩
def zFq:Cd:=lit (bdF p245.v 0 [])
def zyj:Cd:=zFq
def zL9(c0:Cd):Fn:=lit (fnF p245.v [c0])
def g245:Fn:=zL9 zyj
theorem zOY:zae Tryz.prog .lit [1000016,1000600076] 245=some g245:=p245.h.trans (by kernel_rfl)
def p248:Lit (zae Tryz.prog .lit [1000016] 248):=⟨_,by cbv⟩
def zFr:Cd:=lit (bdF p248.v 0 [])
def zrU:Cd:=zFr
def zMa(c0:Cd):Fn:=lit (fnF p248.v [c0])
def g248:Fn:=zMa zrU
theorem zOZ:zae Tryz.prog .lit [1000016] 248=some g248:=p248.h.trans (by kernel_rfl)
def p249:Lit (zae Tryz.prog .lit [1000016,1000300009,1000200009] 249):=⟨_,by cbv⟩
def zFs:Cd:=lit (bdF p249.v 0 [])
def zrV:Cd:=zFs
def zMb(c0:Cd):Fn:=lit (fnF p249.v [c0])
def g249:Fn:=zMb zrV
theorem zO0:zae Tryz.prog .lit [1000016,1000300009,1000200009] 249=some g249:=p249.h.trans (by kernel_rfl)
def p252:Lit (zae Tryz.prog .lit [1000016,1000600076] 252):=⟨_,by cbv⟩
def zFt:Cd:=lit (bdF p252.v 0 [])
def zrW:Cd:=zFt
def zMc(c0:Cd):Fn:=lit (fnF p252.v [c0])
def g252:Fn:=zMc zrW
theorem zO1:zae Tryz.prog .lit [1000016,1000600076] 252=some g252:=p252.h.trans (by kernel_rfl)
def p253:Lit (zae Tryz.prog .lit [1000016] 253):=⟨_,by cbv⟩
def zFu:Cd:=lit (bdF p253.v 0 [])
def zrX:Cd:=zFu
def zMd(c0:Cd):Fn:=lit (fnF p253.v [c0])
def g253:Fn:=zMd zrX
theorem zO2:zae Tryz.prog .lit [1000016] 253=some g253:=p253.h.trans (by kernel_rfl)
def p254:Lit (zae Tryz.prog .lit [1000016] 254):=⟨_,by cbv⟩
def zFv:Cd:=lit (bdF p254.v 0 [])
def zrY:Cd:=zFv
def zMe(c0:Cd):Fn:=lit (fnF p254.v [c0])
def g254:Fn:=zMe zrY
theorem zO3:zae Tryz.prog .lit [1000016] 254=some g254:=p254.h.trans (by kernel_rfl)
def p256:Lit (zae Tryz.prog .lit [1000016] 256):=⟨_,by cbv⟩
def zMf:Fn:=lit (fnF p256.v [])
def g256:Fn:=zMf
theorem zO4:zae Tryz.prog .lit [1000016] 256=some g256:=p256.h.trans (by kernel_rfl)
def p257:Lit (zae Tryz.prog .keep [1000016] 257):=⟨_,by cbv⟩
def zMg:Fn:=lit (fnF p257.v [])
def g257:Fn:=zMg
theorem zO5:zae Tryz.prog .keep [1000016] 257=some g257:=p257.h.trans (by kernel_rfl)
def p258:Lit (zae Tryz.prog .mv [1000016] 258):=⟨_,by cbv⟩
def zGy:Fn:=lit (fnF p258.v [])
def g258:Fn:=zGy
theorem zO6:zae Tryz.prog .mv [1000016] 258=some g258:=p258.h.trans (by kernel_rfl)
def p259:Lit (zae Tryz.prog .mv [1000016] 259):=⟨_,by cbv⟩
def zMh:Fn:=lit (fnF p259.v [])
def g259:Fn:=zMh
theorem zO7:zae Tryz.prog .mv [1000016] 259=some g259:=p259.h.trans (by kernel_rfl)
def p260:Lit (zae Tryz.prog .lit [1000016,1000600082] 260):=⟨_,by cbv⟩
def zFw:Cd:=lit (bdF p260.v 0 [])
def zyk:Cd:=zFw
def zMi(c0:Cd):Fn:=lit (fnF p260.v [c0])
def g260:Fn:=zMi zyk
theorem zO8:zae Tryz.prog .lit [1000016,1000600082] 260=some g260:=p260.h.trans (by kernel_rfl)
def p261:Lit (zae Tryz.prog .lit [1000016] 261):=⟨_,by cbv⟩
def zMj:Fn:=lit (fnF p261.v [])
def g261:Fn:=zMj
theorem zO9:zae Tryz.prog .lit [1000016] 261=some g261:=p261.h.trans (by kernel_rfl)
def p262:Lit (zae Tryz.prog .mv [1000016,1000600057] 262):=⟨_,by cbv⟩
def zMk:Fn:=lit (fnF p262.v [])
def g262:Fn:=zMk
theorem zPa:zae Tryz.prog .mv [1000016,1000600057] 262=some g262:=p262.h.trans (by kernel_rfl)
def p263:Lit (zae Tryz.prog .lit [1000016] 263):=⟨_,by cbv⟩
def zFx:Cd:=lit (bdF p263.v 0 [])
def zrZ:Cd:=zFx
def zMl(c0:Cd):Fn:=lit (fnF p263.v [c0])
def g263:Fn:=zMl zrZ
theorem zPb:zae Tryz.prog .lit [1000016] 263=some g263:=p263.h.trans (by kernel_rfl)
def p264:Lit (zae Tryz.prog .lit [1000016] 264):=⟨_,by cbv⟩
def zMm:Fn:=lit (fnF p264.v [])
def g264:Fn:=zMm
theorem zPc:zae Tryz.prog .lit [1000016] 264=some g264:=p264.h.trans (by kernel_rfl)
def p266:Lit (zae Tryz.prog .lit [1000016] 266):=⟨_,by cbv⟩
def g266F:Fn:=lit (fnF p266.v [])
def g266:Fn:=g266F
theorem zPd:zae Tryz.prog .lit [1000016] 266=some g266:=p266.h.trans (by kernel_rfl)
def p267:Lit (zae Tryz.prog .lit [1000016] 267):=⟨_,by cbv⟩
def zMN:Cd:=lit (bdF p267.v 0 [])
def zNR:Cd:=zMN
def g267F(c0:Cd):Fn:=lit (fnF p267.v [c0])
def g267:Fn:=g267F zNR
theorem zPe:zae Tryz.prog .lit [1000016] 267=some g267:=p267.h.trans (by kernel_rfl)
def p268:Lit (zae Tryz.prog .lit [1000016] 268):=⟨_,by cbv⟩
def g268F:Fn:=lit (fnF p268.v [])
def g268:Fn:=g268F
theorem zCh:zae Tryz.prog .lit [1000016] 268=some g268:=p268.h.trans (by kernel_rfl)
def p269:Lit (zae Tryz.prog .lit [1000016] 269):=⟨_,by cbv⟩
def g269F:Fn:=lit (fnF p269.v [])
def g269:Fn:=g269F
theorem zCi:zae Tryz.prog .lit [1000016] 269=some g269:=p269.h.trans (by kernel_rfl)
def p271:Lit (zae Tryz.prog .lit [1000016] 271):=⟨_,by cbv⟩
def zFy:Cd:=lit (bdF p271.v 0 [])
def zr0:Cd:=zFy
def zMn(c0:Cd):Fn:=lit (fnF p271.v [c0])
def g271:Fn:=zMn zr0
theorem zPf:zae Tryz.prog .lit [1000016] 271=some g271:=p271.h.trans (by kernel_rfl)
def p272:Lit (zae Tryz.prog .lit [1000016] 272):=⟨_,by cbv⟩
def zFz:Cd:=lit (bdF p272.v 0 [])
def zr1:Cd:=zFz
def zMo(c0:Cd):Fn:=lit (fnF p272.v [c0])
def g272:Fn:=zMo zr1
theorem zPg:zae Tryz.prog .lit [1000016] 272=some g272:=p272.h.trans (by kernel_rfl)
def p273:Lit (zae Tryz.prog .lit [1000016] 273):=⟨_,by cbv⟩
def zFA:Cd:=lit (bdF p273.v 0 [])
def zr2:Cd:=zFA
def zMp(c0:Cd):Fn:=lit (fnF p273.v [c0])
def g273:Fn:=zMp zr2
theorem zPh:zae Tryz.prog .lit [1000016] 273=some g273:=p273.h.trans (by kernel_rfl)
def p275:Lit (zae Tryz.prog .lit [1000016] 275):=⟨_,by cbv⟩
def zMq:Fn:=lit (fnF p275.v [])
def g275:Fn:=zMq
theorem zPi:zae Tryz.prog .lit [1000016] 275=some g275:=p275.h.trans (by kernel_rfl)
def p277:Lit (zae Tryz.prog .lit [1000016] 277):=⟨_,by cbv⟩
def zFB:Cd:=lit (bdF p277.v 0 [])
def zyl:Cd:=zFB
def zFC:Cd:=lit (bdF p277.v 1 [])
def zym:Cd:=zFC
def zFD(c1:Cd):Cd:=lit (bdF p277.v 2 [.skip,c1])
def zyn:Cd:=zFD zym
def zFE(c0:Cd)(c2:Cd):Cd:=lit (bdF p277.v 3 [c0,.skip,c2])
def zyo:Cd:=zFE zyl zyn
def zMr(c3:Cd):Fn:=lit (fnF p277.v [.skip,.skip,.skip,c3])
def g277:Fn:=zMr zyo
theorem zPj:zae Tryz.prog .lit [1000016] 277=some g277:=p277.h.trans (by kernel_rfl)
end Go.Ab.Tryz
