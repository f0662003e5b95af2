/- Our texts for this statement, merged: what its theorem leads to. -/
import Derived.Test.YtjmmobicnfojeaaGreatDoorQSv3
set_option linter.unusedVariables false
set_option linter.unusedSimpArgs false
noncomputable section
namespace Go.Ab.Tryz
open Go Go.Proofs
set_option maxRecDepth 100000
set_option maxHeartbeats 4000000
def p116:Lit (zaj Tryz.prog .lit [1000016] 116):=⟨_,by cbv⟩
def zHI:Fn:=lit (fnF p116.v [])
def g116:Fn:=zHI
theorem zKd:zaj Tryz.prog .lit [1000016] 116=some g116:=p116.h.trans (by kernel_rfl)
def p121:Lit (zaj Tryz.prog .lit [1000016,1001000081,1000600081] 121):=⟨_,by cbv⟩
def zBG:Cd:=lit (bdF p121.v 0 [])
def zvd:Cd:=zBG
def zBH:Cd:=lit (bdF p121.v 1 [])
def zoH:Cd:=zBH
def zBI:Cd:=lit (bdF p121.v 2 [])
def zve:Cd:=zBI
def zBJ (c1:Cd) (c2:Cd):Cd:=lit (bdF p121.v 3 [.skip,c1,c2])
def zvf:Cd:=zBJ zoH zve
def zHJ (c0:Cd) (c3:Cd):Fn:=lit (fnF p121.v [c0,.skip,.skip,c3])
def g121:Fn:=zHJ zvd zvf
theorem zKe:zaj Tryz.prog .lit [1000016,1001000081,1000600081] 121=some g121:=p121.h.trans (by kernel_rfl)
def p122:Lit (zaj Tryz.prog .lit [1000016] 122):=⟨_,by cbv⟩
def zHK:Fn:=lit (fnF p122.v [])
def g122:Fn:=zHK
theorem zKf:zaj Tryz.prog .lit [1000016] 122=some g122:=p122.h.trans (by kernel_rfl)
def p123:Lit (zaj Tryz.prog .mv [1000016] 123):=⟨_,by cbv⟩
def zHL:Fn:=lit (fnF p123.v [])
def g123:Fn:=zHL
theorem zKg:zaj Tryz.prog .mv [1000016] 123=some g123:=p123.h.trans (by kernel_rfl)
def p124:Lit (zaj Tryz.prog .lit [1000016,1000500025] 124):=⟨_,by cbv⟩
def zBK:Cd:=lit (bdF p124.v 0 [])
def zvg:Cd:=zBK
def zHM (c0:Cd):Fn:=lit (fnF p124.v [c0])
def g124:Fn:=zHM zvg
theorem zKh:zaj Tryz.prog .lit [1000016,1000500025] 124=some g124:=p124.h.trans (by kernel_rfl)
def p125:Lit (zaj Tryz.prog .mv [1000016] 125):=⟨_,by cbv⟩
def zHN:Fn:=lit (fnF p125.v [])
def g125:Fn:=zHN
theorem zKi:zaj Tryz.prog .mv [1000016] 125=some g125:=p125.h.trans (by kernel_rfl)
def p126:Lit (zaj Tryz.prog .lit [1000016,1000200025] 126):=⟨_,by cbv⟩
def zHO:Fn:=lit (fnF p126.v [])
def g126:Fn:=zHO
theorem zKj:zaj Tryz.prog .lit [1000016,1000200025] 126=some g126:=p126.h.trans (by kernel_rfl)
def p127:Lit (zaj Tryz.prog .lit [1000016,1000600081] 127):=⟨_,by cbv⟩
def zBL:Cd:=lit (bdF p127.v 0 [])
def zvh:Cd:=zBL
def zBM (c0:Cd):Cd:=lit (bdF p127.v 1 [c0])
def zvi:Cd:=zBM zvh
def zHP (c1:Cd):Fn:=lit (fnF p127.v [.skip,c1])
def g127:Fn:=zHP zvi
theorem zKk:zaj Tryz.prog .lit [1000016,1000600081] 127=some g127:=p127.h.trans (by kernel_rfl)
def p128:Lit (zaj Tryz.prog .lit [1000016] 128):=⟨_,by cbv⟩
def zHQ:Fn:=lit (fnF p128.v [])
def g128:Fn:=zHQ
theorem zKl:zaj Tryz.prog .lit [1000016] 128=some g128:=p128.h.trans (by kernel_rfl)
def p129:Lit (zaj Tryz.prog .mv [1000016] 129):=⟨_,by cbv⟩
def zHR:Fn:=lit (fnF p129.v [])
def g129:Fn:=zHR
theorem zKm:zaj Tryz.prog .mv [1000016] 129=some g129:=p129.h.trans (by kernel_rfl)
def p130:Lit (zaj Tryz.prog .lit [1000016,1000600078] 130):=⟨_,by cbv⟩
def zHS:Fn:=lit (fnF p130.v [])
def g130:Fn:=zHS
theorem zKn:zaj Tryz.prog .lit [1000016,1000600078] 130=some g130:=p130.h.trans (by kernel_rfl)
def p131:Lit (zaj Tryz.prog .mv [1000016] 131):=⟨_,by cbv⟩
def zHT:Fn:=lit (fnF p131.v [])
def g131:Fn:=zHT
theorem zKo:zaj Tryz.prog .mv [1000016] 131=some g131:=p131.h.trans (by kernel_rfl)
def p132:Lit (zaj Tryz.prog .lit [1000016] 132):=⟨_,by cbv⟩
def zHU:Fn:=lit (fnF p132.v [])
def g132:Fn:=zHU
theorem zKp:zaj Tryz.prog .lit [1000016] 132=some g132:=p132.h.trans (by kernel_rfl)
def p133:Lit (zaj Tryz.prog .lit [1000016,1000400078] 133):=⟨_,by cbv⟩
def zte:Cd:=lit (bdF p133.v 0 [])
def zgk:Cd:=zte
def zHV (c0:Cd):Fn:=lit (fnF p133.v [c0])
def g133:Fn:=zHV zgk
theorem zKq:zaj Tryz.prog .lit [1000016,1000400078] 133=some g133:=p133.h.trans (by kernel_rfl)
def p134:Lit (zaj Tryz.prog .lit [1000016] 134):=⟨_,by cbv⟩
def zHW:Fn:=lit (fnF p134.v [])
def g134:Fn:=zHW
theorem zKr:zaj Tryz.prog .lit [1000016] 134=some g134:=p134.h.trans (by kernel_rfl)
def zBN:Cd:=(.seq (.seq (.region [⟨some 22,.mov (.t 12),none,0,[]⟩,
  ⟨some 23,.mov (.t 2),none,0,[]⟩,
  ⟨some 24,.len false (.t 23),none,0,[]⟩,
  ⟨some 25,.bin .lss .num (.t 22) (.t 24),none,0,[]⟩]) (.cond (.t 25) .skip (.exit 0 [11,3,5,4]))) (.seq (.block 1 (.region [⟨some 28,.mov (.t 11),none,0,[]⟩,
  ⟨some 29,.mov (.t 2),none,0,[]⟩,
  ⟨some 30,.mov (.t 12),none,0,[]⟩,
  ⟨some 31,.iadS 84 (.t 29) (.t 30),none,0,[]⟩,
  ⟨some 32,.fad (.t 31) 1,none,0,[]⟩,
  ⟨some 33,.load true 2 (.t 32),none,0,[]⟩,
  ⟨some 34,.bsl 25 2 (.a [.s,.s]) [.t 33],none,0,[]⟩,
  ⟨some 35,.app 25 16 (.t 28) (.t 34),none,0,[]⟩,
  ⟨some 11,.mov (.t 35),none,0,[]⟩])) (.region [⟨some 26,.mov (.t 12),none,0,[]⟩,
  ⟨some 27,.bin .add .num (.t 26) (.c (.sc (.int .i64 1))),none,0,[]⟩,
  ⟨some 12,.mov (.t 27),none,0,[]⟩])))
def zoI:Cd:=zBN
def zBO:Cd:=(.seq (.seq (.region [⟨some 73,.mov (.t 17),none,0,[]⟩,
  ⟨some 74,.mov (.t 14),none,0,[]⟩,
  ⟨some 75,.len false (.t 74),none,0,[]⟩,
  ⟨some 76,.bin .lss .num (.t 73) (.t 75),none,0,[]⟩,
  ⟨some 77,.mov (.t 76),none,0,[]⟩,
  ⟨some 78,.fad (.t 5) 0,some (77,true),0,[]⟩,
  ⟨some 79,.load false 1 (.t 78),some (77,true),0,[]⟩,
  ⟨some 80,.mov (.t 14),some (77,true),0,[]⟩,
  ⟨some 81,.mov (.t 17),some (77,true),0,[]⟩,
  ⟨some 82,.iadS 25 (.t 80) (.t 81),some (77,true),0,[]⟩,
  ⟨some 83,.fad (.t 82) 0,some (77,true),0,[]⟩,
  ⟨some 84,.load false 1 (.t 83),some (77,true),0,[]⟩,
  ⟨some 85,.call 201 [.s,.s] [.t 79,.t 84],some (77,true),0,[]⟩,
  ⟨some 86,.mov (.t 18),some (77,true),0,[]⟩,
  ⟨some 87,.bin .gtr .num (.t 85) (.t 86),some (77,true),0,[]⟩,
  ⟨some 88,.mov (.t 87),some (77,true),0,[]⟩,
  ⟨some 89,.fad (.t 5) 0,some (88,false),0,[]⟩,
  ⟨some 90,.load false 1 (.t 89),some (88,false),0,[]⟩,
  ⟨some 91,.mov (.t 14),some (88,false),0,[]⟩,
  ⟨some 92,.mov (.t 17),some (88,false),0,[]⟩,
  ⟨some 93,.iadS 25 (.t 91) (.t 92),some (88,false),0,[]⟩,
  ⟨some 94,.fad (.t 93) 0,some (88,false),0,[]⟩,
  ⟨some 95,.load false 1 (.t 94),some (88,false),0,[]⟩,
  ⟨some 96,.call 201 [.s,.s] [.t 90,.t 95],some (88,false),0,[]⟩,
  ⟨some 97,.mov (.t 18),some (88,false),0,[]⟩,
  ⟨some 98,.bin .eql .num (.t 96) (.t 97),some (88,false),0,[]⟩,
  ⟨some 99,.mov (.t 98),some (88,false),0,[]⟩,
  ⟨some 100,.mov (.t 14),some (99,true),0,[]⟩,
  ⟨some 101,.mov (.t 17),some (99,true),0,[]⟩,
  ⟨some 102,.iadS 25 (.t 100) (.t 101),some (99,true),0,[]⟩,
  ⟨some 103,.fad (.t 102) 1,some (99,true),0,[]⟩,
  ⟨some 104,.load false 1 (.t 103),some (99,true),0,[]⟩,
  ⟨some 105,.fad (.t 16) 1,some (99,true),0,[]⟩,
  ⟨some 106,.load false 1 (.t 105),some (99,true),0,[]⟩,
  ⟨some 107,.bin .lss .num (.t 104) (.t 106),some (99,true),0,[]⟩,
  ⟨some 108,.pick (.t 99) (.t 107) (.c (.sc (.bool false))),some (88,false),0,[]⟩,
  ⟨some 109,.pick (.t 88) (.c (.sc (.bool true))) (.t 108),some (77,true),0,[]⟩,
  ⟨some 110,.pick (.t 77) (.t 109) (.c (.sc (.bool false))),none,0,[]⟩]) (.cond (.t 110) .skip (.exit 4 [16,14,17,15,11,13,3,5,4]))) (.block 5 (.region [⟨some 111,.mov (.t 17),none,0,[]⟩,
  ⟨some 112,.bin .add .num (.t 111) (.c (.sc (.int .i64 1))),none,0,[]⟩,
  ⟨some 17,.mov (.t 112),none,0,[]⟩])))
def zoJ:Cd:=zBO
def zBP (c1:Cd):Cd:=(.seq (.region [⟨some 57,.mov (.t 13),none,0,[]⟩,
  ⟨some 58,.load true 2 (.t 16),none,0,[]⟩,
  ⟨some 59,.bsl 25 2 (.a [.s,.s]) [.t 58],none,0,[]⟩,
  ⟨some 60,.app 25 16 (.t 57) (.t 59),none,0,[]⟩,
  ⟨some 13,.mov (.t 60),none,0,[]⟩]) (.seq (.seq (.region [⟨some 61,.fad (.t 5) 0,none,0,[]⟩,
  ⟨some 62,.load false 1 (.t 61),none,0,[]⟩,
  ⟨some 63,.fad (.t 16) 0,none,0,[]⟩,
  ⟨some 64,.load false 1 (.t 63),none,0,[]⟩,
  ⟨some 65,.mov (.t 3),none,0,[]⟩,
  ⟨some 66,.call 116 [.s,.s,.s] [.t 62,.t 64,.t 65],none,0,[]⟩,
  ⟨some 67,.un .not (.t 66),none,0,[]⟩]) (.cond (.t 67) (.exit 3 [15,11,13,3,5,4,14]) .skip)) (.seq (.region [⟨some 17,.mov (.c (.sc (.int .i64 0))),none,0,[]⟩]) (.seq (.region [⟨some 68,.fad (.t 5) 0,none,0,[]⟩,
  ⟨some 69,.load false 1 (.t 68),none,0,[]⟩,
  ⟨some 70,.fad (.t 16) 0,none,0,[]⟩,
  ⟨some 71,.load false 1 (.t 70),none,0,[]⟩,
  ⟨some 72,.call 201 [.s,.s] [.t 69,.t 71],none,0,[]⟩,
  ⟨some 18,.mov (.t 72),none,0,[]⟩]) (.seq (.block 4 (.loop [18,16,14,17,15,11,13,3,5,4] c1)) (.seq (.region [⟨some 113,.bsl 25 2 (.a [.s,.s]) [],none,0,[]⟩,
  ⟨some 114,.mov (.t 14),none,0,[]⟩,
  ⟨some 115,.mov (.t 17),none,0,[]⟩,
  ⟨some 116,.sls 25 (.t 114) none (some (.t 115)),none,0,[]⟩,
  ⟨some 117,.app 25 16 (.t 113) (.t 116),none,0,[]⟩,
  ⟨some 19,.mov (.t 117),none,0,[]⟩]) (.seq (.region [⟨some 118,.mov (.t 19),none,0,[]⟩,
  ⟨some 119,.load true 2 (.t 16),none,0,[]⟩,
  ⟨some 120,.bsl 25 2 (.a [.s,.s]) [.t 119],none,0,[]⟩,
  ⟨some 121,.app 25 16 (.t 118) (.t 120),none,0,[]⟩,
  ⟨some 19,.mov (.t 121),none,0,[]⟩]) (.region [⟨some 122,.mov (.t 19),none,0,[]⟩,
  ⟨some 123,.mov (.t 14),none,0,[]⟩,
  ⟨some 124,.mov (.t 17),none,0,[]⟩,
  ⟨some 125,.sls 25 (.t 123) (some (.t 124)) none,none,0,[]⟩,
  ⟨some 126,.app 25 16 (.t 122) (.t 125),none,0,[]⟩,
  ⟨some 14,.frz 25 (.t 126),none,0,[]⟩]))))))))
def zvj:Cd:=zBP zoJ
def zBQ (c2:Cd):Cd:=(.seq (.seq (.region [⟨some 36,.mov (.t 15),none,0,[]⟩,
  ⟨some 37,.mov (.t 11),none,0,[]⟩,
  ⟨some 38,.len false (.t 37),none,0,[]⟩,
  ⟨some 39,.bin .lss .num (.t 36) (.t 38),none,0,[]⟩]) (.cond (.t 39) .skip (.exit 2 [4,14]))) (.seq (.block 3 (.seq (.region [⟨some 42,.mov (.t 11),none,0,[]⟩,
  ⟨some 43,.mov (.t 15),none,0,[]⟩,
  ⟨some 44,.iadS 25 (.t 42) (.t 43),none,0,[]⟩,
  ⟨some 45,.load true 2 (.t 44),none,0,[]⟩,
  ⟨some 16,.box 25 2 (.c (.agg [.sc (.int .u64 0),.sc (.int .u16 0)])),none,0,[]⟩,
  ⟨none,.store 2 (.t 16) (.t 45),none,0,[]⟩]) (.seq (.seq (.region [⟨some 46,.mov (.t 13),none,0,[]⟩,
  ⟨some 47,.fad (.t 16) 1,none,0,[]⟩,
  ⟨some 48,.load false 1 (.t 47),none,0,[]⟩,
  ⟨some 49,.call 200 [.l 25,.s] [.t 46,.t 48],none,0,[]⟩,
  ⟨some 50,.mov (.t 49),none,0,[]⟩,
  ⟨some 51,.fad (.t 16) 1,some (50,false),0,[]⟩,
  ⟨some 52,.load false 1 (.t 51),some (50,false),0,[]⟩,
  ⟨some 53,.fad (.t 5) 1,some (50,false),0,[]⟩,
  ⟨some 54,.load false 1 (.t 53),some (50,false),0,[]⟩,
  ⟨some 55,.bin .eql .num (.t 52) (.t 54),some (50,false),0,[]⟩,
  ⟨some 56,.pick (.t 50) (.c (.sc (.bool true))) (.t 55),none,0,[]⟩]) (.cond (.t 56) (.exit 3 [15,11,13,3,5,4,14]) .skip)) (.seg [13,16,14,15,11,3,5,4] [15,11,13,3,5,4,14] c2)))) (.region [⟨some 40,.mov (.t 15),none,0,[]⟩,
  ⟨some 41,.bin .add .num (.t 40) (.c (.sc (.int .i64 1))),none,0,[]⟩,
  ⟨some 15,.mov (.t 41),none,0,[]⟩])))
def zoK:Cd:=zBQ zvj
def zHX (c0:Cd) (c3:Cd):Fn:=⟨137,[.t 10],[.l 25],.lit,
 (.seq (.region [⟨some 5,.box 25 2 (.t 0),none,0,[]⟩,
  ⟨some 10,.nil 25,none,0,[]⟩]) (.seq (.region [⟨some 20,.mov (.t 1),none,0,[]⟩,
  ⟨some 21,.call 78 [.l 81] [.t 20],none,0,[]⟩,
  ⟨some 11,.mov (.t 21),none,0,[]⟩]) (.seq (.seq (.region [⟨some 12,.mov (.c (.sc (.int .i64 0))),none,0,[]⟩]) (.block 0 (.loop [2,12,11,3,5,4] c0))) (.seq (.region [⟨some 13,.nil 25,none,0,[]⟩]) (.seq (.region [⟨some 14,.frz 25 (.c (.lit 0 true [])),none,0,[]⟩]) (.seq (.seq (.region [⟨some 15,.mov (.c (.sc (.int .i64 0))),none,0,[]⟩]) (.block 2 (.loop [11,13,3,5,15,4,14] c3))) (.seq (.seq (.region [⟨some 127,.mov (.t 4),none,0,[]⟩,
  ⟨some 128,.bin .lss .num (.t 127) (.c (.sc (.int .i64 0))),none,0,[]⟩]) (.cond (.t 128) (.seq (.region [⟨some 10,.nil 25,none,0,[]⟩]) (.ret [10])) .skip)) (.seq (.seq (.region [⟨some 129,.mov (.t 14),none,0,[]⟩,
  ⟨some 130,.len false (.t 129),none,0,[]⟩,
  ⟨some 131,.mov (.t 4),none,0,[]⟩,
  ⟨some 132,.bin .gtr .num (.t 130) (.t 131),none,0,[]⟩]) (.cond (.t 132) (.region [⟨some 133,.mov (.t 14),none,0,[]⟩,
  ⟨some 134,.mov (.t 4),none,0,[]⟩,
  ⟨some 135,.sls 25 (.t 133) none (some (.t 134)),none,0,[]⟩,
  ⟨some 14,.frz 25 (.t 135),none,0,[]⟩]) .skip)) (.seq (.region [⟨some 136,.mov (.t 14),none,0,[]⟩,
  ⟨some 10,.mov (.t 136),none,0,[]⟩]) (.ret [10]))))))))))⟩
def g135:Fn:=zHX zoI zoK
theorem zKs:zaj Tryz.prog .lit [1000016,80000001400025,1001000025,1001300025] 135=some g135:=by kernel_rfl
def p136:Lit (zaj Tryz.prog .lit [1000016,1000700078,1000600078] 136):=⟨_,by cbv⟩
def zBR:Cd:=lit (bdF p136.v 0 [])
def zoL:Cd:=zBR
def zHY (c0:Cd):Fn:=lit (fnF p136.v [c0])
def g136:Fn:=zHY zoL
theorem zKt:zaj Tryz.prog .lit [1000016,1000700078,1000600078] 136=some g136:=p136.h.trans (by kernel_rfl)
def p137:Lit (zaj Tryz.prog .lit [1000016,1000400078] 137):=⟨_,by cbv⟩
def zBS:Cd:=lit (bdF p137.v 0 [])
def zoM:Cd:=zBS
def zHZ (c0:Cd):Fn:=lit (fnF p137.v [c0])
def g137:Fn:=zHZ zoM
theorem zKu:zaj Tryz.prog .lit [1000016,1000400078] 137=some g137:=p137.h.trans (by kernel_rfl)
def p138:Lit (zaj Tryz.prog .lit [1000016] 138):=⟨_,by cbv⟩
def zH0:Fn:=lit (fnF p138.v [])
def g138:Fn:=zH0
theorem zKv:zaj Tryz.prog .lit [1000016] 138=some g138:=p138.h.trans (by kernel_rfl)
def p139:Lit (zaj Tryz.prog .lit [1000016] 139):=⟨_,by cbv⟩
def zBT:Cd:=lit (bdF p139.v 0 [])
def zoN:Cd:=zBT
def zH1 (c0:Cd):Fn:=lit (fnF p139.v [c0])
def g139:Fn:=zH1 zoN
theorem zKw:zaj Tryz.prog .lit [1000016] 139=some g139:=p139.h.trans (by kernel_rfl)
def p140:Lit (zaj Tryz.prog .lit [1000016] 140):=⟨_,by cbv⟩
def zBU:Cd:=lit (bdF p140.v 0 [])
def zoO:Cd:=zBU
def zH2 (c0:Cd):Fn:=lit (fnF p140.v [c0])
def g140:Fn:=zH2 zoO
theorem zKx:zaj Tryz.prog .lit [1000016] 140=some g140:=p140.h.trans (by kernel_rfl)
def p141:Lit (zaj Tryz.prog .lit [1000016] 141):=⟨_,by cbv⟩
def zH3:Fn:=lit (fnF p141.v [])
def g141:Fn:=zH3
theorem zKy:zaj Tryz.prog .lit [1000016] 141=some g141:=p141.h.trans (by kernel_rfl)
def p142:Lit (zaj Tryz.prog .lit [1000016] 142):=⟨_,by cbv⟩
def zmw:Cd:=lit (bdF p142.v 0 [])
def zbC:Cd:=zmw
def ztI (c0:Cd):Fn:=lit (fnF p142.v [c0])
def g142:Fn:=ztI zbC
theorem zKz:zaj Tryz.prog .lit [1000016] 142=some g142:=p142.h.trans (by kernel_rfl)
def p143:Lit (zaj Tryz.prog .lit [1000016] 143):=⟨_,by cbv⟩
def zH4:Fn:=lit (fnF p143.v [])
def g143:Fn:=zH4
theorem zKA:zaj Tryz.prog .lit [1000016] 143=some g143:=p143.h.trans (by kernel_rfl)
def p145:Lit (zaj Tryz.prog .keep [1000016,1000500025,1000400025] 145):=⟨_,by cbv⟩
def zwh:Cd:=lit (bdF p145.v 0 [])
def zhx:Cd:=zwh
def zCZ (c0:Cd):Fn:=lit (fnF p145.v [c0])
def g145:Fn:=zCZ zhx
theorem zKB:zaj Tryz.prog .keep [1000016,1000500025,1000400025] 145=some g145:=p145.h.trans (by kernel_rfl)
def p146:Lit (zaj Tryz.prog .lit [1000016] 146):=⟨_,by cbv⟩
def zH5:Fn:=lit (fnF p146.v [])
def g146:Fn:=zH5
theorem zKC:zaj Tryz.prog .lit [1000016] 146=some g146:=p146.h.trans (by kernel_rfl)
def p147:Lit (zaj Tryz.prog .lit [1000016] 147):=⟨_,by cbv⟩
def zBV:Cd:=lit (bdF p147.v 0 [])
def zvk:Cd:=zBV
def zBW (c0:Cd):Cd:=lit (bdF p147.v 1 [c0])
def zoP:Cd:=zBW zvk
def zH6 (c1:Cd):Fn:=lit (fnF p147.v [.skip,c1])
def g147:Fn:=zH6 zoP
theorem zKD:zaj Tryz.prog .lit [1000016] 147=some g147:=p147.h.trans (by kernel_rfl)
def p149:Lit (zaj Tryz.prog .lit [1000016] 149):=⟨_,by cbv⟩
def zH7:Fn:=lit (fnF p149.v [])
def g149:Fn:=zH7
theorem zKE:zaj Tryz.prog .lit [1000016] 149=some g149:=p149.h.trans (by kernel_rfl)
def p150:Lit (zaj Tryz.prog .lit [1000016] 150):=⟨_,by cbv⟩
def zH8:Fn:=lit (fnF p150.v [])
def g150:Fn:=zH8
theorem zKF:zaj Tryz.prog .lit [1000016] 150=some g150:=p150.h.trans (by kernel_rfl)
def p151:Lit (zaj Tryz.prog .lit [1000016] 151):=⟨_,by cbv⟩
def zH9:Fn:=lit (fnF p151.v [])
def g151:Fn:=zH9
theorem zKG:zaj Tryz.prog .lit [1000016] 151=some g151:=p151.h.trans (by kernel_rfl)
def p152:Lit (zaj Tryz.prog .lit [1000016] 152):=⟨_,by cbv⟩
def zIa:Fn:=lit (fnF p152.v [])
def g152:Fn:=zIa
theorem zKH:zaj Tryz.prog .lit [1000016] 152=some g152:=p152.h.trans (by kernel_rfl)
def p153:Lit (zaj Tryz.prog .lit [1000016] 153):=⟨_,by cbv⟩
def zBX:Cd:=lit (bdF p153.v 0 [])
def zvl:Cd:=zBX
def zBY:Cd:=lit (bdF p153.v 1 [])
def zvm:Cd:=zBY
def zBZ (c1:Cd):Cd:=lit (bdF p153.v 2 [.skip,c1])
def zvn:Cd:=zBZ zvm
def zB0 (c0:Cd) (c2:Cd):Cd:=lit (bdF p153.v 3 [c0,.skip,c2])
def zvo:Cd:=zB0 zvl zvn
def zIb (c3:Cd):Fn:=lit (fnF p153.v [.skip,.skip,.skip,c3])
def g153:Fn:=zIb zvo
theorem zKI:zaj Tryz.prog .lit [1000016] 153=some g153:=p153.h.trans (by kernel_rfl)
def p155:Lit (zaj Tryz.prog .lit [1000016] 155):=⟨_,by cbv⟩
def zIc:Fn:=lit (fnF p155.v [])
def g155:Fn:=zIc
theorem zKJ:zaj Tryz.prog .lit [1000016] 155=some g155:=p155.h.trans (by kernel_rfl)
def p156:Lit (zaj Tryz.prog .lit [1000016] 156):=⟨_,by cbv⟩
def zB1:Cd:=lit (bdF p156.v 0 [])
def zoQ:Cd:=zB1
def zId (c0:Cd):Fn:=lit (fnF p156.v [c0])
def g156:Fn:=zId zoQ
theorem zKK:zaj Tryz.prog .lit [1000016] 156=some g156:=p156.h.trans (by kernel_rfl)
end Go.Ab.Tryz
