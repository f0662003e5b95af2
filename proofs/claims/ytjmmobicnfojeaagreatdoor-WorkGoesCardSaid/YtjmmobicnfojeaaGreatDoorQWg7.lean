/- Our texts for this statement, merged: what its theorem leads to. -/
import Derived.Test.YtjmmobicnfojeaaGreatDoorQWg3
set_option linter.unusedVariables false
set_option linter.unusedSimpArgs false
noncomputable section
namespace Go.Ab.Tryz
open Go Go.Proofs
set_option maxRecDepth 100000
set_option maxHeartbeats 4000000
def p116:Lit (zaj Tryz.prog .lit [1000016] 116):=⟨_,by cbv⟩
def zIe:Fn:=lit (fnF p116.v [])
def g116:Fn:=zIe
theorem zKG:zaj Tryz.prog .lit [1000016] 116=some g116:=p116.h.trans (by kernel_rfl)
def p117:Lit (zaj Tryz.prog .lit [1000016] 117):=⟨_,by cbv⟩
def zIf:Fn:=lit (fnF p117.v [])
def g117:Fn:=zIf
theorem zKH:zaj Tryz.prog .lit [1000016] 117=some g117:=p117.h.trans (by kernel_rfl)
def p118:Lit (zaj Tryz.prog .lit [1000016,1000700056] 118):=⟨_,by cbv⟩
def zIg:Fn:=lit (fnF p118.v [])
def g118:Fn:=zIg
theorem zKI:zaj Tryz.prog .lit [1000016,1000700056] 118=some g118:=p118.h.trans (by kernel_rfl)
def zIh:Fn:=⟨48,[],[],.mv,
 (.seq (.region [⟨some 2,.mov (.t 0),none,0,[]⟩,
  ⟨some 3,.call 120 [.s,.s,.s,.s] [.t 2,.c (.sc (.bool false)),.c (.sc (.string ⟨#[]⟩)),.c (.sc (.int .i64 0))],none,0,[]⟩]) (.seq (.region [⟨some 4,.mov (.t 0),none,0,[]⟩,
  ⟨some 5,.nck (.t 4),none,0,[]⟩,
  ⟨some 6,.fad (.t 5) 0,none,0,[]⟩,
  ⟨some 7,.fad (.t 6) 3,none,0,[]⟩,
  ⟨none,.store 1 (.t 7) (.c (.sc (.bool true))),none,0,[]⟩]) (.seq (.region [⟨some 8,.mov (.t 0),none,0,[]⟩,
  ⟨some 9,.mov (.t 0),none,0,[]⟩,
  ⟨some 10,.nck (.t 9),none,0,[]⟩,
  ⟨some 11,.fad (.t 10) 0,none,0,[]⟩,
  ⟨some 12,.fad (.t 11) 0,none,0,[]⟩,
  ⟨some 13,.load true 2 (.t 12),none,0,[]⟩,
  ⟨some 14,.mov (.t 0),none,0,[]⟩,
  ⟨some 15,.nck (.t 14),none,0,[]⟩,
  ⟨some 16,.fad (.t 15) 0,none,0,[]⟩,
  ⟨some 17,.fad (.t 16) 5,none,0,[]⟩,
  ⟨some 18,.load false 1 (.t 17),none,0,[]⟩,
  ⟨some 19,.mov (.t 0),none,0,[]⟩,
  ⟨some 20,.nck (.t 19),none,0,[]⟩,
  ⟨some 21,.fad (.t 20) 14,none,0,[]⟩,
  ⟨some 22,.fad (.t 21) 8,none,0,[]⟩,
  ⟨some 23,.load true 2 (.t 22),none,0,[]⟩,
  ⟨some 24,.call 127 [.a [.s,.s],.l 81,.a [.s,.s]] [.t 13,.t 18,.t 23],none,0,[]⟩,
  ⟨some 25,.nck (.t 8),none,0,[]⟩,
  ⟨some 26,.fad (.t 25) 0,none,0,[]⟩,
  ⟨some 27,.fad (.t 26) 5,none,0,[]⟩,
  ⟨none,.store 1 (.t 27) (.t 24),none,0,[]⟩]) (.region [⟨some 28,.mov (.t 0),none,0,[]⟩,
  ⟨some 29,.mov (.t 0),none,0,[]⟩,
  ⟨some 30,.nck (.t 29),none,0,[]⟩,
  ⟨some 31,.fad (.t 30) 0,none,0,[]⟩,
  ⟨some 32,.load true 14 (.t 31),none,0,[]⟩,
  ⟨some 33,.mov (.t 0),none,0,[]⟩,
  ⟨some 34,.nck (.t 33),none,0,[]⟩,
  ⟨some 35,.fad (.t 34) 14,none,0,[]⟩,
  ⟨some 36,.fad (.t 35) 8,none,0,[]⟩,
  ⟨some 37,.load true 2 (.t 36),none,0,[]⟩,
  ⟨some 38,.mov (.t 0),none,0,[]⟩,
  ⟨some 39,.nck (.t 38),none,0,[]⟩,
  ⟨some 40,.fad (.t 39) 0,none,0,[]⟩,
  ⟨some 41,.fad (.t 40) 0,none,0,[]⟩,
  ⟨some 42,.load true 2 (.t 41),none,0,[]⟩,
  ⟨some 43,.build [.sc (.int .i64 0),.sc (.int .u32 0),.sc (.int .u8 0),.sc (.bool false),.sc (.int .u64 0),.sc (.string ⟨#[]⟩),.sc (.string ⟨#[]⟩),.sc (.int .u64 0),.sc (.int .u16 0),.lit 0 true [],.lit 0 true []] [(0,1,.c (.sc (.int .i64 5))),(7,2,.t 42)],none,0,[]⟩,
  ⟨some 44,.call 80 [.a [.s,.s,.s,.s,.l 81,.l 81,.l 84,.l 78,.l 88,.l 67,.l 60,.s,.s,.s],.a [.s,.s],.a [.s,.s,.s,.s,.s,.s,.s,.s,.s,.l 25,.l 78],.s,.s] [.t 32,.t 37,.t 43,.c (.sc (.int .i64 2)),.c (.sc (.int .i64 0))],none,0,[]⟩,
  ⟨some 45,.ext (.t 44) 0,none,0,[]⟩,
  ⟨some 46,.ext (.t 44) 1,none,0,[]⟩,
  ⟨some 47,.call 184 [.s,.a [.s,.s,.s,.s,.l 81,.l 81,.l 84,.l 78,.l 88,.l 67,.l 60,.s,.s,.s],.l 56] [.t 28,.t 45,.t 46],none,0,[]⟩]))))⟩
def g119:Fn:=zIh
theorem zKJ:zaj Tryz.prog .mv [1000016] 119=some g119:=by kernel_rfl
def p120:Lit (zaj Tryz.prog .mv [1000016] 120):=⟨_,by cbv⟩
def zzs:Fn:=lit (fnF p120.v [])
def g120:Fn:=zzs
theorem zKK:zaj Tryz.prog .mv [1000016] 120=some g120:=p120.h.trans (by kernel_rfl)
def p121:Lit (zaj Tryz.prog .lit [1000016,1001000081,1000600081] 121):=⟨_,by cbv⟩
def zCq:Cd:=lit (bdF p121.v 0 [])
def zv3:Cd:=zCq
def zCr:Cd:=lit (bdF p121.v 1 [])
def zp1:Cd:=zCr
def zCs:Cd:=lit (bdF p121.v 2 [])
def zv4:Cd:=zCs
def zCt (c1:Cd) (c2:Cd):Cd:=lit (bdF p121.v 3 [.skip,c1,c2])
def zv5:Cd:=zCt zp1 zv4
def zIi (c0:Cd) (c3:Cd):Fn:=lit (fnF p121.v [c0,.skip,.skip,c3])
def g121:Fn:=zIi zv3 zv5
theorem zKL:zaj Tryz.prog .lit [1000016,1001000081,1000600081] 121=some g121:=p121.h.trans (by kernel_rfl)
def p124:Lit (zaj Tryz.prog .lit [1000016,1000500025] 124):=⟨_,by cbv⟩
def zCu:Cd:=lit (bdF p124.v 0 [])
def zv6:Cd:=zCu
def zIj (c0:Cd):Fn:=lit (fnF p124.v [c0])
def g124:Fn:=zIj zv6
theorem zKM:zaj Tryz.prog .lit [1000016,1000500025] 124=some g124:=p124.h.trans (by kernel_rfl)
def p127:Lit (zaj Tryz.prog .lit [1000016,1000600081] 127):=⟨_,by cbv⟩
def zCv:Cd:=lit (bdF p127.v 0 [])
def zv7:Cd:=zCv
def zCw (c0:Cd):Cd:=lit (bdF p127.v 1 [c0])
def zv8:Cd:=zCw zv7
def zIk (c1:Cd):Fn:=lit (fnF p127.v [.skip,c1])
def g127:Fn:=zIk zv8
theorem zKN:zaj Tryz.prog .lit [1000016,1000600081] 127=some g127:=p127.h.trans (by kernel_rfl)
def p128:Lit (zaj Tryz.prog .lit [1000016] 128):=⟨_,by cbv⟩
def zIl:Fn:=lit (fnF p128.v [])
def g128:Fn:=zIl
theorem zKO:zaj Tryz.prog .lit [1000016] 128=some g128:=p128.h.trans (by kernel_rfl)
def p132:Lit (zaj Tryz.prog .lit [1000016] 132):=⟨_,by cbv⟩
def zIm:Fn:=lit (fnF p132.v [])
def g132:Fn:=zIm
theorem zKP:zaj Tryz.prog .lit [1000016] 132=some g132:=p132.h.trans (by kernel_rfl)
def p134:Lit (zaj Tryz.prog .lit [1000016] 134):=⟨_,by cbv⟩
def zIn:Fn:=lit (fnF p134.v [])
def g134:Fn:=zIn
theorem zKQ:zaj Tryz.prog .lit [1000016] 134=some g134:=p134.h.trans (by kernel_rfl)
def zCx:Cd:=(.seq (.seq (.region [⟨some 22,.mov (.t 12),none,0,[]⟩,
  ⟨some 23,.mov (.t 2),none,0,[]⟩,
  ⟨some 24,.len false (.t 23),none,0,[]⟩,
  ⟨some 25,.bin .lss .num (.t 22) (.t 24),none,0,[]⟩]) (.cond (.t 25) .skip (.exit 0 [11,3,5,4]))) (.seq (.block 1 (.region [⟨some 28,.mov (.t 11),none,0,[]⟩,
  ⟨some 29,.mov (.t 2),none,0,[]⟩,
  ⟨some 30,.mov (.t 12),none,0,[]⟩,
  ⟨some 31,.iadS 84 (.t 29) (.t 30),none,0,[]⟩,
  ⟨some 32,.fad (.t 31) 1,none,0,[]⟩,
  ⟨some 33,.load true 2 (.t 32),none,0,[]⟩,
  ⟨some 34,.bsl 25 2 (.a [.s,.s]) [.t 33],none,0,[]⟩,
  ⟨some 35,.app 25 16 (.t 28) (.t 34),none,0,[]⟩,
  ⟨some 11,.mov (.t 35),none,0,[]⟩])) (.region [⟨some 26,.mov (.t 12),none,0,[]⟩,
  ⟨some 27,.bin .add .num (.t 26) (.c (.sc (.int .i64 1))),none,0,[]⟩,
  ⟨some 12,.mov (.t 27),none,0,[]⟩])))
def zp2:Cd:=zCx
def zCy:Cd:=(.seq (.seq (.region [⟨some 73,.mov (.t 17),none,0,[]⟩,
  ⟨some 74,.mov (.t 14),none,0,[]⟩,
  ⟨some 75,.len false (.t 74),none,0,[]⟩,
  ⟨some 76,.bin .lss .num (.t 73) (.t 75),none,0,[]⟩,
  ⟨some 77,.mov (.t 76),none,0,[]⟩,
  ⟨some 78,.fad (.t 5) 0,some (77,true),0,[]⟩,
  ⟨some 79,.load false 1 (.t 78),some (77,true),0,[]⟩,
  ⟨some 80,.mov (.t 14),some (77,true),0,[]⟩,
  ⟨some 81,.mov (.t 17),some (77,true),0,[]⟩,
  ⟨some 82,.iadS 25 (.t 80) (.t 81),some (77,true),0,[]⟩,
  ⟨some 83,.fad (.t 82) 0,some (77,true),0,[]⟩,
  ⟨some 84,.load false 1 (.t 83),some (77,true),0,[]⟩,
  ⟨some 85,.call 201 [.s,.s] [.t 79,.t 84],some (77,true),0,[]⟩,
  ⟨some 86,.mov (.t 18),some (77,true),0,[]⟩,
  ⟨some 87,.bin .gtr .num (.t 85) (.t 86),some (77,true),0,[]⟩,
  ⟨some 88,.mov (.t 87),some (77,true),0,[]⟩,
  ⟨some 89,.fad (.t 5) 0,some (88,false),0,[]⟩,
  ⟨some 90,.load false 1 (.t 89),some (88,false),0,[]⟩,
  ⟨some 91,.mov (.t 14),some (88,false),0,[]⟩,
  ⟨some 92,.mov (.t 17),some (88,false),0,[]⟩,
  ⟨some 93,.iadS 25 (.t 91) (.t 92),some (88,false),0,[]⟩,
  ⟨some 94,.fad (.t 93) 0,some (88,false),0,[]⟩,
  ⟨some 95,.load false 1 (.t 94),some (88,false),0,[]⟩,
  ⟨some 96,.call 201 [.s,.s] [.t 90,.t 95],some (88,false),0,[]⟩,
  ⟨some 97,.mov (.t 18),some (88,false),0,[]⟩,
  ⟨some 98,.bin .eql .num (.t 96) (.t 97),some (88,false),0,[]⟩,
  ⟨some 99,.mov (.t 98),some (88,false),0,[]⟩,
  ⟨some 100,.mov (.t 14),some (99,true),0,[]⟩,
  ⟨some 101,.mov (.t 17),some (99,true),0,[]⟩,
  ⟨some 102,.iadS 25 (.t 100) (.t 101),some (99,true),0,[]⟩,
  ⟨some 103,.fad (.t 102) 1,some (99,true),0,[]⟩,
  ⟨some 104,.load false 1 (.t 103),some (99,true),0,[]⟩,
  ⟨some 105,.fad (.t 16) 1,some (99,true),0,[]⟩,
  ⟨some 106,.load false 1 (.t 105),some (99,true),0,[]⟩,
  ⟨some 107,.bin .lss .num (.t 104) (.t 106),some (99,true),0,[]⟩,
  ⟨some 108,.pick (.t 99) (.t 107) (.c (.sc (.bool false))),some (88,false),0,[]⟩,
  ⟨some 109,.pick (.t 88) (.c (.sc (.bool true))) (.t 108),some (77,true),0,[]⟩,
  ⟨some 110,.pick (.t 77) (.t 109) (.c (.sc (.bool false))),none,0,[]⟩]) (.cond (.t 110) .skip (.exit 4 [16,14,17,15,11,13,3,5,4]))) (.block 5 (.region [⟨some 111,.mov (.t 17),none,0,[]⟩,
  ⟨some 112,.bin .add .num (.t 111) (.c (.sc (.int .i64 1))),none,0,[]⟩,
  ⟨some 17,.mov (.t 112),none,0,[]⟩])))
def zp3:Cd:=zCy
def zCz (c1:Cd):Cd:=(.seq (.region [⟨some 57,.mov (.t 13),none,0,[]⟩,
  ⟨some 58,.load true 2 (.t 16),none,0,[]⟩,
  ⟨some 59,.bsl 25 2 (.a [.s,.s]) [.t 58],none,0,[]⟩,
  ⟨some 60,.app 25 16 (.t 57) (.t 59),none,0,[]⟩,
  ⟨some 13,.mov (.t 60),none,0,[]⟩]) (.seq (.seq (.region [⟨some 61,.fad (.t 5) 0,none,0,[]⟩,
  ⟨some 62,.load false 1 (.t 61),none,0,[]⟩,
  ⟨some 63,.fad (.t 16) 0,none,0,[]⟩,
  ⟨some 64,.load false 1 (.t 63),none,0,[]⟩,
  ⟨some 65,.mov (.t 3),none,0,[]⟩,
  ⟨some 66,.call 116 [.s,.s,.s] [.t 62,.t 64,.t 65],none,0,[]⟩,
  ⟨some 67,.un .not (.t 66),none,0,[]⟩]) (.cond (.t 67) (.exit 3 [15,11,13,3,5,4,14]) .skip)) (.seq (.region [⟨some 17,.mov (.c (.sc (.int .i64 0))),none,0,[]⟩]) (.seq (.region [⟨some 68,.fad (.t 5) 0,none,0,[]⟩,
  ⟨some 69,.load false 1 (.t 68),none,0,[]⟩,
  ⟨some 70,.fad (.t 16) 0,none,0,[]⟩,
  ⟨some 71,.load false 1 (.t 70),none,0,[]⟩,
  ⟨some 72,.call 201 [.s,.s] [.t 69,.t 71],none,0,[]⟩,
  ⟨some 18,.mov (.t 72),none,0,[]⟩]) (.seq (.block 4 (.loop [18,16,14,17,15,11,13,3,5,4] c1)) (.seq (.region [⟨some 113,.bsl 25 2 (.a [.s,.s]) [],none,0,[]⟩,
  ⟨some 114,.mov (.t 14),none,0,[]⟩,
  ⟨some 115,.mov (.t 17),none,0,[]⟩,
  ⟨some 116,.sls 25 (.t 114) none (some (.t 115)),none,0,[]⟩,
  ⟨some 117,.app 25 16 (.t 113) (.t 116),none,0,[]⟩,
  ⟨some 19,.mov (.t 117),none,0,[]⟩]) (.seq (.region [⟨some 118,.mov (.t 19),none,0,[]⟩,
  ⟨some 119,.load true 2 (.t 16),none,0,[]⟩,
  ⟨some 120,.bsl 25 2 (.a [.s,.s]) [.t 119],none,0,[]⟩,
  ⟨some 121,.app 25 16 (.t 118) (.t 120),none,0,[]⟩,
  ⟨some 19,.mov (.t 121),none,0,[]⟩]) (.region [⟨some 122,.mov (.t 19),none,0,[]⟩,
  ⟨some 123,.mov (.t 14),none,0,[]⟩,
  ⟨some 124,.mov (.t 17),none,0,[]⟩,
  ⟨some 125,.sls 25 (.t 123) (some (.t 124)) none,none,0,[]⟩,
  ⟨some 126,.app 25 16 (.t 122) (.t 125),none,0,[]⟩,
  ⟨some 14,.frz 25 (.t 126),none,0,[]⟩]))))))))
def zv9:Cd:=zCz zp3
def zCA (c2:Cd):Cd:=(.seq (.seq (.region [⟨some 36,.mov (.t 15),none,0,[]⟩,
  ⟨some 37,.mov (.t 11),none,0,[]⟩,
  ⟨some 38,.len false (.t 37),none,0,[]⟩,
  ⟨some 39,.bin .lss .num (.t 36) (.t 38),none,0,[]⟩]) (.cond (.t 39) .skip (.exit 2 [4,14]))) (.seq (.block 3 (.seq (.region [⟨some 42,.mov (.t 11),none,0,[]⟩,
  ⟨some 43,.mov (.t 15),none,0,[]⟩,
  ⟨some 44,.iadS 25 (.t 42) (.t 43),none,0,[]⟩,
  ⟨some 45,.load true 2 (.t 44),none,0,[]⟩,
  ⟨some 16,.box 25 2 (.c (.agg [.sc (.int .u64 0),.sc (.int .u16 0)])),none,0,[]⟩,
  ⟨none,.store 2 (.t 16) (.t 45),none,0,[]⟩]) (.seq (.seq (.region [⟨some 46,.mov (.t 13),none,0,[]⟩,
  ⟨some 47,.fad (.t 16) 1,none,0,[]⟩,
  ⟨some 48,.load false 1 (.t 47),none,0,[]⟩,
  ⟨some 49,.call 200 [.l 25,.s] [.t 46,.t 48],none,0,[]⟩,
  ⟨some 50,.mov (.t 49),none,0,[]⟩,
  ⟨some 51,.fad (.t 16) 1,some (50,false),0,[]⟩,
  ⟨some 52,.load false 1 (.t 51),some (50,false),0,[]⟩,
  ⟨some 53,.fad (.t 5) 1,some (50,false),0,[]⟩,
  ⟨some 54,.load false 1 (.t 53),some (50,false),0,[]⟩,
  ⟨some 55,.bin .eql .num (.t 52) (.t 54),some (50,false),0,[]⟩,
  ⟨some 56,.pick (.t 50) (.c (.sc (.bool true))) (.t 55),none,0,[]⟩]) (.cond (.t 56) (.exit 3 [15,11,13,3,5,4,14]) .skip)) (.seg [13,16,14,15,11,3,5,4] [15,11,13,3,5,4,14] c2)))) (.region [⟨some 40,.mov (.t 15),none,0,[]⟩,
  ⟨some 41,.bin .add .num (.t 40) (.c (.sc (.int .i64 1))),none,0,[]⟩,
  ⟨some 15,.mov (.t 41),none,0,[]⟩])))
def zp4:Cd:=zCA zv9
def zIo (c0:Cd) (c3:Cd):Fn:=⟨137,[.t 10],[.l 25],.lit,
 (.seq (.region [⟨some 5,.box 25 2 (.t 0),none,0,[]⟩,
  ⟨some 10,.nil 25,none,0,[]⟩]) (.seq (.region [⟨some 20,.mov (.t 1),none,0,[]⟩,
  ⟨some 21,.call 78 [.l 81] [.t 20],none,0,[]⟩,
  ⟨some 11,.mov (.t 21),none,0,[]⟩]) (.seq (.seq (.region [⟨some 12,.mov (.c (.sc (.int .i64 0))),none,0,[]⟩]) (.block 0 (.loop [2,12,11,3,5,4] c0))) (.seq (.region [⟨some 13,.nil 25,none,0,[]⟩]) (.seq (.region [⟨some 14,.frz 25 (.c (.lit 0 true [])),none,0,[]⟩]) (.seq (.seq (.region [⟨some 15,.mov (.c (.sc (.int .i64 0))),none,0,[]⟩]) (.block 2 (.loop [11,13,3,5,15,4,14] c3))) (.seq (.seq (.region [⟨some 127,.mov (.t 4),none,0,[]⟩,
  ⟨some 128,.bin .lss .num (.t 127) (.c (.sc (.int .i64 0))),none,0,[]⟩]) (.cond (.t 128) (.seq (.region [⟨some 10,.nil 25,none,0,[]⟩]) (.ret [10])) .skip)) (.seq (.seq (.region [⟨some 129,.mov (.t 14),none,0,[]⟩,
  ⟨some 130,.len false (.t 129),none,0,[]⟩,
  ⟨some 131,.mov (.t 4),none,0,[]⟩,
  ⟨some 132,.bin .gtr .num (.t 130) (.t 131),none,0,[]⟩]) (.cond (.t 132) (.region [⟨some 133,.mov (.t 14),none,0,[]⟩,
  ⟨some 134,.mov (.t 4),none,0,[]⟩,
  ⟨some 135,.sls 25 (.t 133) none (some (.t 134)),none,0,[]⟩,
  ⟨some 14,.frz 25 (.t 135),none,0,[]⟩]) .skip)) (.seq (.region [⟨some 136,.mov (.t 14),none,0,[]⟩,
  ⟨some 10,.mov (.t 136),none,0,[]⟩]) (.ret [10]))))))))))⟩
def g135:Fn:=zIo zp2 zp4
theorem zKR:zaj Tryz.prog .lit [1000016,80000001400025,1001000025,1001300025] 135=some g135:=by kernel_rfl
def p139:Lit (zaj Tryz.prog .lit [1000016] 139):=⟨_,by cbv⟩
def zCB:Cd:=lit (bdF p139.v 0 [])
def zp5:Cd:=zCB
def zIp (c0:Cd):Fn:=lit (fnF p139.v [c0])
def g139:Fn:=zIp zp5
theorem zKS:zaj Tryz.prog .lit [1000016] 139=some g139:=p139.h.trans (by kernel_rfl)
def p140:Lit (zaj Tryz.prog .lit [1000016] 140):=⟨_,by cbv⟩
def zCC:Cd:=lit (bdF p140.v 0 [])
def zp6:Cd:=zCC
def zIq (c0:Cd):Fn:=lit (fnF p140.v [c0])
def g140:Fn:=zIq zp6
theorem zKT:zaj Tryz.prog .lit [1000016] 140=some g140:=p140.h.trans (by kernel_rfl)
def p141:Lit (zaj Tryz.prog .lit [1000016] 141):=⟨_,by cbv⟩
def zIr:Fn:=lit (fnF p141.v [])
def g141:Fn:=zIr
theorem zKU:zaj Tryz.prog .lit [1000016] 141=some g141:=p141.h.trans (by kernel_rfl)
def p142:Lit (zaj Tryz.prog .lit [1000016] 142):=⟨_,by cbv⟩
def zw1:Cd:=lit (bdF p142.v 0 [])
def zh2:Cd:=zw1
def zDL (c0:Cd):Fn:=lit (fnF p142.v [c0])
def g142:Fn:=zDL zh2
theorem zKV:zaj Tryz.prog .lit [1000016] 142=some g142:=p142.h.trans (by kernel_rfl)
def p143:Lit (zaj Tryz.prog .lit [1000016] 143):=⟨_,by cbv⟩
def zIs:Fn:=lit (fnF p143.v [])
def g143:Fn:=zIs
theorem zKW:zaj Tryz.prog .lit [1000016] 143=some g143:=p143.h.trans (by kernel_rfl)
def p145:Lit (zaj Tryz.prog .keep [1000016,1000500025,1000400025] 145):=⟨_,by cbv⟩
def zCD:Cd:=lit (bdF p145.v 0 [])
def zp7:Cd:=zCD
def zIt (c0:Cd):Fn:=lit (fnF p145.v [c0])
def g145:Fn:=zIt zp7
theorem zKX:zaj Tryz.prog .keep [1000016,1000500025,1000400025] 145=some g145:=p145.h.trans (by kernel_rfl)
def p146:Lit (zaj Tryz.prog .lit [1000016] 146):=⟨_,by cbv⟩
def zIu:Fn:=lit (fnF p146.v [])
def g146:Fn:=zIu
theorem zKY:zaj Tryz.prog .lit [1000016] 146=some g146:=p146.h.trans (by kernel_rfl)
def p147:Lit (zaj Tryz.prog .lit [1000016] 147):=⟨_,by cbv⟩
def zCE:Cd:=lit (bdF p147.v 0 [])
def zwa:Cd:=zCE
def zCF (c0:Cd):Cd:=lit (bdF p147.v 1 [c0])
def zp8:Cd:=zCF zwa
def zIv (c1:Cd):Fn:=lit (fnF p147.v [.skip,c1])
def g147:Fn:=zIv zp8
theorem zKZ:zaj Tryz.prog .lit [1000016] 147=some g147:=p147.h.trans (by kernel_rfl)
def p149:Lit (zaj Tryz.prog .lit [1000016] 149):=⟨_,by cbv⟩
def zIw:Fn:=lit (fnF p149.v [])
def g149:Fn:=zIw
theorem zK0:zaj Tryz.prog .lit [1000016] 149=some g149:=p149.h.trans (by kernel_rfl)
def p150:Lit (zaj Tryz.prog .lit [1000016] 150):=⟨_,by cbv⟩
def zIx:Fn:=lit (fnF p150.v [])
def g150:Fn:=zIx
theorem zK1:zaj Tryz.prog .lit [1000016] 150=some g150:=p150.h.trans (by kernel_rfl)
def p151:Lit (zaj Tryz.prog .lit [1000016] 151):=⟨_,by cbv⟩
def zIy:Fn:=lit (fnF p151.v [])
def g151:Fn:=zIy
theorem zK2:zaj Tryz.prog .lit [1000016] 151=some g151:=p151.h.trans (by kernel_rfl)
def p152:Lit (zaj Tryz.prog .lit [1000016] 152):=⟨_,by cbv⟩
def zIz:Fn:=lit (fnF p152.v [])
def g152:Fn:=zIz
theorem zK3:zaj Tryz.prog .lit [1000016] 152=some g152:=p152.h.trans (by kernel_rfl)
def p153:Lit (zaj Tryz.prog .lit [1000016] 153):=⟨_,by cbv⟩
def zCG:Cd:=lit (bdF p153.v 0 [])
def zwb:Cd:=zCG
def zCH:Cd:=lit (bdF p153.v 1 [])
def zwc:Cd:=zCH
def zCI (c1:Cd):Cd:=lit (bdF p153.v 2 [.skip,c1])
def zwd:Cd:=zCI zwc
def zCJ (c0:Cd) (c2:Cd):Cd:=lit (bdF p153.v 3 [c0,.skip,c2])
def zwe:Cd:=zCJ zwb zwd
def zIA (c3:Cd):Fn:=lit (fnF p153.v [.skip,.skip,.skip,c3])
def g153:Fn:=zIA zwe
theorem zK4:zaj Tryz.prog .lit [1000016] 153=some g153:=p153.h.trans (by kernel_rfl)
def p154:Lit (zaj Tryz.prog .lit [1000016] 154):=⟨_,by cbv⟩
def zJq:Cd:=lit (bdF p154.v 0 [])
def zKs:Cd:=zJq
def g154F (c0:Cd):Fn:=lit (fnF p154.v [c0])
def g154:Fn:=g154F zKs
theorem zK5:zaj Tryz.prog .lit [1000016] 154=some g154:=p154.h.trans (by kernel_rfl)
def p155:Lit (zaj Tryz.prog .lit [1000016] 155):=⟨_,by cbv⟩
def g155F:Fn:=lit (fnF p155.v [])
def g155:Fn:=g155F
theorem zK6:zaj Tryz.prog .lit [1000016] 155=some g155:=p155.h.trans (by kernel_rfl)
def p156:Lit (zaj Tryz.prog .lit [1000016] 156):=⟨_,by cbv⟩
def zJr:Cd:=lit (bdF p156.v 0 [])
def zKt:Cd:=zJr
def g156F (c0:Cd):Fn:=lit (fnF p156.v [c0])
def g156:Fn:=g156F zKt
theorem zK7:zaj Tryz.prog .lit [1000016] 156=some g156:=p156.h.trans (by kernel_rfl)
def p160:Lit (zaj Tryz.prog .lit [1000016] 160):=⟨_,by cbv⟩
def g160F:Fn:=lit (fnF p160.v [])
def g160:Fn:=g160F
theorem zK8:zaj Tryz.prog .lit [1000016] 160=some g160:=p160.h.trans (by kernel_rfl)
def p161:Lit (zaj Tryz.prog .lit [1000016] 161):=⟨_,by cbv⟩
def g161F:Fn:=lit (fnF p161.v [])
def g161:Fn:=g161F
theorem zK9:zaj Tryz.prog .lit [1000016] 161=some g161:=p161.h.trans (by kernel_rfl)
def p162:Lit (zaj Tryz.prog .lit [1000016] 162):=⟨_,by cbv⟩
def zIB:Fn:=lit (fnF p162.v [])
def g162:Fn:=zIB
theorem zLa:zaj Tryz.prog .lit [1000016] 162=some g162:=p162.h.trans (by kernel_rfl)
def p163:Lit (zaj Tryz.prog .mv [1000016,11,40000001100084] 163):=⟨_,by cbv⟩
def zDM:Fn:=lit (fnF p163.v [])
def g163:Fn:=zDM
theorem zLb:zaj Tryz.prog .mv [1000016,11,40000001100084] 163=some g163:=p163.h.trans (by kernel_rfl)
def p164:Lit (zaj Tryz.prog .lit [1000016] 164):=⟨_,by cbv⟩
def zuc:Cd:=lit (bdF p164.v 0 [])
def zdV:Cd:=zuc
def zzt (c0:Cd):Fn:=lit (fnF p164.v [c0])
def g164:Fn:=zzt zdV
theorem zLc:zaj Tryz.prog .lit [1000016] 164=some g164:=p164.h.trans (by kernel_rfl)
def p165:Lit (zaj Tryz.prog .lit [1000016] 165):=⟨_,by cbv⟩
def zIC:Fn:=lit (fnF p165.v [])
def g165:Fn:=zIC
theorem zLd:zaj Tryz.prog .lit [1000016] 165=some g165:=p165.h.trans (by kernel_rfl)
def p166:Lit (zaj Tryz.prog .lit [1000016] 166):=⟨_,by cbv⟩
def zID:Fn:=lit (fnF p166.v [])
def g166:Fn:=zID
theorem zLe:zaj Tryz.prog .lit [1000016] 166=some g166:=p166.h.trans (by kernel_rfl)
def p174:Lit (zaj Tryz.prog .mv [1000016] 174):=⟨_,by cbv⟩
def zDN:Fn:=lit (fnF p174.v [])
def g174:Fn:=zDN
theorem zLf:zaj Tryz.prog .mv [1000016] 174=some g174:=p174.h.trans (by kernel_rfl)
def p175:Lit (zaj Tryz.prog .mv [1000016] 175):=⟨_,by cbv⟩
def zIE:Fn:=lit (fnF p175.v [])
def g175:Fn:=zIE
theorem zLg:zaj Tryz.prog .mv [1000016] 175=some g175:=p175.h.trans (by kernel_rfl)
end Go.Ab.Tryz
