/- Our texts for this statement, merged: what its theorem leads to. -/
import Derived.Test.YtdjoeakbjackbaaGreatDoorQLm3
set_option linter.unusedVariables false
set_option linter.unusedSimpArgs false
noncomputable section
namespace Go.Ab.Tryz
open Go Go.Proofs
set_option maxRecDepth 100000
set_option maxHeartbeats 4000000
def p121:Lit (zac Tryz.prog .mv [1000016] 121):=⟨_,by cbv⟩
def g121F:Fn:=lit (fnF p121.v [])
def g121:Fn:=g121F
theorem zJk:zac Tryz.prog .mv [1000016] 121=some g121:=p121.h.trans (by kernel_rfl)
def g122F:Fn:=⟨48,[],[],.mv,
 (.seq (.region [⟨some 2,.mov (.t 0),none,0,[]⟩,
  ⟨some 3,.call 123 [.s,.s,.s,.s] [.t 2,.c (.sc (.bool false)),.c (.sc (.string ⟨#[]⟩)),.c (.sc (.int .i64 0))],none,0,[]⟩]) (.seq (.region [⟨some 4,.mov (.t 0),none,0,[]⟩,
  ⟨some 5,.nck (.t 4),none,0,[]⟩,
  ⟨some 6,.fad (.t 5) 0,none,0,[]⟩,
  ⟨some 7,.fad (.t 6) 3,none,0,[]⟩,
  ⟨none,.store 1 (.t 7) (.c (.sc (.bool true))),none,0,[]⟩]) (.seq (.region [⟨some 8,.mov (.t 0),none,0,[]⟩,
  ⟨some 9,.mov (.t 0),none,0,[]⟩,
  ⟨some 10,.nck (.t 9),none,0,[]⟩,
  ⟨some 11,.fad (.t 10) 0,none,0,[]⟩,
  ⟨some 12,.fad (.t 11) 0,none,0,[]⟩,
  ⟨some 13,.load true 2 (.t 12),none,0,[]⟩,
  ⟨some 14,.mov (.t 0),none,0,[]⟩,
  ⟨some 15,.nck (.t 14),none,0,[]⟩,
  ⟨some 16,.fad (.t 15) 0,none,0,[]⟩,
  ⟨some 17,.fad (.t 16) 5,none,0,[]⟩,
  ⟨some 18,.load false 1 (.t 17),none,0,[]⟩,
  ⟨some 19,.mov (.t 0),none,0,[]⟩,
  ⟨some 20,.nck (.t 19),none,0,[]⟩,
  ⟨some 21,.fad (.t 20) 14,none,0,[]⟩,
  ⟨some 22,.fad (.t 21) 8,none,0,[]⟩,
  ⟨some 23,.load true 2 (.t 22),none,0,[]⟩,
  ⟨some 24,.call 49 [.a [.s,.s],.l 55,.a [.s,.s]] [.t 13,.t 18,.t 23],none,0,[]⟩,
  ⟨some 25,.nck (.t 8),none,0,[]⟩,
  ⟨some 26,.fad (.t 25) 0,none,0,[]⟩,
  ⟨some 27,.fad (.t 26) 5,none,0,[]⟩,
  ⟨none,.store 1 (.t 27) (.t 24),none,0,[]⟩]) (.region [⟨some 28,.mov (.t 0),none,0,[]⟩,
  ⟨some 29,.mov (.t 0),none,0,[]⟩,
  ⟨some 30,.nck (.t 29),none,0,[]⟩,
  ⟨some 31,.fad (.t 30) 0,none,0,[]⟩,
  ⟨some 32,.load true 14 (.t 31),none,0,[]⟩,
  ⟨some 33,.mov (.t 0),none,0,[]⟩,
  ⟨some 34,.nck (.t 33),none,0,[]⟩,
  ⟨some 35,.fad (.t 34) 14,none,0,[]⟩,
  ⟨some 36,.fad (.t 35) 8,none,0,[]⟩,
  ⟨some 37,.load true 2 (.t 36),none,0,[]⟩,
  ⟨some 38,.mov (.t 0),none,0,[]⟩,
  ⟨some 39,.nck (.t 38),none,0,[]⟩,
  ⟨some 40,.fad (.t 39) 0,none,0,[]⟩,
  ⟨some 41,.fad (.t 40) 0,none,0,[]⟩,
  ⟨some 42,.load true 2 (.t 41),none,0,[]⟩,
  ⟨some 43,.build [.sc (.int .i64 0),.sc (.int .u32 0),.sc (.int .u8 0),.sc (.bool false),.sc (.int .u64 0),.sc (.string ⟨#[]⟩),.sc (.string ⟨#[]⟩),.sc (.int .u64 0),.sc (.int .u16 0),.lit 0 true [],.lit 0 true []] [(0,1,.c (.sc (.int .i64 5))),(7,2,.t 42)],none,0,[]⟩,
  ⟨some 44,.call 73 [.a [.s,.s,.s,.s,.l 55,.l 55,.l 82,.l 76,.l 36,.l 57,.l 74,.s,.s,.s],.a [.s,.s],.a [.s,.s,.s,.s,.s,.s,.s,.s,.s,.l 25,.l 76],.s,.s] [.t 32,.t 37,.t 43,.c (.sc (.int .i64 2)),.c (.sc (.int .i64 0))],none,0,[]⟩,
  ⟨some 45,.ext (.t 44) 0,none,0,[]⟩,
  ⟨some 46,.ext (.t 44) 1,none,0,[]⟩,
  ⟨some 47,.call 209 [.s,.a [.s,.s,.s,.s,.l 55,.l 55,.l 82,.l 76,.l 36,.l 57,.l 74,.s,.s,.s],.l 78] [.t 28,.t 45,.t 46],none,0,[]⟩]))))⟩
def g122:Fn:=g122F
theorem zJl:zac Tryz.prog .mv [1000016] 122=some g122:=by kernel_rfl
def p123:Lit (zac Tryz.prog .mv [1000016] 123):=⟨_,by cbv⟩
def zxX:Fn:=lit (fnF p123.v [])
def g123:Fn:=zxX
theorem zJm:zac Tryz.prog .mv [1000016] 123=some g123:=p123.h.trans (by kernel_rfl)
def p125:Lit (zac Tryz.prog .lit [1000016] 125):=⟨_,by cbv⟩
def zGE:Fn:=lit (fnF p125.v [])
def g125:Fn:=zGE
theorem zJn:zac Tryz.prog .lit [1000016] 125=some g125:=p125.h.trans (by kernel_rfl)
def p126:Lit (zac Tryz.prog .lit [1000016,1000700078] 126):=⟨_,by cbv⟩
def zAL:Cd:=lit (bdF p126.v 0 [])
def zuO:Cd:=zAL
def zGF(c0:Cd):Fn:=lit (fnF p126.v [c0])
def g126:Fn:=zGF zuO
theorem zJo:zac Tryz.prog .lit [1000016,1000700078] 126=some g126:=p126.h.trans (by kernel_rfl)
def p127:Lit (zac Tryz.prog .lit [1000016,1000700078,1001300082] 127):=⟨_,by cbv⟩
def zAM:Cd:=lit (bdF p127.v 0 [])
def zoH:Cd:=zAM
def zAN(c0:Cd):Cd:=lit (bdF p127.v 1 [c0])
def zuP:Cd:=zAN zoH
def zGG(c1:Cd):Fn:=lit (fnF p127.v [.skip,c1])
def g127:Fn:=zGG zuP
theorem zJp:zac Tryz.prog .lit [1000016,1000700078,1001300082] 127=some g127:=p127.h.trans (by kernel_rfl)
def p128:Lit (zac Tryz.prog .lit [1000016] 128):=⟨_,by cbv⟩
def zGH:Fn:=lit (fnF p128.v [])
def g128:Fn:=zGH
theorem zJq:zac Tryz.prog .lit [1000016] 128=some g128:=p128.h.trans (by kernel_rfl)
def p129:Lit (zac Tryz.prog .lit [1000016] 129):=⟨_,by cbv⟩
def zGI:Fn:=lit (fnF p129.v [])
def g129:Fn:=zGI
theorem zJr:zac Tryz.prog .lit [1000016] 129=some g129:=p129.h.trans (by kernel_rfl)
def p130:Lit (zac Tryz.prog .lit [1000016,1000700078] 130):=⟨_,by cbv⟩
def zGJ:Fn:=lit (fnF p130.v [])
def g130:Fn:=zGJ
theorem zJs:zac Tryz.prog .lit [1000016,1000700078] 130=some g130:=p130.h.trans (by kernel_rfl)
def p131:Lit (zac Tryz.prog .lit [1000016] 131):=⟨_,by cbv⟩
def zAO:Cd:=lit (bdF p131.v 0 [])
def zoI:Cd:=zAO
def zGK(c0:Cd):Fn:=lit (fnF p131.v [c0])
def g131:Fn:=zGK zoI
theorem zJt:zac Tryz.prog .lit [1000016] 131=some g131:=p131.h.trans (by kernel_rfl)
def p132:Lit (zac Tryz.prog .mv [1000016,1000600055] 132):=⟨_,by cbv⟩
def zGL:Fn:=lit (fnF p132.v [])
def g132:Fn:=zGL
theorem zJu:zac Tryz.prog .mv [1000016,1000600055] 132=some g132:=p132.h.trans (by kernel_rfl)
def p133:Lit (zac Tryz.prog .mv [1000016,1000400082] 133):=⟨_,by cbv⟩
def zvS:Cd:=lit (bdF p133.v 0 [])
def zhk:Cd:=zvS
def zCf(c0:Cd):Fn:=lit (fnF p133.v [c0])
def g133:Fn:=zCf zhk
theorem zJv:zac Tryz.prog .mv [1000016,1000400082] 133=some g133:=p133.h.trans (by kernel_rfl)
def p134:Lit (zac Tryz.prog .lit [1000016] 134):=⟨_,by cbv⟩
def zGM:Fn:=lit (fnF p134.v [])
def g134:Fn:=zGM
theorem zJw:zac Tryz.prog .lit [1000016] 134=some g134:=p134.h.trans (by kernel_rfl)
def p135:Lit (zac Tryz.prog .mv [1000016,1000400055] 135):=⟨_,by cbv⟩
def zAP:Cd:=lit (bdF p135.v 0 [])
def zoJ:Cd:=zAP
def zGN(c0:Cd):Fn:=lit (fnF p135.v [c0])
def g135:Fn:=zGN zoJ
theorem zJx:zac Tryz.prog .mv [1000016,1000400055] 135=some g135:=p135.h.trans (by kernel_rfl)
def p136:Lit (zac Tryz.prog .lit [1000016] 136):=⟨_,by cbv⟩
def zGO:Fn:=lit (fnF p136.v [])
def g136:Fn:=zGO
theorem zJy:zac Tryz.prog .lit [1000016] 136=some g136:=p136.h.trans (by kernel_rfl)
def p137:Lit (zac Tryz.prog .lit [1000016] 137):=⟨_,by cbv⟩
def zGP:Fn:=lit (fnF p137.v [])
def g137:Fn:=zGP
theorem zJz:zac Tryz.prog .lit [1000016] 137=some g137:=p137.h.trans (by kernel_rfl)
def p138:Lit (zac Tryz.prog .lit [1000016] 138):=⟨_,by cbv⟩
def zGQ:Fn:=lit (fnF p138.v [])
def g138:Fn:=zGQ
theorem zJA:zac Tryz.prog .lit [1000016] 138=some g138:=p138.h.trans (by kernel_rfl)
def p139:Lit (zac Tryz.prog .lit [1000016] 139):=⟨_,by cbv⟩
def zGR:Fn:=lit (fnF p139.v [])
def g139:Fn:=zGR
theorem zJB:zac Tryz.prog .lit [1000016] 139=some g139:=p139.h.trans (by kernel_rfl)
def p140:Lit (zac Tryz.prog .lit [1000016] 140):=⟨_,by cbv⟩
def zGS:Fn:=lit (fnF p140.v [])
def g140:Fn:=zGS
theorem zJC:zac Tryz.prog .lit [1000016] 140=some g140:=p140.h.trans (by kernel_rfl)
def zAQ:Cd:=(.seq (.region [⟨some 18,.mov (.t 0),none,0,[]⟩,
  ⟨some 19,.mov (.t 0),none,0,[]⟩,
  ⟨some 20,.nck (.t 19),none,0,[]⟩,
  ⟨some 21,.fad (.t 20) 10,none,0,[]⟩,
  ⟨some 22,.load false 1 (.t 21),none,0,[]⟩,
  ⟨some 23,.fad (.t 6) 0,none,0,[]⟩,
  ⟨some 24,.load false 1 (.t 23),none,0,[]⟩,
  ⟨some 25,.fad (.t 6) 1,none,0,[]⟩,
  ⟨some 26,.load false 1 (.t 25),none,0,[]⟩,
  ⟨some 27,.fad (.t 6) 3,none,0,[]⟩,
  ⟨some 28,.load false 1 (.t 27),none,0,[]⟩,
  ⟨some 29,.mov (.t 3),none,0,[]⟩,
  ⟨some 30,.mov (.t 2),none,0,[]⟩,
  ⟨some 31,.mov (.t 4),none,0,[]⟩,
  ⟨some 32,.build [.sc (.int .i64 0),.sc (.int .i64 0),.sc (.string ⟨#[]⟩),.sc (.string ⟨#[]⟩),.sc (.bool false),.sc (.int .i64 0)] [(0,1,.t 24),(1,1,.t 26),(2,1,.t 28),(3,1,.t 29),(4,1,.t 30),(5,1,.t 31)],none,0,[]⟩,
  ⟨some 33,.bsl 74 6 (.a [.s,.s,.s,.s,.s,.s]) [.t 32],none,0,[]⟩,
  ⟨some 34,.app 74 64 (.t 22) (.t 33),none,0,[]⟩,
  ⟨some 35,.nck (.t 18),none,0,[]⟩,
  ⟨some 36,.fad (.t 35) 10,none,0,[]⟩,
  ⟨none,.store 1 (.t 36) (.t 34),none,0,[]⟩]) (.region [⟨some 37,.mov (.t 0),none,0,[]⟩,
  ⟨some 38,.mov (.t 0),none,0,[]⟩,
  ⟨some 39,.nck (.t 38),none,0,[]⟩,
  ⟨some 40,.fad (.t 39) 10,none,0,[]⟩,
  ⟨some 41,.load false 1 (.t 40),none,0,[]⟩,
  ⟨some 42,.mov (.t 0),none,0,[]⟩,
  ⟨some 43,.nck (.t 42),none,0,[]⟩,
  ⟨some 44,.fad (.t 43) 10,none,0,[]⟩,
  ⟨some 45,.load false 1 (.t 44),none,0,[]⟩,
  ⟨some 46,.len false (.t 45),none,0,[]⟩,
  ⟨some 47,.bin .sub .num (.t 46) (.c (.sc (.int .i64 16))),none,0,[]⟩,
  ⟨some 48,.mx true [.c (.sc (.int .i64 0)),.t 47],none,0,[]⟩,
  ⟨some 49,.sls 74 (.t 41) (some (.t 48)) none,none,0,[]⟩,
  ⟨some 50,.call 48 [.l 74] [.t 49],none,0,[]⟩,
  ⟨some 51,.nck (.t 37),none,0,[]⟩,
  ⟨some 52,.fad (.t 51) 10,none,0,[]⟩,
  ⟨none,.store 1 (.t 52) (.t 50),none,0,[]⟩]))
def zuQ:Cd:=zAQ
def zGT(c0:Cd):Fn:=⟨53,[],[],.mv,
 (.seq (.region [⟨some 6,.box 57 14 (.t 1),none,0,[]⟩]) (.seq (.seq (.region [⟨some 10,.fad (.t 6) 1,none,0,[]⟩,
  ⟨some 11,.load false 1 (.t 10),none,0,[]⟩,
  ⟨some 12,.bin .neq .num (.t 11) (.c (.sc (.int .i64 2))),none,0,[]⟩,
  ⟨some 13,.mov (.t 12),none,0,[]⟩,
  ⟨some 14,.fad (.t 6) 1,some (13,true),0,[]⟩,
  ⟨some 15,.load false 1 (.t 14),some (13,true),0,[]⟩,
  ⟨some 16,.bin .neq .num (.t 15) (.c (.sc (.int .i64 3))),some (13,true),0,[]⟩,
  ⟨some 17,.pick (.t 13) (.t 16) (.c (.sc (.bool false))),none,0,[]⟩]) (.cond (.t 17) (.ret []) .skip)) (.seg [6,3,2,4,0] [] c0)))⟩
def g141:Fn:=zGT zuQ
theorem zJD:zac Tryz.prog .mv [1000016] 141=some g141:=by kernel_rfl
def p142:Lit (zac Tryz.prog .lit [1000016,1001000074] 142):=⟨_,by cbv⟩
def zvT:Cd:=lit (bdF p142.v 0 [])
def zjG:Cd:=zvT
def zAR(c0:Cd):Cd:=lit (bdF p142.v 1 [c0])
def zuR:Cd:=zAR zjG
def zGU(c1:Cd):Fn:=lit (fnF p142.v [.skip,c1])
def g142:Fn:=zGU zuR
theorem zJE:zac Tryz.prog .lit [1000016,1001000074] 142=some g142:=p142.h.trans (by kernel_rfl)
def p143:Lit (zac Tryz.prog .lit [1000016,1000500057,1000400057] 143):=⟨_,by cbv⟩
def zAS:Cd:=lit (bdF p143.v 0 [])
def zoK:Cd:=zAS
def zGV(c0:Cd):Fn:=lit (fnF p143.v [c0])
def g143:Fn:=zGV zoK
theorem zJF:zac Tryz.prog .lit [1000016,1000500057,1000400057] 143=some g143:=p143.h.trans (by kernel_rfl)
def p154:Lit (zac Tryz.prog .lit [1000016] 154):=⟨_,by cbv⟩
def zvU:Cd:=lit (bdF p154.v 0 [])
def zhl:Cd:=zvU
def zCg(c0:Cd):Fn:=lit (fnF p154.v [c0])
def g154:Fn:=zCg zhl
theorem zJG:zac Tryz.prog .lit [1000016] 154=some g154:=p154.h.trans (by kernel_rfl)
def p155:Lit (zac Tryz.prog .lit [1000016,1000500025] 155):=⟨_,by cbv⟩
def zAT:Cd:=lit (bdF p155.v 0 [])
def zuS:Cd:=zAT
def zGW(c0:Cd):Fn:=lit (fnF p155.v [c0])
def g155:Fn:=zGW zuS
theorem zJH:zac Tryz.prog .lit [1000016,1000500025] 155=some g155:=p155.h.trans (by kernel_rfl)
def p158:Lit (zac Tryz.prog .keep [1000016,1000500025,1000400025] 158):=⟨_,by cbv⟩
def zAU:Cd:=lit (bdF p158.v 0 [])
def zoL:Cd:=zAU
def zGX(c0:Cd):Fn:=lit (fnF p158.v [c0])
def g158:Fn:=zGX zoL
theorem zJI:zac Tryz.prog .keep [1000016,1000500025,1000400025] 158=some g158:=p158.h.trans (by kernel_rfl)
def p159:Lit (zac Tryz.prog .lit [1000016] 159):=⟨_,by cbv⟩
def zGY:Fn:=lit (fnF p159.v [])
def g159:Fn:=zGY
theorem zJJ:zac Tryz.prog .lit [1000016] 159=some g159:=p159.h.trans (by kernel_rfl)
def zAV:Cd:=(.seq (.region [⟨some 63,.fad (.t 2) 0,none,0,[]⟩,
  ⟨some 64,.load true 2 (.t 63),none,0,[]⟩,
  ⟨some 65,.fad (.t 2) 5,none,0,[]⟩,
  ⟨some 66,.load false 1 (.t 65),none,0,[]⟩,
  ⟨some 67,.fad (.t 2) 6,none,0,[]⟩,
  ⟨some 68,.load false 1 (.t 67),none,0,[]⟩,
  ⟨some 69,.mov (.t 1),none,0,[]⟩,
  ⟨some 70,.call 229 [.a [.s,.s],.l 55,.l 82,.s,.s] [.t 64,.t 66,.t 68,.t 69,.c (.sc (.int .i64 4))],none,0,[]⟩,
  ⟨some 8,.mov (.t 70),none,0,[]⟩]) (.seq (.seq (.region [⟨some 71,.mov (.t 8),none,0,[]⟩,
  ⟨some 72,.len false (.t 71),none,0,[]⟩,
  ⟨some 73,.bin .eql .num (.t 72) (.c (.sc (.int .i64 0))),none,0,[]⟩]) (.cond (.t 73) (.seq (.region [⟨some 74,.fad (.t 2) 0,none,0,[]⟩,
  ⟨some 75,.load true 2 (.t 74),none,0,[]⟩,
  ⟨none,.store 2 (.t 4) (.t 75),none,0,[]⟩,
  ⟨some 5,.nil 25,none,0,[]⟩,
  ⟨some 6,.mov (.c (.sc (.bool true))),none,0,[]⟩]) (.ret [4,5,6])) .skip)) (.seq (.region [⟨some 76,.build [.sc (.int .u64 0),.sc (.int .u16 0)] [],none,0,[]⟩,
  ⟨some 77,.mov (.t 8),none,0,[]⟩,
  ⟨none,.store 2 (.t 4) (.t 76),none,0,[]⟩,
  ⟨some 5,.mov (.t 77),none,0,[]⟩,
  ⟨some 6,.mov (.c (.sc (.bool false))),none,0,[]⟩]) (.ret [4,5,6]))))
def zuT:Cd:=zAV
def zAW(c0:Cd):Cd:=(.seq (.seq (.region [⟨some 24,.fad (.t 2) 0,none,0,[]⟩,
  ⟨some 25,.fad (.t 24) 0,none,0,[]⟩,
  ⟨some 26,.load false 1 (.t 25),none,0,[]⟩,
  ⟨some 27,.mov (.t 1),none,0,[]⟩,
  ⟨some 28,.mov (.t 7),none,0,[]⟩,
  ⟨some 29,.iadS 25 (.t 28) (.c (.sc (.int .i64 0))),none,0,[]⟩,
  ⟨some 30,.fad (.t 29) 0,none,0,[]⟩,
  ⟨some 31,.load false 1 (.t 30),none,0,[]⟩,
  ⟨some 32,.call 217 [.s,.s,.s] [.t 26,.t 27,.t 31],none,0,[]⟩]) (.cond (.t 32) (.seq (.region [⟨some 33,.mov (.t 7),none,0,[]⟩,
  ⟨some 34,.iadS 25 (.t 33) (.c (.sc (.int .i64 0))),none,0,[]⟩,
  ⟨some 35,.load true 2 (.t 34),none,0,[]⟩,
  ⟨none,.store 2 (.t 4) (.t 35),none,0,[]⟩,
  ⟨some 5,.nil 25,none,0,[]⟩,
  ⟨some 6,.mov (.c (.sc (.bool true))),none,0,[]⟩]) (.ret [4,5,6])) .skip)) (.seq (.seq (.region [⟨some 36,.fad (.t 2) 4,none,0,[]⟩,
  ⟨some 37,.load false 1 (.t 36),none,0,[]⟩,
  ⟨some 38,.len false (.t 37),none,0,[]⟩,
  ⟨some 39,.bin .gtr .num (.t 38) (.c (.sc (.int .i64 0))),none,0,[]⟩,
  ⟨some 40,.mov (.t 39),none,0,[]⟩,
  ⟨some 41,.fad (.t 2) 4,some (40,true),0,[]⟩,
  ⟨some 42,.load false 1 (.t 41),some (40,true),0,[]⟩,
  ⟨some 43,.iadS 55 (.t 42) (.c (.sc (.int .i64 0))),some (40,true),0,[]⟩,
  ⟨some 44,.fad (.t 43) 2,some (40,true),0,[]⟩,
  ⟨some 45,.load false 1 (.t 44),some (40,true),0,[]⟩,
  ⟨some 46,.bin .lss .num (.t 45) (.c (.sc (.int .i64 1))),some (40,true),0,[]⟩,
  ⟨some 47,.pick (.t 40) (.t 46) (.c (.sc (.bool false))),none,0,[]⟩,
  ⟨some 48,.mov (.t 47),none,0,[]⟩,
  ⟨some 49,.fad (.t 2) 4,some (48,true),0,[]⟩,
  ⟨some 50,.load false 1 (.t 49),some (48,true),0,[]⟩,
  ⟨some 51,.iadS 55 (.t 50) (.c (.sc (.int .i64 0))),some (48,true),0,[]⟩,
  ⟨some 52,.fad (.t 51) 0,some (48,true),0,[]⟩,
  ⟨some 53,.fad (.t 52) 0,some (48,true),0,[]⟩,
  ⟨some 54,.load false 1 (.t 53),some (48,true),0,[]⟩,
  ⟨some 55,.mov (.t 1),some (48,true),0,[]⟩,
  ⟨some 56,.fad (.t 2) 0,some (48,true),0,[]⟩,
  ⟨some 57,.fad (.t 56) 0,some (48,true),0,[]⟩,
  ⟨some 58,.load false 1 (.t 57),some (48,true),0,[]⟩,
  ⟨some 59,.call 217 [.s,.s,.s] [.t 54,.t 55,.t 58],some (48,true),0,[]⟩,
  ⟨some 60,.pick (.t 48) (.t 59) (.c (.sc (.bool false))),none,0,[]⟩]) (.cond (.t 60) (.seq (.region [⟨some 61,.fad (.t 2) 0,none,0,[]⟩,
  ⟨some 62,.load true 2 (.t 61),none,0,[]⟩,
  ⟨none,.store 2 (.t 4) (.t 62),none,0,[]⟩,
  ⟨some 5,.nil 25,none,0,[]⟩,
  ⟨some 6,.mov (.c (.sc (.bool true))),none,0,[]⟩]) (.ret [4,5,6])) .skip)) (.seg [1,2,4] [4,5,6] c0)))
def zuU:Cd:=zAW zuT
def zGZ(c1:Cd):Fn:=⟨78,[.cell 4 true 2,.t 5,.t 6],[.a [.s,.s],.l 25,.s],.lit,
 (.seq (.region [⟨some 2,.box 34 14 (.t 0),none,0,[]⟩,
  ⟨some 4,.box 25 2 (.c (.agg [.sc (.int .u64 0),.sc (.int .u16 0)])),none,0,[]⟩,
  ⟨some 5,.nil 25,none,0,[]⟩,
  ⟨some 6,.mov (.c (.sc (.bool false))),none,0,[]⟩]) (.seq (.region [⟨some 9,.fad (.t 2) 5,none,0,[]⟩,
  ⟨some 10,.load false 1 (.t 9),none,0,[]⟩,
  ⟨some 11,.call 92 [.l 55] [.t 10],none,0,[]⟩,
  ⟨some 7,.mov (.t 11),none,0,[]⟩]) (.seq (.seq (.region [⟨some 12,.mov (.t 7),none,0,[]⟩,
  ⟨some 13,.len false (.t 12),none,0,[]⟩,
  ⟨some 14,.bin .eql .num (.t 13) (.c (.sc (.int .i64 0))),none,0,[]⟩,
  ⟨some 15,.mov (.t 14),none,0,[]⟩,
  ⟨some 16,.mov (.t 1),some (15,false),0,[]⟩,
  ⟨some 17,.fad (.t 2) 0,some (15,false),0,[]⟩,
  ⟨some 18,.fad (.t 17) 0,some (15,false),0,[]⟩,
  ⟨some 19,.load false 1 (.t 18),some (15,false),0,[]⟩,
  ⟨some 20,.bin .eql .num (.t 16) (.t 19),some (15,false),0,[]⟩,
  ⟨some 21,.pick (.t 15) (.c (.sc (.bool true))) (.t 20),none,0,[]⟩]) (.cond (.t 21) (.seq (.region [⟨some 22,.fad (.t 2) 0,none,0,[]⟩,
  ⟨some 23,.load true 2 (.t 22),none,0,[]⟩,
  ⟨none,.store 2 (.t 4) (.t 23),none,0,[]⟩,
  ⟨some 5,.nil 25,none,0,[]⟩,
  ⟨some 6,.mov (.c (.sc (.bool true))),none,0,[]⟩]) (.ret [4,5,6])) .skip)) (.seg [7,1,2,4] [4,5,6] c1))))⟩
def g161:Fn:=zGZ zuU
theorem zJK:zac Tryz.prog .lit [1000016,1000500025] 161=some g161:=by kernel_rfl
def p180:Lit (zac Tryz.prog .lit [1000016] 180):=⟨_,by cbv⟩
def zAX:Cd:=lit (bdF p180.v 0 [])
def zoM:Cd:=zAX
def zG0(c0:Cd):Fn:=lit (fnF p180.v [c0])
def g180:Fn:=zG0 zoM
theorem zJL:zac Tryz.prog .lit [1000016] 180=some g180:=p180.h.trans (by kernel_rfl)
def p186:Lit (zac Tryz.prog .lit [1000016] 186):=⟨_,by cbv⟩
def zG1:Fn:=lit (fnF p186.v [])
def g186:Fn:=zG1
theorem zJM:zac Tryz.prog .lit [1000016] 186=some g186:=p186.h.trans (by kernel_rfl)
def p191:Lit (zac Tryz.prog .lit [1000016] 191):=⟨_,by cbv⟩
def zG2:Fn:=lit (fnF p191.v [])
def g191:Fn:=zG2
theorem zJN:zac Tryz.prog .lit [1000016] 191=some g191:=p191.h.trans (by kernel_rfl)
def p192:Lit (zac Tryz.prog .lit [1000016,1001100078,1000700078] 192):=⟨_,by cbv⟩
def zAY:Cd:=lit (bdF p192.v 0 [])
def zuV:Cd:=zAY
def zAZ(c0:Cd):Cd:=lit (bdF p192.v 1 [c0])
def zoN:Cd:=zAZ zuV
def zG3(c1:Cd):Fn:=lit (fnF p192.v [.skip,c1])
def g192:Fn:=zG3 zoN
theorem zJO:zac Tryz.prog .lit [1000016,1001100078,1000700078] 192=some g192:=p192.h.trans (by kernel_rfl)
def p198:Lit (zac Tryz.prog .lit [1000016] 198):=⟨_,by cbv⟩
def zG4:Fn:=lit (fnF p198.v [])
def g198:Fn:=zG4
theorem zJP:zac Tryz.prog .lit [1000016] 198=some g198:=p198.h.trans (by kernel_rfl)
def p199:Lit (zac Tryz.prog .mv [1000016,11,40000001100082] 199):=⟨_,by cbv⟩
def zCh:Fn:=lit (fnF p199.v [])
def g199:Fn:=zCh
theorem zJQ:zac Tryz.prog .mv [1000016,11,40000001100082] 199=some g199:=p199.h.trans (by kernel_rfl)
def p200:Lit (zac Tryz.prog .mv [1000016] 200):=⟨_,by cbv⟩
def zG5:Fn:=lit (fnF p200.v [])
def g200:Fn:=zG5
theorem zJR:zac Tryz.prog .mv [1000016] 200=some g200:=p200.h.trans (by kernel_rfl)
end Go.Ab.Tryz
