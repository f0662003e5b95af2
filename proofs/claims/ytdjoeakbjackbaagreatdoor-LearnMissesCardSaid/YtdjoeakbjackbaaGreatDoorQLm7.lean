/- Our texts for this statement, merged: what its theorem leads to. -/
import Derived.Test.YtdjoeakbjackbaaGreatDoorQLm3
set_option linter.unusedVariables false
set_option linter.unusedSimpArgs false
noncomputable section
namespace Go.Ab.Tryz
open Go Go.Proofs
set_option maxRecDepth 100000
set_option maxHeartbeats 4000000
def p201:Lit (zac Tryz.prog .mv [1000016] 201):=⟨_,by cbv⟩
def zG6:Fn:=lit (fnF p201.v [])
def g201:Fn:=zG6
theorem zJS:zac Tryz.prog .mv [1000016] 201=some g201:=p201.h.trans (by kernel_rfl)
def p202:Lit (zac Tryz.prog .mv [1000016] 202):=⟨_,by cbv⟩
def zG7:Fn:=lit (fnF p202.v [])
def g202:Fn:=zG7
theorem zJT:zac Tryz.prog .mv [1000016] 202=some g202:=p202.h.trans (by kernel_rfl)
def zG8:Fn:=⟨40,[],[],.mv,
 (.seq (.seq (.region [⟨some 2,.box 34 14 (.c (.agg [.sc (.int .u64 0),.sc (.int .u16 0),.sc (.int .i64 0),.sc (.bool false),.lit 0 true [],.lit 0 true [],.lit 0 true [],.lit 0 true [],.lit 0 true [],.lit 0 true [],.lit 0 true [],.sc (.int .u32 0),.sc (.int .i64 0),.sc (.int .i64 0)])),none,0,[]⟩]) (.region [⟨some 6,.mov (.t 0),none,0,[]⟩,
  ⟨some 7,.nck (.t 6),none,0,[2]⟩,
  ⟨some 8,.fad (.t 7) 0,none,0,[2]⟩,
  ⟨some 9,.load true 14 (.t 8),none,0,[2]⟩,
  ⟨some 10,.mov (.t 0),none,0,[]⟩,
  ⟨some 11,.nck (.t 10),none,0,[2]⟩,
  ⟨some 12,.fad (.t 11) 14,none,0,[2]⟩,
  ⟨some 13,.fad (.t 12) 3,none,0,[2]⟩,
  ⟨some 14,.load false 1 (.t 13),none,0,[2]⟩,
  ⟨some 15,.mov (.t 0),none,0,[]⟩,
  ⟨some 16,.nck (.t 15),none,0,[2]⟩,
  ⟨some 17,.fad (.t 16) 14,none,0,[2]⟩,
  ⟨some 18,.fad (.t 17) 4,none,0,[2]⟩,
  ⟨some 19,.load false 1 (.t 18),none,0,[2]⟩,
  ⟨some 20,.call 243 [.a [.s,.s,.s,.s,.l 55,.l 55,.l 82,.l 76,.l 36,.l 57,.l 74,.s,.s,.s],.s,.s] [.t 9,.t 14,.t 19],none,0,[2]⟩,
  ⟨some 5,.mov (.t 20),none,0,[]⟩,
  ⟨some 21,.ext (.t 5) 0,none,0,[]⟩,
  ⟨some 22,.ext (.t 5) 1,none,0,[]⟩,
  ⟨some 23,.ext (.t 5) 2,none,0,[]⟩,
  ⟨some 2,.mov (.t 2),none,0,[]⟩,
  ⟨none,.store 14 (.t 2) (.t 21),none,0,[]⟩,
  ⟨some 3,.mov (.t 22),none,0,[]⟩,
  ⟨some 4,.mov (.t 23),none,0,[]⟩])) (.seq (.seq (.region [⟨some 24,.mov (.t 4),none,0,[]⟩,
  ⟨some 25,.bin .neq .num (.t 24) (.c (.sc (.int .i64 0))),none,0,[]⟩]) (.cond (.t 25) (.seq (.region [⟨some 26,.mov (.t 0),none,0,[]⟩,
  ⟨some 27,.mov (.t 4),none,0,[]⟩,
  ⟨some 28,.call 123 [.s,.s,.s,.s] [.t 26,.c (.sc (.bool false)),.c (.sc (.string ⟨#[]⟩)),.t 27],none,0,[]⟩]) (.ret [])) .skip)) (.seq (.region [⟨some 29,.mov (.t 0),none,0,[]⟩,
  ⟨some 30,.load true 14 (.t 2),none,0,[]⟩,
  ⟨some 31,.mov (.t 3),none,0,[]⟩,
  ⟨some 32,.call 209 [.s,.a [.s,.s,.s,.s,.l 55,.l 55,.l 82,.l 76,.l 36,.l 57,.l 74,.s,.s,.s],.l 78] [.t 29,.t 30,.t 31],none,0,[]⟩]) (.region [⟨some 33,.mov (.t 0),none,0,[]⟩,
  ⟨some 34,.mov (.t 0),none,0,[]⟩,
  ⟨some 35,.nck (.t 34),none,0,[]⟩,
  ⟨some 36,.fad (.t 35) 14,none,0,[]⟩,
  ⟨some 37,.fad (.t 36) 4,none,0,[]⟩,
  ⟨some 38,.load false 1 (.t 37),none,0,[]⟩,
  ⟨some 39,.call 123 [.s,.s,.s,.s] [.t 33,.c (.sc (.bool true)),.t 38,.c (.sc (.int .i64 0))],none,0,[]⟩]))))⟩
def g203:Fn:=zG8
theorem zJU:zac Tryz.prog .mv [1000016] 203=some g203:=by kernel_rfl
def p204:Lit (zac Tryz.prog .lit [1000016] 204):=⟨_,by cbv⟩
def zG9:Fn:=lit (fnF p204.v [])
def g204:Fn:=zG9
theorem zJV:zac Tryz.prog .lit [1000016] 204=some g204:=p204.h.trans (by kernel_rfl)
def p205:Lit (zac Tryz.prog .mv [1000016] 205):=⟨_,by cbv⟩
def zA0:Cd:=lit (bdF p205.v 0 [])
def zoP:Cd:=zA0
def zHa(c0:Cd):Fn:=lit (fnF p205.v [c0])
def g205:Fn:=zHa zoP
theorem zJW:zac Tryz.prog .mv [1000016] 205=some g205:=p205.h.trans (by kernel_rfl)
def g206F:Fn:=⟨29,[.t 3],[.s],.mv,
 (.seq (.region [⟨some 2,.box 25 2 (.t 0),none,0,[]⟩,
  ⟨some 3,.mov (.c (.sc (.bool false))),none,0,[]⟩]) (.seq (.region [⟨some 4,.fad (.t 2) 1,none,0,[]⟩,
  ⟨some 5,.load false 1 (.t 4),none,0,[]⟩,
  ⟨some 6,.load false 1 (.t 1),none,0,[]⟩,
  ⟨some 7,.nck (.t 6),none,0,[]⟩,
  ⟨some 8,.fad (.t 7) 0,none,0,[]⟩,
  ⟨some 9,.fad (.t 8) 0,none,0,[]⟩,
  ⟨some 10,.fad (.t 9) 1,none,0,[]⟩,
  ⟨some 11,.load false 1 (.t 10),none,0,[]⟩,
  ⟨some 12,.bin .neq .num (.t 5) (.t 11),none,0,[]⟩,
  ⟨some 13,.mov (.t 12),none,0,[]⟩,
  ⟨some 14,.load false 1 (.t 1),some (13,true),0,[]⟩,
  ⟨some 15,.nck (.t 14),some (13,true),0,[]⟩,
  ⟨some 16,.fad (.t 15) 14,some (13,true),0,[]⟩,
  ⟨some 17,.fad (.t 16) 8,some (13,true),0,[]⟩,
  ⟨some 18,.fad (.t 17) 0,some (13,true),0,[]⟩,
  ⟨some 19,.load false 1 (.t 18),some (13,true),0,[]⟩,
  ⟨some 20,.fad (.t 2) 0,some (13,true),0,[]⟩,
  ⟨some 21,.load false 1 (.t 20),some (13,true),0,[]⟩,
  ⟨some 22,.load false 1 (.t 1),some (13,true),0,[]⟩,
  ⟨some 23,.nck (.t 22),some (13,true),0,[]⟩,
  ⟨some 24,.fad (.t 23) 14,some (13,true),0,[]⟩,
  ⟨some 25,.fad (.t 24) 5,some (13,true),0,[]⟩,
  ⟨some 26,.load false 1 (.t 25),some (13,true),0,[]⟩,
  ⟨some 27,.call 207 [.s,.s,.s] [.t 19,.t 21,.t 26],some (13,true),0,[]⟩,
  ⟨some 28,.pick (.t 13) (.t 27) (.c (.sc (.bool false))),none,0,[]⟩,
  ⟨some 3,.mov (.t 28),none,0,[]⟩]) (.ret [3])))⟩
def g206:Fn:=g206F
theorem zJX:zac Tryz.prog .mv [1000016] 206=some g206:=by kernel_rfl
def p207:Lit (zac Tryz.prog .lit [1000016] 207):=⟨_,by cbv⟩
def zHb:Fn:=lit (fnF p207.v [])
def g207:Fn:=zHb
theorem zJY:zac Tryz.prog .lit [1000016] 207=some g207:=p207.h.trans (by kernel_rfl)
def p208:Lit (zac Tryz.prog .mv [1000016] 208):=⟨_,by cbv⟩
def zCi:Fn:=lit (fnF p208.v [])
def g208:Fn:=zCi
theorem zJZ:zac Tryz.prog .mv [1000016] 208=some g208:=p208.h.trans (by kernel_rfl)
def p209:Lit (zac Tryz.prog .mv [1000016] 209):=⟨_,by cbv⟩
def zHc:Fn:=lit (fnF p209.v [])
def g209:Fn:=zHc
theorem zJ0:zac Tryz.prog .mv [1000016] 209=some g209:=p209.h.trans (by kernel_rfl)
def p210:Lit (zac Tryz.prog .lit [1000016] 210):=⟨_,by cbv⟩
def zHd:Fn:=lit (fnF p210.v [])
def g210:Fn:=zHd
theorem zJ1:zac Tryz.prog .lit [1000016] 210=some g210:=p210.h.trans (by kernel_rfl)
def p211:Lit (zac Tryz.prog .lit [1000016] 211):=⟨_,by cbv⟩
def zHe:Fn:=lit (fnF p211.v [])
def g211:Fn:=zHe
theorem zJ2:zac Tryz.prog .lit [1000016] 211=some g211:=p211.h.trans (by kernel_rfl)
def p212:Lit (zac Tryz.prog .lit [1000016] 212):=⟨_,by cbv⟩
def zA1:Cd:=lit (bdF p212.v 0 [])
def zoQ:Cd:=zA1
def zHf(c0:Cd):Fn:=lit (fnF p212.v [c0])
def g212:Fn:=zHf zoQ
theorem zJ3:zac Tryz.prog .lit [1000016] 212=some g212:=p212.h.trans (by kernel_rfl)
def p213:Lit (zac Tryz.prog .lit [1000016,1000600057] 213):=⟨_,by cbv⟩
def zA2:Cd:=lit (bdF p213.v 0 [])
def zoR:Cd:=zA2
def zHg(c0:Cd):Fn:=lit (fnF p213.v [c0])
def g213:Fn:=zHg zoR
theorem zJ4:zac Tryz.prog .lit [1000016,1000600057] 213=some g213:=p213.h.trans (by kernel_rfl)
def p214:Lit (zac Tryz.prog .lit [1000016,1000500078] 214):=⟨_,by cbv⟩
def zHh:Fn:=lit (fnF p214.v [])
def g214:Fn:=zHh
theorem zJ5:zac Tryz.prog .lit [1000016,1000500078] 214=some g214:=p214.h.trans (by kernel_rfl)
def p215:Lit (zac Tryz.prog .lit [1000016,1000700078] 215):=⟨_,by cbv⟩
def zA3:Cd:=lit (bdF p215.v 0 [])
def zuX:Cd:=zA3
def zHi(c0:Cd):Fn:=lit (fnF p215.v [c0])
def g215:Fn:=zHi zuX
theorem zJ6:zac Tryz.prog .lit [1000016,1000700078] 215=some g215:=p215.h.trans (by kernel_rfl)
def p216:Lit (zac Tryz.prog .lit [1000016,1000900082,1000600082] 216):=⟨_,by cbv⟩
def zA4:Cd:=lit (bdF p216.v 0 [])
def zuY:Cd:=zA4
def zA5(c0:Cd):Cd:=lit (bdF p216.v 1 [c0])
def zoS:Cd:=zA5 zuY
def zA6(c1:Cd):Cd:=lit (bdF p216.v 2 [.skip,c1])
def zuZ:Cd:=zA6 zoS
def zHj(c2:Cd):Fn:=lit (fnF p216.v [.skip,.skip,c2])
def g216:Fn:=zHj zuZ
theorem zJ7:zac Tryz.prog .lit [1000016,1000900082,1000600082] 216=some g216:=p216.h.trans (by kernel_rfl)
def p217:Lit (zac Tryz.prog .lit [1000016] 217):=⟨_,by cbv⟩
def zHk:Fn:=lit (fnF p217.v [])
def g217:Fn:=zHk
theorem zJ8:zac Tryz.prog .lit [1000016] 217=some g217:=p217.h.trans (by kernel_rfl)
def p218:Lit (zac Tryz.prog .lit [1000016] 218):=⟨_,by cbv⟩
def zHl:Fn:=lit (fnF p218.v [])
def g218:Fn:=zHl
theorem zJ9:zac Tryz.prog .lit [1000016] 218=some g218:=p218.h.trans (by kernel_rfl)
def p219:Lit (zac Tryz.prog .mv [1000016] 219):=⟨_,by cbv⟩
def zoT:Cd:=lit (bdF p219.v 0 [])
def zb0:Cd:=zoT
def zvg(c0:Cd):Fn:=lit (fnF p219.v [c0])
def g219:Fn:=zvg zb0
theorem zKa:zac Tryz.prog .mv [1000016] 219=some g219:=p219.h.trans (by kernel_rfl)
def p225:Lit (zac Tryz.prog .lit [1000016] 225):=⟨_,by cbv⟩
def zHm:Fn:=lit (fnF p225.v [])
def g225:Fn:=zHm
theorem zKb:zac Tryz.prog .lit [1000016] 225=some g225:=p225.h.trans (by kernel_rfl)
def zHn:Fn:=⟨30,[.t 4],[.s],.lit,
 (.seq (.region [⟨some 2,.box 34 14 (.t 0),none,0,[]⟩,
  ⟨some 4,.mov (.c (.sc (.bool false))),none,0,[]⟩]) (.seq (.region [⟨some 5,.fad (.t 2) 4,none,0,[]⟩,
  ⟨some 6,.load false 1 (.t 5),none,0,[]⟩,
  ⟨some 7,.len false (.t 6),none,0,[]⟩,
  ⟨some 8,.bin .gtr .num (.t 7) (.c (.sc (.int .i64 0))),none,0,[]⟩,
  ⟨some 9,.mov (.t 8),none,0,[]⟩,
  ⟨some 10,.fad (.t 2) 4,some (9,true),0,[]⟩,
  ⟨some 11,.load false 1 (.t 10),some (9,true),0,[]⟩,
  ⟨some 12,.iadS 55 (.t 11) (.c (.sc (.int .i64 0))),some (9,true),0,[]⟩,
  ⟨some 13,.fad (.t 12) 2,some (9,true),0,[]⟩,
  ⟨some 14,.load false 1 (.t 13),some (9,true),0,[]⟩,
  ⟨some 15,.bin .leq .num (.t 14) (.c (.sc (.int .i64 0))),some (9,true),0,[]⟩,
  ⟨some 16,.pick (.t 9) (.t 15) (.c (.sc (.bool false))),none,0,[]⟩,
  ⟨some 17,.mov (.t 16),none,0,[]⟩,
  ⟨some 18,.fad (.t 2) 4,some (17,true),0,[]⟩,
  ⟨some 19,.load false 1 (.t 18),some (17,true),0,[]⟩,
  ⟨some 20,.iadS 55 (.t 19) (.c (.sc (.int .i64 0))),some (17,true),0,[]⟩,
  ⟨some 21,.fad (.t 20) 0,some (17,true),0,[]⟩,
  ⟨some 22,.fad (.t 21) 0,some (17,true),0,[]⟩,
  ⟨some 23,.load false 1 (.t 22),some (17,true),0,[]⟩,
  ⟨some 24,.mov (.t 1),some (17,true),0,[]⟩,
  ⟨some 25,.fad (.t 2) 0,some (17,true),0,[]⟩,
  ⟨some 26,.fad (.t 25) 0,some (17,true),0,[]⟩,
  ⟨some 27,.load false 1 (.t 26),some (17,true),0,[]⟩,
  ⟨some 28,.call 225 [.s,.s,.s] [.t 23,.t 24,.t 27],some (17,true),0,[]⟩,
  ⟨some 29,.pick (.t 17) (.t 28) (.c (.sc (.bool false))),none,0,[]⟩,
  ⟨some 4,.mov (.t 29),none,0,[]⟩]) (.ret [4])))⟩
def g226:Fn:=zHn
theorem zKc:zac Tryz.prog .lit [1000016] 226=some g226:=by kernel_rfl
def p227:Lit (zac Tryz.prog .lit [1000016,80000003200025,80000003900025,1001400025,1001000025] 227):=⟨_,by cbv⟩
def zA7:Cd:=lit (bdF p227.v 0 [])
def zoU:Cd:=zA7
def zA8:Cd:=lit (bdF p227.v 1 [])
def zoV:Cd:=zA8
def zHo(c0:Cd)(c1:Cd):Fn:=lit (fnF p227.v [c0,c1])
def g227:Fn:=zHo zoU zoV
theorem zKd:zac Tryz.prog .lit [1000016,80000003200025,80000003900025,1001400025,1001000025] 227=some g227:=p227.h.trans (by kernel_rfl)
def zA9:Cd:=(.seq (.seq (.region [⟨some 22,.mov (.t 12),none,0,[]⟩,
  ⟨some 23,.mov (.t 2),none,0,[]⟩,
  ⟨some 24,.len false (.t 23),none,0,[]⟩,
  ⟨some 25,.bin .lss .num (.t 22) (.t 24),none,0,[]⟩]) (.cond (.t 25) .skip (.exit 0 [11,3,5,4]))) (.seq (.block 1 (.region [⟨some 28,.mov (.t 11),none,0,[]⟩,
  ⟨some 29,.mov (.t 2),none,0,[]⟩,
  ⟨some 30,.mov (.t 12),none,0,[]⟩,
  ⟨some 31,.iadS 82 (.t 29) (.t 30),none,0,[]⟩,
  ⟨some 32,.fad (.t 31) 1,none,0,[]⟩,
  ⟨some 33,.load true 2 (.t 32),none,0,[]⟩,
  ⟨some 34,.bsl 25 2 (.a [.s,.s]) [.t 33],none,0,[]⟩,
  ⟨some 35,.app 25 16 (.t 28) (.t 34),none,0,[]⟩,
  ⟨some 11,.mov (.t 35),none,0,[]⟩])) (.region [⟨some 26,.mov (.t 12),none,0,[]⟩,
  ⟨some 27,.bin .add .num (.t 26) (.c (.sc (.int .i64 1))),none,0,[]⟩,
  ⟨some 12,.mov (.t 27),none,0,[]⟩])))
def zoW:Cd:=zA9
def zBa:Cd:=(.seq (.seq (.region [⟨some 73,.mov (.t 17),none,0,[]⟩,
  ⟨some 74,.mov (.t 14),none,0,[]⟩,
  ⟨some 75,.len false (.t 74),none,0,[]⟩,
  ⟨some 76,.bin .lss .num (.t 73) (.t 75),none,0,[]⟩,
  ⟨some 77,.mov (.t 76),none,0,[]⟩,
  ⟨some 78,.fad (.t 5) 0,some (77,true),0,[]⟩,
  ⟨some 79,.load false 1 (.t 78),some (77,true),0,[]⟩,
  ⟨some 80,.mov (.t 14),some (77,true),0,[]⟩,
  ⟨some 81,.mov (.t 17),some (77,true),0,[]⟩,
  ⟨some 82,.iadS 25 (.t 80) (.t 81),some (77,true),0,[]⟩,
  ⟨some 83,.fad (.t 82) 0,some (77,true),0,[]⟩,
  ⟨some 84,.load false 1 (.t 83),some (77,true),0,[]⟩,
  ⟨some 85,.call 211 [.s,.s] [.t 79,.t 84],some (77,true),0,[]⟩,
  ⟨some 86,.mov (.t 18),some (77,true),0,[]⟩,
  ⟨some 87,.bin .gtr .num (.t 85) (.t 86),some (77,true),0,[]⟩,
  ⟨some 88,.mov (.t 87),some (77,true),0,[]⟩,
  ⟨some 89,.fad (.t 5) 0,some (88,false),0,[]⟩,
  ⟨some 90,.load false 1 (.t 89),some (88,false),0,[]⟩,
  ⟨some 91,.mov (.t 14),some (88,false),0,[]⟩,
  ⟨some 92,.mov (.t 17),some (88,false),0,[]⟩,
  ⟨some 93,.iadS 25 (.t 91) (.t 92),some (88,false),0,[]⟩,
  ⟨some 94,.fad (.t 93) 0,some (88,false),0,[]⟩,
  ⟨some 95,.load false 1 (.t 94),some (88,false),0,[]⟩,
  ⟨some 96,.call 211 [.s,.s] [.t 90,.t 95],some (88,false),0,[]⟩,
  ⟨some 97,.mov (.t 18),some (88,false),0,[]⟩,
  ⟨some 98,.bin .eql .num (.t 96) (.t 97),some (88,false),0,[]⟩,
  ⟨some 99,.mov (.t 98),some (88,false),0,[]⟩,
  ⟨some 100,.mov (.t 14),some (99,true),0,[]⟩,
  ⟨some 101,.mov (.t 17),some (99,true),0,[]⟩,
  ⟨some 102,.iadS 25 (.t 100) (.t 101),some (99,true),0,[]⟩,
  ⟨some 103,.fad (.t 102) 1,some (99,true),0,[]⟩,
  ⟨some 104,.load false 1 (.t 103),some (99,true),0,[]⟩,
  ⟨some 105,.fad (.t 16) 1,some (99,true),0,[]⟩,
  ⟨some 106,.load false 1 (.t 105),some (99,true),0,[]⟩,
  ⟨some 107,.bin .lss .num (.t 104) (.t 106),some (99,true),0,[]⟩,
  ⟨some 108,.pick (.t 99) (.t 107) (.c (.sc (.bool false))),some (88,false),0,[]⟩,
  ⟨some 109,.pick (.t 88) (.c (.sc (.bool true))) (.t 108),some (77,true),0,[]⟩,
  ⟨some 110,.pick (.t 77) (.t 109) (.c (.sc (.bool false))),none,0,[]⟩]) (.cond (.t 110) .skip (.exit 4 [16,14,17,15,11,13,3,5,4]))) (.block 5 (.region [⟨some 111,.mov (.t 17),none,0,[]⟩,
  ⟨some 112,.bin .add .num (.t 111) (.c (.sc (.int .i64 1))),none,0,[]⟩,
  ⟨some 17,.mov (.t 112),none,0,[]⟩])))
def zoX:Cd:=zBa
def zBb(c1:Cd):Cd:=(.seq (.region [⟨some 57,.mov (.t 13),none,0,[]⟩,
  ⟨some 58,.load true 2 (.t 16),none,0,[]⟩,
  ⟨some 59,.bsl 25 2 (.a [.s,.s]) [.t 58],none,0,[]⟩,
  ⟨some 60,.app 25 16 (.t 57) (.t 59),none,0,[]⟩,
  ⟨some 13,.mov (.t 60),none,0,[]⟩]) (.seq (.seq (.region [⟨some 61,.fad (.t 5) 0,none,0,[]⟩,
  ⟨some 62,.load false 1 (.t 61),none,0,[]⟩,
  ⟨some 63,.fad (.t 16) 0,none,0,[]⟩,
  ⟨some 64,.load false 1 (.t 63),none,0,[]⟩,
  ⟨some 65,.mov (.t 3),none,0,[]⟩,
  ⟨some 66,.call 128 [.s,.s,.s] [.t 62,.t 64,.t 65],none,0,[]⟩,
  ⟨some 67,.un .not (.t 66),none,0,[]⟩]) (.cond (.t 67) (.exit 3 [15,11,13,3,5,4,14]) .skip)) (.seq (.region [⟨some 17,.mov (.c (.sc (.int .i64 0))),none,0,[]⟩]) (.seq (.region [⟨some 68,.fad (.t 5) 0,none,0,[]⟩,
  ⟨some 69,.load false 1 (.t 68),none,0,[]⟩,
  ⟨some 70,.fad (.t 16) 0,none,0,[]⟩,
  ⟨some 71,.load false 1 (.t 70),none,0,[]⟩,
  ⟨some 72,.call 211 [.s,.s] [.t 69,.t 71],none,0,[]⟩,
  ⟨some 18,.mov (.t 72),none,0,[]⟩]) (.seq (.block 4 (.loop [18,16,14,17,15,11,13,3,5,4] c1)) (.seq (.region [⟨some 113,.bsl 25 2 (.a [.s,.s]) [],none,0,[]⟩,
  ⟨some 114,.mov (.t 14),none,0,[]⟩,
  ⟨some 115,.mov (.t 17),none,0,[]⟩,
  ⟨some 116,.sls 25 (.t 114) none (some (.t 115)),none,0,[]⟩,
  ⟨some 117,.app 25 16 (.t 113) (.t 116),none,0,[]⟩,
  ⟨some 19,.mov (.t 117),none,0,[]⟩]) (.seq (.region [⟨some 118,.mov (.t 19),none,0,[]⟩,
  ⟨some 119,.load true 2 (.t 16),none,0,[]⟩,
  ⟨some 120,.bsl 25 2 (.a [.s,.s]) [.t 119],none,0,[]⟩,
  ⟨some 121,.app 25 16 (.t 118) (.t 120),none,0,[]⟩,
  ⟨some 19,.mov (.t 121),none,0,[]⟩]) (.region [⟨some 122,.mov (.t 19),none,0,[]⟩,
  ⟨some 123,.mov (.t 14),none,0,[]⟩,
  ⟨some 124,.mov (.t 17),none,0,[]⟩,
  ⟨some 125,.sls 25 (.t 123) (some (.t 124)) none,none,0,[]⟩,
  ⟨some 126,.app 25 16 (.t 122) (.t 125),none,0,[]⟩,
  ⟨some 14,.frz 25 (.t 126),none,0,[]⟩]))))))))
def zu0:Cd:=zBb zoX
def zBc(c2:Cd):Cd:=(.seq (.seq (.region [⟨some 36,.mov (.t 15),none,0,[]⟩,
  ⟨some 37,.mov (.t 11),none,0,[]⟩,
  ⟨some 38,.len false (.t 37),none,0,[]⟩,
  ⟨some 39,.bin .lss .num (.t 36) (.t 38),none,0,[]⟩]) (.cond (.t 39) .skip (.exit 2 [4,14]))) (.seq (.block 3 (.seq (.region [⟨some 42,.mov (.t 11),none,0,[]⟩,
  ⟨some 43,.mov (.t 15),none,0,[]⟩,
  ⟨some 44,.iadS 25 (.t 42) (.t 43),none,0,[]⟩,
  ⟨some 45,.load true 2 (.t 44),none,0,[]⟩,
  ⟨some 16,.box 25 2 (.c (.agg [.sc (.int .u64 0),.sc (.int .u16 0)])),none,0,[]⟩,
  ⟨none,.store 2 (.t 16) (.t 45),none,0,[]⟩]) (.seq (.seq (.region [⟨some 46,.mov (.t 13),none,0,[]⟩,
  ⟨some 47,.fad (.t 16) 1,none,0,[]⟩,
  ⟨some 48,.load false 1 (.t 47),none,0,[]⟩,
  ⟨some 49,.call 271 [.l 25,.s] [.t 46,.t 48],none,0,[]⟩,
  ⟨some 50,.mov (.t 49),none,0,[]⟩,
  ⟨some 51,.fad (.t 16) 1,some (50,false),0,[]⟩,
  ⟨some 52,.load false 1 (.t 51),some (50,false),0,[]⟩,
  ⟨some 53,.fad (.t 5) 1,some (50,false),0,[]⟩,
  ⟨some 54,.load false 1 (.t 53),some (50,false),0,[]⟩,
  ⟨some 55,.bin .eql .num (.t 52) (.t 54),some (50,false),0,[]⟩,
  ⟨some 56,.pick (.t 50) (.c (.sc (.bool true))) (.t 55),none,0,[]⟩]) (.cond (.t 56) (.exit 3 [15,11,13,3,5,4,14]) .skip)) (.seg [13,16,14,15,11,3,5,4] [15,11,13,3,5,4,14] c2)))) (.region [⟨some 40,.mov (.t 15),none,0,[]⟩,
  ⟨some 41,.bin .add .num (.t 40) (.c (.sc (.int .i64 1))),none,0,[]⟩,
  ⟨some 15,.mov (.t 41),none,0,[]⟩])))
def zoY:Cd:=zBc zu0
def zHp(c0:Cd)(c3:Cd):Fn:=⟨137,[.t 10],[.l 25],.lit,
 (.seq (.region [⟨some 5,.box 25 2 (.t 0),none,0,[]⟩,
  ⟨some 10,.nil 25,none,0,[]⟩]) (.seq (.region [⟨some 20,.mov (.t 1),none,0,[]⟩,
  ⟨some 21,.call 92 [.l 55] [.t 20],none,0,[]⟩,
  ⟨some 11,.mov (.t 21),none,0,[]⟩]) (.seq (.seq (.region [⟨some 12,.mov (.c (.sc (.int .i64 0))),none,0,[]⟩]) (.block 0 (.loop [2,12,11,3,5,4] c0))) (.seq (.region [⟨some 13,.nil 25,none,0,[]⟩]) (.seq (.region [⟨some 14,.frz 25 (.c (.lit 0 true [])),none,0,[]⟩]) (.seq (.seq (.region [⟨some 15,.mov (.c (.sc (.int .i64 0))),none,0,[]⟩]) (.block 2 (.loop [11,13,3,5,15,4,14] c3))) (.seq (.seq (.region [⟨some 127,.mov (.t 4),none,0,[]⟩,
  ⟨some 128,.bin .lss .num (.t 127) (.c (.sc (.int .i64 0))),none,0,[]⟩]) (.cond (.t 128) (.seq (.region [⟨some 10,.nil 25,none,0,[]⟩]) (.ret [10])) .skip)) (.seq (.seq (.region [⟨some 129,.mov (.t 14),none,0,[]⟩,
  ⟨some 130,.len false (.t 129),none,0,[]⟩,
  ⟨some 131,.mov (.t 4),none,0,[]⟩,
  ⟨some 132,.bin .gtr .num (.t 130) (.t 131),none,0,[]⟩]) (.cond (.t 132) (.region [⟨some 133,.mov (.t 14),none,0,[]⟩,
  ⟨some 134,.mov (.t 4),none,0,[]⟩,
  ⟨some 135,.sls 25 (.t 133) none (some (.t 134)),none,0,[]⟩,
  ⟨some 14,.frz 25 (.t 135),none,0,[]⟩]) .skip)) (.seq (.region [⟨some 136,.mov (.t 14),none,0,[]⟩,
  ⟨some 10,.mov (.t 136),none,0,[]⟩]) (.ret [10]))))))))))⟩
def g229:Fn:=zHp zoW zoY
theorem zKe:zac Tryz.prog .lit [1000016,80000001400025,1001000025,1001300025] 229=some g229:=by kernel_rfl
def p233:Lit (zac Tryz.prog .lit [1000016] 233):=⟨_,by cbv⟩
def zHq:Fn:=lit (fnF p233.v [])
def g233:Fn:=zHq
theorem zKf:zac Tryz.prog .lit [1000016] 233=some g233:=p233.h.trans (by kernel_rfl)
def p243:Lit (zac Tryz.prog .lit [1000016,18,35,1001200078,1000700078] 243):=⟨_,by cbv⟩
def zBd:Cd:=lit (bdF p243.v 0 [])
def zoZ:Cd:=zBd
def zHr(c0:Cd):Fn:=lit (fnF p243.v [c0])
def g243:Fn:=zHr zoZ
theorem zKg:zac Tryz.prog .lit [1000016,18,35,1001200078,1000700078] 243=some g243:=p243.h.trans (by kernel_rfl)
def p245:Lit (zac Tryz.prog .lit [1000016,1000600076] 245):=⟨_,by cbv⟩
def zBe:Cd:=lit (bdF p245.v 0 [])
def zu1:Cd:=zBe
def zHs(c0:Cd):Fn:=lit (fnF p245.v [c0])
def g245:Fn:=zHs zu1
theorem zKh:zac Tryz.prog .lit [1000016,1000600076] 245=some g245:=p245.h.trans (by kernel_rfl)
def p248:Lit (zac Tryz.prog .lit [1000016] 248):=⟨_,by cbv⟩
def zBf:Cd:=lit (bdF p248.v 0 [])
def zo0:Cd:=zBf
def zHt(c0:Cd):Fn:=lit (fnF p248.v [c0])
def g248:Fn:=zHt zo0
theorem zKi:zac Tryz.prog .lit [1000016] 248=some g248:=p248.h.trans (by kernel_rfl)
def p249:Lit (zac Tryz.prog .lit [1000016,1000300009,1000200009] 249):=⟨_,by cbv⟩
def zBg:Cd:=lit (bdF p249.v 0 [])
def zo1:Cd:=zBg
def zHu(c0:Cd):Fn:=lit (fnF p249.v [c0])
def g249:Fn:=zHu zo1
theorem zKj:zac Tryz.prog .lit [1000016,1000300009,1000200009] 249=some g249:=p249.h.trans (by kernel_rfl)
def p252:Lit (zac Tryz.prog .lit [1000016,1000600076] 252):=⟨_,by cbv⟩
def zBh:Cd:=lit (bdF p252.v 0 [])
def zo2:Cd:=zBh
def zHv(c0:Cd):Fn:=lit (fnF p252.v [c0])
def g252:Fn:=zHv zo2
theorem zKk:zac Tryz.prog .lit [1000016,1000600076] 252=some g252:=p252.h.trans (by kernel_rfl)
end Go.Ab.Tryz
