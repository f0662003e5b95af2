/- Our texts for this statement, merged: what its theorem leads to. -/
import Derived.Test.YtjmmobicnfojeaaGreatDoorQWb3
set_option linter.unusedVariables false
set_option linter.unusedSimpArgs false
noncomputable section
namespace Go.Ab.Tryz
open Go Go.Proofs
set_option maxRecDepth 100000
set_option maxHeartbeats 4000000
def p183:Lit (zag Tryz.prog .lit [1000016] 183):=⟨_,by cbv⟩
def zH8:Fn:=lit (fnF p183.v [])
def g183:Fn:=zH8
theorem zKE:zag Tryz.prog .lit [1000016] 183=some g183:=p183.h.trans (by kernel_rfl)
def p184:Lit (zag Tryz.prog .mv [1000016] 184):=⟨_,by cbv⟩
def zH9:Fn:=lit (fnF p184.v [])
def g184:Fn:=zH9
theorem zKF:zag Tryz.prog .mv [1000016] 184=some g184:=p184.h.trans (by kernel_rfl)
def p185:Lit (zag Tryz.prog .lit [1000016] 185):=⟨_,by cbv⟩
def zIa:Fn:=lit (fnF p185.v [])
def g185:Fn:=zIa
theorem zKG:zag Tryz.prog .lit [1000016] 185=some g185:=p185.h.trans (by kernel_rfl)
def p190:Lit (zag Tryz.prog .lit [1000016] 190):=⟨_,by cbv⟩
def zIb:Fn:=lit (fnF p190.v [])
def g190:Fn:=zIb
theorem zKH:zag Tryz.prog .lit [1000016] 190=some g190:=p190.h.trans (by kernel_rfl)
def p191:Lit (zag Tryz.prog .lit [1000016] 191):=⟨_,by cbv⟩
def zIc:Fn:=lit (fnF p191.v [])
def g191:Fn:=zIc
theorem zKI:zag Tryz.prog .lit [1000016] 191=some g191:=p191.h.trans (by kernel_rfl)
def p192:Lit (zag Tryz.prog .lit [1000016,80000003200025,80000003900025,1001400025,1001000025] 192):=⟨_,by cbv⟩
def zBN:Cd:=lit (bdF p192.v 0 [])
def zo8:Cd:=zBN
def zBO:Cd:=lit (bdF p192.v 1 [])
def zo9:Cd:=zBO
def zId (c0:Cd) (c1:Cd):Fn:=lit (fnF p192.v [c0,c1])
def g192:Fn:=zId zo8 zo9
theorem zKJ:zag Tryz.prog .lit [1000016,80000003200025,80000003900025,1001400025,1001000025] 192=some g192:=p192.h.trans (by kernel_rfl)
def p200:Lit (zag Tryz.prog .lit [1000016] 200):=⟨_,by cbv⟩
def zBP:Cd:=lit (bdF p200.v 0 [])
def zpb:Cd:=zBP
def zIe (c0:Cd):Fn:=lit (fnF p200.v [c0])
def g200:Fn:=zIe zpb
theorem zKK:zag Tryz.prog .lit [1000016] 200=some g200:=p200.h.trans (by kernel_rfl)
def p201:Lit (zag Tryz.prog .lit [1000016] 201):=⟨_,by cbv⟩
def zIf:Fn:=lit (fnF p201.v [])
def g201:Fn:=zIf
theorem zKL:zag Tryz.prog .lit [1000016] 201=some g201:=p201.h.trans (by kernel_rfl)
def p202:Lit (zag Tryz.prog .lit [1000016] 202):=⟨_,by cbv⟩
def zIg:Fn:=lit (fnF p202.v [])
def g202:Fn:=zIg
theorem zKM:zag Tryz.prog .lit [1000016] 202=some g202:=p202.h.trans (by kernel_rfl)
def p207:Lit (zag Tryz.prog .lit [1000016] 207):=⟨_,by cbv⟩
def zIh:Fn:=lit (fnF p207.v [])
def g207:Fn:=zIh
theorem zKN:zag Tryz.prog .lit [1000016] 207=some g207:=p207.h.trans (by kernel_rfl)
def p208:Lit (zag Tryz.prog .lit [1000016] 208):=⟨_,by cbv⟩
def zBQ:Cd:=lit (bdF p208.v 0 [])
def zpc:Cd:=zBQ
def zIi (c0:Cd):Fn:=lit (fnF p208.v [c0])
def g208:Fn:=zIi zpc
theorem zKO:zag Tryz.prog .lit [1000016] 208=some g208:=p208.h.trans (by kernel_rfl)
def p209:Lit (zag Tryz.prog .lit [1000016] 209):=⟨_,by cbv⟩
def zwf:Cd:=lit (bdF p209.v 0 [])
def zhd:Cd:=zwf
def zCJ (c0:Cd):Fn:=lit (fnF p209.v [c0])
def g209:Fn:=zCJ zhd
theorem zKP:zag Tryz.prog .lit [1000016] 209=some g209:=p209.h.trans (by kernel_rfl)
def p210:Lit (zag Tryz.prog .lit [1000016] 210):=⟨_,by cbv⟩
def zIj:Fn:=lit (fnF p210.v [])
def g210:Fn:=zIj
theorem zKQ:zag Tryz.prog .lit [1000016] 210=some g210:=p210.h.trans (by kernel_rfl)
def p211:Lit (zag Tryz.prog .keep [1000016] 211):=⟨_,by cbv⟩
def zIk:Fn:=lit (fnF p211.v [])
def g211:Fn:=zIk
theorem zKR:zag Tryz.prog .keep [1000016] 211=some g211:=p211.h.trans (by kernel_rfl)
def p212:Lit (zag Tryz.prog .mv [1000016] 212):=⟨_,by cbv⟩
def zCK:Fn:=lit (fnF p212.v [])
def g212:Fn:=zCK
theorem zKS:zag Tryz.prog .mv [1000016] 212=some g212:=p212.h.trans (by kernel_rfl)
def p213:Lit (zag Tryz.prog .mv [1000016,1000400084] 213):=⟨_,by cbv⟩
def zBR:Cd:=lit (bdF p213.v 0 [])
def zpd:Cd:=zBR
def zIl (c0:Cd):Fn:=lit (fnF p213.v [c0])
def g213:Fn:=zIl zpd
theorem zKT:zag Tryz.prog .mv [1000016,1000400084] 213=some g213:=p213.h.trans (by kernel_rfl)
def p214:Lit (zag Tryz.prog .mv [1000016] 214):=⟨_,by cbv⟩
def zIm:Fn:=lit (fnF p214.v [])
def g214:Fn:=zIm
theorem zKU:zag Tryz.prog .mv [1000016] 214=some g214:=p214.h.trans (by kernel_rfl)
def p215:Lit (zag Tryz.prog .lit [1000016,1000600084] 215):=⟨_,by cbv⟩
def zBS:Cd:=lit (bdF p215.v 0 [])
def zvl:Cd:=zBS
def zIn (c0:Cd):Fn:=lit (fnF p215.v [c0])
def g215:Fn:=zIn zvl
theorem zKV:zag Tryz.prog .lit [1000016,1000600084] 215=some g215:=p215.h.trans (by kernel_rfl)
def p216:Lit (zag Tryz.prog .lit [1000016] 216):=⟨_,by cbv⟩
def zBT:Cd:=lit (bdF p216.v 0 [])
def zpe:Cd:=zBT
def zIo (c0:Cd):Fn:=lit (fnF p216.v [c0])
def g216:Fn:=zIo zpe
theorem zKW:zag Tryz.prog .lit [1000016] 216=some g216:=p216.h.trans (by kernel_rfl)
def p217:Lit (zag Tryz.prog .lit [1000016,1001000060] 217):=⟨_,by cbv⟩
def zwg:Cd:=lit (bdF p217.v 0 [])
def zjE:Cd:=zwg
def zBU (c0:Cd):Cd:=lit (bdF p217.v 1 [c0])
def zvm:Cd:=zBU zjE
def zIp (c1:Cd):Fn:=lit (fnF p217.v [.skip,c1])
def g217:Fn:=zIp zvm
theorem zKX:zag Tryz.prog .lit [1000016,1001000060] 217=some g217:=p217.h.trans (by kernel_rfl)
def p218:Lit (zag Tryz.prog .lit [1000016,1000500067,1000400067] 218):=⟨_,by cbv⟩
def zBV:Cd:=lit (bdF p218.v 0 [])
def zpf:Cd:=zBV
def zIq (c0:Cd):Fn:=lit (fnF p218.v [c0])
def g218:Fn:=zIq zpf
theorem zKY:zag Tryz.prog .lit [1000016,1000500067,1000400067] 218=some g218:=p218.h.trans (by kernel_rfl)
def p219:Lit (zag Tryz.prog .mv [1000016,1000600067] 219):=⟨_,by cbv⟩
def zIr:Fn:=lit (fnF p219.v [])
def g219:Fn:=zIr
theorem zKZ:zag Tryz.prog .mv [1000016,1000600067] 219=some g219:=p219.h.trans (by kernel_rfl)
def zBW:Cd:=(.seq (.region [⟨some 18,.mov (.t 0),none,0,[]⟩,
  ⟨some 19,.mov (.t 0),none,0,[]⟩,
  ⟨some 20,.nck (.t 19),none,0,[]⟩,
  ⟨some 21,.fad (.t 20) 10,none,0,[]⟩,
  ⟨some 22,.load false 1 (.t 21),none,0,[]⟩,
  ⟨some 23,.fad (.t 6) 0,none,0,[]⟩,
  ⟨some 24,.load false 1 (.t 23),none,0,[]⟩,
  ⟨some 25,.fad (.t 6) 1,none,0,[]⟩,
  ⟨some 26,.load false 1 (.t 25),none,0,[]⟩,
  ⟨some 27,.fad (.t 6) 3,none,0,[]⟩,
  ⟨some 28,.load false 1 (.t 27),none,0,[]⟩,
  ⟨some 29,.mov (.t 3),none,0,[]⟩,
  ⟨some 30,.mov (.t 2),none,0,[]⟩,
  ⟨some 31,.mov (.t 4),none,0,[]⟩,
  ⟨some 32,.build [.sc (.int .i64 0),.sc (.int .i64 0),.sc (.string ⟨#[]⟩),.sc (.string ⟨#[]⟩),.sc (.bool false),.sc (.int .i64 0)] [(0,1,.t 24),(1,1,.t 26),(2,1,.t 28),(3,1,.t 29),(4,1,.t 30),(5,1,.t 31)],none,0,[]⟩,
  ⟨some 33,.bsl 60 6 (.a [.s,.s,.s,.s,.s,.s]) [.t 32],none,0,[]⟩,
  ⟨some 34,.app 60 64 (.t 22) (.t 33),none,0,[]⟩,
  ⟨some 35,.nck (.t 18),none,0,[]⟩,
  ⟨some 36,.fad (.t 35) 10,none,0,[]⟩,
  ⟨none,.store 1 (.t 36) (.t 34),none,0,[]⟩]) (.region [⟨some 37,.mov (.t 0),none,0,[]⟩,
  ⟨some 38,.mov (.t 0),none,0,[]⟩,
  ⟨some 39,.nck (.t 38),none,0,[]⟩,
  ⟨some 40,.fad (.t 39) 10,none,0,[]⟩,
  ⟨some 41,.load false 1 (.t 40),none,0,[]⟩,
  ⟨some 42,.mov (.t 0),none,0,[]⟩,
  ⟨some 43,.nck (.t 42),none,0,[]⟩,
  ⟨some 44,.fad (.t 43) 10,none,0,[]⟩,
  ⟨some 45,.load false 1 (.t 44),none,0,[]⟩,
  ⟨some 46,.len false (.t 45),none,0,[]⟩,
  ⟨some 47,.bin .sub .num (.t 46) (.c (.sc (.int .i64 16))),none,0,[]⟩,
  ⟨some 48,.mx true [.c (.sc (.int .i64 0)),.t 47],none,0,[]⟩,
  ⟨some 49,.sls 60 (.t 41) (some (.t 48)) none,none,0,[]⟩,
  ⟨some 50,.call 53 [.l 60] [.t 49],none,0,[]⟩,
  ⟨some 51,.nck (.t 37),none,0,[]⟩,
  ⟨some 52,.fad (.t 51) 10,none,0,[]⟩,
  ⟨none,.store 1 (.t 52) (.t 50),none,0,[]⟩]))
def zvn:Cd:=zBW
def zIs (c0:Cd):Fn:=⟨53,[],[],.mv,
 (.seq (.region [⟨some 6,.box 67 14 (.t 1),none,0,[]⟩]) (.seq (.seq (.region [⟨some 10,.fad (.t 6) 1,none,0,[]⟩,
  ⟨some 11,.load false 1 (.t 10),none,0,[]⟩,
  ⟨some 12,.bin .neq .num (.t 11) (.c (.sc (.int .i64 2))),none,0,[]⟩,
  ⟨some 13,.mov (.t 12),none,0,[]⟩,
  ⟨some 14,.fad (.t 6) 1,some (13,true),0,[]⟩,
  ⟨some 15,.load false 1 (.t 14),some (13,true),0,[]⟩,
  ⟨some 16,.bin .neq .num (.t 15) (.c (.sc (.int .i64 3))),some (13,true),0,[]⟩,
  ⟨some 17,.pick (.t 13) (.t 16) (.c (.sc (.bool false))),none,0,[]⟩]) (.cond (.t 17) (.ret []) .skip)) (.seg [6,3,2,4,0] [] c0)))⟩
def g220:Fn:=zIs zvn
theorem zK0:zag Tryz.prog .mv [1000016] 220=some g220:=by kernel_rfl
def p221:Lit (zag Tryz.prog .lit [1000016] 221):=⟨_,by cbv⟩
def zIt:Fn:=lit (fnF p221.v [])
def g221:Fn:=zIt
theorem zK1:zag Tryz.prog .lit [1000016] 221=some g221:=p221.h.trans (by kernel_rfl)
def p233:Lit (zag Tryz.prog .mv [1000016] 233):=⟨_,by cbv⟩
def ztk:Cd:=lit (bdF p233.v 0 [])
def zdx:Cd:=ztk
def zyy (c0:Cd):Fn:=lit (fnF p233.v [c0])
def g233:Fn:=zyy zdx
theorem zK4:zag Tryz.prog .mv [1000016] 233=some g233:=p233.h.trans (by kernel_rfl)
def p234:Lit (zag Tryz.prog .lit [1000016] 234):=⟨_,by cbv⟩
def zIu:Fn:=lit (fnF p234.v [])
def g234:Fn:=zIu
theorem zK5:zag Tryz.prog .lit [1000016] 234=some g234:=p234.h.trans (by kernel_rfl)
def p235:Lit (zag Tryz.prog .lit [1000016] 235):=⟨_,by cbv⟩
def zIv:Fn:=lit (fnF p235.v [])
def g235:Fn:=zIv
theorem zK6:zag Tryz.prog .lit [1000016] 235=some g235:=p235.h.trans (by kernel_rfl)
end Go.Ab.Tryz
