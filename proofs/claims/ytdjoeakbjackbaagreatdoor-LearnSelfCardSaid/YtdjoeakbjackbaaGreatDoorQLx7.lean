/- Our texts for this statement, merged: what its theorem leads to. -/
import Derived.Test.YtdjoeakbjackbaaGreatDoorQLx3
set_option linter.unusedVariables false
set_option linter.unusedSimpArgs false
noncomputable section
namespace Go.Ab.Tryz
open Go Go.Proofs
set_option maxRecDepth 100000
set_option maxHeartbeats 4000000
def p134:Lit (zae Tryz.prog .lit [1000016] 134):=⟨_,by cbv⟩
def zLu:Fn:=lit (fnF p134.v [])
def g134:Fn:=zLu
theorem zOd:zae Tryz.prog .lit [1000016] 134=some g134:=p134.h.trans (by kernel_rfl)
def p135:Lit (zae Tryz.prog .mv [1000016,1000400055] 135):=⟨_,by cbv⟩
def zE2:Cd:=lit (bdF p135.v 0 [])
def zrF:Cd:=zE2
def zLv(c0:Cd):Fn:=lit (fnF p135.v [c0])
def g135:Fn:=zLv zrF
theorem zOe:zae Tryz.prog .mv [1000016,1000400055] 135=some g135:=p135.h.trans (by kernel_rfl)
def p136:Lit (zae Tryz.prog .lit [1000016] 136):=⟨_,by cbv⟩
def zLw:Fn:=lit (fnF p136.v [])
def g136:Fn:=zLw
theorem zOf:zae Tryz.prog .lit [1000016] 136=some g136:=p136.h.trans (by kernel_rfl)
def p137:Lit (zae Tryz.prog .lit [1000016] 137):=⟨_,by cbv⟩
def zLx:Fn:=lit (fnF p137.v [])
def g137:Fn:=zLx
theorem zOg:zae Tryz.prog .lit [1000016] 137=some g137:=p137.h.trans (by kernel_rfl)
def p138:Lit (zae Tryz.prog .lit [1000016] 138):=⟨_,by cbv⟩
def zLy:Fn:=lit (fnF p138.v [])
def g138:Fn:=zLy
theorem zOh:zae Tryz.prog .lit [1000016] 138=some g138:=p138.h.trans (by kernel_rfl)
def p139:Lit (zae Tryz.prog .lit [1000016] 139):=⟨_,by cbv⟩
def zLz:Fn:=lit (fnF p139.v [])
def g139:Fn:=zLz
theorem zOi:zae Tryz.prog .lit [1000016] 139=some g139:=p139.h.trans (by kernel_rfl)
def p140:Lit (zae Tryz.prog .lit [1000016] 140):=⟨_,by cbv⟩
def zLA:Fn:=lit (fnF p140.v [])
def g140:Fn:=zLA
theorem zOj:zae Tryz.prog .lit [1000016] 140=some g140:=p140.h.trans (by kernel_rfl)
def zE3:Cd:=(.seq (.region [⟨some 18,.mov (.t 0),none,0,[]⟩,
  ⟨some 19,.mov (.t 0),none,0,[]⟩,
  ⟨some 20,.nck (.t 19),none,0,[]⟩,
  ⟨some 21,.fad (.t 20) 10,none,0,[]⟩,
  ⟨some 22,.load false 1 (.t 21),none,0,[]⟩,
  ⟨some 23,.fad (.t 6) 0,none,0,[]⟩,
  ⟨some 24,.load false 1 (.t 23),none,0,[]⟩,
  ⟨some 25,.fad (.t 6) 1,none,0,[]⟩,
  ⟨some 26,.load false 1 (.t 25),none,0,[]⟩,
  ⟨some 27,.fad (.t 6) 3,none,0,[]⟩,
  ⟨some 28,.load false 1 (.t 27),none,0,[]⟩,
  ⟨some 29,.mov (.t 3),none,0,[]⟩,
  ⟨some 30,.mov (.t 2),none,0,[]⟩,
  ⟨some 31,.mov (.t 4),none,0,[]⟩,
  ⟨some 32,.build [.sc (.int .i64 0),.sc (.int .i64 0),.sc (.string ⟨#[]⟩),.sc (.string ⟨#[]⟩),.sc (.bool false),.sc (.int .i64 0)] [(0,1,.t 24),(1,1,.t 26),(2,1,.t 28),(3,1,.t 29),(4,1,.t 30),(5,1,.t 31)],none,0,[]⟩,
  ⟨some 33,.bsl 74 6 (.a [.s,.s,.s,.s,.s,.s]) [.t 32],none,0,[]⟩,
  ⟨some 34,.app 74 64 (.t 22) (.t 33),none,0,[]⟩,
  ⟨some 35,.nck (.t 18),none,0,[]⟩,
  ⟨some 36,.fad (.t 35) 10,none,0,[]⟩,
  ⟨none,.store 1 (.t 36) (.t 34),none,0,[]⟩]) (.region [⟨some 37,.mov (.t 0),none,0,[]⟩,
  ⟨some 38,.mov (.t 0),none,0,[]⟩,
  ⟨some 39,.nck (.t 38),none,0,[]⟩,
  ⟨some 40,.fad (.t 39) 10,none,0,[]⟩,
  ⟨some 41,.load false 1 (.t 40),none,0,[]⟩,
  ⟨some 42,.mov (.t 0),none,0,[]⟩,
  ⟨some 43,.nck (.t 42),none,0,[]⟩,
  ⟨some 44,.fad (.t 43) 10,none,0,[]⟩,
  ⟨some 45,.load false 1 (.t 44),none,0,[]⟩,
  ⟨some 46,.len false (.t 45),none,0,[]⟩,
  ⟨some 47,.bin .sub .num (.t 46) (.c (.sc (.int .i64 16))),none,0,[]⟩,
  ⟨some 48,.mx true [.c (.sc (.int .i64 0)),.t 47],none,0,[]⟩,
  ⟨some 49,.sls 74 (.t 41) (some (.t 48)) none,none,0,[]⟩,
  ⟨some 50,.call 48 [.l 74] [.t 49],none,0,[]⟩,
  ⟨some 51,.nck (.t 37),none,0,[]⟩,
  ⟨some 52,.fad (.t 51) 10,none,0,[]⟩,
  ⟨none,.store 1 (.t 52) (.t 50),none,0,[]⟩]))
def zx9:Cd:=zE3
def zLB(c0:Cd):Fn:=⟨53,[],[],.mv,
 (.seq (.region [⟨some 6,.box 57 14 (.t 1),none,0,[]⟩]) (.seq (.seq (.region [⟨some 10,.fad (.t 6) 1,none,0,[]⟩,
  ⟨some 11,.load false 1 (.t 10),none,0,[]⟩,
  ⟨some 12,.bin .neq .num (.t 11) (.c (.sc (.int .i64 2))),none,0,[]⟩,
  ⟨some 13,.mov (.t 12),none,0,[]⟩,
  ⟨some 14,.fad (.t 6) 1,some (13,true),0,[]⟩,
  ⟨some 15,.load false 1 (.t 14),some (13,true),0,[]⟩,
  ⟨some 16,.bin .neq .num (.t 15) (.c (.sc (.int .i64 3))),some (13,true),0,[]⟩,
  ⟨some 17,.pick (.t 13) (.t 16) (.c (.sc (.bool false))),none,0,[]⟩]) (.cond (.t 17) (.ret []) .skip)) (.seg [6,3,2,4,0] [] c0)))⟩
def g141:Fn:=zLB zx9
theorem zOk:zae Tryz.prog .mv [1000016] 141=some g141:=by kernel_rfl
def p142:Lit (zae Tryz.prog .lit [1000016,1001000074] 142):=⟨_,by cbv⟩
def zzh:Cd:=lit (bdF p142.v 0 [])
def zlR:Cd:=zzh
def zE4(c0:Cd):Cd:=lit (bdF p142.v 1 [c0])
def zya:Cd:=zE4 zlR
def zLC(c1:Cd):Fn:=lit (fnF p142.v [.skip,c1])
def g142:Fn:=zLC zya
theorem zOl:zae Tryz.prog .lit [1000016,1001000074] 142=some g142:=p142.h.trans (by kernel_rfl)
def p143:Lit (zae Tryz.prog .lit [1000016,1000500057,1000400057] 143):=⟨_,by cbv⟩
def zE5:Cd:=lit (bdF p143.v 0 [])
def zrG:Cd:=zE5
def zLD(c0:Cd):Fn:=lit (fnF p143.v [c0])
def g143:Fn:=zLD zrG
theorem zOm:zae Tryz.prog .lit [1000016,1000500057,1000400057] 143=some g143:=p143.h.trans (by kernel_rfl)
def p154:Lit (zae Tryz.prog .lit [1000016] 154):=⟨_,by cbv⟩
def zzi:Cd:=lit (bdF p154.v 0 [])
def ziP:Cd:=zzi
def zGt(c0:Cd):Fn:=lit (fnF p154.v [c0])
def g154:Fn:=zGt ziP
theorem zOn:zae Tryz.prog .lit [1000016] 154=some g154:=p154.h.trans (by kernel_rfl)
def p155:Lit (zae Tryz.prog .lit [1000016,1000500025] 155):=⟨_,by cbv⟩
def zE6:Cd:=lit (bdF p155.v 0 [])
def zyb:Cd:=zE6
def zLE(c0:Cd):Fn:=lit (fnF p155.v [c0])
def g155:Fn:=zLE zyb
theorem zOo:zae Tryz.prog .lit [1000016,1000500025] 155=some g155:=p155.h.trans (by kernel_rfl)
def p158:Lit (zae Tryz.prog .keep [1000016,1000500025,1000400025] 158):=⟨_,by cbv⟩
def zE7:Cd:=lit (bdF p158.v 0 [])
def zrH:Cd:=zE7
def zLF(c0:Cd):Fn:=lit (fnF p158.v [c0])
def g158:Fn:=zLF zrH
theorem zOp:zae Tryz.prog .keep [1000016,1000500025,1000400025] 158=some g158:=p158.h.trans (by kernel_rfl)
def p159:Lit (zae Tryz.prog .lit [1000016] 159):=⟨_,by cbv⟩
def zLG:Fn:=lit (fnF p159.v [])
def g159:Fn:=zLG
theorem zOq:zae Tryz.prog .lit [1000016] 159=some g159:=p159.h.trans (by kernel_rfl)
def zE8:Cd:=(.seq (.region [⟨some 63,.fad (.t 2) 0,none,0,[]⟩,
  ⟨some 64,.load true 2 (.t 63),none,0,[]⟩,
  ⟨some 65,.fad (.t 2) 5,none,0,[]⟩,
  ⟨some 66,.load false 1 (.t 65),none,0,[]⟩,
  ⟨some 67,.fad (.t 2) 6,none,0,[]⟩,
  ⟨some 68,.load false 1 (.t 67),none,0,[]⟩,
  ⟨some 69,.mov (.t 1),none,0,[]⟩,
  ⟨some 70,.call 229 [.a [.s,.s],.l 55,.l 82,.s,.s] [.t 64,.t 66,.t 68,.t 69,.c (.sc (.int .i64 4))],none,0,[]⟩,
  ⟨some 8,.mov (.t 70),none,0,[]⟩]) (.seq (.seq (.region [⟨some 71,.mov (.t 8),none,0,[]⟩,
  ⟨some 72,.len false (.t 71),none,0,[]⟩,
  ⟨some 73,.bin .eql .num (.t 72) (.c (.sc (.int .i64 0))),none,0,[]⟩]) (.cond (.t 73) (.seq (.region [⟨some 74,.fad (.t 2) 0,none,0,[]⟩,
  ⟨some 75,.load true 2 (.t 74),none,0,[]⟩,
  ⟨none,.store 2 (.t 4) (.t 75),none,0,[]⟩,
  ⟨some 5,.nil 25,none,0,[]⟩,
  ⟨some 6,.mov (.c (.sc (.bool true))),none,0,[]⟩]) (.ret [4,5,6])) .skip)) (.seq (.region [⟨some 76,.build [.sc (.int .u64 0),.sc (.int .u16 0)] [],none,0,[]⟩,
  ⟨some 77,.mov (.t 8),none,0,[]⟩,
  ⟨none,.store 2 (.t 4) (.t 76),none,0,[]⟩,
  ⟨some 5,.mov (.t 77),none,0,[]⟩,
  ⟨some 6,.mov (.c (.sc (.bool false))),none,0,[]⟩]) (.ret [4,5,6]))))
def zyc:Cd:=zE8
def zE9(c0:Cd):Cd:=(.seq (.seq (.region [⟨some 24,.fad (.t 2) 0,none,0,[]⟩,
  ⟨some 25,.fad (.t 24) 0,none,0,[]⟩,
  ⟨some 26,.load false 1 (.t 25),none,0,[]⟩,
  ⟨some 27,.mov (.t 1),none,0,[]⟩,
  ⟨some 28,.mov (.t 7),none,0,[]⟩,
  ⟨some 29,.iadS 25 (.t 28) (.c (.sc (.int .i64 0))),none,0,[]⟩,
  ⟨some 30,.fad (.t 29) 0,none,0,[]⟩,
  ⟨some 31,.load false 1 (.t 30),none,0,[]⟩,
  ⟨some 32,.call 217 [.s,.s,.s] [.t 26,.t 27,.t 31],none,0,[]⟩]) (.cond (.t 32) (.seq (.region [⟨some 33,.mov (.t 7),none,0,[]⟩,
  ⟨some 34,.iadS 25 (.t 33) (.c (.sc (.int .i64 0))),none,0,[]⟩,
  ⟨some 35,.load true 2 (.t 34),none,0,[]⟩,
  ⟨none,.store 2 (.t 4) (.t 35),none,0,[]⟩,
  ⟨some 5,.nil 25,none,0,[]⟩,
  ⟨some 6,.mov (.c (.sc (.bool true))),none,0,[]⟩]) (.ret [4,5,6])) .skip)) (.seq (.seq (.region [⟨some 36,.fad (.t 2) 4,none,0,[]⟩,
  ⟨some 37,.load false 1 (.t 36),none,0,[]⟩,
  ⟨some 38,.len false (.t 37),none,0,[]⟩,
  ⟨some 39,.bin .gtr .num (.t 38) (.c (.sc (.int .i64 0))),none,0,[]⟩,
  ⟨some 40,.mov (.t 39),none,0,[]⟩,
  ⟨some 41,.fad (.t 2) 4,some (40,true),0,[]⟩,
  ⟨some 42,.load false 1 (.t 41),some (40,true),0,[]⟩,
  ⟨some 43,.iadS 55 (.t 42) (.c (.sc (.int .i64 0))),some (40,true),0,[]⟩,
  ⟨some 44,.fad (.t 43) 2,some (40,true),0,[]⟩,
  ⟨some 45,.load false 1 (.t 44),some (40,true),0,[]⟩,
  ⟨some 46,.bin .lss .num (.t 45) (.c (.sc (.int .i64 1))),some (40,true),0,[]⟩,
  ⟨some 47,.pick (.t 40) (.t 46) (.c (.sc (.bool false))),none,0,[]⟩,
  ⟨some 48,.mov (.t 47),none,0,[]⟩,
  ⟨some 49,.fad (.t 2) 4,some (48,true),0,[]⟩,
  ⟨some 50,.load false 1 (.t 49),some (48,true),0,[]⟩,
  ⟨some 51,.iadS 55 (.t 50) (.c (.sc (.int .i64 0))),some (48,true),0,[]⟩,
  ⟨some 52,.fad (.t 51) 0,some (48,true),0,[]⟩,
  ⟨some 53,.fad (.t 52) 0,some (48,true),0,[]⟩,
  ⟨some 54,.load false 1 (.t 53),some (48,true),0,[]⟩,
  ⟨some 55,.mov (.t 1),some (48,true),0,[]⟩,
  ⟨some 56,.fad (.t 2) 0,some (48,true),0,[]⟩,
  ⟨some 57,.fad (.t 56) 0,some (48,true),0,[]⟩,
  ⟨some 58,.load false 1 (.t 57),some (48,true),0,[]⟩,
  ⟨some 59,.call 217 [.s,.s,.s] [.t 54,.t 55,.t 58],some (48,true),0,[]⟩,
  ⟨some 60,.pick (.t 48) (.t 59) (.c (.sc (.bool false))),none,0,[]⟩]) (.cond (.t 60) (.seq (.region [⟨some 61,.fad (.t 2) 0,none,0,[]⟩,
  ⟨some 62,.load true 2 (.t 61),none,0,[]⟩,
  ⟨none,.store 2 (.t 4) (.t 62),none,0,[]⟩,
  ⟨some 5,.nil 25,none,0,[]⟩,
  ⟨some 6,.mov (.c (.sc (.bool true))),none,0,[]⟩]) (.ret [4,5,6])) .skip)) (.seg [1,2,4] [4,5,6] c0)))
def zyd:Cd:=zE9 zyc
def zLH(c1:Cd):Fn:=⟨78,[.cell 4 true 2,.t 5,.t 6],[.a [.s,.s],.l 25,.s],.lit,
 (.seq (.region [⟨some 2,.box 34 14 (.t 0),none,0,[]⟩,
  ⟨some 4,.box 25 2 (.c (.agg [.sc (.int .u64 0),.sc (.int .u16 0)])),none,0,[]⟩,
  ⟨some 5,.nil 25,none,0,[]⟩,
  ⟨some 6,.mov (.c (.sc (.bool false))),none,0,[]⟩]) (.seq (.region [⟨some 9,.fad (.t 2) 5,none,0,[]⟩,
  ⟨some 10,.load false 1 (.t 9),none,0,[]⟩,
  ⟨some 11,.call 92 [.l 55] [.t 10],none,0,[]⟩,
  ⟨some 7,.mov (.t 11),none,0,[]⟩]) (.seq (.seq (.region [⟨some 12,.mov (.t 7),none,0,[]⟩,
  ⟨some 13,.len false (.t 12),none,0,[]⟩,
  ⟨some 14,.bin .eql .num (.t 13) (.c (.sc (.int .i64 0))),none,0,[]⟩,
  ⟨some 15,.mov (.t 14),none,0,[]⟩,
  ⟨some 16,.mov (.t 1),some (15,false),0,[]⟩,
  ⟨some 17,.fad (.t 2) 0,some (15,false),0,[]⟩,
  ⟨some 18,.fad (.t 17) 0,some (15,false),0,[]⟩,
  ⟨some 19,.load false 1 (.t 18),some (15,false),0,[]⟩,
  ⟨some 20,.bin .eql .num (.t 16) (.t 19),some (15,false),0,[]⟩,
  ⟨some 21,.pick (.t 15) (.c (.sc (.bool true))) (.t 20),none,0,[]⟩]) (.cond (.t 21) (.seq (.region [⟨some 22,.fad (.t 2) 0,none,0,[]⟩,
  ⟨some 23,.load true 2 (.t 22),none,0,[]⟩,
  ⟨none,.store 2 (.t 4) (.t 23),none,0,[]⟩,
  ⟨some 5,.nil 25,none,0,[]⟩,
  ⟨some 6,.mov (.c (.sc (.bool true))),none,0,[]⟩]) (.ret [4,5,6])) .skip)) (.seg [7,1,2,4] [4,5,6] c1))))⟩
def g161:Fn:=zLH zyd
theorem zOr:zae Tryz.prog .lit [1000016,1000500025] 161=some g161:=by kernel_rfl
def p180:Lit (zae Tryz.prog .lit [1000016] 180):=⟨_,by cbv⟩
def zFa:Cd:=lit (bdF p180.v 0 [])
def zrI:Cd:=zFa
def zLI(c0:Cd):Fn:=lit (fnF p180.v [c0])
def g180:Fn:=zLI zrI
theorem zOs:zae Tryz.prog .lit [1000016] 180=some g180:=p180.h.trans (by kernel_rfl)
def p186:Lit (zae Tryz.prog .lit [1000016] 186):=⟨_,by cbv⟩
def zLJ:Fn:=lit (fnF p186.v [])
def g186:Fn:=zLJ
theorem zOt:zae Tryz.prog .lit [1000016] 186=some g186:=p186.h.trans (by kernel_rfl)
def p191:Lit (zae Tryz.prog .lit [1000016] 191):=⟨_,by cbv⟩
def zLK:Fn:=lit (fnF p191.v [])
def g191:Fn:=zLK
theorem zOu:zae Tryz.prog .lit [1000016] 191=some g191:=p191.h.trans (by kernel_rfl)
def p192:Lit (zae Tryz.prog .lit [1000016,1001100078,1000700078] 192):=⟨_,by cbv⟩
def zFb:Cd:=lit (bdF p192.v 0 [])
def zye:Cd:=zFb
def zFc(c0:Cd):Cd:=lit (bdF p192.v 1 [c0])
def zrJ:Cd:=zFc zye
def zLL(c1:Cd):Fn:=lit (fnF p192.v [.skip,c1])
def g192:Fn:=zLL zrJ
theorem zOv:zae Tryz.prog .lit [1000016,1001100078,1000700078] 192=some g192:=p192.h.trans (by kernel_rfl)
def p198:Lit (zae Tryz.prog .lit [1000016] 198):=⟨_,by cbv⟩
def zLM:Fn:=lit (fnF p198.v [])
def g198:Fn:=zLM
theorem zOw:zae Tryz.prog .lit [1000016] 198=some g198:=p198.h.trans (by kernel_rfl)
def p199:Lit (zae Tryz.prog .mv [1000016,11,40000001100082] 199):=⟨_,by cbv⟩
def zGu:Fn:=lit (fnF p199.v [])
def g199:Fn:=zGu
theorem zOx:zae Tryz.prog .mv [1000016,11,40000001100082] 199=some g199:=p199.h.trans (by kernel_rfl)
def p200:Lit (zae Tryz.prog .mv [1000016] 200):=⟨_,by cbv⟩
def zLN:Fn:=lit (fnF p200.v [])
def g200:Fn:=zLN
theorem zOy:zae Tryz.prog .mv [1000016] 200=some g200:=p200.h.trans (by kernel_rfl)
def p201:Lit (zae Tryz.prog .mv [1000016] 201):=⟨_,by cbv⟩
def zLO:Fn:=lit (fnF p201.v [])
def g201:Fn:=zLO
theorem zOz:zae Tryz.prog .mv [1000016] 201=some g201:=p201.h.trans (by kernel_rfl)
def p202:Lit (zae Tryz.prog .mv [1000016] 202):=⟨_,by cbv⟩
def zLP:Fn:=lit (fnF p202.v [])
def g202:Fn:=zLP
theorem zOA:zae Tryz.prog .mv [1000016] 202=some g202:=p202.h.trans (by kernel_rfl)
def zLQ:Fn:=⟨40,[],[],.mv,
 (.seq (.seq (.region [⟨some 2,.box 34 14 (.c (.agg [.sc (.int .u64 0),.sc (.int .u16 0),.sc (.int .i64 0),.sc (.bool false),.lit 0 true [],.lit 0 true [],.lit 0 true [],.lit 0 true [],.lit 0 true [],.lit 0 true [],.lit 0 true [],.sc (.int .u32 0),.sc (.int .i64 0),.sc (.int .i64 0)])),none,0,[]⟩]) (.region [⟨some 6,.mov (.t 0),none,0,[]⟩,
  ⟨some 7,.nck (.t 6),none,0,[2]⟩,
  ⟨some 8,.fad (.t 7) 0,none,0,[2]⟩,
  ⟨some 9,.load true 14 (.t 8),none,0,[2]⟩,
  ⟨some 10,.mov (.t 0),none,0,[]⟩,
  ⟨some 11,.nck (.t 10),none,0,[2]⟩,
  ⟨some 12,.fad (.t 11) 14,none,0,[2]⟩,
  ⟨some 13,.fad (.t 12) 3,none,0,[2]⟩,
  ⟨some 14,.load false 1 (.t 13),none,0,[2]⟩,
  ⟨some 15,.mov (.t 0),none,0,[]⟩,
  ⟨some 16,.nck (.t 15),none,0,[2]⟩,
  ⟨some 17,.fad (.t 16) 14,none,0,[2]⟩,
  ⟨some 18,.fad (.t 17) 4,none,0,[2]⟩,
  ⟨some 19,.load false 1 (.t 18),none,0,[2]⟩,
  ⟨some 20,.call 243 [.a [.s,.s,.s,.s,.l 55,.l 55,.l 82,.l 76,.l 36,.l 57,.l 74,.s,.s,.s],.s,.s] [.t 9,.t 14,.t 19],none,0,[2]⟩,
  ⟨some 5,.mov (.t 20),none,0,[]⟩,
  ⟨some 21,.ext (.t 5) 0,none,0,[]⟩,
  ⟨some 22,.ext (.t 5) 1,none,0,[]⟩,
  ⟨some 23,.ext (.t 5) 2,none,0,[]⟩,
  ⟨some 2,.mov (.t 2),none,0,[]⟩,
  ⟨none,.store 14 (.t 2) (.t 21),none,0,[]⟩,
  ⟨some 3,.mov (.t 22),none,0,[]⟩,
  ⟨some 4,.mov (.t 23),none,0,[]⟩])) (.seq (.seq (.region [⟨some 24,.mov (.t 4),none,0,[]⟩,
  ⟨some 25,.bin .neq .num (.t 24) (.c (.sc (.int .i64 0))),none,0,[]⟩]) (.cond (.t 25) (.seq (.region [⟨some 26,.mov (.t 0),none,0,[]⟩,
  ⟨some 27,.mov (.t 4),none,0,[]⟩,
  ⟨some 28,.call 123 [.s,.s,.s,.s] [.t 26,.c (.sc (.bool false)),.c (.sc (.string ⟨#[]⟩)),.t 27],none,0,[]⟩]) (.ret [])) .skip)) (.seq (.region [⟨some 29,.mov (.t 0),none,0,[]⟩,
  ⟨some 30,.load true 14 (.t 2),none,0,[]⟩,
  ⟨some 31,.mov (.t 3),none,0,[]⟩,
  ⟨some 32,.call 209 [.s,.a [.s,.s,.s,.s,.l 55,.l 55,.l 82,.l 76,.l 36,.l 57,.l 74,.s,.s,.s],.l 78] [.t 29,.t 30,.t 31],none,0,[]⟩]) (.region [⟨some 33,.mov (.t 0),none,0,[]⟩,
  ⟨some 34,.mov (.t 0),none,0,[]⟩,
  ⟨some 35,.nck (.t 34),none,0,[]⟩,
  ⟨some 36,.fad (.t 35) 14,none,0,[]⟩,
  ⟨some 37,.fad (.t 36) 4,none,0,[]⟩,
  ⟨some 38,.load false 1 (.t 37),none,0,[]⟩,
  ⟨some 39,.call 123 [.s,.s,.s,.s] [.t 33,.c (.sc (.bool true)),.t 38,.c (.sc (.int .i64 0))],none,0,[]⟩]))))⟩
def g203:Fn:=zLQ
theorem zOB:zae Tryz.prog .mv [1000016] 203=some g203:=by kernel_rfl
def p204:Lit (zae Tryz.prog .lit [1000016] 204):=⟨_,by cbv⟩
def zLR:Fn:=lit (fnF p204.v [])
def g204:Fn:=zLR
theorem zOC:zae Tryz.prog .lit [1000016] 204=some g204:=p204.h.trans (by kernel_rfl)
def p205:Lit (zae Tryz.prog .mv [1000016] 205):=⟨_,by cbv⟩
def zzj:Cd:=lit (bdF p205.v 0 [])
def ziQ:Cd:=zzj
def zGv(c0:Cd):Fn:=lit (fnF p205.v [c0])
def g205:Fn:=zGv ziQ
theorem zOD:zae Tryz.prog .mv [1000016] 205=some g205:=p205.h.trans (by kernel_rfl)
def zLS:Fn:=⟨29,[.t 3],[.s],.mv,
 (.seq (.region [⟨some 2,.box 25 2 (.t 0),none,0,[]⟩,
  ⟨some 3,.mov (.c (.sc (.bool false))),none,0,[]⟩]) (.seq (.region [⟨some 4,.fad (.t 2) 1,none,0,[]⟩,
  ⟨some 5,.load false 1 (.t 4),none,0,[]⟩,
  ⟨some 6,.load false 1 (.t 1),none,0,[]⟩,
  ⟨some 7,.nck (.t 6),none,0,[]⟩,
  ⟨some 8,.fad (.t 7) 0,none,0,[]⟩,
  ⟨some 9,.fad (.t 8) 0,none,0,[]⟩,
  ⟨some 10,.fad (.t 9) 1,none,0,[]⟩,
  ⟨some 11,.load false 1 (.t 10),none,0,[]⟩,
  ⟨some 12,.bin .neq .num (.t 5) (.t 11),none,0,[]⟩,
  ⟨some 13,.mov (.t 12),none,0,[]⟩,
  ⟨some 14,.load false 1 (.t 1),some (13,true),0,[]⟩,
  ⟨some 15,.nck (.t 14),some (13,true),0,[]⟩,
  ⟨some 16,.fad (.t 15) 14,some (13,true),0,[]⟩,
  ⟨some 17,.fad (.t 16) 8,some (13,true),0,[]⟩,
  ⟨some 18,.fad (.t 17) 0,some (13,true),0,[]⟩,
  ⟨some 19,.load false 1 (.t 18),some (13,true),0,[]⟩,
  ⟨some 20,.fad (.t 2) 0,some (13,true),0,[]⟩,
  ⟨some 21,.load false 1 (.t 20),some (13,true),0,[]⟩,
  ⟨some 22,.load false 1 (.t 1),some (13,true),0,[]⟩,
  ⟨some 23,.nck (.t 22),some (13,true),0,[]⟩,
  ⟨some 24,.fad (.t 23) 14,some (13,true),0,[]⟩,
  ⟨some 25,.fad (.t 24) 5,some (13,true),0,[]⟩,
  ⟨some 26,.load false 1 (.t 25),some (13,true),0,[]⟩,
  ⟨some 27,.call 207 [.s,.s,.s] [.t 19,.t 21,.t 26],some (13,true),0,[]⟩,
  ⟨some 28,.pick (.t 13) (.t 27) (.c (.sc (.bool false))),none,0,[]⟩,
  ⟨some 3,.mov (.t 28),none,0,[]⟩]) (.ret [3])))⟩
def g206:Fn:=zLS
theorem zOE:zae Tryz.prog .mv [1000016] 206=some g206:=by kernel_rfl
def p207:Lit (zae Tryz.prog .lit [1000016] 207):=⟨_,by cbv⟩
def zLT:Fn:=lit (fnF p207.v [])
def g207:Fn:=zLT
theorem zOF:zae Tryz.prog .lit [1000016] 207=some g207:=p207.h.trans (by kernel_rfl)
def p208:Lit (zae Tryz.prog .mv [1000016] 208):=⟨_,by cbv⟩
def zGw:Fn:=lit (fnF p208.v [])
def g208:Fn:=zGw
theorem zOG:zae Tryz.prog .mv [1000016] 208=some g208:=p208.h.trans (by kernel_rfl)
def p209:Lit (zae Tryz.prog .mv [1000016] 209):=⟨_,by cbv⟩
def zGx:Fn:=lit (fnF p209.v [])
def g209:Fn:=zGx
theorem zOH:zae Tryz.prog .mv [1000016] 209=some g209:=p209.h.trans (by kernel_rfl)
def p210:Lit (zae Tryz.prog .lit [1000016] 210):=⟨_,by cbv⟩
def zLU:Fn:=lit (fnF p210.v [])
def g210:Fn:=zLU
theorem zOI:zae Tryz.prog .lit [1000016] 210=some g210:=p210.h.trans (by kernel_rfl)
def p211:Lit (zae Tryz.prog .lit [1000016] 211):=⟨_,by cbv⟩
def zLV:Fn:=lit (fnF p211.v [])
def g211:Fn:=zLV
theorem zOJ:zae Tryz.prog .lit [1000016] 211=some g211:=p211.h.trans (by kernel_rfl)
def p212:Lit (zae Tryz.prog .lit [1000016] 212):=⟨_,by cbv⟩
def zFd:Cd:=lit (bdF p212.v 0 [])
def zrK:Cd:=zFd
def zLW(c0:Cd):Fn:=lit (fnF p212.v [c0])
def g212:Fn:=zLW zrK
theorem zOK:zae Tryz.prog .lit [1000016] 212=some g212:=p212.h.trans (by kernel_rfl)
def p213:Lit (zae Tryz.prog .lit [1000016,1000600057] 213):=⟨_,by cbv⟩
def zFe:Cd:=lit (bdF p213.v 0 [])
def zrL:Cd:=zFe
def zLX(c0:Cd):Fn:=lit (fnF p213.v [c0])
def g213:Fn:=zLX zrL
theorem zOL:zae Tryz.prog .lit [1000016,1000600057] 213=some g213:=p213.h.trans (by kernel_rfl)
def p214:Lit (zae Tryz.prog .lit [1000016,1000500078] 214):=⟨_,by cbv⟩
def zLY:Fn:=lit (fnF p214.v [])
def g214:Fn:=zLY
theorem zOM:zae Tryz.prog .lit [1000016,1000500078] 214=some g214:=p214.h.trans (by kernel_rfl)
def p215:Lit (zae Tryz.prog .lit [1000016,1000700078] 215):=⟨_,by cbv⟩
def zFf:Cd:=lit (bdF p215.v 0 [])
def zyf:Cd:=zFf
def zLZ(c0:Cd):Fn:=lit (fnF p215.v [c0])
def g215:Fn:=zLZ zyf
theorem zON:zae Tryz.prog .lit [1000016,1000700078] 215=some g215:=p215.h.trans (by kernel_rfl)
def p216:Lit (zae Tryz.prog .lit [1000016,1000900082,1000600082] 216):=⟨_,by cbv⟩
def zFg:Cd:=lit (bdF p216.v 0 [])
def zyg:Cd:=zFg
def zFh(c0:Cd):Cd:=lit (bdF p216.v 1 [c0])
def zrM:Cd:=zFh zyg
def zFi(c1:Cd):Cd:=lit (bdF p216.v 2 [.skip,c1])
def zyh:Cd:=zFi zrM
def zL0(c2:Cd):Fn:=lit (fnF p216.v [.skip,.skip,c2])
def g216:Fn:=zL0 zyh
theorem zOO:zae Tryz.prog .lit [1000016,1000900082,1000600082] 216=some g216:=p216.h.trans (by kernel_rfl)
end Go.Ab.Tryz
