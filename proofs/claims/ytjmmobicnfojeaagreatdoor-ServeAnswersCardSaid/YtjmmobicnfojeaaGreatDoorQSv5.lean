/- Our texts for this statement, merged: what its theorem leads to. -/
import Derived.Test.YtjmmobicnfojeaaGreatDoorQSv3
set_option linter.unusedVariables false
set_option linter.unusedSimpArgs false
noncomputable section
namespace Go.Ab.Tryz
open Go Go.Proofs
set_option maxRecDepth 100000
set_option maxHeartbeats 4000000
def p21:Lit (zaj Tryz.prog .lit [1000016,1001100056,1000700056] 21):=⟨_,by cbv⟩
def zEb:Cd:=lit (bdF p21.v 0 [])
def zyp:Cd:=zEb
def zEc (c0:Cd):Cd:=lit (bdF p21.v 1 [c0])
def ztj:Cd:=zEc zyp
def g21F (c1:Cd):Fn:=lit (fnF p21.v [.skip,c1])
def g21:Fn:=g21F ztj
theorem cmp21:zaj Tryz.prog .lit [1000016,1001100056,1000700056] 21=some g21:=p21.h.trans (by kernel_rfl)
def p22:Lit (zaj Tryz.prog .lit [1000016,16,1001000056,1000900056] 22):=⟨_,by cbv⟩
def zEd:Cd:=lit (bdF p22.v 0 [])
def ztk:Cd:=zEd
def g22F (c0:Cd):Fn:=lit (fnF p22.v [c0])
def g22:Fn:=g22F ztk
theorem cmp22:zaj Tryz.prog .lit [1000016,16,1001000056,1000900056] 22=some g22:=p22.h.trans (by kernel_rfl)
def p23:Lit (zaj Tryz.prog .lit [1000016,1001000056,1000900056] 23):=⟨_,by cbv⟩
def zEe:Cd:=lit (bdF p23.v 0 [])
def ztl:Cd:=zEe
def g23F (c0:Cd):Fn:=lit (fnF p23.v [c0])
def g23:Fn:=g23F ztl
theorem cmp23:zaj Tryz.prog .lit [1000016,1001000056,1000900056] 23=some g23:=p23.h.trans (by kernel_rfl)
def p24:Lit (zaj Tryz.prog .lit [1000016] 24):=⟨_,by cbv⟩
def g24F:Fn:=lit (fnF p24.v [])
def g24:Fn:=g24F
theorem cmp24:zaj Tryz.prog .lit [1000016] 24=some g24:=p24.h.trans (by kernel_rfl)
def p25:Lit (zaj Tryz.prog .lit [1000016] 25):=⟨_,by cbv⟩
def g25F:Fn:=lit (fnF p25.v [])
def g25:Fn:=g25F
theorem cmp25:zaj Tryz.prog .lit [1000016] 25=some g25:=p25.h.trans (by kernel_rfl)
def p35:Lit (zaj Tryz.prog .lit [1000016] 35):=⟨_,by cbv⟩
def zEf:Cd:=lit (bdF p35.v 0 [])
def zyq:Cd:=zEf
def zEg (c0:Cd):Cd:=lit (bdF p35.v 1 [c0])
def ztm:Cd:=zEg zyq
def g35F (c1:Cd):Fn:=lit (fnF p35.v [.skip,c1])
def g35:Fn:=g35F ztm
theorem cmp35:zaj Tryz.prog .lit [1000016] 35=some g35:=p35.h.trans (by kernel_rfl)
def p36:Lit (zaj Tryz.prog .lit [1000016] 36):=⟨_,by cbv⟩
def zEh:Cd:=lit (bdF p36.v 0 [])
def ztn:Cd:=zEh
def g36F (c0:Cd):Fn:=lit (fnF p36.v [c0])
def g36:Fn:=g36F ztn
theorem cmp36:zaj Tryz.prog .lit [1000016] 36=some g36:=p36.h.trans (by kernel_rfl)
def p37:Lit (zaj Tryz.prog .lit [1000016] 37):=⟨_,by cbv⟩
def g37F:Fn:=lit (fnF p37.v [])
def g37:Fn:=g37F
theorem cmp37:zaj Tryz.prog .lit [1000016] 37=some g37:=p37.h.trans (by kernel_rfl)
def p38:Lit (zaj Tryz.prog .lit [1000016] 38):=⟨_,by cbv⟩
def zEi:Cd:=lit (bdF p38.v 0 [])
def zto:Cd:=zEi
def zEj (c0:Cd):Cd:=lit (bdF p38.v 1 [c0])
def zyr:Cd:=zEj zto
def zEk (c1:Cd):Cd:=lit (bdF p38.v 2 [.skip,c1])
def zys:Cd:=zEk zyr
def g38F (c2:Cd):Fn:=lit (fnF p38.v [.skip,.skip,c2])
def g38:Fn:=g38F zys
theorem cmp38:zaj Tryz.prog .lit [1000016] 38=some g38:=p38.h.trans (by kernel_rfl)
def p39:Lit (zaj Tryz.prog .lit [1000016] 39):=⟨_,by cbv⟩
def zEl:Cd:=lit (bdF p39.v 0 [])
def ztp:Cd:=zEl
def g39F (c0:Cd):Fn:=lit (fnF p39.v [c0])
def g39:Fn:=g39F ztp
theorem cmp39:zaj Tryz.prog .lit [1000016] 39=some g39:=p39.h.trans (by kernel_rfl)
def p40:Lit (zaj Tryz.prog .lit [1000016] 40):=⟨_,by cbv⟩
def zEm:Cd:=lit (bdF p40.v 0 [])
def zyt:Cd:=zEm
def g40F (c0:Cd):Fn:=lit (fnF p40.v [c0])
def g40:Fn:=g40F zyt
theorem cmp40:zaj Tryz.prog .lit [1000016] 40=some g40:=p40.h.trans (by kernel_rfl)
def p54:Lit (zaj Tryz.prog .lit [1000016] 54):=⟨_,by cbv⟩
def g54F:Fn:=lit (fnF p54.v [])
def g54:Fn:=g54F
theorem cmp54:zaj Tryz.prog .lit [1000016] 54=some g54:=p54.h.trans (by kernel_rfl)
def p55:Lit (zaj Tryz.prog .mv [1000016] 55):=⟨_,by cbv⟩
def g55F:Fn:=lit (fnF p55.v [])
def g55:Fn:=g55F
theorem cmp55:zaj Tryz.prog .mv [1000016] 55=some g55:=p55.h.trans (by kernel_rfl)
def p56:Lit (zaj Tryz.prog .mv [1000016] 56):=⟨_,by cbv⟩
def zEn:Cd:=lit (bdF p56.v 0 [])
def zyu:Cd:=zEn
def g56F (c0:Cd):Fn:=lit (fnF p56.v [c0])
def g56:Fn:=g56F zyu
theorem cmp56:zaj Tryz.prog .mv [1000016] 56=some g56:=p56.h.trans (by kernel_rfl)
def zEo:Cd:=(.seq (.region [⟨some 82,.mov (.t 0),none,0,[]⟩,
  ⟨some 83,.load true 2 (.t 2),none,0,[]⟩,
  ⟨some 84,.build [.sc (.int .u64 0),.sc (.int .u16 0),.sc (.int .i64 0)] [(0,2,.t 83)],none,0,[]⟩,
  ⟨some 85,.bslf 81 3 (.a [.s,.s,.s]) [.t 84],none,0,[]⟩,
  ⟨some 86,.nck (.t 82),none,0,[]⟩,
  ⟨some 87,.fad (.t 86) 0,none,0,[]⟩,
  ⟨some 88,.fad (.t 87) 4,none,0,[]⟩,
  ⟨none,.store 1 (.t 88) (.t 85),none,0,[]⟩]) (.seq (.region [⟨some 89,.load true 2 (.t 3),none,0,[]⟩,
  ⟨some 90,.load true 2 (.t 2),none,0,[]⟩,
  ⟨some 91,.eqs false [.num,.num] (.t 89) (.t 90),none,0,[]⟩]) (.cond (.t 91) (.ret []) .skip)))
def zyv:Cd:=zEo
def zEp:Cd:=(.seq (.region [⟨some 92,.mov (.t 0),none,0,[]⟩,
  ⟨some 93,.load true 2 (.t 2),none,0,[]⟩,
  ⟨some 94,.build [.sc (.int .u64 0),.sc (.int .u16 0),.sc (.int .i64 0)] [(0,2,.t 93)],none,0,[]⟩,
  ⟨some 95,.bslf 81 3 (.a [.s,.s,.s]) [.t 94],none,0,[]⟩,
  ⟨some 96,.nck (.t 92),none,0,[]⟩,
  ⟨some 97,.fad (.t 96) 0,none,0,[]⟩,
  ⟨some 98,.fad (.t 97) 4,none,0,[]⟩,
  ⟨none,.store 1 (.t 98) (.t 95),none,0,[]⟩]) (.region [⟨some 99,.mov (.t 0),none,0,[]⟩,
  ⟨some 100,.load true 2 (.t 2),none,2,[]⟩,
  ⟨some 101,.mov (.t 0),none,0,[]⟩,
  ⟨some 102,.nck (.t 101),none,0,[]⟩,
  ⟨some 103,.fad (.t 102) 0,none,0,[]⟩,
  ⟨some 104,.fad (.t 103) 7,none,0,[]⟩,
  ⟨some 105,.load false 1 (.t 104),none,0,[]⟩,
  ⟨some 106,.mov (.t 0),none,0,[]⟩,
  ⟨some 107,.nck (.t 106),none,0,[]⟩,
  ⟨some 108,.fad (.t 107) 0,none,0,[]⟩,
  ⟨some 109,.fad (.t 108) 0,none,0,[]⟩,
  ⟨some 110,.fad (.t 109) 0,none,0,[]⟩,
  ⟨some 111,.load false 1 (.t 110),none,0,[]⟩,
  ⟨some 112,.fad (.t 2) 0,none,0,[]⟩,
  ⟨some 113,.load false 1 (.t 112),none,0,[]⟩,
  ⟨some 114,.call 130 [.l 78,.s,.s] [.t 105,.t 111,.t 113],none,1,[]⟩,
  ⟨some 115,.call 129 [.s,.a [.s,.s],.l 78] [.t 99,.t 100,.t 114],none,0,[]⟩]))
def zyw:Cd:=zEp
def zEq (c0:Cd) (c1:Cd):Cd:=(.seq (.region [⟨some 30,.mov (.t 0),none,0,[]⟩,
  ⟨some 31,.mov (.t 0),none,0,[]⟩,
  ⟨some 32,.nck (.t 31),none,0,[]⟩,
  ⟨some 33,.fad (.t 32) 0,none,0,[]⟩,
  ⟨some 34,.fad (.t 33) 0,none,0,[]⟩,
  ⟨some 35,.load true 2 (.t 34),none,0,[]⟩,
  ⟨some 36,.mov (.t 0),none,0,[]⟩,
  ⟨some 37,.nck (.t 36),none,0,[]⟩,
  ⟨some 38,.fad (.t 37) 0,none,0,[]⟩,
  ⟨some 39,.fad (.t 38) 5,none,0,[]⟩,
  ⟨some 40,.load false 1 (.t 39),none,0,[]⟩,
  ⟨some 41,.load true 2 (.t 2),none,0,[]⟩,
  ⟨some 42,.call 127 [.a [.s,.s],.l 81,.a [.s,.s]] [.t 35,.t 40,.t 41],none,0,[]⟩,
  ⟨some 43,.nck (.t 30),none,0,[]⟩,
  ⟨some 44,.fad (.t 43) 0,none,0,[]⟩,
  ⟨some 45,.fad (.t 44) 5,none,0,[]⟩,
  ⟨none,.store 1 (.t 45) (.t 42),none,0,[]⟩]) (.seq (.region [⟨some 46,.build [.sc (.int .u64 0),.sc (.int .u16 0)] [],none,0,[]⟩,
  ⟨some 3,.box 25 2 (.c (.agg [.sc (.int .u64 0),.sc (.int .u16 0)])),none,0,[]⟩,
  ⟨none,.store 2 (.t 3) (.t 46),none,0,[]⟩]) (.seq (.seq (.region [⟨some 47,.mov (.t 0),none,0,[]⟩,
  ⟨some 48,.nck (.t 47),none,0,[]⟩,
  ⟨some 49,.fad (.t 48) 0,none,0,[]⟩,
  ⟨some 50,.fad (.t 49) 4,none,0,[]⟩,
  ⟨some 51,.load false 1 (.t 50),none,0,[]⟩,
  ⟨some 52,.len false (.t 51),none,0,[]⟩,
  ⟨some 53,.bin .gtr .num (.t 52) (.c (.sc (.int .i64 0))),none,0,[]⟩,
  ⟨some 4,.mov (.t 53),none,0,[]⟩]) (.seq (.region [⟨some 54,.mov (.t 4),none,0,[]⟩]) (.cond (.t 54) (.seq (.region [⟨some 55,.mov (.t 0),none,0,[]⟩,
  ⟨some 56,.nck (.t 55),none,0,[]⟩,
  ⟨some 57,.fad (.t 56) 0,none,0,[]⟩,
  ⟨some 58,.fad (.t 57) 4,none,0,[]⟩,
  ⟨some 59,.load false 1 (.t 58),none,0,[]⟩,
  ⟨some 60,.iadS 81 (.t 59) (.c (.sc (.int .i64 0))),none,0,[]⟩,
  ⟨some 61,.fad (.t 60) 0,none,0,[]⟩,
  ⟨some 62,.load true 2 (.t 61),none,0,[]⟩,
  ⟨none,.store 2 (.t 3) (.t 62),none,0,[]⟩]) (.seq (.seq (.region [⟨some 63,.fad (.t 3) 1,none,0,[]⟩,
  ⟨some 64,.load false 1 (.t 63),none,0,[]⟩,
  ⟨some 65,.fad (.t 2) 1,none,0,[]⟩,
  ⟨some 66,.load false 1 (.t 65),none,0,[]⟩,
  ⟨some 67,.bin .neq .num (.t 64) (.t 66),none,0,[]⟩,
  ⟨some 68,.mov (.t 67),none,0,[]⟩,
  ⟨some 69,.fad (.t 3) 0,some (68,true),0,[]⟩,
  ⟨some 70,.load false 1 (.t 69),some (68,true),0,[]⟩,
  ⟨some 71,.fad (.t 2) 0,some (68,true),0,[]⟩,
  ⟨some 72,.load false 1 (.t 71),some (68,true),0,[]⟩,
  ⟨some 73,.mov (.t 0),some (68,true),0,[]⟩,
  ⟨some 74,.nck (.t 73),some (68,true),0,[]⟩,
  ⟨some 75,.fad (.t 74) 0,some (68,true),0,[]⟩,
  ⟨some 76,.fad (.t 75) 0,some (68,true),0,[]⟩,
  ⟨some 77,.fad (.t 76) 0,some (68,true),0,[]⟩,
  ⟨some 78,.load false 1 (.t 77),some (68,true),0,[]⟩,
  ⟨some 79,.call 128 [.s,.s,.s] [.t 70,.t 72,.t 78],some (68,true),0,[]⟩,
  ⟨some 80,.un .not (.t 79),some (68,true),0,[]⟩,
  ⟨some 81,.pick (.t 68) (.t 80) (.c (.sc (.bool false))),none,0,[]⟩]) (.cond (.t 81) (.ret []) .skip)) (.seg [3,0,2] [0,2] c0))) .skip))) (.seg [0,2] [] c1))))
def zyx:Cd:=zEq zyv zyw
def g57F (c2:Cd):Fn:=⟨116,[],[],.mv,
 (.seq (.region [⟨some 5,.mov (.t 0),none,0,[]⟩,
  ⟨some 6,.call 61 [.s] [.t 5],none,0,[]⟩]) (.seq (.region [⟨some 7,.mov (.t 0),none,0,[]⟩,
  ⟨some 8,.nck (.t 7),none,0,[]⟩,
  ⟨some 9,.fad (.t 8) 15,none,0,[]⟩,
  ⟨some 10,.fad (.t 9) 7,none,0,[]⟩,
  ⟨some 11,.load true 2 (.t 10),none,0,[]⟩,
  ⟨some 2,.box 25 2 (.c (.agg [.sc (.int .u64 0),.sc (.int .u16 0)])),none,0,[]⟩,
  ⟨none,.store 2 (.t 2) (.t 11),none,0,[]⟩]) (.seq (.seq (.region [⟨some 12,.fad (.t 2) 1,none,0,[]⟩,
  ⟨some 13,.load false 1 (.t 12),none,0,[]⟩,
  ⟨some 14,.mov (.t 0),none,0,[]⟩,
  ⟨some 15,.nck (.t 14),none,0,[]⟩,
  ⟨some 16,.fad (.t 15) 14,none,0,[]⟩,
  ⟨some 17,.load false 1 (.t 16),none,0,[]⟩,
  ⟨some 18,.bin .neq .num (.t 13) (.t 17),none,0,[]⟩,
  ⟨some 19,.mov (.t 18),none,0,[]⟩,
  ⟨some 20,.fad (.t 2) 1,some (19,false),0,[]⟩,
  ⟨some 21,.load false 1 (.t 20),some (19,false),0,[]⟩,
  ⟨some 22,.mov (.t 0),some (19,false),0,[]⟩,
  ⟨some 23,.nck (.t 22),some (19,false),0,[]⟩,
  ⟨some 24,.fad (.t 23) 0,some (19,false),0,[]⟩,
  ⟨some 25,.fad (.t 24) 0,some (19,false),0,[]⟩,
  ⟨some 26,.fad (.t 25) 1,some (19,false),0,[]⟩,
  ⟨some 27,.load false 1 (.t 26),some (19,false),0,[]⟩,
  ⟨some 28,.bin .eql .num (.t 21) (.t 27),some (19,false),0,[]⟩,
  ⟨some 29,.pick (.t 19) (.c (.sc (.bool true))) (.t 28),none,0,[]⟩]) (.cond (.t 29) (.ret []) .skip)) (.seg [0,2] [] c2))))⟩
def g57:Fn:=g57F zyx
theorem cmp57:zaj Tryz.prog .mv [1000016,60000000000085,60000000000095] 57=some g57:=by kernel_rfl
def g58F:Fn:=⟨47,[],[],.mv,
 (.seq (.seq (.region [⟨some 5,.mov (.t 0),none,0,[]⟩,
  ⟨some 6,.call 131 [.s] [.t 5],none,0,[]⟩,
  ⟨some 7,.un .not (.t 6),none,0,[]⟩]) (.cond (.t 7) (.ret []) .skip)) (.seq (.seq (.region [⟨some 2,.box 34 14 (.c (.agg [.sc (.int .u64 0),.sc (.int .u16 0),.sc (.int .i64 0),.sc (.bool false),.lit 0 true [],.lit 0 true [],.lit 0 true [],.lit 0 true [],.lit 0 true [],.lit 0 true [],.lit 0 true [],.sc (.int .u32 0),.sc (.int .i64 0),.sc (.int .i64 0)])),none,0,[]⟩]) (.region [⟨some 9,.mov (.t 0),none,0,[]⟩,
  ⟨some 10,.nck (.t 9),none,0,[2]⟩,
  ⟨some 11,.fad (.t 10) 0,none,0,[2]⟩,
  ⟨some 12,.load true 14 (.t 11),none,0,[2]⟩,
  ⟨some 13,.mov (.t 0),none,0,[]⟩,
  ⟨some 14,.nck (.t 13),none,0,[2]⟩,
  ⟨some 15,.fad (.t 14) 15,none,0,[2]⟩,
  ⟨some 16,.fad (.t 15) 5,none,0,[2]⟩,
  ⟨some 17,.load false 1 (.t 16),none,0,[2]⟩,
  ⟨some 18,.mov (.t 0),none,0,[]⟩,
  ⟨some 19,.nck (.t 18),none,0,[2]⟩,
  ⟨some 20,.fad (.t 19) 15,none,0,[2]⟩,
  ⟨some 21,.fad (.t 20) 6,none,0,[2]⟩,
  ⟨some 22,.load false 1 (.t 21),none,0,[2]⟩,
  ⟨some 23,.call 20 [.a [.s,.s,.s,.s,.l 81,.l 81,.l 84,.l 78,.l 88,.l 67,.l 60,.s,.s,.s],.s,.s] [.t 12,.t 17,.t 22],none,0,[2]⟩,
  ⟨some 8,.mov (.t 23),none,0,[]⟩,
  ⟨some 24,.ext (.t 8) 0,none,0,[]⟩,
  ⟨some 25,.ext (.t 8) 1,none,0,[]⟩,
  ⟨some 26,.ext (.t 8) 2,none,0,[]⟩,
  ⟨some 2,.mov (.t 2),none,0,[]⟩,
  ⟨none,.store 14 (.t 2) (.t 24),none,0,[]⟩,
  ⟨some 3,.mov (.t 25),none,0,[]⟩,
  ⟨some 4,.mov (.t 26),none,0,[]⟩])) (.seq (.seq (.region [⟨some 27,.mov (.t 4),none,0,[]⟩,
  ⟨some 28,.bin .neq .num (.t 27) (.c (.sc (.int .i64 0))),none,0,[]⟩]) (.cond (.t 28) (.seq (.region [⟨some 29,.mov (.t 0),none,0,[]⟩,
  ⟨some 30,.mov (.t 4),none,0,[]⟩,
  ⟨some 31,.call 123 [.s,.s] [.t 29,.t 30],none,0,[]⟩]) (.ret [])) .skip)) (.seq (.region [⟨some 32,.mov (.t 0),none,0,[]⟩,
  ⟨some 33,.call 61 [.s] [.t 32],none,0,[]⟩]) (.region [⟨some 34,.mov (.t 0),none,0,[]⟩,
  ⟨some 35,.mov (.t 0),none,0,[]⟩,
  ⟨some 36,.load true 14 (.t 2),none,2,[]⟩,
  ⟨some 37,.mov (.t 0),none,0,[]⟩,
  ⟨some 38,.nck (.t 37),none,0,[]⟩,
  ⟨some 39,.fad (.t 38) 26,none,0,[]⟩,
  ⟨some 40,.load false 1 (.t 39),none,0,[]⟩,
  ⟨some 41,.mov (.t 3),none,0,[]⟩,
  ⟨some 42,.app 56 136 (.t 40) (.t 41),none,1,[]⟩,
  ⟨some 43,.nck (.t 34),none,0,[]⟩,
  ⟨some 44,.fad (.t 43) 0,none,0,[]⟩,
  ⟨none,.store 14 (.t 44) (.t 36),none,0,[]⟩,
  ⟨some 45,.nck (.t 35),none,0,[]⟩,
  ⟨some 46,.fad (.t 45) 26,none,0,[]⟩,
  ⟨none,.store 1 (.t 46) (.t 42),none,0,[]⟩])))))⟩
def g58:Fn:=g58F
theorem cmp58:zaj Tryz.prog .mv [1000016] 58=some g58:=by kernel_rfl
def p59:Lit (zaj Tryz.prog .mv [1000016] 59):=⟨_,by cbv⟩
def g59F:Fn:=lit (fnF p59.v [])
def g59:Fn:=g59F
theorem cmp59:zaj Tryz.prog .mv [1000016] 59=some g59:=p59.h.trans (by kernel_rfl)
def p60:Lit (zaj Tryz.prog .mv [1000016,59] 60):=⟨_,by cbv⟩
def zEr:Cd:=lit (bdF p60.v 0 [])
def ztq:Cd:=zEr
def g60F (c0:Cd):Fn:=lit (fnF p60.v [c0])
def g60:Fn:=g60F ztq
theorem cmp60:zaj Tryz.prog .mv [1000016,59] 60=some g60:=p60.h.trans (by kernel_rfl)
def p61:Lit (zaj Tryz.prog .mv [1000016] 61):=⟨_,by cbv⟩
def g61F:Fn:=lit (fnF p61.v [])
def g61:Fn:=g61F
theorem cmp61:zaj Tryz.prog .mv [1000016] 61=some g61:=p61.h.trans (by kernel_rfl)
def p62:Lit (zaj Tryz.prog .keep [1000016,70000000000013,1000600056] 62):=⟨_,by cbv⟩
def g62F:Fn:=lit (fnF p62.v [])
def g62:Fn:=g62F
theorem cmp62:zaj Tryz.prog .keep [1000016,70000000000013,1000600056] 62=some g62:=p62.h.trans (by kernel_rfl)
def zEs:Cd:=(.seq (.region [⟨some 63,.fad (.t 2) 0,none,0,[]⟩,
  ⟨some 64,.load true 2 (.t 63),none,0,[]⟩,
  ⟨some 65,.fad (.t 2) 5,none,0,[]⟩,
  ⟨some 66,.load false 1 (.t 65),none,0,[]⟩,
  ⟨some 67,.fad (.t 2) 6,none,0,[]⟩,
  ⟨some 68,.load false 1 (.t 67),none,0,[]⟩,
  ⟨some 69,.mov (.t 1),none,0,[]⟩,
  ⟨some 70,.call 135 [.a [.s,.s],.l 81,.l 84,.s,.s] [.t 64,.t 66,.t 68,.t 69,.c (.sc (.int .i64 4))],none,0,[]⟩,
  ⟨some 8,.mov (.t 70),none,0,[]⟩]) (.seq (.seq (.region [⟨some 71,.mov (.t 8),none,0,[]⟩,
  ⟨some 72,.len false (.t 71),none,0,[]⟩,
  ⟨some 73,.bin .eql .num (.t 72) (.c (.sc (.int .i64 0))),none,0,[]⟩]) (.cond (.t 73) (.seq (.region [⟨some 74,.fad (.t 2) 0,none,0,[]⟩,
  ⟨some 75,.load true 2 (.t 74),none,0,[]⟩,
  ⟨none,.store 2 (.t 4) (.t 75),none,0,[]⟩,
  ⟨some 5,.nil 25,none,0,[]⟩,
  ⟨some 6,.mov (.c (.sc (.bool true))),none,0,[]⟩]) (.ret [4,5,6])) .skip)) (.seq (.region [⟨some 76,.build [.sc (.int .u64 0),.sc (.int .u16 0)] [],none,0,[]⟩,
  ⟨some 77,.mov (.t 8),none,0,[]⟩,
  ⟨none,.store 2 (.t 4) (.t 76),none,0,[]⟩,
  ⟨some 5,.mov (.t 77),none,0,[]⟩,
  ⟨some 6,.mov (.c (.sc (.bool false))),none,0,[]⟩]) (.ret [4,5,6]))))
def zyy:Cd:=zEs
def zEt (c0:Cd):Cd:=(.seq (.seq (.region [⟨some 24,.fad (.t 2) 0,none,0,[]⟩,
  ⟨some 25,.fad (.t 24) 0,none,0,[]⟩,
  ⟨some 26,.load false 1 (.t 25),none,0,[]⟩,
  ⟨some 27,.mov (.t 1),none,0,[]⟩,
  ⟨some 28,.mov (.t 7),none,0,[]⟩,
  ⟨some 29,.iadS 25 (.t 28) (.c (.sc (.int .i64 0))),none,0,[]⟩,
  ⟨some 30,.fad (.t 29) 0,none,0,[]⟩,
  ⟨some 31,.load false 1 (.t 30),none,0,[]⟩,
  ⟨some 32,.call 134 [.s,.s,.s] [.t 26,.t 27,.t 31],none,0,[]⟩]) (.cond (.t 32) (.seq (.region [⟨some 33,.mov (.t 7),none,0,[]⟩,
  ⟨some 34,.iadS 25 (.t 33) (.c (.sc (.int .i64 0))),none,0,[]⟩,
  ⟨some 35,.load true 2 (.t 34),none,0,[]⟩,
  ⟨none,.store 2 (.t 4) (.t 35),none,0,[]⟩,
  ⟨some 5,.nil 25,none,0,[]⟩,
  ⟨some 6,.mov (.c (.sc (.bool true))),none,0,[]⟩]) (.ret [4,5,6])) .skip)) (.seq (.seq (.region [⟨some 36,.fad (.t 2) 4,none,0,[]⟩,
  ⟨some 37,.load false 1 (.t 36),none,0,[]⟩,
  ⟨some 38,.len false (.t 37),none,0,[]⟩,
  ⟨some 39,.bin .gtr .num (.t 38) (.c (.sc (.int .i64 0))),none,0,[]⟩,
  ⟨some 40,.mov (.t 39),none,0,[]⟩,
  ⟨some 41,.fad (.t 2) 4,some (40,true),0,[]⟩,
  ⟨some 42,.load false 1 (.t 41),some (40,true),0,[]⟩,
  ⟨some 43,.iadS 81 (.t 42) (.c (.sc (.int .i64 0))),some (40,true),0,[]⟩,
  ⟨some 44,.fad (.t 43) 2,some (40,true),0,[]⟩,
  ⟨some 45,.load false 1 (.t 44),some (40,true),0,[]⟩,
  ⟨some 46,.bin .lss .num (.t 45) (.c (.sc (.int .i64 1))),some (40,true),0,[]⟩,
  ⟨some 47,.pick (.t 40) (.t 46) (.c (.sc (.bool false))),none,0,[]⟩,
  ⟨some 48,.mov (.t 47),none,0,[]⟩,
  ⟨some 49,.fad (.t 2) 4,some (48,true),0,[]⟩,
  ⟨some 50,.load false 1 (.t 49),some (48,true),0,[]⟩,
  ⟨some 51,.iadS 81 (.t 50) (.c (.sc (.int .i64 0))),some (48,true),0,[]⟩,
  ⟨some 52,.fad (.t 51) 0,some (48,true),0,[]⟩,
  ⟨some 53,.fad (.t 52) 0,some (48,true),0,[]⟩,
  ⟨some 54,.load false 1 (.t 53),some (48,true),0,[]⟩,
  ⟨some 55,.mov (.t 1),some (48,true),0,[]⟩,
  ⟨some 56,.fad (.t 2) 0,some (48,true),0,[]⟩,
  ⟨some 57,.fad (.t 56) 0,some (48,true),0,[]⟩,
  ⟨some 58,.load false 1 (.t 57),some (48,true),0,[]⟩,
  ⟨some 59,.call 134 [.s,.s,.s] [.t 54,.t 55,.t 58],some (48,true),0,[]⟩,
  ⟨some 60,.pick (.t 48) (.t 59) (.c (.sc (.bool false))),none,0,[]⟩]) (.cond (.t 60) (.seq (.region [⟨some 61,.fad (.t 2) 0,none,0,[]⟩,
  ⟨some 62,.load true 2 (.t 61),none,0,[]⟩,
  ⟨none,.store 2 (.t 4) (.t 62),none,0,[]⟩,
  ⟨some 5,.nil 25,none,0,[]⟩,
  ⟨some 6,.mov (.c (.sc (.bool true))),none,0,[]⟩]) (.ret [4,5,6])) .skip)) (.seg [1,2,4] [4,5,6] c0)))
def zyz:Cd:=zEt zyy
def g63F (c1:Cd):Fn:=⟨78,[.cell 4 true 2,.t 5,.t 6],[.a [.s,.s],.l 25,.s],.lit,
 (.seq (.region [⟨some 2,.box 34 14 (.t 0),none,0,[]⟩,
  ⟨some 4,.box 25 2 (.c (.agg [.sc (.int .u64 0),.sc (.int .u16 0)])),none,0,[]⟩,
  ⟨some 5,.nil 25,none,0,[]⟩,
  ⟨some 6,.mov (.c (.sc (.bool false))),none,0,[]⟩]) (.seq (.region [⟨some 9,.fad (.t 2) 5,none,0,[]⟩,
  ⟨some 10,.load false 1 (.t 9),none,0,[]⟩,
  ⟨some 11,.call 78 [.l 81] [.t 10],none,0,[]⟩,
  ⟨some 7,.mov (.t 11),none,0,[]⟩]) (.seq (.seq (.region [⟨some 12,.mov (.t 7),none,0,[]⟩,
  ⟨some 13,.len false (.t 12),none,0,[]⟩,
  ⟨some 14,.bin .eql .num (.t 13) (.c (.sc (.int .i64 0))),none,0,[]⟩,
  ⟨some 15,.mov (.t 14),none,0,[]⟩,
  ⟨some 16,.mov (.t 1),some (15,false),0,[]⟩,
  ⟨some 17,.fad (.t 2) 0,some (15,false),0,[]⟩,
  ⟨some 18,.fad (.t 17) 0,some (15,false),0,[]⟩,
  ⟨some 19,.load false 1 (.t 18),some (15,false),0,[]⟩,
  ⟨some 20,.bin .eql .num (.t 16) (.t 19),some (15,false),0,[]⟩,
  ⟨some 21,.pick (.t 15) (.c (.sc (.bool true))) (.t 20),none,0,[]⟩]) (.cond (.t 21) (.seq (.region [⟨some 22,.fad (.t 2) 0,none,0,[]⟩,
  ⟨some 23,.load true 2 (.t 22),none,0,[]⟩,
  ⟨none,.store 2 (.t 4) (.t 23),none,0,[]⟩,
  ⟨some 5,.nil 25,none,0,[]⟩,
  ⟨some 6,.mov (.c (.sc (.bool true))),none,0,[]⟩]) (.ret [4,5,6])) .skip)) (.seg [7,1,2,4] [4,5,6] c1))))⟩
def g63:Fn:=g63F zyz
theorem cmp63:zaj Tryz.prog .lit [1000016,1000500025] 63=some g63:=by kernel_rfl
def p64:Lit (zaj Tryz.prog .keep [1000016,1000300025,1000200025] 64):=⟨_,by cbv⟩
def zEu:Cd:=lit (bdF p64.v 0 [])
def ztr:Cd:=zEu
def g64F (c0:Cd):Fn:=lit (fnF p64.v [c0])
def g64:Fn:=g64F ztr
theorem cmp64:zaj Tryz.prog .keep [1000016,1000300025,1000200025] 64=some g64:=p64.h.trans (by kernel_rfl)
def p65:Lit (zaj Tryz.prog .lit [1000200,60000000000057,60000000000065,1000700056] 65):=⟨_,by cbv⟩
def g65F:Fn:=lit (fnF p65.v [])
def g65:Fn:=g65F
theorem cmp65:zaj Tryz.prog .lit [1000200,60000000000057,60000000000065,1000700056] 65=some g65:=p65.h.trans (by kernel_rfl)
def p66:Lit (zaj Tryz.prog .lit [1000016,1000600078] 66):=⟨_,by cbv⟩
def zEv:Cd:=lit (bdF p66.v 0 [])
def zts:Cd:=zEv
def g66F (c0:Cd):Fn:=lit (fnF p66.v [c0])
def g66:Fn:=g66F zts
theorem cmp66:zaj Tryz.prog .lit [1000016,1000600078] 66=some g66:=p66.h.trans (by kernel_rfl)
def p67:Lit (zaj Tryz.prog .lit [1000016] 67):=⟨_,by cbv⟩
def g67F:Fn:=lit (fnF p67.v [])
def g67:Fn:=g67F
theorem cmp67:zaj Tryz.prog .lit [1000016] 67=some g67:=p67.h.trans (by kernel_rfl)
def p68:Lit (zaj Tryz.prog .lit [1000016] 68):=⟨_,by cbv⟩
def g68F:Fn:=lit (fnF p68.v [])
def g68:Fn:=g68F
theorem cmp68:zaj Tryz.prog .lit [1000016] 68=some g68:=p68.h.trans (by kernel_rfl)
def p69:Lit (zaj Tryz.prog .lit [1000016] 69):=⟨_,by cbv⟩
def zEw:Cd:=lit (bdF p69.v 0 [])
def ztt:Cd:=zEw
def g69F (c0:Cd):Fn:=lit (fnF p69.v [c0])
def g69:Fn:=g69F ztt
theorem cmp69:zaj Tryz.prog .lit [1000016] 69=some g69:=p69.h.trans (by kernel_rfl)
end Go.Ab.Tryz
