/- Our texts for this statement, merged: what its theorem leads to. -/
import Derived.Test.YtjmmobicnfojeaaGreatDoorQWg3
set_option linter.unusedVariables false
set_option linter.unusedSimpArgs false
noncomputable section
namespace Go.Ab.Tryz
open Go Go.Proofs
set_option maxRecDepth 100000
set_option maxHeartbeats 4000000
def p27:Lit (zaj Tryz.prog .lit [1000016,38,1000900056] 27):=⟨_,by cbv⟩
def zKu:Cd:=lit (bdF p27.v 0 [])
def b27_0:Cd:=zKu
def zKv:Cd:=lit (bdF p27.v 1 [])
def b27_1:Cd:=zKv
def g27F (c0:Cd) (c1:Cd):Fn:=lit (fnF p27.v [c0,c1])
def g27:Fn:=g27F b27_0 b27_1
theorem cmp27:zaj Tryz.prog .lit [1000016,38,1000900056] 27=some g27:=p27.h.trans (by kernel_rfl)
def p29:Lit (zaj Tryz.prog .lit [1000016,25,1000500056] 29):=⟨_,by cbv⟩
def zKw:Cd:=lit (bdF p29.v 0 [])
def b29_0:Cd:=zKw
def g29F (c0:Cd):Fn:=lit (fnF p29.v [c0])
def g29:Fn:=g29F b29_0
theorem cmp29:zaj Tryz.prog .lit [1000016,25,1000500056] 29=some g29:=p29.h.trans (by kernel_rfl)
def p33:Lit (zaj Tryz.prog .lit [1000016] 33):=⟨_,by cbv⟩
def zE1:Cd:=lit (bdF p33.v 0 [])
def zuk:Cd:=zE1
def g33F (c0:Cd):Fn:=lit (fnF p33.v [c0])
def g33:Fn:=g33F zuk
theorem cmp33:zaj Tryz.prog .lit [1000016] 33=some g33:=p33.h.trans (by kernel_rfl)
def p34:Lit (zaj Tryz.prog .lit [1000016,21,1000700056] 34):=⟨_,by cbv⟩
def g34F:Fn:=lit (fnF p34.v [])
def g34:Fn:=g34F
theorem cmp34:zaj Tryz.prog .lit [1000016,21,1000700056] 34=some g34:=p34.h.trans (by kernel_rfl)
def p41:Lit (zaj Tryz.prog .lit [1000016,18,1000500056] 41):=⟨_,by cbv⟩
def g41F:Fn:=lit (fnF p41.v [])
def g41:Fn:=g41F
theorem cmp41:zaj Tryz.prog .lit [1000016,18,1000500056] 41=some g41:=p41.h.trans (by kernel_rfl)
def p42:Lit (zaj Tryz.prog .lit [1000016,1000500056] 42):=⟨_,by cbv⟩
def g42F:Fn:=lit (fnF p42.v [])
def g42:Fn:=g42F
theorem cmp42:zaj Tryz.prog .lit [1000016,1000500056] 42=some g42:=p42.h.trans (by kernel_rfl)
def p43:Lit (zaj Tryz.prog .lit [1000016,26,72,1000700056] 43):=⟨_,by cbv⟩
def zE2:Cd:=lit (bdF p43.v 0 [])
def zzb:Cd:=zE2
def zE3 (c0:Cd):Cd:=lit (bdF p43.v 1 [c0])
def zzc:Cd:=zE3 zzb
def g43F (c1:Cd):Fn:=lit (fnF p43.v [.skip,c1])
def g43:Fn:=g43F zzc
theorem cmp43:zaj Tryz.prog .lit [1000016,26,72,1000700056] 43=some g43:=p43.h.trans (by kernel_rfl)
def p44:Lit (zaj Tryz.prog .lit [1000016,1000700056] 44):=⟨_,by cbv⟩
def zE4:Cd:=lit (bdF p44.v 0 [])
def zzd:Cd:=zE4
def zE5 (c0:Cd):Cd:=lit (bdF p44.v 1 [c0])
def zze:Cd:=zE5 zzd
def zE6 (c1:Cd):Cd:=lit (bdF p44.v 2 [.skip,c1])
def zul:Cd:=zE6 zze
def zE7 (c2:Cd):Cd:=lit (bdF p44.v 3 [.skip,.skip,c2])
def zzf:Cd:=zE7 zul
def g44F (c3:Cd):Fn:=lit (fnF p44.v [.skip,.skip,.skip,c3])
def g44:Fn:=g44F zzf
theorem cmp44:zaj Tryz.prog .lit [1000016,1000700056] 44=some g44:=p44.h.trans (by kernel_rfl)
def p45:Lit (zaj Tryz.prog .lit [1000016,28,85,1000700056] 45):=⟨_,by cbv⟩
def zE8:Cd:=lit (bdF p45.v 0 [])
def zzg:Cd:=zE8
def zE9 (c0:Cd):Cd:=lit (bdF p45.v 1 [c0])
def zzh:Cd:=zE9 zzg
def zFa (c1:Cd):Cd:=lit (bdF p45.v 2 [.skip,c1])
def zzi:Cd:=zFa zzh
def g45F (c2:Cd):Fn:=lit (fnF p45.v [.skip,.skip,c2])
def g45:Fn:=g45F zzi
theorem cmp45:zaj Tryz.prog .lit [1000016,28,85,1000700056] 45=some g45:=p45.h.trans (by kernel_rfl)
def p46:Lit (zaj Tryz.prog .lit [1000016,1000700056] 46):=⟨_,by cbv⟩
def zFb:Cd:=lit (bdF p46.v 0 [])
def zzj:Cd:=zFb
def zFc:Cd:=lit (bdF p46.v 1 [])
def zzk:Cd:=zFc
def zFd (c1:Cd):Cd:=lit (bdF p46.v 2 [.skip,c1])
def zzl:Cd:=zFd zzk
def zFe (c0:Cd) (c2:Cd):Cd:=lit (bdF p46.v 3 [c0,.skip,c2])
def zzm:Cd:=zFe zzj zzl
def g46F (c3:Cd):Fn:=lit (fnF p46.v [.skip,.skip,.skip,c3])
def g46:Fn:=g46F zzm
theorem cmp46:zaj Tryz.prog .lit [1000016,1000700056] 46=some g46:=p46.h.trans (by kernel_rfl)
def p47:Lit (zaj Tryz.prog .lit [1000016,1000700056] 47):=⟨_,by cbv⟩
def g47F:Fn:=lit (fnF p47.v [])
def g47:Fn:=g47F
theorem cmp47:zaj Tryz.prog .lit [1000016,1000700056] 47=some g47:=p47.h.trans (by kernel_rfl)
def zFf:Cd:=(.seq (.region [⟨some 63,.fad (.t 2) 0,none,0,[]⟩,
  ⟨some 64,.load true 2 (.t 63),none,0,[]⟩,
  ⟨some 65,.fad (.t 2) 5,none,0,[]⟩,
  ⟨some 66,.load false 1 (.t 65),none,0,[]⟩,
  ⟨some 67,.fad (.t 2) 6,none,0,[]⟩,
  ⟨some 68,.load false 1 (.t 67),none,0,[]⟩,
  ⟨some 69,.mov (.t 1),none,0,[]⟩,
  ⟨some 70,.call 135 [.a [.s,.s],.l 81,.l 84,.s,.s] [.t 64,.t 66,.t 68,.t 69,.c (.sc (.int .i64 4))],none,0,[]⟩,
  ⟨some 8,.mov (.t 70),none,0,[]⟩]) (.seq (.seq (.region [⟨some 71,.mov (.t 8),none,0,[]⟩,
  ⟨some 72,.len false (.t 71),none,0,[]⟩,
  ⟨some 73,.bin .eql .num (.t 72) (.c (.sc (.int .i64 0))),none,0,[]⟩]) (.cond (.t 73) (.seq (.region [⟨some 74,.fad (.t 2) 0,none,0,[]⟩,
  ⟨some 75,.load true 2 (.t 74),none,0,[]⟩,
  ⟨none,.store 2 (.t 4) (.t 75),none,0,[]⟩,
  ⟨some 5,.nil 25,none,0,[]⟩,
  ⟨some 6,.mov (.c (.sc (.bool true))),none,0,[]⟩]) (.ret [4,5,6])) .skip)) (.seq (.region [⟨some 76,.build [.sc (.int .u64 0),.sc (.int .u16 0)] [],none,0,[]⟩,
  ⟨some 77,.mov (.t 8),none,0,[]⟩,
  ⟨none,.store 2 (.t 4) (.t 76),none,0,[]⟩,
  ⟨some 5,.mov (.t 77),none,0,[]⟩,
  ⟨some 6,.mov (.c (.sc (.bool false))),none,0,[]⟩]) (.ret [4,5,6]))))
def zzn:Cd:=zFf
def zFg (c0:Cd):Cd:=(.seq (.seq (.region [⟨some 24,.fad (.t 2) 0,none,0,[]⟩,
  ⟨some 25,.fad (.t 24) 0,none,0,[]⟩,
  ⟨some 26,.load false 1 (.t 25),none,0,[]⟩,
  ⟨some 27,.mov (.t 1),none,0,[]⟩,
  ⟨some 28,.mov (.t 7),none,0,[]⟩,
  ⟨some 29,.iadS 25 (.t 28) (.c (.sc (.int .i64 0))),none,0,[]⟩,
  ⟨some 30,.fad (.t 29) 0,none,0,[]⟩,
  ⟨some 31,.load false 1 (.t 30),none,0,[]⟩,
  ⟨some 32,.call 134 [.s,.s,.s] [.t 26,.t 27,.t 31],none,0,[]⟩]) (.cond (.t 32) (.seq (.region [⟨some 33,.mov (.t 7),none,0,[]⟩,
  ⟨some 34,.iadS 25 (.t 33) (.c (.sc (.int .i64 0))),none,0,[]⟩,
  ⟨some 35,.load true 2 (.t 34),none,0,[]⟩,
  ⟨none,.store 2 (.t 4) (.t 35),none,0,[]⟩,
  ⟨some 5,.nil 25,none,0,[]⟩,
  ⟨some 6,.mov (.c (.sc (.bool true))),none,0,[]⟩]) (.ret [4,5,6])) .skip)) (.seq (.seq (.region [⟨some 36,.fad (.t 2) 4,none,0,[]⟩,
  ⟨some 37,.load false 1 (.t 36),none,0,[]⟩,
  ⟨some 38,.len false (.t 37),none,0,[]⟩,
  ⟨some 39,.bin .gtr .num (.t 38) (.c (.sc (.int .i64 0))),none,0,[]⟩,
  ⟨some 40,.mov (.t 39),none,0,[]⟩,
  ⟨some 41,.fad (.t 2) 4,some (40,true),0,[]⟩,
  ⟨some 42,.load false 1 (.t 41),some (40,true),0,[]⟩,
  ⟨some 43,.iadS 81 (.t 42) (.c (.sc (.int .i64 0))),some (40,true),0,[]⟩,
  ⟨some 44,.fad (.t 43) 2,some (40,true),0,[]⟩,
  ⟨some 45,.load false 1 (.t 44),some (40,true),0,[]⟩,
  ⟨some 46,.bin .lss .num (.t 45) (.c (.sc (.int .i64 1))),some (40,true),0,[]⟩,
  ⟨some 47,.pick (.t 40) (.t 46) (.c (.sc (.bool false))),none,0,[]⟩,
  ⟨some 48,.mov (.t 47),none,0,[]⟩,
  ⟨some 49,.fad (.t 2) 4,some (48,true),0,[]⟩,
  ⟨some 50,.load false 1 (.t 49),some (48,true),0,[]⟩,
  ⟨some 51,.iadS 81 (.t 50) (.c (.sc (.int .i64 0))),some (48,true),0,[]⟩,
  ⟨some 52,.fad (.t 51) 0,some (48,true),0,[]⟩,
  ⟨some 53,.fad (.t 52) 0,some (48,true),0,[]⟩,
  ⟨some 54,.load false 1 (.t 53),some (48,true),0,[]⟩,
  ⟨some 55,.mov (.t 1),some (48,true),0,[]⟩,
  ⟨some 56,.fad (.t 2) 0,some (48,true),0,[]⟩,
  ⟨some 57,.fad (.t 56) 0,some (48,true),0,[]⟩,
  ⟨some 58,.load false 1 (.t 57),some (48,true),0,[]⟩,
  ⟨some 59,.call 134 [.s,.s,.s] [.t 54,.t 55,.t 58],some (48,true),0,[]⟩,
  ⟨some 60,.pick (.t 48) (.t 59) (.c (.sc (.bool false))),none,0,[]⟩]) (.cond (.t 60) (.seq (.region [⟨some 61,.fad (.t 2) 0,none,0,[]⟩,
  ⟨some 62,.load true 2 (.t 61),none,0,[]⟩,
  ⟨none,.store 2 (.t 4) (.t 62),none,0,[]⟩,
  ⟨some 5,.nil 25,none,0,[]⟩,
  ⟨some 6,.mov (.c (.sc (.bool true))),none,0,[]⟩]) (.ret [4,5,6])) .skip)) (.seg [1,2,4] [4,5,6] c0)))
def zzo:Cd:=zFg zzn
def g63F (c1:Cd):Fn:=⟨78,[.cell 4 true 2,.t 5,.t 6],[.a [.s,.s],.l 25,.s],.lit,
 (.seq (.region [⟨some 2,.box 34 14 (.t 0),none,0,[]⟩,
  ⟨some 4,.box 25 2 (.c (.agg [.sc (.int .u64 0),.sc (.int .u16 0)])),none,0,[]⟩,
  ⟨some 5,.nil 25,none,0,[]⟩,
  ⟨some 6,.mov (.c (.sc (.bool false))),none,0,[]⟩]) (.seq (.region [⟨some 9,.fad (.t 2) 5,none,0,[]⟩,
  ⟨some 10,.load false 1 (.t 9),none,0,[]⟩,
  ⟨some 11,.call 78 [.l 81] [.t 10],none,0,[]⟩,
  ⟨some 7,.mov (.t 11),none,0,[]⟩]) (.seq (.seq (.region [⟨some 12,.mov (.t 7),none,0,[]⟩,
  ⟨some 13,.len false (.t 12),none,0,[]⟩,
  ⟨some 14,.bin .eql .num (.t 13) (.c (.sc (.int .i64 0))),none,0,[]⟩,
  ⟨some 15,.mov (.t 14),none,0,[]⟩,
  ⟨some 16,.mov (.t 1),some (15,false),0,[]⟩,
  ⟨some 17,.fad (.t 2) 0,some (15,false),0,[]⟩,
  ⟨some 18,.fad (.t 17) 0,some (15,false),0,[]⟩,
  ⟨some 19,.load false 1 (.t 18),some (15,false),0,[]⟩,
  ⟨some 20,.bin .eql .num (.t 16) (.t 19),some (15,false),0,[]⟩,
  ⟨some 21,.pick (.t 15) (.c (.sc (.bool true))) (.t 20),none,0,[]⟩]) (.cond (.t 21) (.seq (.region [⟨some 22,.fad (.t 2) 0,none,0,[]⟩,
  ⟨some 23,.load true 2 (.t 22),none,0,[]⟩,
  ⟨none,.store 2 (.t 4) (.t 23),none,0,[]⟩,
  ⟨some 5,.nil 25,none,0,[]⟩,
  ⟨some 6,.mov (.c (.sc (.bool true))),none,0,[]⟩]) (.ret [4,5,6])) .skip)) (.seg [7,1,2,4] [4,5,6] c1))))⟩
def g63:Fn:=g63F zzo
theorem cmp63:zaj Tryz.prog .lit [1000016,1000500025] 63=some g63:=by kernel_rfl
def p68:Lit (zaj Tryz.prog .lit [1000016] 68):=⟨_,by cbv⟩
def g68F:Fn:=lit (fnF p68.v [])
def g68:Fn:=g68F
theorem cmp68:zaj Tryz.prog .lit [1000016] 68=some g68:=p68.h.trans (by kernel_rfl)
def p69:Lit (zaj Tryz.prog .lit [1000016] 69):=⟨_,by cbv⟩
def zFh:Cd:=lit (bdF p69.v 0 [])
def zum:Cd:=zFh
def g69F (c0:Cd):Fn:=lit (fnF p69.v [c0])
def g69:Fn:=g69F zum
theorem cmp69:zaj Tryz.prog .lit [1000016] 69=some g69:=p69.h.trans (by kernel_rfl)
def p70:Lit (zaj Tryz.prog .lit [1000016] 70):=⟨_,by cbv⟩
def zFi:Cd:=lit (bdF p70.v 0 [])
def zun:Cd:=zFi
def g70F (c0:Cd):Fn:=lit (fnF p70.v [c0])
def g70:Fn:=g70F zun
theorem cmp70:zaj Tryz.prog .lit [1000016] 70=some g70:=p70.h.trans (by kernel_rfl)
def p71:Lit (zaj Tryz.prog .lit [1000016] 71):=⟨_,by cbv⟩
def zFj:Cd:=lit (bdF p71.v 0 [])
def zuo:Cd:=zFj
def g71F (c0:Cd):Fn:=lit (fnF p71.v [c0])
def g71:Fn:=g71F zuo
theorem cmp71:zaj Tryz.prog .lit [1000016] 71=some g71:=p71.h.trans (by kernel_rfl)
def p72:Lit (zaj Tryz.prog .lit [1000016] 72):=⟨_,by cbv⟩
def zFk:Cd:=lit (bdF p72.v 0 [])
def zup:Cd:=zFk
def g72F (c0:Cd):Fn:=lit (fnF p72.v [c0])
def g72:Fn:=g72F zup
theorem cmp72:zaj Tryz.prog .lit [1000016] 72=some g72:=p72.h.trans (by kernel_rfl)
def p73:Lit (zaj Tryz.prog .lit [1000016] 73):=⟨_,by cbv⟩
def zFl:Cd:=lit (bdF p73.v 0 [])
def zuq:Cd:=zFl
def zFm:Cd:=lit (bdF p73.v 1 [])
def zur:Cd:=zFm
def zFn (c0:Cd) (c1:Cd):Cd:=lit (bdF p73.v 2 [c0,c1])
def zzp:Cd:=zFn zuq zur
def g73F (c2:Cd):Fn:=lit (fnF p73.v [.skip,.skip,c2])
def g73:Fn:=g73F zzp
theorem cmp73:zaj Tryz.prog .lit [1000016] 73=some g73:=p73.h.trans (by kernel_rfl)
def p74:Lit (zaj Tryz.prog .lit [1000016] 74):=⟨_,by cbv⟩
def g74F:Fn:=lit (fnF p74.v [])
def g74:Fn:=g74F
theorem cmp74:zaj Tryz.prog .lit [1000016] 74=some g74:=p74.h.trans (by kernel_rfl)
end Go.Ab.Tryz
