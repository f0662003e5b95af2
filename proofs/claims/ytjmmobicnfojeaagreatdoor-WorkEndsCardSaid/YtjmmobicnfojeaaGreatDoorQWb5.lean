/- Our texts for this statement, merged: what its theorem leads to. -/
import Derived.Test.YtjmmobicnfojeaaGreatDoorQWb3
set_option linter.unusedVariables false
set_option linter.unusedSimpArgs false
noncomputable section
namespace Go.Ab.Tryz
open Go Go.Proofs
set_option maxRecDepth 100000
set_option maxHeartbeats 4000000
def p27:Lit (zag Tryz.prog .lit [1000016,38,1000900056] 27):=⟨_,by cbv⟩
def zD3:Cd:=lit (bdF p27.v 0 [])
def zyj:Cd:=zD3
def zD4:Cd:=lit (bdF p27.v 1 [])
def zyk:Cd:=zD4
def g27F (c0:Cd) (c1:Cd):Fn:=lit (fnF p27.v [c0,c1])
def g27:Fn:=g27F zyj zyk
theorem cmp27:zag Tryz.prog .lit [1000016,38,1000900056] 27=some g27:=p27.h.trans (by kernel_rfl)
def p28:Lit (zag Tryz.prog .lit [1000016,1000900056] 28):=⟨_,by cbv⟩
def zD5:Cd:=lit (bdF p28.v 0 [])
def zyl:Cd:=zD5
def zD6 (c0:Cd):Cd:=lit (bdF p28.v 1 [c0])
def zym:Cd:=zD6 zyl
def g28F (c1:Cd):Fn:=lit (fnF p28.v [.skip,c1])
def g28:Fn:=g28F zym
theorem cmp28:zag Tryz.prog .lit [1000016,1000900056] 28=some g28:=p28.h.trans (by kernel_rfl)
def p29:Lit (zag Tryz.prog .lit [1000016,25,1000500056] 29):=⟨_,by cbv⟩
def zD7:Cd:=lit (bdF p29.v 0 [])
def zyn:Cd:=zD7
def g29F (c0:Cd):Fn:=lit (fnF p29.v [c0])
def g29:Fn:=g29F zyn
theorem cmp29:zag Tryz.prog .lit [1000016,25,1000500056] 29=some g29:=p29.h.trans (by kernel_rfl)
def p30:Lit (zag Tryz.prog .lit [1000016,1000500056] 30):=⟨_,by cbv⟩
def g30F:Fn:=lit (fnF p30.v [])
def g30:Fn:=g30F
theorem cmp30:zag Tryz.prog .lit [1000016,1000500056] 30=some g30:=p30.h.trans (by kernel_rfl)
def p31:Lit (zag Tryz.prog .lit [1000016,26,1000500056] 31):=⟨_,by cbv⟩
def zD8:Cd:=lit (bdF p31.v 0 [])
def zyo:Cd:=zD8
def zD9:Cd:=lit (bdF p31.v 1 [])
def zyp:Cd:=zD9
def g31F (c0:Cd) (c1:Cd):Fn:=lit (fnF p31.v [c0,c1])
def g31:Fn:=g31F zyo zyp
theorem cmp31:zag Tryz.prog .lit [1000016,26,1000500056] 31=some g31:=p31.h.trans (by kernel_rfl)
def p32:Lit (zag Tryz.prog .lit [1000016,1000500056] 32):=⟨_,by cbv⟩
def zEa:Cd:=lit (bdF p32.v 0 [])
def zyq:Cd:=zEa
def g32F (c0:Cd):Fn:=lit (fnF p32.v [c0])
def g32:Fn:=g32F zyq
theorem cmp32:zag Tryz.prog .lit [1000016,1000500056] 32=some g32:=p32.h.trans (by kernel_rfl)
def p33:Lit (zag Tryz.prog .lit [1000016] 33):=⟨_,by cbv⟩
def zEb:Cd:=lit (bdF p33.v 0 [])
def ztm:Cd:=zEb
def g33F (c0:Cd):Fn:=lit (fnF p33.v [c0])
def g33:Fn:=g33F ztm
theorem cmp33:zag Tryz.prog .lit [1000016] 33=some g33:=p33.h.trans (by kernel_rfl)
def p34:Lit (zag Tryz.prog .lit [1000016,21,1000700056] 34):=⟨_,by cbv⟩
def g34F:Fn:=lit (fnF p34.v [])
def g34:Fn:=g34F
theorem cmp34:zag Tryz.prog .lit [1000016,21,1000700056] 34=some g34:=p34.h.trans (by kernel_rfl)
def p41:Lit (zag Tryz.prog .lit [1000016,18,1000500056] 41):=⟨_,by cbv⟩
def g41F:Fn:=lit (fnF p41.v [])
def g41:Fn:=g41F
theorem cmp41:zag Tryz.prog .lit [1000016,18,1000500056] 41=some g41:=p41.h.trans (by kernel_rfl)
def p42:Lit (zag Tryz.prog .lit [1000016,1000500056] 42):=⟨_,by cbv⟩
def g42F:Fn:=lit (fnF p42.v [])
def g42:Fn:=g42F
theorem cmp42:zag Tryz.prog .lit [1000016,1000500056] 42=some g42:=p42.h.trans (by kernel_rfl)
def zEc:Cd:=(.seq (.region [⟨some 63,.fad (.t 2) 0,none,0,[]⟩,
  ⟨some 64,.load true 2 (.t 63),none,0,[]⟩,
  ⟨some 65,.fad (.t 2) 5,none,0,[]⟩,
  ⟨some 66,.load false 1 (.t 65),none,0,[]⟩,
  ⟨some 67,.fad (.t 2) 6,none,0,[]⟩,
  ⟨some 68,.load false 1 (.t 67),none,0,[]⟩,
  ⟨some 69,.mov (.t 1),none,0,[]⟩,
  ⟨some 70,.call 135 [.a [.s,.s],.l 81,.l 84,.s,.s] [.t 64,.t 66,.t 68,.t 69,.c (.sc (.int .i64 4))],none,0,[]⟩,
  ⟨some 8,.mov (.t 70),none,0,[]⟩]) (.seq (.seq (.region [⟨some 71,.mov (.t 8),none,0,[]⟩,
  ⟨some 72,.len false (.t 71),none,0,[]⟩,
  ⟨some 73,.bin .eql .num (.t 72) (.c (.sc (.int .i64 0))),none,0,[]⟩]) (.cond (.t 73) (.seq (.region [⟨some 74,.fad (.t 2) 0,none,0,[]⟩,
  ⟨some 75,.load true 2 (.t 74),none,0,[]⟩,
  ⟨none,.store 2 (.t 4) (.t 75),none,0,[]⟩,
  ⟨some 5,.nil 25,none,0,[]⟩,
  ⟨some 6,.mov (.c (.sc (.bool true))),none,0,[]⟩]) (.ret [4,5,6])) .skip)) (.seq (.region [⟨some 76,.build [.sc (.int .u64 0),.sc (.int .u16 0)] [],none,0,[]⟩,
  ⟨some 77,.mov (.t 8),none,0,[]⟩,
  ⟨none,.store 2 (.t 4) (.t 76),none,0,[]⟩,
  ⟨some 5,.mov (.t 77),none,0,[]⟩,
  ⟨some 6,.mov (.c (.sc (.bool false))),none,0,[]⟩]) (.ret [4,5,6]))))
def zyr:Cd:=zEc
def zEd (c0:Cd):Cd:=(.seq (.seq (.region [⟨some 24,.fad (.t 2) 0,none,0,[]⟩,
  ⟨some 25,.fad (.t 24) 0,none,0,[]⟩,
  ⟨some 26,.load false 1 (.t 25),none,0,[]⟩,
  ⟨some 27,.mov (.t 1),none,0,[]⟩,
  ⟨some 28,.mov (.t 7),none,0,[]⟩,
  ⟨some 29,.iadS 25 (.t 28) (.c (.sc (.int .i64 0))),none,0,[]⟩,
  ⟨some 30,.fad (.t 29) 0,none,0,[]⟩,
  ⟨some 31,.load false 1 (.t 30),none,0,[]⟩,
  ⟨some 32,.call 134 [.s,.s,.s] [.t 26,.t 27,.t 31],none,0,[]⟩]) (.cond (.t 32) (.seq (.region [⟨some 33,.mov (.t 7),none,0,[]⟩,
  ⟨some 34,.iadS 25 (.t 33) (.c (.sc (.int .i64 0))),none,0,[]⟩,
  ⟨some 35,.load true 2 (.t 34),none,0,[]⟩,
  ⟨none,.store 2 (.t 4) (.t 35),none,0,[]⟩,
  ⟨some 5,.nil 25,none,0,[]⟩,
  ⟨some 6,.mov (.c (.sc (.bool true))),none,0,[]⟩]) (.ret [4,5,6])) .skip)) (.seq (.seq (.region [⟨some 36,.fad (.t 2) 4,none,0,[]⟩,
  ⟨some 37,.load false 1 (.t 36),none,0,[]⟩,
  ⟨some 38,.len false (.t 37),none,0,[]⟩,
  ⟨some 39,.bin .gtr .num (.t 38) (.c (.sc (.int .i64 0))),none,0,[]⟩,
  ⟨some 40,.mov (.t 39),none,0,[]⟩,
  ⟨some 41,.fad (.t 2) 4,some (40,true),0,[]⟩,
  ⟨some 42,.load false 1 (.t 41),some (40,true),0,[]⟩,
  ⟨some 43,.iadS 81 (.t 42) (.c (.sc (.int .i64 0))),some (40,true),0,[]⟩,
  ⟨some 44,.fad (.t 43) 2,some (40,true),0,[]⟩,
  ⟨some 45,.load false 1 (.t 44),some (40,true),0,[]⟩,
  ⟨some 46,.bin .lss .num (.t 45) (.c (.sc (.int .i64 1))),some (40,true),0,[]⟩,
  ⟨some 47,.pick (.t 40) (.t 46) (.c (.sc (.bool false))),none,0,[]⟩,
  ⟨some 48,.mov (.t 47),none,0,[]⟩,
  ⟨some 49,.fad (.t 2) 4,some (48,true),0,[]⟩,
  ⟨some 50,.load false 1 (.t 49),some (48,true),0,[]⟩,
  ⟨some 51,.iadS 81 (.t 50) (.c (.sc (.int .i64 0))),some (48,true),0,[]⟩,
  ⟨some 52,.fad (.t 51) 0,some (48,true),0,[]⟩,
  ⟨some 53,.fad (.t 52) 0,some (48,true),0,[]⟩,
  ⟨some 54,.load false 1 (.t 53),some (48,true),0,[]⟩,
  ⟨some 55,.mov (.t 1),some (48,true),0,[]⟩,
  ⟨some 56,.fad (.t 2) 0,some (48,true),0,[]⟩,
  ⟨some 57,.fad (.t 56) 0,some (48,true),0,[]⟩,
  ⟨some 58,.load false 1 (.t 57),some (48,true),0,[]⟩,
  ⟨some 59,.call 134 [.s,.s,.s] [.t 54,.t 55,.t 58],some (48,true),0,[]⟩,
  ⟨some 60,.pick (.t 48) (.t 59) (.c (.sc (.bool false))),none,0,[]⟩]) (.cond (.t 60) (.seq (.region [⟨some 61,.fad (.t 2) 0,none,0,[]⟩,
  ⟨some 62,.load true 2 (.t 61),none,0,[]⟩,
  ⟨none,.store 2 (.t 4) (.t 62),none,0,[]⟩,
  ⟨some 5,.nil 25,none,0,[]⟩,
  ⟨some 6,.mov (.c (.sc (.bool true))),none,0,[]⟩]) (.ret [4,5,6])) .skip)) (.seg [1,2,4] [4,5,6] c0)))
def zys:Cd:=zEd zyr
def g63F (c1:Cd):Fn:=⟨78,[.cell 4 true 2,.t 5,.t 6],[.a [.s,.s],.l 25,.s],.lit,
 (.seq (.region [⟨some 2,.box 34 14 (.t 0),none,0,[]⟩,
  ⟨some 4,.box 25 2 (.c (.agg [.sc (.int .u64 0),.sc (.int .u16 0)])),none,0,[]⟩,
  ⟨some 5,.nil 25,none,0,[]⟩,
  ⟨some 6,.mov (.c (.sc (.bool false))),none,0,[]⟩]) (.seq (.region [⟨some 9,.fad (.t 2) 5,none,0,[]⟩,
  ⟨some 10,.load false 1 (.t 9),none,0,[]⟩,
  ⟨some 11,.call 78 [.l 81] [.t 10],none,0,[]⟩,
  ⟨some 7,.mov (.t 11),none,0,[]⟩]) (.seq (.seq (.region [⟨some 12,.mov (.t 7),none,0,[]⟩,
  ⟨some 13,.len false (.t 12),none,0,[]⟩,
  ⟨some 14,.bin .eql .num (.t 13) (.c (.sc (.int .i64 0))),none,0,[]⟩,
  ⟨some 15,.mov (.t 14),none,0,[]⟩,
  ⟨some 16,.mov (.t 1),some (15,false),0,[]⟩,
  ⟨some 17,.fad (.t 2) 0,some (15,false),0,[]⟩,
  ⟨some 18,.fad (.t 17) 0,some (15,false),0,[]⟩,
  ⟨some 19,.load false 1 (.t 18),some (15,false),0,[]⟩,
  ⟨some 20,.bin .eql .num (.t 16) (.t 19),some (15,false),0,[]⟩,
  ⟨some 21,.pick (.t 15) (.c (.sc (.bool true))) (.t 20),none,0,[]⟩]) (.cond (.t 21) (.seq (.region [⟨some 22,.fad (.t 2) 0,none,0,[]⟩,
  ⟨some 23,.load true 2 (.t 22),none,0,[]⟩,
  ⟨none,.store 2 (.t 4) (.t 23),none,0,[]⟩,
  ⟨some 5,.nil 25,none,0,[]⟩,
  ⟨some 6,.mov (.c (.sc (.bool true))),none,0,[]⟩]) (.ret [4,5,6])) .skip)) (.seg [7,1,2,4] [4,5,6] c1))))⟩
def g63:Fn:=g63F zys
theorem cmp63:zag Tryz.prog .lit [1000016,1000500025] 63=some g63:=by kernel_rfl
def p68:Lit (zag Tryz.prog .lit [1000016] 68):=⟨_,by cbv⟩
def g68F:Fn:=lit (fnF p68.v [])
def g68:Fn:=g68F
theorem cmp68:zag Tryz.prog .lit [1000016] 68=some g68:=p68.h.trans (by kernel_rfl)
def p69:Lit (zag Tryz.prog .lit [1000016] 69):=⟨_,by cbv⟩
def zEe:Cd:=lit (bdF p69.v 0 [])
def ztn:Cd:=zEe
def g69F (c0:Cd):Fn:=lit (fnF p69.v [c0])
def g69:Fn:=g69F ztn
theorem cmp69:zag Tryz.prog .lit [1000016] 69=some g69:=p69.h.trans (by kernel_rfl)
def p70:Lit (zag Tryz.prog .lit [1000016] 70):=⟨_,by cbv⟩
def zEf:Cd:=lit (bdF p70.v 0 [])
def zto:Cd:=zEf
def g70F (c0:Cd):Fn:=lit (fnF p70.v [c0])
def g70:Fn:=g70F zto
theorem cmp70:zag Tryz.prog .lit [1000016] 70=some g70:=p70.h.trans (by kernel_rfl)
def p71:Lit (zag Tryz.prog .lit [1000016] 71):=⟨_,by cbv⟩
def zEg:Cd:=lit (bdF p71.v 0 [])
def ztp:Cd:=zEg
def g71F (c0:Cd):Fn:=lit (fnF p71.v [c0])
def g71:Fn:=g71F ztp
theorem cmp71:zag Tryz.prog .lit [1000016] 71=some g71:=p71.h.trans (by kernel_rfl)
def p72:Lit (zag Tryz.prog .lit [1000016] 72):=⟨_,by cbv⟩
def zEh:Cd:=lit (bdF p72.v 0 [])
def ztq:Cd:=zEh
def g72F (c0:Cd):Fn:=lit (fnF p72.v [c0])
def g72:Fn:=g72F ztq
theorem cmp72:zag Tryz.prog .lit [1000016] 72=some g72:=p72.h.trans (by kernel_rfl)
def p73:Lit (zag Tryz.prog .lit [1000016] 73):=⟨_,by cbv⟩
def zEi:Cd:=lit (bdF p73.v 0 [])
def ztr:Cd:=zEi
def zEj:Cd:=lit (bdF p73.v 1 [])
def zts:Cd:=zEj
def zEk (c0:Cd) (c1:Cd):Cd:=lit (bdF p73.v 2 [c0,c1])
def zyt:Cd:=zEk ztr zts
def g73F (c2:Cd):Fn:=lit (fnF p73.v [.skip,.skip,c2])
def g73:Fn:=g73F zyt
theorem cmp73:zag Tryz.prog .lit [1000016] 73=some g73:=p73.h.trans (by kernel_rfl)
def p74:Lit (zag Tryz.prog .lit [1000016] 74):=⟨_,by cbv⟩
def g74F:Fn:=lit (fnF p74.v [])
def g74:Fn:=g74F
theorem cmp74:zag Tryz.prog .lit [1000016] 74=some g74:=p74.h.trans (by kernel_rfl)
def p75:Lit (zag Tryz.prog .lit [1000016,1000600078] 75):=⟨_,by cbv⟩
def zEl:Cd:=lit (bdF p75.v 0 [])
def zyu:Cd:=zEl
def g75F (c0:Cd):Fn:=lit (fnF p75.v [c0])
def g75:Fn:=g75F zyu
theorem cmp75:zag Tryz.prog .lit [1000016,1000600078] 75=some g75:=p75.h.trans (by kernel_rfl)
def p76:Lit (zag Tryz.prog .keep [1000016,1000200025] 76):=⟨_,by cbv⟩
def g76F:Fn:=lit (fnF p76.v [])
def g76:Fn:=g76F
theorem cmp76:zag Tryz.prog .keep [1000016,1000200025] 76=some g76:=p76.h.trans (by kernel_rfl)
def p77:Lit (zag Tryz.prog .lit [1000016,1000600078] 77):=⟨_,by cbv⟩
def zEm:Cd:=lit (bdF p77.v 0 [])
def ztt:Cd:=zEm
def g77F (c0:Cd):Fn:=lit (fnF p77.v [c0])
def g77:Fn:=g77F ztt
theorem cmp77:zag Tryz.prog .lit [1000016,1000600078] 77=some g77:=p77.h.trans (by kernel_rfl)
def p78:Lit (zag Tryz.prog .keep [1000016,1000300025,1000200025] 78):=⟨_,by cbv⟩
def zEn:Cd:=lit (bdF p78.v 0 [])
def ztu:Cd:=zEn
def g78F (c0:Cd):Fn:=lit (fnF p78.v [c0])
def g78:Fn:=g78F ztu
theorem cmp78:zag Tryz.prog .keep [1000016,1000300025,1000200025] 78=some g78:=p78.h.trans (by kernel_rfl)
def p80:Lit (zag Tryz.prog .lit [1000016,1001100056] 80):=⟨_,by cbv⟩
def g80F:Fn:=lit (fnF p80.v [])
def g80:Fn:=g80F
theorem cmp80:zag Tryz.prog .lit [1000016,1001100056] 80=some g80:=p80.h.trans (by kernel_rfl)
def p82:Lit (zag Tryz.prog .lit [1000016,1001100056] 82):=⟨_,by cbv⟩
def g82F:Fn:=lit (fnF p82.v [])
def g82:Fn:=g82F
theorem cmp82:zag Tryz.prog .lit [1000016,1001100056] 82=some g82:=p82.h.trans (by kernel_rfl)
end Go.Ab.Tryz
