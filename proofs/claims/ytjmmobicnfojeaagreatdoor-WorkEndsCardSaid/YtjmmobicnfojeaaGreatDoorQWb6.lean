/- Our texts for this statement, merged: what its theorem leads to. -/
import Derived.Test.YtjmmobicnfojeaaGreatDoorQWb3
set_option linter.unusedVariables false
set_option linter.unusedSimpArgs false
noncomputable section
namespace Go.Ab.Tryz
open Go Go.Proofs
set_option maxRecDepth 100000
set_option maxHeartbeats 4000000
def p83:Lit (zag Tryz.prog .lit [1000016] 83):=⟨_,by cbv⟩
def zEo:Cd:=lit (bdF p83.v 0 [])
def ztv:Cd:=zEo
def g83F (c0:Cd):Fn:=lit (fnF p83.v [c0])
def g83:Fn:=g83F ztv
theorem cmp83:zag Tryz.prog .lit [1000016] 83=some g83:=p83.h.trans (by kernel_rfl)
def p84:Lit (zag Tryz.prog .lit [1000016] 84):=⟨_,by cbv⟩
def zEp:Cd:=lit (bdF p84.v 0 [])
def ztw:Cd:=zEp
def g84F (c0:Cd):Fn:=lit (fnF p84.v [c0])
def g84:Fn:=g84F ztw
theorem cmp84:zag Tryz.prog .lit [1000016] 84=some g84:=p84.h.trans (by kernel_rfl)
def p85:Lit (zag Tryz.prog .lit [1000016] 85):=⟨_,by cbv⟩
def zEq:Cd:=lit (bdF p85.v 0 [])
def ztx:Cd:=zEq
def g85F (c0:Cd):Fn:=lit (fnF p85.v [c0])
def g85:Fn:=g85F ztx
theorem cmp85:zag Tryz.prog .lit [1000016] 85=some g85:=p85.h.trans (by kernel_rfl)
def p86:Lit (zag Tryz.prog .lit [1000016,1000300009,1000200009] 86):=⟨_,by cbv⟩
def zEr:Cd:=lit (bdF p86.v 0 [])
def zty:Cd:=zEr
def g86F (c0:Cd):Fn:=lit (fnF p86.v [c0])
def g86:Fn:=g86F zty
theorem cmp86:zag Tryz.prog .lit [1000016,1000300009,1000200009] 86=some g86:=p86.h.trans (by kernel_rfl)
def p87:Lit (zag Tryz.prog .lit [1000016,1000500056] 87):=⟨_,by cbv⟩
def g87F:Fn:=lit (fnF p87.v [])
def g87:Fn:=g87F
theorem cmp87:zag Tryz.prog .lit [1000016,1000500056] 87=some g87:=p87.h.trans (by kernel_rfl)
def p88:Lit (zag Tryz.prog .lit [1000016] 88):=⟨_,by cbv⟩
def g88F:Fn:=lit (fnF p88.v [])
def g88:Fn:=g88F
theorem cmp88:zag Tryz.prog .lit [1000016] 88=some g88:=p88.h.trans (by kernel_rfl)
def p89:Lit (zag Tryz.prog .lit [1000016,1000500056] 89):=⟨_,by cbv⟩
def g89F:Fn:=lit (fnF p89.v [])
def g89:Fn:=g89F
theorem cmp89:zag Tryz.prog .lit [1000016,1000500056] 89=some g89:=p89.h.trans (by kernel_rfl)
def p90:Lit (zag Tryz.prog .lit [1000016] 90):=⟨_,by cbv⟩
def g90F:Fn:=lit (fnF p90.v [])
def g90:Fn:=g90F
theorem cmp90:zag Tryz.prog .lit [1000016] 90=some g90:=p90.h.trans (by kernel_rfl)
def p91:Lit (zag Tryz.prog .lit [1000016] 91):=⟨_,by cbv⟩
def g91F:Fn:=lit (fnF p91.v [])
def g91:Fn:=g91F
theorem cmp91:zag Tryz.prog .lit [1000016] 91=some g91:=p91.h.trans (by kernel_rfl)
def p92:Lit (zag Tryz.prog .lit [1000016] 92):=⟨_,by cbv⟩
def zEt:Cd:=lit (bdF p92.v 0 [])
def ztz:Cd:=zEt
def g92F (c0:Cd):Fn:=lit (fnF p92.v [c0])
def g92:Fn:=g92F ztz
theorem cmp92:zag Tryz.prog .lit [1000016] 92=some g92:=p92.h.trans (by kernel_rfl)
def p93:Lit (zag Tryz.prog .lit [1000016] 93):=⟨_,by cbv⟩
def g93F:Fn:=lit (fnF p93.v [])
def g93:Fn:=g93F
theorem cmp93:zag Tryz.prog .lit [1000016] 93=some g93:=p93.h.trans (by kernel_rfl)
def p94:Lit (zag Tryz.prog .lit [1000016] 94):=⟨_,by cbv⟩
def zEu:Cd:=lit (bdF p94.v 0 [])
def ztA:Cd:=zEu
def zEv (c0:Cd):Cd:=lit (bdF p94.v 1 [c0])
def zyv:Cd:=zEv ztA
def g94F (c1:Cd):Fn:=lit (fnF p94.v [.skip,c1])
def g94:Fn:=g94F zyv
theorem cmp94:zag Tryz.prog .lit [1000016] 94=some g94:=p94.h.trans (by kernel_rfl)
def p95:Lit (zag Tryz.prog .mv [1000016,9,40000000900084,100000225600113] 95):=⟨_,by cbv⟩
def zEw:Cd:=lit (bdF p95.v 0 [])
def zyw:Cd:=zEw
def g95F (c0:Cd):Fn:=lit (fnF p95.v [c0])
def g95:Fn:=g95F zyw
theorem cmp95:zag Tryz.prog .mv [1000016,9,40000000900084,100000225600113] 95=some g95:=p95.h.trans (by kernel_rfl)
def p96:Lit (zag Tryz.prog .mv [1000016] 96):=⟨_,by cbv⟩
def g96F:Fn:=lit (fnF p96.v [])
def g96:Fn:=g96F
theorem cmp96:zag Tryz.prog .mv [1000016] 96=some g96:=p96.h.trans (by kernel_rfl)
def p97:Lit (zag Tryz.prog .mv [1000016,1000300056] 97):=⟨_,by cbv⟩
def g97F:Fn:=lit (fnF p97.v [])
def g97:Fn:=g97F
theorem cmp97:zag Tryz.prog .mv [1000016,1000300056] 97=some g97:=p97.h.trans (by kernel_rfl)
def p109:Lit (zag Tryz.prog .mv [1000016] 109):=⟨_,by cbv⟩
def zHs:Fn:=lit (fnF p109.v [])
def g109:Fn:=zHs
theorem zJU:zag Tryz.prog .mv [1000016] 109=some g109:=p109.h.trans (by kernel_rfl)
def p110:Lit (zag Tryz.prog .lit [1000016] 110):=⟨_,by cbv⟩
def zHt:Fn:=lit (fnF p110.v [])
def g110:Fn:=zHt
theorem zJV:zag Tryz.prog .lit [1000016] 110=some g110:=p110.h.trans (by kernel_rfl)
def p111:Lit (zag Tryz.prog .lit [1000016,1000500056] 111):=⟨_,by cbv⟩
def zHu:Fn:=lit (fnF p111.v [])
def g111:Fn:=zHu
theorem zJW:zag Tryz.prog .lit [1000016,1000500056] 111=some g111:=p111.h.trans (by kernel_rfl)
def p112:Lit (zag Tryz.prog .mv [1000016] 112):=⟨_,by cbv⟩
def zBk:Cd:=lit (bdF p112.v 0 [])
def zu4:Cd:=zBk
def zBl (c0:Cd):Cd:=lit (bdF p112.v 1 [c0])
def zu5:Cd:=zBl zu4
def zBm (c1:Cd):Cd:=lit (bdF p112.v 2 [.skip,c1])
def zu6:Cd:=zBm zu5
def zHv (c2:Cd):Fn:=lit (fnF p112.v [.skip,.skip,c2])
def g112:Fn:=zHv zu6
theorem zJX:zag Tryz.prog .mv [1000016] 112=some g112:=p112.h.trans (by kernel_rfl)
def p115:Lit (zag Tryz.prog .lit [1000016,1000700056,1001300084] 115):=⟨_,by cbv⟩
def zBn:Cd:=lit (bdF p115.v 0 [])
def zoV:Cd:=zBn
def zBo (c0:Cd):Cd:=lit (bdF p115.v 1 [c0])
def zu7:Cd:=zBo zoV
def zHw (c1:Cd):Fn:=lit (fnF p115.v [.skip,c1])
def g115:Fn:=zHw zu7
theorem zJY:zag Tryz.prog .lit [1000016,1000700056,1001300084] 115=some g115:=p115.h.trans (by kernel_rfl)
def p116:Lit (zag Tryz.prog .lit [1000016] 116):=⟨_,by cbv⟩
def zHx:Fn:=lit (fnF p116.v [])
def g116:Fn:=zHx
theorem zJZ:zag Tryz.prog .lit [1000016] 116=some g116:=p116.h.trans (by kernel_rfl)
def p117:Lit (zag Tryz.prog .lit [1000016] 117):=⟨_,by cbv⟩
def zHy:Fn:=lit (fnF p117.v [])
def g117:Fn:=zHy
theorem zJ0:zag Tryz.prog .lit [1000016] 117=some g117:=p117.h.trans (by kernel_rfl)
def p118:Lit (zag Tryz.prog .lit [1000016,1000700056] 118):=⟨_,by cbv⟩
def zHz:Fn:=lit (fnF p118.v [])
def g118:Fn:=zHz
theorem zJ1:zag Tryz.prog .lit [1000016,1000700056] 118=some g118:=p118.h.trans (by kernel_rfl)
def p120:Lit (zag Tryz.prog .mv [1000016] 120):=⟨_,by cbv⟩
def zyx:Fn:=lit (fnF p120.v [])
def g120:Fn:=zyx
theorem zJ2:zag Tryz.prog .mv [1000016] 120=some g120:=p120.h.trans (by kernel_rfl)
def p124:Lit (zag Tryz.prog .lit [1000016,1000500025] 124):=⟨_,by cbv⟩
def zBp:Cd:=lit (bdF p124.v 0 [])
def zu8:Cd:=zBp
def zHA (c0:Cd):Fn:=lit (fnF p124.v [c0])
def g124:Fn:=zHA zu8
theorem zJ3:zag Tryz.prog .lit [1000016,1000500025] 124=some g124:=p124.h.trans (by kernel_rfl)
def p128:Lit (zag Tryz.prog .lit [1000016] 128):=⟨_,by cbv⟩
def zHB:Fn:=lit (fnF p128.v [])
def g128:Fn:=zHB
theorem zJ4:zag Tryz.prog .lit [1000016] 128=some g128:=p128.h.trans (by kernel_rfl)
def p132:Lit (zag Tryz.prog .lit [1000016] 132):=⟨_,by cbv⟩
def zHC:Fn:=lit (fnF p132.v [])
def g132:Fn:=zHC
theorem zJ5:zag Tryz.prog .lit [1000016] 132=some g132:=p132.h.trans (by kernel_rfl)
end Go.Ab.Tryz
