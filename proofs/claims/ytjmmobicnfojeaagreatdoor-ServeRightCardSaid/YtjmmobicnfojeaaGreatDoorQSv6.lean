/- Our texts for this statement, merged: what its theorem leads to. -/
import Derived.Test.YtjmmobicnfojeaaGreatDoorQSv3
set_option linter.unusedVariables false
set_option linter.unusedSimpArgs false
noncomputable section
namespace Go.Ab.Tryz
open Go Go.Proofs
set_option maxRecDepth 100000
set_option maxHeartbeats 4000000
def p70:Lit (zaj Tryz.prog .lit [1000016] 70):=⟨_,by cbv⟩
def zEx:Cd:=lit (bdF p70.v 0 [])
def ztu:Cd:=zEx
def g70F (c0:Cd):Fn:=lit (fnF p70.v [c0])
def g70:Fn:=g70F ztu
theorem cmp70:zaj Tryz.prog .lit [1000016] 70=some g70:=p70.h.trans (by kernel_rfl)
def p71:Lit (zaj Tryz.prog .lit [1000016] 71):=⟨_,by cbv⟩
def zEy:Cd:=lit (bdF p71.v 0 [])
def ztv:Cd:=zEy
def g71F (c0:Cd):Fn:=lit (fnF p71.v [c0])
def g71:Fn:=g71F ztv
theorem cmp71:zaj Tryz.prog .lit [1000016] 71=some g71:=p71.h.trans (by kernel_rfl)
def p72:Lit (zaj Tryz.prog .lit [1000016] 72):=⟨_,by cbv⟩
def zEz:Cd:=lit (bdF p72.v 0 [])
def ztw:Cd:=zEz
def g72F (c0:Cd):Fn:=lit (fnF p72.v [c0])
def g72:Fn:=g72F ztw
theorem cmp72:zaj Tryz.prog .lit [1000016] 72=some g72:=p72.h.trans (by kernel_rfl)
def p73:Lit (zaj Tryz.prog .lit [1000016] 73):=⟨_,by cbv⟩
def zEA:Cd:=lit (bdF p73.v 0 [])
def ztx:Cd:=zEA
def zEB:Cd:=lit (bdF p73.v 1 [])
def zty:Cd:=zEB
def zEC (c0:Cd) (c1:Cd):Cd:=lit (bdF p73.v 2 [c0,c1])
def zyA:Cd:=zEC ztx zty
def g73F (c2:Cd):Fn:=lit (fnF p73.v [.skip,.skip,c2])
def g73:Fn:=g73F zyA
theorem cmp73:zaj Tryz.prog .lit [1000016] 73=some g73:=p73.h.trans (by kernel_rfl)
def p74:Lit (zaj Tryz.prog .lit [1000016] 74):=⟨_,by cbv⟩
def g74F:Fn:=lit (fnF p74.v [])
def g74:Fn:=g74F
theorem cmp74:zaj Tryz.prog .lit [1000016] 74=some g74:=p74.h.trans (by kernel_rfl)
def p75:Lit (zaj Tryz.prog .lit [1000016,1000600078] 75):=⟨_,by cbv⟩
def zED:Cd:=lit (bdF p75.v 0 [])
def zyB:Cd:=zED
def g75F (c0:Cd):Fn:=lit (fnF p75.v [c0])
def g75:Fn:=g75F zyB
theorem cmp75:zaj Tryz.prog .lit [1000016,1000600078] 75=some g75:=p75.h.trans (by kernel_rfl)
def p76:Lit (zaj Tryz.prog .keep [1000016,1000200025] 76):=⟨_,by cbv⟩
def g76F:Fn:=lit (fnF p76.v [])
def g76:Fn:=g76F
theorem cmp76:zaj Tryz.prog .keep [1000016,1000200025] 76=some g76:=p76.h.trans (by kernel_rfl)
def p77:Lit (zaj Tryz.prog .lit [1000016,1000600078] 77):=⟨_,by cbv⟩
def zEE:Cd:=lit (bdF p77.v 0 [])
def ztz:Cd:=zEE
def g77F (c0:Cd):Fn:=lit (fnF p77.v [c0])
def g77:Fn:=g77F ztz
theorem cmp77:zaj Tryz.prog .lit [1000016,1000600078] 77=some g77:=p77.h.trans (by kernel_rfl)
def p78:Lit (zaj Tryz.prog .keep [1000016,1000300025,1000200025] 78):=⟨_,by cbv⟩
def zEF:Cd:=lit (bdF p78.v 0 [])
def ztA:Cd:=zEF
def g78F (c0:Cd):Fn:=lit (fnF p78.v [c0])
def g78:Fn:=g78F ztA
theorem cmp78:zaj Tryz.prog .keep [1000016,1000300025,1000200025] 78=some g78:=p78.h.trans (by kernel_rfl)
def p80:Lit (zaj Tryz.prog .lit [1000016,1001100056] 80):=⟨_,by cbv⟩
def g80F:Fn:=lit (fnF p80.v [])
def g80:Fn:=g80F
theorem cmp80:zaj Tryz.prog .lit [1000016,1001100056] 80=some g80:=p80.h.trans (by kernel_rfl)
def p82:Lit (zaj Tryz.prog .lit [1000016,1001100056] 82):=⟨_,by cbv⟩
def g82F:Fn:=lit (fnF p82.v [])
def g82:Fn:=g82F
theorem cmp82:zaj Tryz.prog .lit [1000016,1001100056] 82=some g82:=p82.h.trans (by kernel_rfl)
def p83:Lit (zaj Tryz.prog .lit [1000016] 83):=⟨_,by cbv⟩
def zEG:Cd:=lit (bdF p83.v 0 [])
def ztB:Cd:=zEG
def g83F (c0:Cd):Fn:=lit (fnF p83.v [c0])
def g83:Fn:=g83F ztB
theorem cmp83:zaj Tryz.prog .lit [1000016] 83=some g83:=p83.h.trans (by kernel_rfl)
def p84:Lit (zaj Tryz.prog .lit [1000016] 84):=⟨_,by cbv⟩
def zEH:Cd:=lit (bdF p84.v 0 [])
def ztC:Cd:=zEH
def g84F (c0:Cd):Fn:=lit (fnF p84.v [c0])
def g84:Fn:=g84F ztC
theorem cmp84:zaj Tryz.prog .lit [1000016] 84=some g84:=p84.h.trans (by kernel_rfl)
def p85:Lit (zaj Tryz.prog .lit [1000016] 85):=⟨_,by cbv⟩
def zEI:Cd:=lit (bdF p85.v 0 [])
def ztD:Cd:=zEI
def g85F (c0:Cd):Fn:=lit (fnF p85.v [c0])
def g85:Fn:=g85F ztD
theorem cmp85:zaj Tryz.prog .lit [1000016] 85=some g85:=p85.h.trans (by kernel_rfl)
def p86:Lit (zaj Tryz.prog .lit [1000016,1000300009,1000200009] 86):=⟨_,by cbv⟩
def zEJ:Cd:=lit (bdF p86.v 0 [])
def ztE:Cd:=zEJ
def g86F (c0:Cd):Fn:=lit (fnF p86.v [c0])
def g86:Fn:=g86F ztE
theorem cmp86:zaj Tryz.prog .lit [1000016,1000300009,1000200009] 86=some g86:=p86.h.trans (by kernel_rfl)
def p88:Lit (zaj Tryz.prog .lit [1000016] 88):=⟨_,by cbv⟩
def g88F:Fn:=lit (fnF p88.v [])
def g88:Fn:=g88F
theorem cmp88:zaj Tryz.prog .lit [1000016] 88=some g88:=p88.h.trans (by kernel_rfl)
def p90:Lit (zaj Tryz.prog .lit [1000016] 90):=⟨_,by cbv⟩
def g90F:Fn:=lit (fnF p90.v [])
def g90:Fn:=g90F
theorem cmp90:zaj Tryz.prog .lit [1000016] 90=some g90:=p90.h.trans (by kernel_rfl)
def p98:Lit (zaj Tryz.prog .lit [1000016] 98):=⟨_,by cbv⟩
def g98F:Fn:=lit (fnF p98.v [])
def g98:Fn:=g98F
theorem cmp98:zaj Tryz.prog .lit [1000016] 98=some g98:=p98.h.trans (by kernel_rfl)
def p99:Lit (zaj Tryz.prog .lit [1000016] 99):=⟨_,by cbv⟩
def g99F:Fn:=lit (fnF p99.v [])
def g99:Fn:=g99F
theorem cmp99:zaj Tryz.prog .lit [1000016] 99=some g99:=p99.h.trans (by kernel_rfl)
def p100:Lit (zaj Tryz.prog .lit [1000016] 100):=⟨_,by cbv⟩
def zHz:Fn:=lit (fnF p100.v [])
def g100:Fn:=zHz
theorem zJ4:zaj Tryz.prog .lit [1000016] 100=some g100:=p100.h.trans (by kernel_rfl)
def p101:Lit (zaj Tryz.prog .lit [1000016] 101):=⟨_,by cbv⟩
def zHA:Fn:=lit (fnF p101.v [])
def g101:Fn:=zHA
theorem zJ5:zaj Tryz.prog .lit [1000016] 101=some g101:=p101.h.trans (by kernel_rfl)
def p102:Lit (zaj Tryz.prog .lit [1000016] 102):=⟨_,by cbv⟩
def zBD:Cd:=lit (bdF p102.v 0 [])
def zva:Cd:=zBD
def zHB (c0:Cd):Fn:=lit (fnF p102.v [c0])
def g102:Fn:=zHB zva
theorem zJ6:zaj Tryz.prog .lit [1000016] 102=some g102:=p102.h.trans (by kernel_rfl)
def p103:Lit (zaj Tryz.prog .lit [1000016] 103):=⟨_,by cbv⟩
def zwg:Cd:=lit (bdF p103.v 0 [])
def zrN:Cd:=zwg
def zBE (c0:Cd):Cd:=lit (bdF p103.v 1 [c0])
def zvb:Cd:=zBE zrN
def zBF (c1:Cd):Cd:=lit (bdF p103.v 2 [.skip,c1])
def zvc:Cd:=zBF zvb
def zHC (c2:Cd):Fn:=lit (fnF p103.v [.skip,.skip,c2])
def g103:Fn:=zHC zvc
theorem zJ7:zaj Tryz.prog .lit [1000016] 103=some g103:=p103.h.trans (by kernel_rfl)
def p104:Lit (zaj Tryz.prog .lit [1000016] 104):=⟨_,by cbv⟩
def zHD:Fn:=lit (fnF p104.v [])
def g104:Fn:=zHD
theorem zJ8:zaj Tryz.prog .lit [1000016] 104=some g104:=p104.h.trans (by kernel_rfl)
def p105:Lit (zaj Tryz.prog .lit [1000016] 105):=⟨_,by cbv⟩
def zHE:Fn:=lit (fnF p105.v [])
def g105:Fn:=zHE
theorem zJ9:zaj Tryz.prog .lit [1000016] 105=some g105:=p105.h.trans (by kernel_rfl)
def p106:Lit (zaj Tryz.prog .lit [1000016] 106):=⟨_,by cbv⟩
def zHF:Fn:=lit (fnF p106.v [])
def g106:Fn:=zHF
theorem zKa:zaj Tryz.prog .lit [1000016] 106=some g106:=p106.h.trans (by kernel_rfl)
def p107:Lit (zaj Tryz.prog .lit [1000016] 107):=⟨_,by cbv⟩
def zHG:Fn:=lit (fnF p107.v [])
def g107:Fn:=zHG
theorem zKb:zaj Tryz.prog .lit [1000016] 107=some g107:=p107.h.trans (by kernel_rfl)
def p108:Lit (zaj Tryz.prog .lit [1000016] 108):=⟨_,by cbv⟩
def zHH:Fn:=lit (fnF p108.v [])
def g108:Fn:=zHH
theorem zKc:zaj Tryz.prog .lit [1000016] 108=some g108:=p108.h.trans (by kernel_rfl)
end Go.Ab.Tryz
