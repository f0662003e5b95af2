/- Our texts for this statement, merged: what its theorem leads to. -/
import Derived.Test.YtjmmobicnfojeaaGreatDoorQWg3
set_option linter.unusedVariables false
set_option linter.unusedSimpArgs false
noncomputable section
namespace Go.Ab.Tryz
open Go Go.Proofs
set_option maxRecDepth 100000
set_option maxHeartbeats 4000000
def p75:Lit (zaj Tryz.prog .lit [1000016,1000600078] 75):=⟨_,by cbv⟩
def zFo:Cd:=lit (bdF p75.v 0 [])
def zzq:Cd:=zFo
def g75F (c0:Cd):Fn:=lit (fnF p75.v [c0])
def g75:Fn:=g75F zzq
theorem cmp75:zaj Tryz.prog .lit [1000016,1000600078] 75=some g75:=p75.h.trans (by kernel_rfl)
def p76:Lit (zaj Tryz.prog .keep [1000016,1000200025] 76):=⟨_,by cbv⟩
def g76F:Fn:=lit (fnF p76.v [])
def g76:Fn:=g76F
theorem cmp76:zaj Tryz.prog .keep [1000016,1000200025] 76=some g76:=p76.h.trans (by kernel_rfl)
def p77:Lit (zaj Tryz.prog .lit [1000016,1000600078] 77):=⟨_,by cbv⟩
def zFp:Cd:=lit (bdF p77.v 0 [])
def zus:Cd:=zFp
def g77F (c0:Cd):Fn:=lit (fnF p77.v [c0])
def g77:Fn:=g77F zus
theorem cmp77:zaj Tryz.prog .lit [1000016,1000600078] 77=some g77:=p77.h.trans (by kernel_rfl)
def p78:Lit (zaj Tryz.prog .keep [1000016,1000300025,1000200025] 78):=⟨_,by cbv⟩
def zFq:Cd:=lit (bdF p78.v 0 [])
def zut:Cd:=zFq
def g78F (c0:Cd):Fn:=lit (fnF p78.v [c0])
def g78:Fn:=g78F zut
theorem cmp78:zaj Tryz.prog .keep [1000016,1000300025,1000200025] 78=some g78:=p78.h.trans (by kernel_rfl)
def p80:Lit (zaj Tryz.prog .lit [1000016,1001100056] 80):=⟨_,by cbv⟩
def g80F:Fn:=lit (fnF p80.v [])
def g80:Fn:=g80F
theorem cmp80:zaj Tryz.prog .lit [1000016,1001100056] 80=some g80:=p80.h.trans (by kernel_rfl)
def p82:Lit (zaj Tryz.prog .lit [1000016,1001100056] 82):=⟨_,by cbv⟩
def g82F:Fn:=lit (fnF p82.v [])
def g82:Fn:=g82F
theorem cmp82:zaj Tryz.prog .lit [1000016,1001100056] 82=some g82:=p82.h.trans (by kernel_rfl)
def p83:Lit (zaj Tryz.prog .lit [1000016] 83):=⟨_,by cbv⟩
def zFr:Cd:=lit (bdF p83.v 0 [])
def zuu:Cd:=zFr
def g83F (c0:Cd):Fn:=lit (fnF p83.v [c0])
def g83:Fn:=g83F zuu
theorem cmp83:zaj Tryz.prog .lit [1000016] 83=some g83:=p83.h.trans (by kernel_rfl)
def p84:Lit (zaj Tryz.prog .lit [1000016] 84):=⟨_,by cbv⟩
def zFs:Cd:=lit (bdF p84.v 0 [])
def zuv:Cd:=zFs
def g84F (c0:Cd):Fn:=lit (fnF p84.v [c0])
def g84:Fn:=g84F zuv
theorem cmp84:zaj Tryz.prog .lit [1000016] 84=some g84:=p84.h.trans (by kernel_rfl)
def p85:Lit (zaj Tryz.prog .lit [1000016] 85):=⟨_,by cbv⟩
def zFt:Cd:=lit (bdF p85.v 0 [])
def zuw:Cd:=zFt
def g85F (c0:Cd):Fn:=lit (fnF p85.v [c0])
def g85:Fn:=g85F zuw
theorem cmp85:zaj Tryz.prog .lit [1000016] 85=some g85:=p85.h.trans (by kernel_rfl)
def p86:Lit (zaj Tryz.prog .lit [1000016,1000300009,1000200009] 86):=⟨_,by cbv⟩
def zFu:Cd:=lit (bdF p86.v 0 [])
def zux:Cd:=zFu
def g86F (c0:Cd):Fn:=lit (fnF p86.v [c0])
def g86:Fn:=g86F zux
theorem cmp86:zaj Tryz.prog .lit [1000016,1000300009,1000200009] 86=some g86:=p86.h.trans (by kernel_rfl)
def p87:Lit (zaj Tryz.prog .lit [1000016,1000500056] 87):=⟨_,by cbv⟩
def g87F:Fn:=lit (fnF p87.v [])
def g87:Fn:=g87F
theorem cmp87:zaj Tryz.prog .lit [1000016,1000500056] 87=some g87:=p87.h.trans (by kernel_rfl)
def p88:Lit (zaj Tryz.prog .lit [1000016] 88):=⟨_,by cbv⟩
def g88F:Fn:=lit (fnF p88.v [])
def g88:Fn:=g88F
theorem cmp88:zaj Tryz.prog .lit [1000016] 88=some g88:=p88.h.trans (by kernel_rfl)
def p91:Lit (zaj Tryz.prog .lit [1000016] 91):=⟨_,by cbv⟩
def g91F:Fn:=lit (fnF p91.v [])
def g91:Fn:=g91F
theorem cmp91:zaj Tryz.prog .lit [1000016] 91=some g91:=p91.h.trans (by kernel_rfl)
def p95:Lit (zaj Tryz.prog .mv [1000016,9,40000000900084,100000225600113] 95):=⟨_,by cbv⟩
def zFw:Cd:=lit (bdF p95.v 0 [])
def zzr:Cd:=zFw
def g95F (c0:Cd):Fn:=lit (fnF p95.v [c0])
def g95:Fn:=g95F zzr
theorem cmp95:zaj Tryz.prog .mv [1000016,9,40000000900084,100000225600113] 95=some g95:=p95.h.trans (by kernel_rfl)
def p96:Lit (zaj Tryz.prog .mv [1000016] 96):=⟨_,by cbv⟩
def g96F:Fn:=lit (fnF p96.v [])
def g96:Fn:=g96F
theorem cmp96:zaj Tryz.prog .mv [1000016] 96=some g96:=p96.h.trans (by kernel_rfl)
def p97:Lit (zaj Tryz.prog .mv [1000016,1000300056] 97):=⟨_,by cbv⟩
def g97F:Fn:=lit (fnF p97.v [])
def g97:Fn:=g97F
theorem cmp97:zaj Tryz.prog .mv [1000016,1000300056] 97=some g97:=p97.h.trans (by kernel_rfl)
def p98:Lit (zaj Tryz.prog .lit [1000016] 98):=⟨_,by cbv⟩
def g98F:Fn:=lit (fnF p98.v [])
def g98:Fn:=g98F
theorem cmp98:zaj Tryz.prog .lit [1000016] 98=some g98:=p98.h.trans (by kernel_rfl)
def p99:Lit (zaj Tryz.prog .lit [1000016] 99):=⟨_,by cbv⟩
def g99F:Fn:=lit (fnF p99.v [])
def g99:Fn:=g99F
theorem cmp99:zaj Tryz.prog .lit [1000016] 99=some g99:=p99.h.trans (by kernel_rfl)
def p109:Lit (zaj Tryz.prog .mv [1000016] 109):=⟨_,by cbv⟩
def zH7:Fn:=lit (fnF p109.v [])
def g109:Fn:=zH7
theorem zKz:zaj Tryz.prog .mv [1000016] 109=some g109:=p109.h.trans (by kernel_rfl)
def p110:Lit (zaj Tryz.prog .lit [1000016] 110):=⟨_,by cbv⟩
def zH8:Fn:=lit (fnF p110.v [])
def g110:Fn:=zH8
theorem zKA:zaj Tryz.prog .lit [1000016] 110=some g110:=p110.h.trans (by kernel_rfl)
def p111:Lit (zaj Tryz.prog .lit [1000016,1000500056] 111):=⟨_,by cbv⟩
def zH9:Fn:=lit (fnF p111.v [])
def g111:Fn:=zH9
theorem zKB:zaj Tryz.prog .lit [1000016,1000500056] 111=some g111:=p111.h.trans (by kernel_rfl)
def p112:Lit (zaj Tryz.prog .mv [1000016] 112):=⟨_,by cbv⟩
def zCk:Cd:=lit (bdF p112.v 0 [])
def zvY:Cd:=zCk
def zCl (c0:Cd):Cd:=lit (bdF p112.v 1 [c0])
def zvZ:Cd:=zCl zvY
def zCm (c1:Cd):Cd:=lit (bdF p112.v 2 [.skip,c1])
def zv0:Cd:=zCm zvZ
def zIa (c2:Cd):Fn:=lit (fnF p112.v [.skip,.skip,c2])
def g112:Fn:=zIa zv0
theorem zKC:zaj Tryz.prog .mv [1000016] 112=some g112:=p112.h.trans (by kernel_rfl)
def p113:Lit (zaj Tryz.prog .mv [1000016] 113):=⟨_,by cbv⟩
def zIb:Fn:=lit (fnF p113.v [])
def g113:Fn:=zIb
theorem zKD:zaj Tryz.prog .mv [1000016] 113=some g113:=p113.h.trans (by kernel_rfl)
def p114:Lit (zaj Tryz.prog .lit [1000016,1000700056] 114):=⟨_,by cbv⟩
def zCn:Cd:=lit (bdF p114.v 0 [])
def zv1:Cd:=zCn
def zIc (c0:Cd):Fn:=lit (fnF p114.v [c0])
def g114:Fn:=zIc zv1
theorem zKE:zaj Tryz.prog .lit [1000016,1000700056] 114=some g114:=p114.h.trans (by kernel_rfl)
def p115:Lit (zaj Tryz.prog .lit [1000016,1000700056,1001300084] 115):=⟨_,by cbv⟩
def zCo:Cd:=lit (bdF p115.v 0 [])
def zp0:Cd:=zCo
def zCp (c0:Cd):Cd:=lit (bdF p115.v 1 [c0])
def zv2:Cd:=zCp zp0
def zId (c1:Cd):Fn:=lit (fnF p115.v [.skip,c1])
def g115:Fn:=zId zv2
theorem zKF:zaj Tryz.prog .lit [1000016,1000700056,1001300084] 115=some g115:=p115.h.trans (by kernel_rfl)
end Go.Ab.Tryz
