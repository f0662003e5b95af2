/- Our texts for this statement, merged: what its theorem leads to. -/
import Derived.Test.YtdjoeakbjackbaaGreatDoorQLm3
set_option linter.unusedVariables false
set_option linter.unusedSimpArgs false
noncomputable section
namespace Go.Ab.Tryz
open Go Go.Proofs
set_option maxRecDepth 100000
set_option maxHeartbeats 4000000
def p59:Lit (zac Tryz.prog .lit [1000016] 59):=⟨_,by cbv⟩
def zDA:Cd:=lit (bdF p59.v 0 [])
def zs8:Cd:=zDA
def zDB:Cd:=lit (bdF p59.v 1 [])
def zs9:Cd:=zDB
def zDC(c0:Cd)(c1:Cd):Cd:=lit (bdF p59.v 2 [c0,c1])
def zxT:Cd:=zDC zs8 zs9
def g59F(c2:Cd):Fn:=lit (fnF p59.v [.skip,.skip,c2])
def g59:Fn:=g59F zxT
theorem cmp59:zac Tryz.prog .lit [1000016] 59=some g59:=p59.h.trans (by kernel_rfl)
def p60:Lit (zac Tryz.prog .lit [1000016] 60):=⟨_,by cbv⟩
def g60F:Fn:=lit (fnF p60.v [])
def g60:Fn:=g60F
theorem cmp60:zac Tryz.prog .lit [1000016] 60=some g60:=p60.h.trans (by kernel_rfl)
def p61:Lit (zac Tryz.prog .lit [1000016,1000400055] 61):=⟨_,by cbv⟩
def zDD:Cd:=lit (bdF p61.v 0 [])
def zxU:Cd:=zDD
def g61F(c0:Cd):Fn:=lit (fnF p61.v [c0])
def g61:Fn:=g61F zxU
theorem cmp61:zac Tryz.prog .lit [1000016,1000400055] 61=some g61:=p61.h.trans (by kernel_rfl)
def p62:Lit (zac Tryz.prog .lit [1000016,1000400082] 62):=⟨_,by cbv⟩
def g62F:Fn:=lit (fnF p62.v [])
def g62:Fn:=g62F
theorem cmp62:zac Tryz.prog .lit [1000016,1000400082] 62=some g62:=p62.h.trans (by kernel_rfl)
def p63:Lit (zac Tryz.prog .keep [1000016,1000400055] 63):=⟨_,by cbv⟩
def g63F:Fn:=lit (fnF p63.v [])
def g63:Fn:=g63F
theorem cmp63:zac Tryz.prog .keep [1000016,1000400055] 63=some g63:=p63.h.trans (by kernel_rfl)
def p64:Lit (zac Tryz.prog .lit [1000016,21,1000700078] 64):=⟨_,by cbv⟩
def g64F:Fn:=lit (fnF p64.v [])
def g64:Fn:=g64F
theorem cmp64:zac Tryz.prog .lit [1000016,21,1000700078] 64=some g64:=p64.h.trans (by kernel_rfl)
def p65:Lit (zac Tryz.prog .lit [1000016,1000600055,1000400055] 65):=⟨_,by cbv⟩
def zDE:Cd:=lit (bdF p65.v 0 [])
def zxV:Cd:=zDE
def zDF(c0:Cd):Cd:=lit (bdF p65.v 1 [c0])
def zxW:Cd:=zDF zxV
def zDG(c1:Cd):Cd:=lit (bdF p65.v 2 [.skip,c1])
def zta:Cd:=zDG zxW
def g65F(c2:Cd):Fn:=lit (fnF p65.v [.skip,.skip,c2])
def g65:Fn:=g65F zta
theorem cmp65:zac Tryz.prog .lit [1000016,1000600055,1000400055] 65=some g65:=p65.h.trans (by kernel_rfl)
def p66:Lit (zac Tryz.prog .lit [1000016] 66):=⟨_,by cbv⟩
def zDH:Cd:=lit (bdF p66.v 0 [])
def ztb:Cd:=zDH
def g66F(c0:Cd):Fn:=lit (fnF p66.v [c0])
def g66:Fn:=g66F ztb
theorem cmp66:zac Tryz.prog .lit [1000016] 66=some g66:=p66.h.trans (by kernel_rfl)
def p67:Lit (zac Tryz.prog .lit [1000016,1000500082,1000400082] 67):=⟨_,by cbv⟩
def zDI:Cd:=lit (bdF p67.v 0 [])
def ztc:Cd:=zDI
def g67F(c0:Cd):Fn:=lit (fnF p67.v [c0])
def g67:Fn:=g67F ztc
theorem cmp67:zac Tryz.prog .lit [1000016,1000500082,1000400082] 67=some g67:=p67.h.trans (by kernel_rfl)
def p68:Lit (zac Tryz.prog .lit [1000016,1000500055,1000400055] 68):=⟨_,by cbv⟩
def zDJ:Cd:=lit (bdF p68.v 0 [])
def ztd:Cd:=zDJ
def g68F(c0:Cd):Fn:=lit (fnF p68.v [c0])
def g68:Fn:=g68F ztd
theorem cmp68:zac Tryz.prog .lit [1000016,1000500055,1000400055] 68=some g68:=p68.h.trans (by kernel_rfl)
def p69:Lit (zac Tryz.prog .lit [1000016,1000700078] 69):=⟨_,by cbv⟩
def g69F:Fn:=lit (fnF p69.v [])
def g69:Fn:=g69F
theorem cmp69:zac Tryz.prog .lit [1000016,1000700078] 69=some g69:=p69.h.trans (by kernel_rfl)
def p70:Lit (zac Tryz.prog .lit [1000016] 70):=⟨_,by cbv⟩
def g70F:Fn:=lit (fnF p70.v [])
def g70:Fn:=g70F
theorem cmp70:zac Tryz.prog .lit [1000016] 70=some g70:=p70.h.trans (by kernel_rfl)
def p71:Lit (zac Tryz.prog .lit [1000200] 71):=⟨_,by cbv⟩
def g71F:Fn:=lit (fnF p71.v [])
def g71:Fn:=g71F
theorem cmp71:zac Tryz.prog .lit [1000200] 71=some g71:=p71.h.trans (by kernel_rfl)
def p72:Lit (zac Tryz.prog .lit [1000016] 72):=⟨_,by cbv⟩
def g72F:Fn:=lit (fnF p72.v [])
def g72:Fn:=g72F
theorem cmp72:zac Tryz.prog .lit [1000016] 72=some g72:=p72.h.trans (by kernel_rfl)
def p73:Lit (zac Tryz.prog .lit [1000016,1001100078] 73):=⟨_,by cbv⟩
def g73F:Fn:=lit (fnF p73.v [])
def g73:Fn:=g73F
theorem cmp73:zac Tryz.prog .lit [1000016,1001100078] 73=some g73:=p73.h.trans (by kernel_rfl)
def p74:Lit (zac Tryz.prog .lit [1000016] 74):=⟨_,by cbv⟩
def zDK:Cd:=lit (bdF p74.v 0 [])
def zte:Cd:=zDK
def g74F(c0:Cd):Fn:=lit (fnF p74.v [c0])
def g74:Fn:=g74F zte
theorem cmp74:zac Tryz.prog .lit [1000016] 74=some g74:=p74.h.trans (by kernel_rfl)
def p75:Lit (zac Tryz.prog .lit [1000016,1001100078] 75):=⟨_,by cbv⟩
def g75F:Fn:=lit (fnF p75.v [])
def g75:Fn:=g75F
theorem cmp75:zac Tryz.prog .lit [1000016,1001100078] 75=some g75:=p75.h.trans (by kernel_rfl)
def p76:Lit (zac Tryz.prog .lit [1000016] 76):=⟨_,by cbv⟩
def g76F:Fn:=lit (fnF p76.v [])
def g76:Fn:=g76F
theorem cmp76:zac Tryz.prog .lit [1000016] 76=some g76:=p76.h.trans (by kernel_rfl)
def p77:Lit (zac Tryz.prog .lit [1000016] 77):=⟨_,by cbv⟩
def zu8:Cd:=lit (bdF p77.v 0 [])
def zeU:Cd:=zu8
def g77F(c0:Cd):Fn:=lit (fnF p77.v [c0])
def g77:Fn:=g77F zeU
theorem cmp77:zac Tryz.prog .lit [1000016] 77=some g77:=p77.h.trans (by kernel_rfl)
def p78:Lit (zac Tryz.prog .lit [1000016] 78):=⟨_,by cbv⟩
def g78F:Fn:=lit (fnF p78.v [])
def g78:Fn:=g78F
theorem cmp78:zac Tryz.prog .lit [1000016] 78=some g78:=p78.h.trans (by kernel_rfl)
def p79:Lit (zac Tryz.prog .lit [1000016] 79):=⟨_,by cbv⟩
def g79F:Fn:=lit (fnF p79.v [])
def g79:Fn:=g79F
theorem cmp79:zac Tryz.prog .lit [1000016] 79=some g79:=p79.h.trans (by kernel_rfl)
def p83:Lit (zac Tryz.prog .lit [1000016] 83):=⟨_,by cbv⟩
def g83F:Fn:=lit (fnF p83.v [])
def g83:Fn:=g83F
theorem cmp83:zac Tryz.prog .lit [1000016] 83=some g83:=p83.h.trans (by kernel_rfl)
def p92:Lit (zac Tryz.prog .keep [1000016,1000300025,1000200025] 92):=⟨_,by cbv⟩
def zDM:Cd:=lit (bdF p92.v 0 [])
def ztf:Cd:=zDM
def g92F(c0:Cd):Fn:=lit (fnF p92.v [c0])
def g92:Fn:=g92F ztf
theorem cmp92:zac Tryz.prog .keep [1000016,1000300025,1000200025] 92=some g92:=p92.h.trans (by kernel_rfl)
def p98:Lit (zac Tryz.prog .keep [1000016,1000200025] 98):=⟨_,by cbv⟩
def g98F:Fn:=lit (fnF p98.v [])
def g98:Fn:=g98F
theorem cmp98:zac Tryz.prog .keep [1000016,1000200025] 98=some g98:=p98.h.trans (by kernel_rfl)
def p99:Lit (zac Tryz.prog .lit [1000016,16,1001000078,1000900078] 99):=⟨_,by cbv⟩
def zDN:Cd:=lit (bdF p99.v 0 [])
def ztg:Cd:=zDN
def g99F(c0:Cd):Fn:=lit (fnF p99.v [c0])
def g99:Fn:=g99F ztg
theorem cmp99:zac Tryz.prog .lit [1000016,16,1001000078,1000900078] 99=some g99:=p99.h.trans (by kernel_rfl)
def p102:Lit (zac Tryz.prog .lit [1000016,1001000078,1000900078] 102):=⟨_,by cbv⟩
def zAG:Cd:=lit (bdF p102.v 0 [])
def zoG:Cd:=zAG
def zGA(c0:Cd):Fn:=lit (fnF p102.v [c0])
def g102:Fn:=zGA zoG
theorem zJe:zac Tryz.prog .lit [1000016,1001000078,1000900078] 102=some g102:=p102.h.trans (by kernel_rfl)
def p115:Lit (zac Tryz.prog .lit [1000016] 115):=⟨_,by cbv⟩
def g115F:Fn:=lit (fnF p115.v [])
def g115:Fn:=g115F
theorem zJf:zac Tryz.prog .lit [1000016] 115=some g115:=p115.h.trans (by kernel_rfl)
def p117:Lit (zac Tryz.prog .mv [1000016,9,40000000900082,100000225600157] 117):=⟨_,by cbv⟩
def zAH:Cd:=lit (bdF p117.v 0 [])
def zuK:Cd:=zAH
def zGB(c0:Cd):Fn:=lit (fnF p117.v [c0])
def g117:Fn:=zGB zuK
theorem zJg:zac Tryz.prog .mv [1000016,9,40000000900082,100000225600157] 117=some g117:=p117.h.trans (by kernel_rfl)
def p118:Lit (zac Tryz.prog .mv [1000016,1000300078] 118):=⟨_,by cbv⟩
def zCe:Fn:=lit (fnF p118.v [])
def g118:Fn:=zCe
theorem zJh:zac Tryz.prog .mv [1000016,1000300078] 118=some g118:=p118.h.trans (by kernel_rfl)
def p119:Lit (zac Tryz.prog .mv [1000016] 119):=⟨_,by cbv⟩
def zGC:Fn:=lit (fnF p119.v [])
def g119:Fn:=zGC
theorem zJi:zac Tryz.prog .mv [1000016] 119=some g119:=p119.h.trans (by kernel_rfl)
def p120:Lit (zac Tryz.prog .mv [1000016] 120):=⟨_,by cbv⟩
def zAI:Cd:=lit (bdF p120.v 0 [])
def zuL:Cd:=zAI
def zAJ(c0:Cd):Cd:=lit (bdF p120.v 1 [c0])
def zuM:Cd:=zAJ zuL
def zAK(c1:Cd):Cd:=lit (bdF p120.v 2 [.skip,c1])
def zuN:Cd:=zAK zuM
def zGD(c2:Cd):Fn:=lit (fnF p120.v [.skip,.skip,c2])
def g120:Fn:=zGD zuN
theorem zJj:zac Tryz.prog .mv [1000016] 120=some g120:=p120.h.trans (by kernel_rfl)
end Go.Ab.Tryz
