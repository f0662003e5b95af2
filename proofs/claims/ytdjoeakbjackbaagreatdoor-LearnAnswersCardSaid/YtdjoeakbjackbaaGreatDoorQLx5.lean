/- Our texts for this statement, merged: what its theorem leads to. -/
import Derived.Test.YtdjoeakbjackbaaGreatDoorQLx3
set_option linter.unusedVariables false
set_option linter.unusedSimpArgs false
noncomputable section
namespace Go.Ab.Tryz
open Go Go.Proofs
set_option maxRecDepth 100000
set_option maxHeartbeats 4000000
def p52:Lit (zae Tryz.prog .lit [1000016,1001000055,1000600055] 52):=⟨_,by cbv⟩
def zHT:Cd:=lit (bdF p52.v 0 [])
def zBC:Cd:=zHT
def zHU:Cd:=lit (bdF p52.v 1 [])
def zwi:Cd:=zHU
def zHV:Cd:=lit (bdF p52.v 2 [])
def zBD:Cd:=zHV
def zHW(c1:Cd)(c2:Cd):Cd:=lit (bdF p52.v 3 [.skip,c1,c2])
def zBE:Cd:=zHW zwi zBD
def g52F(c0:Cd)(c3:Cd):Fn:=lit (fnF p52.v [c0,.skip,.skip,c3])
def g52:Fn:=g52F zBC zBE
theorem cmp52:zae Tryz.prog .lit [1000016,1001000055,1000600055] 52=some g52:=p52.h.trans (by kernel_rfl)
def p53:Lit (zae Tryz.prog .lit [1000016,1000700078] 53):=⟨_,by cbv⟩
def zHX:Cd:=lit (bdF p53.v 0 [])
def zBF:Cd:=zHX
def zHY(c0:Cd):Cd:=lit (bdF p53.v 1 [c0])
def zBG:Cd:=zHY zBF
def zHZ(c1:Cd):Cd:=lit (bdF p53.v 2 [.skip,c1])
def zwj:Cd:=zHZ zBG
def zH0(c2:Cd):Cd:=lit (bdF p53.v 3 [.skip,.skip,c2])
def zBH:Cd:=zH0 zwj
def g53F(c3:Cd):Fn:=lit (fnF p53.v [.skip,.skip,.skip,c3])
def g53:Fn:=g53F zBH
theorem cmp53:zae Tryz.prog .lit [1000016,1000700078] 53=some g53:=p53.h.trans (by kernel_rfl)
def p54:Lit (zae Tryz.prog .lit [1000016,1000700078] 54):=⟨_,by cbv⟩
def zH1:Cd:=lit (bdF p54.v 0 [])
def zBI:Cd:=zH1
def zH2:Cd:=lit (bdF p54.v 1 [])
def zBJ:Cd:=zH2
def zH3(c1:Cd):Cd:=lit (bdF p54.v 2 [.skip,c1])
def zBK:Cd:=zH3 zBJ
def zH4(c0:Cd)(c2:Cd):Cd:=lit (bdF p54.v 3 [c0,.skip,c2])
def zBL:Cd:=zH4 zBI zBK
def g54F(c3:Cd):Fn:=lit (fnF p54.v [.skip,.skip,.skip,c3])
def g54:Fn:=g54F zBL
theorem cmp54:zae Tryz.prog .lit [1000016,1000700078] 54=some g54:=p54.h.trans (by kernel_rfl)
def p55:Lit (zae Tryz.prog .lit [1000016] 55):=⟨_,by cbv⟩
def zH5:Cd:=lit (bdF p55.v 0 [])
def zwk:Cd:=zH5
def g55F(c0:Cd):Fn:=lit (fnF p55.v [c0])
def g55:Fn:=g55F zwk
theorem cmp55:zae Tryz.prog .lit [1000016] 55=some g55:=p55.h.trans (by kernel_rfl)
def p56:Lit (zae Tryz.prog .lit [1000016] 56):=⟨_,by cbv⟩
def zH6:Cd:=lit (bdF p56.v 0 [])
def zwl:Cd:=zH6
def g56F(c0:Cd):Fn:=lit (fnF p56.v [c0])
def g56:Fn:=g56F zwl
theorem cmp56:zae Tryz.prog .lit [1000016] 56=some g56:=p56.h.trans (by kernel_rfl)
def p57:Lit (zae Tryz.prog .lit [1000016] 57):=⟨_,by cbv⟩
def zH7:Cd:=lit (bdF p57.v 0 [])
def zwm:Cd:=zH7
def g57F(c0:Cd):Fn:=lit (fnF p57.v [c0])
def g57:Fn:=g57F zwm
theorem cmp57:zae Tryz.prog .lit [1000016] 57=some g57:=p57.h.trans (by kernel_rfl)
def p58:Lit (zae Tryz.prog .lit [1000016] 58):=⟨_,by cbv⟩
def zH8:Cd:=lit (bdF p58.v 0 [])
def zwn:Cd:=zH8
def g58F(c0:Cd):Fn:=lit (fnF p58.v [c0])
def g58:Fn:=g58F zwn
theorem cmp58:zae Tryz.prog .lit [1000016] 58=some g58:=p58.h.trans (by kernel_rfl)
def p59:Lit (zae Tryz.prog .lit [1000016] 59):=⟨_,by cbv⟩
def zH9:Cd:=lit (bdF p59.v 0 [])
def zwo:Cd:=zH9
def zIa:Cd:=lit (bdF p59.v 1 [])
def zwp:Cd:=zIa
def zIb(c0:Cd)(c1:Cd):Cd:=lit (bdF p59.v 2 [c0,c1])
def zBM:Cd:=zIb zwo zwp
def g59F(c2:Cd):Fn:=lit (fnF p59.v [.skip,.skip,c2])
def g59:Fn:=g59F zBM
theorem cmp59:zae Tryz.prog .lit [1000016] 59=some g59:=p59.h.trans (by kernel_rfl)
def p60:Lit (zae Tryz.prog .lit [1000016] 60):=⟨_,by cbv⟩
def g60F:Fn:=lit (fnF p60.v [])
def g60:Fn:=g60F
theorem cmp60:zae Tryz.prog .lit [1000016] 60=some g60:=p60.h.trans (by kernel_rfl)
def p61:Lit (zae Tryz.prog .lit [1000016,1000400055] 61):=⟨_,by cbv⟩
def zIc:Cd:=lit (bdF p61.v 0 [])
def zBN:Cd:=zIc
def g61F(c0:Cd):Fn:=lit (fnF p61.v [c0])
def g61:Fn:=g61F zBN
theorem cmp61:zae Tryz.prog .lit [1000016,1000400055] 61=some g61:=p61.h.trans (by kernel_rfl)
def p62:Lit (zae Tryz.prog .lit [1000016,1000400082] 62):=⟨_,by cbv⟩
def g62F:Fn:=lit (fnF p62.v [])
def g62:Fn:=g62F
theorem cmp62:zae Tryz.prog .lit [1000016,1000400082] 62=some g62:=p62.h.trans (by kernel_rfl)
def p63:Lit (zae Tryz.prog .keep [1000016,1000400055] 63):=⟨_,by cbv⟩
def g63F:Fn:=lit (fnF p63.v [])
def g63:Fn:=g63F
theorem cmp63:zae Tryz.prog .keep [1000016,1000400055] 63=some g63:=p63.h.trans (by kernel_rfl)
def p64:Lit (zae Tryz.prog .lit [1000016,21,1000700078] 64):=⟨_,by cbv⟩
def g64F:Fn:=lit (fnF p64.v [])
def g64:Fn:=g64F
theorem cmp64:zae Tryz.prog .lit [1000016,21,1000700078] 64=some g64:=p64.h.trans (by kernel_rfl)
def p66:Lit (zae Tryz.prog .lit [1000016] 66):=⟨_,by cbv⟩
def zId:Cd:=lit (bdF p66.v 0 [])
def zwq:Cd:=zId
def g66F(c0:Cd):Fn:=lit (fnF p66.v [c0])
def g66:Fn:=g66F zwq
theorem cmp66:zae Tryz.prog .lit [1000016] 66=some g66:=p66.h.trans (by kernel_rfl)
def p68:Lit (zae Tryz.prog .lit [1000016,1000500055,1000400055] 68):=⟨_,by cbv⟩
def zIe:Cd:=lit (bdF p68.v 0 [])
def zwr:Cd:=zIe
def g68F(c0:Cd):Fn:=lit (fnF p68.v [c0])
def g68:Fn:=g68F zwr
theorem cmp68:zae Tryz.prog .lit [1000016,1000500055,1000400055] 68=some g68:=p68.h.trans (by kernel_rfl)
def p70:Lit (zae Tryz.prog .lit [1000016] 70):=⟨_,by cbv⟩
def g70F:Fn:=lit (fnF p70.v [])
def g70:Fn:=g70F
theorem cmp70:zae Tryz.prog .lit [1000016] 70=some g70:=p70.h.trans (by kernel_rfl)
def p71:Lit (zae Tryz.prog .lit [1000200] 71):=⟨_,by cbv⟩
def g71F:Fn:=lit (fnF p71.v [])
def g71:Fn:=g71F
theorem cmp71:zae Tryz.prog .lit [1000200] 71=some g71:=p71.h.trans (by kernel_rfl)
def p72:Lit (zae Tryz.prog .lit [1000016] 72):=⟨_,by cbv⟩
def g72F:Fn:=lit (fnF p72.v [])
def g72:Fn:=g72F
theorem cmp72:zae Tryz.prog .lit [1000016] 72=some g72:=p72.h.trans (by kernel_rfl)
def p73:Lit (zae Tryz.prog .lit [1000016,1001100078] 73):=⟨_,by cbv⟩
def g73F:Fn:=lit (fnF p73.v [])
def g73:Fn:=g73F
theorem cmp73:zae Tryz.prog .lit [1000016,1001100078] 73=some g73:=p73.h.trans (by kernel_rfl)
def p74:Lit (zae Tryz.prog .lit [1000016] 74):=⟨_,by cbv⟩
def zIf:Cd:=lit (bdF p74.v 0 [])
def zws:Cd:=zIf
def g74F(c0:Cd):Fn:=lit (fnF p74.v [c0])
def g74:Fn:=g74F zws
theorem cmp74:zae Tryz.prog .lit [1000016] 74=some g74:=p74.h.trans (by kernel_rfl)
def p75:Lit (zae Tryz.prog .lit [1000016,1001100078] 75):=⟨_,by cbv⟩
def g75F:Fn:=lit (fnF p75.v [])
def g75:Fn:=g75F
theorem cmp75:zae Tryz.prog .lit [1000016,1001100078] 75=some g75:=p75.h.trans (by kernel_rfl)
end Go.Ab.Tryz
