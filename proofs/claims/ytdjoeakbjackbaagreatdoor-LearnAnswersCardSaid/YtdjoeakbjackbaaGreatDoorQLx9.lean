/- Our texts for this statement, merged: what its theorem leads to. -/
import Derived.Test.YtdjoeakbjackbaaGreatDoorQLx3
set_option linter.unusedVariables false
set_option linter.unusedSimpArgs false
noncomputable section
namespace Go.Ab.Tryz
open Go Go.Proofs
set_option maxRecDepth 100000
set_option maxHeartbeats 4000000
def p278:Lit (zae Tryz.prog .lit [1000016] 278):=⟨_,by cbv⟩
def zFF:Cd:=lit (bdF p278.v 0 [])
def zyp:Cd:=zFF
def zFG(c0:Cd):Cd:=lit (bdF p278.v 1 [c0])
def zr3:Cd:=zFG zyp
def zMs(c1:Cd):Fn:=lit (fnF p278.v [.skip,c1])
def g278:Fn:=zMs zr3
theorem zPk:zae Tryz.prog .lit [1000016] 278=some g278:=p278.h.trans (by kernel_rfl)
def p280:Lit (zae Tryz.prog .lit [1000016] 280):=⟨_,by cbv⟩
def zMt:Fn:=lit (fnF p280.v [])
def g280:Fn:=zMt
theorem zPl:zae Tryz.prog .lit [1000016] 280=some g280:=p280.h.trans (by kernel_rfl)
def p281:Lit (zae Tryz.prog .lit [1000016] 281):=⟨_,by cbv⟩
def zMu:Fn:=lit (fnF p281.v [])
def g281:Fn:=zMu
theorem zPm:zae Tryz.prog .lit [1000016] 281=some g281:=p281.h.trans (by kernel_rfl)
def p283:Lit (zae Tryz.prog .lit [1000016] 283):=⟨_,by cbv⟩
def zMv:Fn:=lit (fnF p283.v [])
def g283:Fn:=zMv
theorem zPn:zae Tryz.prog .lit [1000016] 283=some g283:=p283.h.trans (by kernel_rfl)
def p286:Lit (zae Tryz.prog .lit [1000016] 286):=⟨_,by cbv⟩
def g286F:Fn:=lit (fnF p286.v [])
def g286:Fn:=g286F
theorem zPo:zae Tryz.prog .lit [1000016] 286=some g286:=p286.h.trans (by kernel_rfl)
def p287:Lit (zae Tryz.prog .lit [1000016] 287):=⟨_,by cbv⟩
def g287F:Fn:=lit (fnF p287.v [])
def g287:Fn:=g287F
theorem zPp:zae Tryz.prog .lit [1000016] 287=some g287:=p287.h.trans (by kernel_rfl)
def p288:Lit (zae Tryz.prog .lit [1000016] 288):=⟨_,by cbv⟩
def zMw:Fn:=lit (fnF p288.v [])
def g288:Fn:=zMw
theorem zPq:zae Tryz.prog .lit [1000016] 288=some g288:=p288.h.trans (by kernel_rfl)
def p291:Lit (zae Tryz.prog .lit [1000016] 291):=⟨_,by cbv⟩
def zMx:Fn:=lit (fnF p291.v [])
def g291:Fn:=zMx
theorem zPr:zae Tryz.prog .lit [1000016] 291=some g291:=p291.h.trans (by kernel_rfl)
end Go.Ab.Tryz
