/- Our texts for this statement, merged: what its theorem leads to. -/
import Derived.Test.YtdjoeakbjackbaaGreatDoorQLm3
set_option linter.unusedVariables false
set_option linter.unusedSimpArgs false
noncomputable section
namespace Go.Ab.Tryz
open Go Go.Proofs
set_option maxRecDepth 100000
set_option maxHeartbeats 4000000
def p253:Lit (zac Tryz.prog .lit [1000016] 253):=⟨_,by cbv⟩
def zBi:Cd:=lit (bdF p253.v 0 [])
def zo3:Cd:=zBi
def zHw(c0:Cd):Fn:=lit (fnF p253.v [c0])
def g253:Fn:=zHw zo3
theorem zKl:zac Tryz.prog .lit [1000016] 253=some g253:=p253.h.trans (by kernel_rfl)
def p254:Lit (zac Tryz.prog .lit [1000016] 254):=⟨_,by cbv⟩
def zBj:Cd:=lit (bdF p254.v 0 [])
def zo4:Cd:=zBj
def zHx(c0:Cd):Fn:=lit (fnF p254.v [c0])
def g254:Fn:=zHx zo4
theorem zKm:zac Tryz.prog .lit [1000016] 254=some g254:=p254.h.trans (by kernel_rfl)
def p256:Lit (zac Tryz.prog .lit [1000016] 256):=⟨_,by cbv⟩
def zHy:Fn:=lit (fnF p256.v [])
def g256:Fn:=zHy
theorem zKn:zac Tryz.prog .lit [1000016] 256=some g256:=p256.h.trans (by kernel_rfl)
def p257:Lit (zac Tryz.prog .keep [1000016] 257):=⟨_,by cbv⟩
def zHz:Fn:=lit (fnF p257.v [])
def g257:Fn:=zHz
theorem zKo:zac Tryz.prog .keep [1000016] 257=some g257:=p257.h.trans (by kernel_rfl)
def p258:Lit (zac Tryz.prog .mv [1000016] 258):=⟨_,by cbv⟩
def zCj:Fn:=lit (fnF p258.v [])
def g258:Fn:=zCj
theorem zKp:zac Tryz.prog .mv [1000016] 258=some g258:=p258.h.trans (by kernel_rfl)
def p259:Lit (zac Tryz.prog .mv [1000016] 259):=⟨_,by cbv⟩
def zHA:Fn:=lit (fnF p259.v [])
def g259:Fn:=zHA
theorem zKq:zac Tryz.prog .mv [1000016] 259=some g259:=p259.h.trans (by kernel_rfl)
def p260:Lit (zac Tryz.prog .lit [1000016,1000600082] 260):=⟨_,by cbv⟩
def zBk:Cd:=lit (bdF p260.v 0 [])
def zu2:Cd:=zBk
def zHB(c0:Cd):Fn:=lit (fnF p260.v [c0])
def g260:Fn:=zHB zu2
theorem zKr:zac Tryz.prog .lit [1000016,1000600082] 260=some g260:=p260.h.trans (by kernel_rfl)
def p261:Lit (zac Tryz.prog .lit [1000016] 261):=⟨_,by cbv⟩
def zHC:Fn:=lit (fnF p261.v [])
def g261:Fn:=zHC
theorem zKs:zac Tryz.prog .lit [1000016] 261=some g261:=p261.h.trans (by kernel_rfl)
def p262:Lit (zac Tryz.prog .mv [1000016,1000600057] 262):=⟨_,by cbv⟩
def zHD:Fn:=lit (fnF p262.v [])
def g262:Fn:=zHD
theorem zKt:zac Tryz.prog .mv [1000016,1000600057] 262=some g262:=p262.h.trans (by kernel_rfl)
def p263:Lit (zac Tryz.prog .lit [1000016] 263):=⟨_,by cbv⟩
def zBl:Cd:=lit (bdF p263.v 0 [])
def zo5:Cd:=zBl
def zHE(c0:Cd):Fn:=lit (fnF p263.v [c0])
def g263:Fn:=zHE zo5
theorem zKu:zac Tryz.prog .lit [1000016] 263=some g263:=p263.h.trans (by kernel_rfl)
def p264:Lit (zac Tryz.prog .lit [1000016] 264):=⟨_,by cbv⟩
def zHF:Fn:=lit (fnF p264.v [])
def g264:Fn:=zHF
theorem zKv:zac Tryz.prog .lit [1000016] 264=some g264:=p264.h.trans (by kernel_rfl)
def p271:Lit (zac Tryz.prog .lit [1000016] 271):=⟨_,by cbv⟩
def zBm:Cd:=lit (bdF p271.v 0 [])
def zo6:Cd:=zBm
def zHG(c0:Cd):Fn:=lit (fnF p271.v [c0])
def g271:Fn:=zHG zo6
theorem zKy:zac Tryz.prog .lit [1000016] 271=some g271:=p271.h.trans (by kernel_rfl)
def p272:Lit (zac Tryz.prog .lit [1000016] 272):=⟨_,by cbv⟩
def zBn:Cd:=lit (bdF p272.v 0 [])
def zo7:Cd:=zBn
def zHH(c0:Cd):Fn:=lit (fnF p272.v [c0])
def g272:Fn:=zHH zo7
theorem zKz:zac Tryz.prog .lit [1000016] 272=some g272:=p272.h.trans (by kernel_rfl)
def p273:Lit (zac Tryz.prog .lit [1000016] 273):=⟨_,by cbv⟩
def zBo:Cd:=lit (bdF p273.v 0 [])
def zo8:Cd:=zBo
def zHI(c0:Cd):Fn:=lit (fnF p273.v [c0])
def g273:Fn:=zHI zo8
theorem zKA:zac Tryz.prog .lit [1000016] 273=some g273:=p273.h.trans (by kernel_rfl)
def p275:Lit (zac Tryz.prog .lit [1000016] 275):=⟨_,by cbv⟩
def zHJ:Fn:=lit (fnF p275.v [])
def g275:Fn:=zHJ
theorem zKB:zac Tryz.prog .lit [1000016] 275=some g275:=p275.h.trans (by kernel_rfl)
def p277:Lit (zac Tryz.prog .lit [1000016] 277):=⟨_,by cbv⟩
def zBp:Cd:=lit (bdF p277.v 0 [])
def zu3:Cd:=zBp
def zBq:Cd:=lit (bdF p277.v 1 [])
def zu4:Cd:=zBq
def zBr(c1:Cd):Cd:=lit (bdF p277.v 2 [.skip,c1])
def zu5:Cd:=zBr zu4
def zBs(c0:Cd)(c2:Cd):Cd:=lit (bdF p277.v 3 [c0,.skip,c2])
def zu6:Cd:=zBs zu3 zu5
def zHK(c3:Cd):Fn:=lit (fnF p277.v [.skip,.skip,.skip,c3])
def g277:Fn:=zHK zu6
theorem zKC:zac Tryz.prog .lit [1000016] 277=some g277:=p277.h.trans (by kernel_rfl)
def p278:Lit (zac Tryz.prog .lit [1000016] 278):=⟨_,by cbv⟩
def zBt:Cd:=lit (bdF p278.v 0 [])
def zu7:Cd:=zBt
def zBu(c0:Cd):Cd:=lit (bdF p278.v 1 [c0])
def zo9:Cd:=zBu zu7
def zHL(c1:Cd):Fn:=lit (fnF p278.v [.skip,c1])
def g278:Fn:=zHL zo9
theorem zKD:zac Tryz.prog .lit [1000016] 278=some g278:=p278.h.trans (by kernel_rfl)
def p280:Lit (zac Tryz.prog .lit [1000016] 280):=⟨_,by cbv⟩
def zHM:Fn:=lit (fnF p280.v [])
def g280:Fn:=zHM
theorem zKE:zac Tryz.prog .lit [1000016] 280=some g280:=p280.h.trans (by kernel_rfl)
def p281:Lit (zac Tryz.prog .lit [1000016] 281):=⟨_,by cbv⟩
def zHN:Fn:=lit (fnF p281.v [])
def g281:Fn:=zHN
theorem zKF:zac Tryz.prog .lit [1000016] 281=some g281:=p281.h.trans (by kernel_rfl)
def p283:Lit (zac Tryz.prog .lit [1000016] 283):=⟨_,by cbv⟩
def zHO:Fn:=lit (fnF p283.v [])
def g283:Fn:=zHO
theorem zKG:zac Tryz.prog .lit [1000016] 283=some g283:=p283.h.trans (by kernel_rfl)
def p288:Lit (zac Tryz.prog .lit [1000016] 288):=⟨_,by cbv⟩
def zHP:Fn:=lit (fnF p288.v [])
def g288:Fn:=zHP
theorem zKH:zac Tryz.prog .lit [1000016] 288=some g288:=p288.h.trans (by kernel_rfl)
def p291:Lit (zac Tryz.prog .lit [1000016] 291):=⟨_,by cbv⟩
def zHQ:Fn:=lit (fnF p291.v [])
def g291:Fn:=zHQ
theorem zKI:zac Tryz.prog .lit [1000016] 291=some g291:=p291.h.trans (by kernel_rfl)
end Go.Ab.Tryz
