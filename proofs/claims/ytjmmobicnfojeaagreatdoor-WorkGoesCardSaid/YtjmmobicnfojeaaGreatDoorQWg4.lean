/- Our texts for this statement, merged: what its theorem leads to. -/
import Derived.Test.YtjmmobicnfojeaaGreatDoorQWg3
set_option linter.unusedVariables false
set_option linter.unusedSimpArgs false
noncomputable section
namespace Go.Ab.Tryz
open Go Go.Proofs
set_option maxRecDepth 100000
set_option maxHeartbeats 4000000
def p10:Lit (zaj Tryz.prog .lit [1000016] 10):=⟨_,by cbv⟩
def zEM:Cd:=lit (bdF p10.v 0 [])
def zy5:Cd:=zEM
def zEN (c0:Cd):Cd:=lit (bdF p10.v 1 [c0])
def zy6:Cd:=zEN zy5
def g10F (c1:Cd):Fn:=lit (fnF p10.v [.skip,c1])
def g10:Fn:=g10F zy6
theorem cmp10:zaj Tryz.prog .lit [1000016] 10=some g10:=p10.h.trans (by kernel_rfl)
def p11:Lit (zaj Tryz.prog .lit [1000016] 11):=⟨_,by cbv⟩
def zEO:Cd:=lit (bdF p11.v 0 [])
def zt9:Cd:=zEO
def zEP:Cd:=lit (bdF p11.v 1 [])
def zua:Cd:=zEP
def zEQ (c0:Cd) (c1:Cd):Cd:=lit (bdF p11.v 2 [c0,c1])
def zy7:Cd:=zEQ zt9 zua
def g11F (c2:Cd):Fn:=lit (fnF p11.v [.skip,.skip,c2])
def g11:Fn:=g11F zy7
theorem cmp11:zaj Tryz.prog .lit [1000016] 11=some g11:=p11.h.trans (by kernel_rfl)
def p12:Lit (zaj Tryz.prog .lit [1000016] 12):=⟨_,by cbv⟩
def zER:Cd:=lit (bdF p12.v 0 [])
def zub:Cd:=zER
def g12F (c0:Cd):Fn:=lit (fnF p12.v [c0])
def g12:Fn:=g12F zub
theorem cmp12:zaj Tryz.prog .lit [1000016] 12=some g12:=p12.h.trans (by kernel_rfl)
def p14:Lit (zaj Tryz.prog .keep [1000016] 14):=⟨_,by cbv⟩
def g14F:Fn:=lit (fnF p14.v [])
def g14:Fn:=g14F
theorem cmp14:zaj Tryz.prog .keep [1000016] 14=some g14:=p14.h.trans (by kernel_rfl)
def p17:Lit (zaj Tryz.prog .lit [1000016] 17):=⟨_,by cbv⟩
def zES:Cd:=lit (bdF p17.v 0 [])
def zy8:Cd:=zES
def zET (c0:Cd):Cd:=lit (bdF p17.v 1 [c0])
def zy9:Cd:=zET zy8
def g17F (c1:Cd):Fn:=lit (fnF p17.v [.skip,c1])
def g17:Fn:=g17F zy9
theorem cmp17:zaj Tryz.prog .lit [1000016] 17=some g17:=p17.h.trans (by kernel_rfl)
def p18:Lit (zaj Tryz.prog .lit [1000016] 18):=⟨_,by cbv⟩
def zEU:Cd:=lit (bdF p18.v 0 [])
def zud:Cd:=zEU
def g18F (c0:Cd):Fn:=lit (fnF p18.v [c0])
def g18:Fn:=g18F zud
theorem cmp18:zaj Tryz.prog .lit [1000016] 18=some g18:=p18.h.trans (by kernel_rfl)
def p19:Lit (zaj Tryz.prog .lit [1000016] 19):=⟨_,by cbv⟩
def zEV:Cd:=lit (bdF p19.v 0 [])
def zue:Cd:=zEV
def g19F (c0:Cd):Fn:=lit (fnF p19.v [c0])
def g19:Fn:=g19F zue
theorem cmp19:zaj Tryz.prog .lit [1000016] 19=some g19:=p19.h.trans (by kernel_rfl)
def p20:Lit (zaj Tryz.prog .lit [1000016,18,35,1001200056,1000700056] 20):=⟨_,by cbv⟩
def zEW:Cd:=lit (bdF p20.v 0 [])
def zuf:Cd:=zEW
def g20F (c0:Cd):Fn:=lit (fnF p20.v [c0])
def g20:Fn:=g20F zuf
theorem cmp20:zaj Tryz.prog .lit [1000016,18,35,1001200056,1000700056] 20=some g20:=p20.h.trans (by kernel_rfl)
def p21:Lit (zaj Tryz.prog .lit [1000016,1001100056,1000700056] 21):=⟨_,by cbv⟩
def zEX:Cd:=lit (bdF p21.v 0 [])
def zza:Cd:=zEX
def zEY (c0:Cd):Cd:=lit (bdF p21.v 1 [c0])
def zug:Cd:=zEY zza
def g21F (c1:Cd):Fn:=lit (fnF p21.v [.skip,c1])
def g21:Fn:=g21F zug
theorem cmp21:zaj Tryz.prog .lit [1000016,1001100056,1000700056] 21=some g21:=p21.h.trans (by kernel_rfl)
def p22:Lit (zaj Tryz.prog .lit [1000016,16,1001000056,1000900056] 22):=⟨_,by cbv⟩
def zEZ:Cd:=lit (bdF p22.v 0 [])
def zuh:Cd:=zEZ
def g22F (c0:Cd):Fn:=lit (fnF p22.v [c0])
def g22:Fn:=g22F zuh
theorem cmp22:zaj Tryz.prog .lit [1000016,16,1001000056,1000900056] 22=some g22:=p22.h.trans (by kernel_rfl)
def p23:Lit (zaj Tryz.prog .lit [1000016,1001000056,1000900056] 23):=⟨_,by cbv⟩
def zE0:Cd:=lit (bdF p23.v 0 [])
def zuj:Cd:=zE0
def g23F (c0:Cd):Fn:=lit (fnF p23.v [c0])
def g23:Fn:=g23F zuj
theorem cmp23:zaj Tryz.prog .lit [1000016,1001000056,1000900056] 23=some g23:=p23.h.trans (by kernel_rfl)
def p24:Lit (zaj Tryz.prog .lit [1000016] 24):=⟨_,by cbv⟩
def g24F:Fn:=lit (fnF p24.v [])
def g24:Fn:=g24F
theorem cmp24:zaj Tryz.prog .lit [1000016] 24=some g24:=p24.h.trans (by kernel_rfl)
def p25:Lit (zaj Tryz.prog .lit [1000016] 25):=⟨_,by cbv⟩
def g25F:Fn:=lit (fnF p25.v [])
def g25:Fn:=g25F
theorem cmp25:zaj Tryz.prog .lit [1000016] 25=some g25:=p25.h.trans (by kernel_rfl)
def p26:Lit (zaj Tryz.prog .lit [1000016] 26):=⟨_,by cbv⟩
def g26F:Fn:=lit (fnF p26.v [])
def g26:Fn:=g26F
theorem cmp26:zaj Tryz.prog .lit [1000016] 26=some g26:=p26.h.trans (by kernel_rfl)
end Go.Ab.Tryz
