/- Our texts for this statement, merged: what its theorem leads to. -/
import Derived.Test.YtjmmobicnfojeaaGreatDoorQWg3
set_option linter.unusedVariables false
set_option linter.unusedSimpArgs false
noncomputable section
namespace Go.Ab.Tryz
open Go Go.Proofs
set_option maxRecDepth 100000
set_option maxHeartbeats 4000000
def p176:Lit (zaj Tryz.prog .mv [1000016] 176):=⟨_,by cbv⟩
def zIF:Fn:=lit (fnF p176.v [])
def g176:Fn:=zIF
theorem zLh:zaj Tryz.prog .mv [1000016] 176=some g176:=p176.h.trans (by kernel_rfl)
def p177:Lit (zaj Tryz.prog .mv [1000016] 177):=⟨_,by cbv⟩
def zIG:Fn:=lit (fnF p177.v [])
def g177:Fn:=zIG
theorem zLi:zaj Tryz.prog .mv [1000016] 177=some g177:=p177.h.trans (by kernel_rfl)
def p178:Lit (zaj Tryz.prog .mv [1000016] 178):=⟨_,by cbv⟩
def zw2:Cd:=lit (bdF p178.v 0 [])
def zh3:Cd:=zw2
def zDO (c0:Cd):Fn:=lit (fnF p178.v [c0])
def g178:Fn:=zDO zh3
theorem zLj:zaj Tryz.prog .mv [1000016] 178=some g178:=p178.h.trans (by kernel_rfl)
def p179:Lit (zaj Tryz.prog .mv [1000016] 179):=⟨_,by cbv⟩
def zIH:Fn:=lit (fnF p179.v [])
def g179:Fn:=zIH
theorem zLk:zaj Tryz.prog .mv [1000016] 179=some g179:=p179.h.trans (by kernel_rfl)
def p180:Lit (zaj Tryz.prog .lit [1000016,1000600067] 180):=⟨_,by cbv⟩
def zCK:Cd:=lit (bdF p180.v 0 [])
def zp9:Cd:=zCK
def zII (c0:Cd):Fn:=lit (fnF p180.v [c0])
def g180:Fn:=zII zp9
theorem zLl:zaj Tryz.prog .lit [1000016,1000600067] 180=some g180:=p180.h.trans (by kernel_rfl)
def p181:Lit (zaj Tryz.prog .lit [1000016,1000700056] 181):=⟨_,by cbv⟩
def zCL:Cd:=lit (bdF p181.v 0 [])
def zwf:Cd:=zCL
def zIJ (c0:Cd):Fn:=lit (fnF p181.v [c0])
def g181:Fn:=zIJ zwf
theorem zLm:zaj Tryz.prog .lit [1000016,1000700056] 181=some g181:=p181.h.trans (by kernel_rfl)
def p182:Lit (zaj Tryz.prog .lit [1000016,1000900084,1000600084] 182):=⟨_,by cbv⟩
def zCM:Cd:=lit (bdF p182.v 0 [])
def zwg:Cd:=zCM
def zCN (c0:Cd):Cd:=lit (bdF p182.v 1 [c0])
def zqa:Cd:=zCN zwg
def zCO (c1:Cd):Cd:=lit (bdF p182.v 2 [.skip,c1])
def zwh:Cd:=zCO zqa
def zIK (c2:Cd):Fn:=lit (fnF p182.v [.skip,.skip,c2])
def g182:Fn:=zIK zwh
theorem zLn:zaj Tryz.prog .lit [1000016,1000900084,1000600084] 182=some g182:=p182.h.trans (by kernel_rfl)
def p183:Lit (zaj Tryz.prog .lit [1000016] 183):=⟨_,by cbv⟩
def zIL:Fn:=lit (fnF p183.v [])
def g183:Fn:=zIL
theorem zLo:zaj Tryz.prog .lit [1000016] 183=some g183:=p183.h.trans (by kernel_rfl)
def p184:Lit (zaj Tryz.prog .mv [1000016] 184):=⟨_,by cbv⟩
def zDP:Fn:=lit (fnF p184.v [])
def g184:Fn:=zDP
theorem zLp:zaj Tryz.prog .mv [1000016] 184=some g184:=p184.h.trans (by kernel_rfl)
def p185:Lit (zaj Tryz.prog .lit [1000016] 185):=⟨_,by cbv⟩
def zIM:Fn:=lit (fnF p185.v [])
def g185:Fn:=zIM
theorem zLq:zaj Tryz.prog .lit [1000016] 185=some g185:=p185.h.trans (by kernel_rfl)
def p186:Lit (zaj Tryz.prog .lit [1000016] 186):=⟨_,by cbv⟩
def zCP:Cd:=lit (bdF p186.v 0 [])
def zqb:Cd:=zCP
def zIN (c0:Cd):Fn:=lit (fnF p186.v [c0])
def g186:Fn:=zIN zqb
theorem zLr:zaj Tryz.prog .lit [1000016] 186=some g186:=p186.h.trans (by kernel_rfl)
def p187:Lit (zaj Tryz.prog .lit [1000016,1000500081,1000400081] 187):=⟨_,by cbv⟩
def zCQ:Cd:=lit (bdF p187.v 0 [])
def zqc:Cd:=zCQ
def zIO (c0:Cd):Fn:=lit (fnF p187.v [c0])
def g187:Fn:=zIO zqc
theorem zLs:zaj Tryz.prog .lit [1000016,1000500081,1000400081] 187=some g187:=p187.h.trans (by kernel_rfl)
def p188:Lit (zaj Tryz.prog .lit [1000016] 188):=⟨_,by cbv⟩
def zIP:Fn:=lit (fnF p188.v [])
def g188:Fn:=zIP
theorem zLt:zaj Tryz.prog .lit [1000016] 188=some g188:=p188.h.trans (by kernel_rfl)
def p190:Lit (zaj Tryz.prog .lit [1000016] 190):=⟨_,by cbv⟩
def zIQ:Fn:=lit (fnF p190.v [])
def g190:Fn:=zIQ
theorem zLu:zaj Tryz.prog .lit [1000016] 190=some g190:=p190.h.trans (by kernel_rfl)
def p191:Lit (zaj Tryz.prog .lit [1000016] 191):=⟨_,by cbv⟩
def zIR:Fn:=lit (fnF p191.v [])
def g191:Fn:=zIR
theorem zLv:zaj Tryz.prog .lit [1000016] 191=some g191:=p191.h.trans (by kernel_rfl)
def p192:Lit (zaj Tryz.prog .lit [1000016,80000003200025,80000003900025,1001400025,1001000025] 192):=⟨_,by cbv⟩
def zCR:Cd:=lit (bdF p192.v 0 [])
def zqd:Cd:=zCR
def zCS:Cd:=lit (bdF p192.v 1 [])
def zqe:Cd:=zCS
def zIS (c0:Cd) (c1:Cd):Fn:=lit (fnF p192.v [c0,c1])
def g192:Fn:=zIS zqd zqe
theorem zLw:zaj Tryz.prog .lit [1000016,80000003200025,80000003900025,1001400025,1001000025] 192=some g192:=p192.h.trans (by kernel_rfl)
def p194:Lit (zaj Tryz.prog .keep [1000016,1000400081] 194):=⟨_,by cbv⟩
def zIT:Fn:=lit (fnF p194.v [])
def g194:Fn:=zIT
theorem zLx:zaj Tryz.prog .keep [1000016,1000400081] 194=some g194:=p194.h.trans (by kernel_rfl)
def p195:Lit (zaj Tryz.prog .lit [1000016] 195):=⟨_,by cbv⟩
def zIU:Fn:=lit (fnF p195.v [])
def g195:Fn:=zIU
theorem zLy:zaj Tryz.prog .lit [1000016] 195=some g195:=p195.h.trans (by kernel_rfl)
def p200:Lit (zaj Tryz.prog .lit [1000016] 200):=⟨_,by cbv⟩
def zCT:Cd:=lit (bdF p200.v 0 [])
def zqf:Cd:=zCT
def zIV (c0:Cd):Fn:=lit (fnF p200.v [c0])
def g200:Fn:=zIV zqf
theorem zLz:zaj Tryz.prog .lit [1000016] 200=some g200:=p200.h.trans (by kernel_rfl)
def p201:Lit (zaj Tryz.prog .lit [1000016] 201):=⟨_,by cbv⟩
def zIW:Fn:=lit (fnF p201.v [])
def g201:Fn:=zIW
theorem zLA:zaj Tryz.prog .lit [1000016] 201=some g201:=p201.h.trans (by kernel_rfl)
def p202:Lit (zaj Tryz.prog .lit [1000016] 202):=⟨_,by cbv⟩
def zIX:Fn:=lit (fnF p202.v [])
def g202:Fn:=zIX
theorem zLB:zaj Tryz.prog .lit [1000016] 202=some g202:=p202.h.trans (by kernel_rfl)
def p207:Lit (zaj Tryz.prog .lit [1000016] 207):=⟨_,by cbv⟩
def zIY:Fn:=lit (fnF p207.v [])
def g207:Fn:=zIY
theorem zLC:zaj Tryz.prog .lit [1000016] 207=some g207:=p207.h.trans (by kernel_rfl)
def p209:Lit (zaj Tryz.prog .lit [1000016] 209):=⟨_,by cbv⟩
def zCU:Cd:=lit (bdF p209.v 0 [])
def zqg:Cd:=zCU
def zIZ (c0:Cd):Fn:=lit (fnF p209.v [c0])
def g209:Fn:=zIZ zqg
theorem zLD:zaj Tryz.prog .lit [1000016] 209=some g209:=p209.h.trans (by kernel_rfl)
def p210:Lit (zaj Tryz.prog .lit [1000016] 210):=⟨_,by cbv⟩
def zI0:Fn:=lit (fnF p210.v [])
def g210:Fn:=zI0
theorem zLE:zaj Tryz.prog .lit [1000016] 210=some g210:=p210.h.trans (by kernel_rfl)
def p211:Lit (zaj Tryz.prog .keep [1000016] 211):=⟨_,by cbv⟩
def zI1:Fn:=lit (fnF p211.v [])
def g211:Fn:=zI1
theorem zLF:zaj Tryz.prog .keep [1000016] 211=some g211:=p211.h.trans (by kernel_rfl)
def p212:Lit (zaj Tryz.prog .mv [1000016] 212):=⟨_,by cbv⟩
def zDQ:Fn:=lit (fnF p212.v [])
def g212:Fn:=zDQ
theorem zLG:zaj Tryz.prog .mv [1000016] 212=some g212:=p212.h.trans (by kernel_rfl)
def p213:Lit (zaj Tryz.prog .mv [1000016,1000400084] 213):=⟨_,by cbv⟩
def zCV:Cd:=lit (bdF p213.v 0 [])
def zqh:Cd:=zCV
def zI2 (c0:Cd):Fn:=lit (fnF p213.v [c0])
def g213:Fn:=zI2 zqh
theorem zLH:zaj Tryz.prog .mv [1000016,1000400084] 213=some g213:=p213.h.trans (by kernel_rfl)
def p214:Lit (zaj Tryz.prog .mv [1000016] 214):=⟨_,by cbv⟩
def zI3:Fn:=lit (fnF p214.v [])
def g214:Fn:=zI3
theorem zLI:zaj Tryz.prog .mv [1000016] 214=some g214:=p214.h.trans (by kernel_rfl)
def p215:Lit (zaj Tryz.prog .lit [1000016,1000600084] 215):=⟨_,by cbv⟩
def zCW:Cd:=lit (bdF p215.v 0 [])
def zwi:Cd:=zCW
def zI4 (c0:Cd):Fn:=lit (fnF p215.v [c0])
def g215:Fn:=zI4 zwi
theorem zLJ:zaj Tryz.prog .lit [1000016,1000600084] 215=some g215:=p215.h.trans (by kernel_rfl)
def p216:Lit (zaj Tryz.prog .lit [1000016] 216):=⟨_,by cbv⟩
def zCX:Cd:=lit (bdF p216.v 0 [])
def zqi:Cd:=zCX
def zI5 (c0:Cd):Fn:=lit (fnF p216.v [c0])
def g216:Fn:=zI5 zqi
theorem zLK:zaj Tryz.prog .lit [1000016] 216=some g216:=p216.h.trans (by kernel_rfl)
def p217:Lit (zaj Tryz.prog .lit [1000016,1001000060] 217):=⟨_,by cbv⟩
def zw3:Cd:=lit (bdF p217.v 0 [])
def zkO:Cd:=zw3
def zCY (c0:Cd):Cd:=lit (bdF p217.v 1 [c0])
def zwj:Cd:=zCY zkO
def zI6 (c1:Cd):Fn:=lit (fnF p217.v [.skip,c1])
def g217:Fn:=zI6 zwj
theorem zLL:zaj Tryz.prog .lit [1000016,1001000060] 217=some g217:=p217.h.trans (by kernel_rfl)
def p218:Lit (zaj Tryz.prog .lit [1000016,1000500067,1000400067] 218):=⟨_,by cbv⟩
def zCZ:Cd:=lit (bdF p218.v 0 [])
def zqj:Cd:=zCZ
def zI7 (c0:Cd):Fn:=lit (fnF p218.v [c0])
def g218:Fn:=zI7 zqj
theorem zLM:zaj Tryz.prog .lit [1000016,1000500067,1000400067] 218=some g218:=p218.h.trans (by kernel_rfl)
def p219:Lit (zaj Tryz.prog .mv [1000016,1000600067] 219):=⟨_,by cbv⟩
def zI8:Fn:=lit (fnF p219.v [])
def g219:Fn:=zI8
theorem zLN:zaj Tryz.prog .mv [1000016,1000600067] 219=some g219:=p219.h.trans (by kernel_rfl)
end Go.Ab.Tryz
