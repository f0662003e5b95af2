/- Our texts for this statement, merged: what its theorem leads to. -/
import Derived.Test.YtjmmobicnfojeaaGreatDoorQSv3
set_option linter.unusedVariables false
set_option linter.unusedSimpArgs false
noncomputable section
namespace Go.Ab.Tryz
open Go Go.Proofs
set_option maxRecDepth 100000
set_option maxHeartbeats 4000000
def p158:Lit (zaj Tryz.prog .lit [1000016] 158):=⟨_,by cbv⟩
def zIe:Fn:=lit (fnF p158.v [])
def g158:Fn:=zIe
theorem zKL:zaj Tryz.prog .lit [1000016] 158=some g158:=p158.h.trans (by kernel_rfl)
def p159:Lit (zaj Tryz.prog .lit [1000016] 159):=⟨_,by cbv⟩
def zB2:Cd:=lit (bdF p159.v 0 [])
def zoR:Cd:=zB2
def zIf (c0:Cd):Fn:=lit (fnF p159.v [c0])
def g159:Fn:=zIf zoR
theorem zKM:zaj Tryz.prog .lit [1000016] 159=some g159:=p159.h.trans (by kernel_rfl)
def p164:Lit (zaj Tryz.prog .lit [1000016] 164):=⟨_,by cbv⟩
def ztf:Cd:=lit (bdF p164.v 0 [])
def zdB:Cd:=ztf
def zyC (c0:Cd):Fn:=lit (fnF p164.v [c0])
def g164:Fn:=zyC zdB
theorem zKN:zaj Tryz.prog .lit [1000016] 164=some g164:=p164.h.trans (by kernel_rfl)
def p165:Lit (zaj Tryz.prog .lit [1000016] 165):=⟨_,by cbv⟩
def zIg:Fn:=lit (fnF p165.v [])
def g165:Fn:=zIg
theorem zKO:zaj Tryz.prog .lit [1000016] 165=some g165:=p165.h.trans (by kernel_rfl)
def p166:Lit (zaj Tryz.prog .lit [1000016] 166):=⟨_,by cbv⟩
def zIh:Fn:=lit (fnF p166.v [])
def g166:Fn:=zIh
theorem zKP:zaj Tryz.prog .lit [1000016] 166=some g166:=p166.h.trans (by kernel_rfl)
def p167:Lit (zaj Tryz.prog .lit [1000016] 167):=⟨_,by cbv⟩
def zB3:Cd:=lit (bdF p167.v 0 [])
def zoS:Cd:=zB3
def zIi (c0:Cd):Fn:=lit (fnF p167.v [c0])
def g167:Fn:=zIi zoS
theorem zKQ:zaj Tryz.prog .lit [1000016] 167=some g167:=p167.h.trans (by kernel_rfl)
def p168:Lit (zaj Tryz.prog .lit [1000016] 168):=⟨_,by cbv⟩
def zB4:Cd:=lit (bdF p168.v 0 [])
def zoT:Cd:=zB4
def zIj (c0:Cd):Fn:=lit (fnF p168.v [c0])
def g168:Fn:=zIj zoT
theorem zKR:zaj Tryz.prog .lit [1000016] 168=some g168:=p168.h.trans (by kernel_rfl)
def p170:Lit (zaj Tryz.prog .lit [1000016] 170):=⟨_,by cbv⟩
def zC0:Fn:=lit (fnF p170.v [])
def g170:Fn:=zC0
theorem zKS:zaj Tryz.prog .lit [1000016] 170=some g170:=p170.h.trans (by kernel_rfl)
def p171:Lit (zaj Tryz.prog .lit [1000016] 171):=⟨_,by cbv⟩
def zIk:Fn:=lit (fnF p171.v [])
def g171:Fn:=zIk
theorem zKT:zaj Tryz.prog .lit [1000016] 171=some g171:=p171.h.trans (by kernel_rfl)
def p172:Lit (zaj Tryz.prog .lit [1000016] 172):=⟨_,by cbv⟩
def zIl:Fn:=lit (fnF p172.v [])
def g172:Fn:=zIl
theorem zKU:zaj Tryz.prog .lit [1000016] 172=some g172:=p172.h.trans (by kernel_rfl)
def p173:Lit (zaj Tryz.prog .lit [1000016,1000000009] 173):=⟨_,by cbv⟩
def zIm:Fn:=lit (fnF p173.v [])
def g173:Fn:=zIm
theorem zKV:zaj Tryz.prog .lit [1000016,1000000009] 173=some g173:=p173.h.trans (by kernel_rfl)
def p178:Lit (zaj Tryz.prog .mv [1000016] 178):=⟨_,by cbv⟩
def zB5:Cd:=lit (bdF p178.v 0 [])
def zoU:Cd:=zB5
def zIn (c0:Cd):Fn:=lit (fnF p178.v [c0])
def g178:Fn:=zIn zoU
theorem zKW:zaj Tryz.prog .mv [1000016] 178=some g178:=p178.h.trans (by kernel_rfl)
def p186:Lit (zaj Tryz.prog .lit [1000016] 186):=⟨_,by cbv⟩
def zB6:Cd:=lit (bdF p186.v 0 [])
def zoV:Cd:=zB6
def zIo (c0:Cd):Fn:=lit (fnF p186.v [c0])
def g186:Fn:=zIo zoV
theorem zKX:zaj Tryz.prog .lit [1000016] 186=some g186:=p186.h.trans (by kernel_rfl)
def p187:Lit (zaj Tryz.prog .lit [1000016,1000500081,1000400081] 187):=⟨_,by cbv⟩
def zB7:Cd:=lit (bdF p187.v 0 [])
def zoW:Cd:=zB7
def zIp (c0:Cd):Fn:=lit (fnF p187.v [c0])
def g187:Fn:=zIp zoW
theorem zKY:zaj Tryz.prog .lit [1000016,1000500081,1000400081] 187=some g187:=p187.h.trans (by kernel_rfl)
def p188:Lit (zaj Tryz.prog .lit [1000016] 188):=⟨_,by cbv⟩
def zIq:Fn:=lit (fnF p188.v [])
def g188:Fn:=zIq
theorem zKZ:zaj Tryz.prog .lit [1000016] 188=some g188:=p188.h.trans (by kernel_rfl)
def p189:Lit (zaj Tryz.prog .lit [1000016,1000000146] 189):=⟨_,by cbv⟩
def zIr:Fn:=lit (fnF p189.v [])
def g189:Fn:=zIr
theorem zK0:zaj Tryz.prog .lit [1000016,1000000146] 189=some g189:=p189.h.trans (by kernel_rfl)
def p190:Lit (zaj Tryz.prog .lit [1000016] 190):=⟨_,by cbv⟩
def zIs:Fn:=lit (fnF p190.v [])
def g190:Fn:=zIs
theorem zK1:zaj Tryz.prog .lit [1000016] 190=some g190:=p190.h.trans (by kernel_rfl)
def p191:Lit (zaj Tryz.prog .lit [1000016] 191):=⟨_,by cbv⟩
def zIt:Fn:=lit (fnF p191.v [])
def g191:Fn:=zIt
theorem zK2:zaj Tryz.prog .lit [1000016] 191=some g191:=p191.h.trans (by kernel_rfl)
def p192:Lit (zaj Tryz.prog .lit [1000016,80000003200025,80000003900025,1001400025,1001000025] 192):=⟨_,by cbv⟩
def zB8:Cd:=lit (bdF p192.v 0 [])
def zoX:Cd:=zB8
def zB9:Cd:=lit (bdF p192.v 1 [])
def zoY:Cd:=zB9
def zIu (c0:Cd) (c1:Cd):Fn:=lit (fnF p192.v [c0,c1])
def g192:Fn:=zIu zoX zoY
theorem zK3:zaj Tryz.prog .lit [1000016,80000003200025,80000003900025,1001400025,1001000025] 192=some g192:=p192.h.trans (by kernel_rfl)
def p193:Lit (zaj Tryz.prog .lit [1000016] 193):=⟨_,by cbv⟩
def zIv:Fn:=lit (fnF p193.v [])
def g193:Fn:=zIv
theorem zK4:zaj Tryz.prog .lit [1000016] 193=some g193:=p193.h.trans (by kernel_rfl)
def p194:Lit (zaj Tryz.prog .keep [1000016,1000400081] 194):=⟨_,by cbv⟩
def zIw:Fn:=lit (fnF p194.v [])
def g194:Fn:=zIw
theorem zK5:zaj Tryz.prog .keep [1000016,1000400081] 194=some g194:=p194.h.trans (by kernel_rfl)
def p195:Lit (zaj Tryz.prog .lit [1000016] 195):=⟨_,by cbv⟩
def zIx:Fn:=lit (fnF p195.v [])
def g195:Fn:=zIx
theorem zK6:zaj Tryz.prog .lit [1000016] 195=some g195:=p195.h.trans (by kernel_rfl)
def p197:Lit (zaj Tryz.prog .mv [1000016,1000400078] 197):=⟨_,by cbv⟩
def zCa:Cd:=lit (bdF p197.v 0 [])
def zoZ:Cd:=zCa
def zIy (c0:Cd):Fn:=lit (fnF p197.v [c0])
def g197:Fn:=zIy zoZ
theorem zK7:zaj Tryz.prog .mv [1000016,1000400078] 197=some g197:=p197.h.trans (by kernel_rfl)
def p198:Lit (zaj Tryz.prog .lit [1000016] 198):=⟨_,by cbv⟩
def zIz:Fn:=lit (fnF p198.v [])
def g198:Fn:=zIz
theorem zK8:zaj Tryz.prog .lit [1000016] 198=some g198:=p198.h.trans (by kernel_rfl)
def p199:Lit (zaj Tryz.prog .lit [1000016] 199):=⟨_,by cbv⟩
def zIA:Fn:=lit (fnF p199.v [])
def g199:Fn:=zIA
theorem zK9:zaj Tryz.prog .lit [1000016] 199=some g199:=p199.h.trans (by kernel_rfl)
def p200:Lit (zaj Tryz.prog .lit [1000016] 200):=⟨_,by cbv⟩
def zCb:Cd:=lit (bdF p200.v 0 [])
def zo0:Cd:=zCb
def zIB (c0:Cd):Fn:=lit (fnF p200.v [c0])
def g200:Fn:=zIB zo0
theorem zLa:zaj Tryz.prog .lit [1000016] 200=some g200:=p200.h.trans (by kernel_rfl)
def p201:Lit (zaj Tryz.prog .lit [1000016] 201):=⟨_,by cbv⟩
def zIC:Fn:=lit (fnF p201.v [])
def g201:Fn:=zIC
theorem zLb:zaj Tryz.prog .lit [1000016] 201=some g201:=p201.h.trans (by kernel_rfl)
def p202:Lit (zaj Tryz.prog .lit [1000016] 202):=⟨_,by cbv⟩
def zID:Fn:=lit (fnF p202.v [])
def g202:Fn:=zID
theorem zLc:zaj Tryz.prog .lit [1000016] 202=some g202:=p202.h.trans (by kernel_rfl)
def p207:Lit (zaj Tryz.prog .lit [1000016] 207):=⟨_,by cbv⟩
def zIE:Fn:=lit (fnF p207.v [])
def g207:Fn:=zIE
theorem zLd:zaj Tryz.prog .lit [1000016] 207=some g207:=p207.h.trans (by kernel_rfl)
def p208:Lit (zaj Tryz.prog .lit [1000016] 208):=⟨_,by cbv⟩
def zCc:Cd:=lit (bdF p208.v 0 [])
def zo1:Cd:=zCc
def zIF (c0:Cd):Fn:=lit (fnF p208.v [c0])
def g208:Fn:=zIF zo1
theorem zLe:zaj Tryz.prog .lit [1000016] 208=some g208:=p208.h.trans (by kernel_rfl)
def p221:Lit (zaj Tryz.prog .lit [1000016] 221):=⟨_,by cbv⟩
def zIG:Fn:=lit (fnF p221.v [])
def g221:Fn:=zIG
theorem zLf:zaj Tryz.prog .lit [1000016] 221=some g221:=p221.h.trans (by kernel_rfl)
def p227:Lit (zaj Tryz.prog .mv [1000016,1000400081] 227):=⟨_,by cbv⟩
def zCd:Cd:=lit (bdF p227.v 0 [])
def zo2:Cd:=zCd
def zIH (c0:Cd):Fn:=lit (fnF p227.v [c0])
def g227:Fn:=zIH zo2
theorem zLi:zaj Tryz.prog .mv [1000016,1000400081] 227=some g227:=p227.h.trans (by kernel_rfl)
def p228:Lit (zaj Tryz.prog .lit [1000016] 228):=⟨_,by cbv⟩
def zII:Fn:=lit (fnF p228.v [])
def g228:Fn:=zII
theorem zLj:zaj Tryz.prog .lit [1000016] 228=some g228:=p228.h.trans (by kernel_rfl)
end Go.Ab.Tryz
