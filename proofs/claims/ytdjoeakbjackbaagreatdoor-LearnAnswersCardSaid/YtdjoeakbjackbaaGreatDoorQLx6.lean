/- Our texts for this statement, merged: what its theorem leads to. -/
import Derived.Test.YtdjoeakbjackbaaGreatDoorQLx3
set_option linter.unusedVariables false
set_option linter.unusedSimpArgs false
noncomputable section
namespace Go.Ab.Tryz
open Go Go.Proofs
set_option maxRecDepth 100000
set_option maxHeartbeats 4000000
def p76:Lit (zae Tryz.prog .lit [1000016] 76):=⟨_,by cbv⟩
def g76F:Fn:=lit (fnF p76.v [])
def g76:Fn:=g76F
theorem cmp76:zae Tryz.prog .lit [1000016] 76=some g76:=p76.h.trans (by kernel_rfl)
def p77:Lit (zae Tryz.prog .lit [1000016] 77):=⟨_,by cbv⟩
def zuJ:Cd:=lit (bdF p77.v 0 [])
def zdn:Cd:=zuJ
def g77F(c0:Cd):Fn:=lit (fnF p77.v [c0])
def g77:Fn:=g77F zdn
theorem cmp77:zae Tryz.prog .lit [1000016] 77=some g77:=p77.h.trans (by kernel_rfl)
def p78:Lit (zae Tryz.prog .lit [1000016] 78):=⟨_,by cbv⟩
def g78F:Fn:=lit (fnF p78.v [])
def g78:Fn:=g78F
theorem cmp78:zae Tryz.prog .lit [1000016] 78=some g78:=p78.h.trans (by kernel_rfl)
def p79:Lit (zae Tryz.prog .lit [1000016] 79):=⟨_,by cbv⟩
def g79F:Fn:=lit (fnF p79.v [])
def g79:Fn:=g79F
theorem cmp79:zae Tryz.prog .lit [1000016] 79=some g79:=p79.h.trans (by kernel_rfl)
def p83:Lit (zae Tryz.prog .lit [1000016] 83):=⟨_,by cbv⟩
def g83F:Fn:=lit (fnF p83.v [])
def g83:Fn:=g83F
theorem cmp83:zae Tryz.prog .lit [1000016] 83=some g83:=p83.h.trans (by kernel_rfl)
def p92:Lit (zae Tryz.prog .keep [1000016,1000300025,1000200025] 92):=⟨_,by cbv⟩
def zIh:Cd:=lit (bdF p92.v 0 [])
def zwt:Cd:=zIh
def g92F(c0:Cd):Fn:=lit (fnF p92.v [c0])
def g92:Fn:=g92F zwt
theorem cmp92:zae Tryz.prog .keep [1000016,1000300025,1000200025] 92=some g92:=p92.h.trans (by kernel_rfl)
def p98:Lit (zae Tryz.prog .keep [1000016,1000200025] 98):=⟨_,by cbv⟩
def g98F:Fn:=lit (fnF p98.v [])
def g98:Fn:=g98F
theorem cmp98:zae Tryz.prog .keep [1000016,1000200025] 98=some g98:=p98.h.trans (by kernel_rfl)
def p99:Lit (zae Tryz.prog .lit [1000016,16,1001000078,1000900078] 99):=⟨_,by cbv⟩
def zIi:Cd:=lit (bdF p99.v 0 [])
def zwu:Cd:=zIi
def g99F(c0:Cd):Fn:=lit (fnF p99.v [c0])
def g99:Fn:=g99F zwu
theorem cmp99:zae Tryz.prog .lit [1000016,16,1001000078,1000900078] 99=some g99:=p99.h.trans (by kernel_rfl)
def p102:Lit (zae Tryz.prog .lit [1000016,1001000078,1000900078] 102):=⟨_,by cbv⟩
def zET:Cd:=lit (bdF p102.v 0 [])
def zrC:Cd:=zET
def zLe(c0:Cd):Fn:=lit (fnF p102.v [c0])
def g102:Fn:=zLe zrC
theorem zNU:zae Tryz.prog .lit [1000016,1001000078,1000900078] 102=some g102:=p102.h.trans (by kernel_rfl)
def p115:Lit (zae Tryz.prog .lit [1000016] 115):=⟨_,by cbv⟩
def zLf:Fn:=lit (fnF p115.v [])
def g115:Fn:=zLf
theorem zNV:zae Tryz.prog .lit [1000016] 115=some g115:=p115.h.trans (by kernel_rfl)
def p117:Lit (zae Tryz.prog .mv [1000016,9,40000000900082,100000225600157] 117):=⟨_,by cbv⟩
def zEU:Cd:=lit (bdF p117.v 0 [])
def zx3:Cd:=zEU
def zLg(c0:Cd):Fn:=lit (fnF p117.v [c0])
def g117:Fn:=zLg zx3
theorem zNW:zae Tryz.prog .mv [1000016,9,40000000900082,100000225600157] 117=some g117:=p117.h.trans (by kernel_rfl)
def p118:Lit (zae Tryz.prog .mv [1000016,1000300078] 118):=⟨_,by cbv⟩
def zGr:Fn:=lit (fnF p118.v [])
def g118:Fn:=zGr
theorem zNX:zae Tryz.prog .mv [1000016,1000300078] 118=some g118:=p118.h.trans (by kernel_rfl)
def p119:Lit (zae Tryz.prog .mv [1000016] 119):=⟨_,by cbv⟩
def zLh:Fn:=lit (fnF p119.v [])
def g119:Fn:=zLh
theorem zNY:zae Tryz.prog .mv [1000016] 119=some g119:=p119.h.trans (by kernel_rfl)
def p120:Lit (zae Tryz.prog .mv [1000016] 120):=⟨_,by cbv⟩
def zEV:Cd:=lit (bdF p120.v 0 [])
def zx4:Cd:=zEV
def zEW(c0:Cd):Cd:=lit (bdF p120.v 1 [c0])
def zx5:Cd:=zEW zx4
def zEX(c1:Cd):Cd:=lit (bdF p120.v 2 [.skip,c1])
def zx6:Cd:=zEX zx5
def zLi(c2:Cd):Fn:=lit (fnF p120.v [.skip,.skip,c2])
def g120:Fn:=zLi zx6
theorem zNZ:zae Tryz.prog .mv [1000016] 120=some g120:=p120.h.trans (by kernel_rfl)
def p121:Lit (zae Tryz.prog .mv [1000016] 121):=⟨_,by cbv⟩
def zLj:Fn:=lit (fnF p121.v [])
def g121:Fn:=zLj
theorem zN0:zae Tryz.prog .mv [1000016] 121=some g121:=p121.h.trans (by kernel_rfl)
def zLk:Fn:=⟨48,[],[],.mv,
 (.seq (.region [⟨some 2,.mov (.t 0),none,0,[]⟩,
  ⟨some 3,.call 123 [.s,.s,.s,.s] [.t 2,.c (.sc (.bool false)),.c (.sc (.string ⟨#[]⟩)),.c (.sc (.int .i64 0))],none,0,[]⟩]) (.seq (.region [⟨some 4,.mov (.t 0),none,0,[]⟩,
  ⟨some 5,.nck (.t 4),none,0,[]⟩,
  ⟨some 6,.fad (.t 5) 0,none,0,[]⟩,
  ⟨some 7,.fad (.t 6) 3,none,0,[]⟩,
  ⟨none,.store 1 (.t 7) (.c (.sc (.bool true))),none,0,[]⟩]) (.seq (.region [⟨some 8,.mov (.t 0),none,0,[]⟩,
  ⟨some 9,.mov (.t 0),none,0,[]⟩,
  ⟨some 10,.nck (.t 9),none,0,[]⟩,
  ⟨some 11,.fad (.t 10) 0,none,0,[]⟩,
  ⟨some 12,.fad (.t 11) 0,none,0,[]⟩,
  ⟨some 13,.load true 2 (.t 12),none,0,[]⟩,
  ⟨some 14,.mov (.t 0),none,0,[]⟩,
  ⟨some 15,.nck (.t 14),none,0,[]⟩,
  ⟨some 16,.fad (.t 15) 0,none,0,[]⟩,
  ⟨some 17,.fad (.t 16) 5,none,0,[]⟩,
  ⟨some 18,.load false 1 (.t 17),none,0,[]⟩,
  ⟨some 19,.mov (.t 0),none,0,[]⟩,
  ⟨some 20,.nck (.t 19),none,0,[]⟩,
  ⟨some 21,.fad (.t 20) 14,none,0,[]⟩,
  ⟨some 22,.fad (.t 21) 8,none,0,[]⟩,
  ⟨some 23,.load true 2 (.t 22),none,0,[]⟩,
  ⟨some 24,.call 49 [.a [.s,.s],.l 55,.a [.s,.s]] [.t 13,.t 18,.t 23],none,0,[]⟩,
  ⟨some 25,.nck (.t 8),none,0,[]⟩,
  ⟨some 26,.fad (.t 25) 0,none,0,[]⟩,
  ⟨some 27,.fad (.t 26) 5,none,0,[]⟩,
  ⟨none,.store 1 (.t 27) (.t 24),none,0,[]⟩]) (.region [⟨some 28,.mov (.t 0),none,0,[]⟩,
  ⟨some 29,.mov (.t 0),none,0,[]⟩,
  ⟨some 30,.nck (.t 29),none,0,[]⟩,
  ⟨some 31,.fad (.t 30) 0,none,0,[]⟩,
  ⟨some 32,.load true 14 (.t 31),none,0,[]⟩,
  ⟨some 33,.mov (.t 0),none,0,[]⟩,
  ⟨some 34,.nck (.t 33),none,0,[]⟩,
  ⟨some 35,.fad (.t 34) 14,none,0,[]⟩,
  ⟨some 36,.fad (.t 35) 8,none,0,[]⟩,
  ⟨some 37,.load true 2 (.t 36),none,0,[]⟩,
  ⟨some 38,.mov (.t 0),none,0,[]⟩,
  ⟨some 39,.nck (.t 38),none,0,[]⟩,
  ⟨some 40,.fad (.t 39) 0,none,0,[]⟩,
  ⟨some 41,.fad (.t 40) 0,none,0,[]⟩,
  ⟨some 42,.load true 2 (.t 41),none,0,[]⟩,
  ⟨some 43,.build [.sc (.int .i64 0),.sc (.int .u32 0),.sc (.int .u8 0),.sc (.bool false),.sc (.int .u64 0),.sc (.string ⟨#[]⟩),.sc (.string ⟨#[]⟩),.sc (.int .u64 0),.sc (.int .u16 0),.lit 0 true [],.lit 0 true []] [(0,1,.c (.sc (.int .i64 5))),(7,2,.t 42)],none,0,[]⟩,
  ⟨some 44,.call 73 [.a [.s,.s,.s,.s,.l 55,.l 55,.l 82,.l 76,.l 36,.l 57,.l 74,.s,.s,.s],.a [.s,.s],.a [.s,.s,.s,.s,.s,.s,.s,.s,.s,.l 25,.l 76],.s,.s] [.t 32,.t 37,.t 43,.c (.sc (.int .i64 2)),.c (.sc (.int .i64 0))],none,0,[]⟩,
  ⟨some 45,.ext (.t 44) 0,none,0,[]⟩,
  ⟨some 46,.ext (.t 44) 1,none,0,[]⟩,
  ⟨some 47,.call 209 [.s,.a [.s,.s,.s,.s,.l 55,.l 55,.l 82,.l 76,.l 36,.l 57,.l 74,.s,.s,.s],.l 78] [.t 28,.t 45,.t 46],none,0,[]⟩]))))⟩
def g122:Fn:=zLk
theorem zN1:zae Tryz.prog .mv [1000016] 122=some g122:=by kernel_rfl
def p123:Lit (zae Tryz.prog .mv [1000016] 123):=⟨_,by cbv⟩
def zBP:Fn:=lit (fnF p123.v [])
def g123:Fn:=zBP
theorem zN2:zae Tryz.prog .mv [1000016] 123=some g123:=p123.h.trans (by kernel_rfl)
def p124:Lit (zae Tryz.prog .lit [1000016] 124):=⟨_,by cbv⟩
def zLl:Fn:=lit (fnF p124.v [])
def g124:Fn:=zLl
theorem zN3:zae Tryz.prog .lit [1000016] 124=some g124:=p124.h.trans (by kernel_rfl)
def p125:Lit (zae Tryz.prog .lit [1000016] 125):=⟨_,by cbv⟩
def zLm:Fn:=lit (fnF p125.v [])
def g125:Fn:=zLm
theorem zN4:zae Tryz.prog .lit [1000016] 125=some g125:=p125.h.trans (by kernel_rfl)
def p126:Lit (zae Tryz.prog .lit [1000016,1000700078] 126):=⟨_,by cbv⟩
def zEY:Cd:=lit (bdF p126.v 0 [])
def zx7:Cd:=zEY
def zLn(c0:Cd):Fn:=lit (fnF p126.v [c0])
def g126:Fn:=zLn zx7
theorem zN5:zae Tryz.prog .lit [1000016,1000700078] 126=some g126:=p126.h.trans (by kernel_rfl)
def p127:Lit (zae Tryz.prog .lit [1000016,1000700078,1001300082] 127):=⟨_,by cbv⟩
def zEZ:Cd:=lit (bdF p127.v 0 [])
def zrD:Cd:=zEZ
def zE0(c0:Cd):Cd:=lit (bdF p127.v 1 [c0])
def zx8:Cd:=zE0 zrD
def zLo(c1:Cd):Fn:=lit (fnF p127.v [.skip,c1])
def g127:Fn:=zLo zx8
theorem zN6:zae Tryz.prog .lit [1000016,1000700078,1001300082] 127=some g127:=p127.h.trans (by kernel_rfl)
def p128:Lit (zae Tryz.prog .lit [1000016] 128):=⟨_,by cbv⟩
def zLp:Fn:=lit (fnF p128.v [])
def g128:Fn:=zLp
theorem zN7:zae Tryz.prog .lit [1000016] 128=some g128:=p128.h.trans (by kernel_rfl)
def p129:Lit (zae Tryz.prog .lit [1000016] 129):=⟨_,by cbv⟩
def zLq:Fn:=lit (fnF p129.v [])
def g129:Fn:=zLq
theorem zN8:zae Tryz.prog .lit [1000016] 129=some g129:=p129.h.trans (by kernel_rfl)
def p130:Lit (zae Tryz.prog .lit [1000016,1000700078] 130):=⟨_,by cbv⟩
def zLr:Fn:=lit (fnF p130.v [])
def g130:Fn:=zLr
theorem zN9:zae Tryz.prog .lit [1000016,1000700078] 130=some g130:=p130.h.trans (by kernel_rfl)
def p131:Lit (zae Tryz.prog .lit [1000016] 131):=⟨_,by cbv⟩
def zE1:Cd:=lit (bdF p131.v 0 [])
def zrE:Cd:=zE1
def zLs(c0:Cd):Fn:=lit (fnF p131.v [c0])
def g131:Fn:=zLs zrE
theorem zOa:zae Tryz.prog .lit [1000016] 131=some g131:=p131.h.trans (by kernel_rfl)
def p132:Lit (zae Tryz.prog .mv [1000016,1000600055] 132):=⟨_,by cbv⟩
def zLt:Fn:=lit (fnF p132.v [])
def g132:Fn:=zLt
theorem zOb:zae Tryz.prog .mv [1000016,1000600055] 132=some g132:=p132.h.trans (by kernel_rfl)
def p133:Lit (zae Tryz.prog .mv [1000016,1000400082] 133):=⟨_,by cbv⟩
def zzg:Cd:=lit (bdF p133.v 0 [])
def ziO:Cd:=zzg
def zGs(c0:Cd):Fn:=lit (fnF p133.v [c0])
def g133:Fn:=zGs ziO
theorem zOc:zae Tryz.prog .mv [1000016,1000400082] 133=some g133:=p133.h.trans (by kernel_rfl)
end Go.Ab.Tryz
