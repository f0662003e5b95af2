/- Our texts for this statement, merged: what its theorem leads to. -/
import Derived.Test.YtjmmobicnfojeaaGreatDoorQWg3
set_option linter.unusedVariables false
set_option linter.unusedSimpArgs false
noncomputable section
namespace Go.Ab.Tryz
open Go Go.Proofs
set_option maxRecDepth 100000
set_option maxHeartbeats 4000000
def zC0:Cd:=(.seq (.region [⟨some 18,.mov (.t 0),none,0,[]⟩,
  ⟨some 19,.mov (.t 0),none,0,[]⟩,
  ⟨some 20,.nck (.t 19),none,0,[]⟩,
  ⟨some 21,.fad (.t 20) 10,none,0,[]⟩,
  ⟨some 22,.load false 1 (.t 21),none,0,[]⟩,
  ⟨some 23,.fad (.t 6) 0,none,0,[]⟩,
  ⟨some 24,.load false 1 (.t 23),none,0,[]⟩,
  ⟨some 25,.fad (.t 6) 1,none,0,[]⟩,
  ⟨some 26,.load false 1 (.t 25),none,0,[]⟩,
  ⟨some 27,.fad (.t 6) 3,none,0,[]⟩,
  ⟨some 28,.load false 1 (.t 27),none,0,[]⟩,
  ⟨some 29,.mov (.t 3),none,0,[]⟩,
  ⟨some 30,.mov (.t 2),none,0,[]⟩,
  ⟨some 31,.mov (.t 4),none,0,[]⟩,
  ⟨some 32,.build [.sc (.int .i64 0),.sc (.int .i64 0),.sc (.string ⟨#[]⟩),.sc (.string ⟨#[]⟩),.sc (.bool false),.sc (.int .i64 0)] [(0,1,.t 24),(1,1,.t 26),(2,1,.t 28),(3,1,.t 29),(4,1,.t 30),(5,1,.t 31)],none,0,[]⟩,
  ⟨some 33,.bsl 60 6 (.a [.s,.s,.s,.s,.s,.s]) [.t 32],none,0,[]⟩,
  ⟨some 34,.app 60 64 (.t 22) (.t 33),none,0,[]⟩,
  ⟨some 35,.nck (.t 18),none,0,[]⟩,
  ⟨some 36,.fad (.t 35) 10,none,0,[]⟩,
  ⟨none,.store 1 (.t 36) (.t 34),none,0,[]⟩]) (.region [⟨some 37,.mov (.t 0),none,0,[]⟩,
  ⟨some 38,.mov (.t 0),none,0,[]⟩,
  ⟨some 39,.nck (.t 38),none,0,[]⟩,
  ⟨some 40,.fad (.t 39) 10,none,0,[]⟩,
  ⟨some 41,.load false 1 (.t 40),none,0,[]⟩,
  ⟨some 42,.mov (.t 0),none,0,[]⟩,
  ⟨some 43,.nck (.t 42),none,0,[]⟩,
  ⟨some 44,.fad (.t 43) 10,none,0,[]⟩,
  ⟨some 45,.load false 1 (.t 44),none,0,[]⟩,
  ⟨some 46,.len false (.t 45),none,0,[]⟩,
  ⟨some 47,.bin .sub .num (.t 46) (.c (.sc (.int .i64 16))),none,0,[]⟩,
  ⟨some 48,.mx true [.c (.sc (.int .i64 0)),.t 47],none,0,[]⟩,
  ⟨some 49,.sls 60 (.t 41) (some (.t 48)) none,none,0,[]⟩,
  ⟨some 50,.call 53 [.l 60] [.t 49],none,0,[]⟩,
  ⟨some 51,.nck (.t 37),none,0,[]⟩,
  ⟨some 52,.fad (.t 51) 10,none,0,[]⟩,
  ⟨none,.store 1 (.t 52) (.t 50),none,0,[]⟩]))
def zwk:Cd:=zC0
def zI9 (c0:Cd):Fn:=⟨53,[],[],.mv,
 (.seq (.region [⟨some 6,.box 67 14 (.t 1),none,0,[]⟩]) (.seq (.seq (.region [⟨some 10,.fad (.t 6) 1,none,0,[]⟩,
  ⟨some 11,.load false 1 (.t 10),none,0,[]⟩,
  ⟨some 12,.bin .neq .num (.t 11) (.c (.sc (.int .i64 2))),none,0,[]⟩,
  ⟨some 13,.mov (.t 12),none,0,[]⟩,
  ⟨some 14,.fad (.t 6) 1,some (13,true),0,[]⟩,
  ⟨some 15,.load false 1 (.t 14),some (13,true),0,[]⟩,
  ⟨some 16,.bin .neq .num (.t 15) (.c (.sc (.int .i64 3))),some (13,true),0,[]⟩,
  ⟨some 17,.pick (.t 13) (.t 16) (.c (.sc (.bool false))),none,0,[]⟩]) (.cond (.t 17) (.ret []) .skip)) (.seg [6,3,2,4,0] [] c0)))⟩
def g220:Fn:=zI9 zwk
theorem zLO:zaj Tryz.prog .mv [1000016] 220=some g220:=by kernel_rfl
def p221:Lit (zaj Tryz.prog .lit [1000016] 221):=⟨_,by cbv⟩
def zJa:Fn:=lit (fnF p221.v [])
def g221:Fn:=zJa
theorem zLP:zaj Tryz.prog .lit [1000016] 221=some g221:=p221.h.trans (by kernel_rfl)
def p227:Lit (zaj Tryz.prog .mv [1000016,1000400081] 227):=⟨_,by cbv⟩
def zC1:Cd:=lit (bdF p227.v 0 [])
def zqk:Cd:=zC1
def zJb (c0:Cd):Fn:=lit (fnF p227.v [c0])
def g227:Fn:=zJb zqk
theorem zLS:zaj Tryz.prog .mv [1000016,1000400081] 227=some g227:=p227.h.trans (by kernel_rfl)
def p228:Lit (zaj Tryz.prog .lit [1000016] 228):=⟨_,by cbv⟩
def zJc:Fn:=lit (fnF p228.v [])
def g228:Fn:=zJc
theorem zLT:zaj Tryz.prog .lit [1000016] 228=some g228:=p228.h.trans (by kernel_rfl)
def p233:Lit (zaj Tryz.prog .mv [1000016] 233):=⟨_,by cbv⟩
def zui:Cd:=lit (bdF p233.v 0 [])
def zdW:Cd:=zui
def zzu (c0:Cd):Fn:=lit (fnF p233.v [c0])
def g233:Fn:=zzu zdW
theorem zLU:zaj Tryz.prog .mv [1000016] 233=some g233:=p233.h.trans (by kernel_rfl)
def p234:Lit (zaj Tryz.prog .lit [1000016] 234):=⟨_,by cbv⟩
def zJd:Fn:=lit (fnF p234.v [])
def g234:Fn:=zJd
theorem zLV:zaj Tryz.prog .lit [1000016] 234=some g234:=p234.h.trans (by kernel_rfl)
def p235:Lit (zaj Tryz.prog .lit [1000016] 235):=⟨_,by cbv⟩
def zJe:Fn:=lit (fnF p235.v [])
def g235:Fn:=zJe
theorem zLW:zaj Tryz.prog .lit [1000016] 235=some g235:=p235.h.trans (by kernel_rfl)
end Go.Ab.Tryz
