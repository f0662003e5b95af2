/- Our texts for this statement, merged: what its theorem leads to. -/
import Derived.Shelf.SlGeneric
import Derived.Deep.AppendLies
import Derived.Deep.RegionHeld3
import Derived.LoopTactic
import Derived.OwnWalk
import Derived.StillTactics
import Derived.Tactics
import Derived.Tactics2
import Derived.WalkKit
import Derived.WalkSpells
import Derived.RangeFuncBox
import Derived.Maps.AppendAt
import Derived.Deep.DrawnRows
import Derived.Deep.Draws
import Derived.Deep.RegionLaw
import Derived.Deep.RegionWith
import Derived.Sort.Grow
import Derived.Sort.Row
import Derived.Shelf.SlLaysF0
import Derived.Shelf.SlSortCmp.NoneTotal
import Derived.LoopIn
import Derived.LoopNIn
import Derived.OwnWalkIn
import Derived.RangeFuncCalls
import Derived.RangeFuncLeaves
import Derived.RegionIn
import Derived.Shelf.Abstract
import Derived.Shelf.RegionOpen
import Derived.TacticsInMore
import Derived.RangeFuncMany
import Derived.Test.YtjmmobicnfojeaaGreatDoorChecked
import Derived.LaidMore
import Derived.LaidOnce
import Derived.Lay
import Derived.Lib.LaidU8T
import Derived.PinnedBridge
import Derived.Test.YtjmmobicnfojeaaGreatDoorRows
import Derived.Test.YtjmmobicnfojeaaGreatDoorQServeKeeps3
namespace Go.Ab.Tryz
open Go Go.Proofs
def g65F : Fn := ⟨80, [.cell 6 true 14, .t 7], [Kh, .l 56], .lit,
 (.seq (.region [Kn 3 (.box 34 14 (.t 0)),
 Kn 5 (.box 25 2 (.t 2)),
 Kn 6 (.box 34 14 Kz),
 Kn 7 (.nil 56)]) (.seq (.seq (.region [Kn 9 (.fad (.t 5) 1),
 Kn 10 (.load false 1 (.t 9)),
 Km 11 1,
 Kn 12 (.bin .neq .num (.t 10) (.t 11)),
 Km 13 12,
 ⟨some 14, .fad (.t 5) 1, some (13, false), 0, []⟩,
 ⟨some 15, .load false 1 (.t 14), some (13, false), 0, []⟩,
 ⟨some 16, .fad (.t 3) 0, some (13, false), 0, []⟩,
 ⟨some 17, .fad (.t 16) 1, some (13, false), 0, []⟩,
 ⟨some 18, .load false 1 (.t 17), some (13, false), 0, []⟩,
 ⟨some 19, .bin .eql .num (.t 15) (.t 18), some (13, false), 0, []⟩,
 Kn 20 (.pick (.t 13) Kt (.t 19))]) (.cond (.t 20) (.seq (.region [Kn 21 (.load true 14 (.t 3)),
 ⟨none, .store 14 (.t 6) (.t 21), none, 0, []⟩,
 Kn 7 (.nil 56)]) (.ret [6, 7])) .skip)) (.seq (.region [Kn 22 (.fad (.t 3) 0),
 Kn 23 (.load true 2 (.t 22)),
 Kn 24 (.fad (.t 3) 5),
 Kn 25 (.load false 1 (.t 24)),
 Kn 26 (.load true 2 (.t 5)),
 Kn 27 (.call 121 [.a [.s, .s], .l 81, .a [.s, .s]] [.t 23, .t 25, .t 26]),
 Kn 28 (.fad (.t 3) 5),
 ⟨none, .store 1 (.t 28) (.t 27), none, 0, []⟩]) (.seq (.seq (.region [Kn 29 (.fad (.t 3) 4),
 Kn 30 (.load false 1 (.t 29)),
 Kn 31 (.len false (.t 30)),
 Kn 32 (.bin .gtr .num (.t 31) K0)]) (.cond (.t 32) (.seq (.region [Kn 33 (.fad (.t 3) 4),
 Kn 34 (.load false 1 (.t 33)),
 Kn 35 (.iadS 81 (.t 34) K0),
 Kn 36 (.fad (.t 35) 0),
 Kn 37 (.load true 2 (.t 36)),
 Kn 8 (.box 25 2 (.c (.agg [.sc (.int .u64 0), .sc (.int .u16 0)]))),
 ⟨none, .store 2 (.t 8) (.t 37), none, 0, []⟩]) (.seq (.seq (.region [Kn 38 (.fad (.t 8) 1),
 Kn 39 (.load false 1 (.t 38)),
 Kn 40 (.fad (.t 5) 1),
 Kn 41 (.load false 1 (.t 40)),
 Kn 42 (.bin .neq .num (.t 39) (.t 41)),
 Km 43 42,
 ⟨some 44, .fad (.t 8) 0, some (43, true), 0, []⟩,
 ⟨some 45, .load false 1 (.t 44), some (43, true), 0, []⟩,
 ⟨some 46, .fad (.t 5) 0, some (43, true), 0, []⟩,
 ⟨some 47, .load false 1 (.t 46), some (43, true), 0, []⟩,
 ⟨some 48, .fad (.t 3) 0, some (43, true), 0, []⟩,
 ⟨some 49, .fad (.t 48) 0, some (43, true), 0, []⟩,
 ⟨some 50, .load false 1 (.t 49), some (43, true), 0, []⟩,
 ⟨some 51, .call 116 [.s, .s, .s] [.t 45, .t 47, .t 50], some (43, true), 0, []⟩,
 ⟨some 52, .un .not (.t 51), some (43, true), 0, []⟩,
 Kn 53 (.pick (.t 43) (.t 52) Kf)]) (.cond (.t 53) (.seq (.region [Kn 54 (.load true 14 (.t 3)),
 ⟨none, .store 14 (.t 6) (.t 54), none, 0, []⟩,
 Kn 7 (.nil 56)]) (.ret [6, 7])) .skip)) (.seq (.region [Kn 55 (.load true 2 (.t 5)),
 Kn 56 (.build [.sc (.int .u64 0), .sc (.int .u16 0), .sc (.int .i64 0)] [(0, 2, .t 55)]),
 Kn 57 (.bslf 81 3 (.a [.s, .s, .s]) [.t 56]),
 Kn 58 (.fad (.t 3) 4),
 ⟨none, .store 1 (.t 58) (.t 57), none, 0, []⟩]) (.seq (.region [Kn 59 (.load true 2 (.t 8)),
 Kn 60 (.load true 2 (.t 5)),
 Kn 61 (.eqs false [.num, .num] (.t 59) (.t 60))]) (.cond (.t 61) (.seq (.region [Kn 62 (.load true 14 (.t 3)),
 ⟨none, .store 14 (.t 6) (.t 62), none, 0, []⟩,
 Kn 7 (.nil 56)]) (.ret [6, 7])) .skip))))) .skip)) (.seq (.region [Kn 63 (.load true 2 (.t 5)),
 Kn 64 (.build [.sc (.int .u64 0), .sc (.int .u16 0), .sc (.int .i64 0)] [(0, 2, .t 63)]),
 Kn 65 (.bslf 81 3 (.a [.s, .s, .s]) [.t 64]),
 Kn 66 (.fad (.t 3) 4),
 ⟨none, .store 1 (.t 66) (.t 65), none, 0, []⟩]) (.seq (.region [⟨some 67, .load true 14 (.t 3), none, 2, []⟩,
 ⟨some 68, .load true 2 (.t 5), none, 2, []⟩,
 Kn 69 (.fad (.t 3) 7),
 Kn 70 (.load false 1 (.t 69)),
 Kn 71 (.fad (.t 3) 0),
 Kn 72 (.fad (.t 71) 0),
 Kn 73 (.load false 1 (.t 72)),
 Kn 74 (.fad (.t 5) 0),
 Kn 75 (.load false 1 (.t 74)),
 ⟨some 76, .call 136 [.l 78, .s, .s] [.t 70, .t 73, .t 75], none, 1, []⟩,
 Kn 77 (.call 23 [Kh, .a [.s, .s], .l 78, .s] [.t 67, .t 68, .t 76, .c (.sc (.bool false))]),
 Kn 78 (.ext (.t 77) 0),
 Kn 79 (.ext (.t 77) 1),
 ⟨none, .store 14 (.t 6) (.t 78), none, 0, []⟩,
 Km 7 79]) (.ret [6, 7])))))))⟩
def g65 : Fn := g65F
theorem cmp65 : cmpFn Tryz.prog .lit [1000200, 60000000000057, 60000000000065, 1000700056] 65 = some g65 := by kernel_rfl
def b66_0F : Cd := (.seq (.seq (.region [Km 21 9,
 Km 22 1,
 Kn 23 (.len false (.t 22)),
 Kn 24 (.bin .lss .num (.t 21) (.t 23))]) (.cond (.t 24) .skip (.exit 0 [0]))) (.seq (.block 1 (.seq (.region [Km 28 0,
 Km 29 1,
 Km 30 9,
 Kn 31 (.iadS 78 (.t 29) (.t 30)),
 Kn 32 (.fad (.t 31) 0),
 Kn 33 (.load false 1 (.t 32)),
 Km 34 1,
 Km 35 9,
 Kn 36 (.iadS 78 (.t 34) (.t 35)),
 Kn 37 (.fad (.t 36) 1),
 Kn 38 (.load false 1 (.t 37)),
 Kn 39 (.call 77 [.l 78, .s, .s] [.t 28, .t 33, .t 38]),
 Km 27 39,
 Kn 40 (.ext (.t 27) 0),
 Kn 41 (.ext (.t 27) 1),
 Km 10 40,
 Km 11 41]) (.region [Km 42 10,
 Km 0 42]))) (.region [Km 25 9,
 Kn 26 (.bin .add .num (.t 25) K1n),
 Km 9 26])))
def b66_0 : Cd := b66_0F
def g66F (c0 : Cd) : Fn := ⟨44, [.t 6], [.l 78], .lit,
 (.seq (.region [Kn 6 (.nil 78)]) (.seq (.seq (.region [Km 12 2,
 Kn 13 (.un .not (.t 12))]) (.cond (.t 13) (.seq (.region [Km 15 0,
 Km 16 1,
 Kn 17 (.call 137 [.l 78, .l 78] [.t 15, .t 16]),
 Km 14 17,
 Kn 18 (.ext (.t 14) 0),
 Kn 19 (.ext (.t 14) 1),
 Km 7 18,
 Km 8 19]) (.seq (.region [Km 20 7,
 Km 6 20]) (.ret [6]))) .skip)) (.seq (.seq (.region [Kn 9 (.mov K0)]) (.block 0 (.loop [1, 9, 0] c0))) (.seq (.region [Km 43 0,
 Km 6 43]) (.ret [6])))))⟩
def g66 : Fn := g66F b66_0
theorem cmp66 : cmpFn Tryz.prog .lit [1000016, 1000600078] 66 = some g66 := by kernel_rfl
def g67F : Fn := ⟨13, [.t 4], [.s], .lit,
 (.seq (.region [Kn 2 (.box 34 14 (.t 0)),
 Kn 4 (.mov K0)]) (.seq (.seq (.region [Kn 5 (.fad (.t 2) 3),
 Kn 6 (.load false 1 (.t 5)),
 Kn 7 (.un .not (.t 6))]) (.cond (.t 7) (.seq (.region [Kn 4 (.mov (.c (.sc (.int .i64 17))))]) (.ret [4])) .skip)) (.seq (.seq (.region [⟨some 8, .load true 14 (.t 2), none, 2, []⟩,
 Km 9 1,
 ⟨some 10, .call 90 [.s] [.t 9], none, 1, []⟩,
 Kn 11 (.call 138 [Kh, .s] [.t 8, .t 10]),
 Kn 12 (.un .not (.t 11))]) (.cond (.t 12) (.seq (.region [Kn 4 (.mov (.c (.sc (.int .i64 14))))]) (.ret [4])) .skip)) (.seq (.region [Kn 4 (.mov K0)]) (.ret [4])))))⟩
def g67 : Fn := g67F
theorem cmp67 : cmpFn Tryz.prog .lit [1000016] 67 = some g67 := by kernel_rfl
def g68F : Fn := ⟨17, [.t 4, .t 5], [.s, .s], .lit,
 (.seq (.region [Kn 4 (.mov (.c (.sc (.string ⟨#[]⟩)))),
 Kn 5 (.mov Kf)]) (.seq (.region [Km 7 0,
 Km 8 1,
 Kn 9 (.call 139 [.l 78, .s] [.t 7, .t 8]),
 Km 6 9]) (.seq (.seq (.region [Km 10 6,
 Kn 11 (.bin .lss .num (.t 10) K0)]) (.cond (.t 11) (.seq (.region [Kn 4 (.mov (.c (.sc (.string ⟨#[]⟩)))),
 Kn 5 (.mov Kf)]) (.ret [4, 5])) .skip)) (.seq (.region [Km 12 0,
 Km 13 6,
 Kn 14 (.iadS 78 (.t 12) (.t 13)),
 Kn 15 (.fad (.t 14) 1),
 Kn 16 (.load false 1 (.t 15)),
 Km 4 16,
 Kn 5 (.mov Kt)]) (.ret [4, 5])))))⟩
def g68 : Fn := g68F
theorem cmp68 : cmpFn Tryz.prog .lit [1000016] 68 = some g68 := by kernel_rfl
def b69_0F : Cd := (.seq (.seq (.region [Km 11 5,
 Km 12 0,
 Kn 13 (.len false (.t 12)),
 Kn 14 (.bin .lss .num (.t 11) (.t 13))]) (.cond (.t 14) .skip (.exit 0 []))) (.seq (.block 1 (.seq (.region [Km 17 0,
 Km 18 5,
 Kn 19 (.iadS 81 (.t 17) (.t 18)),
 Kn 20 (.load true 3 (.t 19)),
 Km 21 1,
 Km 22 5,
 Kn 23 (.iadS 81 (.t 21) (.t 22)),
 Kn 24 (.load true 3 (.t 23)),
 Kn 25 (.eqs true [.num, .num, .num] (.t 20) (.t 24))]) (.cond (.t 25) (.seq (.region [Kn 4 (.mov Kf)]) (.ret [4])) .skip))) (.region [Km 15 5,
 Kn 16 (.bin .add .num (.t 15) K1n),
 Km 5 16])))
def b69_0 : Cd := b69_0F
def g69F (c0 : Cd) : Fn := ⟨26, [.t 4], [.s], .lit,
 (.seq (.region [Kn 4 (.mov Kf)]) (.seq (.seq (.region [Km 6 0,
 Kn 7 (.len false (.t 6)),
 Km 8 1,
 Kn 9 (.len false (.t 8)),
 Kn 10 (.bin .neq .num (.t 7) (.t 9))]) (.cond (.t 10) (.seq (.region [Kn 4 (.mov Kf)]) (.ret [4])) .skip)) (.seq (.seq (.region [Kn 5 (.mov K0)]) (.block 0 (.loop [0, 1, 5] c0))) (.seq (.region [Kn 4 (.mov Kt)]) (.ret [4])))))⟩
def g69 : Fn := g69F b69_0
theorem cmp69 : cmpFn Tryz.prog .lit [1000016] 69 = some g69 := by kernel_rfl
def b70_0F : Cd := (.seq (.seq (.region [Km 11 5,
 Km 12 0,
 Kn 13 (.len false (.t 12)),
 Kn 14 (.bin .lss .num (.t 11) (.t 13))]) (.cond (.t 14) .skip (.exit 0 []))) (.seq (.block 1 (.seq (.region [Km 17 0,
 Km 18 5,
 Kn 19 (.iadS 84 (.t 17) (.t 18)),
 Kn 20 (.load true 3 (.t 19)),
 Km 21 1,
 Km 22 5,
 Kn 23 (.iadS 84 (.t 21) (.t 22)),
 Kn 24 (.load true 3 (.t 23)),
 Kn 25 (.eqs true [.num, .num, .num] (.t 20) (.t 24))]) (.cond (.t 25) (.seq (.region [Kn 4 (.mov Kf)]) (.ret [4])) .skip))) (.region [Km 15 5,
 Kn 16 (.bin .add .num (.t 15) K1n),
 Km 5 16])))
def b70_0 : Cd := b70_0F
def g70F (c0 : Cd) : Fn := ⟨26, [.t 4], [.s], .lit,
 (.seq (.region [Kn 4 (.mov Kf)]) (.seq (.seq (.region [Km 6 0,
 Kn 7 (.len false (.t 6)),
 Km 8 1,
 Kn 9 (.len false (.t 8)),
 Kn 10 (.bin .neq .num (.t 7) (.t 9))]) (.cond (.t 10) (.seq (.region [Kn 4 (.mov Kf)]) (.ret [4])) .skip)) (.seq (.seq (.region [Kn 5 (.mov K0)]) (.block 0 (.loop [0, 1, 5] c0))) (.seq (.region [Kn 4 (.mov Kt)]) (.ret [4])))))⟩
def g70 : Fn := g70F b70_0
theorem cmp70 : cmpFn Tryz.prog .lit [1000016] 70 = some g70 := by kernel_rfl
def b71_0F : Cd := (.seq (.seq (.region [Km 11 5,
 Km 12 0,
 Kn 13 (.len false (.t 12)),
 Kn 14 (.bin .lss .num (.t 11) (.t 13))]) (.cond (.t 14) .skip (.exit 0 []))) (.seq (.block 1 (.seq (.region [Km 17 0,
 Km 18 5,
 Kn 19 (.iadS 78 (.t 17) (.t 18)),
 Kn 20 (.load true 2 (.t 19)),
 Km 21 1,
 Km 22 5,
 Kn 23 (.iadS 78 (.t 21) (.t 22)),
 Kn 24 (.load true 2 (.t 23)),
 Kn 25 (.eqs true [.str, .str] (.t 20) (.t 24))]) (.cond (.t 25) (.seq (.region [Kn 4 (.mov Kf)]) (.ret [4])) .skip))) (.region [Km 15 5,
 Kn 16 (.bin .add .num (.t 15) K1n),
 Km 5 16])))
def b71_0 : Cd := b71_0F
def g71F (c0 : Cd) : Fn := ⟨26, [.t 4], [.s], .lit,
 (.seq (.region [Kn 4 (.mov Kf)]) (.seq (.seq (.region [Km 6 0,
 Kn 7 (.len false (.t 6)),
 Km 8 1,
 Kn 9 (.len false (.t 8)),
 Kn 10 (.bin .neq .num (.t 7) (.t 9))]) (.cond (.t 10) (.seq (.region [Kn 4 (.mov Kf)]) (.ret [4])) .skip)) (.seq (.seq (.region [Kn 5 (.mov K0)]) (.block 0 (.loop [0, 1, 5] c0))) (.seq (.region [Kn 4 (.mov Kt)]) (.ret [4])))))⟩
def g71 : Fn := g71F b71_0
theorem cmp71 : cmpFn Tryz.prog .lit [1000016] 71 = some g71 := by kernel_rfl
def b72_0F : Cd := (.seq (.seq (.region [Km 11 5,
 Km 12 0,
 Kn 13 (.len false (.t 12)),
 Kn 14 (.bin .lss .num (.t 11) (.t 13))]) (.cond (.t 14) .skip (.exit 0 []))) (.seq (.block 1 (.seq (.region [Km 17 0,
 Km 18 5,
 Kn 19 (.iadS 88 (.t 17) (.t 18)),
 Kn 20 (.load true 7 (.t 19)),
 Km 21 1,
 Km 22 5,
 Kn 23 (.iadS 88 (.t 21) (.t 22)),
 Kn 24 (.load true 7 (.t 23)),
 Kn 25 (.eqs true [.num, .num, .num, .num, .num, .num, .num] (.t 20) (.t 24))]) (.cond (.t 25) (.seq (.region [Kn 4 (.mov Kf)]) (.ret [4])) .skip))) (.region [Km 15 5,
 Kn 16 (.bin .add .num (.t 15) K1n),
 Km 5 16])))
def b72_0 : Cd := b72_0F
def g72F (c0 : Cd) : Fn := ⟨26, [.t 4], [.s], .lit,
 (.seq (.region [Kn 4 (.mov Kf)]) (.seq (.seq (.region [Km 6 0,
 Kn 7 (.len false (.t 6)),
 Km 8 1,
 Kn 9 (.len false (.t 8)),
 Kn 10 (.bin .neq .num (.t 7) (.t 9))]) (.cond (.t 10) (.seq (.region [Kn 4 (.mov Kf)]) (.ret [4])) .skip)) (.seq (.seq (.region [Kn 5 (.mov K0)]) (.block 0 (.loop [0, 1, 5] c0))) (.seq (.region [Kn 4 (.mov Kt)]) (.ret [4])))))⟩
def g72 : Fn := g72F b72_0
theorem cmp72 : cmpFn Tryz.prog .lit [1000016] 72 = some g72 := by kernel_rfl
def b73_0F : Cd := (.seq (.seq (.region [Km 23 5,
 Kn 24 (.fad (.t 2) 9),
 Kn 25 (.load false 1 (.t 24)),
 Kn 26 (.len false (.t 25)),
 Kn 27 (.bin .lss .num (.t 23) (.t 26))]) (.cond (.t 27) .skip (.exit 0 [2, 3]))) (.seq (.block 1 (.seq (.region [Kn 30 (.fad (.t 2) 9),
 Kn 31 (.load false 1 (.t 30)),
 Km 32 5,
 Kn 33 (.iadS 67 (.t 31) (.t 32)),
 Kn 34 (.load true 14 (.t 33)),
 Kn 35 (.fad (.t 3) 9),
 Kn 36 (.load false 1 (.t 35)),
 Km 37 5,
 Kn 38 (.iadS 67 (.t 36) (.t 37)),
 Kn 39 (.load true 14 (.t 38)),
 Kn 40 (.eqs true [.num, .num, .num, .str, .str, .num, .num, .num, .num, .num, .bool, .num, .num, .num] (.t 34) (.t 39))]) (.cond (.t 40) (.seq (.region [Kn 4 (.mov Kf)]) (.ret [4])) .skip))) (.region [Km 28 5,
 Kn 29 (.bin .add .num (.t 28) K1n),
 Km 5 29])))
def b73_0 : Cd := b73_0F
def b73_1F : Cd := (.seq (.seq (.region [Km 41 6,
 Kn 42 (.fad (.t 2) 10),
 Kn 43 (.load false 1 (.t 42)),
 Kn 44 (.len false (.t 43)),
 Kn 45 (.bin .lss .num (.t 41) (.t 44))]) (.cond (.t 45) .skip (.exit 2 []))) (.seq (.block 3 (.seq (.region [Kn 48 (.fad (.t 2) 10),
 Kn 49 (.load false 1 (.t 48)),
 Km 50 6,
 Kn 51 (.iadS 60 (.t 49) (.t 50)),
 Kn 52 (.load true 6 (.t 51)),
 Kn 53 (.fad (.t 3) 10),
 Kn 54 (.load false 1 (.t 53)),
 Km 55 6,
 Kn 56 (.iadS 60 (.t 54) (.t 55)),
 Kn 57 (.load true 6 (.t 56)),
 Kn 58 (.eqs true [.num, .num, .str, .str, .bool, .num] (.t 52) (.t 57))]) (.cond (.t 58) (.seq (.region [Kn 4 (.mov Kf)]) (.ret [4])) .skip))) (.region [Km 46 6,
 Kn 47 (.bin .add .num (.t 46) K1n),
 Km 6 47])))
def b73_1 : Cd := b73_1F
def b73_2F (c0 : Cd) (c1 : Cd) : Cd := (.seq (.seq (.region [Kn 5 (.mov K0)]) (.block 0 (.loop [5, 2, 3] c0))) (.seq (.seq (.region [Kn 6 (.mov K0)]) (.block 2 (.loop [2, 3, 6] c1))) (.seq (.region [Kn 4 (.mov Kt)]) (.ret [4]))))
def b73_2 : Cd := b73_2F b73_0 b73_1
def g73F (c2 : Cd) : Fn := ⟨59, [.t 4], [.s], .lit,
 (.seq (.region [Kn 2 (.box 34 14 (.t 0)),
 Kn 3 (.box 34 14 (.t 1)),
 Kn 4 (.mov Kf)]) (.seq (.seq (.region [Kn 7 (.fad (.t 2) 9),
 Kn 8 (.load false 1 (.t 7)),
 Kn 9 (.len false (.t 8)),
 Kn 10 (.fad (.t 3) 9),
 Kn 11 (.load false 1 (.t 10)),
 Kn 12 (.len false (.t 11)),
 Kn 13 (.bin .neq .num (.t 9) (.t 12)),
 Km 14 13,
 ⟨some 15, .fad (.t 2) 10, some (14, false), 0, []⟩,
 ⟨some 16, .load false 1 (.t 15), some (14, false), 0, []⟩,
 ⟨some 17, .len false (.t 16), some (14, false), 0, []⟩,
 ⟨some 18, .fad (.t 3) 10, some (14, false), 0, []⟩,
 ⟨some 19, .load false 1 (.t 18), some (14, false), 0, []⟩,
 ⟨some 20, .len false (.t 19), some (14, false), 0, []⟩,
 ⟨some 21, .bin .neq .num (.t 17) (.t 20), some (14, false), 0, []⟩,
 Kn 22 (.pick (.t 14) Kt (.t 21))]) (.cond (.t 22) (.seq (.region [Kn 4 (.mov Kf)]) (.ret [4])) .skip)) (.seg [2, 3] [4] c2)))⟩
def g73 : Fn := g73F b73_2
theorem cmp73 : cmpFn Tryz.prog .lit [1000016] 73 = some g73 := by kernel_rfl
def g74F : Fn := ⟨71, [.t 4], [.s], .lit,
 (.seq (.region [Kn 2 (.box 37 11 (.t 0)),
 Kn 3 (.box 37 11 (.t 1)),
 Kn 4 (.mov Kf)]) (.seq (.seq (.region [Kn 5 (.fad (.t 2) 0),
 Kn 6 (.load false 1 (.t 5)),
 Kn 7 (.fad (.t 3) 0),
 Kn 8 (.load false 1 (.t 7)),
 Kn 9 (.bin .neq .num (.t 6) (.t 8)),
 Km 10 9,
 ⟨some 11, .fad (.t 2) 1, some (10, false), 0, []⟩,
 ⟨some 12, .load false 1 (.t 11), some (10, false), 0, []⟩,
 ⟨some 13, .fad (.t 3) 1, some (10, false), 0, []⟩,
 ⟨some 14, .load false 1 (.t 13), some (10, false), 0, []⟩,
 ⟨some 15, .bin .neq .num (.t 12) (.t 14), some (10, false), 0, []⟩,
 Kn 16 (.pick (.t 10) Kt (.t 15)),
 Km 17 16,
 ⟨some 18, .fad (.t 2) 2, some (17, false), 0, []⟩,
 ⟨some 19, .load false 1 (.t 18), some (17, false), 0, []⟩,
 ⟨some 20, .fad (.t 3) 2, some (17, false), 0, []⟩,
 ⟨some 21, .load false 1 (.t 20), some (17, false), 0, []⟩,
 ⟨some 22, .bin .neq .num (.t 19) (.t 21), some (17, false), 0, []⟩,
 Kn 23 (.pick (.t 17) Kt (.t 22)),
 Km 24 23,
 ⟨some 25, .fad (.t 2) 3, some (24, false), 0, []⟩,
 ⟨some 26, .load false 1 (.t 25), some (24, false), 0, []⟩,
 ⟨some 27, .fad (.t 3) 3, some (24, false), 0, []⟩,
 ⟨some 28, .load false 1 (.t 27), some (24, false), 0, []⟩,
 ⟨some 29, .bin .neq .bool (.t 26) (.t 28), some (24, false), 0, []⟩,
 Kn 30 (.pick (.t 24) Kt (.t 29)),
 Km 31 30,
 ⟨some 32, .fad (.t 2) 4, some (31, false), 0, []⟩,
 ⟨some 33, .load false 1 (.t 32), some (31, false), 0, []⟩,
 ⟨some 34, .fad (.t 3) 4, some (31, false), 0, []⟩,
 ⟨some 35, .load false 1 (.t 34), some (31, false), 0, []⟩,
 ⟨some 36, .bin .neq .num (.t 33) (.t 35), some (31, false), 0, []⟩,
 Kn 37 (.pick (.t 31) Kt (.t 36)),
 Km 38 37,
 ⟨some 39, .fad (.t 2) 5, some (38, false), 0, []⟩,
 ⟨some 40, .load false 1 (.t 39), some (38, false), 0, []⟩,
 ⟨some 41, .fad (.t 3) 5, some (38, false), 0, []⟩,
 ⟨some 42, .load false 1 (.t 41), some (38, false), 0, []⟩,
 ⟨some 43, .bin .neq .str (.t 40) (.t 42), some (38, false), 0, []⟩,
 Kn 44 (.pick (.t 38) Kt (.t 43)),
 Km 45 44,
 ⟨some 46, .fad (.t 2) 6, some (45, false), 0, []⟩,
 ⟨some 47, .load false 1 (.t 46), some (45, false), 0, []⟩,
 ⟨some 48, .fad (.t 3) 6, some (45, false), 0, []⟩,
 ⟨some 49, .load false 1 (.t 48), some (45, false), 0, []⟩,
 ⟨some 50, .bin .neq .str (.t 47) (.t 49), some (45, false), 0, []⟩,
 Kn 51 (.pick (.t 45) Kt (.t 50)),
 Km 52 51,
 ⟨some 53, .fad (.t 2) 7, some (52, false), 0, []⟩,
 ⟨some 54, .load true 2 (.t 53), some (52, false), 0, []⟩,
 ⟨some 55, .fad (.t 3) 7, some (52, false), 0, []⟩,
 ⟨some 56, .load true 2 (.t 55), some (52, false), 0, []⟩,
 ⟨some 57, .eqs true [.num, .num] (.t 54) (.t 56), some (52, false), 0, []⟩,
 Kn 58 (.pick (.t 52) Kt (.t 57))]) (.cond (.t 58) (.seq (.region [Kn 4 (.mov Kf)]) (.ret [4])) .skip)) (.seq (.region [Kn 59 (.fad (.t 2) 9),
 Kn 60 (.load false 1 (.t 59)),
 Kn 61 (.fad (.t 3) 9),
 Kn 62 (.load false 1 (.t 61)),
 Kn 63 (.call 140 [.l 25, .l 25] [.t 60, .t 62]),
 Km 64 63,
 ⟨some 65, .fad (.t 2) 10, some (64, true), 0, []⟩,
 ⟨some 66, .load false 1 (.t 65), some (64, true), 0, []⟩,
 ⟨some 67, .fad (.t 3) 10, some (64, true), 0, []⟩,
 ⟨some 68, .load false 1 (.t 67), some (64, true), 0, []⟩,
 ⟨some 69, .call 71 [.l 78, .l 78] [.t 66, .t 68], some (64, true), 0, []⟩,
 Kn 70 (.pick (.t 64) (.t 69) Kf),
 Km 4 70]) (.ret [4]))))⟩
def g74 : Fn := g74F
theorem cmp74 : cmpFn Tryz.prog .lit [1000016] 74 = some g74 := by kernel_rfl
def b75_0F : Cd := (.seq (.region [Km 39 8,
 Kn 40 (.mkfn 143 [.t 4]),
 Kn 41 (.call 142 [.l 78, .s] [.t 39, .t 40]),
 Km 9 41]) (.seq (.seq (.region [Km 42 9,
 Kn 43 (.bin .lss .num (.t 42) K0)]) (.cond (.t 43) (.region [Km 44 8,
 Kn 45 (.len false (.t 44)),
 Km 9 45]) .skip)) (.seq (.region [Km 46 8,
 Km 47 9,
 Kn 48 (.load false 1 (.t 4)),
 Km 49 2,
 Kn 50 (.build [.sc (.string ⟨#[]⟩), .sc (.string ⟨#[]⟩)] [(0, 1, .t 48), (1, 1, .t 49)]),
 Kn 51 (.bsl 78 2 (.a [.s, .s]) [.t 50]),
 Kn 52 (.call 144 [.l 78, .s, .l 78] [.t 46, .t 47, .t 51]),
 Km 6 52,
 Kn 7 (.mov K0)]) (.ret [6, 7]))))
def b75_0 : Cd := b75_0F
def g75F (c0 : Cd) : Fn := ⟨53, [.t 6, .t 7], [.l 78, .s], .lit,
 (.seq (.region [Kn 4 (.box 9 1 (.t 1)),
 Kn 6 (.nil 78),
 Kn 7 (.mov K0)]) (.seq (.region [Km 10 0,
 Kn 11 (.call 50 [.l 78] [.t 10]),
 Km 8 11]) (.seq (.region [Km 12 8,
 Kn 13 (.load false 1 (.t 4)),
 Kn 14 (.call 141 [.l 78, .s] [.t 12, .t 13]),
 Km 9 14]) (.seq (.block 0 (.seq (.region [Kn 16 (.load false 1 (.t 4)),
 Kn 17 (.call 24 [.s] [.t 16]),
 Kn 18 (.un .not (.t 17)),
 Km 15 18]) (.cond (.t 15) (.seq (.region [Km 19 8,
 Km 6 19,
 Kn 7 (.mov (.c (.sc (.int .i64 7))))]) (.ret [6, 7])) (.seq (.region [Km 21 2,
 Kn 22 (.len true (.t 21)),
 Kn 23 (.bin .gtr .num (.t 22) (.c (.sc (.int .i64 512)))),
 Km 20 23]) (.cond (.t 20) (.seq (.region [Km 24 8,
 Km 6 24,
 Kn 7 (.mov (.c (.sc (.int .i64 5))))]) (.ret [6, 7])) (.seq (.region [Km 26 9,
 Kn 27 (.bin .geq .num (.t 26) K0),
 Km 25 27]) (.cond (.t 25) (.seq (.region [Km 28 8,
 Km 29 9,
 Km 30 2,
 Kn 31 (.iadS 78 (.t 28) (.t 29)),
 Kn 32 (.fad (.t 31) 1),
 ⟨none, .store 1 (.t 32) (.t 30), none, 0, []⟩]) (.seq (.region [Km 33 8,
 Km 6 33,
 Kn 7 (.mov K0)]) (.ret [6, 7]))) (.seq (.region [Km 35 8,
 Kn 36 (.len false (.t 35)),
 Kn 37 (.bin .geq .num (.t 36) (.c (.sc (.int .i64 64)))),
 Km 34 37]) (.cond (.t 34) (.seq (.region [Km 38 8,
 Km 6 38,
 Kn 7 (.mov (.c (.sc (.int .i64 10))))]) (.ret [6, 7])) .skip))))))))) (.seg [8, 4, 2] [6, 7] c0)))))⟩
def g75 : Fn := g75F b75_0
theorem cmp75 : cmpFn Tryz.prog .lit [1000016, 1000600078] 75 = some g75 := by kernel_rfl
def g76F : Fn := ⟨5, [.t 2], [.l 25], .keep,
 (.seq (.region [Kn 2 (.nil 25)]) (.seq (.region [Km 3 0,
 Kn 4 (.call 145 [.l 81, .s] [.t 3, .c (.fn 146 [])]),
 Km 2 4]) (.ret [2])))⟩
def g76 : Fn := g76F
theorem cmp76 : cmpFn Tryz.prog .keep [1000016, 1000200025] 76 = some g76 := by kernel_rfl
def b77_0F : Cd := (.seq (.seq (.region [Km 37 8,
 Km 38 0,
 Kn 39 (.len false (.t 38)),
 Kn 40 (.bin .lss .num (.t 37) (.t 39)),
 Km 41 40,
 ⟨some 42, .mov (.t 1), some (41, true), 0, []⟩,
 ⟨some 43, .mov (.t 0), some (41, true), 0, []⟩,
 ⟨some 44, .mov (.t 8), some (41, true), 0, []⟩,
 ⟨some 45, .iadS 78 (.t 43) (.t 44), some (41, true), 0, []⟩,
 ⟨some 46, .fad (.t 45) 0, some (41, true), 0, []⟩,
 ⟨some 47, .load false 1 (.t 46), some (41, true), 0, []⟩,
 ⟨some 48, .call 147 [.s, .s] [.t 42, .t 47], some (41, true), 0, []⟩,
 ⟨some 49, .un .not (.t 48), some (41, true), 0, []⟩,
 Kn 50 (.pick (.t 41) (.t 49) Kf)]) (.cond (.t 50) .skip (.exit 0 [1, 2, 0, 8]))) (.block 1 (.region [Km 51 8,
 Kn 52 (.bin .add .num (.t 51) K1n),
 Km 8 52])))
def b77_0 : Cd := b77_0F
def g77F (c0 : Cd) : Fn := ⟨69, [.t 6, .t 7], [.l 78, .s], .lit,
 (.seq (.region [Kn 6 (.nil 78),
 Kn 7 (.mov K0)]) (.seq (.seq (.region [Km 11 1,
 Kn 12 (.call 25 [.s] [.t 11]),
 Kn 13 (.un .not (.t 12))]) (.cond (.t 13) (.seq (.region [Km 14 0,
 Km 6 14,
 Kn 7 (.mov (.c (.sc (.int .i64 7))))]) (.ret [6, 7])) .skip)) (.seq (.seq (.region [Km 15 2,
 Kn 16 (.len true (.t 15)),
 Kn 17 (.bin .gtr .num (.t 16) (.c (.sc (.int .i64 512))))]) (.cond (.t 17) (.seq (.region [Km 18 0,
 Km 6 18,
 Kn 7 (.mov (.c (.sc (.int .i64 5))))]) (.ret [6, 7])) .skip)) (.seq (.region [Km 19 0,
 Km 20 1,
 Kn 21 (.call 139 [.l 78, .s] [.t 19, .t 20]),
 Km 8 21]) (.seq (.seq (.region [Km 22 8,
 Kn 23 (.bin .geq .num (.t 22) K0)]) (.cond (.t 23) (.seq (.region [Kn 24 (.bsl 78 2 (.a [.s, .s]) []),
 Km 25 0,
 Kn 26 (.app 78 32 (.t 24) (.t 25)),
 Km 9 26]) (.seq (.region [Km 27 9,
 Km 28 8,
 Km 29 2,
 Kn 30 (.iadS 78 (.t 27) (.t 28)),
 Kn 31 (.fad (.t 30) 1),
 ⟨none, .store 1 (.t 31) (.t 29), none, 0, []⟩]) (.seq (.region [Km 32 9,
 Km 6 32,
 Kn 7 (.mov K0)]) (.ret [6, 7])))) .skip)) (.seq (.seq (.region [Km 33 0,
 Kn 34 (.len false (.t 33)),
 Kn 35 (.bin .gtr .num (.t 34) (.c (.sc (.int .i64 63))))]) (.cond (.t 35) (.seq (.region [Km 36 0,
 Km 6 36,
 Kn 7 (.mov (.c (.sc (.int .i64 10))))]) (.ret [6, 7])) .skip)) (.seq (.region [Kn 8 (.mov K0)]) (.seq (.block 0 (.loop [1, 2, 0, 8] c0)) (.seq (.region [Kn 53 (.bsl 78 2 (.a [.s, .s]) []),
 Km 54 0,
 Km 55 8,
 Kn 56 (.sls 78 (.t 54) none (some (.t 55))),
 Kn 57 (.app 78 32 (.t 53) (.t 56)),
 Km 10 57]) (.seq (.region [Km 58 10,
 Km 59 1,
 Km 60 2,
 Kn 61 (.build [.sc (.string ⟨#[]⟩), .sc (.string ⟨#[]⟩)] [(0, 1, .t 59), (1, 1, .t 60)]),
 Kn 62 (.bsl 78 2 (.a [.s, .s]) [.t 61]),
 Kn 63 (.app 78 32 (.t 58) (.t 62)),
 Km 10 63]) (.seq (.region [Km 64 10,
 Km 65 0,
 Km 66 8,
 Kn 67 (.sls 78 (.t 65) (some (.t 66)) none),
 Kn 68 (.app 78 32 (.t 64) (.t 67)),
 Km 6 68,
 Kn 7 (.mov K0)]) (.ret [6, 7]))))))))))))⟩
def g77 : Fn := g77F b77_0
theorem cmp77 : cmpFn Tryz.prog .lit [1000016, 1000600078] 77 = some g77 := by kernel_rfl
def b78_0F : Cd := (.seq (.seq (.region [Km 5 4,
 Km 6 0,
 Kn 7 (.len false (.t 6)),
 Kn 8 (.bin .lss .num (.t 5) (.t 7))]) (.cond (.t 8) .skip (.exit 0 [3]))) (.seq (.block 1 (.seq (.region [Km 11 0,
 Km 12 4,
 Kn 13 (.iadS 81 (.t 11) (.t 12)),
 Kn 14 (.fad (.t 13) 2),
 Kn 15 (.load false 1 (.t 14)),
 Kn 16 (.bin .lss .num (.t 15) K1n)]) (.cond (.t 16) (.region [Km 17 3,
 Km 18 0,
 Km 19 4,
 Kn 20 (.iadS 81 (.t 18) (.t 19)),
 Kn 21 (.fad (.t 20) 0),
 Kn 22 (.load true 2 (.t 21)),
 Kn 23 (.bsl 25 2 (.a [.s, .s]) [.t 22]),
 Kn 24 (.app 25 16 (.t 17) (.t 23)),
 Km 3 24]) .skip))) (.region [Km 9 4,
 Kn 10 (.bin .add .num (.t 9) K1n),
 Km 4 10])))
def b78_0 : Cd := b78_0F
def g78F (c0 : Cd) : Fn := ⟨26, [.t 2], [.l 25], .keep,
 (.seq (.region [Kn 2 (.nil 25)]) (.seq (.region [Kn 3 (.nil 25)]) (.seq (.seq (.region [Kn 4 (.mov K0)]) (.block 0 (.loop [0, 4, 3] c0))) (.seq (.region [Km 25 3,
 Km 2 25]) (.ret [2])))))⟩
def g78 : Fn := g78F b78_0
theorem cmp78 : cmpFn Tryz.prog .keep [1000016, 1000300025, 1000200025] 78 = some g78 := by kernel_rfl
def g80F : Fn := ⟨49, [.cell 10 true 14, .t 11], [Kh, .l 56], .lit,
 (.seq (.region [Kn 5 (.box 34 14 (.t 0)),
 Kn 6 (.box 25 2 (.t 1)),
 Kn 7 (.box 37 11 (.t 2)),
 Kn 10 (.box 34 14 Kz),
 Kn 11 (.nil 56)]) (.seq (.region [Kn 12 (.load true 14 (.t 5)),
 Kn 13 (.call 14 [Kh] [.t 12]),
 ⟨none, .store 14 (.t 5) (.t 13), none, 0, []⟩]) (.seq (.seq (.region [Kn 14 (.fad (.t 5) 8),
 Kn 15 (.load false 1 (.t 14)),
 Kn 16 (.len false (.t 15)),
 Kn 17 (.bin .geq .num (.t 16) (.c (.sc (.int .i64 64))))]) (.cond (.t 17) (.seq (.region [Kn 18 (.load true 14 (.t 5)),
 ⟨none, .store 14 (.t 10) (.t 18), none, 0, []⟩,
 Kn 11 (.nil 56)]) (.ret [10, 11])) .skip)) (.seq (.region [Kn 19 (.fad (.t 5) 11),
 Kn 20 (.load false 1 (.t 19)),
 Kn 21 (.bin .add .num (.t 20) (.c (.sc (.int .u32 1)))),
 Kn 22 (.fad (.t 5) 11),
 ⟨none, .store 1 (.t 22) (.t 21), none, 0, []⟩]) (.seq (.region [Kn 23 (.load true 11 (.t 7)),
 Kn 24 (.call 149 [Kg] [.t 23]),
 ⟨none, .store 11 (.t 7) (.t 24), none, 0, []⟩]) (.seq (.region [Kn 25 (.fad (.t 5) 11),
 Kn 26 (.load false 1 (.t 25)),
 Kn 27 (.fad (.t 7) 1),
 ⟨none, .store 1 (.t 27) (.t 26), none, 0, []⟩]) (.seq (.region [⟨some 28, .fad (.t 5) 8, none, 2, []⟩,
 ⟨some 29, .load false 1 (.t 28), none, 2, []⟩,
 ⟨some 30, .fad (.t 5) 11, none, 2, []⟩,
 ⟨some 31, .load false 1 (.t 30), none, 2, []⟩,
 ⟨some 32, .fad (.t 7) 0, none, 2, []⟩,
 ⟨some 33, .load false 1 (.t 32), none, 2, []⟩,
 Km 34 3,
 Km 35 4,
 ⟨some 36, .load true 2 (.t 6), none, 2, []⟩,
 Kn 37 (.load true 14 (.t 5)),
 ⟨some 38, .call 150 [Kh] [.t 37], none, 1, []⟩,
 Kn 39 (.bin .add .num (.t 38) (.c (.sc (.int .i64 8)))),
 Kn 40 (.build [.sc (.int .u32 0), .sc (.int .i64 0), .sc (.int .i64 0), .sc (.int .i64 0), .sc (.int .u64 0), .sc (.int .u16 0), .sc (.int .i64 0)] [(0, 1, .t 31), (1, 1, .t 33), (2, 1, .t 34), (3, 1, .t 35), (4, 2, .t 36), (6, 1, .t 39)]),
 Kn 41 (.bsl 88 7 (.a [.s, .s, .s, .s, .s, .s, .s]) [.t 40]),
 Kn 42 (.app 88 56 (.t 29) (.t 41)),
 Kn 43 (.fad (.t 5) 8),
 ⟨none, .store 1 (.t 43) (.t 42), none, 0, []⟩]) (.seq (.region [Kn 44 (.load true 14 (.t 5)),
 ⟨some 45, .load true 2 (.t 6), none, 2, []⟩,
 ⟨some 46, .load true 11 (.t 7), none, 2, []⟩,
 Kn 47 (.build [.sc (.int .u64 0), .sc (.int .u16 0), .sc (.int .i64 0), .sc (.int .u32 0), .sc (.int .u8 0), .sc (.bool false), .sc (.int .u64 0), .sc (.string ⟨#[]⟩), .sc (.string ⟨#[]⟩), .sc (.int .u64 0), .sc (.int .u16 0), .lit 0 true [], .lit 0 true []] [(0, 2, .t 45), (2, 11, .t 46)]),
 Kn 48 (.bsl 56 13 (.a [.s, .s, .s, .s, .s, .s, .s, .s, .s, .s, .s, .l 25, .l 78]) [.t 47]),
 ⟨none, .store 14 (.t 10) (.t 44), none, 1, []⟩,
 Km 11 48]) (.ret [10, 11])))))))))⟩
def g80 : Fn := g80F
theorem cmp80 : cmpFn Tryz.prog .lit [1000016, 1001100056] 80 = some g80 := by kernel_rfl
def g82F : Fn := ⟨47, [.cell 10 true 14, .t 11], [Kh, .l 56], .lit,
 (.seq (.region [Kn 5 (.box 34 14 (.t 0)),
 Kn 6 (.box 25 2 (.t 1)),
 Kn 7 (.box 37 11 (.t 2)),
 Kn 10 (.box 34 14 Kz),
 Kn 11 (.nil 56)]) (.seq (.seq (.region [Kn 12 (.fad (.t 5) 8),
 Kn 13 (.load false 1 (.t 12)),
 Kn 14 (.len false (.t 13)),
 Kn 15 (.bin .gtr .num (.t 14) (.c (.sc (.int .i64 63))))]) (.cond (.t 15) (.seq (.region [Kn 16 (.load true 14 (.t 5)),
 ⟨none, .store 14 (.t 10) (.t 16), none, 0, []⟩,
 Kn 11 (.nil 56)]) (.ret [10, 11])) .skip)) (.seq (.region [Kn 17 (.fad (.t 5) 11),
 Kn 18 (.load false 1 (.t 17)),
 Kn 19 (.bin .add .num (.t 18) (.c (.sc (.int .u32 1)))),
 Kn 20 (.fad (.t 5) 11),
 ⟨none, .store 1 (.t 20) (.t 19), none, 0, []⟩]) (.seq (.region [Kn 21 (.fad (.t 5) 11),
 Kn 22 (.load false 1 (.t 21)),
 Kn 23 (.fad (.t 7) 1),
 ⟨none, .store 1 (.t 23) (.t 22), none, 0, []⟩]) (.seq (.region [Kn 24 (.bsl 88 7 (.a [.s, .s, .s, .s, .s, .s, .s]) []),
 Kn 25 (.fad (.t 5) 8),
 Kn 26 (.load false 1 (.t 25)),
 ⟨some 27, .app 88 56 (.t 24) (.t 26), none, 1, []⟩,
 ⟨some 28, .fad (.t 5) 11, none, 2, []⟩,
 ⟨some 29, .load false 1 (.t 28), none, 2, []⟩,
 ⟨some 30, .fad (.t 7) 0, none, 2, []⟩,
 ⟨some 31, .load false 1 (.t 30), none, 2, []⟩,
 Km 32 3,
 Km 33 4,
 ⟨some 34, .load true 2 (.t 6), none, 2, []⟩,
 ⟨some 35, .load true 14 (.t 5), none, 2, []⟩,
 ⟨some 36, .call 151 [Kh] [.t 35], none, 1, []⟩,
 Kn 37 (.bin .add .num (.t 36) (.c (.sc (.int .i64 8)))),
 Kn 38 (.build [.sc (.int .u32 0), .sc (.int .i64 0), .sc (.int .i64 0), .sc (.int .i64 0), .sc (.int .u64 0), .sc (.int .u16 0), .sc (.int .i64 0)] [(0, 1, .t 29), (1, 1, .t 31), (2, 1, .t 32), (3, 1, .t 33), (4, 2, .t 34), (6, 1, .t 37)]),
 Kn 39 (.bsl 88 7 (.a [.s, .s, .s, .s, .s, .s, .s]) [.t 38]),
 Kn 40 (.app 88 56 (.t 27) (.t 39)),
 Kn 41 (.fad (.t 5) 8),
 ⟨none, .store 1 (.t 41) (.t 40), none, 0, []⟩]) (.seq (.region [Kn 42 (.load true 14 (.t 5)),
 ⟨some 43, .load true 2 (.t 6), none, 2, []⟩,
 ⟨some 44, .load true 11 (.t 7), none, 2, []⟩,
 Kn 45 (.build [.sc (.int .u64 0), .sc (.int .u16 0), .sc (.int .i64 0), .sc (.int .u32 0), .sc (.int .u8 0), .sc (.bool false), .sc (.int .u64 0), .sc (.string ⟨#[]⟩), .sc (.string ⟨#[]⟩), .sc (.int .u64 0), .sc (.int .u16 0), .lit 0 true [], .lit 0 true []] [(0, 2, .t 43), (2, 11, .t 44)]),
 Kn 46 (.bsl 56 13 (.a [.s, .s, .s, .s, .s, .s, .s, .s, .s, .s, .s, .l 25, .l 78]) [.t 45]),
 ⟨none, .store 14 (.t 10) (.t 42), none, 1, []⟩,
 Km 11 46]) (.ret [10, 11])))))))⟩
def g82 : Fn := g82F
theorem cmp82 : cmpFn Tryz.prog .lit [1000016, 1001100056] 82 = some g82 := by kernel_rfl
def b83_0F : Cd := (.seq (.region [Kn 7 (.nxt (.t 6)),
 Kn 8 (.ext (.t 7) 0)]) (.seq (.cond (.t 8) .skip (.exit 0 [])) (.block 1 (.seq (.region [Kn 9 (.ext (.t 7) 1),
 Kn 10 (.ext (.t 7) 2),
 Km 3 9,
 Km 4 10]) (.seq (.region [Km 11 0,
 Km 12 3,
 Km 13 4,
 Kn 14 (.call 152 [.s, .s, .s] [.t 11, .t 12, .t 13])]) (.cond (.t 14) (.seq (.region [Kn 2 (.mov Kf)]) (.ret [2])) .skip))))))
def b83_0 : Cd := b83_0F
def g83F (c0 : Cd) : Fn := ⟨15, [.t 2], [.s], .lit,
 (.seq (.region [Kn 2 (.mov Kf)]) (.seq (.seq (.region [Km 5 0,
 Kn 6 (.rng (.t 5))]) (.block 0 (.loop [6, 0] c0))) (.seq (.region [Kn 2 (.mov Kt)]) (.ret [2]))))⟩
def g83 : Fn := g83F b83_0
theorem cmp83 : cmpFn Tryz.prog .lit [1000016] 83 = some g83 := by kernel_rfl
def b84_0F : Cd := (.seq (.region [Kn 6 (.nxt (.t 5)),
 Kn 7 (.ext (.t 6) 0)]) (.seq (.cond (.t 7) .skip (.exit 0 [3])) (.block 1 (.region [Km 8 3,
 Kn 9 (.bin .add .num (.t 8) K1n),
 Km 3 9]))))
def b84_0 : Cd := b84_0F
def g84F (c0 : Cd) : Fn := ⟨11, [.t 2], [.s], .lit,
 (.seq (.region [Kn 2 (.mov K0)]) (.seq (.region [Kn 3 (.mov K0)]) (.seq (.seq (.region [Km 4 0,
 Kn 5 (.rng (.t 4))]) (.block 0 (.loop [5, 3] c0))) (.seq (.region [Km 10 3,
 Km 2 10]) (.ret [2])))))⟩
def g84 : Fn := g84F b84_0
theorem cmp84 : cmpFn Tryz.prog .lit [1000016] 84 = some g84 := by kernel_rfl
def b85_0F : Cd := (.seq (.seq (.region [Km 7 4,
 Km 8 3,
 Kn 9 (.len false (.t 8)),
 Kn 10 (.bin .lss .num (.t 7) (.t 9))]) (.cond (.t 10) .skip (.exit 0 []))) (.seq (.block 1 (.seq (.region [Km 13 3,
 Km 14 4,
 Kn 15 (.iadS 9 (.t 13) (.t 14)),
 Kn 16 (.load false 1 (.t 15)),
 Kn 17 (.call 153 [.s, .s] [.t 16, .c (.sc (.int .i64 0))]),
 Kn 18 (.bin .eql .num (.t 17) K0)]) (.cond (.t 18) (.seq (.region [Kn 2 (.mov Kf)]) (.ret [2])) .skip))) (.region [Km 11 4,
 Kn 12 (.bin .add .num (.t 11) K1n),
 Km 4 12])))
def b85_0 : Cd := b85_0F
def g85F (c0 : Cd) : Fn := ⟨19, [.t 2], [.s], .lit,
 (.seq (.region [Kn 2 (.mov Kf)]) (.seq (.region [Km 5 0,
 Kn 6 (.call 86 [.s] [.t 5]),
 Km 3 6]) (.seq (.seq (.region [Kn 4 (.mov K0)]) (.block 0 (.loop [3, 4] c0))) (.seq (.region [Kn 2 (.mov Kt)]) (.ret [2])))))⟩
def g85 : Fn := g85F b85_0
theorem cmp85 : cmpFn Tryz.prog .lit [1000016] 85 = some g85 := by kernel_rfl
def b86_0F : Cd := (.seq (.seq (.region [Km 6 4,
 Km 7 0,
 Kn 8 (.len true (.t 7)),
 Kn 9 (.bin .lss .num (.t 6) (.t 8))]) (.cond (.t 9) .skip (.exit 0 [3]))) (.block 1 (.seq (.region [Km 10 0,
 Km 11 4,
 Kn 12 (.call 153 [.s, .s] [.t 10, .t 11]),
 Km 5 12]) (.seq (.seq (.region [Km 13 5,
 Kn 14 (.bin .eql .num (.t 13) K0)]) (.cond (.t 14) (.region [Kn 5 (.mov K1n)]) .skip)) (.seq (.region [Km 15 3,
 Km 16 0,
 Km 17 4,
 Km 18 4,
 Km 19 5,
 Kn 20 (.bin .add .num (.t 18) (.t 19)),
 Kn 21 (.ssl (.t 16) (some (.t 17)) (some (.t 20))),
 Kn 22 (.bsl 9 1 (.s) [.t 21]),
 Kn 23 (.app 9 16 (.t 15) (.t 22)),
 Km 3 23]) (.region [Km 24 4,
 Km 25 5,
 Kn 26 (.bin .add .num (.t 24) (.t 25)),
 Km 4 26]))))))
def b86_0 : Cd := b86_0F
def g86F (c0 : Cd) : Fn := ⟨28, [.t 2], [.l 9], .lit,
 (.seq (.region [Kn 2 (.nil 9)]) (.seq (.region [Kn 3 (.nil 9)]) (.seq (.region [Kn 4 (.mov K0)]) (.seq (.block 0 (.loop [0, 4, 3] c0)) (.seq (.region [Km 27 3,
 Km 2 27]) (.ret [2]))))))⟩
def g86 : Fn := g86F b86_0
theorem cmp86 : cmpFn Tryz.prog .lit [1000016, 1000300009, 1000200009] 86 = some g86 := by kernel_rfl
def g88F : Fn := ⟨6, [.t 2], [.s], .lit,
 (.seq (.region [Kn 2 (.mov (.c (.sc (.int .u64 0))))]) (.seq (.region [Km 3 0,
 Kn 4 (.call 156 [.s] [.t 3]),
 Kn 5 (.call 155 [.s] [.t 4]),
 Km 2 5]) (.ret [2])))⟩
def g88 : Fn := g88F
theorem cmp88 : cmpFn Tryz.prog .lit [1000016] 88 = some g88 := by kernel_rfl
def g90F : Fn := ⟨6, [.t 2], [.s], .lit,
 (.seq (.region [Kn 2 (.mov (.c (.sc (.int .u64 0))))]) (.seq (.region [Km 3 0,
 Kn 4 (.call 159 [.s] [.t 3]),
 Kn 5 (.call 158 [.s] [.t 4]),
 Km 2 5]) (.ret [2])))⟩
def g90 : Fn := g90F
theorem cmp90 : cmpFn Tryz.prog .lit [1000016] 90 = some g90 := by kernel_rfl
def g98F : Fn := ⟨8, [.t 4], [.s], .lit,
 (.seq (.region [Kn 3 (.box 23 1 (.t 1)),
 Kn 4 (.mov K0)]) (.seq (.region [Km 5 0,
 Kn 6 (.mkfn 165 [.t 3]),
 Kn 7 (.call 164 [.l 81, .s] [.t 5, .t 6]),
 Km 4 7]) (.ret [4])))⟩
def g98 : Fn := g98F
theorem cmp98 : cmpFn Tryz.prog .lit [1000016] 98 = some g98 := by kernel_rfl
def g99F : Fn := ⟨34, [.t 6], [.s], .lit,
 (.seq (.region [Kn 3 (.box 25 2 (.t 0)),
 Kn 4 (.box 25 2 (.t 1)),
 Kn 5 (.box 25 2 (.t 2)),
 Kn 6 (.mov Kf)]) (.seq (.region [Kn 9 (.fad (.t 3) 0),
 Kn 10 (.load false 1 (.t 9)),
 Kn 11 (.fad (.t 4) 0),
 Kn 12 (.load false 1 (.t 11)),
 ⟨some 13, .call 166 [.s, .s] [.t 10, .t 12], none, 1, []⟩,
 ⟨some 14, .fad (.t 3) 0, none, 2, []⟩,
 ⟨some 15, .load false 1 (.t 14), none, 2, []⟩,
 ⟨some 16, .fad (.t 5) 0, none, 2, []⟩,
 ⟨some 17, .load false 1 (.t 16), none, 2, []⟩,
 Kn 18 (.call 166 [.s, .s] [.t 15, .t 17]),
 Km 7 13,
 Km 8 18]) (.seq (.region [Km 19 7,
 Km 20 8,
 Kn 21 (.bin .lss .num (.t 19) (.t 20)),
 Km 22 21,
 ⟨some 23, .mov (.t 7), some (22, false), 0, []⟩,
 ⟨some 24, .mov (.t 8), some (22, false), 0, []⟩,
 ⟨some 25, .bin .eql .num (.t 23) (.t 24), some (22, false), 0, []⟩,
 ⟨some 26, .mov (.t 25), some (22, false), 0, []⟩,
 ⟨some 27, .fad (.t 4) 1, some (26, true), 0, []⟩,
 ⟨some 28, .load false 1 (.t 27), some (26, true), 0, []⟩,
 ⟨some 29, .fad (.t 5) 1, some (26, true), 0, []⟩,
 ⟨some 30, .load false 1 (.t 29), some (26, true), 0, []⟩,
 ⟨some 31, .bin .lss .num (.t 28) (.t 30), some (26, true), 0, []⟩,
 ⟨some 32, .pick (.t 26) (.t 31) Kf, some (22, false), 0, []⟩,
 Kn 33 (.pick (.t 22) Kt (.t 32)),
 Km 6 33]) (.ret [6]))))⟩
def g99 : Fn := g99F
theorem cmp99 : cmpFn Tryz.prog .lit [1000016] 99 = some g99 := by kernel_rfl
def g100F : Fn := ⟨20, [.t 2], [.s], .lit,
 (.seq (.region [Kn 1 (.box 37 11 (.t 0)),
 Kn 2 (.mov K0)]) (.seq (.region [Kn 4 (.fad (.t 1) 0),
 Kn 5 (.load false 1 (.t 4)),
 Kn 6 (.call 122 [.s] [.t 5]),
 Kn 7 (.fld false 1 1 (.t 6)),
 Km 3 7]) (.seq (.seq (.region [Km 8 3,
 Kn 9 (.bin .and .num (.t 8) (.c (.sc (.int .i64 256)))),
 Kn 10 (.bin .neq .num (.t 9) K0),
 Km 11 10,
 ⟨some 12, .fad (.t 1) 3, some (11, true), 0, []⟩,
 ⟨some 13, .load false 1 (.t 12), some (11, true), 0, []⟩,
 ⟨some 14, .un .not (.t 13), some (11, true), 0, []⟩,
 Kn 15 (.pick (.t 11) (.t 14) Kf)]) (.cond (.t 15) (.region [Km 16 3,
 Kn 17 (.bin .andNot .num (.t 16) (.c (.sc (.int .i64 72)))),
 Km 3 17]) .skip)) (.seq (.region [Km 18 3,
 Kn 19 (.bin .andNot .num (.t 18) (.c (.sc (.int .i64 256)))),
 Km 2 19]) (.ret [2])))))⟩
def g100 : Fn := g100F
theorem cmp100 : cmpFn Tryz.prog .lit [1000016] 100 = some g100 := by kernel_rfl
def g101F : Fn := ⟨6, [.t 2], [.s], .lit,
 (.seq (.region [Kn 2 (.mov (.c (.sc (.string ⟨#[]⟩))))]) (.seq (.region [Km 3 0,
 Kn 4 (.call 122 [.s] [.t 3]),
 Kn 5 (.fld false 1 0 (.t 4)),
 Km 2 5]) (.ret [2])))⟩
def g101 : Fn := g101F
theorem cmp101 : cmpFn Tryz.prog .lit [1000016] 101 = some g101 := by kernel_rfl
def b102_0F : Cd := (.seq (.region [Km 39 5,
 Km 40 39,
 ⟨some 41, .fad (.t 2) 5, some (40, true), 0, []⟩,
 ⟨some 42, .load false 1 (.t 41), some (40, true), 0, []⟩,
 ⟨some 43, .fad (.t 3) 5, some (40, true), 0, []⟩,
 ⟨some 44, .load false 1 (.t 43), some (40, true), 0, []⟩,
 ⟨some 45, .bin .eql .str (.t 42) (.t 44), some (40, true), 0, []⟩,
 Kn 46 (.pick (.t 40) (.t 45) Kf),
 Km 47 46,
 ⟨some 48, .fad (.t 2) 6, some (47, true), 0, []⟩,
 ⟨some 49, .load false 1 (.t 48), some (47, true), 0, []⟩,
 ⟨some 50, .fad (.t 3) 6, some (47, true), 0, []⟩,
 ⟨some 51, .load false 1 (.t 50), some (47, true), 0, []⟩,
 ⟨some 52, .bin .eql .str (.t 49) (.t 51), some (47, true), 0, []⟩,
 Kn 53 (.pick (.t 47) (.t 52) Kf),
 Km 54 53,
 ⟨some 55, .fad (.t 2) 7, some (54, true), 0, []⟩,
 ⟨some 56, .load true 2 (.t 55), some (54, true), 0, []⟩,
 ⟨some 57, .fad (.t 3) 7, some (54, true), 0, []⟩,
 ⟨some 58, .load true 2 (.t 57), some (54, true), 0, []⟩,
 ⟨some 59, .eqs false [.num, .num] (.t 56) (.t 58), some (54, true), 0, []⟩,
 Kn 60 (.pick (.t 54) (.t 59) Kf),
 Km 61 60,
 ⟨some 62, .fad (.t 2) 9, some (61, true), 0, []⟩,
 ⟨some 63, .load false 1 (.t 62), some (61, true), 0, []⟩,
 ⟨some 64, .fad (.t 3) 9, some (61, true), 0, []⟩,
 ⟨some 65, .load false 1 (.t 64), some (61, true), 0, []⟩,
 ⟨some 66, .call 167 [.l 25, .l 25] [.t 63, .t 65], some (61, true), 0, []⟩,
 Kn 67 (.pick (.t 61) (.t 66) Kf),
 Km 68 67,
 ⟨some 69, .fad (.t 2) 10, some (68, true), 0, []⟩,
 ⟨some 70, .load false 1 (.t 69), some (68, true), 0, []⟩,
 ⟨some 71, .fad (.t 3) 10, some (68, true), 0, []⟩,
 ⟨some 72, .load false 1 (.t 71), some (68, true), 0, []⟩,
 ⟨some 73, .call 168 [.l 78, .l 78] [.t 70, .t 72], some (68, true), 0, []⟩,
 Kn 74 (.pick (.t 68) (.t 73) Kf),
 Km 4 74]) (.ret [4]))
def b102_0 : Cd := b102_0F
def g102F (c0 : Cd) : Fn := ⟨75, [.t 4], [.s], .lit,
 (.seq (.region [Kn 2 (.box 37 11 (.t 0)),
 Kn 3 (.box 37 11 (.t 1)),
 Kn 4 (.mov Kf)]) (.seq (.region [Kn 6 (.fad (.t 2) 0),
 Kn 7 (.load false 1 (.t 6)),
 Kn 8 (.fad (.t 3) 0),
 Kn 9 (.load false 1 (.t 8)),
 Kn 10 (.bin .eql .num (.t 7) (.t 9)),
 Km 11 10,
 ⟨some 12, .fad (.t 2) 1, some (11, true), 0, []⟩,
 ⟨some 13, .load false 1 (.t 12), some (11, true), 0, []⟩,
 ⟨some 14, .fad (.t 3) 1, some (11, true), 0, []⟩,
 ⟨some 15, .load false 1 (.t 14), some (11, true), 0, []⟩,
 ⟨some 16, .bin .eql .num (.t 13) (.t 15), some (11, true), 0, []⟩,
 Kn 17 (.pick (.t 11) (.t 16) Kf),
 Km 18 17,
 ⟨some 19, .fad (.t 2) 2, some (18, true), 0, []⟩,
 ⟨some 20, .load false 1 (.t 19), some (18, true), 0, []⟩,
 ⟨some 21, .fad (.t 3) 2, some (18, true), 0, []⟩,
 ⟨some 22, .load false 1 (.t 21), some (18, true), 0, []⟩,
 ⟨some 23, .bin .eql .num (.t 20) (.t 22), some (18, true), 0, []⟩,
 Kn 24 (.pick (.t 18) (.t 23) Kf),
 Km 25 24,
 ⟨some 26, .fad (.t 2) 3, some (25, true), 0, []⟩,
 ⟨some 27, .load false 1 (.t 26), some (25, true), 0, []⟩,
 ⟨some 28, .fad (.t 3) 3, some (25, true), 0, []⟩,
 ⟨some 29, .load false 1 (.t 28), some (25, true), 0, []⟩,
 ⟨some 30, .bin .eql .bool (.t 27) (.t 29), some (25, true), 0, []⟩,
 Kn 31 (.pick (.t 25) (.t 30) Kf),
 Km 32 31,
 ⟨some 33, .fad (.t 2) 4, some (32, true), 0, []⟩,
 ⟨some 34, .load false 1 (.t 33), some (32, true), 0, []⟩,
 ⟨some 35, .fad (.t 3) 4, some (32, true), 0, []⟩,
 ⟨some 36, .load false 1 (.t 35), some (32, true), 0, []⟩,
 ⟨some 37, .bin .eql .num (.t 34) (.t 36), some (32, true), 0, []⟩,
 Kn 38 (.pick (.t 32) (.t 37) Kf),
 Km 5 38]) (.seg [5, 2, 3] [4] c0)))⟩
def g102 : Fn := g102F b102_0
theorem cmp102 : cmpFn Tryz.prog .lit [1000016] 102 = some g102 := by kernel_rfl
def b103_0F : Cd := (.seq (.seq (.region [Km 49 3,
 Kn 50 (.bin .and .num (.t 49) (.c (.sc (.int .i64 64)))),
 Kn 51 (.bin .neq .num (.t 50) K0)]) (.cond (.t 51) (.region [Kn 52 (.fad (.t 1) 6),
 Kn 53 (.load false 1 (.t 52)),
 Kn 54 (.fad (.t 4) 6),
 ⟨none, .store 1 (.t 54) (.t 53), none, 0, []⟩]) .skip)) (.seq (.seq (.region [Km 55 3,
 Kn 56 (.bin .and .num (.t 55) (.c (.sc (.int .i64 128)))),
 Kn 57 (.bin .neq .num (.t 56) K0)]) (.cond (.t 57) (.region [Kn 58 (.fad (.t 1) 10),
 Kn 59 (.load false 1 (.t 58)),
 Kn 60 (.call 50 [.l 78] [.t 59]),
 Kn 61 (.fad (.t 4) 10),
 ⟨none, .store 1 (.t 61) (.t 60), none, 0, []⟩]) .skip)) (.seq (.region [Kn 62 (.load true 11 (.t 4)),
 ⟨none, .store 11 (.t 2) (.t 62), none, 0, []⟩]) (.ret [2]))))
def b103_0 : Cd := b103_0F
def b103_1F (c0 : Cd) : Cd := (.seq (.seq (.region [Km 36 3,
 Kn 37 (.bin .and .num (.t 36) (.c (.sc (.int .i64 16)))),
 Kn 38 (.bin .neq .num (.t 37) K0)]) (.cond (.t 38) (.region [Kn 39 (.fad (.t 1) 9),
 Kn 40 (.load false 1 (.t 39)),
 Kn 41 (.call 169 [.l 25] [.t 40]),
 Kn 42 (.fad (.t 4) 9),
 ⟨none, .store 1 (.t 42) (.t 41), none, 0, []⟩]) .skip)) (.seq (.seq (.region [Km 43 3,
 Kn 44 (.bin .and .num (.t 43) (.c (.sc (.int .i64 32)))),
 Kn 45 (.bin .neq .num (.t 44) K0)]) (.cond (.t 45) (.region [Kn 46 (.fad (.t 1) 5),
 Kn 47 (.load false 1 (.t 46)),
 Kn 48 (.fad (.t 4) 5),
 ⟨none, .store 1 (.t 48) (.t 47), none, 0, []⟩]) .skip)) (.seg [3, 1, 4, 2] [2] c0)))
def b103_1 : Cd := b103_1F b103_0
def b103_2F (c1 : Cd) : Cd := (.seq (.seq (.region [Km 24 3,
 Kn 25 (.bin .and .num (.t 24) (.c (.sc (.int .i64 4)))),
 Kn 26 (.bin .neq .num (.t 25) K0)]) (.cond (.t 26) (.region [Kn 27 (.fad (.t 1) 4),
 Kn 28 (.load false 1 (.t 27)),
 Kn 29 (.fad (.t 4) 4),
 ⟨none, .store 1 (.t 29) (.t 28), none, 0, []⟩]) .skip)) (.seq (.seq (.region [Km 30 3,
 Kn 31 (.bin .and .num (.t 30) (.c (.sc (.int .i64 8)))),
 Kn 32 (.bin .neq .num (.t 31) K0)]) (.cond (.t 32) (.region [Kn 33 (.fad (.t 1) 7),
 Kn 34 (.load true 2 (.t 33)),
 Kn 35 (.fad (.t 4) 7),
 ⟨none, .store 2 (.t 35) (.t 34), none, 0, []⟩]) .skip)) (.seg [3, 1, 4, 2] [2] c1)))
def b103_2 : Cd := b103_2F b103_1
def g103F (c2 : Cd) : Fn := ⟨63, [.cell 2 true 11], [Kg], .lit,
 (.seq (.region [Kn 1 (.box 37 11 (.t 0)),
 Kn 2 (.box 37 11 Ky)]) (.seq (.region [Kn 5 (.load true 11 (.t 1)),
 Kn 6 (.call 100 [Kg] [.t 5]),
 Km 3 6]) (.seq (.region [Kn 7 (.fad (.t 1) 0),
 Kn 8 (.load false 1 (.t 7)),
 Kn 9 (.fad (.t 1) 1),
 Kn 10 (.load false 1 (.t 9)),
 Kn 11 (.build [.sc (.int .i64 0), .sc (.int .u32 0), .sc (.int .u8 0), .sc (.bool false), .sc (.int .u64 0), .sc (.string ⟨#[]⟩), .sc (.string ⟨#[]⟩), .sc (.int .u64 0), .sc (.int .u16 0), .lit 0 true [], .lit 0 true []] [(0, 1, .t 8), (1, 1, .t 10)]),
 Kn 4 (.box 37 11 Ky),
 ⟨none, .store 11 (.t 4) (.t 11), none, 0, []⟩]) (.seq (.seq (.region [Km 12 3,
 Kn 13 (.bin .and .num (.t 12) K1n),
 Kn 14 (.bin .neq .num (.t 13) K0)]) (.cond (.t 14) (.region [Kn 15 (.fad (.t 1) 2),
 Kn 16 (.load false 1 (.t 15)),
 Kn 17 (.fad (.t 4) 2),
 ⟨none, .store 1 (.t 17) (.t 16), none, 0, []⟩]) .skip)) (.seq (.seq (.region [Km 18 3,
 Kn 19 (.bin .and .num (.t 18) (.c (.sc (.int .i64 2)))),
 Kn 20 (.bin .neq .num (.t 19) K0)]) (.cond (.t 20) (.region [Kn 21 (.fad (.t 1) 3),
 Kn 22 (.load false 1 (.t 21)),
 Kn 23 (.fad (.t 4) 3),
 ⟨none, .store 1 (.t 23) (.t 22), none, 0, []⟩]) .skip)) (.seg [3, 1, 4, 2] [2] c2))))))⟩
def g103 : Fn := g103F b103_2
theorem cmp103 : cmpFn Tryz.prog .lit [1000016] 103 = some g103 := by kernel_rfl
def g104F : Fn := ⟨19, [.t 4], [.s], .lit,
 (.seq (.region [Kn 2 (.box 37 11 (.t 0)),
 Kn 4 (.mov Kf)]) (.seq (.region [Km 5 1,
 Kn 6 (.bin .and .num (.t 5) (.c (.sc (.int .i64 32)))),
 Kn 7 (.bin .eql .num (.t 6) K0),
 Km 8 7,
 ⟨some 9, .fad (.t 2) 5, some (8, false), 0, []⟩,
 ⟨some 10, .load false 1 (.t 9), some (8, false), 0, []⟩,
 ⟨some 11, .call 24 [.s] [.t 10], some (8, false), 0, []⟩,
 Kn 12 (.pick (.t 8) Kt (.t 11)),
 Km 13 12,
 ⟨some 14, .fad (.t 2) 10, some (13, true), 0, []⟩,
 ⟨some 15, .load false 1 (.t 14), some (13, true), 0, []⟩,
 ⟨some 16, .call 170 [.l 78, .s] [.t 15, .c (.fn 171 [])], some (13, true), 0, []⟩,
 ⟨some 17, .un .not (.t 16), some (13, true), 0, []⟩,
 Kn 18 (.pick (.t 13) (.t 17) Kf),
 Km 4 18]) (.ret [4])))⟩
def g104 : Fn := g104F
theorem cmp104 : cmpFn Tryz.prog .lit [1000016] 104 = some g104 := by kernel_rfl
def g105F : Fn := ⟨26, [.t 2], [.s], .lit,
 (.seq (.region [Kn 1 (.box 37 11 (.t 0)),
 Kn 2 (.mov Kf)]) (.seq (.region [Kn 3 (.mov (.c (.fn 172 [])))]) (.seq (.region [Kn 4 (.fad (.t 1) 6),
 Kn 5 (.load false 1 (.t 4)),
 Kn 6 (.len true (.t 5)),
 Kn 7 (.bin .gtr .num (.t 6) (.c (.sc (.int .i64 512)))),
 Km 8 7,
 ⟨some 9, .fad (.t 1) 9, some (8, false), 0, []⟩,
 ⟨some 10, .load false 1 (.t 9), some (8, false), 0, []⟩,
 ⟨some 11, .len false (.t 10), some (8, false), 0, []⟩,
 ⟨some 12, .bin .gtr .num (.t 11) (.c (.sc (.int .i64 16))), some (8, false), 0, []⟩,
 Kn 13 (.pick (.t 8) Kt (.t 12)),
 Km 14 13,
 ⟨some 15, .fad (.t 1) 10, some (14, false), 0, []⟩,
 ⟨some 16, .load false 1 (.t 15), some (14, false), 0, []⟩,
 ⟨some 17, .len false (.t 16), some (14, false), 0, []⟩,
 ⟨some 18, .bin .gtr .num (.t 17) (.c (.sc (.int .i64 8))), some (14, false), 0, []⟩,
 Kn 19 (.pick (.t 14) Kt (.t 18)),
 Km 20 19,
 ⟨some 21, .fad (.t 1) 10, some (20, false), 0, []⟩,
 ⟨some 22, .load false 1 (.t 21), some (20, false), 0, []⟩,
 ⟨some 23, .mov (.t 3), some (20, false), 0, []⟩,
 ⟨some 24, .call 170 [.l 78, .s] [.t 22, .t 23], some (20, false), 0, []⟩,
 Kn 25 (.pick (.t 20) Kt (.t 24)),
 Km 2 25]) (.ret [2]))))⟩
def g105 : Fn := g105F
theorem cmp105 : cmpFn Tryz.prog .lit [1000016] 105 = some g105 := by kernel_rfl
def g106F : Fn := ⟨22, [.t 2], [.s], .lit,
 (.seq (.region [Kn 1 (.box 37 11 (.t 0)),
 Kn 2 (.mov Kf)]) (.seq (.seq (.region [Kn 3 (.fad (.t 1) 0),
 Kn 4 (.load false 1 (.t 3))]) (.block 0 (.seq (.region [Kn 6 (.bin .eql .num (.t 4) (.c (.sc (.int .i64 2)))),
 Km 5 6]) (.cond (.t 5) (.seq (.region [Kn 7 (.fad (.t 1) 9),
 Kn 8 (.load false 1 (.t 7)),
 Kn 9 (.len false (.t 8)),
 Kn 10 (.bin .eql .num (.t 9) K0),
 Km 2 10]) (.ret [2])) (.seq (.region [Kn 12 (.bin .eql .num (.t 4) (.c (.sc (.int .i64 10)))),
 Km 11 12]) (.cond (.t 11) (.seq (.region [Kn 13 (.fad (.t 1) 10),
 Kn 14 (.load false 1 (.t 13)),
 Kn 15 (.len false (.t 14)),
 Kn 16 (.bin .eql .num (.t 15) K0),
 Km 2 16]) (.ret [2])) (.seq (.region [Kn 18 (.bin .eql .num (.t 4) (.c (.sc (.int .i64 12)))),
 Km 17 18]) (.cond (.t 17) (.seq (.region [Kn 19 (.fad (.t 1) 2),
 Kn 20 (.load false 1 (.t 19)),
 Kn 21 (.bin .eql .num (.t 20) (.c (.sc (.int .u8 0)))),
 Km 2 21]) (.ret [2])) .skip)))))))) (.seq (.region [Kn 2 (.mov Kf)]) (.ret [2]))))⟩
def g106 : Fn := g106F
theorem cmp106 : cmpFn Tryz.prog .lit [1000016] 106 = some g106 := by kernel_rfl
def g107F : Fn := ⟨13, [.t 2], [.s], .lit,
 (.seq (.region [Kn 2 (.mov (.c (.sc (.string ⟨#[]⟩))))]) (.seq (.seq (.region [Km 3 0,
 Kn 4 (.bin .lss .num (.t 3) K1n),
 Km 5 4,
 ⟨some 6, .mov (.t 0), some (5, false), 0, []⟩,
 ⟨some 7, .bin .gtr .num (.t 6) (.c (.sc (.int .i64 12))), some (5, false), 0, []⟩,
 Kn 8 (.pick (.t 5) Kt (.t 7))]) (.cond (.t 8) (.seq (.region [Kn 2 (.mov (.c (.sc (.string ⟨#[63]⟩))))]) (.ret [2])) .skip)) (.seq (.region [Kn 9 (.call 173 [] []),
 Km 10 0,
 Kn 11 (.iadS 9 (.t 9) (.t 10)),
 Kn 12 (.load false 1 (.t 11)),
 Km 2 12]) (.ret [2]))))⟩
def g107 : Fn := g107F
theorem cmp107 : cmpFn Tryz.prog .lit [1000016] 107 = some g107 := by kernel_rfl
def g108F : Fn := ⟨85, [.cell 2 true 11], [Kg], .lit,
 (.seq (.region [Kn 1 (.box 37 11 (.t 0)),
 Kn 2 (.box 37 11 Ky)]) (.seq (.region [Kn 4 (.fad (.t 1) 0),
 Kn 5 (.load false 1 (.t 4)),
 Kn 6 (.fad (.t 1) 1),
 Kn 7 (.load false 1 (.t 6)),
 Kn 8 (.build [.sc (.int .i64 0), .sc (.int .u32 0), .sc (.int .u8 0), .sc (.bool false), .sc (.int .u64 0), .sc (.string ⟨#[]⟩), .sc (.string ⟨#[]⟩), .sc (.int .u64 0), .sc (.int .u16 0), .lit 0 true [], .lit 0 true []] [(0, 1, .t 5), (1, 1, .t 7)]),
 Kn 3 (.box 37 11 Ky),
 ⟨none, .store 11 (.t 3) (.t 8), none, 0, []⟩]) (.seq (.seq (.region [Kn 9 (.fad (.t 1) 0),
 Kn 10 (.load false 1 (.t 9))]) (.block 0 (.seq (.region [Kn 12 (.bin .eql .num (.t 10) K1n),
 Km 11 12]) (.cond (.t 11) (.region [Kn 13 (.fad (.t 1) 4),
 Kn 14 (.load false 1 (.t 13)),
 Kn 15 (.fad (.t 3) 4),
 ⟨none, .store 1 (.t 15) (.t 14), none, 0, []⟩]) (.seq (.region [Kn 17 (.bin .eql .num (.t 10) (.c (.sc (.int .i64 2)))),
 Km 16 17]) (.cond (.t 16) (.seq (.region [Kn 18 (.fad (.t 1) 3),
 Kn 19 (.load false 1 (.t 18)),
 Kn 20 (.fad (.t 3) 3),
 ⟨none, .store 1 (.t 20) (.t 19), none, 0, []⟩]) (.region [Kn 21 (.bsl 25 2 (.a [.s, .s]) []),
 Kn 22 (.fad (.t 1) 9),
 Kn 23 (.load false 1 (.t 22)),
 Kn 24 (.app 25 16 (.t 21) (.t 23)),
 Kn 25 (.fad (.t 3) 9),
 ⟨none, .store 1 (.t 25) (.t 24), none, 0, []⟩])) (.seq (.region [Kn 27 (.bin .eql .num (.t 10) (.c (.sc (.int .i64 4)))),
 Km 26 27]) (.cond (.t 26) (.seq (.region [Kn 28 (.fad (.t 1) 3),
 Kn 29 (.load false 1 (.t 28)),
 Kn 30 (.fad (.t 3) 3),
 ⟨none, .store 1 (.t 30) (.t 29), none, 0, []⟩]) (.seq (.region [Kn 31 (.bsl 25 2 (.a [.s, .s]) []),
 Kn 32 (.fad (.t 1) 9),
 Kn 33 (.load false 1 (.t 32)),
 Kn 34 (.app 25 16 (.t 31) (.t 33)),
 Kn 35 (.fad (.t 3) 9),
 ⟨none, .store 1 (.t 35) (.t 34), none, 0, []⟩]) (.seq (.region [Kn 36 (.fad (.t 1) 3),
 Kn 37 (.load false 1 (.t 36))]) (.cond (.t 37) (.region [Kn 38 (.fad (.t 1) 7),
 Kn 39 (.load true 2 (.t 38)),
 Kn 40 (.fad (.t 3) 7),
 ⟨none, .store 2 (.t 40) (.t 39), none, 0, []⟩]) .skip)))) (.seq (.region [Kn 42 (.bin .eql .num (.t 10) (.c (.sc (.int .i64 5)))),
 Km 41 42]) (.cond (.t 41) (.region [Kn 43 (.fad (.t 1) 7),
 Kn 44 (.load true 2 (.t 43)),
 Kn 45 (.fad (.t 3) 7),
 ⟨none, .store 2 (.t 45) (.t 44), none, 0, []⟩]) (.seq (.region [Kn 47 (.bin .eql .num (.t 10) (.c (.sc (.int .i64 7)))),
 Km 46 47]) (.cond (.t 46) (.seq (.region [Kn 48 (.fad (.t 1) 5),
 Kn 49 (.load false 1 (.t 48)),
 Kn 50 (.fad (.t 3) 5),
 ⟨none, .store 1 (.t 50) (.t 49), none, 0, []⟩]) (.region [Kn 51 (.fad (.t 1) 6),
 Kn 52 (.load false 1 (.t 51)),
 Kn 53 (.fad (.t 3) 6),
 ⟨none, .store 1 (.t 53) (.t 52), none, 0, []⟩])) (.seq (.region [Kn 55 (.bin .eql .num (.t 10) (.c (.sc (.int .i64 8)))),
 Km 54 55]) (.cond (.t 54) (.region [Kn 56 (.fad (.t 1) 5),
 Kn 57 (.load false 1 (.t 56)),
 Kn 58 (.fad (.t 3) 5),
 ⟨none, .store 1 (.t 58) (.t 57), none, 0, []⟩]) (.seq (.region [Kn 60 (.bin .eql .num (.t 10) (.c (.sc (.int .i64 9)))),
 Km 59 60]) (.cond (.t 59) (.seq (.region [Kn 61 (.fad (.t 1) 3),
 Kn 62 (.load false 1 (.t 61)),
 Kn 63 (.fad (.t 3) 3),
 ⟨none, .store 1 (.t 63) (.t 62), none, 0, []⟩]) (.seq (.region [Kn 64 (.fad (.t 1) 3),
 Kn 65 (.load false 1 (.t 64))]) (.cond (.t 65) (.region [Kn 66 (.fad (.t 1) 6),
 Kn 67 (.load false 1 (.t 66)),
 Kn 68 (.fad (.t 3) 6),
 ⟨none, .store 1 (.t 68) (.t 67), none, 0, []⟩]) .skip))) (.seq (.region [Kn 70 (.bin .eql .num (.t 10) (.c (.sc (.int .i64 10)))),
 Km 69 70]) (.cond (.t 69) (.seq (.region [Kn 71 (.fad (.t 1) 3),
 Kn 72 (.load false 1 (.t 71)),
 Kn 73 (.fad (.t 3) 3),
 ⟨none, .store 1 (.t 73) (.t 72), none, 0, []⟩]) (.region [Kn 74 (.bsl 78 2 (.a [.s, .s]) []),
 Kn 75 (.fad (.t 1) 10),
 Kn 76 (.load false 1 (.t 75)),
 Kn 77 (.app 78 32 (.t 74) (.t 76)),
 Kn 78 (.fad (.t 3) 10),
 ⟨none, .store 1 (.t 78) (.t 77), none, 0, []⟩])) (.seq (.region [Kn 80 (.bin .eql .num (.t 10) (.c (.sc (.int .i64 12)))),
 Km 79 80]) (.cond (.t 79) (.region [Kn 81 (.fad (.t 1) 2),
 Kn 82 (.load false 1 (.t 81)),
 Kn 83 (.fad (.t 3) 2),
 ⟨none, .store 1 (.t 83) (.t 82), none, 0, []⟩]) .skip)))))))))))))))))))) (.seq (.region [Kn 84 (.load true 11 (.t 3)),
 ⟨none, .store 11 (.t 2) (.t 84), none, 0, []⟩]) (.ret [2])))))⟩
def g108 : Fn := g108F
theorem cmp108 : cmpFn Tryz.prog .lit [1000016] 108 = some g108 := by kernel_rfl
def g116F : Fn := ⟨22, [.t 6], [.s], .lit,
 (.seq (.region [Kn 6 (.mov Kf)]) (.seq (.seq (.region [Km 7 0,
 Km 8 2,
 Kn 9 (.bin .eql .num (.t 7) (.t 8))]) (.cond (.t 9) (.seq (.region [Km 10 1,
 Km 11 0,
 Kn 12 (.bin .neq .num (.t 10) (.t 11)),
 Km 6 12]) (.ret [6])) .skip)) (.seq (.region [Km 13 1,
 Km 14 2,
 Kn 15 (.bin .neq .num (.t 13) (.t 14)),
 Km 16 15,
 ⟨some 17, .mov (.t 0), some (16, true), 0, []⟩,
 ⟨some 18, .mov (.t 1), some (16, true), 0, []⟩,
 ⟨some 19, .mov (.t 2), some (16, true), 0, []⟩,
 ⟨some 20, .call 134 [.s, .s, .s] [.t 17, .t 18, .t 19], some (16, true), 0, []⟩,
 Kn 21 (.pick (.t 16) (.t 20) Kf),
 Km 6 21]) (.ret [6]))))⟩
def g116 : Fn := g116F
theorem cmp116 : cmpFn Tryz.prog .lit [1000016] 116 = some g116 := by kernel_rfl
def b121_0F : Cd := (.cond (.t 33) (.seq (.region [Kn 34 (.bsl 81 3 (.a [.s, .s, .s]) []),
 Km 35 1,
 Kn 36 (.app 81 24 (.t 34) (.t 35)),
 Km 8 36]) (.seq (.region [Km 37 8,
 Km 38 7,
 Kn 39 (.iadS 81 (.t 37) (.t 38)),
 Kn 40 (.fad (.t 39) 2),
 ⟨none, .store 1 (.t 40) K0, none, 0, []⟩]) (.seq (.region [Km 41 8,
 Km 6 41]) (.ret [6])))) .skip)
def b121_0 : Cd := b121_0F
def b121_1F : Cd := (.seq (.seq (.region [Km 46 12,
 Km 47 9,
 Kn 48 (.len false (.t 47)),
 Kn 49 (.bin .lss .num (.t 46) (.t 48))]) (.cond (.t 49) .skip (.exit 0 [11, 5, 10]))) (.seq (.block 1 (.seq (.seq (.region [Km 52 11,
 Kn 53 (.un .not (.t 52)),
 Km 54 53,
 ⟨some 55, .load true 2 (.t 3), some (54, true), 0, []⟩,
 ⟨some 56, .load true 2 (.t 5), some (54, true), 0, []⟩,
 ⟨some 57, .mov (.t 9), some (54, true), 0, []⟩,
 ⟨some 58, .mov (.t 12), some (54, true), 0, []⟩,
 ⟨some 59, .iadS 81 (.t 57) (.t 58), some (54, true), 0, []⟩,
 ⟨some 60, .fad (.t 59) 0, some (54, true), 0, []⟩,
 ⟨some 61, .load true 2 (.t 60), some (54, true), 0, []⟩,
 ⟨some 62, .call 188 [.a [.s, .s], .a [.s, .s], .a [.s, .s]] [.t 55, .t 56, .t 61], some (54, true), 0, []⟩,
 Kn 63 (.pick (.t 54) (.t 62) Kf)]) (.cond (.t 63) (.seq (.region [Km 64 10,
 Kn 65 (.load true 2 (.t 5)),
 Kn 66 (.build [.sc (.int .u64 0), .sc (.int .u16 0), .sc (.int .i64 0)] [(0, 2, .t 65)]),
 Kn 67 (.bsl 81 3 (.a [.s, .s, .s]) [.t 66]),
 Kn 68 (.app 81 24 (.t 64) (.t 67)),
 Km 10 68]) (.region [Kn 11 (.mov Kt)])) .skip)) (.region [Km 69 10,
 Km 70 9,
 Km 71 12,
 Kn 72 (.iadS 81 (.t 70) (.t 71)),
 Kn 73 (.load true 3 (.t 72)),
 Kn 74 (.bsl 81 3 (.a [.s, .s, .s]) [.t 73]),
 Kn 75 (.app 81 24 (.t 69) (.t 74)),
 Km 10 75]))) (.region [Km 50 12,
 Kn 51 (.bin .add .num (.t 50) K1n),
 Km 12 51])))
def b121_1 : Cd := b121_1F
def b121_2F : Cd := (.seq (.seq (.region [Km 83 10,
 Kn 84 (.len false (.t 83)),
 Kn 85 (.bin .gtr .num (.t 84) (.c (.sc (.int .i64 15))))]) (.cond (.t 85) (.region [Km 86 10,
 Km 87 10,
 Kn 88 (.len false (.t 87)),
 Kn 89 (.bin .sub .num (.t 88) K1n),
 Kn 90 (.sls 81 (.t 86) none (some (.t 89))),
 Km 10 90]) .skip)) (.seq (.region [Km 91 10,
 Km 6 91]) (.ret [6])))
def b121_2 : Cd := b121_2F
def b121_3F (c1 : Cd) (c2 : Cd) : Cd := (.seq (.region [Km 42 1,
 Kn 43 (.fad (.t 5) 1),
 Kn 44 (.load false 1 (.t 43)),
 Kn 45 (.call 187 [.l 81, .s] [.t 42, .t 44]),
 Km 9 45]) (.seq (.region [Kn 10 (.nil 81)]) (.seq (.region [Kn 11 (.mov Kf)]) (.seq (.seq (.region [Kn 12 (.mov K0)]) (.block 0 (.loop [3, 9, 12, 11, 5, 10] c1))) (.seq (.seq (.region [Km 76 11,
 Kn 77 (.un .not (.t 76))]) (.cond (.t 77) (.region [Km 78 10,
 Kn 79 (.load true 2 (.t 5)),
 Kn 80 (.build [.sc (.int .u64 0), .sc (.int .u16 0), .sc (.int .i64 0)] [(0, 2, .t 79)]),
 Kn 81 (.bsl 81 3 (.a [.s, .s, .s]) [.t 80]),
 Kn 82 (.app 81 24 (.t 78) (.t 81)),
 Km 10 82]) .skip)) (.seg [10] [6] c2))))))
def b121_3 : Cd := b121_3F b121_1 b121_2
def g121F (c0 : Cd) (c3 : Cd) : Fn := ⟨92, [.t 6], [.l 81], .lit,
 (.seq (.region [Kn 3 (.box 25 2 (.t 0)),
 Kn 5 (.box 25 2 (.t 2)),
 Kn 6 (.nil 81)]) (.seq (.seq (.region [Kn 13 (.fad (.t 5) 1),
 Kn 14 (.load false 1 (.t 13)),
 Kn 15 (.fad (.t 3) 1),
 Kn 16 (.load false 1 (.t 15)),
 Kn 17 (.bin .eql .num (.t 14) (.t 16))]) (.cond (.t 17) (.seq (.region [Km 18 1,
 Km 6 18]) (.ret [6])) .skip)) (.seq (.region [Km 19 1,
 Kn 20 (.fad (.t 5) 1),
 Kn 21 (.load false 1 (.t 20)),
 Kn 22 (.call 186 [.l 81, .s] [.t 19, .t 21]),
 Km 7 22]) (.seq (.seq (.region [Km 23 7,
 Kn 24 (.bin .geq .num (.t 23) K0),
 Km 25 24,
 ⟨some 26, .mov (.t 1), some (25, true), 0, []⟩,
 ⟨some 27, .mov (.t 7), some (25, true), 0, []⟩,
 ⟨some 28, .iadS 81 (.t 26) (.t 27), some (25, true), 0, []⟩,
 ⟨some 29, .fad (.t 28) 0, some (25, true), 0, []⟩,
 ⟨some 30, .load true 2 (.t 29), some (25, true), 0, []⟩,
 ⟨some 31, .load true 2 (.t 5), some (25, true), 0, []⟩,
 ⟨some 32, .eqs false [.num, .num] (.t 30) (.t 31), some (25, true), 0, []⟩,
 Kn 33 (.pick (.t 25) (.t 32) Kf)]) (.seg [33, 7, 1, 3, 5] [1, 3, 5] c0)) (.seg [1, 3, 5] [6] c3)))))⟩
def g121 : Fn := g121F b121_0 b121_3
theorem cmp121 : cmpFn Tryz.prog .lit [1000016, 1001000081, 1000600081] 121 = some g121 := by kernel_rfl
def g122F : Fn := ⟨17, [.cell 2 true 3], [.a [.s, .s, .l 3]], .lit,
 (.seq (.region [Kn 2 (.box 146 3 (.c (.agg [.sc (.string ⟨#[]⟩), .sc (.int .i64 0), .lit 0 true []])))]) (.seq (.region [Kn 4 (.call 189 [] []),
 Km 3 4]) (.seq (.seq (.region [Km 5 0,
 Kn 6 (.bin .lss .num (.t 5) K0),
 Km 7 6,
 ⟨some 8, .mov (.t 0), some (7, false), 0, []⟩,
 ⟨some 9, .mov (.t 3), some (7, false), 0, []⟩,
 ⟨some 10, .len false (.t 9), some (7, false), 0, []⟩,
 ⟨some 11, .bin .geq .num (.t 8) (.t 10), some (7, false), 0, []⟩,
 Kn 12 (.pick (.t 7) Kt (.t 11))]) (.cond (.t 12) (.region [Kn 0 (.mov K0)]) .skip)) (.seq (.region [Km 13 3,
 Km 14 0,
 Kn 15 (.iadS 146 (.t 13) (.t 14)),
 Kn 16 (.load true 3 (.t 15)),
 ⟨none, .store 3 (.t 2) (.t 16), none, 0, []⟩]) (.ret [2])))))⟩
def g122 : Fn := g122F
theorem cmp122 : cmpFn Tryz.prog .lit [1000016] 122 = some g122 := by kernel_rfl
def g123F : Fn := ⟨9, [], [], .mv,
 (.region [Km 4 0,
 Km 5 1,
 Kn 6 (.conv .u8 (.t 5)),
 Kn 7 (.build [.sc (.int .i64 0), .sc (.int .u32 0), .sc (.int .u8 0), .sc (.bool false), .sc (.int .u64 0), .sc (.string ⟨#[]⟩), .sc (.string ⟨#[]⟩), .sc (.int .u64 0), .sc (.int .u16 0), .lit 0 true [], .lit 0 true []] [(0, 1, .c (.sc (.int .i64 12))), (2, 1, .t 6)]),
 Kn 8 (.call 125 [.s, Kg] [.t 4, .t 7])])⟩
def g123 : Fn := g123F
theorem cmp123 : cmpFn Tryz.prog .mv [1000016] 123 = some g123 := by kernel_rfl
def b124_0F : Cd := (.seq (.seq (.region [Kn 24 (.fad (.t 2) 0),
 Kn 25 (.fad (.t 24) 0),
 Kn 26 (.load false 1 (.t 25)),
 Km 27 1,
 Km 28 7,
 Kn 29 (.iadS 25 (.t 28) K0),
 Kn 30 (.fad (.t 29) 0),
 Kn 31 (.load false 1 (.t 30)),
 Kn 32 (.call 190 [.s, .s, .s] [.t 26, .t 27, .t 31])]) (.cond (.t 32) (.seq (.region [Km 33 7,
 Kn 34 (.iadS 25 (.t 33) K0),
 Kn 35 (.load true 2 (.t 34)),
 ⟨none, .store 2 (.t 4) (.t 35), none, 0, []⟩,
 Kn 5 (.nil 25),
 Kn 6 (.mov Kt)]) (.ret [4, 5, 6])) .skip)) (.seq (.seq (.region [Kn 36 (.load true 14 (.t 2)),
 Km 37 1,
 Kn 38 (.call 191 [Kh, .s] [.t 36, .t 37])]) (.cond (.t 38) (.seq (.region [Kn 39 (.fad (.t 2) 0),
 Kn 40 (.load true 2 (.t 39)),
 ⟨none, .store 2 (.t 4) (.t 40), none, 0, []⟩,
 Kn 5 (.nil 25),
 Kn 6 (.mov Kt)]) (.ret [4, 5, 6])) .skip)) (.seq (.seq (.region [Kn 41 (.fad (.t 2) 0),
 Kn 42 (.load true 2 (.t 41)),
 Kn 43 (.fad (.t 2) 5),
 Kn 44 (.load false 1 (.t 43)),
 Kn 45 (.fad (.t 2) 6),
 Kn 46 (.load false 1 (.t 45)),
 Km 47 1,
 Kn 48 (.call 192 [.a [.s, .s], .l 81, .l 84, .s, .s] [.t 42, .t 44, .t 46, .t 47, .c (.sc (.int .i64 4))]),
 Km 8 48]) (.seq (.region [Km 49 8,
 Kn 50 (.len false (.t 49)),
 Kn 51 (.bin .gtr .num (.t 50) K0)]) (.cond (.t 51) (.seq (.region [Kn 52 (.build [.sc (.int .u64 0), .sc (.int .u16 0)] []),
 Km 53 8,
 ⟨none, .store 2 (.t 4) (.t 52), none, 0, []⟩,
 Km 5 53,
 Kn 6 (.mov Kf)]) (.ret [4, 5, 6])) .skip))) (.seq (.region [Kn 54 (.fad (.t 2) 0),
 Kn 55 (.load true 2 (.t 54)),
 ⟨none, .store 2 (.t 4) (.t 55), none, 0, []⟩,
 Kn 5 (.nil 25),
 Kn 6 (.mov Kt)]) (.ret [4, 5, 6])))))
def b124_0 : Cd := b124_0F
def g124F (c0 : Cd) : Fn := ⟨56, [.cell 4 true 2, .t 5, .t 6], [.a [.s, .s], .l 25, .s], .lit,
 (.seq (.region [Kn 2 (.box 34 14 (.t 0)),
 Kn 4 (.box 25 2 (.c (.agg [.sc (.int .u64 0), .sc (.int .u16 0)]))),
 Kn 5 (.nil 25),
 Kn 6 (.mov Kf)]) (.seq (.region [Kn 9 (.fad (.t 2) 5),
 Kn 10 (.load false 1 (.t 9)),
 Kn 11 (.call 76 [.l 81] [.t 10]),
 Km 7 11]) (.seq (.seq (.region [Km 12 7,
 Kn 13 (.len false (.t 12)),
 Kn 14 (.bin .eql .num (.t 13) K0),
 Km 15 14,
 ⟨some 16, .mov (.t 1), some (15, false), 0, []⟩,
 ⟨some 17, .fad (.t 2) 0, some (15, false), 0, []⟩,
 ⟨some 18, .fad (.t 17) 0, some (15, false), 0, []⟩,
 ⟨some 19, .load false 1 (.t 18), some (15, false), 0, []⟩,
 ⟨some 20, .bin .eql .num (.t 16) (.t 19), some (15, false), 0, []⟩,
 Kn 21 (.pick (.t 15) Kt (.t 20))]) (.cond (.t 21) (.seq (.region [Kn 22 (.fad (.t 2) 0),
 Kn 23 (.load true 2 (.t 22)),
 ⟨none, .store 2 (.t 4) (.t 23), none, 0, []⟩,
 Kn 5 (.nil 25),
 Kn 6 (.mov Kt)]) (.ret [4, 5, 6])) .skip)) (.seg [7, 1, 2, 4] [4, 5, 6] c0))))⟩
def g124 : Fn := g124F b124_0
theorem cmp124 : cmpFn Tryz.prog .lit [1000016, 1000500025] 124 = some g124 := by kernel_rfl
def g125F : Fn := ⟨26, [], [], .mv,
 (.seq (.region [Kn 3 (.box 37 11 (.t 1))]) (.seq (.region [Km 4 0,
 Kn 5 (.nck (.t 4)),
 Kn 6 (.fad (.t 5) 15),
 Kn 7 (.fad (.t 6) 1),
 Kn 8 (.load false 1 (.t 7)),
 Kn 9 (.fad (.t 3) 1),
 ⟨none, .store 1 (.t 9) (.t 8), none, 0, []⟩]) (.region [Km 10 0,
 Km 11 0,
 Kn 12 (.nck (.t 11)),
 Kn 13 (.fad (.t 12) 26),
 Kn 14 (.load false 1 (.t 13)),
 Km 15 0,
 Kn 16 (.nck (.t 15)),
 Kn 17 (.fad (.t 16) 14),
 Kn 18 (.load false 1 (.t 17)),
 Kn 19 (.build [.sc (.int .u64 0), .sc (.int .u16 0)] [(1, 1, .t 18)]),
 Kn 20 (.load true 11 (.t 3)),
 Kn 21 (.build [.sc (.int .u64 0), .sc (.int .u16 0), .sc (.int .i64 0), .sc (.int .u32 0), .sc (.int .u8 0), .sc (.bool false), .sc (.int .u64 0), .sc (.string ⟨#[]⟩), .sc (.string ⟨#[]⟩), .sc (.int .u64 0), .sc (.int .u16 0), .lit 0 true [], .lit 0 true []] [(0, 2, .t 19), (2, 11, .t 20)]),
 Kn 22 (.bsl 56 13 (.a [.s, .s, .s, .s, .s, .s, .s, .s, .s, .s, .s, .l 25, .l 78]) [.t 21]),
 Kn 23 (.app 56 136 (.t 14) (.t 22)),
 Kn 24 (.nck (.t 10)),
 Kn 25 (.fad (.t 24) 26),
 ⟨none, .store 1 (.t 25) (.t 23), none, 0, []⟩])))⟩
def g125 : Fn := g125F
theorem cmp125 : cmpFn Tryz.prog .mv [1000016] 125 = some g125 := by kernel_rfl
def g126F : Fn := ⟨5, [.t 2], [.l 25], .lit,
 (.seq (.region [Kn 2 (.nil 25)]) (.seq (.region [Km 3 0,
 Kn 4 (.call 145 [.l 81, .s] [.t 3, .c (.fn 193 [])]),
 Km 2 4]) (.ret [2])))⟩
def g126 : Fn := g126F
theorem cmp126 : cmpFn Tryz.prog .lit [1000016, 1000200025] 126 = some g126 := by kernel_rfl
def b127_0F : Cd := (.seq (.region [Km 49 7,
 Km 50 9,
 Kn 51 (.load true 2 (.t 5)),
 Kn 52 (.build [.sc (.int .u64 0), .sc (.int .u16 0), .sc (.int .i64 0)] [(0, 2, .t 51)]),
 Kn 53 (.bsl 81 3 (.a [.s, .s, .s]) [.t 52]),
 Kn 54 (.call 196 [.l 81, .s, .l 81] [.t 49, .t 50, .t 53]),
 Km 7 54]) (.seq (.region [Km 55 7,
 Km 56 7,
 Kn 57 (.len false (.t 56)),
 Km 58 7,
 Kn 59 (.len false (.t 58)),
 Kn 60 (.bin .sub .num (.t 59) K1n),
 Kn 61 (.mx true [.t 60, .c (.sc (.int .i64 15))]),
 Kn 62 (.mx false [.t 57, .t 61]),
 Kn 63 (.sls 81 (.t 55) none (some (.t 62))),
 Km 6 63]) (.ret [6])))
def b127_0 : Cd := b127_0F
def b127_1F (c0 : Cd) : Cd := (.seq (.region [Km 38 7,
 Kn 39 (.fad (.t 5) 1),
 Kn 40 (.load false 1 (.t 39)),
 Kn 41 (.call 194 [.l 81, .s] [.t 38, .t 40]),
 Km 7 41]) (.seq (.region [Km 42 7,
 Kn 43 (.mkfn 195 [.t 3, .t 5]),
 Kn 44 (.call 164 [.l 81, .s] [.t 42, .t 43]),
 Km 9 44]) (.seq (.seq (.region [Km 45 9,
 Kn 46 (.bin .lss .num (.t 45) K0)]) (.cond (.t 46) (.region [Km 47 7,
 Kn 48 (.len false (.t 47)),
 Km 9 48]) .skip)) (.seg [7, 9, 5] [6] c0))))
def b127_1 : Cd := b127_1F b127_0
def g127F (c1 : Cd) : Fn := ⟨64, [.t 6], [.l 81], .lit,
 (.seq (.region [Kn 3 (.box 25 2 (.t 0)),
 Kn 5 (.box 25 2 (.t 2)),
 Kn 6 (.nil 81)]) (.seq (.region [Km 10 1,
 Kn 11 (.call 48 [.l 81] [.t 10]),
 Km 7 11]) (.seq (.seq (.region [Kn 12 (.fad (.t 5) 1),
 Kn 13 (.load false 1 (.t 12)),
 Kn 14 (.fad (.t 3) 1),
 Kn 15 (.load false 1 (.t 14)),
 Kn 16 (.bin .eql .num (.t 13) (.t 15))]) (.cond (.t 16) (.seq (.region [Km 17 7,
 Km 6 17]) (.ret [6])) .skip)) (.seq (.seq (.region [Km 18 7,
 Kn 19 (.fad (.t 5) 1),
 Kn 20 (.load false 1 (.t 19)),
 Kn 21 (.call 98 [.l 81, .s] [.t 18, .t 20]),
 Km 8 21]) (.seq (.region [Km 22 8,
 Kn 23 (.bin .geq .num (.t 22) K0),
 Km 24 23,
 ⟨some 25, .mov (.t 7), some (24, true), 0, []⟩,
 ⟨some 26, .mov (.t 8), some (24, true), 0, []⟩,
 ⟨some 27, .iadS 81 (.t 25) (.t 26), some (24, true), 0, []⟩,
 ⟨some 28, .fad (.t 27) 0, some (24, true), 0, []⟩,
 ⟨some 29, .load true 2 (.t 28), some (24, true), 0, []⟩,
 ⟨some 30, .load true 2 (.t 5), some (24, true), 0, []⟩,
 ⟨some 31, .eqs false [.num, .num] (.t 29) (.t 30), some (24, true), 0, []⟩,
 Kn 32 (.pick (.t 24) (.t 31) Kf)]) (.cond (.t 32) (.seq (.region [Km 33 7,
 Km 34 8,
 Kn 35 (.iadS 81 (.t 33) (.t 34)),
 Kn 36 (.fad (.t 35) 2),
 ⟨none, .store 1 (.t 36) K0, none, 0, []⟩]) (.seq (.region [Km 37 7,
 Km 6 37]) (.ret [6]))) .skip))) (.seg [7, 3, 5] [6] c1)))))⟩
def g127 : Fn := g127F b127_1
theorem cmp127 : cmpFn Tryz.prog .lit [1000016, 1000600081] 127 = some g127 := by kernel_rfl
def g128F : Fn := ⟨24, [.t 6], [.s], .lit,
 (.seq (.region [Kn 6 (.mov Kf)]) (.seq (.region [Km 7 1,
 Km 8 0,
 Kn 9 (.bin .neq .num (.t 7) (.t 8)),
 Km 10 9,
 ⟨some 11, .mov (.t 0), some (10, true), 0, []⟩,
 ⟨some 12, .mov (.t 2), some (10, true), 0, []⟩,
 ⟨some 13, .bin .eql .num (.t 11) (.t 12), some (10, true), 0, []⟩,
 ⟨some 14, .mov (.t 13), some (10, true), 0, []⟩,
 ⟨some 15, .mov (.t 0), some (14, false), 0, []⟩,
 ⟨some 16, .mov (.t 1), some (14, false), 0, []⟩,
 ⟨some 17, .call 166 [.s, .s] [.t 15, .t 16], some (14, false), 0, []⟩,
 ⟨some 18, .mov (.t 0), some (14, false), 0, []⟩,
 ⟨some 19, .mov (.t 2), some (14, false), 0, []⟩,
 ⟨some 20, .call 166 [.s, .s] [.t 18, .t 19], some (14, false), 0, []⟩,
 ⟨some 21, .bin .lss .num (.t 17) (.t 20), some (14, false), 0, []⟩,
 ⟨some 22, .pick (.t 14) Kt (.t 21), some (10, true), 0, []⟩,
 Kn 23 (.pick (.t 10) (.t 22) Kf),
 Km 6 23]) (.ret [6])))⟩
def g128 : Fn := g128F
theorem cmp128 : cmpFn Tryz.prog .lit [1000016] 128 = some g128 := by kernel_rfl
def g129F : Fn := ⟨31, [], [], .mv,
 (.seq (.region [Kn 4 (.box 25 2 (.t 1))]) (.seq (.seq (.region [Kn 6 (.box 34 14 Kz)]) (.region [Km 9 0,
 ⟨some 10, .nck (.t 9), none, 0, [6]⟩,
 ⟨some 11, .fad (.t 10) 0, none, 0, [6]⟩,
 ⟨some 12, .load true 14 (.t 11), none, 0, [6]⟩,
 ⟨some 13, .load true 2 (.t 4), none, 0, [6]⟩,
 Km 14 2,
 ⟨some 15, .call 22 [Kh, .a [.s, .s], .l 78, .s] [.t 12, .t 13, .t 14, .c (.sc (.bool false))], none, 0, [6]⟩,
 Km 8 15,
 Kn 16 (.ext (.t 8) 0),
 Kn 17 (.ext (.t 8) 1),
 Km 6 6,
 ⟨none, .store 14 (.t 6) (.t 16), none, 0, []⟩,
 Km 7 17])) (.region [Km 18 0,
 Km 19 0,
 ⟨some 20, .load true 14 (.t 6), none, 2, []⟩,
 Km 21 0,
 Kn 22 (.nck (.t 21)),
 Kn 23 (.fad (.t 22) 26),
 Kn 24 (.load false 1 (.t 23)),
 Km 25 7,
 ⟨some 26, .app 56 136 (.t 24) (.t 25), none, 1, []⟩,
 Kn 27 (.nck (.t 18)),
 Kn 28 (.fad (.t 27) 0),
 ⟨none, .store 14 (.t 28) (.t 20), none, 0, []⟩,
 Kn 29 (.nck (.t 19)),
 Kn 30 (.fad (.t 29) 26),
 ⟨none, .store 1 (.t 30) (.t 26), none, 0, []⟩])))⟩
def g129 : Fn := g129F
theorem cmp129 : cmpFn Tryz.prog .mv [1000016] 129 = some g129 := by kernel_rfl
def g130F : Fn := ⟨11, [.t 6], [.l 78], .lit,
 (.seq (.region [Kn 4 (.box 22 1 (.t 1)),
 Kn 5 (.box 22 1 (.t 2)),
 Kn 6 (.nil 78)]) (.seq (.region [Km 7 0,
 Kn 8 (.call 50 [.l 78] [.t 7]),
 Kn 9 (.mkfn 198 [.t 4, .t 5]),
 Kn 10 (.call 197 [.l 78, .s] [.t 8, .t 9]),
 Km 6 10]) (.ret [6])))⟩
def g130 : Fn := g130F
theorem cmp130 : cmpFn Tryz.prog .lit [1000016, 1000600078] 130 = some g130 := by kernel_rfl
def g131F : Fn := ⟨27, [.t 2], [.s], .mv,
 (.seq (.region [Kn 2 (.mov Kf)]) (.seq (.block 0 (.seq (.region [Km 4 0,
 Kn 5 (.nck (.t 4)),
 Kn 6 (.fad (.t 5) 0),
 Kn 7 (.fad (.t 6) 3),
 Kn 8 (.load false 1 (.t 7)),
 Kn 9 (.un .not (.t 8)),
 Km 3 9]) (.cond (.t 3) (.region [Km 10 0,
 Kn 11 (.call 123 [.s, .s] [.t 10, .c (.sc (.int .i64 17))])]) (.seq (.region [Km 13 0,
 ⟨some 14, .nck (.t 13), none, 2, []⟩,
 ⟨some 15, .fad (.t 14) 0, none, 2, []⟩,
 ⟨some 16, .load true 14 (.t 15), none, 2, []⟩,
 Km 17 0,
 Kn 18 (.nck (.t 17)),
 Kn 19 (.fad (.t 18) 15),
 Kn 20 (.fad (.t 19) 5),
 Kn 21 (.load false 1 (.t 20)),
 ⟨some 22, .call 88 [.s] [.t 21], none, 1, []⟩,
 Kn 23 (.call 199 [Kh, .s] [.t 16, .t 22]),
 Kn 24 (.un .not (.t 23)),
 Km 12 24]) (.cond (.t 12) (.region [Km 25 0,
 Kn 26 (.call 123 [.s, .s] [.t 25, .c (.sc (.int .i64 14))])]) (.seq (.region [Kn 2 (.mov Kt)]) (.ret [2]))))))) (.seq (.region [Kn 2 (.mov Kf)]) (.ret [2]))))⟩
def g131 : Fn := g131F
theorem cmp131 : cmpFn Tryz.prog .mv [1000016] 131 = some g131 := by kernel_rfl
def g132F : Fn := ⟨17, [.t 4, .t 5], [.s, .s], .lit,
 (.seq (.region [Kn 4 (.mov (.c (.sc (.string ⟨#[]⟩)))),
 Kn 5 (.mov Kf)]) (.seq (.region [Km 7 0,
 Km 8 1,
 Kn 9 (.call 141 [.l 78, .s] [.t 7, .t 8]),
 Km 6 9]) (.seq (.seq (.region [Km 10 6,
 Kn 11 (.bin .lss .num (.t 10) K0)]) (.cond (.t 11) (.seq (.region [Kn 4 (.mov (.c (.sc (.string ⟨#[]⟩)))),
 Kn 5 (.mov Kf)]) (.ret [4, 5])) .skip)) (.seq (.region [Km 12 0,
 Km 13 6,
 Kn 14 (.iadS 78 (.t 12) (.t 13)),
 Kn 15 (.fad (.t 14) 1),
 Kn 16 (.load false 1 (.t 15)),
 Km 4 16,
 Kn 5 (.mov Kt)]) (.ret [4, 5])))))⟩
def g132 : Fn := g132F
theorem cmp132 : cmpFn Tryz.prog .lit [1000016] 132 = some g132 := by kernel_rfl
def b133_0F : Cd := (.seq (.region [Kn 17 (.bin .lss .num (.t 16) (.t 15))]) (.seq (.cond (.t 17) .skip (.exit 0 [6, 7])) (.seq (.block 1 (.seq (.region [Kn 18 (.iadS 78 (.t 14) (.t 16)),
 Kn 19 (.load true 2 (.t 18)),
 Kn 9 (.box 78 2 (.c (.agg [.sc (.string ⟨#[]⟩), .sc (.string ⟨#[]⟩)]))),
 ⟨none, .store 2 (.t 9) (.t 19), none, 0, []⟩]) (.seq (.seq (.region [Km 20 6,
 Kn 21 (.fad (.t 9) 0),
 Kn 22 (.load false 1 (.t 21)),
 Kn 23 (.call 141 [.l 78, .s] [.t 20, .t 22]),
 Kn 24 (.bin .geq .num (.t 23) K0)]) (.cond (.t 24) (.exit 1 [16, 15, 14, 6, 7]) .skip)) (.seq (.region [Km 26 6,
 Kn 27 (.fad (.t 9) 0),
 Kn 28 (.load false 1 (.t 27)),
 Kn 29 (.fad (.t 9) 1),
 Kn 30 (.load false 1 (.t 29)),
 Kn 31 (.call 75 [.l 78, .s, .s] [.t 26, .t 28, .t 30]),
 Km 25 31,
 Kn 32 (.ext (.t 25) 0),
 Kn 33 (.ext (.t 25) 1),
 Km 10 32,
 Km 11 33]) (.seq (.seq (.region [Km 34 11,
 Kn 35 (.bin .neq .num (.t 34) K0)]) (.cond (.t 35) (.seq (.region [Km 36 11,
 Km 7 36]) (.exit 1 [16, 15, 14, 6, 7])) .skip)) (.region [Km 37 10,
 Km 6 37])))))) (.region [Kn 38 (.bin .add .num (.t 16) K1n),
 Km 16 38]))))
def b133_0 : Cd := b133_0F
def g133F (c0 : Cd) : Fn := ⟨41, [.t 4, .t 5], [.l 78, .s], .lit,
 (.seq (.region [Kn 4 (.nil 78),
 Kn 5 (.mov K0)]) (.seq (.region [Km 12 0,
 Kn 13 (.call 50 [.l 78] [.t 12]),
 Km 6 13,
 Kn 7 (.mov K0)]) (.seq (.seq (.region [Km 14 1,
 Kn 15 (.len false (.t 14)),
 Kn 16 (.mov K0)]) (.block 0 (.loop [15, 14, 16, 6, 7] c0))) (.seq (.region [Km 39 6,
 Km 40 7,
 Km 4 39,
 Km 5 40]) (.ret [4, 5])))))⟩
def g133 : Fn := g133F b133_0
theorem cmp133 : cmpFn Tryz.prog .lit [1000016, 1000400078] 133 = some g133 := by kernel_rfl
def g134F : Fn := ⟨29, [.t 6], [.s], .lit,
 (.seq (.region [Kn 6 (.mov Kf)]) (.seq (.seq (.region [Km 7 0,
 Km 8 2,
 Kn 9 (.bin .lss .num (.t 7) (.t 8))]) (.cond (.t 9) (.seq (.region [Km 10 0,
 Km 11 1,
 Kn 12 (.bin .lss .num (.t 10) (.t 11)),
 Km 13 12,
 ⟨some 14, .mov (.t 1), some (13, true), 0, []⟩,
 ⟨some 15, .mov (.t 2), some (13, true), 0, []⟩,
 ⟨some 16, .bin .leq .num (.t 14) (.t 15), some (13, true), 0, []⟩,
 Kn 17 (.pick (.t 13) (.t 16) Kf),
 Km 6 17]) (.ret [6])) .skip)) (.seq (.seq (.region [Km 18 0,
 Km 19 2,
 Kn 20 (.bin .gtr .num (.t 18) (.t 19))]) (.cond (.t 20) (.seq (.region [Km 21 1,
 Km 22 0,
 Kn 23 (.bin .gtr .num (.t 21) (.t 22)),
 Km 24 23,
 ⟨some 25, .mov (.t 1), some (24, false), 0, []⟩,
 ⟨some 26, .mov (.t 2), some (24, false), 0, []⟩,
 ⟨some 27, .bin .leq .num (.t 25) (.t 26), some (24, false), 0, []⟩,
 Kn 28 (.pick (.t 24) Kt (.t 27)),
 Km 6 28]) (.ret [6])) .skip)) (.seq (.region [Kn 6 (.mov Kt)]) (.ret [6])))))⟩
def g134 : Fn := g134F
theorem cmp134 : cmpFn Tryz.prog .lit [1000016] 134 = some g134 := by kernel_rfl
def b135_0F : Cd := (.seq (.seq (.region [Km 22 12,
 Km 23 2,
 Kn 24 (.len false (.t 23)),
 Kn 25 (.bin .lss .num (.t 22) (.t 24))]) (.cond (.t 25) .skip (.exit 0 [11, 3, 5, 4]))) (.seq (.block 1 (.region [Km 28 11,
 Km 29 2,
 Km 30 12,
 Kn 31 (.iadS 84 (.t 29) (.t 30)),
 Kn 32 (.fad (.t 31) 1),
 Kn 33 (.load true 2 (.t 32)),
 Kn 34 (.bsl 25 2 (.a [.s, .s]) [.t 33]),
 Kn 35 (.app 25 16 (.t 28) (.t 34)),
 Km 11 35])) (.region [Km 26 12,
 Kn 27 (.bin .add .num (.t 26) K1n),
 Km 12 27])))
def b135_0 : Cd := b135_0F
def b135_1F : Cd := (.seq (.seq (.region [Km 73 17,
 Km 74 14,
 Kn 75 (.len false (.t 74)),
 Kn 76 (.bin .lss .num (.t 73) (.t 75)),
 Km 77 76,
 ⟨some 78, .fad (.t 5) 0, some (77, true), 0, []⟩,
 ⟨some 79, .load false 1 (.t 78), some (77, true), 0, []⟩,
 ⟨some 80, .mov (.t 14), some (77, true), 0, []⟩,
 ⟨some 81, .mov (.t 17), some (77, true), 0, []⟩,
 ⟨some 82, .iadS 25 (.t 80) (.t 81), some (77, true), 0, []⟩,
 ⟨some 83, .fad (.t 82) 0, some (77, true), 0, []⟩,
 ⟨some 84, .load false 1 (.t 83), some (77, true), 0, []⟩,
 ⟨some 85, .call 201 [.s, .s] [.t 79, .t 84], some (77, true), 0, []⟩,
 ⟨some 86, .mov (.t 18), some (77, true), 0, []⟩,
 ⟨some 87, .bin .gtr .num (.t 85) (.t 86), some (77, true), 0, []⟩,
 ⟨some 88, .mov (.t 87), some (77, true), 0, []⟩,
 ⟨some 89, .fad (.t 5) 0, some (88, false), 0, []⟩,
 ⟨some 90, .load false 1 (.t 89), some (88, false), 0, []⟩,
 ⟨some 91, .mov (.t 14), some (88, false), 0, []⟩,
 ⟨some 92, .mov (.t 17), some (88, false), 0, []⟩,
 ⟨some 93, .iadS 25 (.t 91) (.t 92), some (88, false), 0, []⟩,
 ⟨some 94, .fad (.t 93) 0, some (88, false), 0, []⟩,
 ⟨some 95, .load false 1 (.t 94), some (88, false), 0, []⟩,
 ⟨some 96, .call 201 [.s, .s] [.t 90, .t 95], some (88, false), 0, []⟩,
 ⟨some 97, .mov (.t 18), some (88, false), 0, []⟩,
 ⟨some 98, .bin .eql .num (.t 96) (.t 97), some (88, false), 0, []⟩,
 ⟨some 99, .mov (.t 98), some (88, false), 0, []⟩,
 ⟨some 100, .mov (.t 14), some (99, true), 0, []⟩,
 ⟨some 101, .mov (.t 17), some (99, true), 0, []⟩,
 ⟨some 102, .iadS 25 (.t 100) (.t 101), some (99, true), 0, []⟩,
 ⟨some 103, .fad (.t 102) 1, some (99, true), 0, []⟩,
 ⟨some 104, .load false 1 (.t 103), some (99, true), 0, []⟩,
 ⟨some 105, .fad (.t 16) 1, some (99, true), 0, []⟩,
 ⟨some 106, .load false 1 (.t 105), some (99, true), 0, []⟩,
 ⟨some 107, .bin .lss .num (.t 104) (.t 106), some (99, true), 0, []⟩,
 ⟨some 108, .pick (.t 99) (.t 107) Kf, some (88, false), 0, []⟩,
 ⟨some 109, .pick (.t 88) Kt (.t 108), some (77, true), 0, []⟩,
 Kn 110 (.pick (.t 77) (.t 109) Kf)]) (.cond (.t 110) .skip (.exit 4 [16, 14, 17, 15, 11, 13, 3, 5, 4]))) (.block 5 (.region [Km 111 17,
 Kn 112 (.bin .add .num (.t 111) K1n),
 Km 17 112])))
def b135_1 : Cd := b135_1F
def b135_2F (c1 : Cd) : Cd := (.seq (.region [Km 57 13,
 Kn 58 (.load true 2 (.t 16)),
 Kn 59 (.bsl 25 2 (.a [.s, .s]) [.t 58]),
 Kn 60 (.app 25 16 (.t 57) (.t 59)),
 Km 13 60]) (.seq (.seq (.region [Kn 61 (.fad (.t 5) 0),
 Kn 62 (.load false 1 (.t 61)),
 Kn 63 (.fad (.t 16) 0),
 Kn 64 (.load false 1 (.t 63)),
 Km 65 3,
 Kn 66 (.call 116 [.s, .s, .s] [.t 62, .t 64, .t 65]),
 Kn 67 (.un .not (.t 66))]) (.cond (.t 67) (.exit 3 [15, 11, 13, 3, 5, 4, 14]) .skip)) (.seq (.region [Kn 17 (.mov K0)]) (.seq (.region [Kn 68 (.fad (.t 5) 0),
 Kn 69 (.load false 1 (.t 68)),
 Kn 70 (.fad (.t 16) 0),
 Kn 71 (.load false 1 (.t 70)),
 Kn 72 (.call 201 [.s, .s] [.t 69, .t 71]),
 Km 18 72]) (.seq (.block 4 (.loop [18, 16, 14, 17, 15, 11, 13, 3, 5, 4] c1)) (.seq (.region [Kn 113 (.bsl 25 2 (.a [.s, .s]) []),
 Km 114 14,
 Km 115 17,
 Kn 116 (.sls 25 (.t 114) none (some (.t 115))),
 Kn 117 (.app 25 16 (.t 113) (.t 116)),
 Km 19 117]) (.seq (.region [Km 118 19,
 Kn 119 (.load true 2 (.t 16)),
 Kn 120 (.bsl 25 2 (.a [.s, .s]) [.t 119]),
 Kn 121 (.app 25 16 (.t 118) (.t 120)),
 Km 19 121]) (.region [Km 122 19,
 Km 123 14,
 Km 124 17,
 Kn 125 (.sls 25 (.t 123) (some (.t 124)) none),
 Kn 126 (.app 25 16 (.t 122) (.t 125)),
 Kn 14 (.frz 25 (.t 126))]))))))))
def b135_2 : Cd := b135_2F b135_1
def b135_3F (c2 : Cd) : Cd := (.seq (.seq (.region [Km 36 15,
 Km 37 11,
 Kn 38 (.len false (.t 37)),
 Kn 39 (.bin .lss .num (.t 36) (.t 38))]) (.cond (.t 39) .skip (.exit 2 [4, 14]))) (.seq (.block 3 (.seq (.region [Km 42 11,
 Km 43 15,
 Kn 44 (.iadS 25 (.t 42) (.t 43)),
 Kn 45 (.load true 2 (.t 44)),
 Kn 16 (.box 25 2 (.c (.agg [.sc (.int .u64 0), .sc (.int .u16 0)]))),
 ⟨none, .store 2 (.t 16) (.t 45), none, 0, []⟩]) (.seq (.seq (.region [Km 46 13,
 Kn 47 (.fad (.t 16) 1),
 Kn 48 (.load false 1 (.t 47)),
 Kn 49 (.call 200 [.l 25, .s] [.t 46, .t 48]),
 Km 50 49,
 ⟨some 51, .fad (.t 16) 1, some (50, false), 0, []⟩,
 ⟨some 52, .load false 1 (.t 51), some (50, false), 0, []⟩,
 ⟨some 53, .fad (.t 5) 1, some (50, false), 0, []⟩,
 ⟨some 54, .load false 1 (.t 53), some (50, false), 0, []⟩,
 ⟨some 55, .bin .eql .num (.t 52) (.t 54), some (50, false), 0, []⟩,
 Kn 56 (.pick (.t 50) Kt (.t 55))]) (.cond (.t 56) (.exit 3 [15, 11, 13, 3, 5, 4, 14]) .skip)) (.seg [13, 16, 14, 15, 11, 3, 5, 4] [15, 11, 13, 3, 5, 4, 14] c2)))) (.region [Km 40 15,
 Kn 41 (.bin .add .num (.t 40) K1n),
 Km 15 41])))
def b135_3 : Cd := b135_3F b135_2
def g135F (c0 : Cd) (c3 : Cd) : Fn := ⟨137, [.t 10], [.l 25], .lit,
 (.seq (.region [Kn 5 (.box 25 2 (.t 0)),
 Kn 10 (.nil 25)]) (.seq (.region [Km 20 1,
 Kn 21 (.call 78 [.l 81] [.t 20]),
 Km 11 21]) (.seq (.seq (.region [Kn 12 (.mov K0)]) (.block 0 (.loop [2, 12, 11, 3, 5, 4] c0))) (.seq (.region [Kn 13 (.nil 25)]) (.seq (.region [Kn 14 (.frz 25 (.c (.lit 0 true [])))]) (.seq (.seq (.region [Kn 15 (.mov K0)]) (.block 2 (.loop [11, 13, 3, 5, 15, 4, 14] c3))) (.seq (.seq (.region [Km 127 4,
 Kn 128 (.bin .lss .num (.t 127) K0)]) (.cond (.t 128) (.seq (.region [Kn 10 (.nil 25)]) (.ret [10])) .skip)) (.seq (.seq (.region [Km 129 14,
 Kn 130 (.len false (.t 129)),
 Km 131 4,
 Kn 132 (.bin .gtr .num (.t 130) (.t 131))]) (.cond (.t 132) (.region [Km 133 14,
 Km 134 4,
 Kn 135 (.sls 25 (.t 133) none (some (.t 134))),
 Kn 14 (.frz 25 (.t 135))]) .skip)) (.seq (.region [Km 136 14,
 Km 10 136]) (.ret [10]))))))))))⟩
def g135 : Fn := g135F b135_0 b135_3
theorem cmp135 : cmpFn Tryz.prog .lit [1000016, 80000001400025, 1001000025, 1001300025] 135 = some g135 := by kernel_rfl
def b136_0F : Cd := (.seq (.seq (.region [Km 9 8,
 Km 10 0,
 Kn 11 (.len false (.t 10)),
 Kn 12 (.bin .lss .num (.t 9) (.t 11))]) (.cond (.t 12) .skip (.exit 0 [7]))) (.seq (.block 1 (.seq (.region [Km 15 1,
 Km 16 0,
 Km 17 8,
 Kn 18 (.iadS 78 (.t 16) (.t 17)),
 Kn 19 (.fad (.t 18) 0),
 Kn 20 (.load false 1 (.t 19)),
 Kn 21 (.call 90 [.s] [.t 20]),
 Km 22 2,
 Kn 23 (.call 134 [.s, .s, .s] [.t 15, .t 21, .t 22])]) (.cond (.t 23) (.region [Km 24 7,
 Km 25 0,
 Km 26 8,
 Kn 27 (.iadS 78 (.t 25) (.t 26)),
 Kn 28 (.load true 2 (.t 27)),
 Kn 29 (.bsl 78 2 (.a [.s, .s]) [.t 28]),
 Kn 30 (.app 78 32 (.t 24) (.t 29)),
 Km 7 30]) .skip))) (.region [Km 13 8,
 Kn 14 (.bin .add .num (.t 13) K1n),
 Km 8 14])))
def b136_0 : Cd := b136_0F
def g136F (c0 : Cd) : Fn := ⟨32, [.t 6], [.l 78], .lit,
 (.seq (.region [Kn 6 (.nil 78)]) (.seq (.region [Kn 7 (.nil 78)]) (.seq (.seq (.region [Kn 8 (.mov K0)]) (.block 0 (.loop [1, 2, 0, 8, 7] c0))) (.seq (.region [Km 31 7,
 Km 6 31]) (.ret [6])))))⟩
def g136 : Fn := g136F b136_0
theorem cmp136 : cmpFn Tryz.prog .lit [1000016, 1000700078, 1000600078] 136 = some g136 := by kernel_rfl
def b137_0F : Cd := (.seq (.seq (.region [Km 10 7,
 Km 11 1,
 Kn 12 (.len false (.t 11)),
 Kn 13 (.bin .lss .num (.t 10) (.t 12))]) (.cond (.t 13) .skip (.exit 0 [0, 6]))) (.seq (.block 1 (.seq (.region [Km 16 0,
 Km 17 1,
 Km 18 7,
 Kn 19 (.iadS 78 (.t 17) (.t 18)),
 Kn 20 (.fad (.t 19) 0),
 Kn 21 (.load false 1 (.t 20)),
 Kn 22 (.call 139 [.l 78, .s] [.t 16, .t 21]),
 Kn 23 (.bin .lss .num (.t 22) K0)]) (.cond (.t 23) (.seq (.region [Km 25 0,
 Km 26 1,
 Km 27 7,
 Kn 28 (.iadS 78 (.t 26) (.t 27)),
 Kn 29 (.fad (.t 28) 0),
 Kn 30 (.load false 1 (.t 29)),
 Km 31 1,
 Km 32 7,
 Kn 33 (.iadS 78 (.t 31) (.t 32)),
 Kn 34 (.fad (.t 33) 1),
 Kn 35 (.load false 1 (.t 34)),
 Kn 36 (.call 77 [.l 78, .s, .s] [.t 25, .t 30, .t 35]),
 Km 24 36,
 Kn 37 (.ext (.t 24) 0),
 Kn 38 (.ext (.t 24) 1),
 Km 8 37,
 Km 9 38]) (.seq (.region [Km 39 8,
 Km 0 39]) (.seq (.region [Km 40 9,
 Kn 41 (.bin .neq .num (.t 40) K0)]) (.cond (.t 41) (.region [Km 42 9,
 Km 6 42]) .skip)))) .skip))) (.region [Km 14 7,
 Kn 15 (.bin .add .num (.t 14) K1n),
 Km 7 15])))
def b137_0 : Cd := b137_0F
def g137F (c0 : Cd) : Fn := ⟨45, [.t 4, .t 5], [.l 78, .s], .lit,
 (.seq (.region [Kn 4 (.nil 78),
 Kn 5 (.mov K0)]) (.seq (.region [Kn 6 (.mov K0)]) (.seq (.seq (.region [Kn 7 (.mov K0)]) (.block 0 (.loop [1, 7, 0, 6] c0))) (.seq (.region [Km 43 0,
 Km 44 6,
 Km 4 43,
 Km 5 44]) (.ret [4, 5])))))⟩
def g137 : Fn := g137F b137_0
theorem cmp137 : cmpFn Tryz.prog .lit [1000016, 1000400078] 137 = some g137 := by kernel_rfl
def g138F : Fn := ⟨22, [.t 4], [.s], .lit,
 (.seq (.region [Kn 2 (.box 34 14 (.t 0)),
 Kn 4 (.mov Kf)]) (.seq (.region [Kn 9 (.load true 14 (.t 2)),
 Km 10 1,
 Kn 11 (.call 63 [Kh, .s] [.t 9, .t 10]),
 Km 8 11,
 Kn 12 (.ext (.t 8) 0),
 Kn 13 (.ext (.t 8) 1),
 Kn 14 (.ext (.t 8) 2),
 Kn 5 (.box 25 2 (.c (.agg [.sc (.int .u64 0), .sc (.int .u16 0)]))),
 ⟨none, .store 2 (.t 5) (.t 12), none, 0, []⟩,
 Km 6 13,
 Km 7 14]) (.seq (.region [Km 15 7,
 Km 16 15,
 ⟨some 17, .load true 2 (.t 5), some (16, true), 0, []⟩,
 ⟨some 18, .fad (.t 2) 0, some (16, true), 0, []⟩,
 ⟨some 19, .load true 2 (.t 18), some (16, true), 0, []⟩,
 ⟨some 20, .eqs false [.num, .num] (.t 17) (.t 19), some (16, true), 0, []⟩,
 Kn 21 (.pick (.t 16) (.t 20) Kf),
 Km 4 21]) (.ret [4]))))⟩
def g138 : Fn := g138F
theorem cmp138 : cmpFn Tryz.prog .lit [1000016] 138 = some g138 := by kernel_rfl
def b139_0F : Cd := (.seq (.seq (.region [Km 6 5,
 Km 7 0,
 Kn 8 (.len false (.t 7)),
 Kn 9 (.bin .lss .num (.t 6) (.t 8))]) (.cond (.t 9) .skip (.exit 0 []))) (.seq (.block 1 (.seq (.region [Km 12 0,
 Km 13 5,
 Kn 14 (.iadS 78 (.t 12) (.t 13)),
 Kn 15 (.fad (.t 14) 0),
 Kn 16 (.load false 1 (.t 15)),
 Km 17 1,
 Kn 18 (.bin .eql .str (.t 16) (.t 17))]) (.cond (.t 18) (.seq (.region [Km 19 5,
 Km 4 19]) (.ret [4])) .skip))) (.region [Km 10 5,
 Kn 11 (.bin .add .num (.t 10) K1n),
 Km 5 11])))
def b139_0 : Cd := b139_0F
def g139F (c0 : Cd) : Fn := ⟨20, [.t 4], [.s], .lit,
 (.seq (.region [Kn 4 (.mov K0)]) (.seq (.seq (.region [Kn 5 (.mov K0)]) (.block 0 (.loop [0, 1, 5] c0))) (.seq (.region [Kn 4 (.mov (.c (.sc (.int .i64 (-1)))))]) (.ret [4]))))⟩
def g139 : Fn := g139F b139_0
theorem cmp139 : cmpFn Tryz.prog .lit [1000016] 139 = some g139 := by kernel_rfl
def b140_0F : Cd := (.seq (.seq (.region [Km 11 5,
 Km 12 0,
 Kn 13 (.len false (.t 12)),
 Kn 14 (.bin .lss .num (.t 11) (.t 13))]) (.cond (.t 14) .skip (.exit 0 []))) (.seq (.block 1 (.seq (.region [Km 17 0,
 Km 18 5,
 Kn 19 (.iadS 25 (.t 17) (.t 18)),
 Kn 20 (.load true 2 (.t 19)),
 Km 21 1,
 Km 22 5,
 Kn 23 (.iadS 25 (.t 21) (.t 22)),
 Kn 24 (.load true 2 (.t 23)),
 Kn 25 (.eqs true [.num, .num] (.t 20) (.t 24))]) (.cond (.t 25) (.seq (.region [Kn 4 (.mov Kf)]) (.ret [4])) .skip))) (.region [Km 15 5,
 Kn 16 (.bin .add .num (.t 15) K1n),
 Km 5 16])))
def b140_0 : Cd := b140_0F
def g140F (c0 : Cd) : Fn := ⟨26, [.t 4], [.s], .lit,
 (.seq (.region [Kn 4 (.mov Kf)]) (.seq (.seq (.region [Km 6 0,
 Kn 7 (.len false (.t 6)),
 Km 8 1,
 Kn 9 (.len false (.t 8)),
 Kn 10 (.bin .neq .num (.t 7) (.t 9))]) (.cond (.t 10) (.seq (.region [Kn 4 (.mov Kf)]) (.ret [4])) .skip)) (.seq (.seq (.region [Kn 5 (.mov K0)]) (.block 0 (.loop [0, 1, 5] c0))) (.seq (.region [Kn 4 (.mov Kt)]) (.ret [4])))))⟩
def g140 : Fn := g140F b140_0
theorem cmp140 : cmpFn Tryz.prog .lit [1000016] 140 = some g140 := by kernel_rfl
def g141F : Fn := ⟨8, [.t 4], [.s], .lit,
 (.seq (.region [Kn 3 (.box 9 1 (.t 1)),
 Kn 4 (.mov K0)]) (.seq (.region [Km 5 0,
 Kn 6 (.mkfn 202 [.t 3]),
 Kn 7 (.call 142 [.l 78, .s] [.t 5, .t 6]),
 Km 4 7]) (.ret [4])))⟩
def g141 : Fn := g141F
theorem cmp141 : cmpFn Tryz.prog .lit [1000016] 141 = some g141 := by kernel_rfl
def b142_0F : Cd := (.seq (.region [Kn 9 (.bin .lss .num (.t 8) (.t 7))]) (.seq (.cond (.t 9) .skip (.exit 0 [])) (.seq (.block 1 (.seq (.region [Km 10 8,
 Km 5 10]) (.seq (.region [Km 11 1,
 Km 12 0,
 Km 13 5,
 Kn 14 (.iadS 78 (.t 12) (.t 13)),
 Kn 15 (.load true 2 (.t 14)),
 Kn 16 (.callv (.t 11) [.t 15])]) (.cond (.t 16) (.seq (.region [Km 17 5,
 Km 4 17]) (.ret [4])) .skip)))) (.region [Kn 18 (.bin .add .num (.t 8) K1n),
 Km 8 18]))))
def b142_0 : Cd := b142_0F
def g142F (c0 : Cd) : Fn := ⟨19, [.t 4], [.s], .lit,
 (.seq (.region [Kn 4 (.mov K0)]) (.seq (.seq (.region [Km 6 0,
 Kn 7 (.len false (.t 6)),
 Kn 8 (.mov K0)]) (.block 0 (.loop [7, 1, 0, 8] c0))) (.seq (.region [Kn 4 (.mov (.c (.sc (.int .i64 (-1)))))]) (.ret [4]))))⟩
def g142 : Fn := g142F b142_0
theorem cmp142 : cmpFn Tryz.prog .lit [1000016] 142 = some g142 := by kernel_rfl
def g143F : Fn := ⟨8, [.t 3], [.s], .lit,
 (.seq (.region [Kn 2 (.box 78 2 (.t 0)),
 Kn 3 (.mov Kf)]) (.seq (.region [Kn 4 (.fad (.t 2) 0),
 Kn 5 (.load false 1 (.t 4)),
 Kn 6 (.load false 1 (.t 1)),
 Kn 7 (.bin .gtr .str (.t 5) (.t 6)),
 Km 3 7]) (.ret [3])))⟩
def g143 : Fn := g143F
theorem cmp143 : cmpFn Tryz.prog .lit [1000016] 143 = some g143 := by kernel_rfl
def b145_0F : Cd := (.seq (.region [Kn 11 (.bin .lss .num (.t 10) (.t 9))]) (.seq (.cond (.t 11) .skip (.exit 0 [5])) (.seq (.block 1 (.seq (.region [Kn 12 (.iadS 81 (.t 8) (.t 10)),
 Kn 13 (.load true 3 (.t 12)),
 Kn 7 (.box 81 3 (.c (.agg [.sc (.int .u64 0), .sc (.int .u16 0), .sc (.int .i64 0)]))),
 ⟨none, .store 3 (.t 7) (.t 13), none, 0, []⟩]) (.seq (.region [Km 14 1,
 Kn 15 (.load true 3 (.t 7)),
 Kn 16 (.callv (.t 14) [.t 15])]) (.cond (.t 16) (.region [Km 17 5,
 Kn 18 (.fad (.t 7) 0),
 Kn 19 (.load true 2 (.t 18)),
 Kn 20 (.bsl 25 2 (.a [.s, .s]) [.t 19]),
 Kn 21 (.app 25 16 (.t 17) (.t 20)),
 Km 5 21]) .skip)))) (.region [Kn 22 (.bin .add .num (.t 10) K1n),
 Km 10 22]))))
def b145_0 : Cd := b145_0F
def g145F (c0 : Cd) : Fn := ⟨24, [.t 4], [.l 25], .keep,
 (.seq (.region [Kn 4 (.nil 25)]) (.seq (.region [Kn 5 (.nil 25)]) (.seq (.seq (.region [Km 8 0,
 Kn 9 (.len false (.t 8)),
 Kn 10 (.mov K0)]) (.block 0 (.loop [9, 8, 1, 10, 5] c0))) (.seq (.region [Km 23 5,
 Km 4 23]) (.ret [4])))))⟩
def g145 : Fn := g145F b145_0
theorem cmp145 : cmpFn Tryz.prog .keep [1000016, 1000500025, 1000400025] 145 = some g145 := by kernel_rfl
def g146F : Fn := ⟨6, [.t 2], [.s], .lit,
 (.seq (.region [Kn 1 (.box 81 3 (.t 0)),
 Kn 2 (.mov Kf)]) (.seq (.region [Kn 3 (.fad (.t 1) 2),
 Kn 4 (.load false 1 (.t 3)),
 Kn 5 (.bin .leq .num (.t 4) K0),
 Km 2 5]) (.ret [2])))⟩
def g146 : Fn := g146F
theorem cmp146 : cmpFn Tryz.prog .lit [1000016] 146 = some g146 := by kernel_rfl
def b147_0F : Cd := (.seq (.block 1 (.seq (.region [Km 18 0,
 Km 19 5,
 Kn 20 (.sidx (.t 18) (.t 19)),
 Km 21 1,
 Km 22 5,
 Kn 23 (.sidx (.t 21) (.t 22)),
 Kn 24 (.bin .neq .num (.t 20) (.t 23))]) (.cond (.t 24) (.seq (.region [Km 25 0,
 Km 26 5,
 Kn 27 (.sidx (.t 25) (.t 26)),
 Km 28 1,
 Km 29 5,
 Kn 30 (.sidx (.t 28) (.t 29)),
 Kn 31 (.bin .lss .num (.t 27) (.t 30)),
 Km 4 31]) (.ret [4])) .skip))) (.region [Km 16 5,
 Kn 17 (.bin .add .num (.t 16) K1n),
 Km 5 17]))
def b147_0 : Cd := b147_0F
def b147_1F (c0 : Cd) : Cd := (.seq (.seq (.region [Km 6 5,
 Km 7 0,
 Kn 8 (.len true (.t 7)),
 Kn 9 (.bin .lss .num (.t 6) (.t 8)),
 Km 10 9,
 ⟨some 11, .mov (.t 5), some (10, true), 0, []⟩,
 ⟨some 12, .mov (.t 1), some (10, true), 0, []⟩,
 ⟨some 13, .len true (.t 12), some (10, true), 0, []⟩,
 ⟨some 14, .bin .lss .num (.t 11) (.t 13), some (10, true), 0, []⟩,
 Kn 15 (.pick (.t 10) (.t 14) Kf)]) (.cond (.t 15) .skip (.exit 0 [0, 1]))) (.seg [5, 0, 1] [5, 0, 1] c0))
def b147_1 : Cd := b147_1F b147_0
def g147F (c1 : Cd) : Fn := ⟨37, [.t 4], [.s], .lit,
 (.seq (.region [Kn 4 (.mov Kf)]) (.seq (.seq (.region [Kn 5 (.mov K0)]) (.block 0 (.loop [5, 0, 1] c1))) (.seq (.region [Km 32 0,
 Kn 33 (.len true (.t 32)),
 Km 34 1,
 Kn 35 (.len true (.t 34)),
 Kn 36 (.bin .lss .num (.t 33) (.t 35)),
 Km 4 36]) (.ret [4]))))⟩
def g147 : Fn := g147F b147_1
theorem cmp147 : cmpFn Tryz.prog .lit [1000016] 147 = some g147 := by kernel_rfl
def g149F : Fn := ⟨12, [.cell 2 true 11], [Kg], .lit,
 (.seq (.region [Kn 1 (.box 37 11 (.t 0)),
 Kn 2 (.box 37 11 Ky)]) (.seq (.region [Kn 3 (.fad (.t 1) 9),
 Kn 4 (.load false 1 (.t 3)),
 ⟨some 5, .call 169 [.l 25] [.t 4], none, 1, []⟩,
 ⟨some 6, .fad (.t 1) 10, none, 2, []⟩,
 ⟨some 7, .load false 1 (.t 6), none, 2, []⟩,
 ⟨some 8, .call 50 [.l 78] [.t 7], none, 1, []⟩,
 ⟨some 9, .fad (.t 1) 9, none, 2, []⟩,
 ⟨none, .store 1 (.t 9) (.t 5), none, 0, []⟩,
 Kn 10 (.fad (.t 1) 10),
 ⟨none, .store 1 (.t 10) (.t 8), none, 0, []⟩]) (.seq (.region [Kn 11 (.load true 11 (.t 1)),
 ⟨none, .store 11 (.t 2) (.t 11), none, 0, []⟩]) (.ret [2]))))⟩
def g149 : Fn := g149F
theorem cmp149 : cmpFn Tryz.prog .lit [1000016] 149 = some g149 := by kernel_rfl
def g150F : Fn := ⟨13, [.t 2], [.s], .lit,
 (.seq (.region [Kn 1 (.box 34 14 (.t 0)),
 Kn 2 (.mov K0)]) (.seq (.seq (.region [Kn 3 (.fad (.t 1) 2),
 Kn 4 (.load false 1 (.t 3)),
 Kn 5 (.bin .lss .num (.t 4) K0),
 Km 6 5,
 ⟨some 7, .fad (.t 1) 2, some (6, false), 0, []⟩,
 ⟨some 8, .load false 1 (.t 7), some (6, false), 0, []⟩,
 ⟨some 9, .bin .gtr .num (.t 8) (.c (.sc (.int .i64 1099511627776))), some (6, false), 0, []⟩,
 Kn 10 (.pick (.t 6) Kt (.t 9))]) (.cond (.t 10) (.seq (.region [Kn 2 (.mov K0)]) (.ret [2])) .skip)) (.seq (.region [Kn 11 (.fad (.t 1) 2),
 Kn 12 (.load false 1 (.t 11)),
 Km 2 12]) (.ret [2]))))⟩
def g150 : Fn := g150F
theorem cmp150 : cmpFn Tryz.prog .lit [1000016] 150 = some g150 := by kernel_rfl
def g151F : Fn := ⟨13, [.t 2], [.s], .lit,
 (.seq (.region [Kn 1 (.box 34 14 (.t 0)),
 Kn 2 (.mov K0)]) (.seq (.seq (.region [Kn 3 (.fad (.t 1) 2),
 Kn 4 (.load false 1 (.t 3)),
 Kn 5 (.bin .gtr .num (.t 4) K0),
 Km 6 5,
 ⟨some 7, .fad (.t 1) 2, some (6, true), 0, []⟩,
 ⟨some 8, .load false 1 (.t 7), some (6, true), 0, []⟩,
 ⟨some 9, .bin .leq .num (.t 8) (.c (.sc (.int .i64 1099511627776))), some (6, true), 0, []⟩,
 Kn 10 (.pick (.t 6) (.t 9) Kf)]) (.cond (.t 10) (.seq (.region [Kn 11 (.fad (.t 1) 2),
 Kn 12 (.load false 1 (.t 11)),
 Km 2 12]) (.ret [2])) .skip)) (.seq (.region [Kn 2 (.mov K0)]) (.ret [2]))))⟩
def g151 : Fn := g151F
theorem cmp151 : cmpFn Tryz.prog .lit [1000016] 151 = some g151 := by kernel_rfl
def g152F : Fn := ⟨20, [.t 6], [.s], .lit,
 (.seq (.region [Kn 6 (.mov Kf)]) (.seq (.seq (.region [Km 9 2,
 Kn 10 (.bin .neq .num (.t 9) (.c (.sc (.int .i32 65533))))]) (.cond (.t 10) (.seq (.region [Kn 6 (.mov Kf)]) (.ret [6])) .skip)) (.seq (.region [Km 12 0,
 Km 13 1,
 Kn 14 (.ssl (.t 12) (some (.t 13)) none),
 Kn 15 (.call 206 [.s] [.t 14]),
 Km 11 15,
 Kn 16 (.ext (.t 11) 0),
 Kn 17 (.ext (.t 11) 1),
 Km 7 16,
 Km 8 17]) (.seq (.region [Km 18 8,
 Kn 19 (.bin .eql .num (.t 18) K1n),
 Km 6 19]) (.ret [6])))))⟩
def g152 : Fn := g152F
theorem cmp152 : cmpFn Tryz.prog .lit [1000016] 152 = some g152 := by kernel_rfl
def b153_0F : Cd := (.cond (.t 56) (.seq (.seq (.region [Km 57 5,
 Kn 58 (.bin .eql .num (.t 57) (.c (.sc (.int .u8 224)))),
 Km 59 58,
 ⟨some 60, .mov (.t 0), some (59, true), 0, []⟩,
 ⟨some 61, .mov (.t 1), some (59, true), 0, []⟩,
 ⟨some 62, .bin .add .num (.t 61) K1n, some (59, true), 0, []⟩,
 ⟨some 63, .sidx (.t 60) (.t 62), some (59, true), 0, []⟩,
 ⟨some 64, .bin .lss .num (.t 63) (.c (.sc (.int .u8 160))), some (59, true), 0, []⟩,
 Kn 65 (.pick (.t 59) (.t 64) Kf),
 Km 66 65,
 ⟨some 67, .mov (.t 5), some (66, false), 0, []⟩,
 ⟨some 68, .bin .eql .num (.t 67) (.c (.sc (.int .u8 237))), some (66, false), 0, []⟩,
 ⟨some 69, .mov (.t 68), some (66, false), 0, []⟩,
 ⟨some 70, .mov (.t 0), some (69, true), 0, []⟩,
 ⟨some 71, .mov (.t 1), some (69, true), 0, []⟩,
 ⟨some 72, .bin .add .num (.t 71) K1n, some (69, true), 0, []⟩,
 ⟨some 73, .sidx (.t 70) (.t 72), some (69, true), 0, []⟩,
 ⟨some 74, .bin .gtr .num (.t 73) (.c (.sc (.int .u8 159))), some (69, true), 0, []⟩,
 ⟨some 75, .pick (.t 69) (.t 74) Kf, some (66, false), 0, []⟩,
 Kn 76 (.pick (.t 66) Kt (.t 75))]) (.cond (.t 76) (.seq (.region [Kn 4 (.mov K0)]) (.ret [4])) .skip)) (.seq (.region [Kn 4 (.mov (.c (.sc (.int .i64 3))))]) (.ret [4]))) .skip)
def b153_0 : Cd := b153_0F
def b153_1F : Cd := (.cond (.t 107) (.seq (.seq (.region [Km 108 5,
 Kn 109 (.bin .eql .num (.t 108) (.c (.sc (.int .u8 240)))),
 Km 110 109,
 ⟨some 111, .mov (.t 0), some (110, true), 0, []⟩,
 ⟨some 112, .mov (.t 1), some (110, true), 0, []⟩,
 ⟨some 113, .bin .add .num (.t 112) K1n, some (110, true), 0, []⟩,
 ⟨some 114, .sidx (.t 111) (.t 113), some (110, true), 0, []⟩,
 ⟨some 115, .bin .lss .num (.t 114) (.c (.sc (.int .u8 144))), some (110, true), 0, []⟩,
 Kn 116 (.pick (.t 110) (.t 115) Kf),
 Km 117 116,
 ⟨some 118, .mov (.t 5), some (117, false), 0, []⟩,
 ⟨some 119, .bin .eql .num (.t 118) (.c (.sc (.int .u8 244))), some (117, false), 0, []⟩,
 ⟨some 120, .mov (.t 119), some (117, false), 0, []⟩,
 ⟨some 121, .mov (.t 0), some (120, true), 0, []⟩,
 ⟨some 122, .mov (.t 1), some (120, true), 0, []⟩,
 ⟨some 123, .bin .add .num (.t 122) K1n, some (120, true), 0, []⟩,
 ⟨some 124, .sidx (.t 121) (.t 123), some (120, true), 0, []⟩,
 ⟨some 125, .bin .gtr .num (.t 124) (.c (.sc (.int .u8 143))), some (120, true), 0, []⟩,
 ⟨some 126, .pick (.t 120) (.t 125) Kf, some (117, false), 0, []⟩,
 Kn 127 (.pick (.t 117) Kt (.t 126))]) (.cond (.t 127) (.seq (.region [Kn 4 (.mov K0)]) (.ret [4])) .skip)) (.seq (.region [Kn 4 (.mov (.c (.sc (.int .i64 4))))]) (.ret [4]))) .skip)
def b153_1 : Cd := b153_1F
def b153_2F (c1 : Cd) : Cd := (.seq (.seq (.region [Km 77 5,
 Kn 78 (.bin .geq .num (.t 77) (.c (.sc (.int .u8 240)))),
 Km 79 78,
 ⟨some 80, .mov (.t 5), some (79, true), 0, []⟩,
 ⟨some 81, .bin .leq .num (.t 80) (.c (.sc (.int .u8 244))), some (79, true), 0, []⟩,
 Kn 82 (.pick (.t 79) (.t 81) Kf),
 Km 83 82,
 ⟨some 84, .mov (.t 6), some (83, true), 0, []⟩,
 ⟨some 85, .bin .gtr .num (.t 84) (.c (.sc (.int .i64 3))), some (83, true), 0, []⟩,
 Kn 86 (.pick (.t 83) (.t 85) Kf),
 Km 87 86,
 ⟨some 88, .mov (.t 0), some (87, true), 0, []⟩,
 ⟨some 89, .mov (.t 1), some (87, true), 0, []⟩,
 ⟨some 90, .bin .add .num (.t 89) K1n, some (87, true), 0, []⟩,
 ⟨some 91, .sidx (.t 88) (.t 90), some (87, true), 0, []⟩,
 ⟨some 92, .call 207 [.s] [.t 91], some (87, true), 0, []⟩,
 Kn 93 (.pick (.t 87) (.t 92) Kf),
 Km 94 93,
 ⟨some 95, .mov (.t 0), some (94, true), 0, []⟩,
 ⟨some 96, .mov (.t 1), some (94, true), 0, []⟩,
 ⟨some 97, .bin .add .num (.t 96) (.c (.sc (.int .i64 2))), some (94, true), 0, []⟩,
 ⟨some 98, .sidx (.t 95) (.t 97), some (94, true), 0, []⟩,
 ⟨some 99, .call 207 [.s] [.t 98], some (94, true), 0, []⟩,
 Kn 100 (.pick (.t 94) (.t 99) Kf),
 Km 101 100,
 ⟨some 102, .mov (.t 0), some (101, true), 0, []⟩,
 ⟨some 103, .mov (.t 1), some (101, true), 0, []⟩,
 ⟨some 104, .bin .add .num (.t 103) (.c (.sc (.int .i64 3))), some (101, true), 0, []⟩,
 ⟨some 105, .sidx (.t 102) (.t 104), some (101, true), 0, []⟩,
 ⟨some 106, .call 207 [.s] [.t 105], some (101, true), 0, []⟩,
 Kn 107 (.pick (.t 101) (.t 106) Kf)]) (.seg [107, 5, 0, 1] [] c1)) (.seq (.region [Kn 4 (.mov K0)]) (.ret [4])))
def b153_2 : Cd := b153_2F b153_1
def b153_3F (c0 : Cd) (c2 : Cd) : Cd := (.seq (.seq (.region [Km 33 5,
 Kn 34 (.bin .geq .num (.t 33) (.c (.sc (.int .u8 224)))),
 Km 35 34,
 ⟨some 36, .mov (.t 5), some (35, true), 0, []⟩,
 ⟨some 37, .bin .leq .num (.t 36) (.c (.sc (.int .u8 239))), some (35, true), 0, []⟩,
 Kn 38 (.pick (.t 35) (.t 37) Kf),
 Km 39 38,
 ⟨some 40, .mov (.t 6), some (39, true), 0, []⟩,
 ⟨some 41, .bin .gtr .num (.t 40) (.c (.sc (.int .i64 2))), some (39, true), 0, []⟩,
 Kn 42 (.pick (.t 39) (.t 41) Kf),
 Km 43 42,
 ⟨some 44, .mov (.t 0), some (43, true), 0, []⟩,
 ⟨some 45, .mov (.t 1), some (43, true), 0, []⟩,
 ⟨some 46, .bin .add .num (.t 45) K1n, some (43, true), 0, []⟩,
 ⟨some 47, .sidx (.t 44) (.t 46), some (43, true), 0, []⟩,
 ⟨some 48, .call 207 [.s] [.t 47], some (43, true), 0, []⟩,
 Kn 49 (.pick (.t 43) (.t 48) Kf),
 Km 50 49,
 ⟨some 51, .mov (.t 0), some (50, true), 0, []⟩,
 ⟨some 52, .mov (.t 1), some (50, true), 0, []⟩,
 ⟨some 53, .bin .add .num (.t 52) (.c (.sc (.int .i64 2))), some (50, true), 0, []⟩,
 ⟨some 54, .sidx (.t 51) (.t 53), some (50, true), 0, []⟩,
 ⟨some 55, .call 207 [.s] [.t 54], some (50, true), 0, []⟩,
 Kn 56 (.pick (.t 50) (.t 55) Kf)]) (.seg [56, 6, 5, 0, 1] [6, 5, 0, 1] c0)) (.seg [6, 5, 0, 1] [4] c2))
def b153_3 : Cd := b153_3F b153_0 b153_2
def g153F (c3 : Cd) : Fn := ⟨128, [.t 4], [.s], .lit,
 (.seq (.region [Kn 4 (.mov K0)]) (.seq (.region [Km 7 0,
 Km 8 1,
 Kn 9 (.sidx (.t 7) (.t 8)),
 Km 5 9]) (.seq (.region [Km 10 0,
 Kn 11 (.len true (.t 10)),
 Km 12 1,
 Kn 13 (.bin .sub .num (.t 11) (.t 12)),
 Km 6 13]) (.seq (.seq (.region [Km 14 5,
 Kn 15 (.bin .lss .num (.t 14) (.c (.sc (.int .u8 128))))]) (.cond (.t 15) (.seq (.region [Kn 4 (.mov K1n)]) (.ret [4])) .skip)) (.seq (.seq (.region [Km 16 5,
 Kn 17 (.bin .geq .num (.t 16) (.c (.sc (.int .u8 194)))),
 Km 18 17,
 ⟨some 19, .mov (.t 5), some (18, true), 0, []⟩,
 ⟨some 20, .bin .leq .num (.t 19) (.c (.sc (.int .u8 223))), some (18, true), 0, []⟩,
 Kn 21 (.pick (.t 18) (.t 20) Kf),
 Km 22 21,
 ⟨some 23, .mov (.t 6), some (22, true), 0, []⟩,
 ⟨some 24, .bin .gtr .num (.t 23) K1n, some (22, true), 0, []⟩,
 Kn 25 (.pick (.t 22) (.t 24) Kf),
 Km 26 25,
 ⟨some 27, .mov (.t 0), some (26, true), 0, []⟩,
 ⟨some 28, .mov (.t 1), some (26, true), 0, []⟩,
 ⟨some 29, .bin .add .num (.t 28) K1n, some (26, true), 0, []⟩,
 ⟨some 30, .sidx (.t 27) (.t 29), some (26, true), 0, []⟩,
 ⟨some 31, .call 207 [.s] [.t 30], some (26, true), 0, []⟩,
 Kn 32 (.pick (.t 26) (.t 31) Kf)]) (.cond (.t 32) (.seq (.region [Kn 4 (.mov (.c (.sc (.int .i64 2))))]) (.ret [4])) .skip)) (.seg [6, 5, 0, 1] [4] c3))))))⟩
def g153 : Fn := g153F b153_3
theorem cmp153 : cmpFn Tryz.prog .lit [1000016] 153 = some g153 := by kernel_rfl
def g155F : Fn := ⟨17, [.t 2], [.s], .lit,
 (.seq (.region [Kn 2 (.mov (.c (.sc (.int .u64 0))))]) (.seq (.region [Km 3 0,
 Km 4 0,
 Kn 5 (.bin .shr .num (.t 4) (.c (.sc (.int .u64 30)))),
 Kn 6 (.bin .xor .num (.t 3) (.t 5)),
 Kn 7 (.bin .mul .num (.t 6) (.c (.sc (.int .u64 13787848793156543929)))),
 Km 0 7]) (.seq (.region [Km 8 0,
 Km 9 0,
 Kn 10 (.bin .shr .num (.t 9) (.c (.sc (.int .u64 27)))),
 Kn 11 (.bin .xor .num (.t 8) (.t 10)),
 Kn 12 (.bin .mul .num (.t 11) (.c (.sc (.int .u64 10723151780598845931)))),
 Km 0 12]) (.seq (.region [Km 13 0,
 Km 14 0,
 Kn 15 (.bin .shr .num (.t 14) (.c (.sc (.int .u64 31)))),
 Kn 16 (.bin .xor .num (.t 13) (.t 15)),
 Km 2 16]) (.ret [2])))))⟩
def g155 : Fn := g155F
theorem cmp155 : cmpFn Tryz.prog .lit [1000016] 155 = some g155 := by kernel_rfl
def b156_0F : Cd := (.seq (.region [Kn 8 (.bin .lss .num (.t 7) (.t 6))]) (.seq (.cond (.t 8) .skip (.exit 0 [3])) (.seq (.block 1 (.seq (.region [Km 9 7,
 Km 4 9]) (.region [Km 10 3,
 Km 11 0,
 Km 12 4,
 Kn 13 (.sidx (.t 11) (.t 12)),
 Kn 14 (.conv .u64 (.t 13)),
 Kn 15 (.bin .xor .num (.t 10) (.t 14)),
 Kn 16 (.bin .mul .num (.t 15) (.c (.sc (.int .u64 1099511628211)))),
 Km 3 16]))) (.region [Kn 17 (.bin .add .num (.t 7) K1n),
 Km 7 17]))))
def b156_0 : Cd := b156_0F
def g156F (c0 : Cd) : Fn := ⟨19, [.t 2], [.s], .lit,
 (.seq (.region [Kn 2 (.mov (.c (.sc (.int .u64 0))))]) (.seq (.region [Kn 3 (.mov (.c (.sc (.int .u64 14695981039346656037))))]) (.seq (.seq (.region [Km 5 0,
 Kn 6 (.len true (.t 5)),
 Kn 7 (.mov K0)]) (.block 0 (.loop [6, 0, 7, 3] c0))) (.seq (.region [Km 18 3,
 Km 2 18]) (.ret [2])))))⟩
def g156 : Fn := g156F b156_0
theorem cmp156 : cmpFn Tryz.prog .lit [1000016] 156 = some g156 := by kernel_rfl
def g158F : Fn := ⟨19, [.t 2], [.s], .lit,
 (.seq (.region [Kn 2 (.mov (.c (.sc (.int .u64 0))))]) (.seq (.region [Km 3 0,
 Km 4 0,
 Kn 5 (.call 208 [.s, .s] [.t 4, .c (.sc (.int .i64 30))]),
 Kn 6 (.bin .xor .num (.t 3) (.t 5)),
 Km 0 6]) (.seq (.region [Km 7 0,
 Kn 8 (.bin .mul .num (.t 7) (.c (.sc (.int .u64 13787848793156543929)))),
 Km 0 8]) (.seq (.region [Km 9 0,
 Km 10 0,
 Kn 11 (.call 208 [.s, .s] [.t 10, .c (.sc (.int .i64 27))]),
 Kn 12 (.bin .xor .num (.t 9) (.t 11)),
 Km 0 12]) (.seq (.region [Km 13 0,
 Kn 14 (.bin .mul .num (.t 13) (.c (.sc (.int .u64 10723151780598845931)))),
 Km 0 14]) (.seq (.region [Km 15 0,
 Km 16 0,
 Kn 17 (.call 208 [.s, .s] [.t 16, .c (.sc (.int .i64 31))]),
 Kn 18 (.bin .xor .num (.t 15) (.t 17)),
 Km 2 18]) (.ret [2])))))))⟩
def g158 : Fn := g158F
theorem cmp158 : cmpFn Tryz.prog .lit [1000016] 158 = some g158 := by kernel_rfl
def b159_0F : Cd := (.seq (.seq (.region [Km 5 4,
 Km 6 0,
 Kn 7 (.len true (.t 6)),
 Kn 8 (.bin .lss .num (.t 5) (.t 7))]) (.cond (.t 8) .skip (.exit 0 [3]))) (.seq (.block 1 (.seq (.region [Km 11 3,
 Km 12 0,
 Km 13 4,
 Kn 14 (.sidx (.t 12) (.t 13)),
 Kn 15 (.conv .u64 (.t 14)),
 Kn 16 (.bin .xor .num (.t 11) (.t 15)),
 Km 3 16]) (.region [Km 17 3,
 Kn 18 (.bin .mul .num (.t 17) (.c (.sc (.int .u64 1099511628211)))),
 Km 3 18]))) (.region [Km 9 4,
 Kn 10 (.bin .add .num (.t 9) K1n),
 Km 4 10])))
def b159_0 : Cd := b159_0F
def g159F (c0 : Cd) : Fn := ⟨20, [.t 2], [.s], .lit,
 (.seq (.region [Kn 2 (.mov (.c (.sc (.int .u64 0))))]) (.seq (.region [Kn 3 (.mov (.c (.sc (.int .u64 14695981039346656037))))]) (.seq (.seq (.region [Kn 4 (.mov K0)]) (.block 0 (.loop [0, 4, 3] c0))) (.seq (.region [Km 19 3,
 Km 2 19]) (.ret [2])))))⟩
def g159 : Fn := g159F b159_0
theorem cmp159 : cmpFn Tryz.prog .lit [1000016] 159 = some g159 := by kernel_rfl
def b164_0F : Cd := (.seq (.region [Kn 9 (.bin .lss .num (.t 8) (.t 7))]) (.seq (.cond (.t 9) .skip (.exit 0 [])) (.seq (.block 1 (.seq (.region [Km 10 8,
 Km 5 10]) (.seq (.region [Km 11 1,
 Km 12 0,
 Km 13 5,
 Kn 14 (.iadS 81 (.t 12) (.t 13)),
 Kn 15 (.load true 3 (.t 14)),
 Kn 16 (.callv (.t 11) [.t 15])]) (.cond (.t 16) (.seq (.region [Km 17 5,
 Km 4 17]) (.ret [4])) .skip)))) (.region [Kn 18 (.bin .add .num (.t 8) K1n),
 Km 8 18]))))
def b164_0 : Cd := b164_0F
def g164F (c0 : Cd) : Fn := ⟨19, [.t 4], [.s], .lit,
 (.seq (.region [Kn 4 (.mov K0)]) (.seq (.seq (.region [Km 6 0,
 Kn 7 (.len false (.t 6)),
 Kn 8 (.mov K0)]) (.block 0 (.loop [7, 1, 0, 8] c0))) (.seq (.region [Kn 4 (.mov (.c (.sc (.int .i64 (-1)))))]) (.ret [4]))))⟩
def g164 : Fn := g164F b164_0
theorem cmp164 : cmpFn Tryz.prog .lit [1000016] 164 = some g164 := by kernel_rfl
def g165F : Fn := ⟨9, [.t 3], [.s], .lit,
 (.seq (.region [Kn 2 (.box 81 3 (.t 0)),
 Kn 3 (.mov Kf)]) (.seq (.region [Kn 4 (.fad (.t 2) 0),
 Kn 5 (.fad (.t 4) 1),
 Kn 6 (.load false 1 (.t 5)),
 Kn 7 (.load false 1 (.t 1)),
 Kn 8 (.bin .eql .num (.t 6) (.t 7)),
 Km 3 8]) (.ret [3])))⟩
def g165 : Fn := g165F
theorem cmp165 : cmpFn Tryz.prog .lit [1000016] 165 = some g165 := by kernel_rfl
end Go.Ab.Tryz
namespace Go.Ab.Tryz
open Go Go.Proofs
def g166F : Fn := ⟨8, [.t 4], [.s], .lit,
 (.seq (.region [Kn 4 (.mov (.c (.sc (.int .u64 0))))]) (.seq (.region [Km 5 1,
 Km 6 0,
 Kn 7 (.bin .sub .num (.t 5) (.t 6)),
 Km 4 7]) (.ret [4])))⟩
def g166 : Fn := g166F
theorem cmp166 : cmpFn Tryz.prog .lit [1000016] 166 = some g166 := by kernel_rfl
def b167_0F : Cd := (.seq (.region [Kn 14 (.bin .lss .num (.t 13) (.t 12))]) (.seq (.cond (.t 14) .skip (.exit 0 [])) (.seq (.block 1 (.seq (.region [Km 15 13,
 Km 5 15]) (.seq (.region [Km 16 0,
 Km 17 5,
 Kn 18 (.iadS 25 (.t 16) (.t 17)),
 Kn 19 (.load true 2 (.t 18)),
 Km 20 1,
 Km 21 5,
 Kn 22 (.iadS 25 (.t 20) (.t 21)),
 Kn 23 (.load true 2 (.t 22)),
 Kn 24 (.eqs true [.num, .num] (.t 19) (.t 23))]) (.cond (.t 24) (.seq (.region [Kn 4 (.mov Kf)]) (.ret [4])) .skip)))) (.region [Kn 25 (.bin .add .num (.t 13) K1n),
 Km 13 25]))))
def b167_0 : Cd := b167_0F
def g167F (c0 : Cd) : Fn := ⟨26, [.t 4], [.s], .lit,
 (.seq (.region [Kn 4 (.mov Kf)]) (.seq (.seq (.region [Km 6 0,
 Kn 7 (.len false (.t 6)),
 Km 8 1,
 Kn 9 (.len false (.t 8)),
 Kn 10 (.bin .neq .num (.t 7) (.t 9))]) (.cond (.t 10) (.seq (.region [Kn 4 (.mov Kf)]) (.ret [4])) .skip)) (.seq (.seq (.region [Km 11 0,
 Kn 12 (.len false (.t 11)),
 Kn 13 (.mov K0)]) (.block 0 (.loop [12, 0, 1, 13] c0))) (.seq (.region [Kn 4 (.mov Kt)]) (.ret [4])))))⟩
def g167 : Fn := g167F b167_0
theorem cmp167 : cmpFn Tryz.prog .lit [1000016] 167 = some g167 := by kernel_rfl
def b168_0F : Cd := (.seq (.region [Kn 14 (.bin .lss .num (.t 13) (.t 12))]) (.seq (.cond (.t 14) .skip (.exit 0 [])) (.seq (.block 1 (.seq (.region [Km 15 13,
 Km 5 15]) (.seq (.region [Km 16 0,
 Km 17 5,
 Kn 18 (.iadS 78 (.t 16) (.t 17)),
 Kn 19 (.load true 2 (.t 18)),
 Km 20 1,
 Km 21 5,
 Kn 22 (.iadS 78 (.t 20) (.t 21)),
 Kn 23 (.load true 2 (.t 22)),
 Kn 24 (.eqs true [.str, .str] (.t 19) (.t 23))]) (.cond (.t 24) (.seq (.region [Kn 4 (.mov Kf)]) (.ret [4])) .skip)))) (.region [Kn 25 (.bin .add .num (.t 13) K1n),
 Km 13 25]))))
def b168_0 : Cd := b168_0F
def g168F (c0 : Cd) : Fn := ⟨26, [.t 4], [.s], .lit,
 (.seq (.region [Kn 4 (.mov Kf)]) (.seq (.seq (.region [Km 6 0,
 Kn 7 (.len false (.t 6)),
 Km 8 1,
 Kn 9 (.len false (.t 8)),
 Kn 10 (.bin .neq .num (.t 7) (.t 9))]) (.cond (.t 10) (.seq (.region [Kn 4 (.mov Kf)]) (.ret [4])) .skip)) (.seq (.seq (.region [Km 11 0,
 Kn 12 (.len false (.t 11)),
 Kn 13 (.mov K0)]) (.block 0 (.loop [12, 0, 1, 13] c0))) (.seq (.region [Kn 4 (.mov Kt)]) (.ret [4])))))⟩
def g168 : Fn := g168F b168_0
theorem cmp168 : cmpFn Tryz.prog .lit [1000016] 168 = some g168 := by kernel_rfl
def g170F : Fn := ⟨9, [.t 4], [.s], .lit,
 (.seq (.region [Kn 4 (.mov Kf)]) (.seq (.region [Km 5 0,
 Km 6 1,
 Kn 7 (.call 142 [.l 78, .s] [.t 5, .t 6]),
 Kn 8 (.bin .geq .num (.t 7) K0),
 Km 4 8]) (.ret [4])))⟩
def g170 : Fn := g170F
theorem cmp170 : cmpFn Tryz.prog .lit [1000016] 170 = some g170 := by kernel_rfl
def g171F : Fn := ⟨7, [.t 2], [.s], .lit,
 (.seq (.region [Kn 1 (.box 78 2 (.t 0)),
 Kn 2 (.mov Kf)]) (.seq (.region [Kn 3 (.fad (.t 1) 0),
 Kn 4 (.load false 1 (.t 3)),
 Kn 5 (.call 24 [.s] [.t 4]),
 Kn 6 (.un .not (.t 5)),
 Km 2 6]) (.ret [2])))⟩
def g171 : Fn := g171F
theorem cmp171 : cmpFn Tryz.prog .lit [1000016] 171 = some g171 := by kernel_rfl
def g172F : Fn := ⟨7, [.t 2], [.s], .lit,
 (.seq (.region [Kn 1 (.box 78 2 (.t 0)),
 Kn 2 (.mov Kf)]) (.seq (.region [Kn 3 (.fad (.t 1) 1),
 Kn 4 (.load false 1 (.t 3)),
 Kn 5 (.len true (.t 4)),
 Kn 6 (.bin .gtr .num (.t 5) (.c (.sc (.int .i64 512)))),
 Km 2 6]) (.ret [2])))⟩
def g172 : Fn := g172F
theorem cmp172 : cmpFn Tryz.prog .lit [1000016] 172 = some g172 := by kernel_rfl
def g173F : Fn := ⟨2, [.t 0], [.l 9], .lit,
 (.seq (.region [Kn 0 (.nil 9)]) (.seq (.region [Kn 1 (.bsl 9 1 (.s) [.c (.sc (.string ⟨#[63]⟩)), .c (.sc (.string ⟨#[102, 105, 110, 100]⟩)), .c (.sc (.string ⟨#[104, 111, 112]⟩)), .c (.sc (.string ⟨#[97, 115, 107]⟩)), .c (.sc (.string ⟨#[116, 101, 108, 108]⟩)), .c (.sc (.string ⟨#[110, 111, 116, 101]⟩)), .c (.sc (.string ⟨#[111, 107, 97, 121]⟩)), .c (.sc (.string ⟨#[112, 117, 116]⟩)), .c (.sc (.string ⟨#[103, 101, 116]⟩)), .c (.sc (.string ⟨#[103, 111, 116]⟩)), .c (.sc (.string ⟨#[109, 111, 118, 101]⟩)), .c (.sc (.string ⟨#[112, 105, 110, 103]⟩)), .c (.sc (.string ⟨#[110, 97, 121]⟩))]),
 Km 0 1]) (.ret [0])))⟩
def g173 : Fn := g173F
theorem cmp173 : cmpFn Tryz.prog .lit [1000016, 1000000009] 173 = some g173 := by kernel_rfl
def b178_0F : Cd := (.seq (.region [Kn 9 (.bin .lss .num (.t 8) (.t 7))]) (.seq (.cond (.t 9) .skip (.exit 0 [])) (.seq (.block 1 (.seq (.region [Km 10 8,
 Km 5 10]) (.seq (.region [Km 11 1,
 Km 12 0,
 Km 13 5,
 Kn 14 (.iadS 25 (.t 12) (.t 13)),
 Kn 15 (.load true 2 (.t 14)),
 Kn 16 (.callv (.t 11) [.t 15])]) (.cond (.t 16) (.seq (.region [Km 17 5,
 Km 4 17]) (.ret [4])) .skip)))) (.region [Kn 18 (.bin .add .num (.t 8) K1n),
 Km 8 18]))))
def b178_0 : Cd := b178_0F
def g178F (c0 : Cd) : Fn := ⟨19, [.t 4], [.s], .mv,
 (.seq (.region [Kn 4 (.mov K0)]) (.seq (.seq (.region [Km 6 0,
 Kn 7 (.len false (.t 6)),
 Kn 8 (.mov K0)]) (.block 0 (.loop [7, 1, 0, 8] c0))) (.seq (.region [Kn 4 (.mov (.c (.sc (.int .i64 (-1)))))]) (.ret [4]))))⟩
def g178 : Fn := g178F b178_0
theorem cmp178 : cmpFn Tryz.prog .mv [1000016] 178 = some g178 := by kernel_rfl
def b186_0F : Cd := (.seq (.seq (.region [Km 6 5,
 Km 7 0,
 Kn 8 (.len false (.t 7)),
 Kn 9 (.bin .lss .num (.t 6) (.t 8))]) (.cond (.t 9) .skip (.exit 0 []))) (.seq (.block 1 (.seq (.region [Km 12 0,
 Km 13 5,
 Kn 14 (.iadS 81 (.t 12) (.t 13)),
 Kn 15 (.fad (.t 14) 0),
 Kn 16 (.fad (.t 15) 1),
 Kn 17 (.load false 1 (.t 16)),
 Km 18 1,
 Kn 19 (.bin .eql .num (.t 17) (.t 18))]) (.cond (.t 19) (.seq (.region [Km 20 5,
 Km 4 20]) (.ret [4])) .skip))) (.region [Km 10 5,
 Kn 11 (.bin .add .num (.t 10) K1n),
 Km 5 11])))
def b186_0 : Cd := b186_0F
def g186F (c0 : Cd) : Fn := ⟨21, [.t 4], [.s], .lit,
 (.seq (.region [Kn 4 (.mov K0)]) (.seq (.seq (.region [Kn 5 (.mov K0)]) (.block 0 (.loop [0, 1, 5] c0))) (.seq (.region [Kn 4 (.mov (.c (.sc (.int .i64 (-1)))))]) (.ret [4]))))⟩
def g186 : Fn := g186F b186_0
theorem cmp186 : cmpFn Tryz.prog .lit [1000016] 186 = some g186 := by kernel_rfl
def b187_0F : Cd := (.seq (.seq (.region [Km 7 6,
 Km 8 0,
 Kn 9 (.len false (.t 8)),
 Kn 10 (.bin .lss .num (.t 7) (.t 9))]) (.cond (.t 10) .skip (.exit 0 [5]))) (.seq (.block 1 (.seq (.region [Km 13 0,
 Km 14 6,
 Kn 15 (.iadS 81 (.t 13) (.t 14)),
 Kn 16 (.fad (.t 15) 0),
 Kn 17 (.fad (.t 16) 1),
 Kn 18 (.load false 1 (.t 17)),
 Km 19 1,
 Kn 20 (.bin .neq .num (.t 18) (.t 19))]) (.cond (.t 20) (.region [Km 21 5,
 Km 22 0,
 Km 23 6,
 Kn 24 (.iadS 81 (.t 22) (.t 23)),
 Kn 25 (.load true 3 (.t 24)),
 Kn 26 (.bsl 81 3 (.a [.s, .s, .s]) [.t 25]),
 Kn 27 (.app 81 24 (.t 21) (.t 26)),
 Km 5 27]) .skip))) (.region [Km 11 6,
 Kn 12 (.bin .add .num (.t 11) K1n),
 Km 6 12])))
def b187_0 : Cd := b187_0F
def g187F (c0 : Cd) : Fn := ⟨29, [.t 4], [.l 81], .lit,
 (.seq (.region [Kn 4 (.nil 81)]) (.seq (.region [Kn 5 (.nil 81)]) (.seq (.seq (.region [Kn 6 (.mov K0)]) (.block 0 (.loop [1, 0, 6, 5] c0))) (.seq (.region [Km 28 5,
 Km 4 28]) (.ret [4])))))⟩
def g187 : Fn := g187F b187_0
theorem cmp187 : cmpFn Tryz.prog .lit [1000016, 1000500081, 1000400081] 187 = some g187 := by kernel_rfl
def g188F : Fn := ⟨30, [.t 6], [.s], .lit,
 (.seq (.region [Kn 3 (.box 25 2 (.t 0)),
 Kn 4 (.box 25 2 (.t 1)),
 Kn 5 (.box 25 2 (.t 2)),
 Kn 6 (.mov Kf)]) (.seq (.region [Kn 9 (.fad (.t 3) 0),
 Kn 10 (.load false 1 (.t 9)),
 Kn 11 (.fad (.t 4) 0),
 Kn 12 (.load false 1 (.t 11)),
 Kn 13 (.call 201 [.s, .s] [.t 10, .t 12]),
 Km 7 13]) (.seq (.region [Kn 14 (.fad (.t 3) 0),
 Kn 15 (.load false 1 (.t 14)),
 Kn 16 (.fad (.t 5) 0),
 Kn 17 (.load false 1 (.t 16)),
 Kn 18 (.call 201 [.s, .s] [.t 15, .t 17]),
 Km 8 18]) (.seq (.seq (.region [Km 19 7,
 Km 20 8,
 Kn 21 (.bin .neq .num (.t 19) (.t 20))]) (.cond (.t 21) (.seq (.region [Km 22 7,
 Km 23 8,
 Kn 24 (.bin .lss .num (.t 22) (.t 23)),
 Km 6 24]) (.ret [6])) .skip)) (.seq (.region [Kn 25 (.fad (.t 4) 1),
 Kn 26 (.load false 1 (.t 25)),
 Kn 27 (.fad (.t 5) 1),
 Kn 28 (.load false 1 (.t 27)),
 Kn 29 (.bin .lss .num (.t 26) (.t 28)),
 Km 6 29]) (.ret [6]))))))⟩
def g188 : Fn := g188F
theorem cmp188 : cmpFn Tryz.prog .lit [1000016] 188 = some g188 := by kernel_rfl
def g189F : Fn := ⟨22, [.t 0], [.l 146], .lit,
 (.seq (.region [Kn 0 (.nil 146)]) (.seq (.region [Kn 1 (.build [.sc (.string ⟨#[]⟩), .sc (.int .i64 0), .lit 0 true []] [(0, 1, .c (.sc (.string ⟨#[63]⟩)))]),
 Kn 2 (.bsl 3 1 (.s) [.c (.sc (.int .i64 2)), .c (.sc (.int .i64 12))]),
 Kn 3 (.build [.sc (.string ⟨#[]⟩), .sc (.int .i64 0), .lit 0 true []] [(0, 1, .c (.sc (.string ⟨#[102, 105, 110, 100]⟩))), (1, 1, .c (.sc (.int .i64 4))), (2, 1, .t 2)]),
 Kn 4 (.build [.sc (.string ⟨#[]⟩), .sc (.int .i64 0), .lit 0 true []] [(0, 1, .c (.sc (.string ⟨#[104, 111, 112]⟩))), (1, 1, .c (.sc (.int .i64 18))), (2, 1, .c (.lit 0 true []))]),
 Kn 5 (.bsl 3 1 (.s) [.c (.sc (.int .i64 4))]),
 Kn 6 (.build [.sc (.string ⟨#[]⟩), .sc (.int .i64 0), .lit 0 true []] [(0, 1, .c (.sc (.string ⟨#[97, 115, 107]⟩))), (1, 1, .c (.sc (.int .i64 0))), (2, 1, .t 5)]),
 Kn 7 (.build [.sc (.string ⟨#[]⟩), .sc (.int .i64 0), .lit 0 true []] [(0, 1, .c (.sc (.string ⟨#[116, 101, 108, 108]⟩))), (1, 1, .c (.sc (.int .i64 282))), (2, 1, .c (.lit 0 true []))]),
 Kn 8 (.bsl 3 1 (.s) [.c (.sc (.int .i64 6))]),
 Kn 9 (.build [.sc (.string ⟨#[]⟩), .sc (.int .i64 0), .lit 0 true []] [(0, 1, .c (.sc (.string ⟨#[110, 111, 116, 101]⟩))), (1, 1, .c (.sc (.int .i64 8))), (2, 1, .t 8)]),
 Kn 10 (.build [.sc (.string ⟨#[]⟩), .sc (.int .i64 0), .lit 0 true []] [(0, 1, .c (.sc (.string ⟨#[111, 107, 97, 121]⟩))), (1, 1, .c (.sc (.int .i64 0))), (2, 1, .c (.lit 0 true []))]),
 Kn 11 (.bsl 3 1 (.s) [.c (.sc (.int .i64 6)), .c (.sc (.int .i64 12))]),
 Kn 12 (.build [.sc (.string ⟨#[]⟩), .sc (.int .i64 0), .lit 0 true []] [(0, 1, .c (.sc (.string ⟨#[112, 117, 116]⟩))), (1, 1, .c (.sc (.int .i64 96))), (2, 1, .t 11)]),
 Kn 13 (.bsl 3 1 (.s) [.c (.sc (.int .i64 9)), .c (.sc (.int .i64 12))]),
 Kn 14 (.build [.sc (.string ⟨#[]⟩), .sc (.int .i64 0), .lit 0 true []] [(0, 1, .c (.sc (.string ⟨#[103, 101, 116]⟩))), (1, 1, .c (.sc (.int .i64 32))), (2, 1, .t 13)]),
 Kn 15 (.build [.sc (.string ⟨#[]⟩), .sc (.int .i64 0), .lit 0 true []] [(0, 1, .c (.sc (.string ⟨#[103, 111, 116]⟩))), (1, 1, .c (.sc (.int .i64 322))), (2, 1, .c (.lit 0 true []))]),
 Kn 16 (.bsl 3 1 (.s) [.c (.sc (.int .i64 6))]),
 Kn 17 (.build [.sc (.string ⟨#[]⟩), .sc (.int .i64 0), .lit 0 true []] [(0, 1, .c (.sc (.string ⟨#[109, 111, 118, 101]⟩))), (1, 1, .c (.sc (.int .i64 130))), (2, 1, .t 16)]),
 Kn 18 (.bsl 3 1 (.s) [.c (.sc (.int .i64 6))]),
 Kn 19 (.build [.sc (.string ⟨#[]⟩), .sc (.int .i64 0), .lit 0 true []] [(0, 1, .c (.sc (.string ⟨#[112, 105, 110, 103]⟩))), (1, 1, .c (.sc (.int .i64 0))), (2, 1, .t 18)]),
 Kn 20 (.build [.sc (.string ⟨#[]⟩), .sc (.int .i64 0), .lit 0 true []] [(0, 1, .c (.sc (.string ⟨#[110, 97, 121]⟩))), (1, 1, .c (.sc (.int .i64 1))), (2, 1, .c (.lit 0 true []))]),
 Kn 21 (.bsl 146 3 (.a [.s, .s, .l 3]) [.t 1, .t 3, .t 4, .t 6, .t 7, .t 9, .t 10, .t 12, .t 14, .t 15, .t 17, .t 19, .t 20]),
 Km 0 21]) (.ret [0])))⟩
def g189 : Fn := g189F
theorem cmp189 : cmpFn Tryz.prog .lit [1000016, 1000000146] 189 = some g189 := by kernel_rfl
def g190F : Fn := ⟨21, [.t 6], [.s], .lit,
 (.seq (.region [Kn 6 (.mov Kf)]) (.seq (.region [Km 7 0,
 Km 8 2,
 Kn 9 (.bin .eql .num (.t 7) (.t 8)),
 Km 10 9,
 ⟨some 11, .mov (.t 1), some (10, false), 0, []⟩,
 ⟨some 12, .mov (.t 2), some (10, false), 0, []⟩,
 ⟨some 13, .bin .eql .num (.t 11) (.t 12), some (10, false), 0, []⟩,
 Kn 14 (.pick (.t 10) Kt (.t 13)),
 Km 15 14,
 ⟨some 16, .mov (.t 0), some (15, false), 0, []⟩,
 ⟨some 17, .mov (.t 1), some (15, false), 0, []⟩,
 ⟨some 18, .mov (.t 2), some (15, false), 0, []⟩,
 ⟨some 19, .call 128 [.s, .s, .s] [.t 16, .t 17, .t 18], some (15, false), 0, []⟩,
 Kn 20 (.pick (.t 15) Kt (.t 19)),
 Km 6 20]) (.ret [6])))⟩
def g190 : Fn := g190F
theorem cmp190 : cmpFn Tryz.prog .lit [1000016] 190 = some g190 := by kernel_rfl
def g191F : Fn := ⟨30, [.t 4], [.s], .lit,
 (.seq (.region [Kn 2 (.box 34 14 (.t 0)),
 Kn 4 (.mov Kf)]) (.seq (.region [Kn 5 (.fad (.t 2) 4),
 Kn 6 (.load false 1 (.t 5)),
 Kn 7 (.len false (.t 6)),
 Kn 8 (.bin .gtr .num (.t 7) K0),
 Km 9 8,
 ⟨some 10, .fad (.t 2) 4, some (9, true), 0, []⟩,
 ⟨some 11, .load false 1 (.t 10), some (9, true), 0, []⟩,
 ⟨some 12, .iadS 81 (.t 11) K0, some (9, true), 0, []⟩,
 ⟨some 13, .fad (.t 12) 2, some (9, true), 0, []⟩,
 ⟨some 14, .load false 1 (.t 13), some (9, true), 0, []⟩,
 ⟨some 15, .bin .leq .num (.t 14) K0, some (9, true), 0, []⟩,
 Kn 16 (.pick (.t 9) (.t 15) Kf),
 Km 17 16,
 ⟨some 18, .fad (.t 2) 4, some (17, true), 0, []⟩,
 ⟨some 19, .load false 1 (.t 18), some (17, true), 0, []⟩,
 ⟨some 20, .iadS 81 (.t 19) K0, some (17, true), 0, []⟩,
 ⟨some 21, .fad (.t 20) 0, some (17, true), 0, []⟩,
 ⟨some 22, .fad (.t 21) 0, some (17, true), 0, []⟩,
 ⟨some 23, .load false 1 (.t 22), some (17, true), 0, []⟩,
 ⟨some 24, .mov (.t 1), some (17, true), 0, []⟩,
 ⟨some 25, .fad (.t 2) 0, some (17, true), 0, []⟩,
 ⟨some 26, .fad (.t 25) 0, some (17, true), 0, []⟩,
 ⟨some 27, .load false 1 (.t 26), some (17, true), 0, []⟩,
 ⟨some 28, .call 190 [.s, .s, .s] [.t 23, .t 24, .t 27], some (17, true), 0, []⟩,
 Kn 29 (.pick (.t 17) (.t 28) Kf),
 Km 4 29]) (.ret [4])))⟩
def g191 : Fn := g191F
theorem cmp191 : cmpFn Tryz.prog .lit [1000016] 191 = some g191 := by kernel_rfl
def b192_0F : Cd := (.seq (.region [Kn 23 (.bin .lss .num (.t 22) (.t 21))]) (.seq (.cond (.t 23) .skip (.exit 0 [11, 3, 5, 4])) (.seq (.block 1 (.seq (.region [Kn 24 (.iadS 84 (.t 20) (.t 22)),
 Kn 25 (.load true 3 (.t 24)),
 Kn 13 (.box 84 3 (.c (.agg [.sc (.int .i64 0), .sc (.int .u64 0), .sc (.int .u16 0)]))),
 ⟨none, .store 3 (.t 13) (.t 25), none, 0, []⟩]) (.region [Km 26 11,
 Kn 27 (.fad (.t 13) 1),
 Kn 28 (.load true 2 (.t 27)),
 Kn 29 (.bsl 25 2 (.a [.s, .s]) [.t 28]),
 Kn 30 (.app 25 16 (.t 26) (.t 29)),
 Km 11 30]))) (.region [Kn 31 (.bin .add .num (.t 22) K1n),
 Km 22 31]))))
def b192_0 : Cd := b192_0F
def b192_1F : Cd := (.seq (.region [Kn 35 (.bin .lss .num (.t 34) (.t 33))]) (.seq (.cond (.t 35) .skip (.exit 2 [5, 14, 4])) (.seq (.block 3 (.seq (.region [Km 36 34,
 Kn 37 (.iadS 25 (.t 32) (.t 34)),
 Kn 38 (.load true 2 (.t 37)),
 Kn 16 (.box 25 2 (.c (.agg [.sc (.int .u64 0), .sc (.int .u16 0)]))),
 Km 15 36,
 ⟨none, .store 2 (.t 16) (.t 38), none, 0, []⟩]) (.seq (.region [Kn 39 (.frz 25 (.t 11)),
 Kn 40 (.mkfn 221 [.t 16]),
 Kn 41 (.call 178 [.l 25, .s] [.t 39, .t 40]),
 Km 42 15,
 Kn 43 (.bin .eql .num (.t 41) (.t 42)),
 Km 17 43]) (.seq (.region [Km 44 17,
 Km 45 44,
 ⟨some 46, .fad (.t 16) 1, some (45, true), 0, []⟩,
 ⟨some 47, .load false 1 (.t 46), some (45, true), 0, []⟩,
 ⟨some 48, .fad (.t 5) 1, some (45, true), 0, []⟩,
 ⟨some 49, .load false 1 (.t 48), some (45, true), 0, []⟩,
 ⟨some 50, .bin .neq .num (.t 47) (.t 49), some (45, true), 0, []⟩,
 Kn 51 (.pick (.t 45) (.t 50) Kf),
 Km 52 51,
 ⟨some 53, .fad (.t 5) 0, some (52, true), 0, []⟩,
 ⟨some 54, .load false 1 (.t 53), some (52, true), 0, []⟩,
 ⟨some 55, .fad (.t 16) 0, some (52, true), 0, []⟩,
 ⟨some 56, .load false 1 (.t 55), some (52, true), 0, []⟩,
 ⟨some 57, .mov (.t 3), some (52, true), 0, []⟩,
 ⟨some 58, .call 128 [.s, .s, .s] [.t 54, .t 56, .t 57], some (52, true), 0, []⟩,
 Kn 59 (.pick (.t 52) (.t 58) Kf)]) (.cond (.t 59) (.region [Km 60 14,
 Kn 61 (.load true 2 (.t 16)),
 Kn 62 (.bsl 25 2 (.a [.s, .s]) [.t 61]),
 Kn 63 (.app 25 16 (.t 60) (.t 62)),
 Km 14 63]) .skip))))) (.region [Kn 64 (.bin .add .num (.t 34) K1n),
 Km 34 64]))))
def b192_1 : Cd := b192_1F
def g192F (c0 : Cd) (c1 : Cd) : Fn := ⟨75, [.t 10], [.l 25], .lit,
 (.seq (.region [Kn 5 (.box 25 2 (.t 0)),
 Kn 10 (.nil 25)]) (.seq (.region [Km 18 1,
 Kn 19 (.call 76 [.l 81] [.t 18]),
 Km 11 19]) (.seq (.seq (.region [Km 20 2,
 Kn 21 (.len false (.t 20)),
 Kn 22 (.mov K0)]) (.block 0 (.loop [21, 20, 22, 11, 3, 5, 4] c0))) (.seq (.region [Kn 14 (.nil 25)]) (.seq (.seq (.region [Kn 32 (.frz 25 (.t 11)),
 Kn 33 (.len false (.t 32)),
 Kn 34 (.mov K0)]) (.block 2 (.loop [33, 32, 11, 3, 34, 5, 14, 4] c1))) (.seq (.region [Km 65 14,
 Kn 66 (.mkfn 223 [.t 5]),
 Kn 67 (.call 222 [.l 25, .s] [.t 65, .t 66])]) (.seq (.region [Km 68 14,
 Km 69 14,
 Kn 70 (.len false (.t 69)),
 Km 71 4,
 Kn 72 (.mx true [.t 71, .c (.sc (.int .i64 0))]),
 Kn 73 (.mx false [.t 70, .t 72]),
 Kn 74 (.sls 25 (.t 68) none (some (.t 73))),
 Km 10 74]) (.ret [10]))))))))⟩
def g192 : Fn := g192F b192_0 b192_1
theorem cmp192 : cmpFn Tryz.prog .lit [1000016, 80000003200025, 80000003900025, 1001400025, 1001000025] 192 = some g192 := by kernel_rfl
def g193F : Fn := ⟨3, [.t 2], [.s], .lit,
 (.seq (.region [Kn 1 (.box 81 3 (.t 0)),
 Kn 2 (.mov Kf)]) (.seq (.region [Kn 2 (.mov Kt)]) (.ret [2])))⟩
def g193 : Fn := g193F
theorem cmp193 : cmpFn Tryz.prog .lit [1000016] 193 = some g193 := by kernel_rfl
def g194F : Fn := ⟨9, [.t 4], [.l 81], .keep,
 (.seq (.region [Kn 3 (.box 23 1 (.t 1)),
 Kn 4 (.nil 81)]) (.seq (.region [Km 5 0,
 Kn 6 (.call 48 [.l 81] [.t 5]),
 Kn 7 (.mkfn 228 [.t 3]),
 Kn 8 (.call 227 [.l 81, .s] [.t 6, .t 7]),
 Km 4 8]) (.ret [4])))⟩
def g194 : Fn := g194F
theorem cmp194 : cmpFn Tryz.prog .keep [1000016, 1000400081] 194 = some g194 := by kernel_rfl
def g195F : Fn := ⟨10, [.t 4], [.s], .lit,
 (.seq (.region [Kn 3 (.box 81 3 (.t 0)),
 Kn 4 (.mov Kf)]) (.seq (.region [Kn 5 (.load true 2 (.t 1)),
 Kn 6 (.load true 2 (.t 2)),
 Kn 7 (.fad (.t 3) 0),
 Kn 8 (.load true 2 (.t 7)),
 Kn 9 (.call 99 [.a [.s, .s], .a [.s, .s], .a [.s, .s]] [.t 5, .t 6, .t 8]),
 Km 4 9]) (.ret [4])))⟩
def g195 : Fn := g195F
theorem cmp195 : cmpFn Tryz.prog .lit [1000016] 195 = some g195 := by kernel_rfl
def b197_0F : Cd := (.seq (.seq (.region [Km 16 6,
 Km 17 0,
 Kn 18 (.len false (.t 17)),
 Kn 19 (.bin .lss .num (.t 16) (.t 18))]) (.cond (.t 19) .skip (.exit 0 [0, 5]))) (.seq (.block 1 (.seq (.region [Km 22 0,
 Km 23 6,
 Kn 24 (.iadS 78 (.t 22) (.t 23)),
 Kn 25 (.load true 2 (.t 24)),
 Kn 7 (.box 78 2 (.c (.agg [.sc (.string ⟨#[]⟩), .sc (.string ⟨#[]⟩)]))),
 ⟨none, .store 2 (.t 7) (.t 25), none, 0, []⟩]) (.seq (.region [Km 26 1,
 Kn 27 (.load true 2 (.t 7)),
 Kn 28 (.callv (.t 26) [.t 27]),
 Kn 29 (.un .not (.t 28))]) (.cond (.t 29) (.seq (.region [Km 30 0,
 Km 31 5,
 Kn 32 (.load true 2 (.t 7)),
 Kn 33 (.iadS 78 (.t 30) (.t 31)),
 ⟨none, .store 2 (.t 33) (.t 32), none, 0, []⟩]) (.region [Km 34 5,
 Kn 35 (.bin .add .num (.t 34) K1n),
 Km 5 35])) .skip)))) (.region [Km 20 6,
 Kn 21 (.bin .add .num (.t 20) K1n),
 Km 6 21])))
def b197_0 : Cd := b197_0F
def g197F (c0 : Cd) : Fn := ⟨42, [.t 4], [.l 78], .mv,
 (.seq (.region [Kn 4 (.nil 78)]) (.seq (.region [Km 8 0,
 Km 9 1,
 Kn 10 (.call 142 [.l 78, .s] [.t 8, .t 9]),
 Km 5 10]) (.seq (.seq (.region [Km 11 5,
 Kn 12 (.bin .eql .num (.t 11) (.c (.sc (.int .i64 (-1)))))]) (.cond (.t 12) (.seq (.region [Km 13 0,
 Km 4 13]) (.ret [4])) .skip)) (.seq (.seq (.region [Km 14 5,
 Kn 15 (.bin .add .num (.t 14) K1n),
 Km 6 15]) (.block 0 (.loop [1, 6, 0, 5] c0))) (.seq (.region [Km 36 0,
 Km 37 5,
 Kn 38 (.sls 78 (.t 36) (some (.t 37)) none),
 ⟨none, .clr 78 (.agg [.sc (.string ⟨#[]⟩), .sc (.string ⟨#[]⟩)]) (.t 38), none, 0, []⟩]) (.seq (.region [Km 39 0,
 Km 40 5,
 Kn 41 (.sls 78 (.t 39) none (some (.t 40))),
 Km 4 41]) (.ret [4])))))))⟩
def g197 : Fn := g197F b197_0
theorem cmp197 : cmpFn Tryz.prog .mv [1000016, 1000400078] 197 = some g197 := by kernel_rfl
def g198F : Fn := ⟨12, [.t 4], [.s], .lit,
 (.seq (.region [Kn 3 (.box 78 2 (.t 0)),
 Kn 4 (.mov Kf)]) (.seq (.region [⟨some 5, .load false 1 (.t 1), none, 2, []⟩,
 Kn 6 (.fad (.t 3) 0),
 Kn 7 (.load false 1 (.t 6)),
 ⟨some 8, .call 88 [.s] [.t 7], none, 1, []⟩,
 ⟨some 9, .load false 1 (.t 2), none, 2, []⟩,
 Kn 10 (.call 190 [.s, .s, .s] [.t 5, .t 8, .t 9]),
 Kn 11 (.un .not (.t 10)),
 Km 4 11]) (.ret [4])))⟩
def g198 : Fn := g198F
theorem cmp198 : cmpFn Tryz.prog .lit [1000016] 198 = some g198 := by kernel_rfl
def g199F : Fn := ⟨22, [.t 4], [.s], .lit,
 (.seq (.region [Kn 2 (.box 34 14 (.t 0)),
 Kn 4 (.mov Kf)]) (.seq (.region [Kn 9 (.load true 14 (.t 2)),
 Km 10 1,
 Kn 11 (.call 124 [Kh, .s] [.t 9, .t 10]),
 Km 8 11,
 Kn 12 (.ext (.t 8) 0),
 Kn 13 (.ext (.t 8) 1),
 Kn 14 (.ext (.t 8) 2),
 Kn 5 (.box 25 2 (.c (.agg [.sc (.int .u64 0), .sc (.int .u16 0)]))),
 ⟨none, .store 2 (.t 5) (.t 12), none, 0, []⟩,
 Km 6 13,
 Km 7 14]) (.seq (.region [Km 15 7,
 Km 16 15,
 ⟨some 17, .load true 2 (.t 5), some (16, true), 0, []⟩,
 ⟨some 18, .fad (.t 2) 0, some (16, true), 0, []⟩,
 ⟨some 19, .load true 2 (.t 18), some (16, true), 0, []⟩,
 ⟨some 20, .eqs false [.num, .num] (.t 17) (.t 19), some (16, true), 0, []⟩,
 Kn 21 (.pick (.t 16) (.t 20) Kf),
 Km 4 21]) (.ret [4]))))⟩
def g199 : Fn := g199F
theorem cmp199 : cmpFn Tryz.prog .lit [1000016] 199 = some g199 := by kernel_rfl
def b200_0F : Cd := (.seq (.seq (.region [Km 6 5,
 Km 7 0,
 Kn 8 (.len false (.t 7)),
 Kn 9 (.bin .lss .num (.t 6) (.t 8))]) (.cond (.t 9) .skip (.exit 0 []))) (.seq (.block 1 (.seq (.region [Km 12 0,
 Km 13 5,
 Kn 14 (.iadS 25 (.t 12) (.t 13)),
 Kn 15 (.fad (.t 14) 1),
 Kn 16 (.load false 1 (.t 15)),
 Km 17 1,
 Kn 18 (.bin .eql .num (.t 16) (.t 17))]) (.cond (.t 18) (.seq (.region [Kn 4 (.mov Kt)]) (.ret [4])) .skip))) (.region [Km 10 5,
 Kn 11 (.bin .add .num (.t 10) K1n),
 Km 5 11])))
def b200_0 : Cd := b200_0F
def g200F (c0 : Cd) : Fn := ⟨19, [.t 4], [.s], .lit,
 (.seq (.region [Kn 4 (.mov Kf)]) (.seq (.seq (.region [Kn 5 (.mov K0)]) (.block 0 (.loop [0, 1, 5] c0))) (.seq (.region [Kn 4 (.mov Kf)]) (.ret [4]))))⟩
def g200 : Fn := g200F b200_0
theorem cmp200 : cmpFn Tryz.prog .lit [1000016] 200 = some g200 := by kernel_rfl
def g201F : Fn := ⟨16, [.t 4], [.s], .lit,
 (.seq (.region [Kn 4 (.mov (.c (.sc (.int .u64 0))))]) (.seq (.seq (.region [Km 5 0,
 Km 6 1,
 Kn 7 (.bin .leq .num (.t 5) (.t 6))]) (.cond (.t 7) (.seq (.region [Km 8 1,
 Km 9 0,
 Kn 10 (.bin .sub .num (.t 8) (.t 9)),
 Km 4 10]) (.ret [4])) .skip)) (.seq (.region [Km 11 0,
 Km 12 1,
 Kn 13 (.bin .sub .num (.t 11) (.t 12)),
 Kn 14 (.bin .sub .num (.c (.sc (.int .u64 18446744073709551615))) (.t 13)),
 Kn 15 (.bin .add .num (.t 14) (.c (.sc (.int .u64 1)))),
 Km 4 15]) (.ret [4]))))⟩
def g201 : Fn := g201F
theorem cmp201 : cmpFn Tryz.prog .lit [1000016] 201 = some g201 := by kernel_rfl
def g202F : Fn := ⟨8, [.t 3], [.s], .lit,
 (.seq (.region [Kn 2 (.box 78 2 (.t 0)),
 Kn 3 (.mov Kf)]) (.seq (.region [Kn 4 (.fad (.t 2) 0),
 Kn 5 (.load false 1 (.t 4)),
 Kn 6 (.load false 1 (.t 1)),
 Kn 7 (.bin .eql .str (.t 5) (.t 6)),
 Km 3 7]) (.ret [3])))⟩
def g202 : Fn := g202F
theorem cmp202 : cmpFn Tryz.prog .lit [1000016] 202 = some g202 := by kernel_rfl
def g207F : Fn := ⟨9, [.t 2], [.s], .lit,
 (.seq (.region [Kn 2 (.mov Kf)]) (.seq (.region [Km 3 0,
 Kn 4 (.bin .geq .num (.t 3) (.c (.sc (.int .u8 128)))),
 Km 5 4,
 ⟨some 6, .mov (.t 0), some (5, true), 0, []⟩,
 ⟨some 7, .bin .leq .num (.t 6) (.c (.sc (.int .u8 191))), some (5, true), 0, []⟩,
 Kn 8 (.pick (.t 5) (.t 7) Kf),
 Km 2 8]) (.ret [2])))⟩
def g207 : Fn := g207F
theorem cmp207 : cmpFn Tryz.prog .lit [1000016] 207 = some g207 := by kernel_rfl
def b208_0F : Cd := (.seq (.seq (.region [Km 6 5,
 Km 7 1,
 Kn 8 (.bin .lss .num (.t 6) (.t 7))]) (.cond (.t 8) .skip (.exit 0 [0]))) (.seq (.block 1 (.region [Km 11 0,
 Kn 12 (.bin .quo .num (.t 11) (.c (.sc (.int .u64 2)))),
 Km 0 12])) (.region [Km 9 5,
 Kn 10 (.bin .add .num (.t 9) K1n),
 Km 5 10])))
def b208_0 : Cd := b208_0F
def g208F (c0 : Cd) : Fn := ⟨14, [.t 4], [.s], .lit,
 (.seq (.region [Kn 4 (.mov (.c (.sc (.int .u64 0))))]) (.seq (.seq (.region [Kn 5 (.mov K0)]) (.block 0 (.loop [1, 5, 0] c0))) (.seq (.region [Km 13 0,
 Km 4 13]) (.ret [4]))))⟩
def g208 : Fn := g208F b208_0
theorem cmp208 : cmpFn Tryz.prog .lit [1000016] 208 = some g208 := by kernel_rfl
def g221F : Fn := ⟨9, [.t 3], [.s], .lit,
 (.seq (.region [Kn 2 (.box 25 2 (.t 0)),
 Kn 3 (.mov Kf)]) (.seq (.region [Kn 4 (.fad (.t 2) 1),
 Kn 5 (.load false 1 (.t 4)),
 Kn 6 (.fad (.t 1) 1),
 Kn 7 (.load false 1 (.t 6)),
 Kn 8 (.bin .eql .num (.t 5) (.t 7)),
 Km 3 8]) (.ret [3])))⟩
def g221 : Fn := g221F
theorem cmp221 : cmpFn Tryz.prog .lit [1000016] 221 = some g221 := by kernel_rfl
def b227_0F : Cd := (.seq (.seq (.region [Km 16 6,
 Km 17 0,
 Kn 18 (.len false (.t 17)),
 Kn 19 (.bin .lss .num (.t 16) (.t 18))]) (.cond (.t 19) .skip (.exit 0 [0, 5]))) (.seq (.block 1 (.seq (.region [Km 22 0,
 Km 23 6,
 Kn 24 (.iadS 81 (.t 22) (.t 23)),
 Kn 25 (.load true 3 (.t 24)),
 Kn 7 (.box 81 3 (.c (.agg [.sc (.int .u64 0), .sc (.int .u16 0), .sc (.int .i64 0)]))),
 ⟨none, .store 3 (.t 7) (.t 25), none, 0, []⟩]) (.seq (.region [Km 26 1,
 Kn 27 (.load true 3 (.t 7)),
 Kn 28 (.callv (.t 26) [.t 27]),
 Kn 29 (.un .not (.t 28))]) (.cond (.t 29) (.seq (.region [Km 30 0,
 Km 31 5,
 Kn 32 (.load true 3 (.t 7)),
 Kn 33 (.iadS 81 (.t 30) (.t 31)),
 ⟨none, .store 3 (.t 33) (.t 32), none, 0, []⟩]) (.region [Km 34 5,
 Kn 35 (.bin .add .num (.t 34) K1n),
 Km 5 35])) .skip)))) (.region [Km 20 6,
 Kn 21 (.bin .add .num (.t 20) K1n),
 Km 6 21])))
def b227_0 : Cd := b227_0F
def g227F (c0 : Cd) : Fn := ⟨42, [.t 4], [.l 81], .mv,
 (.seq (.region [Kn 4 (.nil 81)]) (.seq (.region [Km 8 0,
 Km 9 1,
 Kn 10 (.call 164 [.l 81, .s] [.t 8, .t 9]),
 Km 5 10]) (.seq (.seq (.region [Km 11 5,
 Kn 12 (.bin .eql .num (.t 11) (.c (.sc (.int .i64 (-1)))))]) (.cond (.t 12) (.seq (.region [Km 13 0,
 Km 4 13]) (.ret [4])) .skip)) (.seq (.seq (.region [Km 14 5,
 Kn 15 (.bin .add .num (.t 14) K1n),
 Km 6 15]) (.block 0 (.loop [1, 6, 0, 5] c0))) (.seq (.region [Km 36 0,
 Km 37 5,
 Kn 38 (.sls 81 (.t 36) (some (.t 37)) none),
 ⟨none, .clr 81 (.agg [.sc (.int .u64 0), .sc (.int .u16 0), .sc (.int .i64 0)]) (.t 38), none, 0, []⟩]) (.seq (.region [Km 39 0,
 Km 40 5,
 Kn 41 (.sls 81 (.t 39) none (some (.t 40))),
 Km 4 41]) (.ret [4])))))))⟩
def g227 : Fn := g227F b227_0
theorem cmp227 : cmpFn Tryz.prog .mv [1000016, 1000400081] 227 = some g227 := by kernel_rfl
def g228F : Fn := ⟨9, [.t 3], [.s], .lit,
 (.seq (.region [Kn 2 (.box 81 3 (.t 0)),
 Kn 3 (.mov Kf)]) (.seq (.region [Kn 4 (.fad (.t 2) 0),
 Kn 5 (.fad (.t 4) 1),
 Kn 6 (.load false 1 (.t 5)),
 Kn 7 (.load false 1 (.t 1)),
 Kn 8 (.bin .eql .num (.t 6) (.t 7)),
 Km 3 8]) (.ret [3])))⟩
def g228 : Fn := g228F
theorem cmp228 : cmpFn Tryz.prog .lit [1000016] 228 = some g228 := by kernel_rfl
end Go.Ab.Tryz
namespace Go.Ab.Tryz
open Go Go.Ab Go.Proofs
set_option maxHeartbeats 4000000
def F : FuncId → Option Fn
  | 3 => some g3
  | 4 => some g4
  | 5 => some g5
  | 9 => some g9
  | 11 => some g11
  | 12 => some g12
  | 13 => some g13
  | 14 => some g14
  | 15 => some g15
  | 16 => some g16
  | 17 => some g17
  | 18 => some g18
  | 19 => some g19
  | 20 => some g20
  | 21 => some g21
  | 22 => some g22
  | 23 => some g23
  | 24 => some g24
  | 25 => some g25
  | 35 => some g35
  | 36 => some g36
  | 37 => some g37
  | 38 => some g38
  | 39 => some g39
  | 40 => some g40
  | 54 => some g54
  | 55 => some g55
  | 56 => some g56
  | 57 => some g57
  | 58 => some g58
  | 59 => some g59
  | 60 => some g60
  | 61 => some g61
  | 62 => some g62
  | 63 => some g63
  | 64 => some g64
  | 65 => some g65
  | 66 => some g66
  | 67 => some g67
  | 68 => some g68
  | 69 => some g69
  | 70 => some g70
  | 71 => some g71
  | 72 => some g72
  | 73 => some g73
  | 74 => some g74
  | 75 => some g75
  | 76 => some g76
  | 77 => some g77
  | 78 => some g78
  | 80 => some g80
  | 82 => some g82
  | 83 => some g83
  | 84 => some g84
  | 85 => some g85
  | 86 => some g86
  | 88 => some g88
  | 90 => some g90
  | 98 => some g98
  | 99 => some g99
  | 100 => some g100
  | 101 => some g101
  | 102 => some g102
  | 103 => some g103
  | 104 => some g104
  | 105 => some g105
  | 106 => some g106
  | 107 => some g107
  | 108 => some g108
  | 116 => some g116
  | 121 => some g121
  | 122 => some g122
  | 123 => some g123
  | 124 => some g124
  | 125 => some g125
  | 126 => some g126
  | 127 => some g127
  | 128 => some g128
  | 129 => some g129
  | 130 => some g130
  | 131 => some g131
  | 132 => some g132
  | 133 => some g133
  | 134 => some g134
  | 135 => some g135
  | 136 => some g136
  | 137 => some g137
  | 138 => some g138
  | 139 => some g139
  | 140 => some g140
  | 141 => some g141
  | 142 => some g142
  | 143 => some g143
  | 145 => some g145
  | 146 => some g146
  | 147 => some g147
  | 149 => some g149
  | 150 => some g150
  | 151 => some g151
  | 152 => some g152
  | 153 => some g153
  | 155 => some g155
  | 156 => some g156
  | 158 => some g158
  | 159 => some g159
  | 164 => some g164
  | 165 => some g165
  | 166 => some g166
  | 167 => some g167
  | 168 => some g168
  | 170 => some g170
  | 171 => some g171
  | 172 => some g172
  | 173 => some g173
  | 178 => some g178
  | 186 => some g186
  | 187 => some g187
  | 188 => some g188
  | 189 => some g189
  | 190 => some g190
  | 191 => some g191
  | 192 => some g192
  | 193 => some g193
  | 194 => some g194
  | 195 => some g195
  | 197 => some g197
  | 198 => some g198
  | 199 => some g199
  | 200 => some g200
  | 201 => some g201
  | 202 => some g202
  | 207 => some g207
  | 208 => some g208
  | 221 => some g221
  | 227 => some g227
  | 228 => some g228
  | _ => none
theorem F_ok : ∀ f fn, F f = some fn → ∃ md fz, cmpFn Tryz.prog md fz f = some fn := by
  intro f fn h
  unfold F at h
  split at h
  · cases h; exact ⟨_, _, cmp3⟩
  · cases h; exact ⟨_, _, cmp4⟩
  · cases h; exact ⟨_, _, cmp5⟩
  · cases h; exact ⟨_, _, cmp9⟩
  · cases h; exact ⟨_, _, cmp11⟩
  · cases h; exact ⟨_, _, cmp12⟩
  · cases h; exact ⟨_, _, cmp13⟩
  · cases h; exact ⟨_, _, cmp14⟩
  · cases h; exact ⟨_, _, cmp15⟩
  · cases h; exact ⟨_, _, cmp16⟩
  · cases h; exact ⟨_, _, cmp17⟩
  · cases h; exact ⟨_, _, cmp18⟩
  · cases h; exact ⟨_, _, cmp19⟩
  · cases h; exact ⟨_, _, cmp20⟩
  · cases h; exact ⟨_, _, cmp21⟩
  · cases h; exact ⟨_, _, cmp22⟩
  · cases h; exact ⟨_, _, cmp23⟩
  · cases h; exact ⟨_, _, cmp24⟩
  · cases h; exact ⟨_, _, cmp25⟩
  · cases h; exact ⟨_, _, cmp35⟩
  · cases h; exact ⟨_, _, cmp36⟩
  · cases h; exact ⟨_, _, cmp37⟩
  · cases h; exact ⟨_, _, cmp38⟩
  · cases h; exact ⟨_, _, cmp39⟩
  · cases h; exact ⟨_, _, cmp40⟩
  · cases h; exact ⟨_, _, cmp54⟩
  · cases h; exact ⟨_, _, cmp55⟩
  · cases h; exact ⟨_, _, cmp56⟩
  · cases h; exact ⟨_, _, cmp57⟩
  · cases h; exact ⟨_, _, cmp58⟩
  · cases h; exact ⟨_, _, cmp59⟩
  · cases h; exact ⟨_, _, cmp60⟩
  · cases h; exact ⟨_, _, cmp61⟩
  · cases h; exact ⟨_, _, cmp62⟩
  · cases h; exact ⟨_, _, cmp63⟩
  · cases h; exact ⟨_, _, cmp64⟩
  · cases h; exact ⟨_, _, cmp65⟩
  · cases h; exact ⟨_, _, cmp66⟩
  · cases h; exact ⟨_, _, cmp67⟩
  · cases h; exact ⟨_, _, cmp68⟩
  · cases h; exact ⟨_, _, cmp69⟩
  · cases h; exact ⟨_, _, cmp70⟩
  · cases h; exact ⟨_, _, cmp71⟩
  · cases h; exact ⟨_, _, cmp72⟩
  · cases h; exact ⟨_, _, cmp73⟩
  · cases h; exact ⟨_, _, cmp74⟩
  · cases h; exact ⟨_, _, cmp75⟩
  · cases h; exact ⟨_, _, cmp76⟩
  · cases h; exact ⟨_, _, cmp77⟩
  · cases h; exact ⟨_, _, cmp78⟩
  · cases h; exact ⟨_, _, cmp80⟩
  · cases h; exact ⟨_, _, cmp82⟩
  · cases h; exact ⟨_, _, cmp83⟩
  · cases h; exact ⟨_, _, cmp84⟩
  · cases h; exact ⟨_, _, cmp85⟩
  · cases h; exact ⟨_, _, cmp86⟩
  · cases h; exact ⟨_, _, cmp88⟩
  · cases h; exact ⟨_, _, cmp90⟩
  · cases h; exact ⟨_, _, cmp98⟩
  · cases h; exact ⟨_, _, cmp99⟩
  · cases h; exact ⟨_, _, cmp100⟩
  · cases h; exact ⟨_, _, cmp101⟩
  · cases h; exact ⟨_, _, cmp102⟩
  · cases h; exact ⟨_, _, cmp103⟩
  · cases h; exact ⟨_, _, cmp104⟩
  · cases h; exact ⟨_, _, cmp105⟩
  · cases h; exact ⟨_, _, cmp106⟩
  · cases h; exact ⟨_, _, cmp107⟩
  · cases h; exact ⟨_, _, cmp108⟩
  · cases h; exact ⟨_, _, cmp116⟩
  · cases h; exact ⟨_, _, cmp121⟩
  · cases h; exact ⟨_, _, cmp122⟩
  · cases h; exact ⟨_, _, cmp123⟩
  · cases h; exact ⟨_, _, cmp124⟩
  · cases h; exact ⟨_, _, cmp125⟩
  · cases h; exact ⟨_, _, cmp126⟩
  · cases h; exact ⟨_, _, cmp127⟩
  · cases h; exact ⟨_, _, cmp128⟩
  · cases h; exact ⟨_, _, cmp129⟩
  · cases h; exact ⟨_, _, cmp130⟩
  · cases h; exact ⟨_, _, cmp131⟩
  · cases h; exact ⟨_, _, cmp132⟩
  · cases h; exact ⟨_, _, cmp133⟩
  · cases h; exact ⟨_, _, cmp134⟩
  · cases h; exact ⟨_, _, cmp135⟩
  · cases h; exact ⟨_, _, cmp136⟩
  · cases h; exact ⟨_, _, cmp137⟩
  · cases h; exact ⟨_, _, cmp138⟩
  · cases h; exact ⟨_, _, cmp139⟩
  · cases h; exact ⟨_, _, cmp140⟩
  · cases h; exact ⟨_, _, cmp141⟩
  · cases h; exact ⟨_, _, cmp142⟩
  · cases h; exact ⟨_, _, cmp143⟩
  · cases h; exact ⟨_, _, cmp145⟩
  · cases h; exact ⟨_, _, cmp146⟩
  · cases h; exact ⟨_, _, cmp147⟩
  · cases h; exact ⟨_, _, cmp149⟩
  · cases h; exact ⟨_, _, cmp150⟩
  · cases h; exact ⟨_, _, cmp151⟩
  · cases h; exact ⟨_, _, cmp152⟩
  · cases h; exact ⟨_, _, cmp153⟩
  · cases h; exact ⟨_, _, cmp155⟩
  · cases h; exact ⟨_, _, cmp156⟩
  · cases h; exact ⟨_, _, cmp158⟩
  · cases h; exact ⟨_, _, cmp159⟩
  · cases h; exact ⟨_, _, cmp164⟩
  · cases h; exact ⟨_, _, cmp165⟩
  · cases h; exact ⟨_, _, cmp166⟩
  · cases h; exact ⟨_, _, cmp167⟩
  · cases h; exact ⟨_, _, cmp168⟩
  · cases h; exact ⟨_, _, cmp170⟩
  · cases h; exact ⟨_, _, cmp171⟩
  · cases h; exact ⟨_, _, cmp172⟩
  · cases h; exact ⟨_, _, cmp173⟩
  · cases h; exact ⟨_, _, cmp178⟩
  · cases h; exact ⟨_, _, cmp186⟩
  · cases h; exact ⟨_, _, cmp187⟩
  · cases h; exact ⟨_, _, cmp188⟩
  · cases h; exact ⟨_, _, cmp189⟩
  · cases h; exact ⟨_, _, cmp190⟩
  · cases h; exact ⟨_, _, cmp191⟩
  · cases h; exact ⟨_, _, cmp192⟩
  · cases h; exact ⟨_, _, cmp193⟩
  · cases h; exact ⟨_, _, cmp194⟩
  · cases h; exact ⟨_, _, cmp195⟩
  · cases h; exact ⟨_, _, cmp197⟩
  · cases h; exact ⟨_, _, cmp198⟩
  · cases h; exact ⟨_, _, cmp199⟩
  · cases h; exact ⟨_, _, cmp200⟩
  · cases h; exact ⟨_, _, cmp201⟩
  · cases h; exact ⟨_, _, cmp202⟩
  · cases h; exact ⟨_, _, cmp207⟩
  · cases h; exact ⟨_, _, cmp208⟩
  · cases h; exact ⟨_, _, cmp221⟩
  · cases h; exact ⟨_, _, cmp227⟩
  · cases h; exact ⟨_, _, cmp228⟩
  · cases h
end Go.Ab.Tryz
namespace Go.Proofs
open Go.Shelf
def Tryz.clone48_ren : Go.Shelf.Ren := ⟨fun | 41 => 48 | n => n, fun | 22 => 26 | 23 => 81 | 4 => 4 | n => n, fun | n => n⟩
theorem Tryz.clone48 : Go.Proofs.SlLaysE0.n41 Tryz.prog Tryz.clone48_ren where
  mixed := by kernel_rfl
  f41 := ⟨Tryz.f48.name, by decide, Tryz.func48.trans (congrArg some (by kernel_rfl))⟩
  t4 := Tryz.underlying4
  a4 := Tryz.isAgg4
  z4 := Tryz.sizeOf4
  v4 := Tryz.zeroValue4
  t22 := Tryz.underlying26
  a22 := Tryz.isAgg26
  z22 := Tryz.sizeOf26
  v22 := Tryz.zeroValue26
def Tryz.clone49_ren : Go.Shelf.Ren := ⟨fun | 41 => 49 | n => n, fun | 22 => 27 | 23 => 84 | 4 => 4 | n => n, fun | n => n⟩
theorem Tryz.clone49 : Go.Proofs.SlLaysE0.n41 Tryz.prog Tryz.clone49_ren where
  mixed := by kernel_rfl
  f41 := ⟨Tryz.f49.name, by decide, Tryz.func49.trans (congrArg some (by kernel_rfl))⟩
  t4 := Tryz.underlying4
  a4 := Tryz.isAgg4
  z4 := Tryz.sizeOf4
  v4 := Tryz.zeroValue4
  t22 := Tryz.underlying27
  a22 := Tryz.isAgg27
  z22 := Tryz.sizeOf27
  v22 := Tryz.zeroValue27
def Tryz.clone50_ren : Go.Shelf.Ren := ⟨fun | 41 => 50 | n => n, fun | 22 => 28 | 23 => 78 | 4 => 4 | n => n, fun | n => n⟩
theorem Tryz.clone50 : Go.Proofs.SlLaysE0.n41 Tryz.prog Tryz.clone50_ren where
  mixed := by kernel_rfl
  f41 := ⟨Tryz.f50.name, by decide, Tryz.func50.trans (congrArg some (by kernel_rfl))⟩
  t4 := Tryz.underlying4
  a4 := Tryz.isAgg4
  z4 := Tryz.sizeOf4
  v4 := Tryz.zeroValue4
  t22 := Tryz.underlying28
  a22 := Tryz.isAgg28
  z22 := Tryz.sizeOf28
  v22 := Tryz.zeroValue28
def Tryz.clone51_ren : Go.Shelf.Ren := ⟨fun | 41 => 51 | n => n, fun | 22 => 29 | 23 => 88 | 4 => 4 | n => n, fun | n => n⟩
theorem Tryz.clone51 : Go.Proofs.SlLaysE0.n41 Tryz.prog Tryz.clone51_ren where
  mixed := by kernel_rfl
  f41 := ⟨Tryz.f51.name, by decide, Tryz.func51.trans (congrArg some (by kernel_rfl))⟩
  t4 := Tryz.underlying4
  a4 := Tryz.isAgg4
  z4 := Tryz.sizeOf4
  v4 := Tryz.zeroValue4
  t22 := Tryz.underlying29
  a22 := Tryz.isAgg29
  z22 := Tryz.sizeOf29
  v22 := Tryz.zeroValue29
def Tryz.clone52_ren : Go.Shelf.Ren := ⟨fun | 41 => 52 | n => n, fun | 22 => 30 | 23 => 67 | 4 => 4 | n => n, fun | n => n⟩
theorem Tryz.clone52 : Go.Proofs.SlLaysE0.n41 Tryz.prog Tryz.clone52_ren where
  mixed := by kernel_rfl
  f41 := ⟨Tryz.f52.name, by decide, Tryz.func52.trans (congrArg some (by kernel_rfl))⟩
  t4 := Tryz.underlying4
  a4 := Tryz.isAgg4
  z4 := Tryz.sizeOf4
  v4 := Tryz.zeroValue4
  t22 := Tryz.underlying30
  a22 := Tryz.isAgg30
  z22 := Tryz.sizeOf30
  v22 := Tryz.zeroValue30
def Tryz.clone53_ren : Go.Shelf.Ren := ⟨fun | 41 => 53 | n => n, fun | 22 => 31 | 23 => 60 | 4 => 4 | n => n, fun | n => n⟩
theorem Tryz.clone53 : Go.Proofs.SlLaysE0.n41 Tryz.prog Tryz.clone53_ren where
  mixed := by kernel_rfl
  f41 := ⟨Tryz.f53.name, by decide, Tryz.func53.trans (congrArg some (by kernel_rfl))⟩
  t4 := Tryz.underlying4
  a4 := Tryz.isAgg4
  z4 := Tryz.sizeOf4
  v4 := Tryz.zeroValue4
  t22 := Tryz.underlying31
  a22 := Tryz.isAgg31
  z22 := Tryz.sizeOf31
  v22 := Tryz.zeroValue31
def Tryz.clone169_ren : Go.Shelf.Ren := ⟨fun | 41 => 169 | n => n, fun | 22 => 35 | 23 => 25 | 4 => 4 | n => n, fun | n => n⟩
theorem Tryz.clone169 : Go.Proofs.SlLaysE0.n41 Tryz.prog Tryz.clone169_ren where
  mixed := by kernel_rfl
  f41 := ⟨Tryz.f169.name, by decide, Tryz.func169.trans (congrArg some (by kernel_rfl))⟩
  t4 := Tryz.underlying4
  a4 := Tryz.isAgg4
  z4 := Tryz.sizeOf4
  v4 := Tryz.zeroValue4
  t22 := Tryz.underlying35
  a22 := Tryz.isAgg35
  z22 := Tryz.sizeOf35
  v22 := Tryz.zeroValue35
def Tryz.ins144_ren : Go.Shelf.Ren := ⟨fun | 22 => 144 | 29 => 203 | 30 => 204 | 36 => 231 | 17 => 242 | n => n, fun | 24 => 28 | 9 => 78 | 3 => 3 | 4 => 4 | 0 => 0 | n => n, fun | n => n⟩
theorem Tryz.ins144 : Go.Ab.InsBase Tryz.prog Tryz.ins144_ren where
  mixed := by kernel_rfl
  f22 := ⟨Tryz.f144.name, by decide, Tryz.func144.trans (congrArg some (by kernel_rfl))⟩
  t0 := Tryz.underlying0
  a0 := Tryz.isAgg0
  z0 := Tryz.sizeOf0
  v0 := Tryz.zeroValue0
  t3 := Tryz.underlying3
  a3 := Tryz.isAgg3
  z3 := Tryz.sizeOf3
  v3 := Tryz.zeroValue3
  t4 := Tryz.underlying4
  a4 := Tryz.isAgg4
  z4 := Tryz.sizeOf4
  v4 := Tryz.zeroValue4
  t24 := Tryz.underlying28
  a24 := Tryz.isAgg28
  z24 := Tryz.sizeOf28
  v24 := Tryz.zeroValue28
def Tryz.ins196_ren : Go.Shelf.Ren := ⟨fun | 22 => 196 | 29 => 229 | 30 => 230 | 36 => 241 | 17 => 255 | n => n, fun | 24 => 26 | 9 => 81 | 3 => 3 | 4 => 4 | 0 => 0 | n => n, fun | n => n⟩
theorem Tryz.ins196 : Go.Ab.InsBase Tryz.prog Tryz.ins196_ren where
  mixed := by kernel_rfl
  f22 := ⟨Tryz.f196.name, by decide, Tryz.func196.trans (congrArg some (by kernel_rfl))⟩
  t0 := Tryz.underlying0
  a0 := Tryz.isAgg0
  z0 := Tryz.sizeOf0
  v0 := Tryz.zeroValue0
  t3 := Tryz.underlying3
  a3 := Tryz.isAgg3
  z3 := Tryz.sizeOf3
  v3 := Tryz.zeroValue3
  t4 := Tryz.underlying4
  a4 := Tryz.isAgg4
  z4 := Tryz.sizeOf4
  v4 := Tryz.zeroValue4
  t24 := Tryz.underlying26
  a24 := Tryz.isAgg26
  z24 := Tryz.sizeOf26
  v24 := Tryz.zeroValue26
def Tryz.ins236_ren : Go.Shelf.Ren := ⟨fun | 22 => 236 | 29 => 243 | 30 => 244 | 36 => 256 | 17 => 262 | n => n, fun | 24 => 27 | 9 => 84 | 3 => 3 | 4 => 4 | 0 => 0 | n => n, fun | n => n⟩
theorem Tryz.ins236 : Go.Ab.InsBase Tryz.prog Tryz.ins236_ren where
  mixed := by kernel_rfl
  f22 := ⟨Tryz.f236.name, by decide, Tryz.func236.trans (congrArg some (by kernel_rfl))⟩
  t0 := Tryz.underlying0
  a0 := Tryz.isAgg0
  z0 := Tryz.sizeOf0
  v0 := Tryz.zeroValue0
  t3 := Tryz.underlying3
  a3 := Tryz.isAgg3
  z3 := Tryz.sizeOf3
  v3 := Tryz.zeroValue3
  t4 := Tryz.underlying4
  a4 := Tryz.isAgg4
  z4 := Tryz.sizeOf4
  v4 := Tryz.zeroValue4
  t24 := Tryz.underlying27
  a24 := Tryz.isAgg27
  z24 := Tryz.sizeOf27
  v24 := Tryz.zeroValue27
def Tryz.dec206_ren : Go.Shelf.Ren := ⟨fun | 197 => 206 | 260 => 232 | n => n, fun | 9 => 9 | 21 => 21 | 3 => 3 | 4 => 4 | 5 => 5 | 105 => 192 | 119 => 221 | 0 => 0 | 46 => 195 | 139 => 224 | 138 => 223 | n => n, fun | 3 => 0 | 4 => 1 | n => n⟩
theorem Tryz.dec206 : Go.Proofs.Lays.n197 Tryz.prog Tryz.dec206_ren where
  mixed := by kernel_rfl
  f197 := Tryz.func206.trans (congrArg some (by kernel_rfl))
  f260 := Tryz.func232.trans (congrArg some (by kernel_rfl))
  t0 := Tryz.underlying0
  a0 := Tryz.isAgg0
  z0 := Tryz.sizeOf0
  v0 := Tryz.zeroValue0
  t3 := Tryz.underlying3
  a3 := Tryz.isAgg3
  z3 := Tryz.sizeOf3
  v3 := Tryz.zeroValue3
  t4 := Tryz.underlying4
  a4 := Tryz.isAgg4
  z4 := Tryz.sizeOf4
  v4 := Tryz.zeroValue4
  t5 := Tryz.underlying5
  a5 := Tryz.isAgg5
  z5 := Tryz.sizeOf5
  v5 := Tryz.zeroValue5
  t9 := Tryz.underlying9
  a9 := Tryz.isAgg9
  z9 := Tryz.sizeOf9
  v9 := Tryz.zeroValue9
  t21 := Tryz.underlying21
  a21 := Tryz.isAgg21
  z21 := Tryz.sizeOf21
  v21 := Tryz.zeroValue21
  t46 := Tryz.underlying195
  a46 := Tryz.isAgg195
  z46 := Tryz.sizeOf195
  v46 := Tryz.zeroValue195
  t105 := Tryz.underlying192
  a105 := Tryz.isAgg192
  z105 := Tryz.sizeOf192
  v105 := Tryz.zeroValue192
  t119 := Tryz.underlying221
  a119 := Tryz.isAgg221
  z119 := Tryz.sizeOf221
  t138 := Tryz.underlying223
  a138 := Tryz.isAgg223
  z138 := Tryz.sizeOf223
  v138 := Tryz.zeroValue223
  t139 := Tryz.underlying224
  a139 := Tryz.isAgg224
  z139 := Tryz.sizeOf224
  v139 := Tryz.zeroValue224
  g3 := by kernel_rfl
  g4 := by kernel_rfl
theorem Tryz.over203 (args : Array Value) (w : World) (v : Value) (h : (Extern.SlicesOverlaps.overlaps #[Tryz.ins144_ren.t 24, Tryz.ins144_ren.t 24] #[Tryz.ins144_ren.t 4] args).run Tryz.prog w = .ok v w) : (callFunc (Tryz.ins144_ren.f 29) args).run Tryz.prog w = .ok (.value v) w := by
  show (callFunc 203 args).run Tryz.prog w = _
  rw [run_callFunc_extern Tryz.func203 (by kernel_rfl) (by kernel_rfl) (by kernel_rfl) (e := Extern.SlicesOverlaps.overlaps #[Tryz.ins144_ren.t 24, Tryz.ins144_ren.t 24] #[Tryz.ins144_ren.t 4]) (by kernel_rfl), h]
  rfl
theorem Tryz.over229 (args : Array Value) (w : World) (v : Value) (h : (Extern.SlicesOverlaps.overlaps #[Tryz.ins196_ren.t 24, Tryz.ins196_ren.t 24] #[Tryz.ins196_ren.t 4] args).run Tryz.prog w = .ok v w) : (callFunc (Tryz.ins196_ren.f 29) args).run Tryz.prog w = .ok (.value v) w := by
  show (callFunc 229 args).run Tryz.prog w = _
  rw [run_callFunc_extern Tryz.func229 (by kernel_rfl) (by kernel_rfl) (by kernel_rfl) (e := Extern.SlicesOverlaps.overlaps #[Tryz.ins196_ren.t 24, Tryz.ins196_ren.t 24] #[Tryz.ins196_ren.t 4]) (by kernel_rfl), h]
  rfl
theorem Tryz.over243 (args : Array Value) (w : World) (v : Value) (h : (Extern.SlicesOverlaps.overlaps #[Tryz.ins236_ren.t 24, Tryz.ins236_ren.t 24] #[Tryz.ins236_ren.t 4] args).run Tryz.prog w = .ok v w) : (callFunc (Tryz.ins236_ren.f 29) args).run Tryz.prog w = .ok (.value v) w := by
  show (callFunc 243 args).run Tryz.prog w = _
  rw [run_callFunc_extern Tryz.func243 (by kernel_rfl) (by kernel_rfl) (by kernel_rfl) (e := Extern.SlicesOverlaps.overlaps #[Tryz.ins236_ren.t 24, Tryz.ins236_ren.t 24] #[Tryz.ins236_ren.t 4]) (by kernel_rfl), h]
  rfl
end Go.Proofs
set_option linter.unusedVariables false
set_option linter.unusedSimpArgs false
namespace Go.Proofs
open Go.RowKit Go.Shelf
theorem dinfo22 : (Tryz.prog.info? 28).map (fun i => (i.zero, i.size, i.bytes)) = some (some (.slice none 0 0), 1, 24) := by kernel_rfl
theorem dinfo41 : (Tryz.prog.info? 78).map (fun i => (i.zero, i.size, i.bytes)) = some (some (.agg #[.string ⟨#[]⟩, .string ⟨#[]⟩]), 2, 32) := by kernel_rfl
def onlyN (K : Act → World → Prop) : Exit → Act → World → Prop
  | .normal, a, w => K a w
  | _, _, _ => False
def reg7 : Code := (Code.region 7 #[{ dst := some 17, op := Op.move (Operand.tmp 3), type := 110, pos := "ref.go:100", after := #[], guard := none }, { dst := some 18, op := Op.move (Operand.tmp 4), type := 3, pos := "ref.go:100", after := #[], guard := none }, { dst := some 19, op := Op.binOp BinOp.quo 3 (Operand.tmp 18) (Operand.const (Value.int IntKind.i64 8)) 3, type := 3, pos := "ref.go:100", after := #[{ on := 1, ground := Ground.data }], guard := none }, { dst := some 20, op := Op.move (Operand.tmp 3), type := 110, pos := "ref.go:100", after := #[], guard := none }, { dst := some 21, op := Op.move (Operand.tmp 4), type := 3, pos := "ref.go:100", after := #[], guard := none }, { dst := some 22, op := Op.binOp BinOp.quo 3 (Operand.tmp 21) (Operand.const (Value.int IntKind.i64 8)) 3, type := 3, pos := "ref.go:100", after := #[{ on := 4, ground := Ground.data }], guard := none }, { dst := some 23, op := Op.indexAddr 110 (Operand.tmp 20) (Operand.tmp 22), type := 0, pos := "ref.go:100", after := #[{ on := 3, ground := Ground.data }, { on := 5, ground := Ground.data }], guard := none }, { dst := some 24, op := Op.load 28 (Operand.tmp 23), type := 28, pos := "ref.go:100", after := #[{ on := 6, ground := Ground.data }], guard := none }, { dst := some 25, op := Op.move (Operand.tmp 0), type := 28, pos := "ref.go:100", after := #[], guard := none }, { dst := some 26, op := Op.move (Operand.tmp 4), type := 3, pos := "ref.go:100", after := #[], guard := none }, { dst := some 27, op := Op.indexAddr 28 (Operand.tmp 25) (Operand.tmp 26), type := 0, pos := "ref.go:100", after := #[{ on := 8, ground := Ground.data }, { on := 9, ground := Ground.data }], guard := none }, { dst := some 28, op := Op.load 78 (Operand.tmp 27), type := 78, pos := "ref.go:100", after := #[{ on := 10, ground := Ground.data }], guard := none }, { dst := some 29, op := Op.buildSlice 28 1 #[(0, Operand.tmp 28)], type := 28, pos := "ref.go:100", after := #[{ on := 11, ground := Ground.data }], guard := none }, { dst := some 30, op := Op.call { callee := Callee.builtin Builtin.append, args := #[Operand.tmp 24, Operand.tmp 29], argTypes := #[28, 28] }, type := 28, pos := "ref.go:100", after := #[{ on := 7, ground := Ground.data }, { on := 12, ground := Ground.data }], guard := none }, { dst := some 31, op := Op.indexAddr 110 (Operand.tmp 17) (Operand.tmp 19), type := 0, pos := "ref.go:100", after := #[{ on := 0, ground := Ground.data }, { on := 2, ground := Ground.data }, { on := 0, ground := Ground.phase }, { on := 1, ground := Ground.phase }, { on := 2, ground := Ground.phase }, { on := 3, ground := Ground.phase }, { on := 4, ground := Ground.phase }, { on := 5, ground := Ground.phase }, { on := 6, ground := Ground.phase }, { on := 7, ground := Ground.phase }, { on := 8, ground := Ground.phase }, { on := 9, ground := Ground.phase }, { on := 10, ground := Ground.phase }, { on := 11, ground := Ground.phase }, { on := 12, ground := Ground.phase }, { on := 13, ground := Ground.phase }], guard := none }, { dst := none, op := Op.store 28 (Operand.tmp 31) (Operand.tmp 30), type := 0, pos := "ref.go:100", after := #[{ on := 14, ground := Ground.data }, { on := 13, ground := Ground.data }, { on := 13, ground := Ground.chain }, { on := 0, ground := Ground.phase }, { on := 1, ground := Ground.phase }, { on := 2, ground := Ground.phase }, { on := 3, ground := Ground.phase }, { on := 4, ground := Ground.phase }, { on := 5, ground := Ground.phase }, { on := 6, ground := Ground.phase }, { on := 7, ground := Ground.phase }, { on := 8, ground := Ground.phase }, { on := 9, ground := Ground.phase }, { on := 10, ground := Ground.phase }, { on := 11, ground := Ground.phase }, { on := 12, ground := Ground.phase }, { on := 13, ground := Ground.phase }], guard := none }] true)
set_option maxRecDepth 100000 in
set_option maxHeartbeats 3200000 in
theorem reg7_wp (base b off len cap go co m n c : Nat) (svs : List Value) (sl p0 p1 : Value) (xs : List Value) (u5 u6 u7 u8 u9 u10 u11 u12 u13 u14 u15 u16 u17 u18 u19 u20 u21 u22 u23 u24 u25 u26 u27 u28 u29 u30 u31 : Value) (W : World) (K : Act → World → Prop)
    (hn : n < len) (hlen : len ≤ 1000000) (hm : svs.length = m) (hnm : n / 8 < m) (hbase : base ≤ W.heap.size)
    (hrow : W.ownsRow base 28 1 (.slice (some ⟨go, 0, none⟩) m co) m svs) (hsl : svs[n / 8]? = some sl) (hl : W.ownsRow base 78 2 sl c xs) (hc8 : c < 8) (hgo : sl.ownBlock ≠ some go)
    (h0 : W.cell? ⟨b, off + n * 2, none⟩ = some p0) (h1 : W.cell? ⟨b, off + n * 2 + 1, none⟩ = some p1) (o0 : p0.oneCell' = true) (o1 : p1.oneCell' = true) (hb : sl.ownBlock ≠ some b)
    (hQ : ∀ (x17 x18 x19 x20 x21 x22 x23 x24 x25 x26 x27 x28 x29 x30 x31 : Value) (g cp : Nat) (W1 : World), W1.ownsRow base 78 2 (.slice (some ⟨g, 0, none⟩) (c + 1) cp) (c + 1) (xs ++ [p0, p1]) → (W.alloc (.cells #[p0, p1] 78)).drew.grownBy W1 sl.ownBlock → (sl.ownBlock = some g ∨ g = W.heap.size + 1) → g < W1.heap.size →
      K { tmps := #[.slice (some ⟨b, off, none⟩) len cap, undef, .slice none 0 0, .slice (some ⟨go, 0, none⟩) m co, .int .i64 (n : Int), u5, u6, u7, u8, u9, u10, u11, u12, u13, u14, u15, u16, x17, x18, x19, x20, x21, x22, x23, x24, x25, x26, x27, x28, x29, x30, x31, undef], defers := [] } (W1.setCell ⟨go, n / 8, none⟩ (.slice (some ⟨g, 0, none⟩) (c + 1) cp))) :
    reg7.wp Tryz.prog (onlyN K) { tmps := #[.slice (some ⟨b, off, none⟩) len cap, undef, .slice none 0 0, .slice (some ⟨go, 0, none⟩) m co, .int .i64 (n : Int), u5, u6, u7, u8, u9, u10, u11, u12, u13, u14, u15, u16, u17, u18, u19, u20, u21, u22, u23, u24, u25, u26, u27, u28, u29, u30, u31, undef], defers := [] } W := by
  obtain ⟨i0, hi0, hz0, hz1, hz2⟩ := info_parts dinfo41
  have hN : ((n : Int) / 8).toNat = n / 8 := by omega
  have hgoc : ∃ cur, W.heap[go]? = some (.cells cur 28 (0, 0)) ∧ cur.toList.take (m * 1) = svs := by
    rcases hrow.2 with ⟨h, _⟩ | ⟨g', cap', cur', h, _, hgb, _, _, _, ht⟩
    · cases h
    · cases h; exact ⟨cur', hgb, ht⟩
  obtain ⟨cur, hgob, htake⟩ := hgoc
  have hgolt : go < W.heap.size := (Array.getElem?_eq_some_iff.1 hgob).1
  have hblt : b < W.heap.size := World.block_lt_of_cell? _ _ h0
  have hcell : W.cell? ⟨go, ((n : Int) / 8).toNat, none⟩ = some sl := by
    rw [hN, cell_of_row W go (n / 8) cur 28 (0, 0) hgob, ← Array.getElem?_toList]
    rw [← htake, List.getElem?_take] at hsl
    split at hsl
    · exact hsl
    · cases hsl
  have hfrz : W.frozen? ⟨go, ((n : Int) / 8).toNat, none⟩ = false := by simp [World.frozen?, hgob]
  clear hN
  have hfz : ∀ (o : Obj) (x : Nat), (W.alloc o).drew.frozen? ⟨go, x, none⟩ = false := fun o x => by
    have : (W.alloc o).drew.heap[go]? = some (.cells cur 28 (0, 0)) := (Below.heap_alloc W o go hgolt).trans hgob
    simp [World.frozen?, this]
  have hne1 := World.new_ne W _ hcell
  have hne2 := World.new_ne W _ h0
  have hw : IntKind.i64.wrap ((n : Int) / 8) = (n : Int) / 8 := by rw [IntKind.wrap_i64]; omega
  have hk0 : (0 : Int) ≤ (n : Int) / 8 := by omega
  have hk1 : (n : Int) / 8 < (m : Int) := by omega
  have hj0 : (0 : Int) ≤ (n : Int) := Int.natCast_nonneg _
  have hj1 : (n : Int) < (len : Int) := by omega
  unfold reg7
  have hc' : ∀ (o : Obj), (W.alloc o).drew.cell? ⟨go, ((n : Int) / 8).toNat, none⟩ = some sl := fun o => (World.cell?_alloc_lt _ _ _ hgolt).trans hcell
  have hd1 : W.drew.cell? ⟨go, ((n : Int) / 8).toNat, none⟩ = some sl := hcell
  have hd2 : W.drew.cell? ⟨b, off + n * 2, none⟩ = some p0 := h0
  have hd3 : W.drew.cell? ⟨b, off + n * 2 + 1, none⟩ = some p1 := h1
  go_region_law
    ((refine step_append_lies _ (by rfl) _ _ _ (by rfl) base 78 i0 _ 2 32 Tryz.underlying28 hi0 hz0 hz1 hz2 rfl (by omega) sl c xs (by rfl) ((hl.alloc _).drew)
        ⟨W.heap.size, 0, none⟩ 1 1 [p0, p1] (by rfl) (by rfl) (World.news_of_block (cs := #[p0, p1]) (t := 78) (fr := (0, 0)) (heap_alloc_new W _)) (by simp [o0, o1])
        (by omega) (by unfold maxLen; omega) (by omega) (by simp; omega) (W.heap.size + 1) (by simp) ?_; intro gg cp w1 hown1 hgrow hat hlt;
      (have hq1 : w1.cell? ⟨go, ((n : Int) / 8).toNat, none⟩ = some sl := (hgrow.cell_far _ (by simp; omega) (Ne.symm hgo)).trans (hc' _)); (have hq2 : w1.frozen? ⟨go, ((n : Int) / 8).toNat, none⟩ = false := (hgrow.frozen_far _ (by simp; omega) (Ne.symm hgo)).trans (hfz _ _))))
  all_goals
    (have hN : ((n : Int) / 8).toNat = n / 8 := by omega
     rw [hN]
     exact hQ _ _ _ _ _ _ _ _ _ _ _ _ _ _ _ gg cp w1 hown1 hgrow hat hlt)
end Go.Proofs
set_option linter.unusedVariables false
set_option linter.unusedSimpArgs false
namespace Go.Proofs
open Go.RowKit Go.Shelf
theorem wp_of_onlyN {P : Program} {c : Code} {Q : Exit → Act → World → Prop} {a : Act} {w : World} (h : c.wp P (onlyN fun a w => Q .normal a w) a w) : c.wp P Q a w :=
  Code.wp_mono (fun e a w h => by cases e <;> first | exact h | exact h.elim) h
theorem wrow_ne {W : World} {base base' : Nat} {e e' : TypeId} {size size' : Nat} {v v' : Value} {k k' : Nat} {xs xs' : List Value} (h : W.ownsRow base e size v k xs) (h' : W.ownsRow base' e' size' v' k' xs') (hne : e ≠ e') : v.ownBlock = none ∨ v.ownBlock ≠ v'.ownBlock := by
  rcases h.2 with ⟨rfl, _⟩ | ⟨g, cap, cur, rfl, _, hgb, _⟩
  · exact .inl rfl
  · refine .inr fun e'' => ?_
    rcases h'.2 with ⟨rfl, _⟩ | ⟨g', cap', cur', rfl, _, hgb', _⟩
    · cases e''
    · have : g = g' := by simpa [Value.ownBlock] using e''
      subst this
      rw [hgb] at hgb'; cases hgb'; exact hne rfl
theorem wrow_lt {W : World} {base : Nat} {e : TypeId} {size : Nat} {v : Value} {k : Nat} {xs : List Value} (h : W.ownsRow base e size v k xs) {g : Nat} (hg : v.ownBlock = some g) : g < W.heap.size := (h.lt g hg).2
def cntN (n k : Nat) : Nat := min 8 (n - 8 * k)
def newsN (vals : List Value) (n k : Nat) : List Value := (vals.drop (16 * k)).take (2 * cntN n k)
structure Gath (base : Nat) (vals : List Value) (n m : Nat) (v : Value) (svs : List Value) (W : World) : Prop where
  row : W.ownsRow base 28 1 v m svs
  len : svs.length = m
  each : ∀ (k : Nat) (sv : Value), svs[k]? = some sv → W.ownsRow base 78 2 sv (cntN n k) (newsN vals n k)
  apart : ∀ (j k : Nat) (sv sv' : Value), svs[j]? = some sv → svs[k]? = some sv' → j ≠ k → sv.ownBlock = none ∨ sv.ownBlock ≠ sv'.ownBlock
theorem Gath.nil {base : Nat} {vals : List Value} {n m : Nat} {v v2 : Value} {svs : List Value} {W A W2 : World} (h : Gath base vals n m v svs W) (hm : n ≤ 8 * m) (hA : ∀ {e s u k xs}, W.ownsRow base e s u k xs → A.ownsRow base e s u k xs) (hg : A.grownBy W2 v.ownBlock) (hown : W2.ownsRow base 28 1 v2 (m + 1) (svs ++ [.slice none 0 0])) :
    Gath base vals n (m + 1) v2 (svs ++ [.slice none 0 0]) W2 := by
  refine ⟨hown, by simp [h.len], fun k sv hk => ?_, fun j k sv sv' hj hk hne => ?_⟩
  · by_cases hkl : k < svs.length
    · rw [List.getElem?_append_left hkl] at hk
      have h1 := hA (h.each k sv hk)
      exact h1.kept hg (wrow_ne h1 (hA h.row) (by decide))
    · rw [List.getElem?_append_right (by omega)] at hk
      have hk0 : k - svs.length = 0 := by have := (List.getElem?_eq_some_iff.1 hk).1; simp at this; omega
      rw [hk0] at hk; simp at hk; subst hk
      have hl := h.len
      have e0 : cntN n k = 0 := by unfold cntN; omega
      unfold newsN
      rw [e0]
      exact ⟨by simp, .inl ⟨rfl, rfl⟩⟩
  · by_cases hjl : j < svs.length
    · rw [List.getElem?_append_left hjl] at hj
      by_cases hkl : k < svs.length
      · rw [List.getElem?_append_left hkl] at hk
        exact h.apart j k sv sv' hj hk hne
      · rw [List.getElem?_append_right (by omega)] at hk
        have hk0 : k - svs.length = 0 := by have := (List.getElem?_eq_some_iff.1 hk).1; simp at this; omega
        rw [hk0] at hk; simp at hk; subst hk
        cases sv.ownBlock with
        | none => exact .inl rfl
        | some x => exact .inr (by intro e; cases e)
    · rw [List.getElem?_append_right (by omega)] at hj
      have hj0 : j - svs.length = 0 := by have := (List.getElem?_eq_some_iff.1 hj).1; simp at this; omega
      rw [hj0] at hj; simp at hj; subst hj
      exact .inl rfl
theorem wrow_set {W : World} {base g cap k j : Nat} {e : TypeId} {svs : List Value} {u : Value} (h : W.ownsRow base e 1 (.slice (some ⟨g, 0, none⟩) k cap) k svs) (hj : j < k) : (W.setCell ⟨g, j, none⟩ u).ownsRow base e 1 (.slice (some ⟨g, 0, none⟩) k cap) k (svs.set j u) := by
  refine ⟨by rw [List.length_set]; exact h.1, ?_⟩
  rcases h.2 with ⟨h', _⟩ | ⟨g', cap', cur, h', hb, hgb, h1, h2, h3, h4⟩
  · cases h'
  · cases h'
    obtain ⟨hlt, hk⟩ := Array.getElem?_eq_some_iff.1 hgb
    refine .inr ⟨g, cap, cur.setIfInBounds j u, rfl, hb, ?_, h1, h2, by rw [Array.size_setIfInBounds]; exact h3, ?_⟩
    · show (W.heap.modify g _)[g]? = _
      rw [Array.getElem?_eq_getElem (by rw [Array.size_modify]; exact hlt), Array.getElem_modify_self, hk]
      rfl
    · rw [← h4, Array.toList_setIfInBounds, List.take_set]
theorem Gath.pair {base : Nat} {vals : List Value} {n : Nat} {go co g cp : Nat} {svs : List Value} {sl p0 p1 : Value} {W A W1 : World} (h : Gath base vals n (n / 8 + 1) (.slice (some ⟨go, 0, none⟩) (n / 8 + 1) co) svs W)
    (hsl : svs[n / 8]? = some sl) (hp0 : vals[2 * n]? = some p0) (hp1 : vals[2 * n + 1]? = some p1)
    (hA : ∀ {e s u k xs}, W.ownsRow base e s u k xs → A.ownsRow base e s u k xs) (hown : W1.ownsRow base 78 2 (.slice (some ⟨g, 0, none⟩) (cntN n (n / 8) + 1) cp) (cntN n (n / 8) + 1) (newsN vals n (n / 8) ++ [p0, p1]))
    (hg : A.grownBy W1 sl.ownBlock) (hat : sl.ownBlock = some g ∨ g = W.heap.size + 1) :
    Gath base vals (n + 1) (n / 8 + 1) (.slice (some ⟨go, 0, none⟩) (n / 8 + 1) co) (svs.set (n / 8) (.slice (some ⟨g, 0, none⟩) (cntN n (n / 8) + 1) cp)) (W1.setCell ⟨go, n / 8, none⟩ (.slice (some ⟨g, 0, none⟩) (cntN n (n / 8) + 1) cp)) := by
  have hl := h.len
  have hrow1 : W1.ownsRow base 28 1 (.slice (some ⟨go, 0, none⟩) (n / 8 + 1) co) (n / 8 + 1) svs := by
    have h1 := hA h.row
    exact h1.kept hg (wrow_ne h1 (hA (h.each _ _ hsl)) (by decide))
  have hset := grownBy_setCell' W1 go (.slice (some ⟨g, 0, none⟩) (cntN n (n / 8) + 1) cp)
  have hgs : W1.grownBy (W1.setCell ⟨go, n / 8, none⟩ (.slice (some ⟨g, 0, none⟩) (cntN n (n / 8) + 1) cp)) (some go) :=
    ⟨rfl, rfl, rfl, by show W1.heap.size ≤ (W1.heap.modify _ _).size; rw [Array.size_modify]; exact Nat.le_refl _, fun k _ hk => Below.heap_setCell _ _ _ k (fun e => hk (by rw [e]))⟩
  have c41 : ∀ {u : Value} {k : Nat} {xs : List Value}, W1.ownsRow base 78 2 u k xs → (W1.setCell ⟨go, n / 8, none⟩ (.slice (some ⟨g, 0, none⟩) (cntN n (n / 8) + 1) cp)).ownsRow base 78 2 u k xs := fun hu => hu.kept hgs (wrow_ne hu hrow1 (by decide))
  refine ⟨wrow_set hrow1 (by omega), by rw [List.length_set]; exact hl, fun k sv hk => ?_, fun j k sv sv' hj hk hne => ?_⟩
  · rw [List.getElem?_set] at hk
    split at hk
    · rename_i e
      subst e
      split at hk
      · cases hk
        have e1 : cntN (n + 1) (n / 8) = cntN n (n / 8) + 1 := by unfold cntN; omega
        have e2 : newsN vals (n + 1) (n / 8) = newsN vals n (n / 8) ++ [p0, p1] := by
          unfold newsN
          rw [e1, show 2 * (cntN n (n / 8) + 1) = 2 * cntN n (n / 8) + 2 by omega, List.take_add, List.drop_drop]
          congr 1
          have e3 : 16 * (n / 8) + 2 * cntN n (n / 8) = 2 * n := by unfold cntN; omega
          rw [e3]
          obtain ⟨l0, h0⟩ := List.getElem?_eq_some_iff.1 hp0
          obtain ⟨l1, h1⟩ := List.getElem?_eq_some_iff.1 hp1
          rw [List.drop_eq_getElem_cons l0, List.drop_eq_getElem_cons l1, h0, h1]
          rfl
        rw [e1, e2]
        exact c41 hown
      · cases hk
    · rename_i e
      have hkl := (List.getElem?_eq_some_iff.1 hk).1
      have e1 : cntN (n + 1) k = cntN n k := by unfold cntN; omega
      have h1 := hA (h.each k sv hk)
      have h2 := c41 (h1.kept hg (h.apart k (n / 8) sv sl hk hsl (fun e' => e e'.symm)))
      unfold newsN at h2 ⊢
      rw [e1]; exact h2
  · have hnew : ∀ (i : Nat) (u : Value), svs[i]? = some u → i ≠ n / 8 → u.ownBlock = none ∨ u.ownBlock ≠ some g := fun i u hi hin => by
      rcases hat with e | e
      · rw [← e]; exact h.apart i (n / 8) u sl hi hsl hin
      · cases hu : u.ownBlock with
        | none => exact .inl rfl
        | some x =>
          refine .inr fun e' => ?_
          have := wrow_lt (h.each i u hi) hu
          cases e'; omega
    rw [List.getElem?_set] at hj hk
    split at hj
    · rename_i ej
      split at hj
      · cases hj
        split at hk
        · rename_i ek; omega
        · rename_i ek
          rcases hnew k sv' hk (fun e' => ek e'.symm) with e | e
          · exact .inr (by rw [e]; simp [Value.ownBlock])
          · exact .inr (fun e' => e (e'.symm.trans rfl))
      · cases hj
    · rename_i ej
      split at hk
      · rename_i ek
        split at hk
        · cases hk
          exact hnew j sv hj (fun e' => ej e'.symm)
        · cases hk
      · exact h.apart j k sv sv' hj hk hne
end Go.Proofs
set_option linter.unusedVariables false
set_option linter.unusedSimpArgs false
namespace Go.Proofs
open Go.RowKit Go.Shelf
set_option maxRecDepth 100000 in
theorem reg7_gath (base b off len cap n : Nat) (vals : List Value) (u5 u6 u7 u8 u9 u10 u11 u12 u13 u14 u15 u16 u17 u18 u19 u20 u21 u22 u23 u24 u25 u26 u27 u28 u29 u30 u31 : Value) (w0 W : World) (v : Value) (svs : List Value) (K : Act → World → Prop)
    (hn : n < len) (hlen : len ≤ 1000000) (hbase : base ≤ W.heap.size) (hl : vals.length = 2 * len) (hbb : b < base)
    (hc : ∀ j u, vals[j]? = some u → W.cell? ⟨b, off + j, none⟩ = some u) (h1 : ∀ u ∈ vals, u.oneCell' = true)
    (hG : Gath base vals n (n / 8 + 1) v svs W) (hB : Below base w0 W)
    (hQ : ∀ (x17 x18 x19 x20 x21 x22 x23 x24 x25 x26 x27 x28 x29 x30 x31 v' : Value) (svs' : List Value) (W' : World), Gath base vals (n + 1) (n / 8 + 1) v' svs' W' → Below base w0 W' →
      K { tmps := #[.slice (some ⟨b, off, none⟩) len cap, undef, .slice none 0 0, v', .int .i64 (n : Int), u5, u6, u7, u8, u9, u10, u11, u12, u13, u14, u15, u16, x17, x18, x19, x20, x21, x22, x23, x24, x25, x26, x27, x28, x29, x30, x31, undef], defers := [] } W') :
    reg7.wp Tryz.prog (onlyN K) { tmps := #[.slice (some ⟨b, off, none⟩) len cap, undef, .slice none 0 0, v, .int .i64 (n : Int), u5, u6, u7, u8, u9, u10, u11, u12, u13, u14, u15, u16, u17, u18, u19, u20, u21, u22, u23, u24, u25, u26, u27, u28, u29, u30, u31, undef], defers := [] } W := by
  have hm := hG.len
  obtain ⟨sl, hsl⟩ : ∃ sl, svs[n / 8]? = some sl := ⟨_, List.getElem?_eq_getElem (by omega)⟩
  obtain ⟨p0, hp0⟩ : ∃ p, vals[2 * n]? = some p := ⟨_, List.getElem?_eq_getElem (by omega)⟩
  obtain ⟨p1, hp1⟩ : ∃ p, vals[2 * n + 1]? = some p := ⟨_, List.getElem?_eq_getElem (by omega)⟩
  have hrow := hG.row
  have hsr := hG.each _ _ hsl
  have hv : ∃ go co, v = .slice (some ⟨go, 0, none⟩) (n / 8 + 1) co ∧ base ≤ go := by
    rcases hrow.2 with ⟨_, h⟩ | ⟨g, cp, cur, h, hb, _⟩
    · exact absurd h (by omega)
    · exact ⟨g, cp, h, hb⟩
  obtain ⟨go, co, rfl, hgob⟩ := hv
  have hno : ∀ x, sl.ownBlock = some x → base ≤ x := fun x hx => (hsr.lt x hx).1
  refine reg7_wp base b off len cap go co (n / 8 + 1) n (cntN n (n / 8)) svs sl p0 p1 (newsN vals n (n / 8)) u5 u6 u7 u8 u9 u10 u11 u12 u13 u14 u15 u16 u17 u18 u19 u20 u21 u22 u23 u24 u25 u26 u27 u28 u29 u30 u31 W K hn hlen hm (by omega) hbase hrow hsl hsr (by unfold cntN; omega) ?_
    (by have := hc _ _ hp0; rwa [Nat.mul_comm] at this) (by have := hc _ _ hp1; rw [Nat.mul_comm] at this; rw [Nat.add_assoc]; exact this) (h1 _ (List.mem_of_getElem? hp0)) (h1 _ (List.mem_of_getElem? hp1)) ?_ ?_
  · intro e
    rcases wrow_ne hsr hrow (by decide) with h | h
    · rw [h] at e; cases e
    · exact h (e.trans rfl)
  · intro e
    have := hno _ e
    omega
  · intro x17 x18 x19 x20 x21 x22 x23 x24 x25 x26 x27 x28 x29 x30 x31 g cp W1 hown hg hat hlt
    have hA : ∀ {e s u k xs}, W.ownsRow base e s u k xs → (W.alloc (.cells #[p0, p1] 78)).drew.ownsRow base e s u k xs := fun h => (h.alloc _).drew
    refine hQ _ _ _ _ _ _ _ _ _ _ _ _ _ _ _ _ (svs.set (n / 8) (.slice (some ⟨g, 0, none⟩) (cntN n (n / 8) + 1) cp)) _ (Gath.pair hG hsl hp0 hp1 hA hown hg hat) ?_
    have hB1 : Below base w0 W1 := by
      have h0 : Below base w0 (W.alloc (.cells #[p0, p1] 78)).drew := (hB.alloc hbase _).drew
      refine h0.grown hg (by simp; omega) (fun k e => hno _ e)
    exact hB1.setCell hgob _
theorem cell_kept {B : Nat} {w W : World} (hB : Below B w W) {b off : Nat} {vals : List Value} (hb : b < B) (hc : ∀ j u, vals[j]? = some u → w.cell? ⟨b, off + j, none⟩ = some u) :
    ∀ j u, vals[j]? = some u → W.cell? ⟨b, off + j, none⟩ = some u := fun j u h => (hB.cell (p := ⟨b, off + j, none⟩) hb).trans (hc j u h)
set_option maxRecDepth 100000 in
set_option maxHeartbeats 3200000 in
theorem gather_calls (b off len cap : Nat) (a : Option Addr) (vals : List Value) (hlen : len ≤ 1000000) (w : World)
    (ha : 0 < len → a = some ⟨b, off, none⟩) (hl : vals.length = 2 * len) (hc : ∀ j u, vals[j]? = some u → w.cell? ⟨b, off + j, none⟩ = some u) (h1 : ∀ u ∈ vals, u.oneCell' = true) :
    Calls Tryz.prog 81 #[.slice a len cap] w fun e W' => ∃ v svs, e = .returned v ∧ Gath w.heap.size vals len ((len + 7) / 8) v svs W' ∧ Below w.heap.size w W' := by
  obtain ⟨i0, hi0, hz0, hz1, hz2⟩ := info_parts dinfo22
  go_enter Tryz.func81, Tryz.ntmps81
  go_wp2
  go_loopw [3, 4] (fun v i wr => ∃ (n : Nat) (svs : List Value), n ≤ len ∧ i = .int .i64 (n : Int) ∧ Gath w.heap.size vals n ((n + 7) / 8) v svs wr ∧ Below w.heap.size w wr) (fun _ i _ => len + 1 - (intOf i).toNat)
  case atStart =>
    exact ⟨0, [], by omega, rfl, ⟨⟨by simp, .inl ⟨rfl, rfl⟩⟩, rfl, (fun k sv h => by cases h), (fun j k sv sv' h => by cases h)⟩, Below.refl _ _⟩
  case round =>
    obtain ⟨n, svs, hn, rfl, hG, hB⟩ := hrel
    have hsz := hB.size
    have hm := hG.len
    by_cases hnl : n < len
    · obtain rfl := ha (by omega)
      have hbb : b < w.heap.size := World.block_lt_of_cell? _ _ (hc 0 _ (List.getElem?_eq_getElem (by omega)))
      go_wp2_with (at_builtin; refine wpList_append_own _ rfl _ _ 110 rfl w.heap.size 28 i0 (.slice none 0 0) 1 24 Tryz.underlying110 hi0 hz0 hz1 hz2 rfl (by omega) _ svs.length svs rfl (by rw [hm]; exact hG.row.alloc _) ⟨wr.heap.size, 0, none⟩ 1 1 [.slice none 0 0] rfl rfl (cell_one_new _ _ _) (by simp [Value.oneCell']) (by unfold maxLen; omega) (by omega) (by simp; omega) ?_; intro v2 w2 hown2 hg2 hnil2)
      · rename_i hK hr
        have hr8 : n % 8 = 0 := by simp at hr; omega
        have em : (n + 7) / 8 = n / 8 := by omega
        rw [em] at hG
        have hA : ∀ {e s u k xs}, wr.ownsRow w.heap.size e s u k xs → (wr.alloc (.cells #[.slice none 0 0] 28)).ownsRow w.heap.size e s u k xs := fun h => h.alloc _
        have hG2 : Gath w.heap.size vals n (n / 8 + 1) v2 (svs ++ [.slice none 0 0]) w2 := Gath.nil hG (by omega) hA hg2 (by rw [← hG.len]; exact hown2)
        have hB2 : Below w.heap.size w w2 := (hB.alloc hsz _).grown hg2 (by simp; omega) (fun k e => (hG.row.lt k e).1)
        refine wp_of_onlyN (reg7_gath w.heap.size b off len cap n vals _ _ _ _ _ _ _ _ _ _ _ _ _ _ _ _ _ _ _ _ _ _ _ _ _ _ _ w w2 v2 _ _ hnl hlen hB2.size hl hbb (cell_kept hB2 hbb hc) h1 hG2 hB2 ?_)
        intro x17 x18 x19 x20 x21 x22 x23 x24 x25 x26 x27 x28 x29 x30 x31 v' svs' W' hG' hB'
        refine hK _ _ ?_
        go_wp2
        go_roundw
        case rel => exact ⟨n + 1, svs', by omega, by simp, by rw [show (n + 1 + 7) / 8 = n / 8 + 1 by omega]; exact hG', hB'⟩
        case measure => simp [intOf]; omega
      · rename_i hK hr
        have hr8 : n % 8 ≠ 0 := by simp at hr; omega
        have em : (n + 7) / 8 = n / 8 + 1 := by omega
        rw [em] at hG
        refine wp_of_onlyN (reg7_gath w.heap.size b off len cap n vals _ _ _ _ _ _ _ _ _ _ _ _ _ _ _ _ _ _ _ _ _ _ _ _ _ _ _ w wr _ svs _ hnl hlen hsz hl hbb (cell_kept hB hbb hc) h1 hG hB ?_)
        intro x17 x18 x19 x20 x21 x22 x23 x24 x25 x26 x27 x28 x29 x30 x31 v' svs' W' hG' hB'
        refine hK _ _ ?_
        go_wp2
        go_roundw
        case rel => exact ⟨n + 1, svs', by omega, by simp, by rw [show (n + 1 + 7) / 8 = n / 8 + 1 by omega]; exact hG', hB'⟩
        case measure => simp [intOf]; omega
    · have hnn : n = len := by omega
      subst hnn
      go_wp2
      go_ret
      exact ⟨_, svs, rfl, hG, hB⟩
end Go.Proofs
set_option linter.unusedVariables false
set_option linter.unusedSimpArgs false
namespace Go.Proofs
open Go.RowKit Go.Sort
attribute [local go_sem ↓] Go.wp_at_zero Go.wp_at_succ
def cmpI (x y : Int) : Int := if x < y then -1 else if y < x then 1 else 0
theorem nan239 (x : Int) (w : World) : Calls Tryz.prog 239 #[.int .u64 x] w fun e w' => e = .returned (.bool false) ∧ w' = w := by
  go_enter Tryz.func239, Tryz.ntmps239
  go_wp2
  go_ret
  exact ⟨by simp, rfl⟩
theorem nan240 (x : Int) (w : World) : Calls Tryz.prog 240 #[.int .u16 x] w fun e w' => e = .returned (.bool false) ∧ w' = w := by
  go_enter Tryz.func240, Tryz.ntmps240
  go_wp2
  go_ret
  exact ⟨by simp, rfl⟩
set_option maxHeartbeats 1000000 in
theorem cmp225 (x y : Int) (w : World) : Calls Tryz.prog 225 #[.int .u64 x, .int .u64 y] w fun e w' => e = .returned (.int .i64 (cmpI x y)) ∧ w' = w := by
  go_enter Tryz.func225, Tryz.ntmps225
  go_wp2_with (go_at_call 239; refine (nan239 _ _).mono ?_; rintro e w' ⟨rfl, hw⟩; rw [hw])
  all_goals (go_ret; refine ⟨?_, rfl⟩; unfold cmpI; (repeat' split) <;> first | rfl | (exfalso; omega))
set_option maxHeartbeats 1000000 in
theorem cmp226 (x y : Int) (w : World) : Calls Tryz.prog 226 #[.int .u16 x, .int .u16 y] w fun e w' => e = .returned (.int .i64 (cmpI x y)) ∧ w' = w := by
  go_enter Tryz.func226, Tryz.ntmps226
  go_wp2_with (go_at_call 240; refine (nan240 _ _).mono ?_; rintro e w' ⟨rfl, hw⟩; rw [hw])
  all_goals (go_ret; refine ⟨?_, rfl⟩; unfold cmpI; (repeat' split) <;> first | rfl | (exfalso; omega))
theorem dist166 (a b : Int) (w : World) : Calls Tryz.prog 166 #[.int .u64 a, .int .u64 b] w fun e w' => e = .returned (.int .u64 ((b - a) % 18446744073709551616)) ∧ w' = w := by
  go_enter Tryz.func166, Tryz.ntmps166
  go_wp2
  go_ret
  exact ⟨by simp [IntKind.wrap, IntKind.signed, IntKind.bits], rfl⟩
theorem or224 (a b r : Int) (hr : r = if a = 0 then b else a) (blk : Nat) (w : World) (ha : w.cell? ⟨blk, 0, none⟩ = some (.int .i64 a)) (hb : w.cell? ⟨blk, 1, none⟩ = some (.int .i64 b)) :
    Calls Tryz.prog 224 #[.slice (some ⟨blk, 0, none⟩) 2 2] w fun e w' => e = .returned (.int .i64 r) ∧ w' = w := by
  by_cases h0 : a = 0
  · rw [if_pos h0] at hr
    subst hr
    subst h0
    by_cases h1 : r = 0
    · subst h1
      go_enter Tryz.func224, Tryz.ntmps224
      go_wp2
      refine wp_loop_rounds 3 ?_
      rw [rounds_succ]
      go_wp2
      rw [rounds_succ]
      go_wp2
      rw [rounds_succ]
      go_wp2
      go_ret
      exact ⟨rfl, rfl⟩
    · go_enter Tryz.func224, Tryz.ntmps224
      go_wp2
      refine wp_loop_rounds 3 ?_
      rw [rounds_succ]
      go_wp2
      rw [rounds_succ]
      go_wp2
      go_ret
      exact ⟨rfl, rfl⟩
  · rw [if_neg h0] at hr
    subst hr
    go_enter Tryz.func224, Tryz.ntmps224
    go_wp2
    refine wp_loop_rounds 3 ?_
    rw [rounds_succ]
    go_wp2
    go_ret
    exact ⟨rfl, rfl⟩
def hopCmp (me : Int) (x y : Int × Int) : Int := if cmpI ((y.1 - me) % 18446744073709551616) ((x.1 - me) % 18446744073709551616) = 0 then cmpI x.2 y.2 else cmpI ((y.1 - me) % 18446744073709551616) ((x.1 - me) % 18446744073709551616)
set_option maxHeartbeats 4000000 in
set_option maxRecDepth 100000 in
theorem comp223 (me : Int) (x y : Int × Int) (bx : Nat) (W : World) (hc : W.cell? ⟨bx, 0, none⟩ = some (.int .u64 me)) :
    Calls Tryz.prog 223 #[.agg #[.int .u64 x.1, .int .u16 x.2], .agg #[.int .u64 y.1, .int .u16 y.2], .pointer (some ⟨bx, 0, none⟩)] W fun e w' => e = .returned (.int .i64 (hopCmp me x y)) ∧ ∃ q os', w' = grow (W.drewN q) os' := by
  obtain ⟨x1, x2⟩ := x
  obtain ⟨y1, y2⟩ := y
  have hlt : bx < W.heap.size := World.block_lt_of_cell? _ _ hc
  obtain ⟨A, hA⟩ : ∃ A, A = (y1 - me) % 18446744073709551616 := ⟨_, rfl⟩
  obtain ⟨B, hB⟩ : ∃ B, B = (x1 - me) % 18446744073709551616 := ⟨_, rfl⟩
  have d1 : ∀ w, Calls Tryz.prog 166 #[.int .u64 me, .int .u64 y1] w fun e w' => e = .returned (.int .u64 A) ∧ w' = w := fun w => by rw [hA]; exact dist166 me y1 w
  have d2 : ∀ w, Calls Tryz.prog 166 #[.int .u64 me, .int .u64 x1] w fun e w' => e = .returned (.int .u64 B) ∧ w' = w := fun w => by rw [hB]; exact dist166 me x1 w
  obtain ⟨C, hC⟩ : ∃ C, C = cmpI A B := ⟨_, rfl⟩
  obtain ⟨D, hD⟩ : ∃ D, D = cmpI x2 y2 := ⟨_, rfl⟩
  have c1 : ∀ w, Calls Tryz.prog 225 #[.int .u64 A, .int .u64 B] w fun e w' => e = .returned (.int .i64 C) ∧ w' = w := fun w => by rw [hC]; exact cmp225 A B w
  have c2 : ∀ w, Calls Tryz.prog 226 #[.int .u16 x2, .int .u16 y2] w fun e w' => e = .returned (.int .i64 D) ∧ w' = w := fun w => by rw [hD]; exact cmp226 x2 y2 w
  obtain ⟨r, hr⟩ : ∃ r, r = if C = 0 then D else C := ⟨_, rfl⟩
  have hrr : hopCmp me (x1, x2) (y1, y2) = r := by rw [hr, hC, hD, hA, hB]; rfl
  have o1 : ∀ blk w, w.cell? ⟨blk, 0, none⟩ = some (.int .i64 C) → w.cell? ⟨blk, 1, none⟩ = some (.int .i64 D) → Calls Tryz.prog 224 #[.slice (some ⟨blk, 0, none⟩) 2 2] w fun e w' => e = .returned (.int .i64 r) ∧ w' = w := fun blk w h1 h2 => or224 C D r hr blk w h1 h2
  rw [hrr]
  clear hrr hA hB hC hD hr
  dsimp only
  go_enter Tryz.func223, Tryz.ntmps223
  go_wp2
  obtain ⟨V, hV⟩ : ∃ V, (W.alloc (.cells #[.int .u64 x1, .int .u16 x2] 25)).alloc (.cells #[.int .u64 y1, .int .u16 y2] 25) = V := ⟨_, rfl⟩
  have c0 : V.drew.cell? ⟨bx, 0, none⟩ = some (.int .u64 me) := by
    rw [← hV]
    exact (World.cell?_alloc_lt _ _ _ (by simp; omega)).trans ((World.cell?_alloc_lt _ _ _ hlt).trans hc)
  have rd : ∀ (w : World) (g j : Nat) (cs : Array Value), w.heap[g]? = some (.cells cs 25 (0, 0)) → w.cell? ⟨g, j, none⟩ = cs[j]? := fun w g j cs hg => cell_of_row w g j cs 25 (0, 0) hg
  have hx0 : ((W.alloc (.cells #[.int .u64 x1, .int .u16 x2] 25)).alloc (.cells #[.int .u64 y1, .int .u16 y2] 25)).heap[W.heap.size]? = some (.cells #[.int .u64 x1, .int .u16 x2] 25 (0, 0)) := (heap_alloc_old _ _ (by simp)).trans (heap_alloc_new W _)
  have hy0 : ((W.alloc (.cells #[.int .u64 x1, .int .u16 x2] 25)).alloc (.cells #[.int .u64 y1, .int .u16 y2] 25)).heap[W.heap.size + 1]? = some (.cells #[.int .u64 y1, .int .u16 y2] 25 (0, 0)) := by
    have hs : (W.alloc (.cells #[.int .u64 x1, .int .u16 x2] 25)).heap.size = W.heap.size + 1 := by simp
    rw [← hs]; exact heap_alloc_new _ _
  rw [hV] at hx0 hy0
  have cx : ∀ j u, [Value.int .u64 x1, .int .u16 x2][j]? = some u → V.drew.cell? ⟨W.heap.size, j, none⟩ = some u := fun j u hj => by
    refine (rd V.drew _ _ _ hx0).trans ?_
    simpa using hj
  have cy : ∀ j u, [Value.int .u64 y1, .int .u16 y2][j]? = some u → V.drew.cell? ⟨W.heap.size + 1, j, none⟩ = some u := fun j u hj => by
    refine (rd V.drew _ _ _ hy0).trans ?_
    simpa using hj
  have cx0 := cx 0 _ rfl
  have cx1 := cx 1 _ rfl
  have cy0 := cy 0 _ rfl
  have cy1 := cy 1 _ rfl
  have hV2 : ∀ o, ∃ q os', V.drew.alloc o = grow (W.drewN q) os' := fun o => ⟨1, #[.cells #[.int .u64 x1, .int .u16 x2] 25] ++ #[.cells #[.int .u64 y1, .int .u16 y2] 25] ++ #[o], by
    rw [← hV, alloc_eq_grow _ o, alloc_eq_grow (W.alloc _) _, alloc_eq_grow W _]
    show grow (grow (grow (W.drewN 1) #[.cells #[.int .u64 x1, .int .u16 x2] 25]) #[.cells #[.int .u64 y1, .int .u16 y2] 25]) #[o] = _
    rw [grow_grow, grow_grow, Array.append_assoc]⟩
  rw [hV]
  clear hV cx cy hx0 hy0 rd
  replace c0 : V.cell? ⟨bx, 0, none⟩ = some (.int .u64 me) := c0
  replace cx0 : V.cell? ⟨W.heap.size, 0, none⟩ = some (.int .u64 x1) := cx0
  replace cx1 : V.cell? ⟨W.heap.size, 1, none⟩ = some (.int .u16 x2) := cx1
  replace cy0 : V.cell? ⟨W.heap.size + 1, 0, none⟩ = some (.int .u64 y1) := cy0
  replace cy1 : V.cell? ⟨W.heap.size + 1, 1, none⟩ = some (.int .u16 y2) := cy1
  go_region_held3 (fun w' => w'.cell? ⟨bx, 0, none⟩ = some (.int .u64 me) ∧ w'.cell? ⟨W.heap.size, 0, none⟩ = some (.int .u64 x1) ∧ w'.cell? ⟨W.heap.size, 1, none⟩ = some (.int .u16 x2) ∧ w'.cell? ⟨W.heap.size + 1, 0, none⟩ = some (.int .u64 y1) ∧ w'.cell? ⟨W.heap.size + 1, 1, none⟩ = some (.int .u16 y2)) (go_keep) (first
    | (go_at_call_of 166 (Value.int IntKind.u64 y1); refine (d1 _).mono ?_; rintro e w' ⟨rfl, rfl⟩)
    | (go_at_call_of 166 (Value.int IntKind.u64 x1); refine (d2 _).mono ?_; rintro e w' ⟨rfl, rfl⟩)
    | (go_at_call 225; refine (c1 _).mono ?_; rintro e w' ⟨rfl, rfl⟩)
    | (go_at_call 226; refine (c2 _).mono ?_; rintro e w' ⟨rfl, rfl⟩)
    | (go_at_call 224; refine (o1 _ _ (by simp) (by simp)).mono ?_; rintro e w' ⟨rfl, rfl⟩))
  go_wp2
  go_ret
  exact ⟨rfl, hV2 _⟩
end Go.Proofs
namespace Go.Proofs
open Go.Shelf Go.RowKit Go.Lib Go.Sort Go.Ab
set_option linter.unusedVariables false
set_option linter.unusedSimpArgs false
def Tryz.sort222_ren : Go.Shelf.Ren := ⟨fun | 6 => 222 | 15 => 238 | 14 => 237 | 28 => 253 | 29 => 254 | 20 => 245 | 21 => 246 | 22 => 247 | 23 => 248 | 24 => 249 | 25 => 250 | 26 => 251 | 27 => 252 | 46 => 257 | 47 => 258 | 48 => 259 | 49 => 260 | 50 => 261 | 57 => 263 | n => n, fun | 22 => 35 | 24 => 25 | 25 => 211 | 3 => 3 | 39 => 195 | 0 => 0 | 53 => 32 | 55 => 22 | 4 => 4 | 46 => 228 | 45 => 227 | 50 => 232 | 5 => 5 | 9 => 9 | 66 => 237 | 70 => 241 | 76 => 244 | 77 => 245 | n => n, fun | n => n⟩
theorem Tryz.sort222 : Go.Proofs.SlLaysF0.n6 Tryz.prog Tryz.sort222_ren where
  mixed := by kernel_rfl
  f6 := ⟨Tryz.f222.name, by decide, Tryz.func222.trans (congrArg some (by kernel_rfl))⟩
  f14 := ⟨Tryz.f237.name, by decide, Tryz.func237.trans (congrArg some (by kernel_rfl))⟩
  f15 := Tryz.func238.trans (congrArg some (by kernel_rfl))
  f20 := ⟨Tryz.f245.name, by decide, Tryz.func245.trans (congrArg some (by kernel_rfl))⟩
  f21 := ⟨Tryz.f246.name, by decide, Tryz.func246.trans (congrArg some (by kernel_rfl))⟩
  f22 := ⟨Tryz.f247.name, by decide, Tryz.func247.trans (congrArg some (by kernel_rfl))⟩
  f23 := ⟨Tryz.f248.name, by decide, Tryz.func248.trans (congrArg some (by kernel_rfl))⟩
  f24 := ⟨Tryz.f249.name, by decide, Tryz.func249.trans (congrArg some (by kernel_rfl))⟩
  f25 := ⟨Tryz.f250.name, by decide, Tryz.func250.trans (congrArg some (by kernel_rfl))⟩
  f26 := ⟨Tryz.f251.name, by decide, Tryz.func251.trans (congrArg some (by kernel_rfl))⟩
  f27 := ⟨Tryz.f252.name, by decide, Tryz.func252.trans (congrArg some (by kernel_rfl))⟩
  f28 := Tryz.func253.trans (congrArg some (by kernel_rfl))
  f29 := Tryz.func254.trans (congrArg some (by kernel_rfl))
  f46 := ⟨Tryz.f257.name, by decide, Tryz.func257.trans (congrArg some (by kernel_rfl))⟩
  f47 := Tryz.func258.trans (congrArg some (by kernel_rfl))
  f48 := Tryz.func259.trans (congrArg some (by kernel_rfl))
  f49 := ⟨Tryz.f260.name, by decide, Tryz.func260.trans (congrArg some (by kernel_rfl))⟩
  f50 := ⟨Tryz.f261.name, by decide, Tryz.func261.trans (congrArg some (by kernel_rfl))⟩
  f57 := ⟨Tryz.f263.name, by decide, Tryz.func263.trans (congrArg some (by kernel_rfl))⟩
  t0 := Tryz.underlying0
  a0 := Tryz.isAgg0
  z0 := Tryz.sizeOf0
  v0 := Tryz.zeroValue0
  t3 := Tryz.underlying3
  a3 := Tryz.isAgg3
  z3 := Tryz.sizeOf3
  v3 := Tryz.zeroValue3
  t4 := Tryz.underlying4
  a4 := Tryz.isAgg4
  z4 := Tryz.sizeOf4
  v4 := Tryz.zeroValue4
  t5 := Tryz.underlying5
  a5 := Tryz.isAgg5
  z5 := Tryz.sizeOf5
  v5 := Tryz.zeroValue5
  t9 := Tryz.underlying9
  a9 := Tryz.isAgg9
  z9 := Tryz.sizeOf9
  v9 := Tryz.zeroValue9
  t22 := Tryz.underlying35
  a22 := Tryz.isAgg35
  z22 := Tryz.sizeOf35
  v22 := Tryz.zeroValue35
  t25 := Tryz.underlying211
  a25 := Tryz.isAgg211
  z25 := Tryz.sizeOf211
  v25 := Tryz.zeroValue211
  t39 := Tryz.underlying195
  a39 := Tryz.isAgg195
  z39 := Tryz.sizeOf195
  v39 := Tryz.zeroValue195
  t45 := Tryz.underlying227
  a45 := Tryz.isAgg227
  z45 := Tryz.sizeOf227
  v45 := Tryz.zeroValue227
  t46 := Tryz.underlying228
  a46 := Tryz.isAgg228
  z46 := Tryz.sizeOf228
  v46 := Tryz.zeroValue228
  t50 := Tryz.underlying232
  a50 := Tryz.isAgg232
  z50 := Tryz.sizeOf232
  v50 := Tryz.zeroValue232
  t53 := Tryz.underlying32
  a53 := Tryz.isAgg32
  z53 := Tryz.sizeOf32
  v53 := Tryz.zeroValue32
  t55 := Tryz.underlying22
  a55 := Tryz.isAgg22
  z55 := Tryz.sizeOf22
  v55 := Tryz.zeroValue22
  t66 := Tryz.underlying237
  a66 := Tryz.isAgg237
  z66 := Tryz.sizeOf237
  v66 := Tryz.zeroValue237
  t70 := Tryz.underlying241
  a70 := Tryz.isAgg241
  z70 := Tryz.sizeOf241
  v70 := Tryz.zeroValue241
  t76 := Tryz.underlying244
  a76 := Tryz.isAgg244
  z76 := Tryz.sizeOf244
  v76 := Tryz.zeroValue244
  t77 := Tryz.underlying245
  a77 := Tryz.isAgg245
  z77 := Tryz.sizeOf245
  v77 := Tryz.zeroValue245
abbrev PeR := {p : Int × Int // InR p}
instance : Inhabited PeR := ⟨⟨(0, 0), by simp [InR]⟩⟩
def encP (p : PeR) : List Value := pcells p.1
def cfP (me : Int) (x y : PeR) : Int := hopCmp me x.1 y.1
theorem ltP (me : Int) (x y : PeR) : ltOf (cfP me) x y = hopLt me x.1 y.1 := by
  unfold ltOf cfP hopCmp hopLt cmpI
  obtain ⟨⟨x1, x2⟩, hx⟩ := x
  obtain ⟨⟨y1, y2⟩, hy⟩ := y
  dsimp only
  generalize (y1 - me) % 18446744073709551616 = a
  generalize (x1 - me) % 18446744073709551616 = b
  rw [Bool.eq_iff_iff]
  simp only [decide_eq_true_eq, Bool.or_eq_true, Bool.and_eq_true]
  (repeat' split) <;> omega
theorem hop_iff (me : Int) (x y : Int × Int) : hopLt me x y = true ↔ (y.1 - me) % 18446744073709551616 < (x.1 - me) % 18446744073709551616 ∨ ((x.1 - me) % 18446744073709551616 = (y.1 - me) % 18446744073709551616 ∧ x.2 < y.2) := by
  simp only [hopLt, decide_eq_true_eq, Bool.or_eq_true, Bool.and_eq_true]
theorem swoP (me : Int) : SWO (ltOf (cfP me)) where
  irrefl x := by rw [ltP, Bool.eq_false_iff]; intro h; have := (hop_iff me x.1 x.1).1 h; omega
  trans x y z h1 h2 := by rw [ltP, hop_iff] at *; omega
  ntrans x y z h1 h2 := by
    rw [ltP, Bool.eq_false_iff, ne_eq, hop_iff] at *
    omega
theorem oneP {me : Int} {x y : PeR} (h1 : ltOf (cfP me) x y = false) (h2 : ltOf (cfP me) y x = false) : x = y := by
  rw [ltP, Bool.eq_false_iff, ne_eq, hop_iff] at h1 h2
  obtain ⟨⟨x1, x2⟩, hx⟩ := x
  obtain ⟨⟨y1, y2⟩, hy⟩ := y
  simp only [InR] at hx hy
  dsimp only at h1 h2
  have e1 : x1 = y1 := by omega
  have e2 : x2 = y2 := by omega
  subst e1 e2; rfl
theorem flat_get : ∀ (l : List (Int × Int)) (j : Nat), (l.flatMap pcells)[j]? = (l[j / 2]?).bind fun p => (pcells p)[j % 2]?
  | [], j => by simp
  | p :: l, 0 => rfl
  | p :: l, 1 => rfl
  | p :: l, j + 2 => by
    have ih := flat_get l j
    rw [show (j + 2) / 2 = j / 2 + 1 by omega, show (j + 2) % 2 = j % 2 by omega, List.getElem?_cons_succ, ← ih]
    rfl
theorem flatK_get (S : Array PeR) (j : Nat) (hj : j < S.size * 2) : ((S.toList.map Subtype.val).flatMap pcells)[j]? = some (flatK encP 2 S)[j]! := by
  rw [get_flatK encP 2 S j hj, flat_get]
  have h1 : j / 2 < S.size := by omega
  rw [List.getElem?_map, Array.getElem?_toList, Array.getElem?_eq_getElem h1]
  simp only [Option.map_some, Option.bind_some]
  rw [getElem!_pos S (j / 2) h1]
  rcases Nat.mod_two_eq_zero_or_one j with h | h <;> rw [h] <;> rfl
theorem isAgg25 : ∀ w, (isAgg 25).run Tryz.prog w = .ok true w := fun w => by kernel_rfl
theorem sizeOf25 : ∀ w, (Go.sizeOf 25).run Tryz.prog w = .ok 2 w := fun w => by kernel_rfl
theorem sort_hops : Go.Ab.Sorts Tryz.prog 222 25 223 where
  at0 a c fv w := AnyF.slices_SortFunc_none Tryz.sort222 a c fv w
  atN me blk cap bx cur d w hbx hne hblk hle htake hpos hlen hin := by
    obtain ⟨D, hD⟩ : ∃ D : List PeR, D.map Subtype.val = d := ⟨d.attach.map fun p => ⟨p.1, hin p.1 p.2⟩, by rw [List.map_map]; exact List.attach_map_subtype_val d⟩
    subst hD
    rw [List.length_map] at hle htake hpos hlen ⊢
    have hbl : blk < w.heap.size := by
      rcases Nat.lt_or_ge blk w.heap.size with h | h
      · exact h
      · rw [Array.getElem?_eq_none h] at hblk; cases hblk
    have hbx2 : bx < w.heap.size := World.block_lt_of_cell? _ _ hbx
    have eg : ∀ args w, (callFunc 223 args).run Tryz.prog w = .ok (.enter 223 args) w := enters_of Tryz.func223 (by kernel_rfl) rfl
    have hcmp : CmpLays Tryz.prog 223 #[.pointer (some ⟨bx, 0, none⟩)] encP 2 (cfP me) blk 0 D.toArray.size w := fun m os dk hdk x y => by
      exact comp223 me x.1 y.1 bx (sortWorldK encP 2 w blk 0 m dk os) ((cell?_sortWorldK_other encP 2 w blk 0 m dk os ⟨bx, 0, none⟩ hne hbx2).trans hbx)
    have hH : HoldsK encP 2 w blk 0 D.toArray := fun j hj => by
      rw [size_flatK] at hj
      have hj' : j < D.length * 2 := by simpa using hj
      rw [Nat.zero_add]
      refine ⟨?_, ?_⟩
      · rw [cell_of_row w blk j cur 25 (0, 0) hblk]
        have h1 : (cur.toList.take (D.length * 2))[j]? = cur[j]? := by rw [List.getElem?_take, if_pos hj', Array.getElem?_toList]
        rw [← h1, htake]
        have := flatK_get D.toArray j hj
        rw [List.toList_toArray] at this
        exact this
      · simp [World.frozen?, hblk]
    have := AnyQ.slices_SortFunc_total Tryz.sort222 2 isAgg25 sizeOf25 encP (fun _ => rfl) (fun x v hv => by
      simp only [encP, pcells, List.mem_cons, List.not_mem_nil, or_false] at hv; rcases hv with rfl | rfl <;> rfl) (cfP me) (swoP me) 223 #[.pointer (some ⟨bx, 0, none⟩)] blk 0 cap D.toArray w eg hcmp hH hbl (by simp; omega) (fun x y h1 h2 => oneP h1 h2)
    refine this.mono fun z w' ⟨hz, n, os, hw⟩ => ⟨hz, ?_⟩
    subst hw
    obtain ⟨S, hS⟩ : ∃ S, (D.toArray.toList.mergeSort fun x y => !(ltOf (cfP me)) y x).toArray = S := ⟨_, rfl⟩
    rw [hS]
    have hSl : S.size = D.length := by rw [← hS]; simp [List.length_mergeSort]
    have hs : hopSort me (D.map Subtype.val) = S.toList.map Subtype.val := by
      rw [← hS, hopSort, List.toList_toArray, List.toList_toArray]
      exact (List.map_mergeSort (fun a _ b _ => by rw [ltP])).symm
    rw [hs]
    have hw2 : (sortWorldK encP 2 w blk 0 n S os).heap = (w.heap.modify blk (onCells (putCells id 0 (flatK encP 2 S)))) ++ os := rfl
    refine ⟨rfl, rfl, rfl, ?_, fun k hk => ?_⟩
    · rw [hw2]; simp
    · rw [hw2, Array.getElem?_append_left (by simpa using hk)]
      by_cases hkb : k = blk
      · subst hkb
        rw [Array.getElem?_modify, if_pos rfl, hblk, setRow_heap w k cur _ 25 (0, 0) hblk]
        have hfl : ((S.toList.map Subtype.val).flatMap pcells).length = D.length * 2 := by rw [pcells_len, List.length_map, Array.length_toList, hSl]
        have hc : putCells id 0 (flatK encP 2 S) cur = ((S.toList.map Subtype.val).flatMap pcells ++ cur.toList.drop (D.length * 2)).toArray := by
          refine Array.ext' (List.ext_getElem? fun j => ?_)
          rw [List.toList_toArray, Array.getElem?_toList]
          unfold putCells
          rw [Array.getElem?_mapIdx, size_flatK, hSl]
          by_cases hj : j < D.length * 2
          · rw [List.getElem?_append_left (by omega), flatK_get S j (by omega), Array.getElem?_eq_getElem (by omega : j < cur.size)]
            simp [hj]
          · rw [List.getElem?_append_right (by omega), hfl, List.getElem?_drop, Array.getElem?_toList, show D.length * 2 + (j - D.length * 2) = j by omega]
            cases cur[j]? with
            | none => rfl
            | some u => simp [hj]
        show some (onCells (putCells id 0 (flatK encP 2 S)) (.cells cur 25 (0, 0))) = _
        rw [← hc]
        rfl
      · rw [Array.getElem?_modify, if_neg (Ne.symm hkb), setRow_other w blk k _ hkb]
end Go.Proofs
set_option linter.unusedVariables false
set_option linter.unusedSimpArgs false
namespace Go.Proofs
open Go.RowKit Go.Shelf
attribute [local go_sem] Oper.semAt_some
def chVal (b off len k : Nat) : Value := .slice (some ⟨b, off + 8 * k * 2, none⟩) (min 8 (len - 8 * k)) (min 8 (len - 8 * k))
structure Kpc (base Bs Bn : Nat) (W W' : World) : Prop where
  below : Below base W W'
  s : W'.heap[Bs]? = W.heap[Bs]?
  n : W'.heap[Bn]? = W.heap[Bn]?
theorem Kpc.refl (base Bs Bn : Nat) (W : World) : Kpc base Bs Bn W W := ⟨Below.refl _ _, rfl, rfl⟩
theorem Kpc.trans {base Bs Bn : Nat} {A B C : World} (h : Kpc base Bs Bn A B) (k : Kpc base Bs Bn B C) : Kpc base Bs Bn A C := ⟨h.below.trans k.below, k.s.trans h.s, k.n.trans h.n⟩
theorem Kpc.drew (base Bs Bn : Nat) (W : World) : Kpc base Bs Bn W W.drew := ⟨⟨rfl, rfl, rfl, Nat.le_refl _, fun _ _ => rfl⟩, rfl, rfl⟩
def chN (len : Nat) : Nat := (len + 7) / 8
set_option maxRecDepth 100000 in
set_option maxHeartbeats 2000000 in
theorem chunk1_in (F : Fence) (n : Nat) (hf : F.fn 205) (hro : F.round = none) (hn : 1 ≤ n) (l Bs Bn base b off len cap : Nat) (hlc : len ≤ cap) (hreach : len ≤ 1000000) (J Jx : List Nat → World → Prop)
    (hJd : ∀ s W, J s W → J s W.drew)
    (hY : ∀ k W, J (List.range k) W → k < chN len → YieldAt F (n - 1) Tryz.prog l #[chVal b off len k] W fun e W' =>
      (e = .returned (.bool true) ∧ J (List.range (k + 1)) W' ∧ Kpc base Bs Bn W W') ∨ (e = .returned (.bool false) ∧ Jx (List.range (k + 1)) W'))
    (W : World) (hBs : W.cell? ⟨Bs, 0, none⟩ = some (.slice (some ⟨b, off, none⟩) len cap)) (hBn : W.cell? ⟨Bn, 0, none⟩ = some (.int .i64 8)) (h0 : J [] W) :
    CallsIn F n Tryz.prog 205 #[.func (.yield l) #[] #[], .pointer (some ⟨Bs, 0, none⟩), .pointer (some ⟨Bn, 0, none⟩)] W fun e W' => (∃ v, e = .returned v) ∧
      (J (List.range (chN len)) W' ∨ (∃ k, k ≤ chN len ∧ Jx (List.range k) W')) := by
  refine callsIn_of_wp Tryz.func205 rfl hf ?_ hro
  simp only [Tryz.ntmps205, List.size_toArray, List.length_cons, List.length_nil, Nat.reduceAdd, Nat.reduceSub, Array.replicate_succ, Array.replicate_zero, List.push_toArray, List.append_toArray, List.nil_append, List.cons_append]
  gi_wp2
  gi_loopw [4] (fun i wr => ∃ k : Nat, k ≤ chN len ∧ i = .int .i64 ((8 * k : Nat) : Int) ∧ J (List.range k) wr ∧ Kpc base Bs Bn W wr)
    (fun i _ => len + 8 - (intOf i).toNat)
  case atStart => exact ⟨0, Nat.zero_le _, rfl, h0, Kpc.refl _ _ _ _⟩
  case round =>
    obtain ⟨k, hk, rfl, hJs, hnx⟩ := hrel
    have hcs : wr.cell? ⟨Bs, 0, none⟩ = some (.slice (some ⟨b, off, none⟩) len cap) := (World.cell?_of_block hnx.s).trans hBs
    have hcn : wr.cell? ⟨Bn, 0, none⟩ = some (.int .i64 8) := (World.cell?_of_block hnx.n).trans hBn
    by_cases hlt : 8 * k < len
    · have hkc : k < chN len := by unfold chN; omega
      obtain ⟨fn, tmps, assign, body, hy, hR⟩ := hY k wr.drew (hJd _ _ hJs) hkc
      dsimp only [chVal] at hy
      have hmx : Tryz.prog.follows .mixedOrders = true := by kernel_rfl
      have hcs2 : wr.drew.cell? ⟨Bs, 0, none⟩ = some (.slice (some ⟨b, off, none⟩) len cap) := hcs
      have hnx2 : Kpc base Bs Bn W wr.drew := hnx.trans (Kpc.drew _ _ _ _)
      gi_wp2
      gi_region_with_o (fail)
      all_goals rw [show (min 8 ((len - 8 * k : Nat) : Int)) = ((min 8 (len - 8 * k) : Nat) : Int) by omega]
      all_goals obtain ⟨e, he⟩ : ∃ e, e = min 8 (len - 8 * k) := ⟨_, rfl⟩
      all_goals rw [← he]
      all_goals gi_wp2
      all_goals refine hR.mono ?_
      all_goals rintro e W3 (⟨rfl, hJ3, hk3⟩ | ⟨rfl, hJx3⟩)
      all_goals first
        | (have hcn3 : W3.cell? ⟨Bn, 0, none⟩ = some (.int .i64 8) := (World.cell?_of_block hk3.n).trans hcn
           gi_wp2
           go_roundw
           case rel => exact ⟨k + 1, by omega, by simp; omega, hJ3, hnx2.trans hk3⟩
           case measure => simp [intOf]; omega)
        | (gi_wp2
           refine bodyPost_ret (results_none rfl _ _ _) rfl ?_
           exact ⟨⟨_, rfl⟩, .inr ⟨k + 1, by omega, hJx3⟩⟩)
    · obtain rfl : k = chN len := by unfold chN at *; omega
      gi_wp2
      go_end0
      exact ⟨⟨_, rfl⟩, .inl hJs⟩
end Go.Proofs
set_option linter.unusedVariables false
set_option linter.unusedSimpArgs false
namespace Go.Proofs
open Go.RowKit Go.Shelf
attribute [local go_sem] Oper.semAt_some
set_option maxHeartbeats 1000000 in
theorem chunk1_none (F : Fence) (n : Nat) (hf : F.fn 205) (hro : F.round = none) (l Bs Bn : Nat) (a : Option Addr) (cap : Nat) (J : List Nat → World → Prop)
    (W : World) (hBs : W.cell? ⟨Bs, 0, none⟩ = some (.slice a 0 cap)) (h0 : J [] W) :
    CallsIn F n Tryz.prog 205 #[.func (.yield l) #[] #[], .pointer (some ⟨Bs, 0, none⟩), .pointer (some ⟨Bn, 0, none⟩)] W fun e W' => (∃ v, e = .returned v) ∧ J [] W' := by
  refine callsIn_of_wp Tryz.func205 rfl hf ?_ hro
  simp only [Tryz.ntmps205, List.size_toArray, List.length_cons, List.length_nil, Nat.reduceAdd, Nat.reduceSub, Array.replicate_succ, Array.replicate_zero, List.push_toArray, List.append_toArray, List.nil_append, List.cons_append]
  gi_wp2
  gi_loopw [4] (fun i wr => i = .int .i64 0 ∧ J [] wr ∧ wr = W) (fun _ _ => 0)
  case atStart => exact ⟨rfl, h0, rfl⟩
  case round =>
    obtain ⟨rfl, hJs, rfl⟩ := hrel
    gi_wp2
    go_end0
    exact ⟨⟨_, rfl⟩, hJs⟩
set_option maxHeartbeats 1000000 in
theorem chunk_in (F : Fence) (n : Nat) (hf : F.fn 148) (hro : F.round = none) (a : Option Addr) (len cap : Nat) (w : World) :
    CallsIn F n Tryz.prog 148 #[.slice a len cap, .int .i64 8] w fun e w' => e = .returned (.func (.func 205) #[] #[.pointer (some ⟨w.heap.size, 0, none⟩), .pointer (some ⟨w.heap.size + 1, 0, none⟩)]) ∧ w' = (w.alloc (.cells #[.slice a len cap] 28)).alloc (.cells #[.int .i64 8] 3) := by
  refine callsIn_of_wp Tryz.func148 rfl hf ?_ hro
  simp only [Tryz.ntmps148, List.size_toArray, List.length_cons, List.length_nil, Nat.reduceAdd, Nat.reduceSub, Array.replicate_succ, Array.replicate_zero, List.push_toArray, List.append_toArray, List.nil_append, List.cons_append]
  gi_wp2
  go_ret
  exact ⟨rfl, rfl⟩
theorem chunk_stops (F : Fence) (n : Nat) (hf : F.fn 205) (hro : F.round = none) (hn : 1 ≤ n) (Bs Bn base b off len cap : Nat) (a : Option Addr) (hlc : len ≤ cap) (hreach : len ≤ 1000000) (w : World) (h1 : Bs < w.heap.size) (h2 : Bn < w.heap.size)
    (ha : 0 < len → a = some ⟨b, off, none⟩) (hBs : w.cell? ⟨Bs, 0, none⟩ = some (.slice a len cap)) (hBn : w.cell? ⟨Bn, 0, none⟩ = some (.int .i64 8)) :
    SeqStopsK F n Tryz.prog 205 #[.pointer (some ⟨Bs, 0, none⟩), .pointer (some ⟨Bn, 0, none⟩)] (fun k : Nat => #[chVal b off len k]) (Kpc base Bs Bn) (fun ys => ys = List.range (chN len)) (fun _ => True) (chN len) w := fun l J Jx W hW hA _ hY h0 => by
  have hc1 := (hW.cell (p := ⟨Bs, 0, none⟩) h1).trans hBs
  have hc2 := (hW.cell (p := ⟨Bn, 0, none⟩) h2).trans hBn
  by_cases h : len = 0
  · subst h
    exact (chunk1_none F n hf hro l Bs Bn a cap J W hc1 h0).mono fun e W' ⟨he, hj⟩ => ⟨he, .inl ⟨[], rfl, hj⟩⟩
  · rw [ha (by omega)] at hc1
    refine (chunk1_in F n hf hro hn l Bs Bn base b off len cap hlc hreach J (fun s W => Jx s W) (fun s W' hh => hA s W' W'.drew none hh ⟨rfl, rfl, rfl, Nat.le_refl _, fun _ _ _ => rfl⟩ (fun r e => by cases e)) (fun k W1 hJ hk => ?_) W hc1 hc2 h0).mono fun e W' ⟨he, hj⟩ => ⟨he, ?_⟩
    · have := hY (List.range k) k W1 hJ (by rw [List.length_range]; exact hk)
      rwa [← List.range_succ] at this
    · rcases hj with hj | ⟨k, _, hj⟩
      · exact .inl ⟨_, rfl, hj⟩
      · exact .inr ⟨_, trivial, hj⟩
end Go.Proofs
set_option linter.unusedVariables false
set_option linter.unusedSimpArgs false
namespace Go.Proofs
open Go.RowKit Go.Shelf
attribute [local go_sem] Oper.semAt_some
theorem step_app_in {F : Fence} {n : Nat} {P : Program} {w : World} {ops : Array Oper} {o : Oper} {a : Act} {K : Act → World → Prop} {Q : Exit → Act → World → Prop} {E : Prop}
    (hg : o.guard = none) (s x : Operand) (t : TypeId) (hop : o.op = Op.call { callee := Callee.builtin Builtin.append, args := #[s, x], argTypes := #[t, t] })
    (base : Nat) (e : TypeId) (i : TypeInfo) (z : Value) (size bytes : Nat) (h1 : P.underlying t = some (.slice e)) (h2 : P.info? e = some i) (h3 : i.zero = some z) (h4 : i.size = size) (h5 : i.bytes = bytes) (h6 : z.cells.size = size) (h7 : 0 < size)
    (v : Value) (k : Nat) (xs : List Value) (hs : a.eval s = v) (hown : w.ownsRow base e size v k xs) (ad : Addr) (m c : Nat) (news : List Value) (hx : a.eval x = .slice (some ad) m c) (hn : news.length = m * size)
    (hc : ∀ j u, news[j]? = some u → w.cell? (ad.add j) = some u) (h1c : ∀ u ∈ news, u.oneCell' = true) (b1 : k + m ≤ maxLen) (b2 : (k + m) * bytes ≤ 140737488355328) (b3 : base ≤ w.heap.size)
    (hK : ∀ v' w', w'.ownsRow base e size v' (k + m) (xs ++ news) → w.grownBy w' v.ownBlock → (v' = .slice none 0 0 ↔ v = .slice none 0 0 ∧ m = 0) → K (a.put o.dst v') w') :
    if Region.wanted o (yielded ops a.tmps) = true then Oper.wpIn F n P o a w K Q else E := by
  have hw : Region.wanted o (yielded ops a.tmps) = true := by simp [Region.wanted, hg]
  rw [if_pos hw]
  obtain ⟨v', w', hrun, r1, r2, r3⟩ := run_append_own (P := P) w base t o.type e i z size bytes h1 h2 h3 h4 h5 h6 h7 v k xs hown ad m c news hn hc h1c b1 b2 b3
  unfold Oper.wpIn
  refine ⟨?_, ?_⟩
  · simp [Oper.about, hop, resolve, Target.leads, Sem.run_pure]
  · rw [Oper.semAt_plain F _ _ (by rw [hop]; intro c hc'; cases hc')]
    simp [execOp, hop, resolve, invoke, builtin, hs, hx, hrun, Result.andThen]
    exact hK v' w' r1 r2 r3
theorem row_ne {W : World} {base : Nat} {e : TypeId} {size : Nat} {v : Value} {k : Nat} {xs : List Value} {row : Option Nat} (h : W.ownsRow base e size v k xs) (hr : ∀ r, row = some r → ∃ o : Obj, W.heap[r]? = some o ∧ o.isCells = false) : v.ownBlock = none ∨ v.ownBlock ≠ row := by
  rcases h.2 with ⟨rfl, _⟩ | ⟨g, cap, cur, rfl, _, hgb, _⟩
  · exact .inl rfl
  · refine .inr fun e' => ?_
    obtain ⟨o, ho, hc⟩ := hr g e'.symm
    rw [hgb] at ho; cases ho; cases hc
theorem rows_ne {W : World} {base base' : Nat} {e e' : TypeId} {size size' : Nat} {v v' : Value} {k k' : Nat} {xs xs' : List Value} (h : W.ownsRow base e size v k xs) (h' : W.ownsRow base' e' size' v' k' xs') (hne : e ≠ e') : v.ownBlock = none ∨ v.ownBlock ≠ v'.ownBlock := by
  rcases h.2 with ⟨rfl, _⟩ | ⟨g, cap, cur, rfl, _, hgb, _⟩
  · exact .inl rfl
  · refine .inr fun e'' => ?_
    rcases h'.2 with ⟨rfl, _⟩ | ⟨g', cap', cur', rfl, _, hgb', _⟩
    · cases e''
    · have : g = g' := by simpa [Value.ownBlock] using e''
      subst this
      rw [hgb] at hgb'; cases hgb'; exact hne rfl
theorem row_low {W : World} {base : Nat} {e : TypeId} {size : Nat} {v : Value} {k : Nat} {xs : List Value} {B : Nat} (h : W.ownsRow base e size v k xs) (hB : B < base) : v.ownBlock = none ∨ v.ownBlock ≠ some B := by
  rcases h.2 with ⟨rfl, _⟩ | ⟨g, cap, cur, rfl, hg, _, _⟩
  · exact .inl rfl
  · refine .inr fun e'' => ?_
    have : g = B := by simpa [Value.ownBlock] using e''
    omega
theorem row_low' {W : World} {base : Nat} {e : TypeId} {size : Nat} {v : Value} {k : Nat} {xs : List Value} {B : Nat} (h : W.ownsRow base e size v k xs) (hB : B < base) : some B ≠ v.ownBlock := by
  rcases row_low h hB with e' | e'
  · rw [e']; simp
  · exact fun e'' => e' e''.symm
theorem row_below {W W' : World} {base m : Nat} {e : TypeId} {size : Nat} {v : Value} {k : Nat} {xs : List Value} (h : W.ownsRow base e size v k xs) (hb : Below m W W') (hm : W.heap.size ≤ m) : W'.ownsRow base e size v k xs := by
  refine ⟨h.1, ?_⟩
  rcases h.2 with hn | ⟨g, cap, cur, rfl, hg, hgb, rest⟩
  · exact .inl hn
  · exact .inr ⟨g, cap, cur, rfl, hg, (hb.block g (by have := (Array.getElem?_eq_some_iff.1 hgb).1; omega)).trans hgb, rest⟩
theorem row_base {W : World} {base base' : Nat} {e : TypeId} {size : Nat} {v : Value} {k : Nat} {xs : List Value} (h : W.ownsRow base e size v k xs) (hb : base' ≤ base) : W.ownsRow base' e size v k xs := by
  refine ⟨h.1, ?_⟩
  rcases h.2 with hn | ⟨g, cap, cur, hv, hbg, rest⟩
  · exact .inl hn
  · exact .inr ⟨g, cap, cur, hv, Nat.le_trans hb hbg, rest⟩
def chLen (len k : Nat) : Nat := min 8 (len - 8 * k)
structure ChI (B N0 len : Nat) (news : Nat → List Value) (pre : List Nat) (W : World) : Prop where
  size : N0 ≤ W.heap.size
  have_ : ∃ v svs, Boxed W B 110 v ∧ svs.length = pre.length ∧ W.ownsRow N0 28 1 v svs.length svs ∧ ∀ (j k : Nat) (sv : Value), svs[j]? = some sv → pre[j]? = some k → W.ownsRow N0 78 2 sv (chLen len k) (news k)
theorem ChI.grown {B N0 len : Nat} {news : Nat → List Value} {pre : List Nat} {W W' : World} {row : Option Nat} (h : ChI B N0 len news pre W) (hg : W.grownBy W' row) (hr : ∀ r, row = some r → ∃ o : Obj, W.heap[r]? = some o ∧ o.isCells = false) : ChI B N0 len news pre W' := by
  obtain ⟨hs, v, svs, hb, hl, hrow, heach⟩ := h
  exact ⟨Nat.le_trans hs hg.size, v, svs, hb.kept hg (fun e => by obtain ⟨o, ho, hc⟩ := hr B e.symm; have hb' : W.heap[B]? = _ := hb; rw [hb'] at ho; cases ho; cases hc), hl, hrow.kept hg (row_ne hrow hr), fun j k sv h1 h2 => (heach j k sv h1 h2).kept hg (row_ne (heach j k sv h1 h2) hr)⟩
def pact (a : Option Addr) (len cap b off B S k : Nat) : Act := { tmps := #[.slice a len cap, undef, .slice none 0 0, .pointer (some ⟨B, 0, none⟩), chVal b off len k, .slice a len cap, .func (.func 205) #[] #[.pointer (some ⟨S, 0, none⟩), .pointer (some ⟨S + 1, 0, none⟩)], chVal b off len k, undef, undef, undef, undef, undef, undef], defers := [] }
def pbody : Code := (Code.block 1
        (Code.region 4
          #[{ dst := some 8, op := Op.load 110 (Operand.tmp 3), type := 110, pos := "store.go:84", after := #[], guard := none },
            { dst := some 9, op := Op.move (Operand.tmp 4), type := 28, pos := "store.go:84", after := #[], guard := none },
            { dst := some 10, op := Op.call { callee := Callee.value (Operand.func 50), args := #[Operand.tmp 9], argTypes := #[28] }, type := 28, pos := "store.go:84", after := #[{ on := 1, ground := Ground.data }], guard := none },
            { dst := some 11, op := Op.buildSlice 110 1 #[(0, Operand.tmp 10)], type := 110, pos := "store.go:84", after := #[{ on := 2, ground := Ground.data }], guard := none },
            { dst := some 12, op := Op.call { callee := Callee.builtin Builtin.append, args := #[Operand.tmp 8, Operand.tmp 11], argTypes := #[110, 110] }, type := 110, pos := "store.go:84", after := #[{ on := 0, ground := Ground.data }, { on := 3, ground := Ground.data }, { on := 2, ground := Ground.chain }], guard := none },
            { dst := none, op := Op.store 110 (Operand.tmp 3) (Operand.tmp 12), type := 0, pos := "store.go:84", after := #[{ on := 4, ground := Ground.data }, { on := 4, ground := Ground.chain }, { on := 0, ground := Ground.phase }, { on := 1, ground := Ground.phase }, { on := 2, ground := Ground.phase }, { on := 3, ground := Ground.phase }, { on := 4, ground := Ground.phase }], guard := none }]
          true))
theorem info22 : (Tryz.prog.info? 28).map (fun i => (i.zero, i.size, i.bytes)) = some (some (.slice none 0 0), 1, 24) := by kernel_rfl
set_option maxRecDepth 100000 in
set_option maxHeartbeats 4000000 in
theorem pbody_in (n : Nat) (l : Nat) (hn : 1 ≤ n) (a : Option Addr) (b off len cap B S k N0 base : Nat) (news : Nat → List Value) (pre : List Nat) (W : World) (Q : Exit → Act → World → Prop)
    (hI : ChI B N0 len news pre W) (hlen : len ≤ 1000000) (hpre : pre.length < chN len) (hbB : base ≤ B) (hBN : B < N0) (hSN : S + 1 < N0) (hBS : B < S)
    (hcl : ∀ W', Below base W W' → Calls Tryz.prog 50 #[chVal b off len k] W' fun e w' => ∃ g cp, e = .returned (.slice (some ⟨g, 0, none⟩) (chLen len k) cp) ∧ w'.ownsRow W'.heap.size 78 2 (.slice (some ⟨g, 0, none⟩) (chLen len k) cp) (chLen len k) (news k) ∧ Below W'.heap.size W' w')
    (hQ : ∀ a' W', KeepsOthers W W' → Kpc base S (S + 1) W W' → ChI B N0 len news (pre ++ [k]) W' → Q .normal a' W') :
    pbody.wpIn (Fence.wide.inRound l) n Tryz.prog Q (pact a len cap b off B S k) W := by
  obtain ⟨hs0, v, svs, hB, hl1, hrow, heach⟩ := hI
  have hl0 := hl1.symm
  clear hl1
  have hmx : Tryz.prog.follows .mixedOrders = true := by kernel_rfl
  have hc1 : W.drew.cell? ⟨B, 0, none⟩ = some v := hB.cell
  have hbd : Below base W W.drew := ⟨rfl, rfl, rfl, Nat.le_refl _, fun _ _ => rfl⟩
  have hBlt : B < W.drew.heap.size := hB.lt
  obtain ⟨i0, hi, hz0, hz1, hz2⟩ := info_parts info22
  have tail : ∀ (w' : World) (g cp : Nat), w'.ownsRow W.drew.heap.size 78 2 (.slice (some ⟨g, 0, none⟩) (chLen len k) cp) (chLen len k) (news k) → Below W.drew.heap.size W.drew w' →
      wpAnyIn (Fence.wide.inRound l) n Tryz.prog .any #[{ dst := some 8, op := Op.load 110 (Operand.tmp 3), type := 110, pos := "store.go:84", after := #[], guard := none },
            { dst := some 9, op := Op.move (Operand.tmp 4), type := 28, pos := "store.go:84", after := #[], guard := none },
            { dst := some 10, op := Op.call { callee := Callee.value (Operand.func 50), args := #[Operand.tmp 9], argTypes := #[28] }, type := 28, pos := "store.go:84", after := #[{ on := 1, ground := Ground.data }], guard := none },
            { dst := some 11, op := Op.buildSlice 110 1 #[(0, Operand.tmp 10)], type := 110, pos := "store.go:84", after := #[{ on := 2, ground := Ground.data }], guard := none },
            { dst := some 12, op := Op.call { callee := Callee.builtin Builtin.append, args := #[Operand.tmp 8, Operand.tmp 11], argTypes := #[110, 110] }, type := 110, pos := "store.go:84", after := #[{ on := 0, ground := Ground.data }, { on := 3, ground := Ground.data }, { on := 2, ground := Ground.chain }], guard := none },
            { dst := none, op := Op.store 110 (Operand.tmp 3) (Operand.tmp 12), type := 0, pos := "store.go:84", after := #[{ on := 4, ground := Ground.data }, { on := 4, ground := Ground.chain }, { on := 0, ground := Ground.phase }, { on := 1, ground := Ground.phase }, { on := 2, ground := Ground.phase }, { on := 3, ground := Ground.phase }, { on := 4, ground := Ground.phase }], guard := none }] (Exit.inBlock 1 Q) 2 #[true, true, true, true, false, false]
        { tmps := #[.slice a len cap, undef, .slice none 0 0, .pointer (some ⟨B, 0, none⟩), chVal b off len k, .slice a len cap, .func (.func 205) #[] #[.pointer (some ⟨S, 0, none⟩), .pointer (some ⟨S + 1, 0, none⟩)], chVal b off len k, v, chVal b off len k, .slice (some ⟨g, 0, none⟩) (chLen len k) cp, .slice (some ⟨w'.heap.size, 0, none⟩) 1 1, undef, undef], defers := [] } (w'.alloc (.cells #[.slice (some ⟨g, 0, none⟩) (chLen len k) cp] 28)) := by
    intro w' g cp hr' hb0
    have hb' : Below W.heap.size W w' := ⟨hb0.os, hb0.tape, hb0.output, hb0.size, hb0.block⟩
    have hB' : Boxed w' B 110 v := (hb'.block B hBlt).trans hB
    have hrow' : (w'.alloc (.cells #[.slice (some ⟨g, 0, none⟩) (chLen len k) cp] 28)).ownsRow N0 28 1 v svs.length svs := (row_below hrow (W' := w') (m := W.heap.size) hb' (Nat.le_refl _)).alloc _
    have hss : W.heap.size ≤ w'.heap.size := hb'.size
    refine wpAnyIn_ready (rs := [4]) (by kernel_rfl) (by simp) ?_
    refine AllReadyIn.cons rfl (fun K hK => ?_) AllReadyIn.nil
    refine step_app_in rfl _ _ 110 rfl N0 28 i0 (.slice none 0 0) 1 24 Tryz.underlying110 hi hz0 hz1 hz2 rfl (by omega) v svs.length svs rfl hrow' ⟨w'.heap.size, 0, none⟩ 1 1 [.slice (some ⟨g, 0, none⟩) (chLen len k) cp] rfl rfl (cell_one_new _ _ _) (by simp [Value.oneCell']) (by unfold chN at hpre; unfold maxLen; omega) (by unfold chN at hpre; omega) (by simp; omega) ?_
    intro v3 w3 hown3 hg3 _
    refine hK _ _ ?_; clear hK K
    have hB3 : Boxed w3 B 110 v := (hB'.alloc _).kept hg3 (row_low' hrow' hBN)
    have hcb3 := hB3.cell
    have hfb3 := hB3.frozen
    obtain ⟨g3, cap3, rfl⟩ : ∃ g3 cap3, v3 = .slice (some ⟨g3, 0, none⟩) (svs.length + 1) cap3 := by
      rcases hown3.2 with ⟨_, h0⟩ | ⟨g3, cap3, _, h3, _⟩
      · omega
      · exact ⟨g3, cap3, h3⟩
    refine wpAnyIn_ready (rs := [5]) (by kernel_rfl) (by simp) ?_
    refine AllReadyIn.cons rfl (fun K hK => ?_) AllReadyIn.nil
    go_simp
    refine hK _ _ ?_; clear hK K
    refine wpAnyIn_done (by kernel_rfl) ?_ _
    obtain ⟨w4, hw4⟩ : ∃ w4, w3.setCell ⟨B, 0, none⟩ (.slice (some ⟨g3, 0, none⟩) (svs.length + 1) cap3) = w4 := ⟨_, rfl⟩
    rw [hw4]
    have hg4 : w3.grownBy w4 (some B) := by rw [← hw4]; exact grownBy_setCell' _ _ _
    have hcell3 : ∀ (j : Nat) (o : Obj), v.ownBlock = some j → (w'.alloc (.cells #[.slice (some ⟨g, 0, none⟩) (chLen len k) cp] 28)).heap[j]? = some o → o.isCells = true := by
      intro j o hj ho
      rcases hrow'.2 with ⟨rfl, _⟩ | ⟨g', cap', cur', rfl, _, hgb, _⟩
      · cases hj
      · have : g' = j := by simpa [Value.ownBlock] using hj
        subst this; rw [hgb] at ho; cases ho; rfl
    have kA : KeepsOthers W w' := ⟨hss, fun j o hj ho => (hb'.block j (Array.getElem?_eq_some_iff.1 hj).1).trans hj⟩
    refine hQ _ _ (((kA.trans (KeepsOthers.alloc _ _)).trans (KeepsOthers.of_grownBy hg3 hcell3)).trans (by rw [← hw4]; exact KeepsOthers.setCell _ _ _)) ?_ ?_
    ·
      have low : ∀ x, x < N0 → x ≠ B → w4.heap[x]? = W.heap[x]? := fun x hx hne => by
        have e4 : w4.heap[x]? = w3.heap[x]? := hg4.block x (by have := hg3.size; simp at this; omega) (fun e => hne (by cases e; rfl))
        have e3 : w3.heap[x]? = (w'.alloc (.cells #[.slice (some ⟨g, 0, none⟩) (chLen len k) cp] 28)).heap[x]? := hg3.block x (by simp; omega) (row_low' hrow' hx)
        rw [e4, e3, Below.heap_alloc _ _ x (by omega)]
        exact hb'.block x (by show x < W.heap.size; omega)
      refine ⟨⟨?_, ?_, ?_, ?_, fun x hx => low x (by omega) (by omega)⟩, low S (by omega) (by omega), low (S + 1) (by omega) (by omega)⟩
      · exact hg4.os.trans (hg3.os.trans hb'.os)
      · exact hg4.tape.trans (hg3.tape.trans hb'.tape)
      · exact hg4.output.trans (hg3.output.trans hb'.output)
      · have h1 := hg4.size; have h2 := hg3.size; simp at h2; omega
    · have hB4 : Boxed w4 B 110 (.slice (some ⟨g3, 0, none⟩) (svs.length + 1) cap3) := by rw [← hw4]; exact hB3.set _
      have hown4 := hown3.kept hg4 (row_low hown3 hBN)
      refine ⟨?_, _, svs ++ [.slice (some ⟨g, 0, none⟩) (chLen len k) cp], hB4, by simp [← hl0], by rw [List.length_append]; exact hown4, ?_⟩
      · have h1 := hg4.size; have h2 := hg3.size; simp at h2; omega
      · intro j k' sv hj hk'
        have fin : ∀ {sv : Value} {c : Nat} {ns : List Value}, w'.ownsRow N0 78 2 sv c ns → w4.ownsRow N0 78 2 sv c ns := fun h => by
          have h1 : (w'.alloc (.cells #[.slice (some ⟨g, 0, none⟩) (chLen len k) cp] 28)).ownsRow N0 78 2 _ _ _ := h.alloc _
          have h2 := h1.kept hg3 (rows_ne h1 hrow' (by decide))
          exact h2.kept hg4 (row_low h2 hBN)
        by_cases hjl : j < svs.length
        · rw [List.getElem?_append_left hjl] at hj
          rw [List.getElem?_append_left (by omega)] at hk'
          exact fin (row_below (heach j k' sv hj hk') hb' (Nat.le_refl _))
        · rw [List.getElem?_append_right (by omega)] at hj hk'
          have hj0 : j - svs.length = 0 := by
            have := (List.getElem?_eq_some_iff.1 hj).1; simp at this; omega
          have hj1 : j - pre.length = 0 := by omega
          rw [hj0] at hj; rw [hj1] at hk'
          simp at hj hk'
          subst hj; subst hk'
          exact fin (row_base hr' hs0)
  unfold pbody pact
  gi_wp2
  refine wpIn_region_any hmx ?_
  change wpAnyIn _ _ _ _ _ _ _ _ _ (World.drew _)
  refine wpAnyIn_ready (rs := [0, 1]) (by kernel_rfl) (by simp) ?_
  refine AllReadyIn.cons rfl (fun K hK => ?_) (AllReadyIn.cons rfl (fun K hK => ?_) AllReadyIn.nil)
  · go_simp
    refine hK _ _ ?_; clear hK K
    refine wpAnyIn_ready (rs := [1]) (by kernel_rfl) (by simp) ?_
    refine AllReadyIn.cons rfl (fun K hK => ?_) AllReadyIn.nil
    go_simp
    refine hK _ _ ?_; clear hK K
    refine wpAnyIn_ready (rs := [2]) (by kernel_rfl) (by simp) ?_
    refine AllReadyIn.cons rfl (fun K hK => ?_) AllReadyIn.nil
    go_simp
    refine ⟨trivial, ?_⟩
    refine (CallsIn.inRound l (callsIn_wide.2 (hcl _ hbd))).mono ?_
    rintro e w' ⟨g, cp, rfl, hr', hb'⟩
    go_simp
    refine hK _ _ ?_; clear hK K
    refine wpAnyIn_ready (rs := [3]) (by kernel_rfl) (by simp) ?_
    refine AllReadyIn.cons rfl (fun K hK => ?_) AllReadyIn.nil
    go_simp
    refine hK _ _ ?_; clear hK K
    exact tail w' g cp hr' hb'
  · go_simp
    refine hK _ _ ?_; clear hK K
    refine wpAnyIn_ready (rs := [0, 2]) (by kernel_rfl) (by simp) ?_
    refine AllReadyIn.cons rfl (fun K hK => ?_) (AllReadyIn.cons rfl (fun K hK => ?_) AllReadyIn.nil)
    · go_simp
      refine hK _ _ ?_; clear hK K
      refine wpAnyIn_ready (rs := [2]) (by kernel_rfl) (by simp) ?_
      refine AllReadyIn.cons rfl (fun K hK => ?_) AllReadyIn.nil
      go_simp
      refine ⟨trivial, ?_⟩
      refine (CallsIn.inRound l (callsIn_wide.2 (hcl _ hbd))).mono ?_
      rintro e w' ⟨g, cp, rfl, hr', hb'⟩
      go_simp
      refine hK _ _ ?_; clear hK K
      refine wpAnyIn_ready (rs := [3]) (by kernel_rfl) (by simp) ?_
      refine AllReadyIn.cons rfl (fun K hK => ?_) AllReadyIn.nil
      go_simp
      refine hK _ _ ?_; clear hK K
      exact tail w' g cp hr' hb'
    · go_simp
      refine ⟨trivial, ?_⟩
      refine (CallsIn.inRound l (callsIn_wide.2 (hcl _ hbd))).mono ?_
      rintro e w' ⟨g, cp, rfl, hr', hb'⟩
      have hc2 : w'.cell? ⟨B, 0, none⟩ = some v := (hb'.cell (p := ⟨B, 0, none⟩) hBlt).trans hc1
      have hc3 : (w'.alloc (.cells #[.slice (some ⟨g, 0, none⟩) (chLen len k) cp] 28)).cell? ⟨B, 0, none⟩ = some v := (World.cell?_alloc_lt _ _ _ (World.block_lt_of_cell? _ _ hc2)).trans hc2
      go_simp
      refine hK _ _ ?_; clear hK K
      refine wpAnyIn_ready (rs := [0, 3]) (by kernel_rfl) (by simp) ?_
      refine AllReadyIn.cons rfl (fun K hK => ?_) (AllReadyIn.cons rfl (fun K hK => ?_) AllReadyIn.nil)
      · go_simp
        refine hK _ _ ?_; clear hK K
        refine wpAnyIn_ready (rs := [3]) (by kernel_rfl) (by simp) ?_
        refine AllReadyIn.cons rfl (fun K hK => ?_) AllReadyIn.nil
        go_simp
        refine hK _ _ ?_; clear hK K
        exact tail w' g cp hr' hb'
      · go_simp
        refine hK _ _ ?_; clear hK K
        refine wpAnyIn_ready (rs := [0]) (by kernel_rfl) (by simp) ?_
        refine AllReadyIn.cons rfl (fun K hK => ?_) AllReadyIn.nil
        go_simp
        refine hK _ _ ?_; clear hK K
        exact tail w' g cp hr' hb'
end Go.Proofs
set_option linter.unusedVariables false
set_option linter.unusedSimpArgs false
namespace Go.Proofs
open Go.RowKit Go.Shelf
attribute [local go_sem] Oper.semAt_some
theorem info41 : (Tryz.prog.info? 78).map (fun i => (i.zero, i.size, i.bytes)) = some (some (.agg #[.string ⟨#[]⟩, .string ⟨#[]⟩]), 2, 32) := by kernel_rfl
def chNews (len : Nat) (vals : List Value) (k : Nat) : List Value := (vals.drop (16 * k)).take (2 * chLen len k)
theorem chLen_cut {len k : Nat} {vals : List Value} (hl : vals.length = 2 * len) : (chNews len vals k).length = chLen len k * 2 := by
  unfold chNews chLen
  rw [List.length_take, List.length_drop]
  omega
set_option maxHeartbeats 1000000 in
theorem cut_copy {w : World} {b off len : Nat} {vals : List Value} (hlen : len ≤ 1000000) (hl : vals.length = 2 * len) (hc : ∀ j u, vals[j]? = some u → w.cell? ⟨b, off + j, none⟩ = some u) (h1 : ∀ u ∈ vals, u.oneCell' = true) (k : Nat) (W' : World) (hW : Below w.heap.size w W') :
    Calls Tryz.prog 50 #[chVal b off len k] W' fun e w' => ∃ g cp, e = .returned (.slice (some ⟨g, 0, none⟩) (chLen len k) cp) ∧ w'.ownsRow W'.heap.size 78 2 (.slice (some ⟨g, 0, none⟩) (chLen len k) cp) (chLen len k) (chNews len vals k) ∧ Below W'.heap.size W' w' := by
  obtain ⟨i0, hi, hz0, hz1, hz2⟩ := info_parts info41
  have hk : chLen len k ≤ 8 := by unfold chLen; omega
  have h := AnyE.slices_Clone (ρ := Tryz.clone50_ren) Tryz.clone50 i0 (.agg #[.string ⟨#[]⟩, .string ⟨#[]⟩]) 2 32 hi hz0 hz1 hz2 rfl (by omega) (fun w => by kernel_rfl) b (off + 8 * k * 2) (chLen len k) (chLen len k) (chNews len vals k) W' (chLen_cut hl) (by unfold maxLen; omega) (by omega)
    (fun j u hu => by
      unfold chNews at hu
      rw [List.getElem?_take] at hu
      split at hu
      · rw [List.getElem?_drop] at hu
        have := hc _ u hu
        have hlt := World.block_lt_of_cell? _ _ this
        rw [show off + 8 * k * 2 + j = off + (16 * k + j) by omega]
        exact (hW.cell (p := ⟨b, off + (16 * k + j), none⟩) hlt).trans this
      · cases hu)
    (fun u hu => h1 u (List.mem_of_mem_drop (List.mem_of_mem_take hu)))
  refine h.mono fun e w' ⟨v', he, hown, hne, hb'⟩ => ?_
  rcases hown.2 with ⟨hn, _⟩ | ⟨g, cap, cur, hv, _⟩
  · exact absurd hn hne
  · subst hv
    exact ⟨g, cap, he, hown, hb'⟩
set_option maxRecDepth 100000 in
set_option maxHeartbeats 2000000 in
theorem chunks_in (b off len cap : Nat) (a : Option Addr) (vals : List Value) (hlc : len ≤ cap) (hlen : len ≤ 1000000) (w : World)
    (ha : 0 < len → a = some ⟨b, off, none⟩) (hl : vals.length = 2 * len) (hc : ∀ j u, vals[j]? = some u → w.cell? ⟨b, off + j, none⟩ = some u) (h1 : ∀ u ∈ vals, u.oneCell' = true) :
    Calls Tryz.prog 79 #[.slice a len cap] w fun e W' => ∃ v svs, e = .returned v ∧ svs.length = chN len ∧ W'.ownsRow w.heap.size 28 1 v svs.length svs ∧ (∀ (k : Nat) (sv : Value), svs[k]? = some sv → W'.ownsRow w.heap.size 78 2 sv (chLen len k) (chNews len vals k)) ∧ Below w.heap.size w W' := by
  refine (callsIn_wide (n := 4)).1 ?_
  have hro : Fence.wide.round = none := rfl
  refine callsIn_of_wp_marks Tryz.func79 rfl trivial ?_ hro
  simp only [Tryz.ntmps79, List.size_toArray, List.length_cons, List.length_nil, Nat.reduceAdd, Nat.reduceSub, Array.replicate_succ, Array.replicate_zero, List.push_toArray, List.append_toArray, List.nil_append, List.cons_append]
  gi_wp2_with (refine ⟨trivial, ?_⟩; gi_at_call 148; refine (chunk_in Fence.wide _ trivial hro _ _ _ _).mono ?_; rintro e w' ⟨rfl, rfl⟩)
  obtain ⟨w1, hw1⟩ : ∃ w1, ((w.alloc (.cells #[.slice none 0 0] 110)).alloc (.cells #[.slice a len cap] 28)).alloc (.cells #[.int .i64 8] 3) = w1 := ⟨_, rfl⟩
  have hs1 : w1.heap.size = w.heap.size + 3 := by rw [← hw1]; simp
  have hb1 : Below w.heap.size w w1 := by
    rw [← hw1]
    exact (((Below.refl _ w).alloc (Nat.le_refl _) _).alloc (by simp) _).alloc (by simp; omega) _
  have bB : Boxed w1 w.heap.size 110 (.slice none 0 0) := by rw [← hw1]; exact ((Boxed.new w 110 (.slice none 0 0)).alloc _).alloc _
  have bS : Boxed w1 (w.heap.size + 1) 28 (.slice a len cap) := by
    rw [← hw1]
    have := Boxed.new (w.alloc (.cells #[.slice none 0 0] 110)) 28 (.slice a len cap)
    rw [World.size_alloc] at this
    exact this.alloc _
  have bN : Boxed w1 (w.heap.size + 1 + 1) 3 (.int .i64 8) := by
    rw [← hw1]
    have := Boxed.new ((w.alloc (.cells #[.slice none 0 0] 110)).alloc (.cells #[.slice a len cap] 28)) 3 (.int .i64 8)
    rw [World.size_alloc, World.size_alloc] at this
    exact this
  rw [hw1]
  clear hw1
  refine wpIn_rangeFunc_ownG hro (by omega) (gf := 205) (lb := #[.pointer (some ⟨w.heap.size + 1, 0, none⟩), .pointer (some ⟨w.heap.size + 1 + 1, 0, none⟩)]) rfl trivial (enters_of Tryz.func205 (by kernel_rfl) rfl)
    (chunk_stops Fence.wide _ trivial hro (by omega) (w.heap.size + 1) (w.heap.size + 1 + 1) w.heap.size b off len cap a hlc hlen w1 (by omega) (by omega) ha bS.cell bN.cell)
    (fun h k => h.trans k) (fun W l o o' hl' ho hnc _ => ⟨(Below.refl _ W).grown (grownBy_putObj' _ _ _) (by have := (Array.getElem?_eq_some_iff.1 ho).1; omega) (fun k e => by cases e; omega), World.putObj_heap_other (by omega), World.putObj_heap_other (by omega)⟩) (Below.refl _ _) (fun _ => rfl)
    (fun pre W => ChI w.heap.size (w.heap.size + 3) len (chNews len vals) pre W ∧ Below w.heap.size w W)
    (fun _ _ _ => False)
    (fun s A B row hs hg hr => ⟨hs.1.grown hg (fun r e => (hr r e).2), hs.2.grown hg (by have := hs.2.size; omega) (fun k e => by have := (hr k e).1; omega)⟩)
    (fun _ _ _ _ _ hs _ _ => hs)
    ⟨⟨by omega, _, [], bB, rfl, ⟨rfl, .inl ⟨rfl, rfl⟩⟩, fun j k sv h => by cases h⟩, hb1⟩
    (fun k => pact a len cap b off w.heap.size (w.heap.size + 1) k) ?assign ?body ?done ?stop
  case assign =>
    intro l x W K hK
    unfold pact at hK
    gi_wp2
    exact hK
  case body =>
    rintro l pre k W ⟨hI, hB⟩ hlt
    refine pbody_in _ l (by omega) a b off len cap w.heap.size (w.heap.size + 1) k (w.heap.size + 3) w.heap.size (chNews len vals) pre W _ hI hlen hlt (Nat.le_refl _) (by omega) (by omega) (by omega) (fun W' hW' => ?_) (fun a' W' h2 h3 h4 => ⟨h2.from _, h3, h4, hB.trans h3.below⟩)
    exact cut_copy hlen hl hc h1 k W' (hB.trans hW')
  case done =>
    rintro D ys W hD rfl ⟨hI, hB⟩ hK
    obtain ⟨hs0, v, svs, hBx, hl0, hrow, heach⟩ := hI
    have hcb := hBx.cell
    gi_wp2
    refine ⟨by simp, .inl ⟨_, _, rfl, run_takeDeferred hK, ?_⟩⟩
    have hno : ∀ r, some D = some r → ∃ o : Obj, W.heap[r]? = some o ∧ o.isCells = false := fun r e => by cases e; exact ⟨_, hK, rfl⟩
    have hg := grownBy_putObj' W D (.deferred none)
    refine ⟨_, results_tmp rfl _ _ _, v, svs, rfl, by rw [hl0, List.length_range], row_base (hrow.kept hg (row_ne hrow hno)) (by omega), fun k sv h => ?_, hB.grown hg (by omega) (fun k e => by cases e; omega)⟩
    have hk : (List.range (chN len))[k]? = some k := by
      have := (List.getElem?_eq_some_iff.1 h).1
      rw [List.getElem?_range (by rw [hl0, List.length_range] at this; exact this)]
    have hr := heach k k sv h hk
    exact row_base (hr.kept hg (row_ne hr hno)) (by omega)
  case stop =>
    rintro D c pre W _ _ h _
    exact h.elim
end Go.Proofs
set_option linter.unusedVariables false
set_option linter.unusedSimpArgs false
namespace Go.Proofs
open Go.RowKit Go.Shelf
theorem chunks_cuts : Go.Ab.Cuts Tryz.prog 79 78 28 := fun b off len cap a vals hlc hlen w ha hl hc h1 =>
  (chunks_in b off len cap a vals hlc hlen w ha hl hc h1).mono fun _ _ ⟨v, svs, he, hn, hrow, heach, bel⟩ => ⟨v, svs, he, hn, hrow, heach, bel⟩
theorem gather_cuts : Go.Ab.Cuts Tryz.prog 81 78 28 := fun b off len cap a vals _ hlen w ha hl hc h1 =>
  (gather_calls b off len cap a vals hlen w ha hl hc h1).mono fun _ _ ⟨v, svs, he, hG, bel⟩ => ⟨v, svs, he, hG.len, by rw [hG.len]; exact hG.row, hG.each, bel⟩
end Go.Proofs
namespace Go.Proofs
end Go.Proofs
namespace Go.Ab.Tryz
open Go Go.Ab Go.Proofs
def pr : FuncId → Option Prim
  | 48 => some (.clone 81 24)
  | 49 => some (.clone 84 24)
  | 50 => some (.clone 78 32)
  | 51 => some (.clone 88 56)
  | 52 => some (.clone 67 128)
  | 53 => some (.clone 60 64)
  | 55 => some .mv
  | 56 => some .mv
  | 57 => some .mv
  | 58 => some .mv
  | 59 => some .mv
  | 60 => some .mv
  | 61 => some .mv
  | 79 => some (.look (chP 78 28))
  | 81 => some (.look (chP 78 28))
  | 95 => some .mv
  | 96 => some .mv
  | 97 => some .mv
  | 109 => some .mv
  | 112 => some .mv
  | 113 => some .mv
  | 119 => some .mv
  | 120 => some .mv
  | 123 => some .mv
  | 125 => some .mv
  | 129 => some .mv
  | 131 => some .mv
  | 144 => some (.insert 78 32)
  | 163 => some .mv
  | 169 => some (.clone 25 16)
  | 174 => some .mv
  | 175 => some .mv
  | 176 => some .mv
  | 177 => some .mv
  | 178 => some .mv
  | 179 => some .mv
  | 184 => some .mv
  | 196 => some (.insert 81 24)
  | 197 => some .mv
  | 206 => some (.look decP)
  | 212 => some .mv
  | 213 => some .mv
  | 214 => some .mv
  | 219 => some .mv
  | 220 => some .mv
  | 222 => some (.sort 25 223)
  | 227 => some .mv
  | 233 => some .mv
  | 236 => some (.insert 84 24)
  | _ => none
theorem zero25 : zeroOf Tryz.prog 25 = some (.agg [.sc (.int .u64 0), .sc (.int .u16 0)]) := by kernel_rfl
theorem cells25 : Tryz.prog.cellsOf 25 = 2 := by kernel_rfl
theorem bytes25 : Tryz.prog.bytesOf 25 = 16 := by kernel_rfl
theorem zero60 : zeroOf Tryz.prog 60 = some (.agg [.sc (.int .i64 0), .sc (.int .i64 0), .sc (.string ⟨#[]⟩), .sc (.string ⟨#[]⟩), .sc (.bool false), .sc (.int .i64 0)]) := by kernel_rfl
theorem cells60 : Tryz.prog.cellsOf 60 = 6 := by kernel_rfl
theorem bytes60 : Tryz.prog.bytesOf 60 = 64 := by kernel_rfl
theorem zero67 : zeroOf Tryz.prog 67 = some (.agg [.sc (.int .i64 0), .sc (.int .i64 0), .sc (.int .i64 0), .sc (.string ⟨#[]⟩), .sc (.string ⟨#[]⟩), .sc (.int .u64 0), .sc (.int .u64 0), .sc (.int .u16 0), .sc (.int .u64 0), .sc (.int .u16 0), .sc (.bool false), .sc (.int .i64 0), .sc (.int .i64 0), .sc (.int .i64 0)]) := by kernel_rfl
theorem cells67 : Tryz.prog.cellsOf 67 = 14 := by kernel_rfl
theorem bytes67 : Tryz.prog.bytesOf 67 = 128 := by kernel_rfl
theorem zero78 : zeroOf Tryz.prog 78 = some (.agg [.sc (.string ⟨#[]⟩), .sc (.string ⟨#[]⟩)]) := by kernel_rfl
theorem cells78 : Tryz.prog.cellsOf 78 = 2 := by kernel_rfl
theorem bytes78 : Tryz.prog.bytesOf 78 = 32 := by kernel_rfl
theorem zero81 : zeroOf Tryz.prog 81 = some (.agg [.sc (.int .u64 0), .sc (.int .u16 0), .sc (.int .i64 0)]) := by kernel_rfl
theorem cells81 : Tryz.prog.cellsOf 81 = 3 := by kernel_rfl
theorem bytes81 : Tryz.prog.bytesOf 81 = 24 := by kernel_rfl
theorem zero84 : zeroOf Tryz.prog 84 = some (.agg [.sc (.int .i64 0), .sc (.int .u64 0), .sc (.int .u16 0)]) := by kernel_rfl
theorem cells84 : Tryz.prog.cellsOf 84 = 3 := by kernel_rfl
theorem bytes84 : Tryz.prog.bytesOf 84 = 24 := by kernel_rfl
theorem zero88 : zeroOf Tryz.prog 88 = some (.agg [.sc (.int .u32 0), .sc (.int .i64 0), .sc (.int .i64 0), .sc (.int .i64 0), .sc (.int .u64 0), .sc (.int .u16 0), .sc (.int .i64 0)]) := by kernel_rfl
theorem cells88 : Tryz.prog.cellsOf 88 = 7 := by kernel_rfl
theorem bytes88 : Tryz.prog.bytesOf 88 = 56 := by kernel_rfl
def tabs (base : Base) : Prop := Tryz.dec206_ren.g 3 < base.n ∧ Tryz.dec206_ren.g 4 < base.n ∧ Go.Lib.Utf8Tabs (Tryz.dec206_ren.g 3) (Tryz.dec206_ren.g 4) base.w0
theorem pr_ok : ∀ base, tabs base → ∀ f p, pr f = some p → PrimOk Tryz.prog base f p := by
  intro base ht f p h
  unfold pr at h
  split at h
  · cases h
    have := clone_ok (base := base) (P := Tryz.prog) (ρ := Tryz.clone48_ren) Tryz.clone48 zero81 (by show 0 < Tryz.prog.cellsOf 81; rw [cells81]; omega)
    rw [show Tryz.prog.bytesOf (Tryz.clone48_ren.t 23) = 24 from bytes81] at this
    exact this
  · cases h
    have := clone_ok (base := base) (P := Tryz.prog) (ρ := Tryz.clone49_ren) Tryz.clone49 zero84 (by show 0 < Tryz.prog.cellsOf 84; rw [cells84]; omega)
    rw [show Tryz.prog.bytesOf (Tryz.clone49_ren.t 23) = 24 from bytes84] at this
    exact this
  · cases h
    have := clone_ok (base := base) (P := Tryz.prog) (ρ := Tryz.clone50_ren) Tryz.clone50 zero78 (by show 0 < Tryz.prog.cellsOf 78; rw [cells78]; omega)
    rw [show Tryz.prog.bytesOf (Tryz.clone50_ren.t 23) = 32 from bytes78] at this
    exact this
  · cases h
    have := clone_ok (base := base) (P := Tryz.prog) (ρ := Tryz.clone51_ren) Tryz.clone51 zero88 (by show 0 < Tryz.prog.cellsOf 88; rw [cells88]; omega)
    rw [show Tryz.prog.bytesOf (Tryz.clone51_ren.t 23) = 56 from bytes88] at this
    exact this
  · cases h
    have := clone_ok (base := base) (P := Tryz.prog) (ρ := Tryz.clone52_ren) Tryz.clone52 zero67 (by show 0 < Tryz.prog.cellsOf 67; rw [cells67]; omega)
    rw [show Tryz.prog.bytesOf (Tryz.clone52_ren.t 23) = 128 from bytes67] at this
    exact this
  · cases h
    have := clone_ok (base := base) (P := Tryz.prog) (ρ := Tryz.clone53_ren) Tryz.clone53 zero60 (by show 0 < Tryz.prog.cellsOf 60; rw [cells60]; omega)
    rw [show Tryz.prog.bytesOf (Tryz.clone53_ren.t 23) = 64 from bytes60] at this
    exact this
  · cases h; exact mv_ok Tryz.func55 (by kernel_rfl) (by decide)
  · cases h; exact mv_ok Tryz.func56 (by kernel_rfl) (by decide)
  · cases h; exact mv_ok Tryz.func57 (by kernel_rfl) (by decide)
  · cases h; exact mv_ok Tryz.func58 (by kernel_rfl) (by decide)
  · cases h; exact mv_ok Tryz.func59 (by kernel_rfl) (by decide)
  · cases h; exact mv_ok Tryz.func60 (by kernel_rfl) (by decide)
  · cases h; exact mv_ok Tryz.func61 (by kernel_rfl) (by decide)
  · cases h; exact chunk_ok (by kernel_rfl) (by kernel_rfl) ⟨_, Tryz.func79, by kernel_rfl, by decide⟩ chunks_cuts
  · cases h; exact chunk_ok (by kernel_rfl) (by kernel_rfl) ⟨_, Tryz.func81, by kernel_rfl, by decide⟩ gather_cuts
  · cases h; exact mv_ok Tryz.func95 (by kernel_rfl) (by decide)
  · cases h; exact mv_ok Tryz.func96 (by kernel_rfl) (by decide)
  · cases h; exact mv_ok Tryz.func97 (by kernel_rfl) (by decide)
  · cases h; exact mv_ok Tryz.func109 (by kernel_rfl) (by decide)
  · cases h; exact mv_ok Tryz.func112 (by kernel_rfl) (by decide)
  · cases h; exact mv_ok Tryz.func113 (by kernel_rfl) (by decide)
  · cases h; exact mv_ok Tryz.func119 (by kernel_rfl) (by decide)
  · cases h; exact mv_ok Tryz.func120 (by kernel_rfl) (by decide)
  · cases h; exact mv_ok Tryz.func123 (by kernel_rfl) (by decide)
  · cases h; exact mv_ok Tryz.func125 (by kernel_rfl) (by decide)
  · cases h; exact mv_ok Tryz.func129 (by kernel_rfl) (by decide)
  · cases h; exact mv_ok Tryz.func131 (by kernel_rfl) (by decide)
  · cases h
    have := insert_ok (base := base) (P := Tryz.prog) (ρ := Tryz.ins144_ren) { Tryz.ins144 with ov := Tryz.over203 } zero78 (by show 0 < Tryz.prog.cellsOf 78; rw [cells78]; omega)
    rw [show Tryz.prog.bytesOf (Tryz.ins144_ren.t 9) = 32 from bytes78] at this
    exact this
  · cases h; exact mv_ok Tryz.func163 (by kernel_rfl) (by decide)
  · cases h
    have := clone_ok (base := base) (P := Tryz.prog) (ρ := Tryz.clone169_ren) Tryz.clone169 zero25 (by show 0 < Tryz.prog.cellsOf 25; rw [cells25]; omega)
    rw [show Tryz.prog.bytesOf (Tryz.clone169_ren.t 23) = 16 from bytes25] at this
    exact this
  · cases h; exact mv_ok Tryz.func174 (by kernel_rfl) (by decide)
  · cases h; exact mv_ok Tryz.func175 (by kernel_rfl) (by decide)
  · cases h; exact mv_ok Tryz.func176 (by kernel_rfl) (by decide)
  · cases h; exact mv_ok Tryz.func177 (by kernel_rfl) (by decide)
  · cases h; exact mv_ok Tryz.func178 (by kernel_rfl) (by decide)
  · cases h; exact mv_ok Tryz.func179 (by kernel_rfl) (by decide)
  · cases h; exact mv_ok Tryz.func184 (by kernel_rfl) (by decide)
  · cases h
    have := insert_ok (base := base) (P := Tryz.prog) (ρ := Tryz.ins196_ren) { Tryz.ins196 with ov := Tryz.over229 } zero81 (by show 0 < Tryz.prog.cellsOf 81; rw [cells81]; omega)
    rw [show Tryz.prog.bytesOf (Tryz.ins196_ren.t 9) = 24 from bytes81] at this
    exact this
  · cases h; exact mv_ok Tryz.func197 (by kernel_rfl) (by decide)
  · cases h; exact dec_ok (ρ := Tryz.dec206_ren) Tryz.dec206 Tryz.func206 (by kernel_rfl) (by decide) ht.1 ht.2.1 ht.2.2
  · cases h; exact mv_ok Tryz.func212 (by kernel_rfl) (by decide)
  · cases h; exact mv_ok Tryz.func213 (by kernel_rfl) (by decide)
  · cases h; exact mv_ok Tryz.func214 (by kernel_rfl) (by decide)
  · cases h; exact mv_ok Tryz.func219 (by kernel_rfl) (by decide)
  · cases h; exact mv_ok Tryz.func220 (by kernel_rfl) (by decide)
  · cases h; exact sort_ok (by kernel_rfl) ⟨_, Tryz.func222, by kernel_rfl, by decide⟩ sort_hops
  · cases h; exact mv_ok Tryz.func227 (by kernel_rfl) (by decide)
  · cases h; exact mv_ok Tryz.func233 (by kernel_rfl) (by decide)
  · cases h
    have := insert_ok (base := base) (P := Tryz.prog) (ρ := Tryz.ins236_ren) { Tryz.ins236 with ov := Tryz.over243 } zero84 (by show 0 < Tryz.prog.cellsOf 84; rw [cells84]; omega)
    rw [show Tryz.prog.bytesOf (Tryz.ins236_ren.t 9) = 24 from bytes84] at this
    exact this
  · cases h
end Go.Ab.Tryz
namespace Go.Ab.Tryz
open Go Go.Ab Go.Proofs
set_option linter.unusedVariables false
set_option linter.unusedSimpArgs false
set_option maxRecDepth 10000
set_option maxHeartbeats 4000000
structure Peer where
  id : Int
  addr : Int
  deriving DecidableEq
def ePeer (x : Peer) : AV := .agg [vU x.id, vH x.addr]
theorem Peer.ext' {a b : Peer} : a = b ↔ a.id = b.id ∧ a.addr = b.addr := by cases a; cases b; simp
instance : Inj ePeer := ⟨fun a b h => by
  obtain ⟨_, _⟩ := a; obtain ⟨_, _⟩ := b
  simp only [ePeer, AV.agg.injEq, List.cons.injEq, AV.sc.injEq, Value.int.injEq, Value.bool.injEq, Value.string.injEq, AV.lit.injEq, map_iff, and_true, true_and, and_assoc] at h
  simp only [Peer.mk.injEq, and_assoc]; simpa only [Peer.mk.injEq, and_assoc] using h⟩
theorem ePeer_iff {a b : Peer} : ePeer a = ePeer b ↔ a = b := ⟨Inj.inj a b, fun h => by rw [h]⟩
structure Entry where
  peer : Peer
  misses : Int
  deriving DecidableEq
def eEntry (x : Entry) : AV := .agg [vU x.peer.id, vH x.peer.addr, vI x.misses]
theorem Entry.ext' {a b : Entry} : a = b ↔ a.peer = b.peer ∧ a.misses = b.misses := by cases a; cases b; simp
instance : Inj eEntry := ⟨fun a b h => by
  obtain ⟨⟨_, _⟩, _⟩ := a; obtain ⟨⟨_, _⟩, _⟩ := b
  simp only [eEntry, AV.agg.injEq, List.cons.injEq, AV.sc.injEq, Value.int.injEq, Value.bool.injEq, Value.string.injEq, AV.lit.injEq, map_iff, and_true, true_and, and_assoc] at h
  simp_all⟩
theorem eEntry_iff {a b : Entry} : eEntry a = eEntry b ↔ a = b := ⟨Inj.inj a b, fun h => by rw [h]⟩
structure Finger where
  bit : Int
  peer : Peer
  deriving DecidableEq
def eFinger (x : Finger) : AV := .agg [vI x.bit, vU x.peer.id, vH x.peer.addr]
theorem Finger.ext' {a b : Finger} : a = b ↔ a.bit = b.bit ∧ a.peer = b.peer := by cases a; cases b; simp
instance : Inj eFinger := ⟨fun a b h => by
  obtain ⟨_, ⟨_, _⟩⟩ := a; obtain ⟨_, ⟨_, _⟩⟩ := b
  simp only [eFinger, AV.agg.injEq, List.cons.injEq, AV.sc.injEq, Value.int.injEq, Value.bool.injEq, Value.string.injEq, AV.lit.injEq, map_iff, and_true, true_and, and_assoc] at h
  simp_all⟩
theorem eFinger_iff {a b : Finger} : eFinger a = eFinger b ↔ a = b := ⟨Inj.inj a b, fun h => by rw [h]⟩
structure Pair where
  key : ByteArray
  val : ByteArray
  deriving DecidableEq
def ePair (x : Pair) : AV := .agg [vT x.key, vT x.val]
theorem Pair.ext' {a b : Pair} : a = b ↔ a.key = b.key ∧ a.val = b.val := by cases a; cases b; simp
instance : Inj ePair := ⟨fun a b h => by
  obtain ⟨_, _⟩ := a; obtain ⟨_, _⟩ := b
  simp only [ePair, AV.agg.injEq, List.cons.injEq, AV.sc.injEq, Value.int.injEq, Value.bool.injEq, Value.string.injEq, AV.lit.injEq, map_iff, and_true, true_and, and_assoc] at h
  simp only [Pair.mk.injEq, and_assoc]; simpa only [Pair.mk.injEq, and_assoc] using h⟩
theorem ePair_iff {a b : Pair} : ePair a = ePair b ↔ a = b := ⟨Inj.inj a b, fun h => by rw [h]⟩
structure Pend where
  rid : Int
  kind : Int
  why : Int
  job : Int
  to_ : Peer
  due : Int
  deriving DecidableEq
def ePend (x : Pend) : AV := .agg [vW x.rid, vI x.kind, vI x.why, vI x.job, vU x.to_.id, vH x.to_.addr, vI x.due]
theorem Pend.ext' {a b : Pend} : a = b ↔ a.rid = b.rid ∧ a.kind = b.kind ∧ a.why = b.why ∧ a.job = b.job ∧ a.to_ = b.to_ ∧ a.due = b.due := by cases a; cases b; simp
instance : Inj ePend := ⟨fun a b h => by
  obtain ⟨_, _, _, _, ⟨_, _⟩, _⟩ := a; obtain ⟨_, _, _, _, ⟨_, _⟩, _⟩ := b
  simp only [ePend, AV.agg.injEq, List.cons.injEq, AV.sc.injEq, Value.int.injEq, Value.bool.injEq, Value.string.injEq, AV.lit.injEq, map_iff, and_true, true_and, and_assoc] at h
  simp_all⟩
theorem ePend_iff {a b : Pend} : ePend a = ePend b ↔ a = b := ⟨Inj.inj a b, fun h => by rw [h]⟩
structure Job where
  id : Int
  kind : Int
  bit : Int
  key : ByteArray
  val : ByteArray
  target : Int
  via : Peer
  at_ : Peer
  doing : Bool
  hops : Int
  tries : Int
  due : Int
  deriving DecidableEq
def eJob (x : Job) : AV := .agg [vI x.id, vI x.kind, vI x.bit, vT x.key, vT x.val, vU x.target, vU x.via.id, vH x.via.addr, vU x.at_.id, vH x.at_.addr, vF x.doing, vI x.hops, vI x.tries, vI x.due]
theorem Job.ext' {a b : Job} : a = b ↔ a.id = b.id ∧ a.kind = b.kind ∧ a.bit = b.bit ∧ a.key = b.key ∧ a.val = b.val ∧ a.target = b.target ∧ a.via = b.via ∧ a.at_ = b.at_ ∧ a.doing = b.doing ∧ a.hops = b.hops ∧ a.tries = b.tries ∧ a.due = b.due := by cases a; cases b; simp
instance : Inj eJob := ⟨fun a b h => by
  obtain ⟨_, _, _, _, _, _, ⟨_, _⟩, ⟨_, _⟩, _, _, _, _⟩ := a; obtain ⟨_, _, _, _, _, _, ⟨_, _⟩, ⟨_, _⟩, _, _, _, _⟩ := b
  simp only [eJob, AV.agg.injEq, List.cons.injEq, AV.sc.injEq, Value.int.injEq, Value.bool.injEq, Value.string.injEq, AV.lit.injEq, map_iff, and_true, true_and, and_assoc] at h
  simp_all⟩
theorem eJob_iff {a b : Job} : eJob a = eJob b ↔ a = b := ⟨Inj.inj a b, fun h => by rw [h]⟩
structure Result where
  job : Int
  kind : Int
  key : ByteArray
  val : ByteArray
  has : Bool
  err : Int
  deriving DecidableEq
def eResult (x : Result) : AV := .agg [vI x.job, vI x.kind, vT x.key, vT x.val, vF x.has, vI x.err]
theorem Result.ext' {a b : Result} : a = b ↔ a.job = b.job ∧ a.kind = b.kind ∧ a.key = b.key ∧ a.val = b.val ∧ a.has = b.has ∧ a.err = b.err := by cases a; cases b; simp
instance : Inj eResult := ⟨fun a b h => by
  obtain ⟨_, _, _, _, _, _⟩ := a; obtain ⟨_, _, _, _, _, _⟩ := b
  simp only [eResult, AV.agg.injEq, List.cons.injEq, AV.sc.injEq, Value.int.injEq, Value.bool.injEq, Value.string.injEq, AV.lit.injEq, map_iff, and_true, true_and, and_assoc] at h
  simp only [Result.mk.injEq, and_assoc]; simpa only [Result.mk.injEq, and_assoc] using h⟩
theorem eResult_iff {a b : Result} : eResult a = eResult b ↔ a = b := ⟨Inj.inj a b, fun h => by rw [h]⟩
structure Node where
  me : Peer
  clock : Int
  joined : Bool
  pred : List Entry
  list : List Entry
  fingers : List Finger
  store : List Pair
  pends : List Pend
  jobs : List Job
  results : List Result
  rid : Int
  jobID : Int
  nextBit : Int
  deriving DecidableEq
def eNode (x : Node) : AV := .agg [vU x.me.id, vH x.me.addr, vI x.clock, vF x.joined, .lit 81 false (List.map eEntry x.pred), .lit 81 false (List.map eEntry x.list), .lit 84 false (List.map eFinger x.fingers), .lit 78 false (List.map ePair x.store), .lit 88 false (List.map ePend x.pends), .lit 67 false (List.map eJob x.jobs), .lit 60 false (List.map eResult x.results), vW x.rid, vI x.jobID, vI x.nextBit]
theorem Node.ext' {a b : Node} : a = b ↔ a.me = b.me ∧ a.clock = b.clock ∧ a.joined = b.joined ∧ a.pred = b.pred ∧ a.list = b.list ∧ a.fingers = b.fingers ∧ a.store = b.store ∧ a.pends = b.pends ∧ a.jobs = b.jobs ∧ a.results = b.results ∧ a.rid = b.rid ∧ a.jobID = b.jobID ∧ a.nextBit = b.nextBit := by cases a; cases b; simp
instance : Inj eNode := ⟨fun a b h => by
  obtain ⟨⟨_, _⟩, _, _, _, _, _, _, _, _, _, _, _, _⟩ := a; obtain ⟨⟨_, _⟩, _, _, _, _, _, _, _, _, _, _, _, _⟩ := b
  simp only [eNode, AV.agg.injEq, List.cons.injEq, AV.sc.injEq, Value.int.injEq, Value.bool.injEq, Value.string.injEq, AV.lit.injEq, map_iff, and_true, true_and, and_assoc] at h
  simp_all⟩
theorem eNode_iff {a b : Node} : eNode a = eNode b ↔ a = b := ⟨Inj.inj a b, fun h => by rw [h]⟩
def cNode (x : Node) : List AV := [vU x.me.id, vH x.me.addr, vI x.clock, vF x.joined, .lit 81 false (List.map eEntry x.pred), .lit 81 false (List.map eEntry x.list), .lit 84 false (List.map eFinger x.fingers), .lit 78 false (List.map ePair x.store), .lit 88 false (List.map ePend x.pends), .lit 67 false (List.map eJob x.jobs), .lit 60 false (List.map eResult x.results), vW x.rid, vI x.jobID, vI x.nextBit]
theorem cNode_iff {a b : Node} : cNode a = cNode b ↔ a = b := ⟨fun h => Inj.inj (e := eNode) a b (congrArg AV.agg h), fun h => by rw [h]⟩
theorem cNode_app {a b : Node} {l l' : List AV} : capp (cNode a) l = capp (cNode b) l' ↔ a = b ∧ l = l' := ⟨fun h => by rw [capp_eq, capp_eq] at h; obtain ⟨h1, h2⟩ := List.append_inj h rfl; exact ⟨cNode_iff.1 h1, h2⟩, fun h => by rw [h.1, h.2]⟩
structure Msg where
  kind : Int
  rid : Int
  code : Int
  has : Bool
  id : Int
  key : ByteArray
  val : ByteArray
  peer : Peer
  peers : List Peer
  pairs : List Pair
  deriving DecidableEq
def eMsg (x : Msg) : AV := .agg [vI x.kind, vW x.rid, vB x.code, vF x.has, vU x.id, vT x.key, vT x.val, vU x.peer.id, vH x.peer.addr, .lit 25 false (List.map ePeer x.peers), .lit 78 false (List.map ePair x.pairs)]
theorem Msg.ext' {a b : Msg} : a = b ↔ a.kind = b.kind ∧ a.rid = b.rid ∧ a.code = b.code ∧ a.has = b.has ∧ a.id = b.id ∧ a.key = b.key ∧ a.val = b.val ∧ a.peer = b.peer ∧ a.peers = b.peers ∧ a.pairs = b.pairs := by cases a; cases b; simp
instance : Inj eMsg := ⟨fun a b h => by
  obtain ⟨_, _, _, _, _, _, _, ⟨_, _⟩, _, _⟩ := a; obtain ⟨_, _, _, _, _, _, _, ⟨_, _⟩, _, _⟩ := b
  simp only [eMsg, AV.agg.injEq, List.cons.injEq, AV.sc.injEq, Value.int.injEq, Value.bool.injEq, Value.string.injEq, AV.lit.injEq, map_iff, and_true, true_and, and_assoc] at h
  simp_all⟩
theorem eMsg_iff {a b : Msg} : eMsg a = eMsg b ↔ a = b := ⟨Inj.inj a b, fun h => by rw [h]⟩
def cMsg (x : Msg) : List AV := [vI x.kind, vW x.rid, vB x.code, vF x.has, vU x.id, vT x.key, vT x.val, vU x.peer.id, vH x.peer.addr, .lit 25 false (List.map ePeer x.peers), .lit 78 false (List.map ePair x.pairs)]
theorem cMsg_iff {a b : Msg} : cMsg a = cMsg b ↔ a = b := ⟨fun h => Inj.inj (e := eMsg) a b (congrArg AV.agg h), fun h => by rw [h]⟩
theorem cMsg_app {a b : Msg} {l l' : List AV} : capp (cMsg a) l = capp (cMsg b) l' ↔ a = b ∧ l = l' := ⟨fun h => by rw [capp_eq, capp_eq] at h; obtain ⟨h1, h2⟩ := List.append_inj h rfl; exact ⟨cMsg_iff.1 h1, h2⟩, fun h => by rw [h.1, h.2]⟩
structure Out where
  to_ : Peer
  msg : Msg
  deriving DecidableEq
def eOut (x : Out) : AV := .agg [vU x.to_.id, vH x.to_.addr, vI x.msg.kind, vW x.msg.rid, vB x.msg.code, vF x.msg.has, vU x.msg.id, vT x.msg.key, vT x.msg.val, vU x.msg.peer.id, vH x.msg.peer.addr, .lit 25 false (List.map ePeer x.msg.peers), .lit 78 false (List.map ePair x.msg.pairs)]
theorem Out.ext' {a b : Out} : a = b ↔ a.to_ = b.to_ ∧ a.msg = b.msg := by cases a; cases b; simp
instance : Inj eOut := ⟨fun a b h => by
  obtain ⟨⟨_, _⟩, ⟨_, _, _, _, _, _, _, ⟨_, _⟩, _, _⟩⟩ := a; obtain ⟨⟨_, _⟩, ⟨_, _, _, _, _, _, _, ⟨_, _⟩, _, _⟩⟩ := b
  simp only [eOut, AV.agg.injEq, List.cons.injEq, AV.sc.injEq, Value.int.injEq, Value.bool.injEq, Value.string.injEq, AV.lit.injEq, map_iff, and_true, true_and, and_assoc] at h
  simp_all⟩
theorem eOut_iff {a b : Out} : eOut a = eOut b ↔ a = b := ⟨Inj.inj a b, fun h => by rw [h]⟩
structure Serve_answer where
  n : Node
  from_ : Int
  m : Msg
  out : List Out
  deriving DecidableEq
def eServe_answer (x : Serve_answer) : AV := .agg [vU x.n.me.id, vH x.n.me.addr, vI x.n.clock, vF x.n.joined, .lit 81 false (List.map eEntry x.n.pred), .lit 81 false (List.map eEntry x.n.list), .lit 84 false (List.map eFinger x.n.fingers), .lit 78 false (List.map ePair x.n.store), .lit 88 false (List.map ePend x.n.pends), .lit 67 false (List.map eJob x.n.jobs), .lit 60 false (List.map eResult x.n.results), vW x.n.rid, vI x.n.jobID, vI x.n.nextBit, vH x.from_, vI x.m.kind, vW x.m.rid, vB x.m.code, vF x.m.has, vU x.m.id, vT x.m.key, vT x.m.val, vU x.m.peer.id, vH x.m.peer.addr, .lit 25 false (List.map ePeer x.m.peers), .lit 78 false (List.map ePair x.m.pairs), .lit 56 false (List.map eOut x.out)]
theorem Serve_answer.ext' {a b : Serve_answer} : a = b ↔ a.n = b.n ∧ a.from_ = b.from_ ∧ a.m = b.m ∧ a.out = b.out := by cases a; cases b; simp
instance : Inj eServe_answer := ⟨fun a b h => by
  obtain ⟨⟨⟨_, _⟩, _, _, _, _, _, _, _, _, _, _, _, _⟩, _, ⟨_, _, _, _, _, _, _, ⟨_, _⟩, _, _⟩, _⟩ := a; obtain ⟨⟨⟨_, _⟩, _, _, _, _, _, _, _, _, _, _, _, _⟩, _, ⟨_, _, _, _, _, _, _, ⟨_, _⟩, _, _⟩, _⟩ := b
  simp only [eServe_answer, AV.agg.injEq, List.cons.injEq, AV.sc.injEq, Value.int.injEq, Value.bool.injEq, Value.string.injEq, AV.lit.injEq, map_iff, and_true, true_and, and_assoc] at h
  simp_all⟩
theorem eServe_answer_iff {a b : Serve_answer} : eServe_answer a = eServe_answer b ↔ a = b := ⟨Inj.inj a b, fun h => by rw [h]⟩
structure Msg_kind where
  name : ByteArray
  fields : Int
  replies : List Int
  deriving DecidableEq
def eMsg_kind (x : Msg_kind) : AV := .agg [vT x.name, vI x.fields, .lit 3 false (List.map vI x.replies)]
theorem Msg_kind.ext' {a b : Msg_kind} : a = b ↔ a.name = b.name ∧ a.fields = b.fields ∧ a.replies = b.replies := by cases a; cases b; simp
instance : Inj eMsg_kind := ⟨fun a b h => by
  obtain ⟨_, _, _⟩ := a; obtain ⟨_, _, _⟩ := b
  simp only [eMsg_kind, AV.agg.injEq, List.cons.injEq, AV.sc.injEq, Value.int.injEq, Value.bool.injEq, Value.string.injEq, AV.lit.injEq, map_iff, and_true, true_and, and_assoc] at h
  simp only [Msg_kind.mk.injEq, and_assoc]; simpa only [Msg_kind.mk.injEq, and_assoc] using h⟩
theorem eMsg_kind_iff {a b : Msg_kind} : eMsg_kind a = eMsg_kind b ↔ a = b := ⟨Inj.inj a b, fun h => by rw [h]⟩
theorem inj_ {p : Prop} (q : p := by
  first | rfl | ((try simp only [Prod.mk.injEq, St.mk.injEq, List.cons.injEq, AV.sc.injEq, AV.agg.injEq, AV.tup.injEq, AV.lit.injEq, AV.sl.injEq, AV.sub.injEq, AV.rptr.injEq, AV.lptr.injEq, AV.bptr.injEq, AV.fn.injEq, Ent.box.injEq, Ent.row.injEq, Ent.it.injEq, Value.int.injEq, Value.bool.injEq, Value.string.injEq, bd_inj, map_iff, eL_iff, and_true, true_and, and_assoc, reduceCtorEq, false_and, and_false, ePeer_iff, eEntry_iff, eFinger_iff, ePair_iff, ePend_iff, eJob_iff, eResult_iff, eNode_iff, eMsg_iff, eOut_iff, eServe_answer_iff, eMsg_kind_iff, cNode_iff, cNode_app, cMsg_iff, cMsg_app] at h) <;> simp_all)) : p := q
noncomputable abbrev IF_ : Ifc := ⟨Ops.std, (lim F pr).call, (lim F pr).loop, pr, (lim F pr).seg⟩
theorem fin_ {p : Prop} (h : p := by
  try dsimp only [bd, gam, xlen, xget, xsub, xroom, xsget, xssub, xsapp, xsdec, xsofb, xcut, xsrt, eL, ePeer, eEntry, eFinger, ePair, ePend, eJob, eResult, eNode, eMsg, eOut, eServe_answer, eMsg_kind, cNode, cMsg, capp] at *
  try simp only [map_app, map_set, map_put, map_fil, map_sbytes, List.map_cons, List.map_nil] at *
  try dsimp only [ePeer, eEntry, eFinger, ePair, ePend, eJob, eResult, eNode, eMsg, eOut, eServe_answer, eMsg_kind, cNode, cMsg, capp] at *
  try simp only [List.map_cons, List.map_nil] at *
  unfold IF_
  generalize (lim F pr).call = call at *
  generalize (lim F pr).loop = loop at *
  generalize (lim F pr).seg = seg at *
  try generalize List.map (eL 78 ePair) = m0 at *
  try generalize List.map eEntry = m1 at *
  try generalize List.map eFinger = m2 at *
  try generalize List.map eJob = m3 at *
  try generalize List.map eMsg_kind = m4 at *
  try generalize List.map eOut = m5 at *
  try generalize List.map ePair = m6 at *
  try generalize List.map ePeer = m7 at *
  try generalize List.map ePend = m8 at *
  try generalize List.map eResult = m9 at *
  try generalize List.map vI = m10 at *
  try generalize List.map vT = m11 at *
  generalize Ops.std = o at *
  cases o
  try dsimp only at *
  repeat ((try cbv); first | rw [h0] | rw [h1] | rw [h2] | rw [h3] | rw [h4] | rw [h5] | rw [h6] | rw [h7] | rw [h8] | rw [h9] | rw [h10] | rw [h11] | rw [h12] | rw [h13] | rw [h14] | rw [h15] | rw [h16] | rw [h17] | rw [h18] | rw [h19] | rw [h20] | rw [h21] | rw [h22] | rw [h23] | rw [h24] | rw [h25] | rw [h26] | rw [h27] | rw [h28] | rw [h29] | rw [h30] | rw [h31] | rw [h32] | rw [h33] | rw [h34] | rw [h35] | rw [h36] | rw [h37] | rw [h38] | rw [h39] | rw [h40] | rw [h41] | rw [h42] | rw [h43] | rw [h44] | rw [h45] | rw [h46] | rw [h47] | rw [h48] | rw [h49] | rw [h50] | rw [h51] | rw [h52] | rw [h53] | rw [h54] | rw [h55] | rw [h56] | rw [h57] | rw [h58] | rw [h59] | rw [h60] | rw [h61] | rw [h62] | rw [h63] | rw [h64] | rw [h65] | rw [h66] | rw [h67] | rw [h68] | rw [h69] | rw [h70])
  try cbv) : p := h
noncomputable def w33_ServeKeeps (n : Node) (key : ByteArray) (val : ByteArray) (to_ : Peer) (l : List Pair) (fresh : Bool) : Option (Bool) := ask (R1 vF) ((lim F pr).call 4 [eNode n, vT key, vT val, ePeer to_, .lit 78 false (List.map ePair l), vF fresh] [])
noncomputable def w30_Large (n : Node) : Option (Bool) := ask (R1 vF) ((lim F pr).call 11 [eNode n] [])
noncomputable def w33_awake : Option (Bool) := ask (R1 vF) ((lim F pr).call 13 [] [])
abbrev pend_Copy_T := (Int × Int × Int × Bool × (List Entry) × (List Entry) × (List Finger) × (List Pair) × (List Pend) × (List Job) × (List Result) × Int × Int × Int)
noncomputable def pend_Copy_e : pend_Copy_T → AV × Store
  | (a0, a1, a2, a3, a4, a5, a6, a7, a8, a9, a10, a11, a12, a13) => (.agg [vU a0, vH a1, vI a2, vF a3, .sl 0 0, .sl 1 0, .sl 2 0, .sl 3 0, .sl 4 0, .sl 5 0, .sl 6 0, vW a11, vI a12, vI a13], [.row 81 0 false (List.map eEntry a4), .row 81 0 false (List.map eEntry a5), .row 84 0 false (List.map eFinger a6), .row 78 0 false (List.map ePair a7), .row 88 0 false (List.map ePend a8), .row 67 0 false (List.map eJob a9), .row 60 0 false (List.map eResult a10)])
instance : Inj pend_Copy_e := ⟨fun x y h => by
  rcases x with ⟨a0, a1, a2, a3, a4, a5, a6, a7, a8, a9, a10, a11, a12, a13⟩ <;> rcases y with ⟨a0', a1', a2', a3', a4', a5', a6', a7', a8', a9', a10', a11', a12', a13'⟩ <;> simp only [pend_Copy_e] at h <;> exact inj_⟩
noncomputable def pend_Copy (n : Node) : Option (pend_Copy_T) := ask pend_Copy_e ((lim F pr).call 14 [eNode n] [])
noncomputable def r30_Same (a : Node) (b : Node) : Option (Bool) := ask (R1 vF) ((lim F pr).call 17 [eNode a, eNode b] [])
noncomputable def r30_Outs (a : List Out) (b : List Out) : Option (Bool) := ask (R1 vF) ((lim F pr).call 18 [.lit 56 false (List.map eOut a), .lit 56 false (List.map eOut b)] [])
noncomputable def w29_Large (l : List Pair) : Option (Bool) := ask (R1 vF) ((lim F pr).call 19 [.lit 78 false (List.map ePair l)] [])
noncomputable def serve_Keep (n : Node) (key : ByteArray) (val : ByteArray) : Option ((Node × (List Out) × Int)) := ask (R3 eNode (eL 56 eOut) vI) ((lim F pr).call 20 [eNode n, vT key, vT val] [])
noncomputable def r33_Keep (n : Node) (key : ByteArray) (val : ByteArray) : Option ((Node × (List Out) × Int)) := ask (R3 eNode (eL 56 eOut) vI) ((lim F pr).call 21 [eNode n, vT key, vT val] [])
noncomputable def serve_Hand (n : Node) (to_ : Peer) (l : List Pair) (fresh : Bool) : Option ((Node × (List Out))) := ask (R2 eNode (eL 56 eOut)) ((lim F pr).call 22 [eNode n, ePeer to_, .lit 78 false (List.map ePair l), vF fresh] [])
noncomputable def r33_Hand (n : Node) (to_ : Peer) (l : List Pair) (fresh : Bool) : Option ((Node × (List Out))) := ask (R2 eNode (eL 56 eOut)) ((lim F pr).call 23 [eNode n, ePeer to_, .lit 78 false (List.map ePair l), vF fresh] [])
noncomputable def msg_Key (s : ByteArray) : Option (Bool) := ask (R1 vF) ((lim F pr).call 24 [vT s] [])
noncomputable def peers_All (l : List Entry) : Option ((List Peer)) := ask (R1 (eL 25 ePeer)) ((lim F pr).call 126 [.lit 81 false (List.map eEntry l)] [])
noncomputable def store_Put (l : List Pair) (key : ByteArray) (val : ByteArray) : Option (((List Pair) × Int)) := ask (R2 (eL 78 ePair) vI) ((lim F pr).call 75 [.lit 78 false (List.map ePair l), vT key, vT val] [])
noncomputable def r27_All (l : List Entry) : Option ((List Peer)) := ask (K1 25 ePeer) ((lim F pr).call 64 [.lit 81 false (List.map eEntry l)] [])
noncomputable def r27_Same (a : List Entry) (b : List Entry) : Option (Bool) := ask (R1 vF) ((lim F pr).call 69 [.lit 81 false (List.map eEntry a), .lit 81 false (List.map eEntry b)] [])
noncomputable def r28_Same (a : List Finger) (b : List Finger) : Option (Bool) := ask (R1 vF) ((lim F pr).call 70 [.lit 84 false (List.map eFinger a), .lit 84 false (List.map eFinger b)] [])
noncomputable def r08_Pairs (a : List Pair) (b : List Pair) : Option (Bool) := ask (R1 vF) ((lim F pr).call 71 [.lit 78 false (List.map ePair a), .lit 78 false (List.map ePair b)] [])
noncomputable def r30_Pends (a : List Pend) (b : List Pend) : Option (Bool) := ask (R1 vF) ((lim F pr).call 72 [.lit 88 false (List.map ePend a), .lit 88 false (List.map ePend b)] [])
noncomputable def r30_jobs (a : Node) (b : Node) : Option (Bool) := ask (R1 vF) ((lim F pr).call 73 [eNode a, eNode b] [])
noncomputable def r08_Same (a : Msg) (b : Msg) : Option (Bool) := ask (R1 vF) ((lim F pr).call 74 [eMsg a, eMsg b] [])
noncomputable def peers_Firm (l : List Entry) : Option ((List Peer)) := ask (K1 25 ePeer) ((lim F pr).call 76 [.lit 81 false (List.map eEntry l)] [])
noncomputable def r29_Put (l : List Pair) (key : ByteArray) (val : ByteArray) : Option (((List Pair) × Int)) := ask (R2 (eL 78 ePair) vI) ((lim F pr).call 77 [.lit 78 false (List.map ePair l), vT key, vT val] [])
noncomputable def r27_Firm (l : List Entry) : Option ((List Peer)) := ask (K1 25 ePeer) ((lim F pr).call 78 [.lit 81 false (List.map eEntry l)] [])
noncomputable def pend_Ask (n : Node) (to_ : Peer) (m : Msg) (why : Int) (job : Int) : Option ((Node × (List Out))) := ask (R2 eNode (eL 56 eOut)) ((lim F pr).call 80 [eNode n, ePeer to_, eMsg m, vI why, vI job] [])
noncomputable def r30_Ask (n : Node) (to_ : Peer) (m : Msg) (why : Int) (job : Int) : Option ((Node × (List Out))) := ask (R2 eNode (eL 56 eOut)) ((lim F pr).call 82 [eNode n, ePeer to_, eMsg m, vI why, vI job] [])
noncomputable def utf_Valid (s : ByteArray) : Option (Bool) := ask (R1 vF) ((lim F pr).call 83 [vT s] [])
noncomputable def utf_Count (s : ByteArray) : Option (Int) := ask (R1 vI) ((lim F pr).call 84 [vT s] [])
noncomputable def r08_Key (s : ByteArray) : Option (Bool) := ask (R1 vF) ((lim F pr).call 25 [vT s] [])
noncomputable def peers_some (l : List Entry) : Option ((List Peer)) := ask (K1 25 ePeer) ((lim F pr).call 145 [.lit 81 false (List.map eEntry l), .fn 193 []] [])
noncomputable def store_place (l : List Pair) (key : ByteArray) : Option (Int) := ask (R1 vI) ((lim F pr).call 141 [.lit 78 false (List.map ePair l), vT key] [])
noncomputable def store_Put_1_e (b0 : ByteArray) : Bool → AV × Store
  | a0 => (vF a0, [.box 9 [vT b0]])
instance {b0} : Inj (store_Put_1_e b0) := ⟨fun x y h => by
  rcases x with a0 <;> rcases y with a0' <;> simp only [store_Put_1_e] at h <;> exact inj_⟩
noncomputable def store_Put_1 (p : Pair) (b0 : ByteArray) : Option (Bool) := ask (store_Put_1_e b0) ((lim F pr).call 143 [ePair p, .bptr 0 0] [.box 9 [vT b0]])
noncomputable def IndexFunc_Pair_1_e (b0 : ByteArray) : Int → AV × Store
  | a0 => (vI a0, [.box 9 [vT b0]])
instance {b0} : Inj (IndexFunc_Pair_1_e b0) := ⟨fun x y h => by
  rcases x with a0 <;> rcases y with a0' <;> simp only [IndexFunc_Pair_1_e] at h <;> exact inj_⟩
noncomputable def IndexFunc_Pair_1 (s : List Pair) (b0 : ByteArray) : Option (Int) := ask (IndexFunc_Pair_1_e b0) ((lim F pr).call 142 [.lit 78 false (List.map ePair s), .fn 143 [.bptr 0 0]] [.box 9 [vT b0]])
noncomputable def r29_place (l : List Pair) (key : ByteArray) : Option (Int) := ask (R1 vI) ((lim F pr).call 139 [.lit 78 false (List.map ePair l), vT key] [])
noncomputable def r08_Peers (a : List Peer) (b : List Peer) : Option (Bool) := ask (R1 vF) ((lim F pr).call 140 [.lit 25 false (List.map ePeer a), .lit 25 false (List.map ePeer b)] [])
noncomputable def peers_some_1 (l : List Entry) : Option ((List Peer)) := ask (K1 25 ePeer) ((lim F pr).call 145 [.lit 81 false (List.map eEntry l), .fn 146 []] [])
noncomputable def r11_Less (a : ByteArray) (b : ByteArray) : Option (Bool) := ask (R1 vF) ((lim F pr).call 147 [vT a, vT b] [])
noncomputable def msg_Copy (m : Msg) : Option (Msg) := ask (R1 eMsg) ((lim F pr).call 149 [eMsg m] [])
noncomputable def pend_Now (n : Node) : Option (Int) := ask (R1 vI) ((lim F pr).call 150 [eNode n] [])
noncomputable def r30_Now (n : Node) : Option (Int) := ask (R1 vI) ((lim F pr).call 151 [eNode n] [])
noncomputable def utf_stray (s : ByteArray) (at_ : Int) (c : Int) : Option (Bool) := ask (R1 vF) ((lim F pr).call 152 [vT s, vI at_, vR c] [])
noncomputable def r04_Valid (s : ByteArray) : Option (Bool) := ask (R1 vF) ((lim F pr).call 85 [vT s] [])
noncomputable def r04_Parts (s : ByteArray) : Option ((List ByteArray)) := ask (R1 (eL 9 vT)) ((lim F pr).call 86 [vT s] [])
noncomputable def peers_All_1 (x0 : Entry) : Option (Bool) := ask (R1 vF) ((lim F pr).call 193 [eEntry x0] [])
noncomputable def store_place_1_e (b0 : ByteArray) : Bool → AV × Store
  | a0 => (vF a0, [.box 9 [vT b0]])
instance {b0} : Inj (store_place_1_e b0) := ⟨fun x y h => by
  rcases x with a0 <;> rcases y with a0' <;> simp only [store_place_1_e] at h <;> exact inj_⟩
noncomputable def store_place_1 (p : Pair) (b0 : ByteArray) : Option (Bool) := ask (store_place_1_e b0) ((lim F pr).call 202 [ePair p, .bptr 0 0] [.box 9 [vT b0]])
noncomputable def IndexFunc_Pair_2_e (b0 : ByteArray) : Int → AV × Store
  | a0 => (vI a0, [.box 9 [vT b0]])
instance {b0} : Inj (IndexFunc_Pair_2_e b0) := ⟨fun x y h => by
  rcases x with a0 <;> rcases y with a0' <;> simp only [IndexFunc_Pair_2_e] at h <;> exact inj_⟩
noncomputable def IndexFunc_Pair_2 (s : List Pair) (b0 : ByteArray) : Option (Int) := ask (IndexFunc_Pair_2_e b0) ((lim F pr).call 142 [.lit 78 false (List.map ePair s), .fn 202 [.bptr 0 0]] [.box 9 [vT b0]])
noncomputable def peers_firm (x : Entry) : Option (Bool) := ask (R1 vF) ((lim F pr).call 146 [eEntry x] [])
noncomputable def r04_Width (s : ByteArray) (at_ : Int) : Option (Int) := ask (R1 vI) ((lim F pr).call 153 [vT s, vI at_] [])
noncomputable def r04_tail (c : Int) : Option (Bool) := ask (R1 vF) ((lim F pr).call 207 [vB c] [])
end Go.Ab.Tryz
namespace Go.Ab.Tryz
open Go Go.Ab Go.Proofs
set_option linter.unusedVariables false
set_option linter.unusedSimpArgs false
set_option maxRecDepth 10000
set_option maxHeartbeats 4000000
open Go.ChangeShapes Go.WideShapes
def Peer.Ok (x : Peer) : Prop := OkU x.id ∧ OkH x.addr
theorem rd25 {H : Type} {enc : TypeId × Value → H} {w : World} {base : Nat} {spare : Nat → Bool} {held : Bool} {fuel : Nat} {cs : List Value} {x : DataW H × List MemPlace} (h : DataW.trod enc Tryz.prog w base spare held fuel 25 cs = some x) : ∃ a, Rd Tryz.prog w ePeer Peer.Ok cs a := by
  obtain ⟨xs, n, rfl, rfl, hl, hxl, hf⟩ := DataW.trod_struct Tryz.underlying25 h
  have hc : cs.length = 2 := hl.trans (by kernel_rfl)
  have hx : xs.length = 2 := hxl
  match cs, hc with
  | [c0, c1], _ =>
    match xs, hx with
    | [x0, x1], _ =>
      have h0 : DataW.trod enc Tryz.prog w base spare held n 22 [c0] = some x0 := hf 0 _ rfl
      obtain ⟨a0, d0, o0, k0⟩ := rd_u64 Tryz.underlying22 h0
      have h1 : DataW.trod enc Tryz.prog w base spare held n 23 [c1] = some x1 := hf 1 _ rfl
      obtain ⟨a1, d1, o1, k1⟩ := rd_u16 Tryz.underlying23 h1
      refine ⟨⟨a0, a1⟩, (d0.append d1), fun c hc => ?_, k0, k1⟩
      have hc : c ∈ (vU a0).cells ++ ((vH a1).cells) := hc
      simp only [List.mem_append] at hc
      rcases hc with hc | hc
      · exact o0 c hc
      · exact o1 c hc
theorem arg25 {H : Type} {enc : TypeId × Value → H} {w : World} {base : Nat} {spare : Nat → Bool} {held : Bool} {r : Reach} {b0 : Nat} {v : Value} {d : DataW H} {ps : List MemPlace} (hval : Value.okWide Tryz.prog w r b0 25 v) (h : DataW.Trod enc Tryz.prog w base spare held 25 v d ps) : ∃ a, DL Tryz.prog w (fun _ => False) [ePeer a] [v] ∧ Peer.Ok a :=
  arg_struct (fun _ => ⟨_, rfl⟩) Tryz.underlying25 hval (let ⟨_, hf⟩ := h; rd25 hf)
def Entry.Ok (x : Entry) : Prop := Peer.Ok x.peer ∧ OkI x.misses
theorem rd81 {H : Type} {enc : TypeId × Value → H} {w : World} {base : Nat} {spare : Nat → Bool} {held : Bool} {fuel : Nat} {cs : List Value} {x : DataW H × List MemPlace} (h : DataW.trod enc Tryz.prog w base spare held fuel 81 cs = some x) : ∃ a, Rd Tryz.prog w eEntry Entry.Ok cs a := by
  obtain ⟨xs, n, rfl, rfl, hl, hxl, hf⟩ := DataW.trod_struct Tryz.underlying81 h
  have hc : cs.length = 3 := hl.trans (by kernel_rfl)
  have hx : xs.length = 2 := hxl
  match cs, hc with
  | [c0, c1, c2], _ =>
    match xs, hx with
    | [x0, x1], _ =>
      have h0 : DataW.trod enc Tryz.prog w base spare held n 25 [c0, c1] = some x0 := hf 0 _ rfl
      obtain ⟨a0, d0, o0, k0⟩ := rd25 h0
      have h1 : DataW.trod enc Tryz.prog w base spare held n 3 [c2] = some x1 := hf 1 _ rfl
      obtain ⟨a1, d1, o1, k1⟩ := rd_i64 Tryz.underlying3 h1
      refine ⟨⟨a0, a1⟩, (d0.append d1), fun c hc => ?_, k0, k1⟩
      have hc : c ∈ (ePeer a0).cells ++ ((vI a1).cells) := hc
      simp only [List.mem_append] at hc
      rcases hc with hc | hc
      · exact o0 c hc
      · exact o1 c hc
def Finger.Ok (x : Finger) : Prop := OkI x.bit ∧ Peer.Ok x.peer
theorem rd84 {H : Type} {enc : TypeId × Value → H} {w : World} {base : Nat} {spare : Nat → Bool} {held : Bool} {fuel : Nat} {cs : List Value} {x : DataW H × List MemPlace} (h : DataW.trod enc Tryz.prog w base spare held fuel 84 cs = some x) : ∃ a, Rd Tryz.prog w eFinger Finger.Ok cs a := by
  obtain ⟨xs, n, rfl, rfl, hl, hxl, hf⟩ := DataW.trod_struct Tryz.underlying84 h
  have hc : cs.length = 3 := hl.trans (by kernel_rfl)
  have hx : xs.length = 2 := hxl
  match cs, hc with
  | [c0, c1, c2], _ =>
    match xs, hx with
    | [x0, x1], _ =>
      have h0 : DataW.trod enc Tryz.prog w base spare held n 3 [c0] = some x0 := hf 0 _ rfl
      obtain ⟨a0, d0, o0, k0⟩ := rd_i64 Tryz.underlying3 h0
      have h1 : DataW.trod enc Tryz.prog w base spare held n 25 [c1, c2] = some x1 := hf 1 _ rfl
      obtain ⟨a1, d1, o1, k1⟩ := rd25 h1
      refine ⟨⟨a0, a1⟩, (d0.append d1), fun c hc => ?_, k0, k1⟩
      have hc : c ∈ (vI a0).cells ++ ((ePeer a1).cells) := hc
      simp only [List.mem_append] at hc
      rcases hc with hc | hc
      · exact o0 c hc
      · exact o1 c hc
def Pair.Ok (x : Pair) : Prop := OkT x.key ∧ OkT x.val
theorem rd78 {H : Type} {enc : TypeId × Value → H} {w : World} {base : Nat} {spare : Nat → Bool} {held : Bool} {fuel : Nat} {cs : List Value} {x : DataW H × List MemPlace} (h : DataW.trod enc Tryz.prog w base spare held fuel 78 cs = some x) : ∃ a, Rd Tryz.prog w ePair Pair.Ok cs a := by
  obtain ⟨xs, n, rfl, rfl, hl, hxl, hf⟩ := DataW.trod_struct Tryz.underlying78 h
  have hc : cs.length = 2 := hl.trans (by kernel_rfl)
  have hx : xs.length = 2 := hxl
  match cs, hc with
  | [c0, c1], _ =>
    match xs, hx with
    | [x0, x1], _ =>
      have h0 : DataW.trod enc Tryz.prog w base spare held n 9 [c0] = some x0 := hf 0 _ rfl
      obtain ⟨a0, d0, o0, k0⟩ := rd_string Tryz.underlying9 h0
      have h1 : DataW.trod enc Tryz.prog w base spare held n 9 [c1] = some x1 := hf 1 _ rfl
      obtain ⟨a1, d1, o1, k1⟩ := rd_string Tryz.underlying9 h1
      refine ⟨⟨a0, a1⟩, (d0.append d1), fun c hc => ?_, k0, k1⟩
      have hc : c ∈ (vT a0).cells ++ ((vT a1).cells) := hc
      simp only [List.mem_append] at hc
      rcases hc with hc | hc
      · exact o0 c hc
      · exact o1 c hc
def Pend.Ok (x : Pend) : Prop := OkW x.rid ∧ OkI x.kind ∧ OkI x.why ∧ OkI x.job ∧ Peer.Ok x.to_ ∧ OkI x.due
theorem rd88 {H : Type} {enc : TypeId × Value → H} {w : World} {base : Nat} {spare : Nat → Bool} {held : Bool} {fuel : Nat} {cs : List Value} {x : DataW H × List MemPlace} (h : DataW.trod enc Tryz.prog w base spare held fuel 88 cs = some x) : ∃ a, Rd Tryz.prog w ePend Pend.Ok cs a := by
  obtain ⟨xs, n, rfl, rfl, hl, hxl, hf⟩ := DataW.trod_struct Tryz.underlying88 h
  have hc : cs.length = 7 := hl.trans (by kernel_rfl)
  have hx : xs.length = 6 := hxl
  match cs, hc with
  | [c0, c1, c2, c3, c4, c5, c6], _ =>
    match xs, hx with
    | [x0, x1, x2, x3, x4, x5], _ =>
      have h0 : DataW.trod enc Tryz.prog w base spare held n 32 [c0] = some x0 := hf 0 _ rfl
      obtain ⟨a0, d0, o0, k0⟩ := rd_u32 Tryz.underlying32 h0
      have h1 : DataW.trod enc Tryz.prog w base spare held n 3 [c1] = some x1 := hf 1 _ rfl
      obtain ⟨a1, d1, o1, k1⟩ := rd_i64 Tryz.underlying3 h1
      have h2 : DataW.trod enc Tryz.prog w base spare held n 3 [c2] = some x2 := hf 2 _ rfl
      obtain ⟨a2, d2, o2, k2⟩ := rd_i64 Tryz.underlying3 h2
      have h3 : DataW.trod enc Tryz.prog w base spare held n 3 [c3] = some x3 := hf 3 _ rfl
      obtain ⟨a3, d3, o3, k3⟩ := rd_i64 Tryz.underlying3 h3
      have h4 : DataW.trod enc Tryz.prog w base spare held n 25 [c4, c5] = some x4 := hf 4 _ rfl
      obtain ⟨a4, d4, o4, k4⟩ := rd25 h4
      have h5 : DataW.trod enc Tryz.prog w base spare held n 3 [c6] = some x5 := hf 5 _ rfl
      obtain ⟨a5, d5, o5, k5⟩ := rd_i64 Tryz.underlying3 h5
      refine ⟨⟨a0, a1, a2, a3, a4, a5⟩, (d0.append (d1.append (d2.append (d3.append (d4.append d5))))), fun c hc => ?_, k0, k1, k2, k3, k4, k5⟩
      have hc : c ∈ (vW a0).cells ++ ((vI a1).cells ++ ((vI a2).cells ++ ((vI a3).cells ++ ((ePeer a4).cells ++ ((vI a5).cells))))) := hc
      simp only [List.mem_append] at hc
      rcases hc with hc | hc | hc | hc | hc | hc
      · exact o0 c hc
      · exact o1 c hc
      · exact o2 c hc
      · exact o3 c hc
      · exact o4 c hc
      · exact o5 c hc
def Job.Ok (x : Job) : Prop := OkI x.id ∧ OkI x.kind ∧ OkI x.bit ∧ OkT x.key ∧ OkT x.val ∧ OkU x.target ∧ Peer.Ok x.via ∧ Peer.Ok x.at_ ∧ OkF x.doing ∧ OkI x.hops ∧ OkI x.tries ∧ OkI x.due
theorem rd67 {H : Type} {enc : TypeId × Value → H} {w : World} {base : Nat} {spare : Nat → Bool} {held : Bool} {fuel : Nat} {cs : List Value} {x : DataW H × List MemPlace} (h : DataW.trod enc Tryz.prog w base spare held fuel 67 cs = some x) : ∃ a, Rd Tryz.prog w eJob Job.Ok cs a := by
  obtain ⟨xs, n, rfl, rfl, hl, hxl, hf⟩ := DataW.trod_struct Tryz.underlying67 h
  have hc : cs.length = 14 := hl.trans (by kernel_rfl)
  have hx : xs.length = 12 := hxl
  match cs, hc with
  | [c0, c1, c2, c3, c4, c5, c6, c7, c8, c9, c10, c11, c12, c13], _ =>
    match xs, hx with
    | [x0, x1, x2, x3, x4, x5, x6, x7, x8, x9, x10, x11], _ =>
      have h0 : DataW.trod enc Tryz.prog w base spare held n 3 [c0] = some x0 := hf 0 _ rfl
      obtain ⟨a0, d0, o0, k0⟩ := rd_i64 Tryz.underlying3 h0
      have h1 : DataW.trod enc Tryz.prog w base spare held n 3 [c1] = some x1 := hf 1 _ rfl
      obtain ⟨a1, d1, o1, k1⟩ := rd_i64 Tryz.underlying3 h1
      have h2 : DataW.trod enc Tryz.prog w base spare held n 3 [c2] = some x2 := hf 2 _ rfl
      obtain ⟨a2, d2, o2, k2⟩ := rd_i64 Tryz.underlying3 h2
      have h3 : DataW.trod enc Tryz.prog w base spare held n 9 [c3] = some x3 := hf 3 _ rfl
      obtain ⟨a3, d3, o3, k3⟩ := rd_string Tryz.underlying9 h3
      have h4 : DataW.trod enc Tryz.prog w base spare held n 9 [c4] = some x4 := hf 4 _ rfl
      obtain ⟨a4, d4, o4, k4⟩ := rd_string Tryz.underlying9 h4
      have h5 : DataW.trod enc Tryz.prog w base spare held n 22 [c5] = some x5 := hf 5 _ rfl
      obtain ⟨a5, d5, o5, k5⟩ := rd_u64 Tryz.underlying22 h5
      have h6 : DataW.trod enc Tryz.prog w base spare held n 25 [c6, c7] = some x6 := hf 6 _ rfl
      obtain ⟨a6, d6, o6, k6⟩ := rd25 h6
      have h7 : DataW.trod enc Tryz.prog w base spare held n 25 [c8, c9] = some x7 := hf 7 _ rfl
      obtain ⟨a7, d7, o7, k7⟩ := rd25 h7
      have h8 : DataW.trod enc Tryz.prog w base spare held n 4 [c10] = some x8 := hf 8 _ rfl
      obtain ⟨a8, d8, o8, k8⟩ := rd_bool Tryz.underlying4 h8
      have h9 : DataW.trod enc Tryz.prog w base spare held n 3 [c11] = some x9 := hf 9 _ rfl
      obtain ⟨a9, d9, o9, k9⟩ := rd_i64 Tryz.underlying3 h9
      have h10 : DataW.trod enc Tryz.prog w base spare held n 3 [c12] = some x10 := hf 10 _ rfl
      obtain ⟨a10, d10, o10, k10⟩ := rd_i64 Tryz.underlying3 h10
      have h11 : DataW.trod enc Tryz.prog w base spare held n 3 [c13] = some x11 := hf 11 _ rfl
      obtain ⟨a11, d11, o11, k11⟩ := rd_i64 Tryz.underlying3 h11
      refine ⟨⟨a0, a1, a2, a3, a4, a5, a6, a7, a8, a9, a10, a11⟩, (d0.append (d1.append (d2.append (d3.append (d4.append (d5.append (d6.append (d7.append (d8.append (d9.append (d10.append d11))))))))))), fun c hc => ?_, k0, k1, k2, k3, k4, k5, k6, k7, k8, k9, k10, k11⟩
      have hc : c ∈ (vI a0).cells ++ ((vI a1).cells ++ ((vI a2).cells ++ ((vT a3).cells ++ ((vT a4).cells ++ ((vU a5).cells ++ ((ePeer a6).cells ++ ((ePeer a7).cells ++ ((vF a8).cells ++ ((vI a9).cells ++ ((vI a10).cells ++ ((vI a11).cells))))))))))) := hc
      simp only [List.mem_append] at hc
      rcases hc with hc | hc | hc | hc | hc | hc | hc | hc | hc | hc | hc | hc
      · exact o0 c hc
      · exact o1 c hc
      · exact o2 c hc
      · exact o3 c hc
      · exact o4 c hc
      · exact o5 c hc
      · exact o6 c hc
      · exact o7 c hc
      · exact o8 c hc
      · exact o9 c hc
      · exact o10 c hc
      · exact o11 c hc
def Result.Ok (x : Result) : Prop := OkI x.job ∧ OkI x.kind ∧ OkT x.key ∧ OkT x.val ∧ OkF x.has ∧ OkI x.err
theorem rd60 {H : Type} {enc : TypeId × Value → H} {w : World} {base : Nat} {spare : Nat → Bool} {held : Bool} {fuel : Nat} {cs : List Value} {x : DataW H × List MemPlace} (h : DataW.trod enc Tryz.prog w base spare held fuel 60 cs = some x) : ∃ a, Rd Tryz.prog w eResult Result.Ok cs a := by
  obtain ⟨xs, n, rfl, rfl, hl, hxl, hf⟩ := DataW.trod_struct Tryz.underlying60 h
  have hc : cs.length = 6 := hl.trans (by kernel_rfl)
  have hx : xs.length = 6 := hxl
  match cs, hc with
  | [c0, c1, c2, c3, c4, c5], _ =>
    match xs, hx with
    | [x0, x1, x2, x3, x4, x5], _ =>
      have h0 : DataW.trod enc Tryz.prog w base spare held n 3 [c0] = some x0 := hf 0 _ rfl
      obtain ⟨a0, d0, o0, k0⟩ := rd_i64 Tryz.underlying3 h0
      have h1 : DataW.trod enc Tryz.prog w base spare held n 3 [c1] = some x1 := hf 1 _ rfl
      obtain ⟨a1, d1, o1, k1⟩ := rd_i64 Tryz.underlying3 h1
      have h2 : DataW.trod enc Tryz.prog w base spare held n 9 [c2] = some x2 := hf 2 _ rfl
      obtain ⟨a2, d2, o2, k2⟩ := rd_string Tryz.underlying9 h2
      have h3 : DataW.trod enc Tryz.prog w base spare held n 9 [c3] = some x3 := hf 3 _ rfl
      obtain ⟨a3, d3, o3, k3⟩ := rd_string Tryz.underlying9 h3
      have h4 : DataW.trod enc Tryz.prog w base spare held n 4 [c4] = some x4 := hf 4 _ rfl
      obtain ⟨a4, d4, o4, k4⟩ := rd_bool Tryz.underlying4 h4
      have h5 : DataW.trod enc Tryz.prog w base spare held n 49 [c5] = some x5 := hf 5 _ rfl
      obtain ⟨a5, d5, o5, k5⟩ := rd_i64 Tryz.underlying49 h5
      refine ⟨⟨a0, a1, a2, a3, a4, a5⟩, (d0.append (d1.append (d2.append (d3.append (d4.append d5))))), fun c hc => ?_, k0, k1, k2, k3, k4, k5⟩
      have hc : c ∈ (vI a0).cells ++ ((vI a1).cells ++ ((vT a2).cells ++ ((vT a3).cells ++ ((vF a4).cells ++ ((vI a5).cells))))) := hc
      simp only [List.mem_append] at hc
      rcases hc with hc | hc | hc | hc | hc | hc
      · exact o0 c hc
      · exact o1 c hc
      · exact o2 c hc
      · exact o3 c hc
      · exact o4 c hc
      · exact o5 c hc
theorem rd26 {H : Type} {enc : TypeId × Value → H} {w : World} {base : Nat} {spare : Nat → Bool} {held : Bool} {fuel : Nat} {cs : List Value} {x : DataW H × List MemPlace} (h : DataW.trod enc Tryz.prog w base spare held fuel 26 cs = some x) : ∃ l, Rd Tryz.prog w (eL 81 eEntry) (OkL Entry.Ok) cs l :=
  rd_list (size := 3) Tryz.underlying26 (by kernel_rfl) (by omega) (fun a => rfl) h (fun n cs' y _ hy => rd81 hy)
theorem rd27 {H : Type} {enc : TypeId × Value → H} {w : World} {base : Nat} {spare : Nat → Bool} {held : Bool} {fuel : Nat} {cs : List Value} {x : DataW H × List MemPlace} (h : DataW.trod enc Tryz.prog w base spare held fuel 27 cs = some x) : ∃ l, Rd Tryz.prog w (eL 84 eFinger) (OkL Finger.Ok) cs l :=
  rd_list (size := 3) Tryz.underlying27 (by kernel_rfl) (by omega) (fun a => rfl) h (fun n cs' y _ hy => rd84 hy)
theorem rd28 {H : Type} {enc : TypeId × Value → H} {w : World} {base : Nat} {spare : Nat → Bool} {held : Bool} {fuel : Nat} {cs : List Value} {x : DataW H × List MemPlace} (h : DataW.trod enc Tryz.prog w base spare held fuel 28 cs = some x) : ∃ l, Rd Tryz.prog w (eL 78 ePair) (OkL Pair.Ok) cs l :=
  rd_list (size := 2) Tryz.underlying28 (by kernel_rfl) (by omega) (fun a => rfl) h (fun n cs' y _ hy => rd78 hy)
theorem arg28 {H : Type} {enc : TypeId × Value → H} {w : World} {base : Nat} {spare : Nat → Bool} {held : Bool} {r : Reach} {b0 : Nat} {v : Value} {d : DataW H} {ps : List MemPlace} (hval : Value.okWide Tryz.prog w r b0 28 v) (h : DataW.Trod enc Tryz.prog w base spare held 28 v d ps) : ∃ l, DL Tryz.prog w (fun _ => False) [.lit 78 false (List.map ePair l)] [v] ∧ (OkL Pair.Ok) l :=
  arg_list Tryz.underlying28 hval (let ⟨_, hf⟩ := h; rd28 hf)
theorem rd29 {H : Type} {enc : TypeId × Value → H} {w : World} {base : Nat} {spare : Nat → Bool} {held : Bool} {fuel : Nat} {cs : List Value} {x : DataW H × List MemPlace} (h : DataW.trod enc Tryz.prog w base spare held fuel 29 cs = some x) : ∃ l, Rd Tryz.prog w (eL 88 ePend) (OkL Pend.Ok) cs l :=
  rd_list (size := 7) Tryz.underlying29 (by kernel_rfl) (by omega) (fun a => rfl) h (fun n cs' y _ hy => rd88 hy)
theorem rd30 {H : Type} {enc : TypeId × Value → H} {w : World} {base : Nat} {spare : Nat → Bool} {held : Bool} {fuel : Nat} {cs : List Value} {x : DataW H × List MemPlace} (h : DataW.trod enc Tryz.prog w base spare held fuel 30 cs = some x) : ∃ l, Rd Tryz.prog w (eL 67 eJob) (OkL Job.Ok) cs l :=
  rd_list (size := 14) Tryz.underlying30 (by kernel_rfl) (by omega) (fun a => rfl) h (fun n cs' y _ hy => rd67 hy)
theorem rd31 {H : Type} {enc : TypeId × Value → H} {w : World} {base : Nat} {spare : Nat → Bool} {held : Bool} {fuel : Nat} {cs : List Value} {x : DataW H × List MemPlace} (h : DataW.trod enc Tryz.prog w base spare held fuel 31 cs = some x) : ∃ l, Rd Tryz.prog w (eL 60 eResult) (OkL Result.Ok) cs l :=
  rd_list (size := 6) Tryz.underlying31 (by kernel_rfl) (by omega) (fun a => rfl) h (fun n cs' y _ hy => rd60 hy)
def Node.Ok (x : Node) : Prop := Peer.Ok x.me ∧ OkI x.clock ∧ OkF x.joined ∧ (OkL Entry.Ok) x.pred ∧ (OkL Entry.Ok) x.list ∧ (OkL Finger.Ok) x.fingers ∧ (OkL Pair.Ok) x.store ∧ (OkL Pend.Ok) x.pends ∧ (OkL Job.Ok) x.jobs ∧ (OkL Result.Ok) x.results ∧ OkW x.rid ∧ OkI x.jobID ∧ OkI x.nextBit
theorem rd34 {H : Type} {enc : TypeId × Value → H} {w : World} {base : Nat} {spare : Nat → Bool} {held : Bool} {fuel : Nat} {cs : List Value} {x : DataW H × List MemPlace} (h : DataW.trod enc Tryz.prog w base spare held fuel 34 cs = some x) : ∃ a, Rd Tryz.prog w eNode Node.Ok cs a := by
  obtain ⟨xs, n, rfl, rfl, hl, hxl, hf⟩ := DataW.trod_struct Tryz.underlying34 h
  have hc : cs.length = 14 := hl.trans (by kernel_rfl)
  have hx : xs.length = 13 := hxl
  match cs, hc with
  | [c0, c1, c2, c3, c4, c5, c6, c7, c8, c9, c10, c11, c12, c13], _ =>
    match xs, hx with
    | [x0, x1, x2, x3, x4, x5, x6, x7, x8, x9, x10, x11, x12], _ =>
      have h0 : DataW.trod enc Tryz.prog w base spare held n 25 [c0, c1] = some x0 := hf 0 _ rfl
      obtain ⟨a0, d0, o0, k0⟩ := rd25 h0
      have h1 : DataW.trod enc Tryz.prog w base spare held n 3 [c2] = some x1 := hf 1 _ rfl
      obtain ⟨a1, d1, o1, k1⟩ := rd_i64 Tryz.underlying3 h1
      have h2 : DataW.trod enc Tryz.prog w base spare held n 4 [c3] = some x2 := hf 2 _ rfl
      obtain ⟨a2, d2, o2, k2⟩ := rd_bool Tryz.underlying4 h2
      have h3 : DataW.trod enc Tryz.prog w base spare held n 26 [c4] = some x3 := hf 3 _ rfl
      obtain ⟨a3, d3, o3, k3⟩ := rd26 h3
      have h4 : DataW.trod enc Tryz.prog w base spare held n 26 [c5] = some x4 := hf 4 _ rfl
      obtain ⟨a4, d4, o4, k4⟩ := rd26 h4
      have h5 : DataW.trod enc Tryz.prog w base spare held n 27 [c6] = some x5 := hf 5 _ rfl
      obtain ⟨a5, d5, o5, k5⟩ := rd27 h5
      have h6 : DataW.trod enc Tryz.prog w base spare held n 28 [c7] = some x6 := hf 6 _ rfl
      obtain ⟨a6, d6, o6, k6⟩ := rd28 h6
      have h7 : DataW.trod enc Tryz.prog w base spare held n 29 [c8] = some x7 := hf 7 _ rfl
      obtain ⟨a7, d7, o7, k7⟩ := rd29 h7
      have h8 : DataW.trod enc Tryz.prog w base spare held n 30 [c9] = some x8 := hf 8 _ rfl
      obtain ⟨a8, d8, o8, k8⟩ := rd30 h8
      have h9 : DataW.trod enc Tryz.prog w base spare held n 31 [c10] = some x9 := hf 9 _ rfl
      obtain ⟨a9, d9, o9, k9⟩ := rd31 h9
      have h10 : DataW.trod enc Tryz.prog w base spare held n 32 [c11] = some x10 := hf 10 _ rfl
      obtain ⟨a10, d10, o10, k10⟩ := rd_u32 Tryz.underlying32 h10
      have h11 : DataW.trod enc Tryz.prog w base spare held n 3 [c12] = some x11 := hf 11 _ rfl
      obtain ⟨a11, d11, o11, k11⟩ := rd_i64 Tryz.underlying3 h11
      have h12 : DataW.trod enc Tryz.prog w base spare held n 3 [c13] = some x12 := hf 12 _ rfl
      obtain ⟨a12, d12, o12, k12⟩ := rd_i64 Tryz.underlying3 h12
      refine ⟨⟨a0, a1, a2, a3, a4, a5, a6, a7, a8, a9, a10, a11, a12⟩, (d0.append (d1.append (d2.append (d3.append (d4.append (d5.append (d6.append (d7.append (d8.append (d9.append (d10.append (d11.append d12)))))))))))), fun c hc => ?_, k0, k1, k2, k3, k4, k5, k6, k7, k8, k9, k10, k11, k12⟩
      have hc : c ∈ (ePeer a0).cells ++ ((vI a1).cells ++ ((vF a2).cells ++ (((eL 81 eEntry) a3).cells ++ (((eL 81 eEntry) a4).cells ++ (((eL 84 eFinger) a5).cells ++ (((eL 78 ePair) a6).cells ++ (((eL 88 ePend) a7).cells ++ (((eL 67 eJob) a8).cells ++ (((eL 60 eResult) a9).cells ++ ((vW a10).cells ++ ((vI a11).cells ++ ((vI a12).cells)))))))))))) := hc
      simp only [List.mem_append] at hc
      rcases hc with hc | hc | hc | hc | hc | hc | hc | hc | hc | hc | hc | hc | hc
      · exact o0 c hc
      · exact o1 c hc
      · exact o2 c hc
      · exact o3 c hc
      · exact o4 c hc
      · exact o5 c hc
      · exact o6 c hc
      · exact o7 c hc
      · exact o8 c hc
      · exact o9 c hc
      · exact o10 c hc
      · exact o11 c hc
      · exact o12 c hc
theorem arg34 {H : Type} {enc : TypeId × Value → H} {w : World} {base : Nat} {spare : Nat → Bool} {held : Bool} {r : Reach} {b0 : Nat} {v : Value} {d : DataW H} {ps : List MemPlace} (hval : Value.okWide Tryz.prog w r b0 34 v) (h : DataW.Trod enc Tryz.prog w base spare held 34 v d ps) : ∃ a, DL Tryz.prog w (fun _ => False) [eNode a] [v] ∧ Node.Ok a :=
  arg_struct (fun _ => ⟨_, rfl⟩) Tryz.underlying34 hval (let ⟨_, hf⟩ := h; rd34 hf)
def Msg.Ok (x : Msg) : Prop := OkI x.kind ∧ OkW x.rid ∧ OkB x.code ∧ OkF x.has ∧ OkU x.id ∧ OkT x.key ∧ OkT x.val ∧ Peer.Ok x.peer ∧ (OkL Peer.Ok) x.peers ∧ (OkL Pair.Ok) x.pairs
end Go.Ab.Tryz
namespace Go.Ab.Tryz
open Go Go.Ab Go.Proofs Go.Lib Go.Shelf
def laidL : List (String × DataW Unit) := [("unicode/utf8.acceptRanges", Go.Proofs.YtjmmobicnfojeaaGreatDoor.Rows.laid_unicode_utf8_acceptRanges), ("unicode/utf8.first", Go.Proofs.YtjmmobicnfojeaaGreatDoor.Rows.laid_unicode_utf8_first)]
theorem acc_eq : (Go.Proofs.YtjmmobicnfojeaaGreatDoor.Rows.laid_unicode_utf8_acceptRanges : DataW Unit) = acceptData := by kernel_rfl
theorem fst_eq : Go.Proofs.YtjmmobicnfojeaaGreatDoor.Rows.laid_unicode_utf8_first = firstData := Pinned.utf8First_eq
theorem u8t : U8Types Tryz.prog Tryz.dec206_ren := { Tryz.dec206 with }
theorem u8x : U8Extra Tryz.prog Tryz.dec206_ren := ⟨by kernel_rfl, by kernel_rfl, by kernel_rfl, by kernel_rfl, by kernel_rfl, by kernel_rfl, by kernel_rfl⟩
theorem tabs_of {W : World} (h : laidMetH Tryz.prog laidL W) : tabs ⟨W.heap.size, W⟩ := by
  rw [MakeChecks.laidMetH_plain _ _ _ (by kernel_rfl)] at h
  have T := utf8Tabs_of_readsT u8t u8x (fst_eq ▸ Lib.laidMet.reads h (.tail _ (.head _))) (acc_eq ▸ Lib.laidMet.reads h (.head _))
  exact ⟨World.block_lt_of_cell? _ _ (T.1 0 (by omega)), World.block_lt_of_cell? _ _ (T.2 0 (by omega)).1, T⟩
end Go.Ab.Tryz
