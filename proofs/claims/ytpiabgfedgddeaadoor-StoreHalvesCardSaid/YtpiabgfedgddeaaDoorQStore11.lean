/- Our texts for this statement, merged: what its theorem leads to. -/
import Derived.KernelRfl
import Derived.Test.YtpiabgfedgddeaaDoorProg
import Derived.Test.YtpiabgfedgddeaaDoorQStore10
namespace Go.Ab.Tryd
open Go Go.Proofs
def b3_0F : Cd := (.seq (.region [⟨some 29, .bsl 41 2 (.a [.s, .s]) [], none, 0⟩,
    ⟨some 30, .mov (.t 0), none, 0⟩,
    ⟨some 31, .app 41 32 (.t 29) (.t 30), none, 0⟩,
    ⟨some 7, .mov (.t 31), none, 0⟩]) (.seq (.region [⟨some 33, .mov (.t 7), none, 0⟩,
    ⟨some 34, .mov (.t 1), none, 0⟩,
    ⟨some 35, .mov (.t 2), none, 0⟩,
    ⟨some 36, .call 12 [.l 41, .s, .s] [.t 33, .t 34, .t 35], none, 0⟩,
    ⟨some 32, .mov (.t 36), none, 0⟩,
    ⟨some 37, .ext (.t 32) 0, none, 0⟩,
    ⟨some 38, .ext (.t 32) 1, none, 0⟩,
    ⟨some 8, .mov (.t 37), none, 0⟩,
    ⟨some 9, .mov (.t 38), none, 0⟩]) (.seq (.region [⟨some 40, .mov (.t 0), none, 0⟩,
    ⟨some 41, .mov (.t 1), none, 0⟩,
    ⟨some 42, .mov (.t 2), none, 0⟩,
    ⟨some 43, .call 13 [.l 41, .s, .s] [.t 40, .t 41, .t 42], none, 0⟩,
    ⟨some 39, .mov (.t 43), none, 0⟩,
    ⟨some 44, .ext (.t 39) 0, none, 0⟩,
    ⟨some 45, .ext (.t 39) 1, none, 0⟩,
    ⟨some 10, .mov (.t 44), none, 0⟩,
    ⟨some 11, .mov (.t 45), none, 0⟩]) (.seq (.region [⟨some 47, .mov (.t 0), none, 0⟩,
    ⟨some 48, .mov (.t 1), none, 0⟩,
    ⟨some 49, .call 14 [.l 41, .s] [.t 47, .t 48], none, 0⟩,
    ⟨some 46, .mov (.t 49), none, 0⟩,
    ⟨some 50, .ext (.t 46) 0, none, 0⟩,
    ⟨some 51, .ext (.t 46) 1, none, 0⟩,
    ⟨some 12, .mov (.t 50), none, 0⟩,
    ⟨some 13, .mov (.t 51), none, 0⟩]) (.seq (.region [⟨some 53, .mov (.t 0), none, 0⟩,
    ⟨some 54, .mov (.t 1), none, 0⟩,
    ⟨some 55, .call 15 [.l 41, .s] [.t 53, .t 54], none, 0⟩,
    ⟨some 52, .mov (.t 55), none, 0⟩,
    ⟨some 56, .ext (.t 52) 0, none, 0⟩,
    ⟨some 57, .ext (.t 52) 1, none, 0⟩,
    ⟨some 14, .mov (.t 56), none, 0⟩,
    ⟨some 15, .mov (.t 57), none, 0⟩]) (.seq (.region [⟨some 58, .mov (.t 8), none, 0⟩,
    ⟨some 59, .mov (.t 10), none, 0⟩,
    ⟨some 60, .call 16 [.l 41, .l 41] [.t 58, .t 59], none, 0⟩,
    ⟨some 61, .mov (.t 60), none, 0⟩,
    ⟨some 62, .mov (.t 9), some (61, true), 0⟩,
    ⟨some 63, .mov (.t 11), some (61, true), 0⟩,
    ⟨some 64, .bin .eql .num (.t 62) (.t 63), some (61, true), 0⟩,
    ⟨some 65, .pick (.t 61) (.t 64) (.c (.sc (.bool false))), none, 0⟩,
    ⟨some 66, .mov (.t 65), none, 0⟩,
    ⟨some 67, .mov (.t 12), some (66, true), 0⟩,
    ⟨some 68, .mov (.t 14), some (66, true), 0⟩,
    ⟨some 69, .bin .eql .str (.t 67) (.t 68), some (66, true), 0⟩,
    ⟨some 70, .pick (.t 66) (.t 69) (.c (.sc (.bool false))), none, 0⟩,
    ⟨some 71, .mov (.t 70), none, 0⟩,
    ⟨some 72, .mov (.t 13), some (71, true), 0⟩,
    ⟨some 73, .mov (.t 15), some (71, true), 0⟩,
    ⟨some 74, .bin .eql .bool (.t 72) (.t 73), some (71, true), 0⟩,
    ⟨some 75, .pick (.t 71) (.t 74) (.c (.sc (.bool false))), none, 0⟩,
    ⟨some 76, .mov (.t 75), none, 0⟩,
    ⟨some 77, .mov (.t 0), some (76, true), 0⟩,
    ⟨some 78, .call 17 [.l 41] [.t 77], some (76, true), 0⟩,
    ⟨some 79, .mov (.t 0), some (76, true), 0⟩,
    ⟨some 80, .call 18 [.l 41] [.t 79], some (76, true), 0⟩,
    ⟨some 81, .bin .eql .bool (.t 78) (.t 80), some (76, true), 0⟩,
    ⟨some 82, .pick (.t 76) (.t 81) (.c (.sc (.bool false))), none, 0⟩,
    ⟨some 83, .mov (.t 82), none, 0⟩,
    ⟨some 84, .mov (.t 7), some (83, true), 0⟩,
    ⟨some 85, .mov (.t 0), some (83, true), 0⟩,
    ⟨some 86, .call 16 [.l 41, .l 41] [.t 84, .t 85], some (83, true), 0⟩,
    ⟨some 87, .pick (.t 83) (.t 86) (.c (.sc (.bool false))), none, 0⟩,
    ⟨some 88, .mov (.t 87), none, 0⟩,
    ⟨some 89, .call 11 [] [], some (88, true), 0⟩,
    ⟨some 90, .pick (.t 88) (.t 89) (.c (.sc (.bool false))), none, 0⟩,
    ⟨some 6, .mov (.t 90), none, 0⟩]) (.ret [6])))))))
def b3_0 : Cd := b3_0F
def g3F (c0 : Cd) : Fn := ⟨91, [.t 6], [.s], .lit,
  (.seq (.region [⟨some 6, .mov (.c (.sc (.bool false))), none, 0⟩]) (.seq (.seq (.region [⟨some 16, .mov (.t 0), none, 0⟩,
    ⟨some 17, .call 10 [.l 41] [.t 16], none, 0⟩,
    ⟨some 18, .mov (.t 17), none, 0⟩,
    ⟨some 19, .mov (.t 1), some (18, false), 0⟩,
    ⟨some 20, .len true (.t 19), some (18, false), 0⟩,
    ⟨some 21, .bin .gtr .num (.t 20) (.c (.sc (.int .i64 300))), some (18, false), 0⟩,
    ⟨some 22, .pick (.t 18) (.c (.sc (.bool true))) (.t 21), none, 0⟩,
    ⟨some 23, .mov (.t 22), none, 0⟩,
    ⟨some 24, .mov (.t 2), some (23, false), 0⟩,
    ⟨some 25, .len true (.t 24), some (23, false), 0⟩,
    ⟨some 26, .bin .gtr .num (.t 25) (.c (.sc (.int .i64 700))), some (23, false), 0⟩,
    ⟨some 27, .pick (.t 23) (.c (.sc (.bool true))) (.t 26), none, 0⟩]) (.cond (.t 27) (.seq (.region [⟨some 28, .call 11 [] [], none, 0⟩,
    ⟨some 6, .mov (.t 28), none, 0⟩]) (.ret [6])) .skip)) (.seg [2, 1, 0] [6] c0)))⟩
def g3 : Fn := g3F b3_0
theorem cmp3 : cmpFn Tryd.prog .lit [1000016] 3 = some g3 := by kernel_rfl
def b4_0F : Cd := (.seq (.seq (.region [⟨some 44, .mov (.t 15), none, 0⟩,
    ⟨some 45, .mov (.t 13), none, 0⟩,
    ⟨some 46, .len false (.t 45), none, 0⟩,
    ⟨some 47, .bin .lss .num (.t 44) (.t 46), none, 0⟩]) (.cond (.t 47) .skip (.exit 0 [9, 11, 10, 12, 0, 2, 3]))) (.seq (.block 1 (.seq (.region [⟨some 50, .mov (.t 13), none, 0⟩,
    ⟨some 51, .mov (.t 15), none, 0⟩,
    ⟨some 52, .iadS 22 (.t 50) (.t 51), none, 0⟩,
    ⟨some 53, .load false 1 (.t 52), none, 0⟩,
    ⟨some 54, .mov (.t 14), none, 0⟩,
    ⟨some 55, .mov (.t 15), none, 0⟩,
    ⟨some 56, .iadS 22 (.t 54) (.t 55), none, 0⟩,
    ⟨some 57, .load false 1 (.t 56), none, 0⟩,
    ⟨some 58, .call 16 [.l 41, .l 41] [.t 53, .t 57], none, 0⟩,
    ⟨some 59, .un .not (.t 58), none, 0⟩]) (.cond (.t 59) (.seq (.region [⟨some 8, .mov (.c (.sc (.bool false))), none, 0⟩]) (.ret [8])) .skip))) (.region [⟨some 48, .mov (.t 15), none, 0⟩,
    ⟨some 49, .bin .add .num (.t 48) (.c (.sc (.int .i64 1))), none, 0⟩,
    ⟨some 15, .mov (.t 49), none, 0⟩])))
def b4_0 : Cd := b4_0F
def b4_1F (c0 : Cd) : Cd := (.seq (.region [⟨some 24, .mov (.t 0), none, 0⟩,
    ⟨some 25, .mov (.t 1), none, 0⟩,
    ⟨some 26, .call 19 [.l 41, .l 41] [.t 24, .t 25], none, 0⟩,
    ⟨some 23, .mov (.t 26), none, 0⟩,
    ⟨some 27, .ext (.t 23) 0, none, 0⟩,
    ⟨some 28, .ext (.t 23) 1, none, 0⟩,
    ⟨some 9, .mov (.t 27), none, 0⟩,
    ⟨some 10, .mov (.t 28), none, 0⟩]) (.seq (.region [⟨some 30, .mov (.t 0), none, 0⟩,
    ⟨some 31, .mov (.t 1), none, 0⟩,
    ⟨some 32, .call 20 [.l 41, .l 41] [.t 30, .t 31], none, 0⟩,
    ⟨some 29, .mov (.t 32), none, 0⟩,
    ⟨some 33, .ext (.t 29) 0, none, 0⟩,
    ⟨some 34, .ext (.t 29) 1, none, 0⟩,
    ⟨some 11, .mov (.t 33), none, 0⟩,
    ⟨some 12, .mov (.t 34), none, 0⟩]) (.seq (.region [⟨some 35, .mov (.t 0), none, 0⟩,
    ⟨some 36, .call 21 [.l 41] [.t 35], none, 0⟩,
    ⟨some 37, .mov (.t 0), none, 0⟩,
    ⟨some 38, .call 22 [.l 41] [.t 37], none, 0⟩,
    ⟨some 13, .mov (.t 36), none, 0⟩,
    ⟨some 14, .mov (.t 38), none, 0⟩]) (.seq (.seq (.region [⟨some 39, .mov (.t 13), none, 0⟩,
    ⟨some 40, .len false (.t 39), none, 0⟩,
    ⟨some 41, .mov (.t 14), none, 0⟩,
    ⟨some 42, .len false (.t 41), none, 0⟩,
    ⟨some 43, .bin .neq .num (.t 40) (.t 42), none, 0⟩]) (.cond (.t 43) (.seq (.region [⟨some 8, .mov (.c (.sc (.bool false))), none, 0⟩]) (.ret [8])) .skip)) (.seq (.seq (.region [⟨some 15, .mov (.c (.sc (.int .i64 0))), none, 0⟩]) (.block 0 (.loop [13, 14, 15, 9, 11, 10, 12, 0, 2, 3] c0))) (.seq (.region [⟨some 60, .mov (.t 9), none, 0⟩,
    ⟨some 61, .mov (.t 11), none, 0⟩,
    ⟨some 62, .call 16 [.l 41, .l 41] [.t 60, .t 61], none, 0⟩,
    ⟨some 63, .mov (.t 62), none, 0⟩,
    ⟨some 64, .mov (.t 10), some (63, true), 0⟩,
    ⟨some 65, .mov (.t 12), some (63, true), 0⟩,
    ⟨some 66, .bin .eql .num (.t 64) (.t 65), some (63, true), 0⟩,
    ⟨some 67, .pick (.t 63) (.t 66) (.c (.sc (.bool false))), none, 0⟩,
    ⟨some 68, .mov (.t 67), none, 0⟩,
    ⟨some 69, .mov (.t 0), some (68, true), 0⟩,
    ⟨some 70, .mov (.t 2), some (68, true), 0⟩,
    ⟨some 71, .mov (.t 3), some (68, true), 0⟩,
    ⟨some 72, .call 23 [.l 41, .s, .s] [.t 69, .t 70, .t 71], some (68, true), 0⟩,
    ⟨some 73, .mov (.t 0), some (68, true), 0⟩,
    ⟨some 74, .mov (.t 2), some (68, true), 0⟩,
    ⟨some 75, .mov (.t 3), some (68, true), 0⟩,
    ⟨some 76, .call 24 [.l 41, .s, .s] [.t 73, .t 74, .t 75], some (68, true), 0⟩,
    ⟨some 77, .call 16 [.l 41, .l 41] [.t 72, .t 76], some (68, true), 0⟩,
    ⟨some 78, .pick (.t 68) (.t 77) (.c (.sc (.bool false))), none, 0⟩,
    ⟨some 79, .mov (.t 78), none, 0⟩,
    ⟨some 80, .call 11 [] [], some (79, true), 0⟩,
    ⟨some 81, .pick (.t 79) (.t 80) (.c (.sc (.bool false))), none, 0⟩,
    ⟨some 8, .mov (.t 81), none, 0⟩]) (.ret [8])))))))
def b4_1 : Cd := b4_1F b4_0
def g4F (c1 : Cd) : Fn := ⟨82, [.t 8], [.s], .lit,
  (.seq (.region [⟨some 8, .mov (.c (.sc (.bool false))), none, 0⟩]) (.seq (.seq (.region [⟨some 16, .mov (.t 0), none, 0⟩,
    ⟨some 17, .call 10 [.l 41] [.t 16], none, 0⟩,
    ⟨some 18, .mov (.t 17), none, 0⟩,
    ⟨some 19, .mov (.t 1), some (18, false), 0⟩,
    ⟨some 20, .call 10 [.l 41] [.t 19], some (18, false), 0⟩,
    ⟨some 21, .pick (.t 18) (.c (.sc (.bool true))) (.t 20), none, 0⟩]) (.cond (.t 21) (.seq (.region [⟨some 22, .call 11 [] [], none, 0⟩,
    ⟨some 8, .mov (.t 22), none, 0⟩]) (.ret [8])) .skip)) (.seg [1, 0, 2, 3] [8] c1)))⟩
def g4 : Fn := g4F b4_1
theorem cmp4 : cmpFn Tryd.prog .lit [1000016] 4 = some g4 := by kernel_rfl
def b5_0F : Cd := (.seq (.region [⟨some 99, .mov (.t 11), none, 0⟩,
    ⟨some 100, .mov (.t 3), none, 0⟩,
    ⟨some 101, .call 14 [.l 41, .s] [.t 99, .t 100], none, 0⟩,
    ⟨some 98, .mov (.t 101), none, 0⟩,
    ⟨some 102, .ext (.t 98) 0, none, 0⟩,
    ⟨some 103, .ext (.t 98) 1, none, 0⟩,
    ⟨some 17, .mov (.t 102), none, 0⟩,
    ⟨some 18, .mov (.t 103), none, 0⟩]) (.seq (.region [⟨some 105, .mov (.t 0), none, 0⟩,
    ⟨some 106, .mov (.t 3), none, 0⟩,
    ⟨some 107, .call 14 [.l 41, .s] [.t 105, .t 106], none, 0⟩,
    ⟨some 104, .mov (.t 107), none, 0⟩,
    ⟨some 108, .ext (.t 104) 0, none, 0⟩,
    ⟨some 109, .ext (.t 104) 1, none, 0⟩,
    ⟨some 19, .mov (.t 108), none, 0⟩,
    ⟨some 20, .mov (.t 109), none, 0⟩]) (.seq (.region [⟨some 111, .mov (.t 13), none, 0⟩,
    ⟨some 112, .mov (.t 3), none, 0⟩,
    ⟨some 113, .call 14 [.l 41, .s] [.t 111, .t 112], none, 0⟩,
    ⟨some 110, .mov (.t 113), none, 0⟩,
    ⟨some 114, .ext (.t 110) 0, none, 0⟩,
    ⟨some 115, .ext (.t 110) 1, none, 0⟩,
    ⟨some 21, .mov (.t 114), none, 0⟩,
    ⟨some 22, .mov (.t 115), none, 0⟩]) (.seq (.region [⟨some 116, .mov (.t 3), none, 0⟩,
    ⟨some 117, .mov (.t 1), none, 0⟩,
    ⟨some 118, .bin .eql .str (.t 116) (.t 117), none, 0⟩,
    ⟨some 119, .mov (.t 118), none, 0⟩,
    ⟨some 120, .mov (.t 17), some (119, false), 0⟩,
    ⟨some 121, .mov (.t 19), some (119, false), 0⟩,
    ⟨some 122, .bin .eql .str (.t 120) (.t 121), some (119, false), 0⟩,
    ⟨some 123, .mov (.t 122), some (119, false), 0⟩,
    ⟨some 124, .mov (.t 18), some (123, true), 0⟩,
    ⟨some 125, .mov (.t 20), some (123, true), 0⟩,
    ⟨some 126, .bin .eql .bool (.t 124) (.t 125), some (123, true), 0⟩,
    ⟨some 127, .pick (.t 123) (.t 126) (.c (.sc (.bool false))), some (119, false), 0⟩,
    ⟨some 128, .pick (.t 119) (.c (.sc (.bool true))) (.t 127), none, 0⟩,
    ⟨some 129, .mov (.t 128), none, 0⟩,
    ⟨some 130, .mov (.t 20), some (129, true), 0⟩,
    ⟨some 131, .un .not (.t 130), some (129, true), 0⟩,
    ⟨some 132, .mov (.t 131), some (129, true), 0⟩,
    ⟨some 133, .mov (.t 21), some (132, false), 0⟩,
    ⟨some 134, .mov (.t 19), some (132, false), 0⟩,
    ⟨some 135, .bin .eql .str (.t 133) (.t 134), some (132, false), 0⟩,
    ⟨some 136, .mov (.t 135), some (132, false), 0⟩,
    ⟨some 137, .mov (.t 22), some (136, true), 0⟩,
    ⟨some 138, .pick (.t 136) (.t 137) (.c (.sc (.bool false))), some (132, false), 0⟩,
    ⟨some 139, .pick (.t 132) (.c (.sc (.bool true))) (.t 138), some (129, true), 0⟩,
    ⟨some 140, .pick (.t 129) (.t 139) (.c (.sc (.bool false))), none, 0⟩,
    ⟨some 141, .mov (.t 140), none, 0⟩,
    ⟨some 142, .call 11 [] [], some (141, true), 0⟩,
    ⟨some 143, .pick (.t 141) (.t 142) (.c (.sc (.bool false))), none, 0⟩,
    ⟨some 10, .mov (.t 143), none, 0⟩]) (.ret [10])))))
def b5_0 : Cd := b5_0F
def b5_1F (c0 : Cd) : Cd := (.seq (.region [⟨some 72, .mov (.t 11), none, 0⟩,
    ⟨some 73, .mov (.t 1), none, 0⟩,
    ⟨some 74, .call 14 [.l 41, .s] [.t 72, .t 73], none, 0⟩,
    ⟨some 71, .mov (.t 74), none, 0⟩,
    ⟨some 75, .ext (.t 71) 0, none, 0⟩,
    ⟨some 76, .ext (.t 71) 1, none, 0⟩,
    ⟨some 15, .mov (.t 75), none, 0⟩,
    ⟨some 16, .mov (.t 76), none, 0⟩]) (.seq (.seq (.region [⟨some 77, .mov (.t 12), none, 0⟩,
    ⟨some 78, .bin .eql .num (.t 77) (.c (.sc (.int .i64 0))), none, 0⟩,
    ⟨some 79, .mov (.t 78), none, 0⟩,
    ⟨some 80, .mov (.t 15), some (79, true), 0⟩,
    ⟨some 81, .mov (.t 2), some (79, true), 0⟩,
    ⟨some 82, .bin .neq .str (.t 80) (.t 81), some (79, true), 0⟩,
    ⟨some 83, .mov (.t 82), some (79, true), 0⟩,
    ⟨some 84, .mov (.t 16), some (83, false), 0⟩,
    ⟨some 85, .un .not (.t 84), some (83, false), 0⟩,
    ⟨some 86, .pick (.t 83) (.c (.sc (.bool true))) (.t 85), some (79, true), 0⟩,
    ⟨some 87, .pick (.t 79) (.t 86) (.c (.sc (.bool false))), none, 0⟩,
    ⟨some 88, .mov (.t 87), none, 0⟩,
    ⟨some 89, .mov (.t 12), some (88, false), 0⟩,
    ⟨some 90, .bin .neq .num (.t 89) (.c (.sc (.int .i64 0))), some (88, false), 0⟩,
    ⟨some 91, .mov (.t 90), some (88, false), 0⟩,
    ⟨some 92, .mov (.t 11), some (91, true), 0⟩,
    ⟨some 93, .mov (.t 0), some (91, true), 0⟩,
    ⟨some 94, .call 16 [.l 41, .l 41] [.t 92, .t 93], some (91, true), 0⟩,
    ⟨some 95, .un .not (.t 94), some (91, true), 0⟩,
    ⟨some 96, .pick (.t 91) (.t 95) (.c (.sc (.bool false))), some (88, false), 0⟩,
    ⟨some 97, .pick (.t 88) (.c (.sc (.bool true))) (.t 96), none, 0⟩]) (.cond (.t 97) (.seq (.region [⟨some 10, .mov (.c (.sc (.bool false))), none, 0⟩]) (.ret [10])) .skip)) (.seg [11, 0, 13, 3, 1] [10] c0)))
def b5_1 : Cd := b5_1F b5_0
def b5_2F (c1 : Cd) : Cd := (.seq (.region [⟨some 51, .mov (.t 0), none, 0⟩,
    ⟨some 52, .mov (.t 1), none, 0⟩,
    ⟨some 53, .mov (.t 2), none, 0⟩,
    ⟨some 54, .call 12 [.l 41, .s, .s] [.t 51, .t 52, .t 53], none, 0⟩,
    ⟨some 50, .mov (.t 54), none, 0⟩,
    ⟨some 55, .ext (.t 50) 0, none, 0⟩,
    ⟨some 56, .ext (.t 50) 1, none, 0⟩,
    ⟨some 11, .mov (.t 55), none, 0⟩,
    ⟨some 12, .mov (.t 56), none, 0⟩]) (.seq (.region [⟨some 58, .mov (.t 0), none, 0⟩,
    ⟨some 59, .mov (.t 4), none, 0⟩,
    ⟨some 60, .call 19 [.l 41, .l 41] [.t 58, .t 59], none, 0⟩,
    ⟨some 57, .mov (.t 60), none, 0⟩,
    ⟨some 61, .ext (.t 57) 0, none, 0⟩,
    ⟨some 62, .ext (.t 57) 1, none, 0⟩,
    ⟨some 13, .mov (.t 61), none, 0⟩,
    ⟨some 14, .mov (.t 62), none, 0⟩]) (.seq (.seq (.region [⟨some 63, .mov (.t 11), none, 0⟩,
    ⟨some 64, .call 17 [.l 41] [.t 63], none, 0⟩,
    ⟨some 65, .un .not (.t 64), none, 0⟩,
    ⟨some 66, .mov (.t 65), none, 0⟩,
    ⟨some 67, .mov (.t 13), some (66, false), 0⟩,
    ⟨some 68, .call 17 [.l 41] [.t 67], some (66, false), 0⟩,
    ⟨some 69, .un .not (.t 68), some (66, false), 0⟩,
    ⟨some 70, .pick (.t 66) (.c (.sc (.bool true))) (.t 69), none, 0⟩]) (.cond (.t 70) (.seq (.region [⟨some 10, .mov (.c (.sc (.bool false))), none, 0⟩]) (.ret [10])) .skip)) (.seg [2, 12, 11, 0, 13, 3, 1] [10] c1))))
def b5_2 : Cd := b5_2F b5_1
def g5F (c2 : Cd) : Fn := ⟨144, [.t 10], [.s], .lit,
  (.seq (.region [⟨some 10, .mov (.c (.sc (.bool false))), none, 0⟩]) (.seq (.seq (.region [⟨some 23, .mov (.t 0), none, 0⟩,
    ⟨some 24, .call 10 [.l 41] [.t 23], none, 0⟩,
    ⟨some 25, .mov (.t 24), none, 0⟩,
    ⟨some 26, .mov (.t 4), some (25, false), 0⟩,
    ⟨some 27, .call 10 [.l 41] [.t 26], some (25, false), 0⟩,
    ⟨some 28, .pick (.t 25) (.c (.sc (.bool true))) (.t 27), none, 0⟩,
    ⟨some 29, .mov (.t 28), none, 0⟩,
    ⟨some 30, .mov (.t 1), some (29, false), 0⟩,
    ⟨some 31, .len true (.t 30), some (29, false), 0⟩,
    ⟨some 32, .bin .gtr .num (.t 31) (.c (.sc (.int .i64 300))), some (29, false), 0⟩,
    ⟨some 33, .pick (.t 29) (.c (.sc (.bool true))) (.t 32), none, 0⟩,
    ⟨some 34, .mov (.t 33), none, 0⟩,
    ⟨some 35, .mov (.t 2), some (34, false), 0⟩,
    ⟨some 36, .len true (.t 35), some (34, false), 0⟩,
    ⟨some 37, .bin .gtr .num (.t 36) (.c (.sc (.int .i64 700))), some (34, false), 0⟩,
    ⟨some 38, .pick (.t 34) (.c (.sc (.bool true))) (.t 37), none, 0⟩,
    ⟨some 39, .mov (.t 38), none, 0⟩,
    ⟨some 40, .mov (.t 3), some (39, false), 0⟩,
    ⟨some 41, .len true (.t 40), some (39, false), 0⟩,
    ⟨some 42, .bin .gtr .num (.t 41) (.c (.sc (.int .i64 300))), some (39, false), 0⟩,
    ⟨some 43, .pick (.t 39) (.c (.sc (.bool true))) (.t 42), none, 0⟩,
    ⟨some 44, .mov (.t 43), none, 0⟩,
    ⟨some 45, .mov (.t 0), some (44, false), 0⟩,
    ⟨some 46, .call 17 [.l 41] [.t 45], some (44, false), 0⟩,
    ⟨some 47, .un .not (.t 46), some (44, false), 0⟩,
    ⟨some 48, .pick (.t 44) (.c (.sc (.bool true))) (.t 47), none, 0⟩]) (.cond (.t 48) (.seq (.region [⟨some 49, .call 11 [] [], none, 0⟩,
    ⟨some 10, .mov (.t 49), none, 0⟩]) (.ret [10])) .skip)) (.seg [4, 2, 0, 3, 1] [10] c2)))⟩
def g5 : Fn := g5F b5_2
theorem cmp5 : cmpFn Tryd.prog .lit [1000016] 5 = some g5 := by kernel_rfl
def b6_0F : Cd := (.seq (.seq (.region [⟨some 27, .mov (.t 9), none, 0⟩,
    ⟨some 28, .mov (.t 7), none, 0⟩,
    ⟨some 29, .len false (.t 28), none, 0⟩,
    ⟨some 30, .bin .lss .num (.t 27) (.t 29), none, 0⟩]) (.cond (.t 30) .skip (.exit 0 [7, 8, 0]))) (.seq (.block 1 (.seq (.region [⟨some 33, .mov (.t 7), none, 0⟩,
    ⟨some 34, .mov (.t 9), none, 0⟩,
    ⟨some 35, .iadS 41 (.t 33) (.t 34), none, 0⟩,
    ⟨some 36, .fad (.t 35) 0, none, 0⟩,
    ⟨some 37, .load false 1 (.t 36), none, 0⟩,
    ⟨some 38, .call 25 [.s] [.t 37], none, 0⟩,
    ⟨some 10, .mov (.t 38), none, 0⟩]) (.seq (.region [⟨some 39, .mov (.t 2), none, 0⟩,
    ⟨some 40, .mov (.t 1), none, 0⟩,
    ⟨some 41, .bin .sub .num (.t 39) (.t 40), none, 0⟩,
    ⟨some 42, .mov (.t 10), none, 0⟩,
    ⟨some 43, .mov (.t 1), none, 0⟩,
    ⟨some 44, .bin .sub .num (.t 42) (.t 43), none, 0⟩,
    ⟨some 45, .bin .lss .num (.t 41) (.t 44), none, 0⟩,
    ⟨some 46, .mov (.t 45), none, 0⟩,
    ⟨some 47, .mov (.t 10), some (46, false), 0⟩,
    ⟨some 48, .mov (.t 1), some (46, false), 0⟩,
    ⟨some 49, .bin .eql .num (.t 47) (.t 48), some (46, false), 0⟩,
    ⟨some 50, .pick (.t 46) (.c (.sc (.bool true))) (.t 49), none, 0⟩]) (.cond (.t 50) (.seq (.region [⟨some 6, .mov (.c (.sc (.bool false))), none, 0⟩]) (.ret [6])) .skip)))) (.region [⟨some 31, .mov (.t 9), none, 0⟩,
    ⟨some 32, .bin .add .num (.t 31) (.c (.sc (.int .i64 1))), none, 0⟩,
    ⟨some 9, .mov (.t 32), none, 0⟩])))
def b6_0 : Cd := b6_0F
def b6_1F (c0 : Cd) : Cd := (.seq (.region [⟨some 19, .mov (.t 0), none, 0⟩,
    ⟨some 20, .mov (.t 1), none, 0⟩,
    ⟨some 21, .mov (.t 2), none, 0⟩,
    ⟨some 22, .call 23 [.l 41, .s, .s] [.t 19, .t 20, .t 21], none, 0⟩,
    ⟨some 23, .mov (.t 0), none, 0⟩,
    ⟨some 24, .mov (.t 2), none, 0⟩,
    ⟨some 25, .mov (.t 1), none, 0⟩,
    ⟨some 26, .call 23 [.l 41, .s, .s] [.t 23, .t 24, .t 25], none, 0⟩,
    ⟨some 7, .mov (.t 22), none, 0⟩,
    ⟨some 8, .mov (.t 26), none, 0⟩]) (.seq (.seq (.region [⟨some 9, .mov (.c (.sc (.int .i64 0))), none, 0⟩]) (.block 0 (.loop [2, 1, 9, 7, 8, 0] c0))) (.seq (.region [⟨some 51, .mov (.t 7), none, 0⟩,
    ⟨some 52, .len false (.t 51), none, 0⟩,
    ⟨some 53, .mov (.t 8), none, 0⟩,
    ⟨some 54, .len false (.t 53), none, 0⟩,
    ⟨some 55, .bin .add .num (.t 52) (.t 54), none, 0⟩,
    ⟨some 56, .mov (.t 0), none, 0⟩,
    ⟨some 57, .len false (.t 56), none, 0⟩,
    ⟨some 58, .bin .eql .num (.t 55) (.t 57), none, 0⟩,
    ⟨some 59, .mov (.t 58), none, 0⟩,
    ⟨some 60, .call 11 [] [], some (59, true), 0⟩,
    ⟨some 61, .pick (.t 59) (.t 60) (.c (.sc (.bool false))), none, 0⟩,
    ⟨some 6, .mov (.t 61), none, 0⟩]) (.ret [6]))))
def b6_1 : Cd := b6_1F b6_0
def g6F (c1 : Cd) : Fn := ⟨62, [.t 6], [.s], .lit,
  (.seq (.region [⟨some 6, .mov (.c (.sc (.bool false))), none, 0⟩]) (.seq (.seq (.region [⟨some 11, .mov (.t 0), none, 0⟩,
    ⟨some 12, .call 10 [.l 41] [.t 11], none, 0⟩,
    ⟨some 13, .mov (.t 12), none, 0⟩,
    ⟨some 14, .mov (.t 1), some (13, false), 0⟩,
    ⟨some 15, .mov (.t 2), some (13, false), 0⟩,
    ⟨some 16, .bin .eql .num (.t 14) (.t 15), some (13, false), 0⟩,
    ⟨some 17, .pick (.t 13) (.c (.sc (.bool true))) (.t 16), none, 0⟩]) (.cond (.t 17) (.seq (.region [⟨some 18, .call 11 [] [], none, 0⟩,
    ⟨some 6, .mov (.t 18), none, 0⟩]) (.ret [6])) .skip)) (.seg [2, 1, 0] [6] c1)))⟩
def g6 : Fn := g6F b6_1
theorem cmp6 : cmpFn Tryd.prog .lit [1000016] 6 = some g6 := by kernel_rfl
def b10_0F : Cd := (.seq (.seq (.region [⟨some 7, .mov (.t 3), none, 0⟩,
    ⟨some 8, .mov (.t 0), none, 0⟩,
    ⟨some 9, .len false (.t 8), none, 0⟩,
    ⟨some 10, .bin .lss .num (.t 7) (.t 9), none, 0⟩]) (.cond (.t 10) .skip (.exit 0 []))) (.seq (.block 1 (.seq (.region [⟨some 13, .mov (.t 0), none, 0⟩,
    ⟨some 14, .mov (.t 3), none, 0⟩,
    ⟨some 15, .iadS 41 (.t 13) (.t 14), none, 0⟩,
    ⟨some 16, .fad (.t 15) 0, none, 0⟩,
    ⟨some 17, .load false 1 (.t 16), none, 0⟩,
    ⟨some 18, .len true (.t 17), none, 0⟩,
    ⟨some 19, .bin .gtr .num (.t 18) (.c (.sc (.int .i64 300))), none, 0⟩,
    ⟨some 20, .mov (.t 19), none, 0⟩,
    ⟨some 21, .mov (.t 0), some (20, false), 0⟩,
    ⟨some 22, .mov (.t 3), some (20, false), 0⟩,
    ⟨some 23, .iadS 41 (.t 21) (.t 22), some (20, false), 0⟩,
    ⟨some 24, .fad (.t 23) 1, some (20, false), 0⟩,
    ⟨some 25, .load false 1 (.t 24), some (20, false), 0⟩,
    ⟨some 26, .len true (.t 25), some (20, false), 0⟩,
    ⟨some 27, .bin .gtr .num (.t 26) (.c (.sc (.int .i64 700))), some (20, false), 0⟩,
    ⟨some 28, .pick (.t 20) (.c (.sc (.bool true))) (.t 27), none, 0⟩]) (.cond (.t 28) (.seq (.region [⟨some 2, .mov (.c (.sc (.bool true))), none, 0⟩]) (.ret [2])) .skip))) (.region [⟨some 11, .mov (.t 3), none, 0⟩,
    ⟨some 12, .bin .add .num (.t 11) (.c (.sc (.int .i64 1))), none, 0⟩,
    ⟨some 3, .mov (.t 12), none, 0⟩])))
def b10_0 : Cd := b10_0F
def g10F (c0 : Cd) : Fn := ⟨29, [.t 2], [.s], .lit,
  (.seq (.region [⟨some 2, .mov (.c (.sc (.bool false))), none, 0⟩]) (.seq (.seq (.region [⟨some 4, .mov (.t 0), none, 0⟩,
    ⟨some 5, .len false (.t 4), none, 0⟩,
    ⟨some 6, .bin .gtr .num (.t 5) (.c (.sc (.int .i64 100))), none, 0⟩]) (.cond (.t 6) (.seq (.region [⟨some 2, .mov (.c (.sc (.bool true))), none, 0⟩]) (.ret [2])) .skip)) (.seq (.seq (.region [⟨some 3, .mov (.c (.sc (.int .i64 0))), none, 0⟩]) (.block 0 (.loop [0, 3] c0))) (.seq (.region [⟨some 2, .mov (.c (.sc (.bool false))), none, 0⟩]) (.ret [2])))))⟩
def g10 : Fn := g10F b10_0
theorem cmp10 : cmpFn Tryd.prog .lit [1000016] 10 = some g10 := by kernel_rfl
def g11F : Fn := ⟨102, [.t 0], [.s], .lit,
  (.seq (.region [⟨some 0, .mov (.c (.sc (.bool false))), none, 0⟩]) (.seq (.region [⟨some 13, .call 12 [.l 41, .s, .s] [.c (.lit 0 true []), .c (.sc (.string ⟨#[98]⟩)), .c (.sc (.string ⟨#[118]⟩))], none, 0⟩,
    ⟨some 12, .mov (.t 13), none, 0⟩,
    ⟨some 14, .ext (.t 12) 0, none, 0⟩,
    ⟨some 15, .ext (.t 12) 1, none, 0⟩,
    ⟨some 1, .mov (.t 14), none, 0⟩,
    ⟨some 2, .mov (.t 15), none, 0⟩]) (.seq (.region [⟨some 17, .mov (.t 1), none, 0⟩,
    ⟨some 18, .call 12 [.l 41, .s, .s] [.t 17, .c (.sc (.string ⟨#[97]⟩)), .c (.sc (.string ⟨#[119]⟩))], none, 0⟩,
    ⟨some 16, .mov (.t 18), none, 0⟩,
    ⟨some 19, .ext (.t 16) 0, none, 0⟩,
    ⟨some 20, .ext (.t 16) 1, none, 0⟩,
    ⟨some 1, .mov (.t 19), none, 0⟩,
    ⟨some 3, .mov (.t 20), none, 0⟩]) (.seq (.region [⟨some 22, .mov (.t 1), none, 0⟩,
    ⟨some 23, .build [.sc (.string ⟨#[]⟩), .sc (.string ⟨#[]⟩)] [(0, 1, .c (.sc (.string ⟨#[97]⟩))), (1, 1, .c (.sc (.string ⟨#[120]⟩)))], none, 0⟩,
    ⟨some 24, .build [.sc (.string ⟨#[]⟩), .sc (.string ⟨#[]⟩)] [(0, 1, .c (.sc (.string ⟨#[99]⟩)))], none, 0⟩,
    ⟨some 25, .bsl 41 2 (.a [.s, .s]) [.t 23, .t 24], none, 0⟩,
    ⟨some 26, .call 19 [.l 41, .l 41] [.t 22, .t 25], none, 0⟩,
    ⟨some 21, .mov (.t 26), none, 0⟩,
    ⟨some 27, .ext (.t 21) 0, none, 0⟩,
    ⟨some 28, .ext (.t 21) 1, none, 0⟩,
    ⟨some 4, .mov (.t 27), none, 0⟩,
    ⟨some 5, .mov (.t 28), none, 0⟩]) (.seq (.region [⟨some 30, .mov (.t 4), none, 0⟩,
    ⟨some 31, .call 14 [.l 41, .s] [.t 30, .c (.sc (.string ⟨#[97]⟩))], none, 0⟩,
    ⟨some 29, .mov (.t 31), none, 0⟩,
    ⟨some 32, .ext (.t 29) 0, none, 0⟩,
    ⟨some 33, .ext (.t 29) 1, none, 0⟩,
    ⟨some 6, .mov (.t 32), none, 0⟩,
    ⟨some 7, .mov (.t 33), none, 0⟩]) (.seq (.region [⟨some 35, .mov (.t 4), none, 0⟩,
    ⟨some 36, .call 14 [.l 41, .s] [.t 35, .c (.sc (.string ⟨#[100]⟩))], none, 0⟩,
    ⟨some 34, .mov (.t 36), none, 0⟩,
    ⟨some 37, .ext (.t 34) 0, none, 0⟩,
    ⟨some 38, .ext (.t 34) 1, none, 0⟩,
    ⟨some 8, .mov (.t 37), none, 0⟩,
    ⟨some 9, .mov (.t 38), none, 0⟩]) (.seq (.region [⟨some 40, .mov (.t 1), none, 0⟩,
    ⟨some 41, .call 12 [.l 41, .s, .s] [.t 40, .c (.sc (.string ⟨#[]⟩)), .c (.sc (.string ⟨#[118]⟩))], none, 0⟩,
    ⟨some 39, .mov (.t 41), none, 0⟩,
    ⟨some 42, .ext (.t 39) 0, none, 0⟩,
    ⟨some 43, .ext (.t 39) 1, none, 0⟩,
    ⟨some 10, .mov (.t 42), none, 0⟩,
    ⟨some 11, .mov (.t 43), none, 0⟩]) (.seq (.region [⟨some 44, .mov (.t 2), none, 0⟩,
    ⟨some 45, .bin .eql .num (.t 44) (.c (.sc (.int .i64 0))), none, 0⟩,
    ⟨some 46, .mov (.t 45), none, 0⟩,
    ⟨some 47, .mov (.t 3), some (46, true), 0⟩,
    ⟨some 48, .bin .eql .num (.t 47) (.c (.sc (.int .i64 0))), some (46, true), 0⟩,
    ⟨some 49, .pick (.t 46) (.t 48) (.c (.sc (.bool false))), none, 0⟩,
    ⟨some 50, .mov (.t 49), none, 0⟩,
    ⟨some 51, .mov (.t 5), some (50, true), 0⟩,
    ⟨some 52, .bin .eql .num (.t 51) (.c (.sc (.int .i64 0))), some (50, true), 0⟩,
    ⟨some 53, .pick (.t 50) (.t 52) (.c (.sc (.bool false))), none, 0⟩,
    ⟨some 54, .mov (.t 53), none, 0⟩,
    ⟨some 55, .mov (.t 11), some (54, true), 0⟩,
    ⟨some 56, .bin .eql .num (.t 55) (.c (.sc (.int .i64 7))), some (54, true), 0⟩,
    ⟨some 57, .pick (.t 54) (.t 56) (.c (.sc (.bool false))), none, 0⟩,
    ⟨some 58, .mov (.t 57), none, 0⟩,
    ⟨some 59, .mov (.t 1), some (58, true), 0⟩,
    ⟨some 60, .len false (.t 59), some (58, true), 0⟩,
    ⟨some 61, .bin .eql .num (.t 60) (.c (.sc (.int .i64 2))), some (58, true), 0⟩,
    ⟨some 62, .pick (.t 58) (.t 61) (.c (.sc (.bool false))), none, 0⟩,
    ⟨some 63, .mov (.t 62), none, 0⟩,
    ⟨some 64, .mov (.t 1), some (63, true), 0⟩,
    ⟨some 65, .iadS 41 (.t 64) (.c (.sc (.int .i64 0))), some (63, true), 0⟩,
    ⟨some 66, .fad (.t 65) 0, some (63, true), 0⟩,
    ⟨some 67, .load false 1 (.t 66), some (63, true), 0⟩,
    ⟨some 68, .bin .eql .str (.t 67) (.c (.sc (.string ⟨#[97]⟩))), some (63, true), 0⟩,
    ⟨some 69, .pick (.t 63) (.t 68) (.c (.sc (.bool false))), none, 0⟩,
    ⟨some 70, .mov (.t 69), none, 0⟩,
    ⟨some 71, .mov (.t 4), some (70, true), 0⟩,
    ⟨some 72, .len false (.t 71), some (70, true), 0⟩,
    ⟨some 73, .bin .eql .num (.t 72) (.c (.sc (.int .i64 3))), some (70, true), 0⟩,
    ⟨some 74, .pick (.t 70) (.t 73) (.c (.sc (.bool false))), none, 0⟩,
    ⟨some 75, .mov (.t 74), none, 0⟩,
    ⟨some 76, .mov (.t 6), some (75, true), 0⟩,
    ⟨some 77, .bin .eql .str (.t 76) (.c (.sc (.string ⟨#[119]⟩))), some (75, true), 0⟩,
    ⟨some 78, .pick (.t 75) (.t 77) (.c (.sc (.bool false))), none, 0⟩,
    ⟨some 79, .mov (.t 78), none, 0⟩,
    ⟨some 80, .mov (.t 7), some (79, true), 0⟩,
    ⟨some 81, .pick (.t 79) (.t 80) (.c (.sc (.bool false))), none, 0⟩,
    ⟨some 82, .mov (.t 81), none, 0⟩,
    ⟨some 83, .mov (.t 9), some (82, true), 0⟩,
    ⟨some 84, .un .not (.t 83), some (82, true), 0⟩,
    ⟨some 85, .pick (.t 82) (.t 84) (.c (.sc (.bool false))), none, 0⟩,
    ⟨some 86, .mov (.t 85), none, 0⟩,
    ⟨some 87, .mov (.t 4), some (86, true), 0⟩,
    ⟨some 88, .call 17 [.l 41] [.t 87], some (86, true), 0⟩,
    ⟨some 89, .pick (.t 86) (.t 88) (.c (.sc (.bool false))), none, 0⟩,
    ⟨some 90, .mov (.t 89), none, 0⟩,
    ⟨some 91, .mov (.t 4), some (90, true), 0⟩,
    ⟨some 92, .call 21 [.l 41] [.t 91], some (90, true), 0⟩,
    ⟨some 93, .len false (.t 92), some (90, true), 0⟩,
    ⟨some 94, .bin .eql .num (.t 93) (.c (.sc (.int .i64 1))), some (90, true), 0⟩,
    ⟨some 95, .pick (.t 90) (.t 94) (.c (.sc (.bool false))), none, 0⟩,
    ⟨some 96, .mov (.t 95), none, 0⟩,
    ⟨some 97, .mov (.t 4), some (96, true), 0⟩,
    ⟨some 98, .call 23 [.l 41, .s, .s] [.t 97, .c (.sc (.int .u64 5)), .c (.sc (.int .u64 5))], some (96, true), 0⟩,
    ⟨some 99, .len false (.t 98), some (96, true), 0⟩,
    ⟨some 100, .bin .eql .num (.t 99) (.c (.sc (.int .i64 3))), some (96, true), 0⟩,
    ⟨some 101, .pick (.t 96) (.t 100) (.c (.sc (.bool false))), none, 0⟩,
    ⟨some 0, .mov (.t 101), none, 0⟩]) (.ret [0])))))))))⟩
def g11 : Fn := g11F
theorem cmp11 : cmpFn Tryd.prog .lit [1000016] 11 = some g11 := by kernel_rfl
def b12_0F : Cd := (.seq (.region [⟨some 39, .mov (.t 8), none, 0⟩,
    ⟨some 40, .mkfn 37 [.t 4], none, 0⟩,
    ⟨some 41, .call 36 [.l 41, .s] [.t 39, .t 40], none, 0⟩,
    ⟨some 9, .mov (.t 41), none, 0⟩]) (.seq (.seq (.region [⟨some 42, .mov (.t 9), none, 0⟩,
    ⟨some 43, .bin .lss .num (.t 42) (.c (.sc (.int .i64 0))), none, 0⟩]) (.cond (.t 43) (.region [⟨some 44, .mov (.t 8), none, 0⟩,
    ⟨some 45, .len false (.t 44), none, 0⟩,
    ⟨some 9, .mov (.t 45), none, 0⟩]) .skip)) (.seq (.region [⟨some 46, .mov (.t 8), none, 0⟩,
    ⟨some 47, .mov (.t 9), none, 0⟩,
    ⟨some 48, .load false 1 (.t 4), none, 0⟩,
    ⟨some 49, .mov (.t 2), none, 0⟩,
    ⟨some 50, .build [.sc (.string ⟨#[]⟩), .sc (.string ⟨#[]⟩)] [(0, 1, .t 48), (1, 1, .t 49)], none, 0⟩,
    ⟨some 51, .bsl 41 2 (.a [.s, .s]) [.t 50], none, 0⟩,
    ⟨some 52, .call 38 [.l 41, .s, .l 41] [.t 46, .t 47, .t 51], none, 0⟩,
    ⟨some 6, .mov (.t 52), none, 0⟩,
    ⟨some 7, .mov (.c (.sc (.int .i64 0))), none, 0⟩]) (.ret [6, 7]))))
def b12_0 : Cd := b12_0F
def g12F (c0 : Cd) : Fn := ⟨53, [.t 6, .t 7], [.l 41, .s], .lit,
  (.seq (.region [⟨some 4, .box 9 1 (.t 1), none, 0⟩,
    ⟨some 6, .nil 41, none, 0⟩,
    ⟨some 7, .mov (.c (.sc (.int .i64 0))), none, 0⟩]) (.seq (.region [⟨some 10, .mov (.t 0), none, 0⟩,
    ⟨some 11, .call 33 [.l 41] [.t 10], none, 0⟩,
    ⟨some 8, .mov (.t 11), none, 0⟩]) (.seq (.region [⟨some 12, .mov (.t 8), none, 0⟩,
    ⟨some 13, .load false 1 (.t 4), none, 0⟩,
    ⟨some 14, .call 34 [.l 41, .s] [.t 12, .t 13], none, 0⟩,
    ⟨some 9, .mov (.t 14), none, 0⟩]) (.seq (.block 0 (.seq (.region [⟨some 16, .load false 1 (.t 4), none, 0⟩,
    ⟨some 17, .call 35 [.s] [.t 16], none, 0⟩,
    ⟨some 18, .un .not (.t 17), none, 0⟩,
    ⟨some 15, .mov (.t 18), none, 0⟩]) (.cond (.t 15) (.seq (.region [⟨some 19, .mov (.t 8), none, 0⟩,
    ⟨some 6, .mov (.t 19), none, 0⟩,
    ⟨some 7, .mov (.c (.sc (.int .i64 7))), none, 0⟩]) (.ret [6, 7])) (.seq (.region [⟨some 21, .mov (.t 2), none, 0⟩,
    ⟨some 22, .len true (.t 21), none, 0⟩,
    ⟨some 23, .bin .gtr .num (.t 22) (.c (.sc (.int .i64 512))), none, 0⟩,
    ⟨some 20, .mov (.t 23), none, 0⟩]) (.cond (.t 20) (.seq (.region [⟨some 24, .mov (.t 8), none, 0⟩,
    ⟨some 6, .mov (.t 24), none, 0⟩,
    ⟨some 7, .mov (.c (.sc (.int .i64 5))), none, 0⟩]) (.ret [6, 7])) (.seq (.region [⟨some 26, .mov (.t 9), none, 0⟩,
    ⟨some 27, .bin .geq .num (.t 26) (.c (.sc (.int .i64 0))), none, 0⟩,
    ⟨some 25, .mov (.t 27), none, 0⟩]) (.cond (.t 25) (.seq (.region [⟨some 28, .mov (.t 8), none, 0⟩,
    ⟨some 29, .mov (.t 9), none, 0⟩,
    ⟨some 30, .mov (.t 2), none, 0⟩,
    ⟨some 31, .iadS 41 (.t 28) (.t 29), none, 0⟩,
    ⟨some 32, .fad (.t 31) 1, none, 0⟩,
    ⟨none, .store 1 (.t 32) (.t 30), none, 0⟩]) (.seq (.region [⟨some 33, .mov (.t 8), none, 0⟩,
    ⟨some 6, .mov (.t 33), none, 0⟩,
    ⟨some 7, .mov (.c (.sc (.int .i64 0))), none, 0⟩]) (.ret [6, 7]))) (.seq (.region [⟨some 35, .mov (.t 8), none, 0⟩,
    ⟨some 36, .len false (.t 35), none, 0⟩,
    ⟨some 37, .bin .geq .num (.t 36) (.c (.sc (.int .i64 64))), none, 0⟩,
    ⟨some 34, .mov (.t 37), none, 0⟩]) (.cond (.t 34) (.seq (.region [⟨some 38, .mov (.t 8), none, 0⟩,
    ⟨some 6, .mov (.t 38), none, 0⟩,
    ⟨some 7, .mov (.c (.sc (.int .i64 10))), none, 0⟩]) (.ret [6, 7])) .skip))))))))) (.seg [8, 4, 2] [6, 7] c0)))))⟩
def g12 : Fn := g12F b12_0
theorem cmp12 : cmpFn Tryd.prog .lit [1000016, 1000600041] 12 = some g12 := by kernel_rfl
def b13_0F : Cd := (.seq (.seq (.region [⟨some 37, .mov (.t 8), none, 0⟩,
    ⟨some 38, .mov (.t 0), none, 0⟩,
    ⟨some 39, .len false (.t 38), none, 0⟩,
    ⟨some 40, .bin .lss .num (.t 37) (.t 39), none, 0⟩,
    ⟨some 41, .mov (.t 40), none, 0⟩,
    ⟨some 42, .mov (.t 1), some (41, true), 0⟩,
    ⟨some 43, .mov (.t 0), some (41, true), 0⟩,
    ⟨some 44, .mov (.t 8), some (41, true), 0⟩,
    ⟨some 45, .iadS 41 (.t 43) (.t 44), some (41, true), 0⟩,
    ⟨some 46, .fad (.t 45) 0, some (41, true), 0⟩,
    ⟨some 47, .load false 1 (.t 46), some (41, true), 0⟩,
    ⟨some 48, .call 41 [.s, .s] [.t 42, .t 47], some (41, true), 0⟩,
    ⟨some 49, .un .not (.t 48), some (41, true), 0⟩,
    ⟨some 50, .pick (.t 41) (.t 49) (.c (.sc (.bool false))), none, 0⟩]) (.cond (.t 50) .skip (.exit 0 [1, 2, 0, 8]))) (.block 1 (.region [⟨some 51, .mov (.t 8), none, 0⟩,
    ⟨some 52, .bin .add .num (.t 51) (.c (.sc (.int .i64 1))), none, 0⟩,
    ⟨some 8, .mov (.t 52), none, 0⟩])))
def b13_0 : Cd := b13_0F
def g13F (c0 : Cd) : Fn := ⟨69, [.t 6, .t 7], [.l 41, .s], .lit,
  (.seq (.region [⟨some 6, .nil 41, none, 0⟩,
    ⟨some 7, .mov (.c (.sc (.int .i64 0))), none, 0⟩]) (.seq (.seq (.region [⟨some 11, .mov (.t 1), none, 0⟩,
    ⟨some 12, .call 39 [.s] [.t 11], none, 0⟩,
    ⟨some 13, .un .not (.t 12), none, 0⟩]) (.cond (.t 13) (.seq (.region [⟨some 14, .mov (.t 0), none, 0⟩,
    ⟨some 6, .mov (.t 14), none, 0⟩,
    ⟨some 7, .mov (.c (.sc (.int .i64 7))), none, 0⟩]) (.ret [6, 7])) .skip)) (.seq (.seq (.region [⟨some 15, .mov (.t 2), none, 0⟩,
    ⟨some 16, .len true (.t 15), none, 0⟩,
    ⟨some 17, .bin .gtr .num (.t 16) (.c (.sc (.int .i64 512))), none, 0⟩]) (.cond (.t 17) (.seq (.region [⟨some 18, .mov (.t 0), none, 0⟩,
    ⟨some 6, .mov (.t 18), none, 0⟩,
    ⟨some 7, .mov (.c (.sc (.int .i64 5))), none, 0⟩]) (.ret [6, 7])) .skip)) (.seq (.region [⟨some 19, .mov (.t 0), none, 0⟩,
    ⟨some 20, .mov (.t 1), none, 0⟩,
    ⟨some 21, .call 40 [.l 41, .s] [.t 19, .t 20], none, 0⟩,
    ⟨some 8, .mov (.t 21), none, 0⟩]) (.seq (.seq (.region [⟨some 22, .mov (.t 8), none, 0⟩,
    ⟨some 23, .bin .geq .num (.t 22) (.c (.sc (.int .i64 0))), none, 0⟩]) (.cond (.t 23) (.seq (.region [⟨some 24, .bsl 41 2 (.a [.s, .s]) [], none, 0⟩,
    ⟨some 25, .mov (.t 0), none, 0⟩,
    ⟨some 26, .app 41 32 (.t 24) (.t 25), none, 0⟩,
    ⟨some 9, .mov (.t 26), none, 0⟩]) (.seq (.region [⟨some 27, .mov (.t 9), none, 0⟩,
    ⟨some 28, .mov (.t 8), none, 0⟩,
    ⟨some 29, .mov (.t 2), none, 0⟩,
    ⟨some 30, .iadS 41 (.t 27) (.t 28), none, 0⟩,
    ⟨some 31, .fad (.t 30) 1, none, 0⟩,
    ⟨none, .store 1 (.t 31) (.t 29), none, 0⟩]) (.seq (.region [⟨some 32, .mov (.t 9), none, 0⟩,
    ⟨some 6, .mov (.t 32), none, 0⟩,
    ⟨some 7, .mov (.c (.sc (.int .i64 0))), none, 0⟩]) (.ret [6, 7])))) .skip)) (.seq (.seq (.region [⟨some 33, .mov (.t 0), none, 0⟩,
    ⟨some 34, .len false (.t 33), none, 0⟩,
    ⟨some 35, .bin .gtr .num (.t 34) (.c (.sc (.int .i64 63))), none, 0⟩]) (.cond (.t 35) (.seq (.region [⟨some 36, .mov (.t 0), none, 0⟩,
    ⟨some 6, .mov (.t 36), none, 0⟩,
    ⟨some 7, .mov (.c (.sc (.int .i64 10))), none, 0⟩]) (.ret [6, 7])) .skip)) (.seq (.region [⟨some 8, .mov (.c (.sc (.int .i64 0))), none, 0⟩]) (.seq (.block 0 (.loop [1, 2, 0, 8] c0)) (.seq (.region [⟨some 53, .bsl 41 2 (.a [.s, .s]) [], none, 0⟩,
    ⟨some 54, .mov (.t 0), none, 0⟩,
    ⟨some 55, .mov (.t 8), none, 0⟩,
    ⟨some 56, .sls 41 (.t 54) none (some (.t 55)), none, 0⟩,
    ⟨some 57, .app 41 32 (.t 53) (.t 56), none, 0⟩,
    ⟨some 10, .mov (.t 57), none, 0⟩]) (.seq (.region [⟨some 58, .mov (.t 10), none, 0⟩,
    ⟨some 59, .mov (.t 1), none, 0⟩,
    ⟨some 60, .mov (.t 2), none, 0⟩,
    ⟨some 61, .build [.sc (.string ⟨#[]⟩), .sc (.string ⟨#[]⟩)] [(0, 1, .t 59), (1, 1, .t 60)], none, 0⟩,
    ⟨some 62, .bsl 41 2 (.a [.s, .s]) [.t 61], none, 0⟩,
    ⟨some 63, .app 41 32 (.t 58) (.t 62), none, 0⟩,
    ⟨some 10, .mov (.t 63), none, 0⟩]) (.seq (.region [⟨some 64, .mov (.t 10), none, 0⟩,
    ⟨some 65, .mov (.t 0), none, 0⟩,
    ⟨some 66, .mov (.t 8), none, 0⟩,
    ⟨some 67, .sls 41 (.t 65) (some (.t 66)) none, none, 0⟩,
    ⟨some 68, .app 41 32 (.t 64) (.t 67), none, 0⟩,
    ⟨some 6, .mov (.t 68), none, 0⟩,
    ⟨some 7, .mov (.c (.sc (.int .i64 0))), none, 0⟩]) (.ret [6, 7]))))))))))))⟩
def g13 : Fn := g13F b13_0
theorem cmp13 : cmpFn Tryd.prog .lit [1000016, 1000600041] 13 = some g13 := by kernel_rfl
def g14F : Fn := ⟨17, [.t 4, .t 5], [.s, .s], .lit,
  (.seq (.region [⟨some 4, .mov (.c (.sc (.string ⟨#[]⟩))), none, 0⟩,
    ⟨some 5, .mov (.c (.sc (.bool false))), none, 0⟩]) (.seq (.region [⟨some 7, .mov (.t 0), none, 0⟩,
    ⟨some 8, .mov (.t 1), none, 0⟩,
    ⟨some 9, .call 34 [.l 41, .s] [.t 7, .t 8], none, 0⟩,
    ⟨some 6, .mov (.t 9), none, 0⟩]) (.seq (.seq (.region [⟨some 10, .mov (.t 6), none, 0⟩,
    ⟨some 11, .bin .lss .num (.t 10) (.c (.sc (.int .i64 0))), none, 0⟩]) (.cond (.t 11) (.seq (.region [⟨some 4, .mov (.c (.sc (.string ⟨#[]⟩))), none, 0⟩,
    ⟨some 5, .mov (.c (.sc (.bool false))), none, 0⟩]) (.ret [4, 5])) .skip)) (.seq (.region [⟨some 12, .mov (.t 0), none, 0⟩,
    ⟨some 13, .mov (.t 6), none, 0⟩,
    ⟨some 14, .iadS 41 (.t 12) (.t 13), none, 0⟩,
    ⟨some 15, .fad (.t 14) 1, none, 0⟩,
    ⟨some 16, .load false 1 (.t 15), none, 0⟩,
    ⟨some 4, .mov (.t 16), none, 0⟩,
    ⟨some 5, .mov (.c (.sc (.bool true))), none, 0⟩]) (.ret [4, 5])))))⟩
def g14 : Fn := g14F
theorem cmp14 : cmpFn Tryd.prog .lit [1000016] 14 = some g14 := by kernel_rfl
def g15F : Fn := ⟨17, [.t 4, .t 5], [.s, .s], .lit,
  (.seq (.region [⟨some 4, .mov (.c (.sc (.string ⟨#[]⟩))), none, 0⟩,
    ⟨some 5, .mov (.c (.sc (.bool false))), none, 0⟩]) (.seq (.region [⟨some 7, .mov (.t 0), none, 0⟩,
    ⟨some 8, .mov (.t 1), none, 0⟩,
    ⟨some 9, .call 40 [.l 41, .s] [.t 7, .t 8], none, 0⟩,
    ⟨some 6, .mov (.t 9), none, 0⟩]) (.seq (.seq (.region [⟨some 10, .mov (.t 6), none, 0⟩,
    ⟨some 11, .bin .lss .num (.t 10) (.c (.sc (.int .i64 0))), none, 0⟩]) (.cond (.t 11) (.seq (.region [⟨some 4, .mov (.c (.sc (.string ⟨#[]⟩))), none, 0⟩,
    ⟨some 5, .mov (.c (.sc (.bool false))), none, 0⟩]) (.ret [4, 5])) .skip)) (.seq (.region [⟨some 12, .mov (.t 0), none, 0⟩,
    ⟨some 13, .mov (.t 6), none, 0⟩,
    ⟨some 14, .iadS 41 (.t 12) (.t 13), none, 0⟩,
    ⟨some 15, .fad (.t 14) 1, none, 0⟩,
    ⟨some 16, .load false 1 (.t 15), none, 0⟩,
    ⟨some 4, .mov (.t 16), none, 0⟩,
    ⟨some 5, .mov (.c (.sc (.bool true))), none, 0⟩]) (.ret [4, 5])))))⟩
def g15 : Fn := g15F
theorem cmp15 : cmpFn Tryd.prog .lit [1000016] 15 = some g15 := by kernel_rfl
def b16_0F : Cd := (.seq (.seq (.region [⟨some 11, .mov (.t 5), none, 0⟩,
    ⟨some 12, .mov (.t 0), none, 0⟩,
    ⟨some 13, .len false (.t 12), none, 0⟩,
    ⟨some 14, .bin .lss .num (.t 11) (.t 13), none, 0⟩]) (.cond (.t 14) .skip (.exit 0 []))) (.seq (.block 1 (.seq (.region [⟨some 17, .mov (.t 0), none, 0⟩,
    ⟨some 18, .mov (.t 5), none, 0⟩,
    ⟨some 19, .iadS 41 (.t 17) (.t 18), none, 0⟩,
    ⟨some 20, .load true 2 (.t 19), none, 0⟩,
    ⟨some 21, .mov (.t 1), none, 0⟩,
    ⟨some 22, .mov (.t 5), none, 0⟩,
    ⟨some 23, .iadS 41 (.t 21) (.t 22), none, 0⟩,
    ⟨some 24, .load true 2 (.t 23), none, 0⟩,
    ⟨some 25, .eqs true [.str, .str] (.t 20) (.t 24), none, 0⟩]) (.cond (.t 25) (.seq (.region [⟨some 4, .mov (.c (.sc (.bool false))), none, 0⟩]) (.ret [4])) .skip))) (.region [⟨some 15, .mov (.t 5), none, 0⟩,
    ⟨some 16, .bin .add .num (.t 15) (.c (.sc (.int .i64 1))), none, 0⟩,
    ⟨some 5, .mov (.t 16), none, 0⟩])))
def b16_0 : Cd := b16_0F
def g16F (c0 : Cd) : Fn := ⟨26, [.t 4], [.s], .lit,
  (.seq (.region [⟨some 4, .mov (.c (.sc (.bool false))), none, 0⟩]) (.seq (.seq (.region [⟨some 6, .mov (.t 0), none, 0⟩,
    ⟨some 7, .len false (.t 6), none, 0⟩,
    ⟨some 8, .mov (.t 1), none, 0⟩,
    ⟨some 9, .len false (.t 8), none, 0⟩,
    ⟨some 10, .bin .neq .num (.t 7) (.t 9), none, 0⟩]) (.cond (.t 10) (.seq (.region [⟨some 4, .mov (.c (.sc (.bool false))), none, 0⟩]) (.ret [4])) .skip)) (.seq (.seq (.region [⟨some 5, .mov (.c (.sc (.int .i64 0))), none, 0⟩]) (.block 0 (.loop [0, 1, 5] c0))) (.seq (.region [⟨some 4, .mov (.c (.sc (.bool true))), none, 0⟩]) (.ret [4])))))⟩
def g16 : Fn := g16F b16_0
theorem cmp16 : cmpFn Tryd.prog .lit [1000016] 16 = some g16 := by kernel_rfl
def b17_0F : Cd := (.seq (.region [⟨some 8, .bin .lss .num (.t 7) (.t 6), none, 0⟩]) (.seq (.cond (.t 8) .skip (.exit 0 [0])) (.seq (.block 1 (.seq (.region [⟨some 9, .mov (.t 7), none, 0⟩,
    ⟨some 10, .iadS 41 (.t 5) (.t 7), none, 0⟩,
    ⟨some 11, .load true 2 (.t 10), none, 0⟩,
    ⟨some 4, .box 41 2 (.c (.agg [.sc (.string ⟨#[]⟩), .sc (.string ⟨#[]⟩)])), none, 0⟩,
    ⟨some 3, .mov (.t 9), none, 0⟩,
    ⟨none, .store 2 (.t 4) (.t 11), none, 0⟩]) (.seq (.region [⟨some 12, .fad (.t 4) 0, none, 0⟩,
    ⟨some 13, .load false 1 (.t 12), none, 0⟩,
    ⟨some 14, .call 35 [.s] [.t 13], none, 0⟩,
    ⟨some 15, .un .not (.t 14), none, 0⟩,
    ⟨some 16, .mov (.t 15), none, 0⟩,
    ⟨some 17, .fad (.t 4) 1, some (16, false), 0⟩,
    ⟨some 18, .load false 1 (.t 17), some (16, false), 0⟩,
    ⟨some 19, .len true (.t 18), some (16, false), 0⟩,
    ⟨some 20, .bin .gtr .num (.t 19) (.c (.sc (.int .i64 512))), some (16, false), 0⟩,
    ⟨some 21, .pick (.t 16) (.c (.sc (.bool true))) (.t 20), none, 0⟩,
    ⟨some 22, .mov (.t 21), none, 0⟩,
    ⟨some 23, .mov (.t 3), some (22, false), 0⟩,
    ⟨some 24, .bin .gtr .num (.t 23) (.c (.sc (.int .i64 0))), some (22, false), 0⟩,
    ⟨some 25, .mov (.t 24), some (22, false), 0⟩,
    ⟨some 26, .mov (.t 0), some (25, true), 0⟩,
    ⟨some 27, .mov (.t 3), some (25, true), 0⟩,
    ⟨some 28, .bin .sub .num (.t 27) (.c (.sc (.int .i64 1))), some (25, true), 0⟩,
    ⟨some 29, .iadS 41 (.t 26) (.t 28), some (25, true), 0⟩,
    ⟨some 30, .fad (.t 29) 0, some (25, true), 0⟩,
    ⟨some 31, .load false 1 (.t 30), some (25, true), 0⟩,
    ⟨some 32, .fad (.t 4) 0, some (25, true), 0⟩,
    ⟨some 33, .load false 1 (.t 32), some (25, true), 0⟩,
    ⟨some 34, .bin .geq .str (.t 31) (.t 33), some (25, true), 0⟩,
    ⟨some 35, .pick (.t 25) (.t 34) (.c (.sc (.bool false))), some (22, false), 0⟩,
    ⟨some 36, .pick (.t 22) (.c (.sc (.bool true))) (.t 35), none, 0⟩]) (.cond (.t 36) (.seq (.region [⟨some 2, .mov (.c (.sc (.bool false))), none, 0⟩]) (.ret [2])) .skip)))) (.region [⟨some 37, .bin .add .num (.t 7) (.c (.sc (.int .i64 1))), none, 0⟩,
    ⟨some 7, .mov (.t 37), none, 0⟩]))))
def b17_0 : Cd := b17_0F
def g17F (c0 : Cd) : Fn := ⟨41, [.t 2], [.s], .lit,
  (.seq (.region [⟨some 2, .mov (.c (.sc (.bool false))), none, 0⟩]) (.seq (.seq (.region [⟨some 5, .mov (.t 0), none, 0⟩,
    ⟨some 6, .len false (.t 5), none, 0⟩,
    ⟨some 7, .mov (.c (.sc (.int .i64 0))), none, 0⟩]) (.block 0 (.loop [6, 5, 7, 0] c0))) (.seq (.region [⟨some 38, .mov (.t 0), none, 0⟩,
    ⟨some 39, .len false (.t 38), none, 0⟩,
    ⟨some 40, .bin .leq .num (.t 39) (.c (.sc (.int .i64 64))), none, 0⟩,
    ⟨some 2, .mov (.t 40), none, 0⟩]) (.ret [2]))))⟩
def g17 : Fn := g17F b17_0
theorem cmp17 : cmpFn Tryd.prog .lit [1000016] 17 = some g17 := by kernel_rfl
def b18_0F : Cd := (.seq (.seq (.region [⟨some 4, .mov (.t 3), none, 0⟩,
    ⟨some 5, .mov (.t 0), none, 0⟩,
    ⟨some 6, .len false (.t 5), none, 0⟩,
    ⟨some 7, .bin .lss .num (.t 4) (.t 6), none, 0⟩]) (.cond (.t 7) .skip (.exit 0 [0]))) (.seq (.block 1 (.seq (.region [⟨some 10, .mov (.t 0), none, 0⟩,
    ⟨some 11, .mov (.t 3), none, 0⟩,
    ⟨some 12, .iadS 41 (.t 10) (.t 11), none, 0⟩,
    ⟨some 13, .fad (.t 12) 0, none, 0⟩,
    ⟨some 14, .load false 1 (.t 13), none, 0⟩,
    ⟨some 15, .call 39 [.s] [.t 14], none, 0⟩,
    ⟨some 16, .un .not (.t 15), none, 0⟩,
    ⟨some 17, .mov (.t 16), none, 0⟩,
    ⟨some 18, .mov (.t 0), some (17, false), 0⟩,
    ⟨some 19, .mov (.t 3), some (17, false), 0⟩,
    ⟨some 20, .iadS 41 (.t 18) (.t 19), some (17, false), 0⟩,
    ⟨some 21, .fad (.t 20) 1, some (17, false), 0⟩,
    ⟨some 22, .load false 1 (.t 21), some (17, false), 0⟩,
    ⟨some 23, .len true (.t 22), some (17, false), 0⟩,
    ⟨some 24, .bin .gtr .num (.t 23) (.c (.sc (.int .i64 512))), some (17, false), 0⟩,
    ⟨some 25, .pick (.t 17) (.c (.sc (.bool true))) (.t 24), none, 0⟩,
    ⟨some 26, .mov (.t 25), none, 0⟩,
    ⟨some 27, .mov (.t 3), some (26, false), 0⟩,
    ⟨some 28, .bin .gtr .num (.t 27) (.c (.sc (.int .i64 0))), some (26, false), 0⟩,
    ⟨some 29, .mov (.t 28), some (26, false), 0⟩,
    ⟨some 30, .mov (.t 0), some (29, true), 0⟩,
    ⟨some 31, .mov (.t 3), some (29, true), 0⟩,
    ⟨some 32, .bin .sub .num (.t 31) (.c (.sc (.int .i64 1))), some (29, true), 0⟩,
    ⟨some 33, .iadS 41 (.t 30) (.t 32), some (29, true), 0⟩,
    ⟨some 34, .fad (.t 33) 0, some (29, true), 0⟩,
    ⟨some 35, .load false 1 (.t 34), some (29, true), 0⟩,
    ⟨some 36, .mov (.t 0), some (29, true), 0⟩,
    ⟨some 37, .mov (.t 3), some (29, true), 0⟩,
    ⟨some 38, .iadS 41 (.t 36) (.t 37), some (29, true), 0⟩,
    ⟨some 39, .fad (.t 38) 0, some (29, true), 0⟩,
    ⟨some 40, .load false 1 (.t 39), some (29, true), 0⟩,
    ⟨some 41, .call 41 [.s, .s] [.t 35, .t 40], some (29, true), 0⟩,
    ⟨some 42, .un .not (.t 41), some (29, true), 0⟩,
    ⟨some 43, .pick (.t 29) (.t 42) (.c (.sc (.bool false))), some (26, false), 0⟩,
    ⟨some 44, .pick (.t 26) (.c (.sc (.bool true))) (.t 43), none, 0⟩]) (.cond (.t 44) (.seq (.region [⟨some 2, .mov (.c (.sc (.bool false))), none, 0⟩]) (.ret [2])) .skip))) (.region [⟨some 8, .mov (.t 3), none, 0⟩,
    ⟨some 9, .bin .add .num (.t 8) (.c (.sc (.int .i64 1))), none, 0⟩,
    ⟨some 3, .mov (.t 9), none, 0⟩])))
def b18_0 : Cd := b18_0F
def g18F (c0 : Cd) : Fn := ⟨48, [.t 2], [.s], .lit,
  (.seq (.region [⟨some 2, .mov (.c (.sc (.bool false))), none, 0⟩]) (.seq (.seq (.region [⟨some 3, .mov (.c (.sc (.int .i64 0))), none, 0⟩]) (.block 0 (.loop [3, 0] c0))) (.seq (.region [⟨some 45, .mov (.t 0), none, 0⟩,
    ⟨some 46, .len false (.t 45), none, 0⟩,
    ⟨some 47, .bin .lss .num (.t 46) (.c (.sc (.int .i64 65))), none, 0⟩,
    ⟨some 2, .mov (.t 47), none, 0⟩]) (.ret [2]))))⟩
def g18 : Fn := g18F b18_0
theorem cmp18 : cmpFn Tryd.prog .lit [1000016] 18 = some g18 := by kernel_rfl
def b19_0F : Cd := (.seq (.region [⟨some 17, .bin .lss .num (.t 16) (.t 15), none, 0⟩]) (.seq (.cond (.t 17) .skip (.exit 0 [6, 7])) (.seq (.block 1 (.seq (.region [⟨some 18, .iadS 41 (.t 14) (.t 16), none, 0⟩,
    ⟨some 19, .load true 2 (.t 18), none, 0⟩,
    ⟨some 9, .box 41 2 (.c (.agg [.sc (.string ⟨#[]⟩), .sc (.string ⟨#[]⟩)])), none, 0⟩,
    ⟨none, .store 2 (.t 9) (.t 19), none, 0⟩]) (.seq (.seq (.region [⟨some 20, .mov (.t 6), none, 0⟩,
    ⟨some 21, .fad (.t 9) 0, none, 0⟩,
    ⟨some 22, .load false 1 (.t 21), none, 0⟩,
    ⟨some 23, .call 34 [.l 41, .s] [.t 20, .t 22], none, 0⟩,
    ⟨some 24, .bin .geq .num (.t 23) (.c (.sc (.int .i64 0))), none, 0⟩]) (.cond (.t 24) (.exit 1 [16, 15, 14, 6, 7]) .skip)) (.seq (.region [⟨some 26, .mov (.t 6), none, 0⟩,
    ⟨some 27, .fad (.t 9) 0, none, 0⟩,
    ⟨some 28, .load false 1 (.t 27), none, 0⟩,
    ⟨some 29, .fad (.t 9) 1, none, 0⟩,
    ⟨some 30, .load false 1 (.t 29), none, 0⟩,
    ⟨some 31, .call 12 [.l 41, .s, .s] [.t 26, .t 28, .t 30], none, 0⟩,
    ⟨some 25, .mov (.t 31), none, 0⟩,
    ⟨some 32, .ext (.t 25) 0, none, 0⟩,
    ⟨some 33, .ext (.t 25) 1, none, 0⟩,
    ⟨some 10, .mov (.t 32), none, 0⟩,
    ⟨some 11, .mov (.t 33), none, 0⟩]) (.seq (.seq (.region [⟨some 34, .mov (.t 11), none, 0⟩,
    ⟨some 35, .bin .neq .num (.t 34) (.c (.sc (.int .i64 0))), none, 0⟩]) (.cond (.t 35) (.seq (.region [⟨some 36, .mov (.t 11), none, 0⟩,
    ⟨some 7, .mov (.t 36), none, 0⟩]) (.exit 1 [16, 15, 14, 6, 7])) .skip)) (.region [⟨some 37, .mov (.t 10), none, 0⟩,
    ⟨some 6, .mov (.t 37), none, 0⟩])))))) (.region [⟨some 38, .bin .add .num (.t 16) (.c (.sc (.int .i64 1))), none, 0⟩,
    ⟨some 16, .mov (.t 38), none, 0⟩]))))
def b19_0 : Cd := b19_0F
def g19F (c0 : Cd) : Fn := ⟨41, [.t 4, .t 5], [.l 41, .s], .lit,
  (.seq (.region [⟨some 4, .nil 41, none, 0⟩,
    ⟨some 5, .mov (.c (.sc (.int .i64 0))), none, 0⟩]) (.seq (.region [⟨some 12, .mov (.t 0), none, 0⟩,
    ⟨some 13, .call 33 [.l 41] [.t 12], none, 0⟩,
    ⟨some 6, .mov (.t 13), none, 0⟩,
    ⟨some 7, .mov (.c (.sc (.int .i64 0))), none, 0⟩]) (.seq (.seq (.region [⟨some 14, .mov (.t 1), none, 0⟩,
    ⟨some 15, .len false (.t 14), none, 0⟩,
    ⟨some 16, .mov (.c (.sc (.int .i64 0))), none, 0⟩]) (.block 0 (.loop [15, 14, 16, 6, 7] c0))) (.seq (.region [⟨some 39, .mov (.t 6), none, 0⟩,
    ⟨some 40, .mov (.t 7), none, 0⟩,
    ⟨some 4, .mov (.t 39), none, 0⟩,
    ⟨some 5, .mov (.t 40), none, 0⟩]) (.ret [4, 5])))))⟩
def g19 : Fn := g19F b19_0
theorem cmp19 : cmpFn Tryd.prog .lit [1000016, 1000400041] 19 = some g19 := by kernel_rfl
def b20_0F : Cd := (.seq (.seq (.region [⟨some 10, .mov (.t 7), none, 0⟩,
    ⟨some 11, .mov (.t 1), none, 0⟩,
    ⟨some 12, .len false (.t 11), none, 0⟩,
    ⟨some 13, .bin .lss .num (.t 10) (.t 12), none, 0⟩]) (.cond (.t 13) .skip (.exit 0 [0, 6]))) (.seq (.block 1 (.seq (.region [⟨some 16, .mov (.t 0), none, 0⟩,
    ⟨some 17, .mov (.t 1), none, 0⟩,
    ⟨some 18, .mov (.t 7), none, 0⟩,
    ⟨some 19, .iadS 41 (.t 17) (.t 18), none, 0⟩,
    ⟨some 20, .fad (.t 19) 0, none, 0⟩,
    ⟨some 21, .load false 1 (.t 20), none, 0⟩,
    ⟨some 22, .call 40 [.l 41, .s] [.t 16, .t 21], none, 0⟩,
    ⟨some 23, .bin .lss .num (.t 22) (.c (.sc (.int .i64 0))), none, 0⟩]) (.cond (.t 23) (.seq (.region [⟨some 25, .mov (.t 0), none, 0⟩,
    ⟨some 26, .mov (.t 1), none, 0⟩,
    ⟨some 27, .mov (.t 7), none, 0⟩,
    ⟨some 28, .iadS 41 (.t 26) (.t 27), none, 0⟩,
    ⟨some 29, .fad (.t 28) 0, none, 0⟩,
    ⟨some 30, .load false 1 (.t 29), none, 0⟩,
    ⟨some 31, .mov (.t 1), none, 0⟩,
    ⟨some 32, .mov (.t 7), none, 0⟩,
    ⟨some 33, .iadS 41 (.t 31) (.t 32), none, 0⟩,
    ⟨some 34, .fad (.t 33) 1, none, 0⟩,
    ⟨some 35, .load false 1 (.t 34), none, 0⟩,
    ⟨some 36, .call 13 [.l 41, .s, .s] [.t 25, .t 30, .t 35], none, 0⟩,
    ⟨some 24, .mov (.t 36), none, 0⟩,
    ⟨some 37, .ext (.t 24) 0, none, 0⟩,
    ⟨some 38, .ext (.t 24) 1, none, 0⟩,
    ⟨some 8, .mov (.t 37), none, 0⟩,
    ⟨some 9, .mov (.t 38), none, 0⟩]) (.seq (.region [⟨some 39, .mov (.t 8), none, 0⟩,
    ⟨some 0, .mov (.t 39), none, 0⟩]) (.seq (.region [⟨some 40, .mov (.t 9), none, 0⟩,
    ⟨some 41, .bin .neq .num (.t 40) (.c (.sc (.int .i64 0))), none, 0⟩]) (.cond (.t 41) (.region [⟨some 42, .mov (.t 9), none, 0⟩,
    ⟨some 6, .mov (.t 42), none, 0⟩]) .skip)))) .skip))) (.region [⟨some 14, .mov (.t 7), none, 0⟩,
    ⟨some 15, .bin .add .num (.t 14) (.c (.sc (.int .i64 1))), none, 0⟩,
    ⟨some 7, .mov (.t 15), none, 0⟩])))
def b20_0 : Cd := b20_0F
def g20F (c0 : Cd) : Fn := ⟨45, [.t 4, .t 5], [.l 41, .s], .lit,
  (.seq (.region [⟨some 4, .nil 41, none, 0⟩,
    ⟨some 5, .mov (.c (.sc (.int .i64 0))), none, 0⟩]) (.seq (.region [⟨some 6, .mov (.c (.sc (.int .i64 0))), none, 0⟩]) (.seq (.seq (.region [⟨some 7, .mov (.c (.sc (.int .i64 0))), none, 0⟩]) (.block 0 (.loop [1, 7, 0, 6] c0))) (.seq (.region [⟨some 43, .mov (.t 0), none, 0⟩,
    ⟨some 44, .mov (.t 6), none, 0⟩,
    ⟨some 4, .mov (.t 43), none, 0⟩,
    ⟨some 5, .mov (.t 44), none, 0⟩]) (.ret [4, 5])))))⟩
def g20 : Fn := g20F b20_0
theorem cmp20 : cmpFn Tryd.prog .lit [1000016, 1000400041] 20 = some g20 := by kernel_rfl
def g23F : Fn := ⟨11, [.t 6], [.l 41], .lit,
  (.seq (.region [⟨some 4, .box 32 1 (.t 1), none, 0⟩,
    ⟨some 5, .box 32 1 (.t 2), none, 0⟩,
    ⟨some 6, .nil 41, none, 0⟩]) (.seq (.region [⟨some 7, .mov (.t 0), none, 0⟩,
    ⟨some 8, .call 33 [.l 41] [.t 7], none, 0⟩,
    ⟨some 9, .mkfn 44 [.t 4, .t 5], none, 0⟩,
    ⟨some 10, .call 43 [.l 41, .s] [.t 8, .t 9], none, 0⟩,
    ⟨some 6, .mov (.t 10), none, 0⟩]) (.ret [6])))⟩
def g23 : Fn := g23F
theorem cmp23 : cmpFn Tryd.prog .lit [1000016, 1000600041] 23 = some g23 := by kernel_rfl
def b24_0F : Cd := (.seq (.seq (.region [⟨some 9, .mov (.t 8), none, 0⟩,
    ⟨some 10, .mov (.t 0), none, 0⟩,
    ⟨some 11, .len false (.t 10), none, 0⟩,
    ⟨some 12, .bin .lss .num (.t 9) (.t 11), none, 0⟩]) (.cond (.t 12) .skip (.exit 0 [7]))) (.seq (.block 1 (.seq (.region [⟨some 15, .mov (.t 1), none, 0⟩,
    ⟨some 16, .mov (.t 0), none, 0⟩,
    ⟨some 17, .mov (.t 8), none, 0⟩,
    ⟨some 18, .iadS 41 (.t 16) (.t 17), none, 0⟩,
    ⟨some 19, .fad (.t 18) 0, none, 0⟩,
    ⟨some 20, .load false 1 (.t 19), none, 0⟩,
    ⟨some 21, .call 25 [.s] [.t 20], none, 0⟩,
    ⟨some 22, .mov (.t 2), none, 0⟩,
    ⟨some 23, .call 47 [.s, .s, .s] [.t 15, .t 21, .t 22], none, 0⟩]) (.cond (.t 23) (.region [⟨some 24, .mov (.t 7), none, 0⟩,
    ⟨some 25, .mov (.t 0), none, 0⟩,
    ⟨some 26, .mov (.t 8), none, 0⟩,
    ⟨some 27, .iadS 41 (.t 25) (.t 26), none, 0⟩,
    ⟨some 28, .load true 2 (.t 27), none, 0⟩,
    ⟨some 29, .bsl 41 2 (.a [.s, .s]) [.t 28], none, 0⟩,
    ⟨some 30, .app 41 32 (.t 24) (.t 29), none, 0⟩,
    ⟨some 7, .mov (.t 30), none, 0⟩]) .skip))) (.region [⟨some 13, .mov (.t 8), none, 0⟩,
    ⟨some 14, .bin .add .num (.t 13) (.c (.sc (.int .i64 1))), none, 0⟩,
    ⟨some 8, .mov (.t 14), none, 0⟩])))
def b24_0 : Cd := b24_0F
def g24F (c0 : Cd) : Fn := ⟨32, [.t 6], [.l 41], .lit,
  (.seq (.region [⟨some 6, .nil 41, none, 0⟩]) (.seq (.region [⟨some 7, .nil 41, none, 0⟩]) (.seq (.seq (.region [⟨some 8, .mov (.c (.sc (.int .i64 0))), none, 0⟩]) (.block 0 (.loop [1, 2, 0, 8, 7] c0))) (.seq (.region [⟨some 31, .mov (.t 7), none, 0⟩,
    ⟨some 6, .mov (.t 31), none, 0⟩]) (.ret [6])))))⟩
def g24 : Fn := g24F b24_0
theorem cmp24 : cmpFn Tryd.prog .lit [1000016, 1000700041, 1000600041] 24 = some g24 := by kernel_rfl
def g25F : Fn := ⟨6, [.t 2], [.s], .lit,
  (.seq (.region [⟨some 2, .mov (.c (.sc (.int .u64 0))), none, 0⟩]) (.seq (.region [⟨some 3, .mov (.t 0), none, 0⟩,
    ⟨some 4, .call 49 [.s] [.t 3], none, 0⟩,
    ⟨some 5, .call 48 [.s] [.t 4], none, 0⟩,
    ⟨some 2, .mov (.t 5), none, 0⟩]) (.ret [2])))⟩
def g25 : Fn := g25F
theorem cmp25 : cmpFn Tryd.prog .lit [1000016] 25 = some g25 := by kernel_rfl
def g34F : Fn := ⟨8, [.t 4], [.s], .lit,
  (.seq (.region [⟨some 3, .box 9 1 (.t 1), none, 0⟩,
    ⟨some 4, .mov (.c (.sc (.int .i64 0))), none, 0⟩]) (.seq (.region [⟨some 5, .mov (.t 0), none, 0⟩,
    ⟨some 6, .mkfn 73 [.t 3], none, 0⟩,
    ⟨some 7, .call 36 [.l 41, .s] [.t 5, .t 6], none, 0⟩,
    ⟨some 4, .mov (.t 7), none, 0⟩]) (.ret [4])))⟩
def g34 : Fn := g34F
theorem cmp34 : cmpFn Tryd.prog .lit [1000016] 34 = some g34 := by kernel_rfl
def g35F : Fn := ⟨19, [.t 2], [.s], .lit,
  (.seq (.region [⟨some 2, .mov (.c (.sc (.bool false))), none, 0⟩]) (.seq (.region [⟨some 3, .mov (.t 0), none, 0⟩,
    ⟨some 4, .bin .neq .str (.t 3) (.c (.sc (.string ⟨#[]⟩))), none, 0⟩,
    ⟨some 5, .mov (.t 4), none, 0⟩,
    ⟨some 6, .mov (.t 0), some (5, true), 0⟩,
    ⟨some 7, .len true (.t 6), some (5, true), 0⟩,
    ⟨some 8, .bin .leq .num (.t 7) (.c (.sc (.int .i64 96))), some (5, true), 0⟩,
    ⟨some 9, .pick (.t 5) (.t 8) (.c (.sc (.bool false))), none, 0⟩,
    ⟨some 10, .mov (.t 9), none, 0⟩,
    ⟨some 11, .mov (.t 0), some (10, true), 0⟩,
    ⟨some 12, .call 74 [.s] [.t 11], some (10, true), 0⟩,
    ⟨some 13, .pick (.t 10) (.t 12) (.c (.sc (.bool false))), none, 0⟩,
    ⟨some 14, .mov (.t 13), none, 0⟩,
    ⟨some 15, .mov (.t 0), some (14, true), 0⟩,
    ⟨some 16, .call 75 [.s] [.t 15], some (14, true), 0⟩,
    ⟨some 17, .bin .leq .num (.t 16) (.c (.sc (.int .i64 32))), some (14, true), 0⟩,
    ⟨some 18, .pick (.t 14) (.t 17) (.c (.sc (.bool false))), none, 0⟩,
    ⟨some 2, .mov (.t 18), none, 0⟩]) (.ret [2])))⟩
def g35 : Fn := g35F
theorem cmp35 : cmpFn Tryd.prog .lit [1000016] 35 = some g35 := by kernel_rfl
def b36_0F : Cd := (.seq (.region [⟨some 9, .bin .lss .num (.t 8) (.t 7), none, 0⟩]) (.seq (.cond (.t 9) .skip (.exit 0 [])) (.seq (.block 1 (.seq (.region [⟨some 10, .mov (.t 8), none, 0⟩,
    ⟨some 5, .mov (.t 10), none, 0⟩]) (.seq (.region [⟨some 11, .mov (.t 1), none, 0⟩,
    ⟨some 12, .mov (.t 0), none, 0⟩,
    ⟨some 13, .mov (.t 5), none, 0⟩,
    ⟨some 14, .iadS 41 (.t 12) (.t 13), none, 0⟩,
    ⟨some 15, .load true 2 (.t 14), none, 0⟩,
    ⟨some 16, .callv (.t 11) [.t 15], none, 0⟩]) (.cond (.t 16) (.seq (.region [⟨some 17, .mov (.t 5), none, 0⟩,
    ⟨some 4, .mov (.t 17), none, 0⟩]) (.ret [4])) .skip)))) (.region [⟨some 18, .bin .add .num (.t 8) (.c (.sc (.int .i64 1))), none, 0⟩,
    ⟨some 8, .mov (.t 18), none, 0⟩]))))
def b36_0 : Cd := b36_0F
def g36F (c0 : Cd) : Fn := ⟨19, [.t 4], [.s], .lit,
  (.seq (.region [⟨some 4, .mov (.c (.sc (.int .i64 0))), none, 0⟩]) (.seq (.seq (.region [⟨some 6, .mov (.t 0), none, 0⟩,
    ⟨some 7, .len false (.t 6), none, 0⟩,
    ⟨some 8, .mov (.c (.sc (.int .i64 0))), none, 0⟩]) (.block 0 (.loop [7, 1, 0, 8] c0))) (.seq (.region [⟨some 4, .mov (.c (.sc (.int .i64 (-1)))), none, 0⟩]) (.ret [4]))))⟩
def g36 : Fn := g36F b36_0
theorem cmp36 : cmpFn Tryd.prog .lit [1000016] 36 = some g36 := by kernel_rfl
def g37F : Fn := ⟨8, [.t 3], [.s], .lit,
  (.seq (.region [⟨some 2, .box 41 2 (.t 0), none, 0⟩,
    ⟨some 3, .mov (.c (.sc (.bool false))), none, 0⟩]) (.seq (.region [⟨some 4, .fad (.t 2) 0, none, 0⟩,
    ⟨some 5, .load false 1 (.t 4), none, 0⟩,
    ⟨some 6, .load false 1 (.t 1), none, 0⟩,
    ⟨some 7, .bin .gtr .str (.t 5) (.t 6), none, 0⟩,
    ⟨some 3, .mov (.t 7), none, 0⟩]) (.ret [3])))⟩
def g37 : Fn := g37F
theorem cmp37 : cmpFn Tryd.prog .lit [1000016] 37 = some g37 := by kernel_rfl
def g39F : Fn := ⟨21, [.t 2], [.s], .lit,
  (.seq (.region [⟨some 2, .mov (.c (.sc (.bool false))), none, 0⟩]) (.seq (.region [⟨some 3, .mov (.t 0), none, 0⟩,
    ⟨some 4, .len true (.t 3), none, 0⟩,
    ⟨some 5, .bin .gtr .num (.t 4) (.c (.sc (.int .i64 0))), none, 0⟩,
    ⟨some 6, .mov (.t 5), none, 0⟩,
    ⟨some 7, .mov (.t 0), some (6, true), 0⟩,
    ⟨some 8, .len true (.t 7), some (6, true), 0⟩,
    ⟨some 9, .bin .lss .num (.t 8) (.c (.sc (.int .i64 97))), some (6, true), 0⟩,
    ⟨some 10, .pick (.t 6) (.t 9) (.c (.sc (.bool false))), none, 0⟩,
    ⟨some 11, .mov (.t 10), none, 0⟩,
    ⟨some 12, .mov (.t 0), some (11, true), 0⟩,
    ⟨some 13, .call 78 [.s] [.t 12], some (11, true), 0⟩,
    ⟨some 14, .pick (.t 11) (.t 13) (.c (.sc (.bool false))), none, 0⟩,
    ⟨some 15, .mov (.t 14), none, 0⟩,
    ⟨some 16, .mov (.t 0), some (15, true), 0⟩,
    ⟨some 17, .call 79 [.s] [.t 16], some (15, true), 0⟩,
    ⟨some 18, .len false (.t 17), some (15, true), 0⟩,
    ⟨some 19, .bin .lss .num (.t 18) (.c (.sc (.int .i64 33))), some (15, true), 0⟩,
    ⟨some 20, .pick (.t 15) (.t 19) (.c (.sc (.bool false))), none, 0⟩,
    ⟨some 2, .mov (.t 20), none, 0⟩]) (.ret [2])))⟩
def g39 : Fn := g39F
theorem cmp39 : cmpFn Tryd.prog .lit [1000016] 39 = some g39 := by kernel_rfl
def b40_0F : Cd := (.seq (.seq (.region [⟨some 6, .mov (.t 5), none, 0⟩,
    ⟨some 7, .mov (.t 0), none, 0⟩,
    ⟨some 8, .len false (.t 7), none, 0⟩,
    ⟨some 9, .bin .lss .num (.t 6) (.t 8), none, 0⟩]) (.cond (.t 9) .skip (.exit 0 []))) (.seq (.block 1 (.seq (.region [⟨some 12, .mov (.t 0), none, 0⟩,
    ⟨some 13, .mov (.t 5), none, 0⟩,
    ⟨some 14, .iadS 41 (.t 12) (.t 13), none, 0⟩,
    ⟨some 15, .fad (.t 14) 0, none, 0⟩,
    ⟨some 16, .load false 1 (.t 15), none, 0⟩,
    ⟨some 17, .mov (.t 1), none, 0⟩,
    ⟨some 18, .bin .eql .str (.t 16) (.t 17), none, 0⟩]) (.cond (.t 18) (.seq (.region [⟨some 19, .mov (.t 5), none, 0⟩,
    ⟨some 4, .mov (.t 19), none, 0⟩]) (.ret [4])) .skip))) (.region [⟨some 10, .mov (.t 5), none, 0⟩,
    ⟨some 11, .bin .add .num (.t 10) (.c (.sc (.int .i64 1))), none, 0⟩,
    ⟨some 5, .mov (.t 11), none, 0⟩])))
def b40_0 : Cd := b40_0F
def g40F (c0 : Cd) : Fn := ⟨20, [.t 4], [.s], .lit,
  (.seq (.region [⟨some 4, .mov (.c (.sc (.int .i64 0))), none, 0⟩]) (.seq (.seq (.region [⟨some 5, .mov (.c (.sc (.int .i64 0))), none, 0⟩]) (.block 0 (.loop [0, 1, 5] c0))) (.seq (.region [⟨some 4, .mov (.c (.sc (.int .i64 (-1)))), none, 0⟩]) (.ret [4]))))⟩
def g40 : Fn := g40F b40_0
theorem cmp40 : cmpFn Tryd.prog .lit [1000016] 40 = some g40 := by kernel_rfl
def b41_0F : Cd := (.seq (.block 1 (.seq (.region [⟨some 18, .mov (.t 0), none, 0⟩,
    ⟨some 19, .mov (.t 5), none, 0⟩,
    ⟨some 20, .sidx (.t 18) (.t 19), none, 0⟩,
    ⟨some 21, .mov (.t 1), none, 0⟩,
    ⟨some 22, .mov (.t 5), none, 0⟩,
    ⟨some 23, .sidx (.t 21) (.t 22), none, 0⟩,
    ⟨some 24, .bin .neq .num (.t 20) (.t 23), none, 0⟩]) (.cond (.t 24) (.seq (.region [⟨some 25, .mov (.t 0), none, 0⟩,
    ⟨some 26, .mov (.t 5), none, 0⟩,
    ⟨some 27, .sidx (.t 25) (.t 26), none, 0⟩,
    ⟨some 28, .mov (.t 1), none, 0⟩,
    ⟨some 29, .mov (.t 5), none, 0⟩,
    ⟨some 30, .sidx (.t 28) (.t 29), none, 0⟩,
    ⟨some 31, .bin .lss .num (.t 27) (.t 30), none, 0⟩,
    ⟨some 4, .mov (.t 31), none, 0⟩]) (.ret [4])) .skip))) (.region [⟨some 16, .mov (.t 5), none, 0⟩,
    ⟨some 17, .bin .add .num (.t 16) (.c (.sc (.int .i64 1))), none, 0⟩,
    ⟨some 5, .mov (.t 17), none, 0⟩]))
def b41_0 : Cd := b41_0F
def b41_1F (c0 : Cd) : Cd := (.seq (.seq (.region [⟨some 6, .mov (.t 5), none, 0⟩,
    ⟨some 7, .mov (.t 0), none, 0⟩,
    ⟨some 8, .len true (.t 7), none, 0⟩,
    ⟨some 9, .bin .lss .num (.t 6) (.t 8), none, 0⟩,
    ⟨some 10, .mov (.t 9), none, 0⟩,
    ⟨some 11, .mov (.t 5), some (10, true), 0⟩,
    ⟨some 12, .mov (.t 1), some (10, true), 0⟩,
    ⟨some 13, .len true (.t 12), some (10, true), 0⟩,
    ⟨some 14, .bin .lss .num (.t 11) (.t 13), some (10, true), 0⟩,
    ⟨some 15, .pick (.t 10) (.t 14) (.c (.sc (.bool false))), none, 0⟩]) (.cond (.t 15) .skip (.exit 0 [0, 1]))) (.seg [5, 0, 1] [5, 0, 1] c0))
def b41_1 : Cd := b41_1F b41_0
def g41F (c1 : Cd) : Fn := ⟨37, [.t 4], [.s], .lit,
  (.seq (.region [⟨some 4, .mov (.c (.sc (.bool false))), none, 0⟩]) (.seq (.seq (.region [⟨some 5, .mov (.c (.sc (.int .i64 0))), none, 0⟩]) (.block 0 (.loop [5, 0, 1] c1))) (.seq (.region [⟨some 32, .mov (.t 0), none, 0⟩,
    ⟨some 33, .len true (.t 32), none, 0⟩,
    ⟨some 34, .mov (.t 1), none, 0⟩,
    ⟨some 35, .len true (.t 34), none, 0⟩,
    ⟨some 36, .bin .lss .num (.t 33) (.t 35), none, 0⟩,
    ⟨some 4, .mov (.t 36), none, 0⟩]) (.ret [4]))))⟩
def g41 : Fn := g41F b41_1
theorem cmp41 : cmpFn Tryd.prog .lit [1000016] 41 = some g41 := by kernel_rfl
def b43_0F : Cd := (.seq (.seq (.region [⟨some 16, .mov (.t 6), none, 0⟩,
    ⟨some 17, .mov (.t 0), none, 0⟩,
    ⟨some 18, .len false (.t 17), none, 0⟩,
    ⟨some 19, .bin .lss .num (.t 16) (.t 18), none, 0⟩]) (.cond (.t 19) .skip (.exit 0 [0, 5]))) (.seq (.block 1 (.seq (.region [⟨some 22, .mov (.t 0), none, 0⟩,
    ⟨some 23, .mov (.t 6), none, 0⟩,
    ⟨some 24, .iadS 41 (.t 22) (.t 23), none, 0⟩,
    ⟨some 25, .load true 2 (.t 24), none, 0⟩,
    ⟨some 7, .box 41 2 (.c (.agg [.sc (.string ⟨#[]⟩), .sc (.string ⟨#[]⟩)])), none, 0⟩,
    ⟨none, .store 2 (.t 7) (.t 25), none, 0⟩]) (.seq (.region [⟨some 26, .mov (.t 1), none, 0⟩,
    ⟨some 27, .load true 2 (.t 7), none, 0⟩,
    ⟨some 28, .callv (.t 26) [.t 27], none, 0⟩,
    ⟨some 29, .un .not (.t 28), none, 0⟩]) (.cond (.t 29) (.seq (.region [⟨some 30, .mov (.t 0), none, 0⟩,
    ⟨some 31, .mov (.t 5), none, 0⟩,
    ⟨some 32, .load true 2 (.t 7), none, 0⟩,
    ⟨some 33, .iadS 41 (.t 30) (.t 31), none, 0⟩,
    ⟨none, .store 2 (.t 33) (.t 32), none, 0⟩]) (.region [⟨some 34, .mov (.t 5), none, 0⟩,
    ⟨some 35, .bin .add .num (.t 34) (.c (.sc (.int .i64 1))), none, 0⟩,
    ⟨some 5, .mov (.t 35), none, 0⟩])) .skip)))) (.region [⟨some 20, .mov (.t 6), none, 0⟩,
    ⟨some 21, .bin .add .num (.t 20) (.c (.sc (.int .i64 1))), none, 0⟩,
    ⟨some 6, .mov (.t 21), none, 0⟩])))
def b43_0 : Cd := b43_0F
def g43F (c0 : Cd) : Fn := ⟨42, [.t 4], [.l 41], .mv,
  (.seq (.region [⟨some 4, .nil 41, none, 0⟩]) (.seq (.region [⟨some 8, .mov (.t 0), none, 0⟩,
    ⟨some 9, .mov (.t 1), none, 0⟩,
    ⟨some 10, .call 36 [.l 41, .s] [.t 8, .t 9], none, 0⟩,
    ⟨some 5, .mov (.t 10), none, 0⟩]) (.seq (.seq (.region [⟨some 11, .mov (.t 5), none, 0⟩,
    ⟨some 12, .bin .eql .num (.t 11) (.c (.sc (.int .i64 (-1)))), none, 0⟩]) (.cond (.t 12) (.seq (.region [⟨some 13, .mov (.t 0), none, 0⟩,
    ⟨some 4, .mov (.t 13), none, 0⟩]) (.ret [4])) .skip)) (.seq (.seq (.region [⟨some 14, .mov (.t 5), none, 0⟩,
    ⟨some 15, .bin .add .num (.t 14) (.c (.sc (.int .i64 1))), none, 0⟩,
    ⟨some 6, .mov (.t 15), none, 0⟩]) (.block 0 (.loop [1, 6, 0, 5] c0))) (.seq (.region [⟨some 36, .mov (.t 0), none, 0⟩,
    ⟨some 37, .mov (.t 5), none, 0⟩,
    ⟨some 38, .sls 41 (.t 36) (some (.t 37)) none, none, 0⟩,
    ⟨none, .clr 41 (.agg [.sc (.string ⟨#[]⟩), .sc (.string ⟨#[]⟩)]) (.t 38), none, 0⟩]) (.seq (.region [⟨some 39, .mov (.t 0), none, 0⟩,
    ⟨some 40, .mov (.t 5), none, 0⟩,
    ⟨some 41, .sls 41 (.t 39) none (some (.t 40)), none, 0⟩,
    ⟨some 4, .mov (.t 41), none, 0⟩]) (.ret [4])))))))⟩
def g43 : Fn := g43F b43_0
theorem cmp43 : cmpFn Tryd.prog .mv [1000016, 1000400041] 43 = some g43 := by kernel_rfl
def g44F : Fn := ⟨12, [.t 4], [.s], .lit,
  (.seq (.region [⟨some 3, .box 41 2 (.t 0), none, 0⟩,
    ⟨some 4, .mov (.c (.sc (.bool false))), none, 0⟩]) (.seq (.region [⟨some 5, .load false 1 (.t 1), none, 2⟩,
    ⟨some 6, .fad (.t 3) 0, none, 0⟩,
    ⟨some 7, .load false 1 (.t 6), none, 0⟩,
    ⟨some 8, .call 46 [.s] [.t 7], none, 1⟩,
    ⟨some 9, .load false 1 (.t 2), none, 2⟩,
    ⟨some 10, .call 45 [.s, .s, .s] [.t 5, .t 8, .t 9], none, 0⟩,
    ⟨some 11, .un .not (.t 10), none, 0⟩,
    ⟨some 4, .mov (.t 11), none, 0⟩]) (.ret [4])))⟩
def g44 : Fn := g44F
theorem cmp44 : cmpFn Tryd.prog .lit [1000016] 44 = some g44 := by kernel_rfl
def g45F : Fn := ⟨21, [.t 6], [.s], .lit,
  (.seq (.region [⟨some 6, .mov (.c (.sc (.bool false))), none, 0⟩]) (.seq (.region [⟨some 7, .mov (.t 0), none, 0⟩,
    ⟨some 8, .mov (.t 2), none, 0⟩,
    ⟨some 9, .bin .eql .num (.t 7) (.t 8), none, 0⟩,
    ⟨some 10, .mov (.t 9), none, 0⟩,
    ⟨some 11, .mov (.t 1), some (10, false), 0⟩,
    ⟨some 12, .mov (.t 2), some (10, false), 0⟩,
    ⟨some 13, .bin .eql .num (.t 11) (.t 12), some (10, false), 0⟩,
    ⟨some 14, .pick (.t 10) (.c (.sc (.bool true))) (.t 13), none, 0⟩,
    ⟨some 15, .mov (.t 14), none, 0⟩,
    ⟨some 16, .mov (.t 0), some (15, false), 0⟩,
    ⟨some 17, .mov (.t 1), some (15, false), 0⟩,
    ⟨some 18, .mov (.t 2), some (15, false), 0⟩,
    ⟨some 19, .call 81 [.s, .s, .s] [.t 16, .t 17, .t 18], some (15, false), 0⟩,
    ⟨some 20, .pick (.t 15) (.c (.sc (.bool true))) (.t 19), none, 0⟩,
    ⟨some 6, .mov (.t 20), none, 0⟩]) (.ret [6])))⟩
def g45 : Fn := g45F
theorem cmp45 : cmpFn Tryd.prog .lit [1000016] 45 = some g45 := by kernel_rfl
def g46F : Fn := ⟨6, [.t 2], [.s], .lit,
  (.seq (.region [⟨some 2, .mov (.c (.sc (.int .u64 0))), none, 0⟩]) (.seq (.region [⟨some 3, .mov (.t 0), none, 0⟩,
    ⟨some 4, .call 83 [.s] [.t 3], none, 0⟩,
    ⟨some 5, .call 82 [.s] [.t 4], none, 0⟩,
    ⟨some 2, .mov (.t 5), none, 0⟩]) (.ret [2])))⟩
def g46 : Fn := g46F
theorem cmp46 : cmpFn Tryd.prog .lit [1000016] 46 = some g46 := by kernel_rfl
def g47F : Fn := ⟨29, [.t 6], [.s], .lit,
  (.seq (.region [⟨some 6, .mov (.c (.sc (.bool false))), none, 0⟩]) (.seq (.seq (.region [⟨some 7, .mov (.t 0), none, 0⟩,
    ⟨some 8, .mov (.t 2), none, 0⟩,
    ⟨some 9, .bin .lss .num (.t 7) (.t 8), none, 0⟩]) (.cond (.t 9) (.seq (.region [⟨some 10, .mov (.t 0), none, 0⟩,
    ⟨some 11, .mov (.t 1), none, 0⟩,
    ⟨some 12, .bin .lss .num (.t 10) (.t 11), none, 0⟩,
    ⟨some 13, .mov (.t 12), none, 0⟩,
    ⟨some 14, .mov (.t 1), some (13, true), 0⟩,
    ⟨some 15, .mov (.t 2), some (13, true), 0⟩,
    ⟨some 16, .bin .leq .num (.t 14) (.t 15), some (13, true), 0⟩,
    ⟨some 17, .pick (.t 13) (.t 16) (.c (.sc (.bool false))), none, 0⟩,
    ⟨some 6, .mov (.t 17), none, 0⟩]) (.ret [6])) .skip)) (.seq (.seq (.region [⟨some 18, .mov (.t 0), none, 0⟩,
    ⟨some 19, .mov (.t 2), none, 0⟩,
    ⟨some 20, .bin .gtr .num (.t 18) (.t 19), none, 0⟩]) (.cond (.t 20) (.seq (.region [⟨some 21, .mov (.t 1), none, 0⟩,
    ⟨some 22, .mov (.t 0), none, 0⟩,
    ⟨some 23, .bin .gtr .num (.t 21) (.t 22), none, 0⟩,
    ⟨some 24, .mov (.t 23), none, 0⟩,
    ⟨some 25, .mov (.t 1), some (24, false), 0⟩,
    ⟨some 26, .mov (.t 2), some (24, false), 0⟩,
    ⟨some 27, .bin .leq .num (.t 25) (.t 26), some (24, false), 0⟩,
    ⟨some 28, .pick (.t 24) (.c (.sc (.bool true))) (.t 27), none, 0⟩,
    ⟨some 6, .mov (.t 28), none, 0⟩]) (.ret [6])) .skip)) (.seq (.region [⟨some 6, .mov (.c (.sc (.bool true))), none, 0⟩]) (.ret [6])))))⟩
def g47 : Fn := g47F
theorem cmp47 : cmpFn Tryd.prog .lit [1000016] 47 = some g47 := by kernel_rfl
def g48F : Fn := ⟨19, [.t 2], [.s], .lit,
  (.seq (.region [⟨some 2, .mov (.c (.sc (.int .u64 0))), none, 0⟩]) (.seq (.region [⟨some 3, .mov (.t 0), none, 0⟩,
    ⟨some 4, .mov (.t 0), none, 0⟩,
    ⟨some 5, .call 84 [.s, .s] [.t 4, .c (.sc (.int .i64 30))], none, 0⟩,
    ⟨some 6, .bin .xor .num (.t 3) (.t 5), none, 0⟩,
    ⟨some 0, .mov (.t 6), none, 0⟩]) (.seq (.region [⟨some 7, .mov (.t 0), none, 0⟩,
    ⟨some 8, .bin .mul .num (.t 7) (.c (.sc (.int .u64 13787848793156543929))), none, 0⟩,
    ⟨some 0, .mov (.t 8), none, 0⟩]) (.seq (.region [⟨some 9, .mov (.t 0), none, 0⟩,
    ⟨some 10, .mov (.t 0), none, 0⟩,
    ⟨some 11, .call 84 [.s, .s] [.t 10, .c (.sc (.int .i64 27))], none, 0⟩,
    ⟨some 12, .bin .xor .num (.t 9) (.t 11), none, 0⟩,
    ⟨some 0, .mov (.t 12), none, 0⟩]) (.seq (.region [⟨some 13, .mov (.t 0), none, 0⟩,
    ⟨some 14, .bin .mul .num (.t 13) (.c (.sc (.int .u64 10723151780598845931))), none, 0⟩,
    ⟨some 0, .mov (.t 14), none, 0⟩]) (.seq (.region [⟨some 15, .mov (.t 0), none, 0⟩,
    ⟨some 16, .mov (.t 0), none, 0⟩,
    ⟨some 17, .call 84 [.s, .s] [.t 16, .c (.sc (.int .i64 31))], none, 0⟩,
    ⟨some 18, .bin .xor .num (.t 15) (.t 17), none, 0⟩,
    ⟨some 2, .mov (.t 18), none, 0⟩]) (.ret [2])))))))⟩
def g48 : Fn := g48F
theorem cmp48 : cmpFn Tryd.prog .lit [1000016] 48 = some g48 := by kernel_rfl
def b49_0F : Cd := (.seq (.seq (.region [⟨some 5, .mov (.t 4), none, 0⟩,
    ⟨some 6, .mov (.t 0), none, 0⟩,
    ⟨some 7, .len true (.t 6), none, 0⟩,
    ⟨some 8, .bin .lss .num (.t 5) (.t 7), none, 0⟩]) (.cond (.t 8) .skip (.exit 0 [3]))) (.seq (.block 1 (.seq (.region [⟨some 11, .mov (.t 3), none, 0⟩,
    ⟨some 12, .mov (.t 0), none, 0⟩,
    ⟨some 13, .mov (.t 4), none, 0⟩,
    ⟨some 14, .sidx (.t 12) (.t 13), none, 0⟩,
    ⟨some 15, .conv .u64 (.t 14), none, 0⟩,
    ⟨some 16, .bin .xor .num (.t 11) (.t 15), none, 0⟩,
    ⟨some 3, .mov (.t 16), none, 0⟩]) (.region [⟨some 17, .mov (.t 3), none, 0⟩,
    ⟨some 18, .bin .mul .num (.t 17) (.c (.sc (.int .u64 1099511628211))), none, 0⟩,
    ⟨some 3, .mov (.t 18), none, 0⟩]))) (.region [⟨some 9, .mov (.t 4), none, 0⟩,
    ⟨some 10, .bin .add .num (.t 9) (.c (.sc (.int .i64 1))), none, 0⟩,
    ⟨some 4, .mov (.t 10), none, 0⟩])))
def b49_0 : Cd := b49_0F
def g49F (c0 : Cd) : Fn := ⟨20, [.t 2], [.s], .lit,
  (.seq (.region [⟨some 2, .mov (.c (.sc (.int .u64 0))), none, 0⟩]) (.seq (.region [⟨some 3, .mov (.c (.sc (.int .u64 14695981039346656037))), none, 0⟩]) (.seq (.seq (.region [⟨some 4, .mov (.c (.sc (.int .i64 0))), none, 0⟩]) (.block 0 (.loop [0, 4, 3] c0))) (.seq (.region [⟨some 19, .mov (.t 3), none, 0⟩,
    ⟨some 2, .mov (.t 19), none, 0⟩]) (.ret [2])))))⟩
def g49 : Fn := g49F b49_0
theorem cmp49 : cmpFn Tryd.prog .lit [1000016] 49 = some g49 := by kernel_rfl
def g73F : Fn := ⟨8, [.t 3], [.s], .lit,
  (.seq (.region [⟨some 2, .box 41 2 (.t 0), none, 0⟩,
    ⟨some 3, .mov (.c (.sc (.bool false))), none, 0⟩]) (.seq (.region [⟨some 4, .fad (.t 2) 0, none, 0⟩,
    ⟨some 5, .load false 1 (.t 4), none, 0⟩,
    ⟨some 6, .load false 1 (.t 1), none, 0⟩,
    ⟨some 7, .bin .eql .str (.t 5) (.t 6), none, 0⟩,
    ⟨some 3, .mov (.t 7), none, 0⟩]) (.ret [3])))⟩
def g73 : Fn := g73F
theorem cmp73 : cmpFn Tryd.prog .lit [1000016] 73 = some g73 := by kernel_rfl
def b74_0F : Cd := (.seq (.region [⟨some 7, .nxt (.t 6), none, 0⟩,
    ⟨some 8, .ext (.t 7) 0, none, 0⟩]) (.seq (.cond (.t 8) .skip (.exit 0 [])) (.block 1 (.seq (.region [⟨some 9, .ext (.t 7) 1, none, 0⟩,
    ⟨some 10, .ext (.t 7) 2, none, 0⟩,
    ⟨some 3, .mov (.t 9), none, 0⟩,
    ⟨some 4, .mov (.t 10), none, 0⟩]) (.seq (.region [⟨some 11, .mov (.t 0), none, 0⟩,
    ⟨some 12, .mov (.t 3), none, 0⟩,
    ⟨some 13, .mov (.t 4), none, 0⟩,
    ⟨some 14, .call 111 [.s, .s, .s] [.t 11, .t 12, .t 13], none, 0⟩]) (.cond (.t 14) (.seq (.region [⟨some 2, .mov (.c (.sc (.bool false))), none, 0⟩]) (.ret [2])) .skip))))))
def b74_0 : Cd := b74_0F
def g74F (c0 : Cd) : Fn := ⟨15, [.t 2], [.s], .lit,
  (.seq (.region [⟨some 2, .mov (.c (.sc (.bool false))), none, 0⟩]) (.seq (.seq (.region [⟨some 5, .mov (.t 0), none, 0⟩,
    ⟨some 6, .rng (.t 5), none, 0⟩]) (.block 0 (.loop [6, 0] c0))) (.seq (.region [⟨some 2, .mov (.c (.sc (.bool true))), none, 0⟩]) (.ret [2]))))⟩
def g74 : Fn := g74F b74_0
theorem cmp74 : cmpFn Tryd.prog .lit [1000016] 74 = some g74 := by kernel_rfl
def b75_0F : Cd := (.seq (.region [⟨some 6, .nxt (.t 5), none, 0⟩,
    ⟨some 7, .ext (.t 6) 0, none, 0⟩]) (.seq (.cond (.t 7) .skip (.exit 0 [3])) (.block 1 (.region [⟨some 8, .mov (.t 3), none, 0⟩,
    ⟨some 9, .bin .add .num (.t 8) (.c (.sc (.int .i64 1))), none, 0⟩,
    ⟨some 3, .mov (.t 9), none, 0⟩]))))
def b75_0 : Cd := b75_0F
def g75F (c0 : Cd) : Fn := ⟨11, [.t 2], [.s], .lit,
  (.seq (.region [⟨some 2, .mov (.c (.sc (.int .i64 0))), none, 0⟩]) (.seq (.region [⟨some 3, .mov (.c (.sc (.int .i64 0))), none, 0⟩]) (.seq (.seq (.region [⟨some 4, .mov (.t 0), none, 0⟩,
    ⟨some 5, .rng (.t 4), none, 0⟩]) (.block 0 (.loop [5, 3] c0))) (.seq (.region [⟨some 10, .mov (.t 3), none, 0⟩,
    ⟨some 2, .mov (.t 10), none, 0⟩]) (.ret [2])))))⟩
def g75 : Fn := g75F b75_0
theorem cmp75 : cmpFn Tryd.prog .lit [1000016] 75 = some g75 := by kernel_rfl
def b78_0F : Cd := (.seq (.seq (.region [⟨some 7, .mov (.t 4), none, 0⟩,
    ⟨some 8, .mov (.t 3), none, 0⟩,
    ⟨some 9, .len false (.t 8), none, 0⟩,
    ⟨some 10, .bin .lss .num (.t 7) (.t 9), none, 0⟩]) (.cond (.t 10) .skip (.exit 0 []))) (.seq (.block 1 (.seq (.region [⟨some 13, .mov (.t 3), none, 0⟩,
    ⟨some 14, .mov (.t 4), none, 0⟩,
    ⟨some 15, .iadS 9 (.t 13) (.t 14), none, 0⟩,
    ⟨some 16, .load false 1 (.t 15), none, 0⟩,
    ⟨some 17, .call 113 [.s, .s] [.t 16, .c (.sc (.int .i64 0))], none, 0⟩,
    ⟨some 18, .bin .eql .num (.t 17) (.c (.sc (.int .i64 0))), none, 0⟩]) (.cond (.t 18) (.seq (.region [⟨some 2, .mov (.c (.sc (.bool false))), none, 0⟩]) (.ret [2])) .skip))) (.region [⟨some 11, .mov (.t 4), none, 0⟩,
    ⟨some 12, .bin .add .num (.t 11) (.c (.sc (.int .i64 1))), none, 0⟩,
    ⟨some 4, .mov (.t 12), none, 0⟩])))
def b78_0 : Cd := b78_0F
def g78F (c0 : Cd) : Fn := ⟨19, [.t 2], [.s], .lit,
  (.seq (.region [⟨some 2, .mov (.c (.sc (.bool false))), none, 0⟩]) (.seq (.region [⟨some 5, .mov (.t 0), none, 0⟩,
    ⟨some 6, .call 79 [.s] [.t 5], none, 0⟩,
    ⟨some 3, .mov (.t 6), none, 0⟩]) (.seq (.seq (.region [⟨some 4, .mov (.c (.sc (.int .i64 0))), none, 0⟩]) (.block 0 (.loop [3, 4] c0))) (.seq (.region [⟨some 2, .mov (.c (.sc (.bool true))), none, 0⟩]) (.ret [2])))))⟩
def g78 : Fn := g78F b78_0
theorem cmp78 : cmpFn Tryd.prog .lit [1000016] 78 = some g78 := by kernel_rfl
def b79_0F : Cd := (.seq (.seq (.region [⟨some 6, .mov (.t 4), none, 0⟩,
    ⟨some 7, .mov (.t 0), none, 0⟩,
    ⟨some 8, .len true (.t 7), none, 0⟩,
    ⟨some 9, .bin .lss .num (.t 6) (.t 8), none, 0⟩]) (.cond (.t 9) .skip (.exit 0 [3]))) (.block 1 (.seq (.region [⟨some 10, .mov (.t 0), none, 0⟩,
    ⟨some 11, .mov (.t 4), none, 0⟩,
    ⟨some 12, .call 113 [.s, .s] [.t 10, .t 11], none, 0⟩,
    ⟨some 5, .mov (.t 12), none, 0⟩]) (.seq (.seq (.region [⟨some 13, .mov (.t 5), none, 0⟩,
    ⟨some 14, .bin .eql .num (.t 13) (.c (.sc (.int .i64 0))), none, 0⟩]) (.cond (.t 14) (.region [⟨some 5, .mov (.c (.sc (.int .i64 1))), none, 0⟩]) .skip)) (.seq (.region [⟨some 15, .mov (.t 3), none, 0⟩,
    ⟨some 16, .mov (.t 0), none, 0⟩,
    ⟨some 17, .mov (.t 4), none, 0⟩,
    ⟨some 18, .mov (.t 4), none, 0⟩,
    ⟨some 19, .mov (.t 5), none, 0⟩,
    ⟨some 20, .bin .add .num (.t 18) (.t 19), none, 0⟩,
    ⟨some 21, .ssl (.t 16) (some (.t 17)) (some (.t 20)), none, 0⟩,
    ⟨some 22, .bsl 9 1 (.s) [.t 21], none, 0⟩,
    ⟨some 23, .app 9 16 (.t 15) (.t 22), none, 0⟩,
    ⟨some 3, .mov (.t 23), none, 0⟩]) (.region [⟨some 24, .mov (.t 4), none, 0⟩,
    ⟨some 25, .mov (.t 5), none, 0⟩,
    ⟨some 26, .bin .add .num (.t 24) (.t 25), none, 0⟩,
    ⟨some 4, .mov (.t 26), none, 0⟩]))))))
def b79_0 : Cd := b79_0F
def g79F (c0 : Cd) : Fn := ⟨28, [.t 2], [.l 9], .lit,
  (.seq (.region [⟨some 2, .nil 9, none, 0⟩]) (.seq (.region [⟨some 3, .nil 9, none, 0⟩]) (.seq (.region [⟨some 4, .mov (.c (.sc (.int .i64 0))), none, 0⟩]) (.seq (.block 0 (.loop [0, 4, 3] c0)) (.seq (.region [⟨some 27, .mov (.t 3), none, 0⟩,
    ⟨some 2, .mov (.t 27), none, 0⟩]) (.ret [2]))))))⟩
def g79 : Fn := g79F b79_0
theorem cmp79 : cmpFn Tryd.prog .lit [1000016, 1000300009, 1000200009] 79 = some g79 := by kernel_rfl
def g81F : Fn := ⟨24, [.t 6], [.s], .lit,
  (.seq (.region [⟨some 6, .mov (.c (.sc (.bool false))), none, 0⟩]) (.seq (.region [⟨some 7, .mov (.t 1), none, 0⟩,
    ⟨some 8, .mov (.t 0), none, 0⟩,
    ⟨some 9, .bin .neq .num (.t 7) (.t 8), none, 0⟩,
    ⟨some 10, .mov (.t 9), none, 0⟩,
    ⟨some 11, .mov (.t 0), some (10, true), 0⟩,
    ⟨some 12, .mov (.t 2), some (10, true), 0⟩,
    ⟨some 13, .bin .eql .num (.t 11) (.t 12), some (10, true), 0⟩,
    ⟨some 14, .mov (.t 13), some (10, true), 0⟩,
    ⟨some 15, .mov (.t 0), some (14, false), 0⟩,
    ⟨some 16, .mov (.t 1), some (14, false), 0⟩,
    ⟨some 17, .call 114 [.s, .s] [.t 15, .t 16], some (14, false), 0⟩,
    ⟨some 18, .mov (.t 0), some (14, false), 0⟩,
    ⟨some 19, .mov (.t 2), some (14, false), 0⟩,
    ⟨some 20, .call 114 [.s, .s] [.t 18, .t 19], some (14, false), 0⟩,
    ⟨some 21, .bin .lss .num (.t 17) (.t 20), some (14, false), 0⟩,
    ⟨some 22, .pick (.t 14) (.c (.sc (.bool true))) (.t 21), some (10, true), 0⟩,
    ⟨some 23, .pick (.t 10) (.t 22) (.c (.sc (.bool false))), none, 0⟩,
    ⟨some 6, .mov (.t 23), none, 0⟩]) (.ret [6])))⟩
def g81 : Fn := g81F
theorem cmp81 : cmpFn Tryd.prog .lit [1000016] 81 = some g81 := by kernel_rfl
def g82F : Fn := ⟨17, [.t 2], [.s], .lit,
  (.seq (.region [⟨some 2, .mov (.c (.sc (.int .u64 0))), none, 0⟩]) (.seq (.region [⟨some 3, .mov (.t 0), none, 0⟩,
    ⟨some 4, .mov (.t 0), none, 0⟩,
    ⟨some 5, .bin .shr .num (.t 4) (.c (.sc (.int .u64 30))), none, 0⟩,
    ⟨some 6, .bin .xor .num (.t 3) (.t 5), none, 0⟩,
    ⟨some 7, .bin .mul .num (.t 6) (.c (.sc (.int .u64 13787848793156543929))), none, 0⟩,
    ⟨some 0, .mov (.t 7), none, 0⟩]) (.seq (.region [⟨some 8, .mov (.t 0), none, 0⟩,
    ⟨some 9, .mov (.t 0), none, 0⟩,
    ⟨some 10, .bin .shr .num (.t 9) (.c (.sc (.int .u64 27))), none, 0⟩,
    ⟨some 11, .bin .xor .num (.t 8) (.t 10), none, 0⟩,
    ⟨some 12, .bin .mul .num (.t 11) (.c (.sc (.int .u64 10723151780598845931))), none, 0⟩,
    ⟨some 0, .mov (.t 12), none, 0⟩]) (.seq (.region [⟨some 13, .mov (.t 0), none, 0⟩,
    ⟨some 14, .mov (.t 0), none, 0⟩,
    ⟨some 15, .bin .shr .num (.t 14) (.c (.sc (.int .u64 31))), none, 0⟩,
    ⟨some 16, .bin .xor .num (.t 13) (.t 15), none, 0⟩,
    ⟨some 2, .mov (.t 16), none, 0⟩]) (.ret [2])))))⟩
def g82 : Fn := g82F
theorem cmp82 : cmpFn Tryd.prog .lit [1000016] 82 = some g82 := by kernel_rfl
def b83_0F : Cd := (.seq (.region [⟨some 8, .bin .lss .num (.t 7) (.t 6), none, 0⟩]) (.seq (.cond (.t 8) .skip (.exit 0 [3])) (.seq (.block 1 (.seq (.region [⟨some 9, .mov (.t 7), none, 0⟩,
    ⟨some 4, .mov (.t 9), none, 0⟩]) (.region [⟨some 10, .mov (.t 3), none, 0⟩,
    ⟨some 11, .mov (.t 0), none, 0⟩,
    ⟨some 12, .mov (.t 4), none, 0⟩,
    ⟨some 13, .sidx (.t 11) (.t 12), none, 0⟩,
    ⟨some 14, .conv .u64 (.t 13), none, 0⟩,
    ⟨some 15, .bin .xor .num (.t 10) (.t 14), none, 0⟩,
    ⟨some 16, .bin .mul .num (.t 15) (.c (.sc (.int .u64 1099511628211))), none, 0⟩,
    ⟨some 3, .mov (.t 16), none, 0⟩]))) (.region [⟨some 17, .bin .add .num (.t 7) (.c (.sc (.int .i64 1))), none, 0⟩,
    ⟨some 7, .mov (.t 17), none, 0⟩]))))
def b83_0 : Cd := b83_0F
def g83F (c0 : Cd) : Fn := ⟨19, [.t 2], [.s], .lit,
  (.seq (.region [⟨some 2, .mov (.c (.sc (.int .u64 0))), none, 0⟩]) (.seq (.region [⟨some 3, .mov (.c (.sc (.int .u64 14695981039346656037))), none, 0⟩]) (.seq (.seq (.region [⟨some 5, .mov (.t 0), none, 0⟩,
    ⟨some 6, .len true (.t 5), none, 0⟩,
    ⟨some 7, .mov (.c (.sc (.int .i64 0))), none, 0⟩]) (.block 0 (.loop [6, 0, 7, 3] c0))) (.seq (.region [⟨some 18, .mov (.t 3), none, 0⟩,
    ⟨some 2, .mov (.t 18), none, 0⟩]) (.ret [2])))))⟩
def g83 : Fn := g83F b83_0
theorem cmp83 : cmpFn Tryd.prog .lit [1000016] 83 = some g83 := by kernel_rfl
def b84_0F : Cd := (.seq (.seq (.region [⟨some 6, .mov (.t 5), none, 0⟩,
    ⟨some 7, .mov (.t 1), none, 0⟩,
    ⟨some 8, .bin .lss .num (.t 6) (.t 7), none, 0⟩]) (.cond (.t 8) .skip (.exit 0 [0]))) (.seq (.block 1 (.region [⟨some 11, .mov (.t 0), none, 0⟩,
    ⟨some 12, .bin .quo .num (.t 11) (.c (.sc (.int .u64 2))), none, 0⟩,
    ⟨some 0, .mov (.t 12), none, 0⟩])) (.region [⟨some 9, .mov (.t 5), none, 0⟩,
    ⟨some 10, .bin .add .num (.t 9) (.c (.sc (.int .i64 1))), none, 0⟩,
    ⟨some 5, .mov (.t 10), none, 0⟩])))
def b84_0 : Cd := b84_0F
def g84F (c0 : Cd) : Fn := ⟨14, [.t 4], [.s], .lit,
  (.seq (.region [⟨some 4, .mov (.c (.sc (.int .u64 0))), none, 0⟩]) (.seq (.seq (.region [⟨some 5, .mov (.c (.sc (.int .i64 0))), none, 0⟩]) (.block 0 (.loop [1, 5, 0] c0))) (.seq (.region [⟨some 13, .mov (.t 0), none, 0⟩,
    ⟨some 4, .mov (.t 13), none, 0⟩]) (.ret [4]))))⟩
def g84 : Fn := g84F b84_0
theorem cmp84 : cmpFn Tryd.prog .lit [1000016] 84 = some g84 := by kernel_rfl
def g111F : Fn := ⟨20, [.t 6], [.s], .lit,
  (.seq (.region [⟨some 6, .mov (.c (.sc (.bool false))), none, 0⟩]) (.seq (.seq (.region [⟨some 9, .mov (.t 2), none, 0⟩,
    ⟨some 10, .bin .neq .num (.t 9) (.c (.sc (.int .i32 65533))), none, 0⟩]) (.cond (.t 10) (.seq (.region [⟨some 6, .mov (.c (.sc (.bool false))), none, 0⟩]) (.ret [6])) .skip)) (.seq (.region [⟨some 12, .mov (.t 0), none, 0⟩,
    ⟨some 13, .mov (.t 1), none, 0⟩,
    ⟨some 14, .ssl (.t 12) (some (.t 13)) none, none, 0⟩,
    ⟨some 15, .call 126 [.s] [.t 14], none, 0⟩,
    ⟨some 11, .mov (.t 15), none, 0⟩,
    ⟨some 16, .ext (.t 11) 0, none, 0⟩,
    ⟨some 17, .ext (.t 11) 1, none, 0⟩,
    ⟨some 7, .mov (.t 16), none, 0⟩,
    ⟨some 8, .mov (.t 17), none, 0⟩]) (.seq (.region [⟨some 18, .mov (.t 8), none, 0⟩,
    ⟨some 19, .bin .eql .num (.t 18) (.c (.sc (.int .i64 1))), none, 0⟩,
    ⟨some 6, .mov (.t 19), none, 0⟩]) (.ret [6])))))⟩
def g111 : Fn := g111F
theorem cmp111 : cmpFn Tryd.prog .lit [1000016] 111 = some g111 := by kernel_rfl
def b113_0F : Cd := (.cond (.t 56) (.seq (.seq (.region [⟨some 57, .mov (.t 5), none, 0⟩,
    ⟨some 58, .bin .eql .num (.t 57) (.c (.sc (.int .u8 224))), none, 0⟩,
    ⟨some 59, .mov (.t 58), none, 0⟩,
    ⟨some 60, .mov (.t 0), some (59, true), 0⟩,
    ⟨some 61, .mov (.t 1), some (59, true), 0⟩,
    ⟨some 62, .bin .add .num (.t 61) (.c (.sc (.int .i64 1))), some (59, true), 0⟩,
    ⟨some 63, .sidx (.t 60) (.t 62), some (59, true), 0⟩,
    ⟨some 64, .bin .lss .num (.t 63) (.c (.sc (.int .u8 160))), some (59, true), 0⟩,
    ⟨some 65, .pick (.t 59) (.t 64) (.c (.sc (.bool false))), none, 0⟩,
    ⟨some 66, .mov (.t 65), none, 0⟩,
    ⟨some 67, .mov (.t 5), some (66, false), 0⟩,
    ⟨some 68, .bin .eql .num (.t 67) (.c (.sc (.int .u8 237))), some (66, false), 0⟩,
    ⟨some 69, .mov (.t 68), some (66, false), 0⟩,
    ⟨some 70, .mov (.t 0), some (69, true), 0⟩,
    ⟨some 71, .mov (.t 1), some (69, true), 0⟩,
    ⟨some 72, .bin .add .num (.t 71) (.c (.sc (.int .i64 1))), some (69, true), 0⟩,
    ⟨some 73, .sidx (.t 70) (.t 72), some (69, true), 0⟩,
    ⟨some 74, .bin .gtr .num (.t 73) (.c (.sc (.int .u8 159))), some (69, true), 0⟩,
    ⟨some 75, .pick (.t 69) (.t 74) (.c (.sc (.bool false))), some (66, false), 0⟩,
    ⟨some 76, .pick (.t 66) (.c (.sc (.bool true))) (.t 75), none, 0⟩]) (.cond (.t 76) (.seq (.region [⟨some 4, .mov (.c (.sc (.int .i64 0))), none, 0⟩]) (.ret [4])) .skip)) (.seq (.region [⟨some 4, .mov (.c (.sc (.int .i64 3))), none, 0⟩]) (.ret [4]))) .skip)
def b113_0 : Cd := b113_0F
def b113_1F : Cd := (.cond (.t 107) (.seq (.seq (.region [⟨some 108, .mov (.t 5), none, 0⟩,
    ⟨some 109, .bin .eql .num (.t 108) (.c (.sc (.int .u8 240))), none, 0⟩,
    ⟨some 110, .mov (.t 109), none, 0⟩,
    ⟨some 111, .mov (.t 0), some (110, true), 0⟩,
    ⟨some 112, .mov (.t 1), some (110, true), 0⟩,
    ⟨some 113, .bin .add .num (.t 112) (.c (.sc (.int .i64 1))), some (110, true), 0⟩,
    ⟨some 114, .sidx (.t 111) (.t 113), some (110, true), 0⟩,
    ⟨some 115, .bin .lss .num (.t 114) (.c (.sc (.int .u8 144))), some (110, true), 0⟩,
    ⟨some 116, .pick (.t 110) (.t 115) (.c (.sc (.bool false))), none, 0⟩,
    ⟨some 117, .mov (.t 116), none, 0⟩,
    ⟨some 118, .mov (.t 5), some (117, false), 0⟩,
    ⟨some 119, .bin .eql .num (.t 118) (.c (.sc (.int .u8 244))), some (117, false), 0⟩,
    ⟨some 120, .mov (.t 119), some (117, false), 0⟩,
    ⟨some 121, .mov (.t 0), some (120, true), 0⟩,
    ⟨some 122, .mov (.t 1), some (120, true), 0⟩,
    ⟨some 123, .bin .add .num (.t 122) (.c (.sc (.int .i64 1))), some (120, true), 0⟩,
    ⟨some 124, .sidx (.t 121) (.t 123), some (120, true), 0⟩,
    ⟨some 125, .bin .gtr .num (.t 124) (.c (.sc (.int .u8 143))), some (120, true), 0⟩,
    ⟨some 126, .pick (.t 120) (.t 125) (.c (.sc (.bool false))), some (117, false), 0⟩,
    ⟨some 127, .pick (.t 117) (.c (.sc (.bool true))) (.t 126), none, 0⟩]) (.cond (.t 127) (.seq (.region [⟨some 4, .mov (.c (.sc (.int .i64 0))), none, 0⟩]) (.ret [4])) .skip)) (.seq (.region [⟨some 4, .mov (.c (.sc (.int .i64 4))), none, 0⟩]) (.ret [4]))) .skip)
def b113_1 : Cd := b113_1F
def b113_2F (c1 : Cd) : Cd := (.seq (.seq (.region [⟨some 77, .mov (.t 5), none, 0⟩,
    ⟨some 78, .bin .geq .num (.t 77) (.c (.sc (.int .u8 240))), none, 0⟩,
    ⟨some 79, .mov (.t 78), none, 0⟩,
    ⟨some 80, .mov (.t 5), some (79, true), 0⟩,
    ⟨some 81, .bin .leq .num (.t 80) (.c (.sc (.int .u8 244))), some (79, true), 0⟩,
    ⟨some 82, .pick (.t 79) (.t 81) (.c (.sc (.bool false))), none, 0⟩,
    ⟨some 83, .mov (.t 82), none, 0⟩,
    ⟨some 84, .mov (.t 6), some (83, true), 0⟩,
    ⟨some 85, .bin .gtr .num (.t 84) (.c (.sc (.int .i64 3))), some (83, true), 0⟩,
    ⟨some 86, .pick (.t 83) (.t 85) (.c (.sc (.bool false))), none, 0⟩,
    ⟨some 87, .mov (.t 86), none, 0⟩,
    ⟨some 88, .mov (.t 0), some (87, true), 0⟩,
    ⟨some 89, .mov (.t 1), some (87, true), 0⟩,
    ⟨some 90, .bin .add .num (.t 89) (.c (.sc (.int .i64 1))), some (87, true), 0⟩,
    ⟨some 91, .sidx (.t 88) (.t 90), some (87, true), 0⟩,
    ⟨some 92, .call 128 [.s] [.t 91], some (87, true), 0⟩,
    ⟨some 93, .pick (.t 87) (.t 92) (.c (.sc (.bool false))), none, 0⟩,
    ⟨some 94, .mov (.t 93), none, 0⟩,
    ⟨some 95, .mov (.t 0), some (94, true), 0⟩,
    ⟨some 96, .mov (.t 1), some (94, true), 0⟩,
    ⟨some 97, .bin .add .num (.t 96) (.c (.sc (.int .i64 2))), some (94, true), 0⟩,
    ⟨some 98, .sidx (.t 95) (.t 97), some (94, true), 0⟩,
    ⟨some 99, .call 128 [.s] [.t 98], some (94, true), 0⟩,
    ⟨some 100, .pick (.t 94) (.t 99) (.c (.sc (.bool false))), none, 0⟩,
    ⟨some 101, .mov (.t 100), none, 0⟩,
    ⟨some 102, .mov (.t 0), some (101, true), 0⟩,
    ⟨some 103, .mov (.t 1), some (101, true), 0⟩,
    ⟨some 104, .bin .add .num (.t 103) (.c (.sc (.int .i64 3))), some (101, true), 0⟩,
    ⟨some 105, .sidx (.t 102) (.t 104), some (101, true), 0⟩,
    ⟨some 106, .call 128 [.s] [.t 105], some (101, true), 0⟩,
    ⟨some 107, .pick (.t 101) (.t 106) (.c (.sc (.bool false))), none, 0⟩]) (.seg [107, 5, 0, 1] [] c1)) (.seq (.region [⟨some 4, .mov (.c (.sc (.int .i64 0))), none, 0⟩]) (.ret [4])))
def b113_2 : Cd := b113_2F b113_1
def b113_3F (c0 : Cd) (c2 : Cd) : Cd := (.seq (.seq (.region [⟨some 33, .mov (.t 5), none, 0⟩,
    ⟨some 34, .bin .geq .num (.t 33) (.c (.sc (.int .u8 224))), none, 0⟩,
    ⟨some 35, .mov (.t 34), none, 0⟩,
    ⟨some 36, .mov (.t 5), some (35, true), 0⟩,
    ⟨some 37, .bin .leq .num (.t 36) (.c (.sc (.int .u8 239))), some (35, true), 0⟩,
    ⟨some 38, .pick (.t 35) (.t 37) (.c (.sc (.bool false))), none, 0⟩,
    ⟨some 39, .mov (.t 38), none, 0⟩,
    ⟨some 40, .mov (.t 6), some (39, true), 0⟩,
    ⟨some 41, .bin .gtr .num (.t 40) (.c (.sc (.int .i64 2))), some (39, true), 0⟩,
    ⟨some 42, .pick (.t 39) (.t 41) (.c (.sc (.bool false))), none, 0⟩,
    ⟨some 43, .mov (.t 42), none, 0⟩,
    ⟨some 44, .mov (.t 0), some (43, true), 0⟩,
    ⟨some 45, .mov (.t 1), some (43, true), 0⟩,
    ⟨some 46, .bin .add .num (.t 45) (.c (.sc (.int .i64 1))), some (43, true), 0⟩,
    ⟨some 47, .sidx (.t 44) (.t 46), some (43, true), 0⟩,
    ⟨some 48, .call 128 [.s] [.t 47], some (43, true), 0⟩,
    ⟨some 49, .pick (.t 43) (.t 48) (.c (.sc (.bool false))), none, 0⟩,
    ⟨some 50, .mov (.t 49), none, 0⟩,
    ⟨some 51, .mov (.t 0), some (50, true), 0⟩,
    ⟨some 52, .mov (.t 1), some (50, true), 0⟩,
    ⟨some 53, .bin .add .num (.t 52) (.c (.sc (.int .i64 2))), some (50, true), 0⟩,
    ⟨some 54, .sidx (.t 51) (.t 53), some (50, true), 0⟩,
    ⟨some 55, .call 128 [.s] [.t 54], some (50, true), 0⟩,
    ⟨some 56, .pick (.t 50) (.t 55) (.c (.sc (.bool false))), none, 0⟩]) (.seg [56, 6, 5, 0, 1] [6, 5, 0, 1] c0)) (.seg [6, 5, 0, 1] [4] c2))
def b113_3 : Cd := b113_3F b113_0 b113_2
def g113F (c3 : Cd) : Fn := ⟨128, [.t 4], [.s], .lit,
  (.seq (.region [⟨some 4, .mov (.c (.sc (.int .i64 0))), none, 0⟩]) (.seq (.region [⟨some 7, .mov (.t 0), none, 0⟩,
    ⟨some 8, .mov (.t 1), none, 0⟩,
    ⟨some 9, .sidx (.t 7) (.t 8), none, 0⟩,
    ⟨some 5, .mov (.t 9), none, 0⟩]) (.seq (.region [⟨some 10, .mov (.t 0), none, 0⟩,
    ⟨some 11, .len true (.t 10), none, 0⟩,
    ⟨some 12, .mov (.t 1), none, 0⟩,
    ⟨some 13, .bin .sub .num (.t 11) (.t 12), none, 0⟩,
    ⟨some 6, .mov (.t 13), none, 0⟩]) (.seq (.seq (.region [⟨some 14, .mov (.t 5), none, 0⟩,
    ⟨some 15, .bin .lss .num (.t 14) (.c (.sc (.int .u8 128))), none, 0⟩]) (.cond (.t 15) (.seq (.region [⟨some 4, .mov (.c (.sc (.int .i64 1))), none, 0⟩]) (.ret [4])) .skip)) (.seq (.seq (.region [⟨some 16, .mov (.t 5), none, 0⟩,
    ⟨some 17, .bin .geq .num (.t 16) (.c (.sc (.int .u8 194))), none, 0⟩,
    ⟨some 18, .mov (.t 17), none, 0⟩,
    ⟨some 19, .mov (.t 5), some (18, true), 0⟩,
    ⟨some 20, .bin .leq .num (.t 19) (.c (.sc (.int .u8 223))), some (18, true), 0⟩,
    ⟨some 21, .pick (.t 18) (.t 20) (.c (.sc (.bool false))), none, 0⟩,
    ⟨some 22, .mov (.t 21), none, 0⟩,
    ⟨some 23, .mov (.t 6), some (22, true), 0⟩,
    ⟨some 24, .bin .gtr .num (.t 23) (.c (.sc (.int .i64 1))), some (22, true), 0⟩,
    ⟨some 25, .pick (.t 22) (.t 24) (.c (.sc (.bool false))), none, 0⟩,
    ⟨some 26, .mov (.t 25), none, 0⟩,
    ⟨some 27, .mov (.t 0), some (26, true), 0⟩,
    ⟨some 28, .mov (.t 1), some (26, true), 0⟩,
    ⟨some 29, .bin .add .num (.t 28) (.c (.sc (.int .i64 1))), some (26, true), 0⟩,
    ⟨some 30, .sidx (.t 27) (.t 29), some (26, true), 0⟩,
    ⟨some 31, .call 128 [.s] [.t 30], some (26, true), 0⟩,
    ⟨some 32, .pick (.t 26) (.t 31) (.c (.sc (.bool false))), none, 0⟩]) (.cond (.t 32) (.seq (.region [⟨some 4, .mov (.c (.sc (.int .i64 2))), none, 0⟩]) (.ret [4])) .skip)) (.seg [6, 5, 0, 1] [4] c3))))))⟩
def g113 : Fn := g113F b113_3
theorem cmp113 : cmpFn Tryd.prog .lit [1000016] 113 = some g113 := by kernel_rfl
def g114F : Fn := ⟨8, [.t 4], [.s], .lit,
  (.seq (.region [⟨some 4, .mov (.c (.sc (.int .u64 0))), none, 0⟩]) (.seq (.region [⟨some 5, .mov (.t 1), none, 0⟩,
    ⟨some 6, .mov (.t 0), none, 0⟩,
    ⟨some 7, .bin .sub .num (.t 5) (.t 6), none, 0⟩,
    ⟨some 4, .mov (.t 7), none, 0⟩]) (.ret [4])))⟩
def g114 : Fn := g114F
theorem cmp114 : cmpFn Tryd.prog .lit [1000016] 114 = some g114 := by kernel_rfl
def g128F : Fn := ⟨9, [.t 2], [.s], .lit,
  (.seq (.region [⟨some 2, .mov (.c (.sc (.bool false))), none, 0⟩]) (.seq (.region [⟨some 3, .mov (.t 0), none, 0⟩,
    ⟨some 4, .bin .geq .num (.t 3) (.c (.sc (.int .u8 128))), none, 0⟩,
    ⟨some 5, .mov (.t 4), none, 0⟩,
    ⟨some 6, .mov (.t 0), some (5, true), 0⟩,
    ⟨some 7, .bin .leq .num (.t 6) (.c (.sc (.int .u8 191))), some (5, true), 0⟩,
    ⟨some 8, .pick (.t 5) (.t 7) (.c (.sc (.bool false))), none, 0⟩,
    ⟨some 2, .mov (.t 8), none, 0⟩]) (.ret [2])))⟩
def g128 : Fn := g128F
theorem cmp128 : cmpFn Tryd.prog .lit [1000016] 128 = some g128 := by kernel_rfl
end Go.Ab.Tryd
namespace Go.Ab.Tryd
open Go Go.Ab Go.Proofs
def F : FuncId → Option Fn
  | 3 => some g3
  | 4 => some g4
  | 5 => some g5
  | 6 => some g6
  | 10 => some g10
  | 11 => some g11
  | 12 => some g12
  | 13 => some g13
  | 14 => some g14
  | 15 => some g15
  | 16 => some g16
  | 17 => some g17
  | 18 => some g18
  | 19 => some g19
  | 20 => some g20
  | 23 => some g23
  | 24 => some g24
  | 25 => some g25
  | 34 => some g34
  | 35 => some g35
  | 36 => some g36
  | 37 => some g37
  | 39 => some g39
  | 40 => some g40
  | 41 => some g41
  | 43 => some g43
  | 44 => some g44
  | 45 => some g45
  | 46 => some g46
  | 47 => some g47
  | 48 => some g48
  | 49 => some g49
  | 73 => some g73
  | 74 => some g74
  | 75 => some g75
  | 78 => some g78
  | 79 => some g79
  | 81 => some g81
  | 82 => some g82
  | 83 => some g83
  | 84 => some g84
  | 111 => some g111
  | 113 => some g113
  | 114 => some g114
  | 128 => some g128
  | _ => none
theorem F_ok : ∀ f fn, F f = some fn → ∃ md fz, cmpFn Tryd.prog md fz f = some fn := by
  intro f fn h
  unfold F at h
  split at h
  · cases h; exact ⟨_, _, cmp3⟩
  · cases h; exact ⟨_, _, cmp4⟩
  · cases h; exact ⟨_, _, cmp5⟩
  · cases h; exact ⟨_, _, cmp6⟩
  · cases h; exact ⟨_, _, cmp10⟩
  · cases h; exact ⟨_, _, cmp11⟩
  · cases h; exact ⟨_, _, cmp12⟩
  · cases h; exact ⟨_, _, cmp13⟩
  · cases h; exact ⟨_, _, cmp14⟩
  · cases h; exact ⟨_, _, cmp15⟩
  · cases h; exact ⟨_, _, cmp16⟩
  · cases h; exact ⟨_, _, cmp17⟩
  · cases h; exact ⟨_, _, cmp18⟩
  · cases h; exact ⟨_, _, cmp19⟩
  · cases h; exact ⟨_, _, cmp20⟩
  · cases h; exact ⟨_, _, cmp23⟩
  · cases h; exact ⟨_, _, cmp24⟩
  · cases h; exact ⟨_, _, cmp25⟩
  · cases h; exact ⟨_, _, cmp34⟩
  · cases h; exact ⟨_, _, cmp35⟩
  · cases h; exact ⟨_, _, cmp36⟩
  · cases h; exact ⟨_, _, cmp37⟩
  · cases h; exact ⟨_, _, cmp39⟩
  · cases h; exact ⟨_, _, cmp40⟩
  · cases h; exact ⟨_, _, cmp41⟩
  · cases h; exact ⟨_, _, cmp43⟩
  · cases h; exact ⟨_, _, cmp44⟩
  · cases h; exact ⟨_, _, cmp45⟩
  · cases h; exact ⟨_, _, cmp46⟩
  · cases h; exact ⟨_, _, cmp47⟩
  · cases h; exact ⟨_, _, cmp48⟩
  · cases h; exact ⟨_, _, cmp49⟩
  · cases h; exact ⟨_, _, cmp73⟩
  · cases h; exact ⟨_, _, cmp74⟩
  · cases h; exact ⟨_, _, cmp75⟩
  · cases h; exact ⟨_, _, cmp78⟩
  · cases h; exact ⟨_, _, cmp79⟩
  · cases h; exact ⟨_, _, cmp81⟩
  · cases h; exact ⟨_, _, cmp82⟩
  · cases h; exact ⟨_, _, cmp83⟩
  · cases h; exact ⟨_, _, cmp84⟩
  · cases h; exact ⟨_, _, cmp111⟩
  · cases h; exact ⟨_, _, cmp113⟩
  · cases h; exact ⟨_, _, cmp114⟩
  · cases h; exact ⟨_, _, cmp128⟩
  · cases h
end Go.Ab.Tryd
