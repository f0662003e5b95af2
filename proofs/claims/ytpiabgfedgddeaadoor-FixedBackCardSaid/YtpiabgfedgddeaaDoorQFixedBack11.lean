/- Our texts for this statement, merged: what its theorem leads to. -/
import Derived.KernelRfl
import Derived.Test.YtpiabgfedgddeaaDoorProg
import Derived.Test.YtpiabgfedgddeaaDoorQFixedBack10
namespace Go.Ab.Tryd
open Go Go.Proofs
def g7F : Fn := ⟨33, [.t 2], [.s], .lit,
  (.seq (.region [⟨some 1, .box 49 11 (.t 0), none, 0⟩,
    ⟨some 2, .mov (.c (.sc (.bool false))), none, 0⟩]) (.seq (.seq (.region [⟨some 7, .load true 11 (.t 1), none, 0⟩,
    ⟨some 8, .call 26 [.a [.s, .s, .s, .s, .s, .s, .s, .s, .s, .l 46, .l 41]] [.t 7], none, 0⟩]) (.cond (.t 8) (.seq (.region [⟨some 9, .call 27 [] [], none, 0⟩,
    ⟨some 2, .mov (.t 9), none, 0⟩]) (.ret [2])) .skip)) (.seq (.region [⟨some 11, .load true 11 (.t 1), none, 0⟩,
    ⟨some 12, .call 28 [.a [.s, .s, .s, .s, .s, .s, .s, .s, .s, .l 46, .l 41]] [.t 11], none, 0⟩,
    ⟨some 10, .mov (.t 12), none, 0⟩,
    ⟨some 13, .ext (.t 10) 0, none, 0⟩,
    ⟨some 14, .ext (.t 10) 1, none, 0⟩,
    ⟨some 3, .mov (.t 13), none, 0⟩,
    ⟨some 4, .mov (.t 14), none, 0⟩]) (.seq (.region [⟨some 16, .load true 11 (.t 1), none, 0⟩,
    ⟨some 17, .call 29 [.a [.s, .s, .s, .s, .s, .s, .s, .s, .s, .l 46, .l 41]] [.t 16], none, 0⟩,
    ⟨some 15, .mov (.t 17), none, 0⟩,
    ⟨some 18, .ext (.t 15) 0, none, 0⟩,
    ⟨some 19, .ext (.t 15) 1, none, 0⟩,
    ⟨some 5, .mov (.t 18), none, 0⟩,
    ⟨some 6, .mov (.t 19), none, 0⟩]) (.seq (.region [⟨some 20, .mov (.t 3), none, 0⟩,
    ⟨some 21, .sofb 5 (.t 20), none, 0⟩,
    ⟨some 22, .mov (.t 5), none, 0⟩,
    ⟨some 23, .sofb 5 (.t 22), none, 0⟩,
    ⟨some 24, .bin .eql .str (.t 21) (.t 23), none, 0⟩,
    ⟨some 25, .mov (.t 24), none, 0⟩,
    ⟨some 26, .mov (.t 4), some (25, true), 0⟩,
    ⟨some 27, .mov (.t 6), some (25, true), 0⟩,
    ⟨some 28, .bin .eql .num (.t 26) (.t 27), some (25, true), 0⟩,
    ⟨some 29, .pick (.t 25) (.t 28) (.c (.sc (.bool false))), none, 0⟩,
    ⟨some 30, .mov (.t 29), none, 0⟩,
    ⟨some 31, .call 27 [] [], some (30, true), 0⟩,
    ⟨some 32, .pick (.t 30) (.t 31) (.c (.sc (.bool false))), none, 0⟩,
    ⟨some 2, .mov (.t 32), none, 0⟩]) (.ret [2]))))))⟩
def g7 : Fn := g7F
theorem cmp7 : cmpFn Tryd.prog .lit [1000016] 7 = some g7 := by kernel_rfl
def g8F : Fn := ⟨32, [.t 2], [.s], .lit,
  (.seq (.region [⟨some 2, .mov (.c (.sc (.bool false))), none, 0⟩]) (.seq (.seq (.region [⟨some 7, .mov (.t 0), none, 0⟩,
    ⟨some 8, .len false (.t 7), none, 0⟩,
    ⟨some 9, .bin .gtr .num (.t 8) (.c (.sc (.int .i64 6000))), none, 0⟩]) (.cond (.t 9) (.seq (.region [⟨some 10, .call 27 [] [], none, 0⟩,
    ⟨some 2, .mov (.t 10), none, 0⟩]) (.ret [2])) .skip)) (.seq (.region [⟨some 12, .mov (.t 0), none, 0⟩,
    ⟨some 13, .call 30 [.l 5] [.t 12], none, 0⟩,
    ⟨some 11, .mov (.t 13), none, 0⟩,
    ⟨some 14, .ext (.t 11) 0, none, 0⟩,
    ⟨some 15, .ext (.t 11) 1, none, 0⟩,
    ⟨some 3, .box 49 11 (.c (.agg [.sc (.int .i64 0), .sc (.int .u32 0), .sc (.int .u8 0), .sc (.bool false), .sc (.int .u64 0), .sc (.string ⟨#[]⟩), .sc (.string ⟨#[]⟩), .sc (.int .u64 0), .sc (.int .u16 0), .lit 0 true [], .lit 0 true []])), none, 0⟩,
    ⟨none, .store 11 (.t 3) (.t 14), none, 0⟩,
    ⟨some 4, .mov (.t 15), none, 0⟩]) (.seq (.region [⟨some 17, .mov (.t 0), none, 0⟩,
    ⟨some 18, .call 31 [.l 5] [.t 17], none, 0⟩,
    ⟨some 16, .mov (.t 18), none, 0⟩,
    ⟨some 19, .ext (.t 16) 0, none, 0⟩,
    ⟨some 20, .ext (.t 16) 1, none, 0⟩,
    ⟨some 5, .box 49 11 (.c (.agg [.sc (.int .i64 0), .sc (.int .u32 0), .sc (.int .u8 0), .sc (.bool false), .sc (.int .u64 0), .sc (.string ⟨#[]⟩), .sc (.string ⟨#[]⟩), .sc (.int .u64 0), .sc (.int .u16 0), .lit 0 true [], .lit 0 true []])), none, 0⟩,
    ⟨none, .store 11 (.t 5) (.t 19), none, 0⟩,
    ⟨some 6, .mov (.t 20), none, 0⟩]) (.seq (.region [⟨some 21, .load true 11 (.t 3), none, 0⟩,
    ⟨some 22, .load true 11 (.t 5), none, 0⟩,
    ⟨some 23, .call 32 [.a [.s, .s, .s, .s, .s, .s, .s, .s, .s, .l 46, .l 41], .a [.s, .s, .s, .s, .s, .s, .s, .s, .s, .l 46, .l 41]] [.t 21, .t 22], none, 0⟩,
    ⟨some 24, .mov (.t 23), none, 0⟩,
    ⟨some 25, .mov (.t 4), some (24, true), 0⟩,
    ⟨some 26, .mov (.t 6), some (24, true), 0⟩,
    ⟨some 27, .bin .eql .num (.t 25) (.t 26), some (24, true), 0⟩,
    ⟨some 28, .pick (.t 24) (.t 27) (.c (.sc (.bool false))), none, 0⟩,
    ⟨some 29, .mov (.t 28), none, 0⟩,
    ⟨some 30, .call 27 [] [], some (29, true), 0⟩,
    ⟨some 31, .pick (.t 29) (.t 30) (.c (.sc (.bool false))), none, 0⟩,
    ⟨some 2, .mov (.t 31), none, 0⟩]) (.ret [2]))))))⟩
def g8 : Fn := g8F
theorem cmp8 : cmpFn Tryd.prog .lit [1000016] 8 = some g8 := by kernel_rfl
def b9_0F : Cd := (.seq (.region [⟨some 44, .mov (.t 1), none, 0⟩,
    ⟨some 45, .call 30 [.l 5] [.t 44], none, 0⟩,
    ⟨some 43, .mov (.t 45), none, 0⟩,
    ⟨some 46, .ext (.t 43) 0, none, 0⟩,
    ⟨some 47, .ext (.t 43) 1, none, 0⟩,
    ⟨some 9, .box 49 11 (.c (.agg [.sc (.int .i64 0), .sc (.int .u32 0), .sc (.int .u8 0), .sc (.bool false), .sc (.int .u64 0), .sc (.string ⟨#[]⟩), .sc (.string ⟨#[]⟩), .sc (.int .u64 0), .sc (.int .u16 0), .lit 0 true [], .lit 0 true []])), none, 0⟩,
    ⟨none, .store 11 (.t 9) (.t 46), none, 0⟩,
    ⟨some 10, .mov (.t 47), none, 0⟩]) (.seq (.region [⟨some 49, .load true 11 (.t 9), none, 0⟩,
    ⟨some 50, .call 28 [.a [.s, .s, .s, .s, .s, .s, .s, .s, .s, .l 46, .l 41]] [.t 49], none, 0⟩,
    ⟨some 48, .mov (.t 50), none, 0⟩,
    ⟨some 51, .ext (.t 48) 0, none, 0⟩,
    ⟨some 52, .ext (.t 48) 1, none, 0⟩,
    ⟨some 11, .mov (.t 51), none, 0⟩,
    ⟨some 12, .mov (.t 52), none, 0⟩]) (.seq (.region [⟨some 53, .mov (.t 10), none, 0⟩,
    ⟨some 54, .bin .neq .num (.t 53) (.c (.sc (.int .i64 0))), none, 0⟩,
    ⟨some 55, .mov (.t 54), none, 0⟩,
    ⟨some 56, .mov (.t 12), some (55, false), 0⟩,
    ⟨some 57, .bin .eql .num (.t 56) (.c (.sc (.int .i64 0))), some (55, false), 0⟩,
    ⟨some 58, .mov (.t 57), some (55, false), 0⟩,
    ⟨some 59, .mov (.t 11), some (58, true), 0⟩,
    ⟨some 60, .sofb 5 (.t 59), some (58, true), 0⟩,
    ⟨some 61, .mov (.t 1), some (58, true), 0⟩,
    ⟨some 62, .sofb 5 (.t 61), some (58, true), 0⟩,
    ⟨some 63, .bin .eql .str (.t 60) (.t 62), some (58, true), 0⟩,
    ⟨some 64, .pick (.t 58) (.t 63) (.c (.sc (.bool false))), some (55, false), 0⟩,
    ⟨some 65, .pick (.t 55) (.c (.sc (.bool true))) (.t 64), none, 0⟩,
    ⟨some 66, .mov (.t 65), none, 0⟩,
    ⟨some 67, .call 27 [] [], some (66, true), 0⟩,
    ⟨some 68, .pick (.t 66) (.t 67) (.c (.sc (.bool false))), none, 0⟩,
    ⟨some 4, .mov (.t 68), none, 0⟩]) (.ret [4]))))
def b9_0 : Cd := b9_0F
def b9_1F (c0 : Cd) : Cd := (.seq (.region [⟨some 22, .load true 11 (.t 2), none, 0⟩,
    ⟨some 23, .call 28 [.a [.s, .s, .s, .s, .s, .s, .s, .s, .s, .l 46, .l 41]] [.t 22], none, 0⟩,
    ⟨some 21, .mov (.t 23), none, 0⟩,
    ⟨some 24, .ext (.t 21) 0, none, 0⟩,
    ⟨some 25, .ext (.t 21) 1, none, 0⟩,
    ⟨some 5, .mov (.t 24), none, 0⟩,
    ⟨some 6, .mov (.t 25), none, 0⟩]) (.seq (.region [⟨some 27, .mov (.t 5), none, 0⟩,
    ⟨some 28, .call 30 [.l 5] [.t 27], none, 0⟩,
    ⟨some 26, .mov (.t 28), none, 0⟩,
    ⟨some 29, .ext (.t 26) 0, none, 0⟩,
    ⟨some 30, .ext (.t 26) 1, none, 0⟩,
    ⟨some 7, .box 49 11 (.c (.agg [.sc (.int .i64 0), .sc (.int .u32 0), .sc (.int .u8 0), .sc (.bool false), .sc (.int .u64 0), .sc (.string ⟨#[]⟩), .sc (.string ⟨#[]⟩), .sc (.int .u64 0), .sc (.int .u16 0), .lit 0 true [], .lit 0 true []])), none, 0⟩,
    ⟨none, .store 11 (.t 7) (.t 29), none, 0⟩,
    ⟨some 8, .mov (.t 30), none, 0⟩]) (.seq (.seq (.region [⟨some 31, .mov (.t 6), none, 0⟩,
    ⟨some 32, .bin .eql .num (.t 31) (.c (.sc (.int .i64 0))), none, 0⟩,
    ⟨some 33, .mov (.t 32), none, 0⟩,
    ⟨some 34, .mov (.t 8), some (33, true), 0⟩,
    ⟨some 35, .bin .neq .num (.t 34) (.c (.sc (.int .i64 0))), some (33, true), 0⟩,
    ⟨some 36, .mov (.t 35), some (33, true), 0⟩,
    ⟨some 37, .load true 11 (.t 7), some (36, false), 0⟩,
    ⟨some 38, .load true 11 (.t 2), some (36, false), 0⟩,
    ⟨some 39, .call 32 [.a [.s, .s, .s, .s, .s, .s, .s, .s, .s, .l 46, .l 41], .a [.s, .s, .s, .s, .s, .s, .s, .s, .s, .l 46, .l 41]] [.t 37, .t 38], some (36, false), 0⟩,
    ⟨some 40, .un .not (.t 39), some (36, false), 0⟩,
    ⟨some 41, .pick (.t 36) (.c (.sc (.bool true))) (.t 40), some (33, true), 0⟩,
    ⟨some 42, .pick (.t 33) (.t 41) (.c (.sc (.bool false))), none, 0⟩]) (.cond (.t 42) (.seq (.region [⟨some 4, .mov (.c (.sc (.bool false))), none, 0⟩]) (.ret [4])) .skip)) (.seg [1] [4] c0))))
def b9_1 : Cd := b9_1F b9_0
def g9F (c1 : Cd) : Fn := ⟨69, [.t 4], [.s], .lit,
  (.seq (.region [⟨some 2, .box 49 11 (.t 0), none, 0⟩,
    ⟨some 4, .mov (.c (.sc (.bool false))), none, 0⟩]) (.seq (.seq (.region [⟨some 13, .load true 11 (.t 2), none, 0⟩,
    ⟨some 14, .call 26 [.a [.s, .s, .s, .s, .s, .s, .s, .s, .s, .l 46, .l 41]] [.t 13], none, 0⟩,
    ⟨some 15, .mov (.t 14), none, 0⟩,
    ⟨some 16, .mov (.t 1), some (15, false), 0⟩,
    ⟨some 17, .len false (.t 16), some (15, false), 0⟩,
    ⟨some 18, .bin .gtr .num (.t 17) (.c (.sc (.int .i64 6000))), some (15, false), 0⟩,
    ⟨some 19, .pick (.t 15) (.c (.sc (.bool true))) (.t 18), none, 0⟩]) (.cond (.t 19) (.seq (.region [⟨some 20, .call 27 [] [], none, 0⟩,
    ⟨some 4, .mov (.t 20), none, 0⟩]) (.ret [4])) .skip)) (.seg [2, 1] [4] c1)))⟩
def g9 : Fn := g9F b9_1
theorem cmp9 : cmpFn Tryd.prog .lit [1000016] 9 = some g9 := by kernel_rfl
def b16_0F : Cd := (.seq (.seq (.region [⟨some 11, .mov (.t 5), none, 0⟩,
    ⟨some 12, .mov (.t 0), none, 0⟩,
    ⟨some 13, .len false (.t 12), none, 0⟩,
    ⟨some 14, .bin .lss .num (.t 11) (.t 13), none, 0⟩]) (.cond (.t 14) .skip (.exit 0 []))) (.seq (.block 1 (.seq (.region [⟨some 17, .mov (.t 0), none, 0⟩,
    ⟨some 18, .mov (.t 5), none, 0⟩,
    ⟨some 19, .iadS 41 (.t 17) (.t 18), none, 0⟩,
    ⟨some 20, .load true 2 (.t 19), none, 0⟩,
    ⟨some 21, .mov (.t 1), none, 0⟩,
    ⟨some 22, .mov (.t 5), none, 0⟩,
    ⟨some 23, .iadS 41 (.t 21) (.t 22), none, 0⟩,
    ⟨some 24, .load true 2 (.t 23), none, 0⟩,
    ⟨some 25, .eqs true [.str, .str] (.t 20) (.t 24), none, 0⟩]) (.cond (.t 25) (.seq (.region [⟨some 4, .mov (.c (.sc (.bool false))), none, 0⟩]) (.ret [4])) .skip))) (.region [⟨some 15, .mov (.t 5), none, 0⟩,
    ⟨some 16, .bin .add .num (.t 15) (.c (.sc (.int .i64 1))), none, 0⟩,
    ⟨some 5, .mov (.t 16), none, 0⟩])))
def b16_0 : Cd := b16_0F
def g16F (c0 : Cd) : Fn := ⟨26, [.t 4], [.s], .lit,
  (.seq (.region [⟨some 4, .mov (.c (.sc (.bool false))), none, 0⟩]) (.seq (.seq (.region [⟨some 6, .mov (.t 0), none, 0⟩,
    ⟨some 7, .len false (.t 6), none, 0⟩,
    ⟨some 8, .mov (.t 1), none, 0⟩,
    ⟨some 9, .len false (.t 8), none, 0⟩,
    ⟨some 10, .bin .neq .num (.t 7) (.t 9), none, 0⟩]) (.cond (.t 10) (.seq (.region [⟨some 4, .mov (.c (.sc (.bool false))), none, 0⟩]) (.ret [4])) .skip)) (.seq (.seq (.region [⟨some 5, .mov (.c (.sc (.int .i64 0))), none, 0⟩]) (.block 0 (.loop [0, 1, 5] c0))) (.seq (.region [⟨some 4, .mov (.c (.sc (.bool true))), none, 0⟩]) (.ret [4])))))⟩
def g16 : Fn := g16F b16_0
theorem cmp16 : cmpFn Tryd.prog .lit [1000016] 16 = some g16 := by kernel_rfl
def b26_0F : Cd := (.seq (.seq (.region [⟨some 26, .mov (.t 3), none, 0⟩,
    ⟨some 27, .fad (.t 1) 10, none, 0⟩,
    ⟨some 28, .load false 1 (.t 27), none, 0⟩,
    ⟨some 29, .len false (.t 28), none, 0⟩,
    ⟨some 30, .bin .lss .num (.t 26) (.t 29), none, 0⟩]) (.cond (.t 30) .skip (.exit 0 []))) (.seq (.block 1 (.seq (.region [⟨some 33, .fad (.t 1) 10, none, 0⟩,
    ⟨some 34, .load false 1 (.t 33), none, 0⟩,
    ⟨some 35, .mov (.t 3), none, 0⟩,
    ⟨some 36, .iadS 41 (.t 34) (.t 35), none, 0⟩,
    ⟨some 37, .fad (.t 36) 0, none, 0⟩,
    ⟨some 38, .load false 1 (.t 37), none, 0⟩,
    ⟨some 39, .len true (.t 38), none, 0⟩,
    ⟨some 40, .bin .gtr .num (.t 39) (.c (.sc (.int .i64 300))), none, 0⟩,
    ⟨some 41, .mov (.t 40), none, 0⟩,
    ⟨some 42, .fad (.t 1) 10, some (41, false), 0⟩,
    ⟨some 43, .load false 1 (.t 42), some (41, false), 0⟩,
    ⟨some 44, .mov (.t 3), some (41, false), 0⟩,
    ⟨some 45, .iadS 41 (.t 43) (.t 44), some (41, false), 0⟩,
    ⟨some 46, .fad (.t 45) 1, some (41, false), 0⟩,
    ⟨some 47, .load false 1 (.t 46), some (41, false), 0⟩,
    ⟨some 48, .len true (.t 47), some (41, false), 0⟩,
    ⟨some 49, .bin .gtr .num (.t 48) (.c (.sc (.int .i64 700))), some (41, false), 0⟩,
    ⟨some 50, .pick (.t 41) (.c (.sc (.bool true))) (.t 49), none, 0⟩]) (.cond (.t 50) (.seq (.region [⟨some 2, .mov (.c (.sc (.bool true))), none, 0⟩]) (.ret [2])) .skip))) (.region [⟨some 31, .mov (.t 3), none, 0⟩,
    ⟨some 32, .bin .add .num (.t 31) (.c (.sc (.int .i64 1))), none, 0⟩,
    ⟨some 3, .mov (.t 32), none, 0⟩])))
def b26_0 : Cd := b26_0F
def g26F (c0 : Cd) : Fn := ⟨51, [.t 2], [.s], .lit,
  (.seq (.region [⟨some 1, .box 49 11 (.t 0), none, 0⟩,
    ⟨some 2, .mov (.c (.sc (.bool false))), none, 0⟩]) (.seq (.seq (.region [⟨some 4, .fad (.t 1) 5, none, 0⟩,
    ⟨some 5, .load false 1 (.t 4), none, 0⟩,
    ⟨some 6, .len true (.t 5), none, 0⟩,
    ⟨some 7, .bin .gtr .num (.t 6) (.c (.sc (.int .i64 300))), none, 0⟩,
    ⟨some 8, .mov (.t 7), none, 0⟩,
    ⟨some 9, .fad (.t 1) 6, some (8, false), 0⟩,
    ⟨some 10, .load false 1 (.t 9), some (8, false), 0⟩,
    ⟨some 11, .len true (.t 10), some (8, false), 0⟩,
    ⟨some 12, .bin .gtr .num (.t 11) (.c (.sc (.int .i64 700))), some (8, false), 0⟩,
    ⟨some 13, .pick (.t 8) (.c (.sc (.bool true))) (.t 12), none, 0⟩,
    ⟨some 14, .mov (.t 13), none, 0⟩,
    ⟨some 15, .fad (.t 1) 9, some (14, false), 0⟩,
    ⟨some 16, .load false 1 (.t 15), some (14, false), 0⟩,
    ⟨some 17, .len false (.t 16), some (14, false), 0⟩,
    ⟨some 18, .bin .gtr .num (.t 17) (.c (.sc (.int .i64 40))), some (14, false), 0⟩,
    ⟨some 19, .pick (.t 14) (.c (.sc (.bool true))) (.t 18), none, 0⟩,
    ⟨some 20, .mov (.t 19), none, 0⟩,
    ⟨some 21, .fad (.t 1) 10, some (20, false), 0⟩,
    ⟨some 22, .load false 1 (.t 21), some (20, false), 0⟩,
    ⟨some 23, .len false (.t 22), some (20, false), 0⟩,
    ⟨some 24, .bin .gtr .num (.t 23) (.c (.sc (.int .i64 20))), some (20, false), 0⟩,
    ⟨some 25, .pick (.t 20) (.c (.sc (.bool true))) (.t 24), none, 0⟩]) (.cond (.t 25) (.seq (.region [⟨some 2, .mov (.c (.sc (.bool true))), none, 0⟩]) (.ret [2])) .skip)) (.seq (.seq (.region [⟨some 3, .mov (.c (.sc (.int .i64 0))), none, 0⟩]) (.block 0 (.loop [1, 3] c0))) (.seq (.region [⟨some 2, .mov (.c (.sc (.bool false))), none, 0⟩]) (.ret [2])))))⟩
def g26 : Fn := g26F b26_0
theorem cmp26 : cmpFn Tryd.prog .lit [1000016] 26 = some g26 := by kernel_rfl
def g27F : Fn := ⟨58, [.t 0], [.s], .lit,
  (.seq (.region [⟨some 0, .mov (.c (.sc (.bool false))), none, 0⟩]) (.seq (.region [⟨some 10, .build [.sc (.int .i64 0), .sc (.int .u32 0), .sc (.int .u8 0), .sc (.bool false), .sc (.int .u64 0), .sc (.string ⟨#[]⟩), .sc (.string ⟨#[]⟩), .sc (.int .u64 0), .sc (.int .u16 0), .lit 0 true [], .lit 0 true []] [(0, 1, .c (.sc (.int .i64 11))), (1, 1, .c (.sc (.int .u32 1)))], none, 0⟩,
    ⟨some 11, .call 28 [.a [.s, .s, .s, .s, .s, .s, .s, .s, .s, .l 46, .l 41]] [.t 10], none, 0⟩,
    ⟨some 9, .mov (.t 11), none, 0⟩,
    ⟨some 12, .ext (.t 9) 0, none, 0⟩,
    ⟨some 13, .ext (.t 9) 1, none, 0⟩,
    ⟨some 1, .mov (.t 12), none, 0⟩,
    ⟨some 2, .mov (.t 13), none, 0⟩]) (.seq (.region [⟨some 15, .bsl 5 1 (.s) [.c (.sc (.int .u8 11)), .c (.sc (.int .u8 0)), .c (.sc (.int .u8 0)), .c (.sc (.int .u8 0)), .c (.sc (.int .u8 1))], none, 0⟩,
    ⟨some 16, .call 30 [.l 5] [.t 15], none, 0⟩,
    ⟨some 14, .mov (.t 16), none, 0⟩,
    ⟨some 17, .ext (.t 14) 0, none, 0⟩,
    ⟨some 18, .ext (.t 14) 1, none, 0⟩,
    ⟨some 3, .box 49 11 (.c (.agg [.sc (.int .i64 0), .sc (.int .u32 0), .sc (.int .u8 0), .sc (.bool false), .sc (.int .u64 0), .sc (.string ⟨#[]⟩), .sc (.string ⟨#[]⟩), .sc (.int .u64 0), .sc (.int .u16 0), .lit 0 true [], .lit 0 true []])), none, 0⟩,
    ⟨none, .store 11 (.t 3) (.t 17), none, 0⟩,
    ⟨some 4, .mov (.t 18), none, 0⟩]) (.seq (.region [⟨some 20, .bsl 5 1 (.s) [.c (.sc (.int .u8 11)), .c (.sc (.int .u8 0)), .c (.sc (.int .u8 0)), .c (.sc (.int .u8 0))], none, 0⟩,
    ⟨some 21, .call 30 [.l 5] [.t 20], none, 0⟩,
    ⟨some 19, .mov (.t 21), none, 0⟩,
    ⟨some 22, .ext (.t 19) 0, none, 0⟩,
    ⟨some 23, .ext (.t 19) 1, none, 0⟩,
    ⟨some 5, .box 49 11 (.c (.agg [.sc (.int .i64 0), .sc (.int .u32 0), .sc (.int .u8 0), .sc (.bool false), .sc (.int .u64 0), .sc (.string ⟨#[]⟩), .sc (.string ⟨#[]⟩), .sc (.int .u64 0), .sc (.int .u16 0), .lit 0 true [], .lit 0 true []])), none, 0⟩,
    ⟨none, .store 11 (.t 5) (.t 22), none, 0⟩,
    ⟨some 6, .mov (.t 23), none, 0⟩]) (.seq (.region [⟨some 25, .bsl 5 1 (.s) [.c (.sc (.int .u8 13)), .c (.sc (.int .u8 0))], none, 0⟩,
    ⟨some 26, .call 30 [.l 5] [.t 25], none, 0⟩,
    ⟨some 24, .mov (.t 26), none, 0⟩,
    ⟨some 27, .ext (.t 24) 0, none, 0⟩,
    ⟨some 28, .ext (.t 24) 1, none, 0⟩,
    ⟨some 7, .box 49 11 (.c (.agg [.sc (.int .i64 0), .sc (.int .u32 0), .sc (.int .u8 0), .sc (.bool false), .sc (.int .u64 0), .sc (.string ⟨#[]⟩), .sc (.string ⟨#[]⟩), .sc (.int .u64 0), .sc (.int .u16 0), .lit 0 true [], .lit 0 true []])), none, 0⟩,
    ⟨none, .store 11 (.t 7) (.t 27), none, 0⟩,
    ⟨some 8, .mov (.t 28), none, 0⟩]) (.seq (.region [⟨some 29, .mov (.t 1), none, 0⟩,
    ⟨some 30, .sofb 5 (.t 29), none, 0⟩,
    ⟨some 31, .bin .eql .str (.t 30) (.c (.sc (.string ⟨#[11, 0, 0, 0, 1]⟩))), none, 0⟩,
    ⟨some 32, .mov (.t 31), none, 0⟩,
    ⟨some 33, .mov (.t 2), some (32, true), 0⟩,
    ⟨some 34, .bin .eql .num (.t 33) (.c (.sc (.int .i64 0))), some (32, true), 0⟩,
    ⟨some 35, .pick (.t 32) (.t 34) (.c (.sc (.bool false))), none, 0⟩,
    ⟨some 36, .mov (.t 35), none, 0⟩,
    ⟨some 37, .fad (.t 3) 0, some (36, true), 0⟩,
    ⟨some 38, .load false 1 (.t 37), some (36, true), 0⟩,
    ⟨some 39, .bin .eql .num (.t 38) (.c (.sc (.int .i64 11))), some (36, true), 0⟩,
    ⟨some 40, .pick (.t 36) (.t 39) (.c (.sc (.bool false))), none, 0⟩,
    ⟨some 41, .mov (.t 40), none, 0⟩,
    ⟨some 42, .fad (.t 3) 1, some (41, true), 0⟩,
    ⟨some 43, .load false 1 (.t 42), some (41, true), 0⟩,
    ⟨some 44, .bin .eql .num (.t 43) (.c (.sc (.int .u32 1))), some (41, true), 0⟩,
    ⟨some 45, .pick (.t 41) (.t 44) (.c (.sc (.bool false))), none, 0⟩,
    ⟨some 46, .mov (.t 45), none, 0⟩,
    ⟨some 47, .mov (.t 4), some (46, true), 0⟩,
    ⟨some 48, .bin .eql .num (.t 47) (.c (.sc (.int .i64 0))), some (46, true), 0⟩,
    ⟨some 49, .pick (.t 46) (.t 48) (.c (.sc (.bool false))), none, 0⟩,
    ⟨some 50, .mov (.t 49), none, 0⟩,
    ⟨some 51, .mov (.t 6), some (50, true), 0⟩,
    ⟨some 52, .bin .eql .num (.t 51) (.c (.sc (.int .i64 2))), some (50, true), 0⟩,
    ⟨some 53, .pick (.t 50) (.t 52) (.c (.sc (.bool false))), none, 0⟩,
    ⟨some 54, .mov (.t 53), none, 0⟩,
    ⟨some 55, .mov (.t 8), some (54, true), 0⟩,
    ⟨some 56, .bin .eql .num (.t 55) (.c (.sc (.int .i64 9))), some (54, true), 0⟩,
    ⟨some 57, .pick (.t 54) (.t 56) (.c (.sc (.bool false))), none, 0⟩,
    ⟨some 0, .mov (.t 57), none, 0⟩]) (.ret [0])))))))⟩
def g27 : Fn := g27F
theorem cmp27 : cmpFn Tryd.prog .lit [1000016] 27 = some g27 := by kernel_rfl
def b28_0F : Cd := (.cond (.t 50) (.seq (.region [⟨some 53, .fad (.t 1) 5, none, 0⟩,
    ⟨some 54, .load false 1 (.t 53), none, 0⟩,
    ⟨some 55, .call 55 [.s, .s, .s] [.t 5, .t 54, .c (.sc (.int .i64 1))], none, 0⟩]) (.seq (.region [⟨some 56, .fad (.t 1) 0, none, 0⟩,
    ⟨some 57, .load false 1 (.t 56), none, 0⟩,
    ⟨some 58, .bin .eql .num (.t 57) (.c (.sc (.int .i64 7))), none, 0⟩]) (.cond (.t 58) (.region [⟨some 59, .fad (.t 1) 6, none, 0⟩,
    ⟨some 60, .load false 1 (.t 59), none, 0⟩,
    ⟨some 61, .call 55 [.s, .s, .s] [.t 5, .t 60, .c (.sc (.int .i64 2))], none, 0⟩]) .skip))) (.seq (.region [⟨some 63, .bin .eql .num (.t 20) (.c (.sc (.int .i64 9))), none, 0⟩,
    ⟨some 62, .mov (.t 63), none, 0⟩]) (.cond (.t 62) (.seq (.region [⟨some 64, .fad (.t 1) 3, none, 0⟩,
    ⟨some 65, .load false 1 (.t 64), none, 0⟩,
    ⟨some 66, .call 52 [.s, .s] [.t 5, .t 65], none, 0⟩]) (.seq (.region [⟨some 67, .fad (.t 1) 3, none, 0⟩,
    ⟨some 68, .load false 1 (.t 67), none, 0⟩]) (.cond (.t 68) (.region [⟨some 69, .fad (.t 1) 6, none, 0⟩,
    ⟨some 70, .load false 1 (.t 69), none, 0⟩,
    ⟨some 71, .call 55 [.s, .s, .s] [.t 5, .t 70, .c (.sc (.int .i64 2))], none, 0⟩]) .skip))) (.seq (.region [⟨some 73, .bin .eql .num (.t 20) (.c (.sc (.int .i64 10))), none, 0⟩,
    ⟨some 72, .mov (.t 73), none, 0⟩]) (.cond (.t 72) (.seq (.region [⟨some 74, .fad (.t 1) 3, none, 0⟩,
    ⟨some 75, .load false 1 (.t 74), none, 0⟩,
    ⟨some 76, .call 52 [.s, .s] [.t 5, .t 75], none, 0⟩]) (.region [⟨some 77, .fad (.t 1) 10, none, 0⟩,
    ⟨some 78, .load false 1 (.t 77), none, 0⟩,
    ⟨some 79, .call 56 [.s, .l 41] [.t 5, .t 78], none, 0⟩])) (.seq (.region [⟨some 81, .bin .eql .num (.t 20) (.c (.sc (.int .i64 12))), none, 0⟩,
    ⟨some 80, .mov (.t 81), none, 0⟩]) (.cond (.t 80) (.region [⟨some 82, .fad (.t 1) 2, none, 0⟩,
    ⟨some 83, .load false 1 (.t 82), none, 0⟩,
    ⟨some 84, .conv .u64 (.t 83), none, 0⟩,
    ⟨some 85, .call 51 [.s, .s, .s] [.t 5, .t 84, .c (.sc (.int .i64 1))], none, 0⟩]) .skip)))))))
def b28_0 : Cd := b28_0F
def b28_1F (c0 : Cd) : Cd := (.cond (.t 26) (.seq (.region [⟨some 29, .fad (.t 1) 3, none, 0⟩,
    ⟨some 30, .load false 1 (.t 29), none, 0⟩,
    ⟨some 31, .call 52 [.s, .s] [.t 5, .t 30], none, 0⟩]) (.seq (.seq (.region [⟨some 32, .fad (.t 1) 0, none, 0⟩,
    ⟨some 33, .load false 1 (.t 32), none, 0⟩,
    ⟨some 34, .bin .eql .num (.t 33) (.c (.sc (.int .i64 4))), none, 0⟩,
    ⟨some 35, .mov (.t 34), none, 0⟩,
    ⟨some 36, .fad (.t 1) 3, some (35, true), 0⟩,
    ⟨some 37, .load false 1 (.t 36), some (35, true), 0⟩,
    ⟨some 38, .pick (.t 35) (.t 37) (.c (.sc (.bool false))), none, 0⟩]) (.cond (.t 38) (.region [⟨some 39, .fad (.t 1) 7, none, 0⟩,
    ⟨some 40, .load true 2 (.t 39), none, 0⟩,
    ⟨some 41, .call 53 [.s, .a [.s, .s]] [.t 5, .t 40], none, 0⟩]) .skip)) (.region [⟨some 42, .fad (.t 1) 9, none, 0⟩,
    ⟨some 43, .load false 1 (.t 42), none, 0⟩,
    ⟨some 44, .call 54 [.s, .l 46] [.t 5, .t 43], none, 0⟩]))) (.seq (.region [⟨some 46, .bin .eql .num (.t 20) (.c (.sc (.int .i64 5))), none, 0⟩,
    ⟨some 45, .mov (.t 46), none, 0⟩]) (.cond (.t 45) (.region [⟨some 47, .fad (.t 1) 7, none, 0⟩,
    ⟨some 48, .load true 2 (.t 47), none, 0⟩,
    ⟨some 49, .call 53 [.s, .a [.s, .s]] [.t 5, .t 48], none, 0⟩]) (.seq (.seq (.region [⟨some 51, .bin .eql .num (.t 20) (.c (.sc (.int .i64 7))), none, 0⟩,
    ⟨some 50, .mov (.t 51), none, 0⟩]) (.cond (.t 50) .skip (.region [⟨some 52, .bin .eql .num (.t 20) (.c (.sc (.int .i64 8))), none, 0⟩,
    ⟨some 50, .mov (.t 52), none, 0⟩]))) (.seg [50, 20, 1, 5] [5] c0)))))
def b28_1 : Cd := b28_1F b28_0
def g28F (c1 : Cd) : Fn := ⟨87, [.t 2, .t 3], [.l 5, .s], .lit,
  (.seq (.region [⟨some 1, .box 49 11 (.t 0), none, 0⟩,
    ⟨some 2, .nil 5, none, 0⟩,
    ⟨some 3, .mov (.c (.sc (.int .i64 0))), none, 0⟩]) (.seq (.seq (.region [⟨some 6, .load true 11 (.t 1), none, 0⟩,
    ⟨some 7, .call 50 [.a [.s, .s, .s, .s, .s, .s, .s, .s, .s, .l 46, .l 41]] [.t 6], none, 0⟩,
    ⟨some 4, .mov (.t 7), none, 0⟩]) (.seq (.region [⟨some 8, .mov (.t 4), none, 0⟩,
    ⟨some 9, .bin .neq .num (.t 8) (.c (.sc (.int .i64 0))), none, 0⟩]) (.cond (.t 9) (.seq (.region [⟨some 10, .mov (.t 4), none, 0⟩,
    ⟨some 2, .nil 5, none, 0⟩,
    ⟨some 3, .mov (.t 10), none, 0⟩]) (.ret [2, 3])) .skip))) (.seq (.region [⟨some 5, .boxr 73 1 (.c (.lit 0 true [])) [(0, 5, true)], none, 0⟩]) (.seq (.region [⟨some 11, .fad (.t 1) 0, none, 0⟩,
    ⟨some 12, .load false 1 (.t 11), none, 0⟩,
    ⟨some 13, .conv .u64 (.t 12), none, 0⟩,
    ⟨some 14, .call 51 [.s, .s, .s] [.t 5, .t 13, .c (.sc (.int .i64 1))], none, 0⟩]) (.seq (.region [⟨some 15, .fad (.t 1) 1, none, 0⟩,
    ⟨some 16, .load false 1 (.t 15), none, 0⟩,
    ⟨some 17, .conv .u64 (.t 16), none, 0⟩,
    ⟨some 18, .call 51 [.s, .s, .s] [.t 5, .t 17, .c (.sc (.int .i64 4))], none, 0⟩]) (.seq (.seq (.region [⟨some 19, .fad (.t 1) 0, none, 0⟩,
    ⟨some 20, .load false 1 (.t 19), none, 0⟩]) (.block 0 (.seq (.region [⟨some 22, .bin .eql .num (.t 20) (.c (.sc (.int .i64 1))), none, 0⟩,
    ⟨some 21, .mov (.t 22), none, 0⟩]) (.cond (.t 21) (.region [⟨some 23, .fad (.t 1) 4, none, 0⟩,
    ⟨some 24, .load false 1 (.t 23), none, 0⟩,
    ⟨some 25, .call 51 [.s, .s, .s] [.t 5, .t 24, .c (.sc (.int .i64 8))], none, 0⟩]) (.seq (.seq (.region [⟨some 27, .bin .eql .num (.t 20) (.c (.sc (.int .i64 2))), none, 0⟩,
    ⟨some 26, .mov (.t 27), none, 0⟩]) (.cond (.t 26) .skip (.region [⟨some 28, .bin .eql .num (.t 20) (.c (.sc (.int .i64 4))), none, 0⟩,
    ⟨some 26, .mov (.t 28), none, 0⟩]))) (.seg [26, 20, 1, 5] [5] c1)))))) (.seq (.region [⟨some 86, .load false 1 (.t 5), none, 0⟩,
    ⟨some 2, .mov (.t 86), none, 0⟩,
    ⟨some 3, .mov (.c (.sc (.int .i64 0))), none, 0⟩]) (.ret [2, 3]))))))))⟩
def g28 : Fn := g28F b28_1
theorem cmp28 : cmpFn Tryd.prog .lit [1000016, 100000100000011, 1000200005] 28 = some g28 := by kernel_rfl
def g29F : Fn := ⟨12, [.t 2, .t 3], [.l 5, .s], .lit,
  (.seq (.region [⟨some 1, .box 49 11 (.t 0), none, 0⟩,
    ⟨some 2, .nil 5, none, 0⟩,
    ⟨some 3, .mov (.c (.sc (.int .i64 0))), none, 0⟩]) (.seq (.region [⟨some 5, .load true 11 (.t 1), none, 0⟩,
    ⟨some 6, .call 57 [.a [.s, .s, .s, .s, .s, .s, .s, .s, .s, .l 46, .l 41]] [.t 5], none, 0⟩,
    ⟨some 4, .mov (.t 6), none, 0⟩]) (.seq (.seq (.region [⟨some 7, .mov (.t 4), none, 0⟩,
    ⟨some 8, .bin .neq .num (.t 7) (.c (.sc (.int .i64 0))), none, 0⟩]) (.cond (.t 8) (.seq (.region [⟨some 9, .mov (.t 4), none, 0⟩,
    ⟨some 2, .nil 5, none, 0⟩,
    ⟨some 3, .mov (.t 9), none, 0⟩]) (.ret [2, 3])) .skip)) (.seq (.region [⟨some 10, .load true 11 (.t 1), none, 0⟩,
    ⟨some 11, .call 58 [.a [.s, .s, .s, .s, .s, .s, .s, .s, .s, .l 46, .l 41]] [.t 10], none, 0⟩,
    ⟨some 2, .mov (.t 11), none, 0⟩,
    ⟨some 3, .mov (.c (.sc (.int .i64 0))), none, 0⟩]) (.ret [2, 3])))))⟩
def g29 : Fn := g29F
theorem cmp29 : cmpFn Tryd.prog .lit [1000016, 1000200005] 29 = some g29 := by kernel_rfl
def b30_0F : Cd := (.seq (.region [⟨some 19, .mov (.t 4), none, 0⟩,
    ⟨some 20, .call 60 [.s, .s] [.t 19, .c (.sc (.int .i64 4))], none, 0⟩,
    ⟨some 21, .conv .u32 (.t 20), none, 0⟩,
    ⟨some 22, .fad (.t 5) 1, none, 0⟩,
    ⟨none, .store 1 (.t 22) (.t 21), none, 0⟩]) (.seq (.region [⟨some 23, .mov (.t 4), none, 0⟩,
    ⟨some 24, .call 63 [.s, .s] [.t 23, .t 5], none, 0⟩]) (.seq (.region [⟨some 25, .mov (.t 4), none, 0⟩,
    ⟨some 26, .call 64 [.s] [.t 25], none, 0⟩,
    ⟨some 6, .mov (.t 26), none, 0⟩]) (.seq (.seq (.region [⟨some 27, .mov (.t 6), none, 0⟩,
    ⟨some 28, .bin .eql .num (.t 27) (.c (.sc (.int .i64 0))), none, 0⟩]) (.cond (.t 28) (.region [⟨some 29, .load true 11 (.t 5), none, 0⟩,
    ⟨some 30, .call 50 [.a [.s, .s, .s, .s, .s, .s, .s, .s, .s, .l 46, .l 41]] [.t 29], none, 0⟩,
    ⟨some 6, .mov (.t 30), none, 0⟩]) .skip)) (.seq (.seq (.region [⟨some 31, .mov (.t 6), none, 0⟩,
    ⟨some 32, .bin .neq .num (.t 31) (.c (.sc (.int .i64 0))), none, 0⟩]) (.cond (.t 32) (.seq (.region [⟨some 33, .build [.sc (.int .i64 0), .sc (.int .u32 0), .sc (.int .u8 0), .sc (.bool false), .sc (.int .u64 0), .sc (.string ⟨#[]⟩), .sc (.string ⟨#[]⟩), .sc (.int .u64 0), .sc (.int .u16 0), .lit 0 true [], .lit 0 true []] [], none, 0⟩,
    ⟨some 34, .mov (.t 6), none, 0⟩,
    ⟨none, .store 11 (.t 2) (.t 33), none, 0⟩,
    ⟨some 3, .mov (.t 34), none, 0⟩]) (.ret [2, 3])) .skip)) (.seq (.region [⟨some 35, .load true 11 (.t 5), none, 0⟩,
    ⟨none, .store 11 (.t 2) (.t 35), none, 0⟩,
    ⟨some 3, .mov (.c (.sc (.int .i64 0))), none, 0⟩]) (.ret [2, 3])))))))
def b30_0 : Cd := b30_0F
def g30F (c0 : Cd) : Fn := ⟨36, [.cell 2 true 11, .t 3], [.a [.s, .s, .s, .s, .s, .s, .s, .s, .s, .l 46, .l 41], .s], .lit,
  (.seq (.region [⟨some 2, .box 49 11 (.c (.agg [.sc (.int .i64 0), .sc (.int .u32 0), .sc (.int .u8 0), .sc (.bool false), .sc (.int .u64 0), .sc (.string ⟨#[]⟩), .sc (.string ⟨#[]⟩), .sc (.int .u64 0), .sc (.int .u16 0), .lit 0 true [], .lit 0 true []])), none, 0⟩,
    ⟨some 3, .mov (.c (.sc (.int .i64 0))), none, 0⟩]) (.seq (.region [⟨some 7, .mov (.t 0), none, 0⟩,
    ⟨some 8, .call 59 [.l 5] [.t 7], none, 0⟩,
    ⟨some 4, .mov (.t 8), none, 0⟩]) (.seq (.region [⟨some 9, .mov (.t 4), none, 0⟩,
    ⟨some 10, .call 60 [.s, .s] [.t 9, .c (.sc (.int .i64 1))], none, 0⟩,
    ⟨some 11, .conv .i64 (.t 10), none, 0⟩,
    ⟨some 12, .buildr [.sc (.int .i64 0), .sc (.int .u32 0), .sc (.int .u8 0), .sc (.bool false), .sc (.int .u64 0), .sc (.string ⟨#[]⟩), .sc (.string ⟨#[]⟩), .sc (.int .u64 0), .sc (.int .u16 0), .lit 0 true [], .lit 0 true []] [(0, 1, .t 11)] [(9, 46, false), (10, 41, false)], none, 0⟩,
    ⟨some 5, .box 49 11 (.c (.agg [.sc (.int .i64 0), .sc (.int .u32 0), .sc (.int .u8 0), .sc (.bool false), .sc (.int .u64 0), .sc (.string ⟨#[]⟩), .sc (.string ⟨#[]⟩), .sc (.int .u64 0), .sc (.int .u16 0), .lit 0 true [], .lit 0 true []])), none, 0⟩,
    ⟨none, .store 11 (.t 5) (.t 12), none, 0⟩]) (.seq (.seq (.region [⟨some 13, .fad (.t 5) 0, none, 0⟩,
    ⟨some 14, .load false 1 (.t 13), none, 0⟩,
    ⟨some 15, .call 61 [.s] [.t 14], none, 0⟩,
    ⟨some 16, .bin .eql .str (.t 15) (.c (.sc (.string ⟨#[63]⟩))), none, 0⟩]) (.cond (.t 16) (.region [⟨some 17, .mov (.t 4), none, 0⟩,
    ⟨some 18, .call 62 [.s, .s] [.t 17, .c (.sc (.int .i64 9))], none, 0⟩]) .skip)) (.seg [4, 5, 2] [2, 3] c0)))))⟩
def g30 : Fn := g30F b30_0
theorem cmp30 : cmpFn Tryd.prog .lit [1000016, 100000241800092, 100000242000082] 30 = some g30 := by kernel_rfl
def b31_0F : Cd := (.seq (.seq (.region [⟨some 93, .mov (.t 7), none, 0⟩,
    ⟨some 94, .mov (.t 6), none, 0⟩,
    ⟨some 95, .bin .lss .num (.t 93) (.t 94), none, 0⟩]) (.cond (.t 95) .skip (.exit 0 [4, 5, 2]))) (.seq (.block 1 (.region [⟨some 98, .fad (.t 5) 9, none, 2⟩,
    ⟨some 99, .load false 1 (.t 98), none, 2⟩,
    ⟨some 100, .mov (.t 4), none, 0⟩,
    ⟨some 101, .call 68 [.s] [.t 100], none, 1⟩,
    ⟨some 102, .bsl 46 2 (.a [.s, .s]) [.t 101], none, 0⟩,
    ⟨some 103, .app 46 16 (.t 99) (.t 102), none, 0⟩,
    ⟨some 104, .fad (.t 5) 9, none, 0⟩,
    ⟨none, .store 1 (.t 104) (.t 103), none, 0⟩])) (.region [⟨some 96, .mov (.t 7), none, 0⟩,
    ⟨some 97, .bin .add .num (.t 96) (.c (.sc (.int .i64 1))), none, 0⟩,
    ⟨some 7, .mov (.t 97), none, 0⟩])))
def b31_0 : Cd := b31_0F
def b31_1F (c0 : Cd) : Cd := (.cond (.t 90) (.seq (.region [⟨some 91, .mov (.t 4), none, 0⟩,
    ⟨some 92, .call 69 [.s, .s] [.t 91, .c (.sc (.int .i64 16))], none, 0⟩,
    ⟨some 6, .mov (.t 92), none, 0⟩]) (.seq (.region [⟨some 7, .mov (.c (.sc (.int .i64 0))), none, 0⟩]) (.block 0 (.loop [6, 7, 4, 5, 2] c0)))) .skip)
def b31_1 : Cd := b31_1F b31_0
def b31_2F : Cd := (.seq (.seq (.region [⟨some 136, .mov (.t 9), none, 0⟩,
    ⟨some 137, .mov (.t 8), none, 0⟩,
    ⟨some 138, .bin .lss .num (.t 136) (.t 137), none, 0⟩]) (.cond (.t 138) .skip (.exit 2 [4, 5, 2]))) (.seq (.block 3 (.seq (.region [⟨some 141, .mov (.t 4), none, 0⟩,
    ⟨some 142, .call 70 [.s, .s, .s] [.t 141, .c (.sc (.int .i64 1)), .c (.sc (.int .i64 96))], none, 0⟩,
    ⟨some 10, .mov (.t 142), none, 0⟩]) (.seq (.region [⟨some 143, .mov (.t 4), none, 0⟩,
    ⟨some 144, .call 70 [.s, .s, .s] [.t 143, .c (.sc (.int .i64 2)), .c (.sc (.int .i64 512))], none, 0⟩,
    ⟨some 11, .mov (.t 144), none, 0⟩]) (.region [⟨some 145, .fad (.t 5) 10, none, 0⟩,
    ⟨some 146, .load false 1 (.t 145), none, 0⟩,
    ⟨some 147, .mov (.t 10), none, 0⟩,
    ⟨some 148, .mov (.t 11), none, 0⟩,
    ⟨some 149, .build [.sc (.string ⟨#[]⟩), .sc (.string ⟨#[]⟩)] [(0, 1, .t 147), (1, 1, .t 148)], none, 0⟩,
    ⟨some 150, .bsl 41 2 (.a [.s, .s]) [.t 149], none, 0⟩,
    ⟨some 151, .app 41 32 (.t 146) (.t 150), none, 0⟩,
    ⟨some 152, .fad (.t 5) 10, none, 0⟩,
    ⟨none, .store 1 (.t 152) (.t 151), none, 0⟩])))) (.region [⟨some 139, .mov (.t 9), none, 0⟩,
    ⟨some 140, .bin .add .num (.t 139) (.c (.sc (.int .i64 1))), none, 0⟩,
    ⟨some 9, .mov (.t 140), none, 0⟩])))
def b31_2 : Cd := b31_2F
def b31_3F : Cd := (.seq (.region [⟨some 153, .mov (.t 4), none, 0⟩,
    ⟨some 154, .call 71 [.s] [.t 153], none, 0⟩,
    ⟨some 12, .mov (.t 154), none, 0⟩]) (.seq (.seq (.region [⟨some 155, .mov (.t 12), none, 0⟩,
    ⟨some 156, .bin .eql .num (.t 155) (.c (.sc (.int .i64 0))), none, 0⟩]) (.cond (.t 156) (.region [⟨some 157, .load true 11 (.t 5), none, 0⟩,
    ⟨some 158, .call 57 [.a [.s, .s, .s, .s, .s, .s, .s, .s, .s, .l 46, .l 41]] [.t 157], none, 0⟩,
    ⟨some 12, .mov (.t 158), none, 0⟩]) .skip)) (.seq (.seq (.region [⟨some 159, .mov (.t 12), none, 0⟩,
    ⟨some 160, .bin .neq .num (.t 159) (.c (.sc (.int .i64 0))), none, 0⟩]) (.cond (.t 160) (.seq (.region [⟨some 161, .build [.sc (.int .i64 0), .sc (.int .u32 0), .sc (.int .u8 0), .sc (.bool false), .sc (.int .u64 0), .sc (.string ⟨#[]⟩), .sc (.string ⟨#[]⟩), .sc (.int .u64 0), .sc (.int .u16 0), .lit 0 true [], .lit 0 true []] [], none, 0⟩,
    ⟨some 162, .mov (.t 12), none, 0⟩,
    ⟨none, .store 11 (.t 2) (.t 161), none, 0⟩,
    ⟨some 3, .mov (.t 162), none, 0⟩]) (.ret [2, 3])) .skip)) (.seq (.region [⟨some 163, .load true 11 (.t 5), none, 0⟩,
    ⟨none, .store 11 (.t 2) (.t 163), none, 0⟩,
    ⟨some 3, .mov (.c (.sc (.int .i64 0))), none, 0⟩]) (.ret [2, 3])))))
def b31_3 : Cd := b31_3F
def b31_4F (c2 : Cd) (c3 : Cd) : Cd := (.seq (.seq (.region [⟨some 131, .fad (.t 5) 0, none, 0⟩,
    ⟨some 132, .load false 1 (.t 131), none, 0⟩,
    ⟨some 133, .bin .eql .num (.t 132) (.c (.sc (.int .i64 10))), none, 0⟩]) (.cond (.t 133) (.seq (.region [⟨some 134, .mov (.t 4), none, 0⟩,
    ⟨some 135, .call 69 [.s, .s] [.t 134, .c (.sc (.int .i64 8))], none, 0⟩,
    ⟨some 8, .mov (.t 135), none, 0⟩]) (.seq (.region [⟨some 9, .mov (.c (.sc (.int .i64 0))), none, 0⟩]) (.block 2 (.loop [8, 9, 4, 5, 2] c2)))) .skip)) (.seg [4, 5, 2] [2, 3] c3))
def b31_4 : Cd := b31_4F b31_2 b31_3
def b31_5F (c4 : Cd) : Cd := (.seq (.seq (.region [⟨some 116, .fad (.t 5) 0, none, 0⟩,
    ⟨some 117, .load false 1 (.t 116), none, 0⟩,
    ⟨some 118, .bin .eql .num (.t 117) (.c (.sc (.int .i64 7))), none, 0⟩,
    ⟨some 119, .mov (.t 118), none, 0⟩,
    ⟨some 120, .fad (.t 5) 0, some (119, false), 0⟩,
    ⟨some 121, .load false 1 (.t 120), some (119, false), 0⟩,
    ⟨some 122, .bin .eql .num (.t 121) (.c (.sc (.int .i64 9))), some (119, false), 0⟩,
    ⟨some 123, .mov (.t 122), some (119, false), 0⟩,
    ⟨some 124, .fad (.t 5) 3, some (123, true), 0⟩,
    ⟨some 125, .load false 1 (.t 124), some (123, true), 0⟩,
    ⟨some 126, .pick (.t 123) (.t 125) (.c (.sc (.bool false))), some (119, false), 0⟩,
    ⟨some 127, .pick (.t 119) (.c (.sc (.bool true))) (.t 126), none, 0⟩]) (.cond (.t 127) (.region [⟨some 128, .mov (.t 4), none, 0⟩,
    ⟨some 129, .call 70 [.s, .s, .s] [.t 128, .c (.sc (.int .i64 2)), .c (.sc (.int .i64 512))], none, 0⟩,
    ⟨some 130, .fad (.t 5) 6, none, 0⟩,
    ⟨none, .store 1 (.t 130) (.t 129), none, 0⟩]) .skip)) (.seg [4, 5, 2] [2, 3] c4))
def b31_5 : Cd := b31_5F b31_4
def b31_6F (c5 : Cd) : Cd := (.seq (.seq (.region [⟨some 105, .fad (.t 5) 0, none, 0⟩,
    ⟨some 106, .load false 1 (.t 105), none, 0⟩,
    ⟨some 107, .bin .eql .num (.t 106) (.c (.sc (.int .i64 7))), none, 0⟩,
    ⟨some 108, .mov (.t 107), none, 0⟩,
    ⟨some 109, .fad (.t 5) 0, some (108, false), 0⟩,
    ⟨some 110, .load false 1 (.t 109), some (108, false), 0⟩,
    ⟨some 111, .bin .eql .num (.t 110) (.c (.sc (.int .i64 8))), some (108, false), 0⟩,
    ⟨some 112, .pick (.t 108) (.c (.sc (.bool true))) (.t 111), none, 0⟩]) (.cond (.t 112) (.region [⟨some 113, .mov (.t 4), none, 0⟩,
    ⟨some 114, .call 70 [.s, .s, .s] [.t 113, .c (.sc (.int .i64 1)), .c (.sc (.int .i64 96))], none, 0⟩,
    ⟨some 115, .fad (.t 5) 5, none, 0⟩,
    ⟨none, .store 1 (.t 115) (.t 114), none, 0⟩]) .skip)) (.seg [4, 5, 2] [2, 3] c5))
def b31_6 : Cd := b31_6F b31_5
def b31_7F (c1 : Cd) (c6 : Cd) : Cd := (.seq (.seq (.region [⟨some 83, .fad (.t 5) 0, none, 0⟩,
    ⟨some 84, .load false 1 (.t 83), none, 0⟩,
    ⟨some 85, .bin .eql .num (.t 84) (.c (.sc (.int .i64 2))), none, 0⟩,
    ⟨some 86, .mov (.t 85), none, 0⟩,
    ⟨some 87, .fad (.t 5) 0, some (86, false), 0⟩,
    ⟨some 88, .load false 1 (.t 87), some (86, false), 0⟩,
    ⟨some 89, .bin .eql .num (.t 88) (.c (.sc (.int .i64 4))), some (86, false), 0⟩,
    ⟨some 90, .pick (.t 86) (.c (.sc (.bool true))) (.t 89), none, 0⟩]) (.seg [90, 4, 5, 2] [4, 5, 2] c1)) (.seg [4, 5, 2] [2, 3] c6))
def b31_7 : Cd := b31_7F b31_1 b31_6
def b31_8F (c7 : Cd) : Cd := (.seq (.seq (.region [⟨some 68, .fad (.t 5) 0, none, 0⟩,
    ⟨some 69, .load false 1 (.t 68), none, 0⟩,
    ⟨some 70, .bin .eql .num (.t 69) (.c (.sc (.int .i64 5))), none, 0⟩,
    ⟨some 71, .mov (.t 70), none, 0⟩,
    ⟨some 72, .fad (.t 5) 0, some (71, false), 0⟩,
    ⟨some 73, .load false 1 (.t 72), some (71, false), 0⟩,
    ⟨some 74, .bin .eql .num (.t 73) (.c (.sc (.int .i64 4))), some (71, false), 0⟩,
    ⟨some 75, .mov (.t 74), some (71, false), 0⟩,
    ⟨some 76, .fad (.t 5) 3, some (75, true), 0⟩,
    ⟨some 77, .load false 1 (.t 76), some (75, true), 0⟩,
    ⟨some 78, .pick (.t 75) (.t 77) (.c (.sc (.bool false))), some (71, false), 0⟩,
    ⟨some 79, .pick (.t 71) (.c (.sc (.bool true))) (.t 78), none, 0⟩]) (.cond (.t 79) (.region [⟨some 80, .mov (.t 4), none, 0⟩,
    ⟨some 81, .call 68 [.s] [.t 80], none, 0⟩,
    ⟨some 82, .fad (.t 5) 7, none, 0⟩,
    ⟨none, .store 2 (.t 82) (.t 81), none, 0⟩]) .skip)) (.seg [4, 5, 2] [2, 3] c7))
def b31_8 : Cd := b31_8F b31_7
def b31_9F (c8 : Cd) : Cd := (.seq (.seq (.region [⟨some 41, .fad (.t 5) 0, none, 0⟩,
    ⟨some 42, .load false 1 (.t 41), none, 0⟩,
    ⟨some 43, .bin .eql .num (.t 42) (.c (.sc (.int .i64 2))), none, 0⟩,
    ⟨some 44, .mov (.t 43), none, 0⟩,
    ⟨some 45, .fad (.t 5) 0, some (44, false), 0⟩,
    ⟨some 46, .load false 1 (.t 45), some (44, false), 0⟩,
    ⟨some 47, .bin .eql .num (.t 46) (.c (.sc (.int .i64 4))), some (44, false), 0⟩,
    ⟨some 48, .pick (.t 44) (.c (.sc (.bool true))) (.t 47), none, 0⟩,
    ⟨some 49, .mov (.t 48), none, 0⟩,
    ⟨some 50, .fad (.t 5) 0, some (49, false), 0⟩,
    ⟨some 51, .load false 1 (.t 50), some (49, false), 0⟩,
    ⟨some 52, .bin .eql .num (.t 51) (.c (.sc (.int .i64 9))), some (49, false), 0⟩,
    ⟨some 53, .pick (.t 49) (.c (.sc (.bool true))) (.t 52), none, 0⟩,
    ⟨some 54, .mov (.t 53), none, 0⟩,
    ⟨some 55, .fad (.t 5) 0, some (54, false), 0⟩,
    ⟨some 56, .load false 1 (.t 55), some (54, false), 0⟩,
    ⟨some 57, .bin .eql .num (.t 56) (.c (.sc (.int .i64 10))), some (54, false), 0⟩,
    ⟨some 58, .pick (.t 54) (.c (.sc (.bool true))) (.t 57), none, 0⟩]) (.cond (.t 58) (.region [⟨some 59, .mov (.t 4), none, 0⟩,
    ⟨some 60, .call 67 [.s] [.t 59], none, 0⟩,
    ⟨some 61, .fad (.t 5) 3, none, 0⟩,
    ⟨none, .store 1 (.t 61) (.t 60), none, 0⟩]) .skip)) (.seq (.seq (.region [⟨some 62, .fad (.t 5) 0, none, 0⟩,
    ⟨some 63, .load false 1 (.t 62), none, 0⟩,
    ⟨some 64, .bin .eql .num (.t 63) (.c (.sc (.int .i64 1))), none, 0⟩]) (.cond (.t 64) (.region [⟨some 65, .mov (.t 4), none, 0⟩,
    ⟨some 66, .call 65 [.s, .s] [.t 65, .c (.sc (.int .i64 8))], none, 0⟩,
    ⟨some 67, .fad (.t 5) 4, none, 0⟩,
    ⟨none, .store 1 (.t 67) (.t 66), none, 0⟩]) .skip)) (.seg [4, 5, 2] [2, 3] c8)))
def b31_9 : Cd := b31_9F b31_8
def b31_10F (c9 : Cd) : Cd := (.seq (.region [⟨some 30, .mov (.t 4), none, 0⟩,
    ⟨some 31, .call 65 [.s, .s] [.t 30, .c (.sc (.int .i64 4))], none, 0⟩,
    ⟨some 32, .conv .u32 (.t 31), none, 0⟩,
    ⟨some 33, .fad (.t 5) 1, none, 0⟩,
    ⟨none, .store 1 (.t 33) (.t 32), none, 0⟩]) (.seq (.seq (.region [⟨some 34, .fad (.t 5) 0, none, 0⟩,
    ⟨some 35, .load false 1 (.t 34), none, 0⟩,
    ⟨some 36, .bin .eql .num (.t 35) (.c (.sc (.int .i64 12))), none, 0⟩]) (.cond (.t 36) (.region [⟨some 37, .mov (.t 4), none, 0⟩,
    ⟨some 38, .call 65 [.s, .s] [.t 37, .c (.sc (.int .i64 1))], none, 0⟩,
    ⟨some 39, .conv .u8 (.t 38), none, 0⟩,
    ⟨some 40, .fad (.t 5) 2, none, 0⟩,
    ⟨none, .store 1 (.t 40) (.t 39), none, 0⟩]) .skip)) (.seg [4, 5, 2] [2, 3] c9)))
def b31_10 : Cd := b31_10F b31_9
def g31F (c10 : Cd) : Fn := ⟨164, [.cell 2 true 11, .t 3], [.a [.s, .s, .s, .s, .s, .s, .s, .s, .s, .l 46, .l 41], .s], .lit,
  (.seq (.region [⟨some 2, .box 49 11 (.c (.agg [.sc (.int .i64 0), .sc (.int .u32 0), .sc (.int .u8 0), .sc (.bool false), .sc (.int .u64 0), .sc (.string ⟨#[]⟩), .sc (.string ⟨#[]⟩), .sc (.int .u64 0), .sc (.int .u16 0), .lit 0 true [], .lit 0 true []])), none, 0⟩,
    ⟨some 3, .mov (.c (.sc (.int .i64 0))), none, 0⟩]) (.seq (.region [⟨some 13, .mov (.t 0), none, 0⟩,
    ⟨some 14, .build [.lit 0 true [], .sc (.int .i64 0), .sc (.int .i64 0)] [(0, 1, .t 13)], none, 0⟩,
    ⟨some 15, .box 91 3 (.t 14), none, 0⟩,
    ⟨some 4, .mov (.t 15), none, 0⟩]) (.seq (.region [⟨some 16, .mov (.t 4), none, 0⟩,
    ⟨some 17, .call 65 [.s, .s] [.t 16, .c (.sc (.int .i64 1))], none, 0⟩,
    ⟨some 18, .conv .i64 (.t 17), none, 0⟩,
    ⟨some 19, .buildr [.sc (.int .i64 0), .sc (.int .u32 0), .sc (.int .u8 0), .sc (.bool false), .sc (.int .u64 0), .sc (.string ⟨#[]⟩), .sc (.string ⟨#[]⟩), .sc (.int .u64 0), .sc (.int .u16 0), .lit 0 true [], .lit 0 true []] [(0, 1, .t 18)] [(9, 46, true), (10, 41, true)], none, 0⟩,
    ⟨some 5, .box 49 11 (.c (.agg [.sc (.int .i64 0), .sc (.int .u32 0), .sc (.int .u8 0), .sc (.bool false), .sc (.int .u64 0), .sc (.string ⟨#[]⟩), .sc (.string ⟨#[]⟩), .sc (.int .u64 0), .sc (.int .u16 0), .lit 0 true [], .lit 0 true []])), none, 0⟩,
    ⟨none, .store 11 (.t 5) (.t 19), none, 0⟩]) (.seq (.seq (.region [⟨some 20, .fad (.t 5) 0, none, 0⟩,
    ⟨some 21, .load false 1 (.t 20), none, 0⟩,
    ⟨some 22, .bin .lss .num (.t 21) (.c (.sc (.int .i64 1))), none, 0⟩,
    ⟨some 23, .mov (.t 22), none, 0⟩,
    ⟨some 24, .fad (.t 5) 0, some (23, false), 0⟩,
    ⟨some 25, .load false 1 (.t 24), some (23, false), 0⟩,
    ⟨some 26, .bin .gtr .num (.t 25) (.c (.sc (.int .i64 12))), some (23, false), 0⟩,
    ⟨some 27, .pick (.t 23) (.c (.sc (.bool true))) (.t 26), none, 0⟩]) (.cond (.t 27) (.region [⟨some 28, .mov (.t 4), none, 0⟩,
    ⟨some 29, .call 66 [.s, .s] [.t 28, .c (.sc (.int .i64 9))], none, 0⟩]) .skip)) (.seg [4, 5, 2] [2, 3] c10)))))⟩
def g31 : Fn := g31F b31_10
theorem cmp31 : cmpFn Tryd.prog .lit [1000016, 100000381800093, 100000382000083] 31 = some g31 := by kernel_rfl
def g32F : Fn := ⟨71, [.t 4], [.s], .lit,
  (.seq (.region [⟨some 2, .box 49 11 (.t 0), none, 0⟩,
    ⟨some 3, .box 49 11 (.t 1), none, 0⟩,
    ⟨some 4, .mov (.c (.sc (.bool false))), none, 0⟩]) (.seq (.seq (.region [⟨some 5, .fad (.t 2) 0, none, 0⟩,
    ⟨some 6, .load false 1 (.t 5), none, 0⟩,
    ⟨some 7, .fad (.t 3) 0, none, 0⟩,
    ⟨some 8, .load false 1 (.t 7), none, 0⟩,
    ⟨some 9, .bin .neq .num (.t 6) (.t 8), none, 0⟩,
    ⟨some 10, .mov (.t 9), none, 0⟩,
    ⟨some 11, .fad (.t 2) 1, some (10, false), 0⟩,
    ⟨some 12, .load false 1 (.t 11), some (10, false), 0⟩,
    ⟨some 13, .fad (.t 3) 1, some (10, false), 0⟩,
    ⟨some 14, .load false 1 (.t 13), some (10, false), 0⟩,
    ⟨some 15, .bin .neq .num (.t 12) (.t 14), some (10, false), 0⟩,
    ⟨some 16, .pick (.t 10) (.c (.sc (.bool true))) (.t 15), none, 0⟩,
    ⟨some 17, .mov (.t 16), none, 0⟩,
    ⟨some 18, .fad (.t 2) 2, some (17, false), 0⟩,
    ⟨some 19, .load false 1 (.t 18), some (17, false), 0⟩,
    ⟨some 20, .fad (.t 3) 2, some (17, false), 0⟩,
    ⟨some 21, .load false 1 (.t 20), some (17, false), 0⟩,
    ⟨some 22, .bin .neq .num (.t 19) (.t 21), some (17, false), 0⟩,
    ⟨some 23, .pick (.t 17) (.c (.sc (.bool true))) (.t 22), none, 0⟩,
    ⟨some 24, .mov (.t 23), none, 0⟩,
    ⟨some 25, .fad (.t 2) 3, some (24, false), 0⟩,
    ⟨some 26, .load false 1 (.t 25), some (24, false), 0⟩,
    ⟨some 27, .fad (.t 3) 3, some (24, false), 0⟩,
    ⟨some 28, .load false 1 (.t 27), some (24, false), 0⟩,
    ⟨some 29, .bin .neq .bool (.t 26) (.t 28), some (24, false), 0⟩,
    ⟨some 30, .pick (.t 24) (.c (.sc (.bool true))) (.t 29), none, 0⟩,
    ⟨some 31, .mov (.t 30), none, 0⟩,
    ⟨some 32, .fad (.t 2) 4, some (31, false), 0⟩,
    ⟨some 33, .load false 1 (.t 32), some (31, false), 0⟩,
    ⟨some 34, .fad (.t 3) 4, some (31, false), 0⟩,
    ⟨some 35, .load false 1 (.t 34), some (31, false), 0⟩,
    ⟨some 36, .bin .neq .num (.t 33) (.t 35), some (31, false), 0⟩,
    ⟨some 37, .pick (.t 31) (.c (.sc (.bool true))) (.t 36), none, 0⟩,
    ⟨some 38, .mov (.t 37), none, 0⟩,
    ⟨some 39, .fad (.t 2) 5, some (38, false), 0⟩,
    ⟨some 40, .load false 1 (.t 39), some (38, false), 0⟩,
    ⟨some 41, .fad (.t 3) 5, some (38, false), 0⟩,
    ⟨some 42, .load false 1 (.t 41), some (38, false), 0⟩,
    ⟨some 43, .bin .neq .str (.t 40) (.t 42), some (38, false), 0⟩,
    ⟨some 44, .pick (.t 38) (.c (.sc (.bool true))) (.t 43), none, 0⟩,
    ⟨some 45, .mov (.t 44), none, 0⟩,
    ⟨some 46, .fad (.t 2) 6, some (45, false), 0⟩,
    ⟨some 47, .load false 1 (.t 46), some (45, false), 0⟩,
    ⟨some 48, .fad (.t 3) 6, some (45, false), 0⟩,
    ⟨some 49, .load false 1 (.t 48), some (45, false), 0⟩,
    ⟨some 50, .bin .neq .str (.t 47) (.t 49), some (45, false), 0⟩,
    ⟨some 51, .pick (.t 45) (.c (.sc (.bool true))) (.t 50), none, 0⟩,
    ⟨some 52, .mov (.t 51), none, 0⟩,
    ⟨some 53, .fad (.t 2) 7, some (52, false), 0⟩,
    ⟨some 54, .load true 2 (.t 53), some (52, false), 0⟩,
    ⟨some 55, .fad (.t 3) 7, some (52, false), 0⟩,
    ⟨some 56, .load true 2 (.t 55), some (52, false), 0⟩,
    ⟨some 57, .eqs true [.num, .num] (.t 54) (.t 56), some (52, false), 0⟩,
    ⟨some 58, .pick (.t 52) (.c (.sc (.bool true))) (.t 57), none, 0⟩]) (.cond (.t 58) (.seq (.region [⟨some 4, .mov (.c (.sc (.bool false))), none, 0⟩]) (.ret [4])) .skip)) (.seq (.region [⟨some 59, .fad (.t 2) 9, none, 0⟩,
    ⟨some 60, .load false 1 (.t 59), none, 0⟩,
    ⟨some 61, .fad (.t 3) 9, none, 0⟩,
    ⟨some 62, .load false 1 (.t 61), none, 0⟩,
    ⟨some 63, .call 72 [.l 46, .l 46] [.t 60, .t 62], none, 0⟩,
    ⟨some 64, .mov (.t 63), none, 0⟩,
    ⟨some 65, .fad (.t 2) 10, some (64, true), 0⟩,
    ⟨some 66, .load false 1 (.t 65), some (64, true), 0⟩,
    ⟨some 67, .fad (.t 3) 10, some (64, true), 0⟩,
    ⟨some 68, .load false 1 (.t 67), some (64, true), 0⟩,
    ⟨some 69, .call 16 [.l 41, .l 41] [.t 66, .t 68], some (64, true), 0⟩,
    ⟨some 70, .pick (.t 64) (.t 69) (.c (.sc (.bool false))), none, 0⟩,
    ⟨some 4, .mov (.t 70), none, 0⟩]) (.ret [4]))))⟩
def g32 : Fn := g32F
theorem cmp32 : cmpFn Tryd.prog .lit [1000016] 32 = some g32 := by kernel_rfl
def g35F : Fn := ⟨19, [.t 2], [.s], .lit,
  (.seq (.region [⟨some 2, .mov (.c (.sc (.bool false))), none, 0⟩]) (.seq (.region [⟨some 3, .mov (.t 0), none, 0⟩,
    ⟨some 4, .bin .neq .str (.t 3) (.c (.sc (.string ⟨#[]⟩))), none, 0⟩,
    ⟨some 5, .mov (.t 4), none, 0⟩,
    ⟨some 6, .mov (.t 0), some (5, true), 0⟩,
    ⟨some 7, .len true (.t 6), some (5, true), 0⟩,
    ⟨some 8, .bin .leq .num (.t 7) (.c (.sc (.int .i64 96))), some (5, true), 0⟩,
    ⟨some 9, .pick (.t 5) (.t 8) (.c (.sc (.bool false))), none, 0⟩,
    ⟨some 10, .mov (.t 9), none, 0⟩,
    ⟨some 11, .mov (.t 0), some (10, true), 0⟩,
    ⟨some 12, .call 74 [.s] [.t 11], some (10, true), 0⟩,
    ⟨some 13, .pick (.t 10) (.t 12) (.c (.sc (.bool false))), none, 0⟩,
    ⟨some 14, .mov (.t 13), none, 0⟩,
    ⟨some 15, .mov (.t 0), some (14, true), 0⟩,
    ⟨some 16, .call 75 [.s] [.t 15], some (14, true), 0⟩,
    ⟨some 17, .bin .leq .num (.t 16) (.c (.sc (.int .i64 32))), some (14, true), 0⟩,
    ⟨some 18, .pick (.t 14) (.t 17) (.c (.sc (.bool false))), none, 0⟩,
    ⟨some 2, .mov (.t 18), none, 0⟩]) (.ret [2])))⟩
def g35 : Fn := g35F
theorem cmp35 : cmpFn Tryd.prog .lit [1000016] 35 = some g35 := by kernel_rfl
def b36_0F : Cd := (.seq (.region [⟨some 9, .bin .lss .num (.t 8) (.t 7), none, 0⟩]) (.seq (.cond (.t 9) .skip (.exit 0 [])) (.seq (.block 1 (.seq (.region [⟨some 10, .mov (.t 8), none, 0⟩,
    ⟨some 5, .mov (.t 10), none, 0⟩]) (.seq (.region [⟨some 11, .mov (.t 1), none, 0⟩,
    ⟨some 12, .mov (.t 0), none, 0⟩,
    ⟨some 13, .mov (.t 5), none, 0⟩,
    ⟨some 14, .iadS 41 (.t 12) (.t 13), none, 0⟩,
    ⟨some 15, .load true 2 (.t 14), none, 0⟩,
    ⟨some 16, .callv (.t 11) [.t 15], none, 0⟩]) (.cond (.t 16) (.seq (.region [⟨some 17, .mov (.t 5), none, 0⟩,
    ⟨some 4, .mov (.t 17), none, 0⟩]) (.ret [4])) .skip)))) (.region [⟨some 18, .bin .add .num (.t 8) (.c (.sc (.int .i64 1))), none, 0⟩,
    ⟨some 8, .mov (.t 18), none, 0⟩]))))
def b36_0 : Cd := b36_0F
def g36F (c0 : Cd) : Fn := ⟨19, [.t 4], [.s], .lit,
  (.seq (.region [⟨some 4, .mov (.c (.sc (.int .i64 0))), none, 0⟩]) (.seq (.seq (.region [⟨some 6, .mov (.t 0), none, 0⟩,
    ⟨some 7, .len false (.t 6), none, 0⟩,
    ⟨some 8, .mov (.c (.sc (.int .i64 0))), none, 0⟩]) (.block 0 (.loop [7, 1, 0, 8] c0))) (.seq (.region [⟨some 4, .mov (.c (.sc (.int .i64 (-1)))), none, 0⟩]) (.ret [4]))))⟩
def g36 : Fn := g36F b36_0
theorem cmp36 : cmpFn Tryd.prog .lit [1000016] 36 = some g36 := by kernel_rfl
def g39F : Fn := ⟨21, [.t 2], [.s], .lit,
  (.seq (.region [⟨some 2, .mov (.c (.sc (.bool false))), none, 0⟩]) (.seq (.region [⟨some 3, .mov (.t 0), none, 0⟩,
    ⟨some 4, .len true (.t 3), none, 0⟩,
    ⟨some 5, .bin .gtr .num (.t 4) (.c (.sc (.int .i64 0))), none, 0⟩,
    ⟨some 6, .mov (.t 5), none, 0⟩,
    ⟨some 7, .mov (.t 0), some (6, true), 0⟩,
    ⟨some 8, .len true (.t 7), some (6, true), 0⟩,
    ⟨some 9, .bin .lss .num (.t 8) (.c (.sc (.int .i64 97))), some (6, true), 0⟩,
    ⟨some 10, .pick (.t 6) (.t 9) (.c (.sc (.bool false))), none, 0⟩,
    ⟨some 11, .mov (.t 10), none, 0⟩,
    ⟨some 12, .mov (.t 0), some (11, true), 0⟩,
    ⟨some 13, .call 78 [.s] [.t 12], some (11, true), 0⟩,
    ⟨some 14, .pick (.t 11) (.t 13) (.c (.sc (.bool false))), none, 0⟩,
    ⟨some 15, .mov (.t 14), none, 0⟩,
    ⟨some 16, .mov (.t 0), some (15, true), 0⟩,
    ⟨some 17, .call 79 [.s] [.t 16], some (15, true), 0⟩,
    ⟨some 18, .len false (.t 17), some (15, true), 0⟩,
    ⟨some 19, .bin .lss .num (.t 18) (.c (.sc (.int .i64 33))), some (15, true), 0⟩,
    ⟨some 20, .pick (.t 15) (.t 19) (.c (.sc (.bool false))), none, 0⟩,
    ⟨some 2, .mov (.t 20), none, 0⟩]) (.ret [2])))⟩
def g39 : Fn := g39F
theorem cmp39 : cmpFn Tryd.prog .lit [1000016] 39 = some g39 := by kernel_rfl
def g50F : Fn := ⟨28, [.t 2], [.s], .lit,
  (.seq (.region [⟨some 1, .box 49 11 (.t 0), none, 0⟩,
    ⟨some 2, .mov (.c (.sc (.int .i64 0))), none, 0⟩]) (.seq (.region [⟨some 4, .load true 11 (.t 1), none, 0⟩,
    ⟨some 5, .call 85 [.a [.s, .s, .s, .s, .s, .s, .s, .s, .s, .l 46, .l 41]] [.t 4], none, 0⟩,
    ⟨some 3, .mov (.t 5), none, 0⟩]) (.seq (.block 0 (.seq (.region [⟨some 7, .fad (.t 1) 0, none, 0⟩,
    ⟨some 8, .load false 1 (.t 7), none, 0⟩,
    ⟨some 9, .call 61 [.s] [.t 8], none, 0⟩,
    ⟨some 10, .bin .eql .str (.t 9) (.c (.sc (.string ⟨#[63]⟩))), none, 0⟩,
    ⟨some 6, .mov (.t 10), none, 0⟩]) (.cond (.t 6) (.seq (.region [⟨some 2, .mov (.c (.sc (.int .i64 9))), none, 0⟩]) (.ret [2])) (.seq (.region [⟨some 12, .load true 11 (.t 1), none, 2⟩,
    ⟨some 13, .load true 11 (.t 1), none, 0⟩,
    ⟨some 14, .call 87 [.a [.s, .s, .s, .s, .s, .s, .s, .s, .s, .l 46, .l 41]] [.t 13], none, 1⟩,
    ⟨some 15, .call 86 [.a [.s, .s, .s, .s, .s, .s, .s, .s, .s, .l 46, .l 41], .a [.s, .s, .s, .s, .s, .s, .s, .s, .s, .l 46, .l 41]] [.t 12, .t 14], none, 0⟩,
    ⟨some 16, .un .not (.t 15), none, 0⟩,
    ⟨some 11, .mov (.t 16), none, 0⟩]) (.cond (.t 11) (.seq (.region [⟨some 2, .mov (.c (.sc (.int .i64 1))), none, 0⟩]) (.ret [2])) (.seq (.region [⟨some 18, .load true 11 (.t 1), none, 0⟩,
    ⟨some 19, .mov (.t 3), none, 0⟩,
    ⟨some 20, .call 88 [.a [.s, .s, .s, .s, .s, .s, .s, .s, .s, .l 46, .l 41], .s] [.t 18, .t 19], none, 0⟩,
    ⟨some 21, .un .not (.t 20), none, 0⟩,
    ⟨some 17, .mov (.t 21), none, 0⟩]) (.cond (.t 17) (.seq (.region [⟨some 2, .mov (.c (.sc (.int .i64 7))), none, 0⟩]) (.ret [2])) (.seq (.region [⟨some 23, .load true 11 (.t 1), none, 0⟩,
    ⟨some 24, .call 89 [.a [.s, .s, .s, .s, .s, .s, .s, .s, .s, .l 46, .l 41]] [.t 23], none, 0⟩,
    ⟨some 22, .mov (.t 24), none, 0⟩]) (.cond (.t 22) (.seq (.region [⟨some 2, .mov (.c (.sc (.int .i64 5))), none, 0⟩]) (.ret [2])) (.seq (.region [⟨some 26, .load true 11 (.t 1), none, 0⟩,
    ⟨some 27, .call 90 [.a [.s, .s, .s, .s, .s, .s, .s, .s, .s, .l 46, .l 41]] [.t 26], none, 0⟩,
    ⟨some 25, .mov (.t 27), none, 0⟩]) (.cond (.t 25) (.seq (.region [⟨some 2, .mov (.c (.sc (.int .i64 2))), none, 0⟩]) (.ret [2])) .skip))))))))))) (.seq (.region [⟨some 2, .mov (.c (.sc (.int .i64 0))), none, 0⟩]) (.ret [2])))))⟩
def g50 : Fn := g50F
theorem cmp50 : cmpFn Tryd.prog .lit [1000016] 50 = some g50 := by kernel_rfl
def g51F : Fn := ⟨14, [], [], .mv,
  (.region [⟨some 6, .mov (.t 0), none, 0⟩,
    ⟨some 7, .mov (.t 0), none, 0⟩,
    ⟨some 8, .nck (.t 7), none, 0⟩,
    ⟨some 9, .load false 1 (.t 8), none, 0⟩,
    ⟨some 10, .mov (.t 1), none, 0⟩,
    ⟨some 11, .mov (.t 2), none, 0⟩,
    ⟨some 12, .call 91 [.l 5, .s, .s] [.t 9, .t 10, .t 11], none, 0⟩,
    ⟨some 13, .nck (.t 6), none, 0⟩,
    ⟨none, .store 1 (.t 13) (.t 12), none, 0⟩])⟩
def g51 : Fn := g51F
theorem cmp51 : cmpFn Tryd.prog .mv [1000016] 51 = some g51 := by kernel_rfl
def g52F : Fn := ⟨9, [], [], .mv,
  (.seq (.region [⟨some 4, .mov (.c (.sc (.int .u64 0))), none, 0⟩]) (.seq (.seq (.region [⟨some 5, .mov (.t 1), none, 0⟩]) (.cond (.t 5) (.region [⟨some 4, .mov (.c (.sc (.int .u64 1))), none, 0⟩]) .skip)) (.region [⟨some 6, .mov (.t 0), none, 0⟩,
    ⟨some 7, .mov (.t 4), none, 0⟩,
    ⟨some 8, .call 51 [.s, .s, .s] [.t 6, .t 7, .c (.sc (.int .i64 1))], none, 0⟩])))⟩
def g52 : Fn := g52F
theorem cmp52 : cmpFn Tryd.prog .mv [1000016] 52 = some g52 := by kernel_rfl
def g53F : Fn := ⟨13, [], [], .mv,
  (.seq (.region [⟨some 3, .box 46 2 (.t 1), none, 0⟩]) (.seq (.region [⟨some 4, .mov (.t 0), none, 0⟩,
    ⟨some 5, .fad (.t 3) 0, none, 0⟩,
    ⟨some 6, .load false 1 (.t 5), none, 0⟩,
    ⟨some 7, .call 51 [.s, .s, .s] [.t 4, .t 6, .c (.sc (.int .i64 8))], none, 0⟩]) (.region [⟨some 8, .mov (.t 0), none, 0⟩,
    ⟨some 9, .fad (.t 3) 1, none, 0⟩,
    ⟨some 10, .load false 1 (.t 9), none, 0⟩,
    ⟨some 11, .conv .u64 (.t 10), none, 0⟩,
    ⟨some 12, .call 51 [.s, .s, .s] [.t 8, .t 11, .c (.sc (.int .i64 2))], none, 0⟩])))⟩
def g53 : Fn := g53F
theorem cmp53 : cmpFn Tryd.prog .mv [1000016] 53 = some g53 := by kernel_rfl
def b54_0F : Cd := (.seq (.region [⟨some 14, .bin .lss .num (.t 13) (.t 12), none, 0⟩]) (.seq (.cond (.t 14) .skip (.exit 0 [])) (.seq (.block 1 (.seq (.region [⟨some 15, .iadS 46 (.t 11) (.t 13), none, 0⟩,
    ⟨some 16, .load true 2 (.t 15), none, 0⟩,
    ⟨some 5, .box 46 2 (.c (.agg [.sc (.int .u64 0), .sc (.int .u16 0)])), none, 0⟩,
    ⟨none, .store 2 (.t 5) (.t 16), none, 0⟩]) (.region [⟨some 17, .mov (.t 0), none, 0⟩,
    ⟨some 18, .load true 2 (.t 5), none, 0⟩,
    ⟨some 19, .call 53 [.s, .a [.s, .s]] [.t 17, .t 18], none, 0⟩]))) (.region [⟨some 20, .bin .add .num (.t 13) (.c (.sc (.int .i64 1))), none, 0⟩,
    ⟨some 13, .mov (.t 20), none, 0⟩]))))
def b54_0 : Cd := b54_0F
def g54F (c0 : Cd) : Fn := ⟨21, [], [], .mv,
  (.seq (.region [⟨some 6, .mov (.t 0), none, 0⟩,
    ⟨some 7, .mov (.t 1), none, 0⟩,
    ⟨some 8, .len false (.t 7), none, 0⟩,
    ⟨some 9, .conv .u64 (.t 8), none, 0⟩,
    ⟨some 10, .call 51 [.s, .s, .s] [.t 6, .t 9, .c (.sc (.int .i64 1))], none, 0⟩]) (.seq (.region [⟨some 11, .mov (.t 1), none, 0⟩,
    ⟨some 12, .len false (.t 11), none, 0⟩,
    ⟨some 13, .mov (.c (.sc (.int .i64 0))), none, 0⟩]) (.block 0 (.loop [12, 11, 0, 13] c0))))⟩
def g54 : Fn := g54F b54_0
theorem cmp54 : cmpFn Tryd.prog .mv [1000016] 54 = some g54 := by kernel_rfl
def g55F : Fn := ⟨19, [], [], .mv,
  (.seq (.region [⟨some 6, .mov (.t 0), none, 0⟩,
    ⟨some 7, .mov (.t 1), none, 0⟩,
    ⟨some 8, .len true (.t 7), none, 0⟩,
    ⟨some 9, .conv .u64 (.t 8), none, 0⟩,
    ⟨some 10, .mov (.t 2), none, 0⟩,
    ⟨some 11, .call 51 [.s, .s, .s] [.t 6, .t 9, .t 10], none, 0⟩]) (.region [⟨some 12, .mov (.t 0), none, 0⟩,
    ⟨some 13, .mov (.t 0), none, 0⟩,
    ⟨some 14, .nck (.t 13), none, 0⟩,
    ⟨some 15, .load false 1 (.t 14), none, 0⟩,
    ⟨some 16, .mov (.t 1), none, 0⟩,
    ⟨some 17, .apps 5 1 (.t 15) (.t 16), none, 0⟩,
    ⟨some 18, .nck (.t 12), none, 0⟩,
    ⟨none, .store 1 (.t 18) (.t 17), none, 0⟩]))⟩
def g55 : Fn := g55F
theorem cmp55 : cmpFn Tryd.prog .mv [1000016] 55 = some g55 := by kernel_rfl
def b56_0F : Cd := (.seq (.region [⟨some 14, .bin .lss .num (.t 13) (.t 12), none, 0⟩]) (.seq (.cond (.t 14) .skip (.exit 0 [])) (.seq (.block 1 (.seq (.region [⟨some 15, .iadS 41 (.t 11) (.t 13), none, 0⟩,
    ⟨some 16, .load true 2 (.t 15), none, 0⟩,
    ⟨some 5, .box 41 2 (.c (.agg [.sc (.string ⟨#[]⟩), .sc (.string ⟨#[]⟩)])), none, 0⟩,
    ⟨none, .store 2 (.t 5) (.t 16), none, 0⟩]) (.seq (.region [⟨some 17, .mov (.t 0), none, 0⟩,
    ⟨some 18, .fad (.t 5) 0, none, 0⟩,
    ⟨some 19, .load false 1 (.t 18), none, 0⟩,
    ⟨some 20, .call 55 [.s, .s, .s] [.t 17, .t 19, .c (.sc (.int .i64 1))], none, 0⟩]) (.region [⟨some 21, .mov (.t 0), none, 0⟩,
    ⟨some 22, .fad (.t 5) 1, none, 0⟩,
    ⟨some 23, .load false 1 (.t 22), none, 0⟩,
    ⟨some 24, .call 55 [.s, .s, .s] [.t 21, .t 23, .c (.sc (.int .i64 2))], none, 0⟩])))) (.region [⟨some 25, .bin .add .num (.t 13) (.c (.sc (.int .i64 1))), none, 0⟩,
    ⟨some 13, .mov (.t 25), none, 0⟩]))))
def b56_0 : Cd := b56_0F
def g56F (c0 : Cd) : Fn := ⟨26, [], [], .mv,
  (.seq (.region [⟨some 6, .mov (.t 0), none, 0⟩,
    ⟨some 7, .mov (.t 1), none, 0⟩,
    ⟨some 8, .len false (.t 7), none, 0⟩,
    ⟨some 9, .conv .u64 (.t 8), none, 0⟩,
    ⟨some 10, .call 51 [.s, .s, .s] [.t 6, .t 9, .c (.sc (.int .i64 1))], none, 0⟩]) (.seq (.region [⟨some 11, .mov (.t 1), none, 0⟩,
    ⟨some 12, .len false (.t 11), none, 0⟩,
    ⟨some 13, .mov (.c (.sc (.int .i64 0))), none, 0⟩]) (.block 0 (.loop [12, 11, 0, 13] c0))))⟩
def g56 : Fn := g56F b56_0
theorem cmp56 : cmpFn Tryd.prog .mv [1000016] 56 = some g56 := by kernel_rfl
def b57_0F : Cd := (.seq (.seq (.region [⟨some 44, .mov (.t 4), none, 0⟩,
    ⟨some 45, .fad (.t 1) 10, none, 0⟩,
    ⟨some 46, .load false 1 (.t 45), none, 0⟩,
    ⟨some 47, .len false (.t 46), none, 0⟩,
    ⟨some 48, .bin .lss .num (.t 44) (.t 47), none, 0⟩]) (.cond (.t 48) .skip (.exit 0 [3, 1]))) (.seq (.block 1 (.seq (.seq (.region [⟨some 51, .fad (.t 1) 10, none, 0⟩,
    ⟨some 52, .load false 1 (.t 51), none, 0⟩,
    ⟨some 53, .mov (.t 4), none, 0⟩,
    ⟨some 54, .iadS 41 (.t 52) (.t 53), none, 0⟩,
    ⟨some 55, .fad (.t 54) 0, none, 0⟩,
    ⟨some 56, .load false 1 (.t 55), none, 0⟩,
    ⟨some 57, .call 39 [.s] [.t 56], none, 0⟩,
    ⟨some 58, .un .not (.t 57), none, 0⟩]) (.cond (.t 58) (.seq (.region [⟨some 2, .mov (.c (.sc (.int .i64 7))), none, 0⟩]) (.ret [2])) .skip)) (.seq (.region [⟨some 59, .fad (.t 1) 10, none, 0⟩,
    ⟨some 60, .load false 1 (.t 59), none, 0⟩,
    ⟨some 61, .mov (.t 4), none, 0⟩,
    ⟨some 62, .iadS 41 (.t 60) (.t 61), none, 0⟩,
    ⟨some 63, .fad (.t 62) 1, none, 0⟩,
    ⟨some 64, .load false 1 (.t 63), none, 0⟩,
    ⟨some 65, .len true (.t 64), none, 0⟩,
    ⟨some 66, .bin .gtr .num (.t 65) (.c (.sc (.int .i64 512))), none, 0⟩]) (.cond (.t 66) (.region [⟨some 3, .mov (.c (.sc (.bool true))), none, 0⟩]) .skip)))) (.region [⟨some 49, .mov (.t 4), none, 0⟩,
    ⟨some 50, .bin .add .num (.t 49) (.c (.sc (.int .i64 1))), none, 0⟩,
    ⟨some 4, .mov (.t 50), none, 0⟩])))
def b57_0 : Cd := b57_0F
def b57_1F (c0 : Cd) : Cd := (.seq (.seq (.region [⟨some 4, .mov (.c (.sc (.int .i64 0))), none, 0⟩]) (.block 0 (.loop [4, 3, 1] c0))) (.seq (.seq (.region [⟨some 67, .mov (.t 3), none, 0⟩]) (.cond (.t 67) (.seq (.region [⟨some 2, .mov (.c (.sc (.int .i64 5))), none, 0⟩]) (.ret [2])) .skip)) (.seq (.seq (.region [⟨some 68, .fad (.t 1) 0, none, 0⟩,
    ⟨some 69, .load false 1 (.t 68), none, 0⟩,
    ⟨some 70, .bin .eql .num (.t 69) (.c (.sc (.int .i64 2))), none, 0⟩,
    ⟨some 71, .mov (.t 70), none, 0⟩,
    ⟨some 72, .fad (.t 1) 9, some (71, true), 0⟩,
    ⟨some 73, .load false 1 (.t 72), some (71, true), 0⟩,
    ⟨some 74, .len false (.t 73), some (71, true), 0⟩,
    ⟨some 75, .bin .eql .num (.t 74) (.c (.sc (.int .i64 0))), some (71, true), 0⟩,
    ⟨some 76, .pick (.t 71) (.t 75) (.c (.sc (.bool false))), none, 0⟩,
    ⟨some 77, .mov (.t 76), none, 0⟩,
    ⟨some 78, .fad (.t 1) 0, some (77, false), 0⟩,
    ⟨some 79, .load false 1 (.t 78), some (77, false), 0⟩,
    ⟨some 80, .bin .eql .num (.t 79) (.c (.sc (.int .i64 10))), some (77, false), 0⟩,
    ⟨some 81, .mov (.t 80), some (77, false), 0⟩,
    ⟨some 82, .fad (.t 1) 10, some (81, true), 0⟩,
    ⟨some 83, .load false 1 (.t 82), some (81, true), 0⟩,
    ⟨some 84, .len false (.t 83), some (81, true), 0⟩,
    ⟨some 85, .bin .eql .num (.t 84) (.c (.sc (.int .i64 0))), some (81, true), 0⟩,
    ⟨some 86, .pick (.t 81) (.t 85) (.c (.sc (.bool false))), some (77, false), 0⟩,
    ⟨some 87, .pick (.t 77) (.c (.sc (.bool true))) (.t 86), none, 0⟩,
    ⟨some 88, .mov (.t 87), none, 0⟩,
    ⟨some 89, .fad (.t 1) 0, some (88, false), 0⟩,
    ⟨some 90, .load false 1 (.t 89), some (88, false), 0⟩,
    ⟨some 91, .bin .eql .num (.t 90) (.c (.sc (.int .i64 12))), some (88, false), 0⟩,
    ⟨some 92, .mov (.t 91), some (88, false), 0⟩,
    ⟨some 93, .fad (.t 1) 2, some (92, true), 0⟩,
    ⟨some 94, .load false 1 (.t 93), some (92, true), 0⟩,
    ⟨some 95, .bin .eql .num (.t 94) (.c (.sc (.int .u8 0))), some (92, true), 0⟩,
    ⟨some 96, .pick (.t 92) (.t 95) (.c (.sc (.bool false))), some (88, false), 0⟩,
    ⟨some 97, .pick (.t 88) (.c (.sc (.bool true))) (.t 96), none, 0⟩]) (.cond (.t 97) (.seq (.region [⟨some 2, .mov (.c (.sc (.int .i64 2))), none, 0⟩]) (.ret [2])) .skip)) (.seq (.region [⟨some 2, .mov (.c (.sc (.int .i64 0))), none, 0⟩]) (.ret [2])))))
def b57_1 : Cd := b57_1F b57_0
def b57_2F (c1 : Cd) : Cd := (.seq (.region [⟨some 28, .fad (.t 1) 6, none, 0⟩,
    ⟨some 29, .load false 1 (.t 28), none, 0⟩,
    ⟨some 30, .len true (.t 29), none, 0⟩,
    ⟨some 31, .bin .gtr .num (.t 30) (.c (.sc (.int .i64 512))), none, 0⟩,
    ⟨some 32, .mov (.t 31), none, 0⟩,
    ⟨some 33, .fad (.t 1) 9, some (32, false), 0⟩,
    ⟨some 34, .load false 1 (.t 33), some (32, false), 0⟩,
    ⟨some 35, .len false (.t 34), some (32, false), 0⟩,
    ⟨some 36, .bin .gtr .num (.t 35) (.c (.sc (.int .i64 16))), some (32, false), 0⟩,
    ⟨some 37, .pick (.t 32) (.c (.sc (.bool true))) (.t 36), none, 0⟩,
    ⟨some 38, .mov (.t 37), none, 0⟩,
    ⟨some 39, .fad (.t 1) 10, some (38, false), 0⟩,
    ⟨some 40, .load false 1 (.t 39), some (38, false), 0⟩,
    ⟨some 41, .len false (.t 40), some (38, false), 0⟩,
    ⟨some 42, .bin .gtr .num (.t 41) (.c (.sc (.int .i64 8))), some (38, false), 0⟩,
    ⟨some 43, .pick (.t 38) (.c (.sc (.bool true))) (.t 42), none, 0⟩,
    ⟨some 3, .mov (.t 43), none, 0⟩]) (.seg [3, 1] [2] c1))
def b57_2 : Cd := b57_2F b57_1
def g57F (c2 : Cd) : Fn := ⟨98, [.t 2], [.s], .lit,
  (.seq (.region [⟨some 1, .box 49 11 (.t 0), none, 0⟩,
    ⟨some 2, .mov (.c (.sc (.int .i64 0))), none, 0⟩]) (.seq (.seq (.region [⟨some 5, .fad (.t 1) 0, none, 0⟩,
    ⟨some 6, .load false 1 (.t 5), none, 0⟩,
    ⟨some 7, .call 92 [.s] [.t 6], none, 0⟩,
    ⟨some 8, .bin .eql .str (.t 7) (.c (.sc (.string ⟨#[63]⟩))), none, 0⟩]) (.cond (.t 8) (.seq (.region [⟨some 2, .mov (.c (.sc (.int .i64 9))), none, 0⟩]) (.ret [2])) .skip)) (.seq (.seq (.region [⟨some 9, .load true 11 (.t 1), none, 2⟩,
    ⟨some 10, .load true 11 (.t 1), none, 0⟩,
    ⟨some 11, .call 93 [.a [.s, .s, .s, .s, .s, .s, .s, .s, .s, .l 46, .l 41]] [.t 10], none, 1⟩,
    ⟨some 12, .call 32 [.a [.s, .s, .s, .s, .s, .s, .s, .s, .s, .l 46, .l 41], .a [.s, .s, .s, .s, .s, .s, .s, .s, .s, .l 46, .l 41]] [.t 9, .t 11], none, 0⟩,
    ⟨some 13, .un .not (.t 12), none, 0⟩]) (.cond (.t 13) (.seq (.region [⟨some 2, .mov (.c (.sc (.int .i64 1))), none, 0⟩]) (.ret [2])) .skip)) (.seq (.seq (.region [⟨some 14, .fad (.t 1) 0, none, 0⟩,
    ⟨some 15, .load false 1 (.t 14), none, 0⟩,
    ⟨some 16, .bin .eql .num (.t 15) (.c (.sc (.int .i64 7))), none, 0⟩,
    ⟨some 17, .mov (.t 16), none, 0⟩,
    ⟨some 18, .fad (.t 1) 0, some (17, false), 0⟩,
    ⟨some 19, .load false 1 (.t 18), some (17, false), 0⟩,
    ⟨some 20, .bin .eql .num (.t 19) (.c (.sc (.int .i64 8))), some (17, false), 0⟩,
    ⟨some 21, .pick (.t 17) (.c (.sc (.bool true))) (.t 20), none, 0⟩,
    ⟨some 22, .mov (.t 21), none, 0⟩,
    ⟨some 23, .fad (.t 1) 5, some (22, true), 0⟩,
    ⟨some 24, .load false 1 (.t 23), some (22, true), 0⟩,
    ⟨some 25, .call 39 [.s] [.t 24], some (22, true), 0⟩,
    ⟨some 26, .un .not (.t 25), some (22, true), 0⟩,
    ⟨some 27, .pick (.t 22) (.t 26) (.c (.sc (.bool false))), none, 0⟩]) (.cond (.t 27) (.seq (.region [⟨some 2, .mov (.c (.sc (.int .i64 7))), none, 0⟩]) (.ret [2])) .skip)) (.seg [1] [2] c2)))))⟩
def g57 : Fn := g57F b57_2
theorem cmp57 : cmpFn Tryd.prog .lit [1000016] 57 = some g57 := by kernel_rfl
def b58_0F : Cd := (.seq (.seq (.region [⟨some 82, .mov (.t 4), none, 0⟩,
    ⟨some 83, .fad (.t 1) 9, none, 0⟩,
    ⟨some 84, .load false 1 (.t 83), none, 0⟩,
    ⟨some 85, .len false (.t 84), none, 0⟩,
    ⟨some 86, .bin .lss .num (.t 82) (.t 85), none, 0⟩]) (.cond (.t 86) .skip (.exit 0 [1, 3]))) (.seq (.block 1 (.region [⟨some 89, .mov (.t 3), none, 0⟩,
    ⟨some 90, .fad (.t 1) 9, none, 0⟩,
    ⟨some 91, .load false 1 (.t 90), none, 0⟩,
    ⟨some 92, .mov (.t 4), none, 0⟩,
    ⟨some 93, .iadS 46 (.t 91) (.t 92), none, 0⟩,
    ⟨some 94, .load true 2 (.t 93), none, 0⟩,
    ⟨some 95, .call 96 [.l 5, .a [.s, .s]] [.t 89, .t 94], none, 0⟩,
    ⟨some 3, .mov (.t 95), none, 0⟩])) (.region [⟨some 87, .mov (.t 4), none, 0⟩,
    ⟨some 88, .bin .add .num (.t 87) (.c (.sc (.int .i64 1))), none, 0⟩,
    ⟨some 4, .mov (.t 88), none, 0⟩])))
def b58_0 : Cd := b58_0F
def b58_1F (c0 : Cd) : Cd := (.cond (.t 74) (.seq (.region [⟨some 75, .mov (.t 3), none, 0⟩,
    ⟨some 76, .fad (.t 1) 9, none, 0⟩,
    ⟨some 77, .load false 1 (.t 76), none, 0⟩,
    ⟨some 78, .len false (.t 77), none, 0⟩,
    ⟨some 79, .conv .u8 (.t 78), none, 0⟩,
    ⟨some 80, .bsl 5 1 (.s) [.t 79], none, 0⟩,
    ⟨some 81, .app 5 1 (.t 75) (.t 80), none, 0⟩,
    ⟨some 3, .mov (.t 81), none, 0⟩]) (.seq (.region [⟨some 4, .mov (.c (.sc (.int .i64 0))), none, 0⟩]) (.block 0 (.loop [4, 1, 3] c0)))) .skip)
def b58_1 : Cd := b58_1F b58_0
def b58_2F : Cd := (.seq (.seq (.region [⟨some 134, .mov (.t 5), none, 0⟩,
    ⟨some 135, .fad (.t 1) 10, none, 0⟩,
    ⟨some 136, .load false 1 (.t 135), none, 0⟩,
    ⟨some 137, .len false (.t 136), none, 0⟩,
    ⟨some 138, .bin .lss .num (.t 134) (.t 137), none, 0⟩]) (.cond (.t 138) .skip (.exit 2 [3]))) (.seq (.block 3 (.region [⟨some 141, .mov (.t 3), none, 0⟩,
    ⟨some 142, .fad (.t 1) 10, none, 0⟩,
    ⟨some 143, .load false 1 (.t 142), none, 0⟩,
    ⟨some 144, .mov (.t 5), none, 0⟩,
    ⟨some 145, .iadS 41 (.t 143) (.t 144), none, 0⟩,
    ⟨some 146, .fad (.t 145) 0, none, 0⟩,
    ⟨some 147, .load false 1 (.t 146), none, 0⟩,
    ⟨some 148, .call 97 [.l 5, .s, .s] [.t 141, .t 147, .c (.sc (.int .i64 1))], none, 1⟩,
    ⟨some 149, .fad (.t 1) 10, none, 2⟩,
    ⟨some 150, .load false 1 (.t 149), none, 2⟩,
    ⟨some 151, .mov (.t 5), none, 0⟩,
    ⟨some 152, .iadS 41 (.t 150) (.t 151), none, 2⟩,
    ⟨some 153, .fad (.t 152) 1, none, 2⟩,
    ⟨some 154, .load false 1 (.t 153), none, 2⟩,
    ⟨some 155, .call 97 [.l 5, .s, .s] [.t 148, .t 154, .c (.sc (.int .i64 2))], none, 0⟩,
    ⟨some 3, .mov (.t 155), none, 0⟩])) (.region [⟨some 139, .mov (.t 5), none, 0⟩,
    ⟨some 140, .bin .add .num (.t 139) (.c (.sc (.int .i64 1))), none, 0⟩,
    ⟨some 5, .mov (.t 140), none, 0⟩])))
def b58_2 : Cd := b58_2F
def b58_3F (c2 : Cd) : Cd := (.seq (.seq (.region [⟨some 124, .fad (.t 1) 0, none, 0⟩,
    ⟨some 125, .load false 1 (.t 124), none, 0⟩,
    ⟨some 126, .bin .eql .num (.t 125) (.c (.sc (.int .i64 10))), none, 0⟩]) (.cond (.t 126) (.seq (.region [⟨some 127, .mov (.t 3), none, 0⟩,
    ⟨some 128, .fad (.t 1) 10, none, 0⟩,
    ⟨some 129, .load false 1 (.t 128), none, 0⟩,
    ⟨some 130, .len false (.t 129), none, 0⟩,
    ⟨some 131, .conv .u8 (.t 130), none, 0⟩,
    ⟨some 132, .bsl 5 1 (.s) [.t 131], none, 0⟩,
    ⟨some 133, .app 5 1 (.t 127) (.t 132), none, 0⟩,
    ⟨some 3, .mov (.t 133), none, 0⟩]) (.seq (.region [⟨some 5, .mov (.c (.sc (.int .i64 0))), none, 0⟩]) (.block 2 (.loop [1, 5, 3] c2)))) .skip)) (.seq (.region [⟨some 156, .mov (.t 3), none, 0⟩,
    ⟨some 2, .mov (.t 156), none, 0⟩]) (.ret [2])))
def b58_3 : Cd := b58_3F b58_2
def b58_4F (c3 : Cd) : Cd := (.seq (.seq (.region [⟨some 108, .fad (.t 1) 0, none, 0⟩,
    ⟨some 109, .load false 1 (.t 108), none, 0⟩,
    ⟨some 110, .bin .eql .num (.t 109) (.c (.sc (.int .i64 7))), none, 0⟩,
    ⟨some 111, .mov (.t 110), none, 0⟩,
    ⟨some 112, .fad (.t 1) 0, some (111, false), 0⟩,
    ⟨some 113, .load false 1 (.t 112), some (111, false), 0⟩,
    ⟨some 114, .bin .eql .num (.t 113) (.c (.sc (.int .i64 9))), some (111, false), 0⟩,
    ⟨some 115, .mov (.t 114), some (111, false), 0⟩,
    ⟨some 116, .fad (.t 1) 3, some (115, true), 0⟩,
    ⟨some 117, .load false 1 (.t 116), some (115, true), 0⟩,
    ⟨some 118, .pick (.t 115) (.t 117) (.c (.sc (.bool false))), some (111, false), 0⟩,
    ⟨some 119, .pick (.t 111) (.c (.sc (.bool true))) (.t 118), none, 0⟩]) (.cond (.t 119) (.region [⟨some 120, .mov (.t 3), none, 0⟩,
    ⟨some 121, .fad (.t 1) 6, none, 0⟩,
    ⟨some 122, .load false 1 (.t 121), none, 0⟩,
    ⟨some 123, .call 97 [.l 5, .s, .s] [.t 120, .t 122, .c (.sc (.int .i64 2))], none, 0⟩,
    ⟨some 3, .mov (.t 123), none, 0⟩]) .skip)) (.seg [1, 3] [2] c3))
def b58_4 : Cd := b58_4F b58_3
def b58_5F (c4 : Cd) : Cd := (.seq (.seq (.region [⟨some 96, .fad (.t 1) 0, none, 0⟩,
    ⟨some 97, .load false 1 (.t 96), none, 0⟩,
    ⟨some 98, .bin .eql .num (.t 97) (.c (.sc (.int .i64 7))), none, 0⟩,
    ⟨some 99, .mov (.t 98), none, 0⟩,
    ⟨some 100, .fad (.t 1) 0, some (99, false), 0⟩,
    ⟨some 101, .load false 1 (.t 100), some (99, false), 0⟩,
    ⟨some 102, .bin .eql .num (.t 101) (.c (.sc (.int .i64 8))), some (99, false), 0⟩,
    ⟨some 103, .pick (.t 99) (.c (.sc (.bool true))) (.t 102), none, 0⟩]) (.cond (.t 103) (.region [⟨some 104, .mov (.t 3), none, 0⟩,
    ⟨some 105, .fad (.t 1) 5, none, 0⟩,
    ⟨some 106, .load false 1 (.t 105), none, 0⟩,
    ⟨some 107, .call 97 [.l 5, .s, .s] [.t 104, .t 106, .c (.sc (.int .i64 1))], none, 0⟩,
    ⟨some 3, .mov (.t 107), none, 0⟩]) .skip)) (.seg [1, 3] [2] c4))
def b58_5 : Cd := b58_5F b58_4
def b58_6F (c1 : Cd) (c5 : Cd) : Cd := (.seq (.seq (.region [⟨some 67, .fad (.t 1) 0, none, 0⟩,
    ⟨some 68, .load false 1 (.t 67), none, 0⟩,
    ⟨some 69, .bin .eql .num (.t 68) (.c (.sc (.int .i64 2))), none, 0⟩,
    ⟨some 70, .mov (.t 69), none, 0⟩,
    ⟨some 71, .fad (.t 1) 0, some (70, false), 0⟩,
    ⟨some 72, .load false 1 (.t 71), some (70, false), 0⟩,
    ⟨some 73, .bin .eql .num (.t 72) (.c (.sc (.int .i64 4))), some (70, false), 0⟩,
    ⟨some 74, .pick (.t 70) (.c (.sc (.bool true))) (.t 73), none, 0⟩]) (.seg [74, 1, 3] [1, 3] c1)) (.seg [1, 3] [2] c5))
def b58_6 : Cd := b58_6F b58_1 b58_5
def b58_7F (c6 : Cd) : Cd := (.seq (.seq (.region [⟨some 51, .fad (.t 1) 0, none, 0⟩,
    ⟨some 52, .load false 1 (.t 51), none, 0⟩,
    ⟨some 53, .bin .eql .num (.t 52) (.c (.sc (.int .i64 5))), none, 0⟩,
    ⟨some 54, .mov (.t 53), none, 0⟩,
    ⟨some 55, .fad (.t 1) 0, some (54, false), 0⟩,
    ⟨some 56, .load false 1 (.t 55), some (54, false), 0⟩,
    ⟨some 57, .bin .eql .num (.t 56) (.c (.sc (.int .i64 4))), some (54, false), 0⟩,
    ⟨some 58, .mov (.t 57), some (54, false), 0⟩,
    ⟨some 59, .fad (.t 1) 3, some (58, true), 0⟩,
    ⟨some 60, .load false 1 (.t 59), some (58, true), 0⟩,
    ⟨some 61, .pick (.t 58) (.t 60) (.c (.sc (.bool false))), some (54, false), 0⟩,
    ⟨some 62, .pick (.t 54) (.c (.sc (.bool true))) (.t 61), none, 0⟩]) (.cond (.t 62) (.region [⟨some 63, .mov (.t 3), none, 0⟩,
    ⟨some 64, .fad (.t 1) 7, none, 0⟩,
    ⟨some 65, .load true 2 (.t 64), none, 0⟩,
    ⟨some 66, .call 96 [.l 5, .a [.s, .s]] [.t 63, .t 65], none, 0⟩,
    ⟨some 3, .mov (.t 66), none, 0⟩]) .skip)) (.seg [1, 3] [2] c6))
def b58_7 : Cd := b58_7F b58_6
def b58_8F (c7 : Cd) : Cd := (.seq (.seq (.region [⟨some 44, .fad (.t 1) 0, none, 0⟩,
    ⟨some 45, .load false 1 (.t 44), none, 0⟩,
    ⟨some 46, .bin .eql .num (.t 45) (.c (.sc (.int .i64 1))), none, 0⟩]) (.cond (.t 46) (.region [⟨some 47, .mov (.t 3), none, 0⟩,
    ⟨some 48, .fad (.t 1) 4, none, 0⟩,
    ⟨some 49, .load false 1 (.t 48), none, 0⟩,
    ⟨some 50, .call 94 [.l 5, .s, .s] [.t 47, .t 49, .c (.sc (.int .i64 8))], none, 0⟩,
    ⟨some 3, .mov (.t 50), none, 0⟩]) .skip)) (.seg [1, 3] [2] c7))
def b58_8 : Cd := b58_8F b58_7
def b58_9F (c8 : Cd) : Cd := (.seq (.seq (.region [⟨some 22, .fad (.t 1) 0, none, 0⟩,
    ⟨some 23, .load false 1 (.t 22), none, 0⟩,
    ⟨some 24, .bin .eql .num (.t 23) (.c (.sc (.int .i64 2))), none, 0⟩,
    ⟨some 25, .mov (.t 24), none, 0⟩,
    ⟨some 26, .fad (.t 1) 0, some (25, false), 0⟩,
    ⟨some 27, .load false 1 (.t 26), some (25, false), 0⟩,
    ⟨some 28, .bin .eql .num (.t 27) (.c (.sc (.int .i64 4))), some (25, false), 0⟩,
    ⟨some 29, .pick (.t 25) (.c (.sc (.bool true))) (.t 28), none, 0⟩,
    ⟨some 30, .mov (.t 29), none, 0⟩,
    ⟨some 31, .fad (.t 1) 0, some (30, false), 0⟩,
    ⟨some 32, .load false 1 (.t 31), some (30, false), 0⟩,
    ⟨some 33, .bin .eql .num (.t 32) (.c (.sc (.int .i64 9))), some (30, false), 0⟩,
    ⟨some 34, .pick (.t 30) (.c (.sc (.bool true))) (.t 33), none, 0⟩,
    ⟨some 35, .mov (.t 34), none, 0⟩,
    ⟨some 36, .fad (.t 1) 0, some (35, false), 0⟩,
    ⟨some 37, .load false 1 (.t 36), some (35, false), 0⟩,
    ⟨some 38, .bin .eql .num (.t 37) (.c (.sc (.int .i64 10))), some (35, false), 0⟩,
    ⟨some 39, .pick (.t 35) (.c (.sc (.bool true))) (.t 38), none, 0⟩]) (.cond (.t 39) (.region [⟨some 40, .mov (.t 3), none, 0⟩,
    ⟨some 41, .fad (.t 1) 3, none, 0⟩,
    ⟨some 42, .load false 1 (.t 41), none, 0⟩,
    ⟨some 43, .call 95 [.l 5, .s] [.t 40, .t 42], none, 0⟩,
    ⟨some 3, .mov (.t 43), none, 0⟩]) .skip)) (.seg [1, 3] [2] c8))
def b58_9 : Cd := b58_9F b58_8
def g58F (c9 : Cd) : Fn := ⟨157, [.t 2], [.l 5], .lit,
  (.seq (.region [⟨some 1, .box 49 11 (.t 0), none, 0⟩,
    ⟨some 2, .nil 5, none, 0⟩]) (.seq (.region [⟨some 6, .fad (.t 1) 0, none, 0⟩,
    ⟨some 7, .load false 1 (.t 6), none, 0⟩,
    ⟨some 8, .conv .u64 (.t 7), none, 0⟩,
    ⟨some 9, .call 94 [] [.c (.lit 0 true []), .t 8, .c (.sc (.int .i64 1))], none, 1⟩,
    ⟨some 10, .fad (.t 1) 1, none, 2⟩,
    ⟨some 11, .load false 1 (.t 10), none, 2⟩,
    ⟨some 12, .conv .u64 (.t 11), none, 0⟩,
    ⟨some 13, .call 94 [.l 5, .s, .s] [.t 9, .t 12, .c (.sc (.int .i64 4))], none, 0⟩,
    ⟨some 3, .mov (.t 13), none, 0⟩]) (.seq (.seq (.region [⟨some 14, .fad (.t 1) 0, none, 0⟩,
    ⟨some 15, .load false 1 (.t 14), none, 0⟩,
    ⟨some 16, .bin .eql .num (.t 15) (.c (.sc (.int .i64 12))), none, 0⟩]) (.cond (.t 16) (.region [⟨some 17, .mov (.t 3), none, 0⟩,
    ⟨some 18, .fad (.t 1) 2, none, 0⟩,
    ⟨some 19, .load false 1 (.t 18), none, 0⟩,
    ⟨some 20, .bsl 5 1 (.s) [.t 19], none, 0⟩,
    ⟨some 21, .app 5 1 (.t 17) (.t 20), none, 0⟩,
    ⟨some 3, .mov (.t 21), none, 0⟩]) .skip)) (.seg [1, 3] [2] c9))))⟩
def g58 : Fn := g58F b58_9
theorem cmp58 : cmpFn Tryd.prog .lit [1000016, 50000000000009, 1000200005] 58 = some g58 := by kernel_rfl
def g59F : Fn := ⟨7, [.t 2], [.s], .mv,
  (.seq (.region [⟨some 2, .mov (.c (.sc (.pointer none))), none, 0⟩]) (.seq (.region [⟨some 3, .mov (.t 0), none, 0⟩,
    ⟨some 4, .callz 98 [.l 5] [.t 3], none, 0⟩,
    ⟨some 5, .build [.sc (.bool false), .lit 0 true [], .sc (.int .i64 0)] [(0, 1, .c (.sc (.bool true))), (1, 1, .t 4)], none, 0⟩,
    ⟨some 6, .box 112 3 (.t 5), none, 0⟩,
    ⟨some 2, .mov (.t 6), none, 0⟩]) (.ret [2])))⟩
def g59 : Fn := g59F
theorem cmp59 : cmpFn Tryd.prog .mv [1000016, 4] 59 = some g59 := by kernel_rfl
def b60_0F : Cd := (.seq (.region [⟨some 27, .bin .lss .num (.t 26) (.t 25), none, 0⟩]) (.seq (.cond (.t 27) .skip (.exit 0 [5])) (.seq (.block 1 (.seq (.region [⟨some 28, .iadS 5 (.t 24) (.t 26), none, 0⟩,
    ⟨some 29, .load false 1 (.t 28), none, 0⟩,
    ⟨some 7, .mov (.t 29), none, 0⟩]) (.region [⟨some 30, .mov (.t 5), none, 0⟩,
    ⟨some 31, .bin .shl .num (.t 30) (.c (.sc (.int .u64 8))), none, 0⟩,
    ⟨some 32, .mov (.t 7), none, 0⟩,
    ⟨some 33, .conv .u64 (.t 32), none, 0⟩,
    ⟨some 34, .bin .or .num (.t 31) (.t 33), none, 0⟩,
    ⟨some 5, .mov (.t 34), none, 0⟩]))) (.region [⟨some 35, .bin .add .num (.t 26) (.c (.sc (.int .i64 1))), none, 0⟩,
    ⟨some 26, .mov (.t 35), none, 0⟩]))))
def b60_0 : Cd := b60_0F
def b60_1F (c0 : Cd) : Cd := (.seq (.seq (.region [⟨some 19, .mov (.t 0), none, 0⟩,
    ⟨some 20, .mov (.t 1), none, 0⟩,
    ⟨some 21, .call 100 [.s, .s] [.t 19, .t 20], none, 0⟩]) (.cond (.t 21) (.seq (.region [⟨some 4, .mov (.c (.sc (.int .u64 0))), none, 0⟩]) (.ret [4])) .skip)) (.seq (.region [⟨some 5, .mov (.c (.sc (.int .u64 0))), none, 0⟩]) (.seq (.seq (.region [⟨some 22, .mov (.t 0), none, 0⟩,
    ⟨some 23, .mov (.t 1), none, 0⟩,
    ⟨some 24, .call 101 [.s, .s] [.t 22, .t 23], none, 0⟩,
    ⟨some 25, .len false (.t 24), none, 0⟩,
    ⟨some 26, .mov (.c (.sc (.int .i64 0))), none, 0⟩]) (.block 0 (.loop [25, 24, 26, 5] c0))) (.seq (.region [⟨some 36, .mov (.t 5), none, 0⟩,
    ⟨some 4, .mov (.t 36), none, 0⟩]) (.ret [4])))))
def b60_1 : Cd := b60_1F b60_0
def g60F (c1 : Cd) : Fn := ⟨37, [.t 4], [.s], .mv,
  (.seq (.region [⟨some 4, .mov (.c (.sc (.int .u64 0))), none, 0⟩]) (.seq (.seq (.region [⟨some 8, .mov (.t 0), none, 0⟩,
    ⟨some 9, .call 99 [.s] [.t 8], none, 0⟩]) (.cond (.t 9) (.seq (.region [⟨some 4, .mov (.c (.sc (.int .u64 0))), none, 0⟩]) (.ret [4])) .skip)) (.seq (.seq (.region [⟨some 10, .mov (.t 1), none, 0⟩,
    ⟨some 11, .bin .lss .num (.t 10) (.c (.sc (.int .i64 1))), none, 0⟩,
    ⟨some 12, .mov (.t 11), none, 0⟩,
    ⟨some 13, .mov (.t 1), some (12, false), 0⟩,
    ⟨some 14, .bin .gtr .num (.t 13) (.c (.sc (.int .i64 8))), some (12, false), 0⟩,
    ⟨some 15, .pick (.t 12) (.c (.sc (.bool true))) (.t 14), none, 0⟩]) (.cond (.t 15) (.seq (.region [⟨some 16, .mov (.t 0), none, 0⟩,
    ⟨some 17, .nck (.t 16), none, 0⟩,
    ⟨some 18, .fad (.t 17) 2, none, 0⟩,
    ⟨none, .store 1 (.t 18) (.c (.sc (.int .i64 1))), none, 0⟩]) (.seq (.region [⟨some 4, .mov (.c (.sc (.int .u64 0))), none, 0⟩]) (.ret [4]))) .skip)) (.seg [0, 1] [4] c1))))⟩
def g60 : Fn := g60F b60_1
theorem cmp60 : cmpFn Tryd.prog .mv [1000016] 60 = some g60 := by kernel_rfl
def g61F : Fn := ⟨6, [.t 2], [.s], .lit,
  (.seq (.region [⟨some 2, .mov (.c (.sc (.string ⟨#[]⟩))), none, 0⟩]) (.seq (.region [⟨some 3, .mov (.t 0), none, 0⟩,
    ⟨some 4, .call 102 [.s] [.t 3], none, 0⟩,
    ⟨some 5, .fld false 1 0 (.t 4), none, 0⟩,
    ⟨some 2, .mov (.t 5), none, 0⟩]) (.ret [2])))⟩
def g61 : Fn := g61F
theorem cmp61 : cmpFn Tryd.prog .lit [1000016] 61 = some g61 := by kernel_rfl
def g62F : Fn := ⟨11, [], [], .mv,
  (.seq (.region [⟨some 4, .mov (.t 0), none, 0⟩,
    ⟨some 5, .call 99 [.s] [.t 4], none, 0⟩,
    ⟨some 6, .un .not (.t 5), none, 0⟩]) (.cond (.t 6) (.region [⟨some 7, .mov (.t 0), none, 0⟩,
    ⟨some 8, .mov (.t 1), none, 0⟩,
    ⟨some 9, .nck (.t 7), none, 0⟩,
    ⟨some 10, .fad (.t 9) 2, none, 0⟩,
    ⟨none, .store 1 (.t 10) (.t 8), none, 0⟩]) .skip))⟩
def g62 : Fn := g62F
theorem cmp62 : cmpFn Tryd.prog .mv [1000016] 62 = some g62 := by kernel_rfl
def b63_0F : Cd := (.cond (.t 51) (.seq (.region [⟨some 54, .mov (.t 1), none, 0⟩,
    ⟨some 55, .mov (.t 0), none, 0⟩,
    ⟨some 56, .call 106 [.s, .s, .s] [.t 55, .c (.sc (.int .i64 1)), .c (.sc (.int .i64 96))], none, 0⟩,
    ⟨some 57, .nck (.t 54), none, 0⟩,
    ⟨some 58, .fad (.t 57) 5, none, 0⟩,
    ⟨none, .store 1 (.t 58) (.t 56), none, 0⟩]) (.seq (.region [⟨some 59, .mov (.t 1), none, 0⟩,
    ⟨some 60, .nck (.t 59), none, 0⟩,
    ⟨some 61, .fad (.t 60) 0, none, 0⟩,
    ⟨some 62, .load false 1 (.t 61), none, 0⟩,
    ⟨some 63, .bin .eql .num (.t 62) (.c (.sc (.int .i64 7))), none, 0⟩]) (.cond (.t 63) (.region [⟨some 64, .mov (.t 1), none, 0⟩,
    ⟨some 65, .mov (.t 0), none, 0⟩,
    ⟨some 66, .call 106 [.s, .s, .s] [.t 65, .c (.sc (.int .i64 2)), .c (.sc (.int .i64 512))], none, 0⟩,
    ⟨some 67, .nck (.t 64), none, 0⟩,
    ⟨some 68, .fad (.t 67) 6, none, 0⟩,
    ⟨none, .store 1 (.t 68) (.t 66), none, 0⟩]) .skip))) (.seq (.region [⟨some 70, .bin .eql .num (.t 7) (.c (.sc (.int .i64 9))), none, 0⟩,
    ⟨some 69, .mov (.t 70), none, 0⟩]) (.cond (.t 69) (.seq (.region [⟨some 71, .mov (.t 1), none, 0⟩,
    ⟨some 72, .mov (.t 0), none, 0⟩,
    ⟨some 73, .call 103 [.s] [.t 72], none, 0⟩,
    ⟨some 74, .nck (.t 71), none, 0⟩,
    ⟨some 75, .fad (.t 74) 3, none, 0⟩,
    ⟨none, .store 1 (.t 75) (.t 73), none, 0⟩]) (.seq (.region [⟨some 76, .mov (.t 1), none, 0⟩,
    ⟨some 77, .nck (.t 76), none, 0⟩,
    ⟨some 78, .fad (.t 77) 3, none, 0⟩,
    ⟨some 79, .load false 1 (.t 78), none, 0⟩]) (.cond (.t 79) (.region [⟨some 80, .mov (.t 1), none, 0⟩,
    ⟨some 81, .mov (.t 0), none, 0⟩,
    ⟨some 82, .call 106 [.s, .s, .s] [.t 81, .c (.sc (.int .i64 2)), .c (.sc (.int .i64 512))], none, 0⟩,
    ⟨some 83, .nck (.t 80), none, 0⟩,
    ⟨some 84, .fad (.t 83) 6, none, 0⟩,
    ⟨none, .store 1 (.t 84) (.t 82), none, 0⟩]) .skip))) (.seq (.region [⟨some 86, .bin .eql .num (.t 7) (.c (.sc (.int .i64 10))), none, 0⟩,
    ⟨some 85, .mov (.t 86), none, 0⟩]) (.cond (.t 85) (.seq (.region [⟨some 87, .mov (.t 1), none, 0⟩,
    ⟨some 88, .mov (.t 0), none, 0⟩,
    ⟨some 89, .call 103 [.s] [.t 88], none, 0⟩,
    ⟨some 90, .nck (.t 87), none, 0⟩,
    ⟨some 91, .fad (.t 90) 3, none, 0⟩,
    ⟨none, .store 1 (.t 91) (.t 89), none, 0⟩]) (.region [⟨some 92, .mov (.t 1), none, 0⟩,
    ⟨some 93, .mov (.t 0), none, 0⟩,
    ⟨some 94, .callz 107 [.s] [.t 93], none, 0⟩,
    ⟨some 95, .nck (.t 92), none, 0⟩,
    ⟨some 96, .fad (.t 95) 10, none, 0⟩,
    ⟨none, .store 1 (.t 96) (.t 94), none, 0⟩])) (.seq (.region [⟨some 98, .bin .eql .num (.t 7) (.c (.sc (.int .i64 12))), none, 0⟩,
    ⟨some 97, .mov (.t 98), none, 0⟩]) (.cond (.t 97) (.region [⟨some 99, .mov (.t 1), none, 0⟩,
    ⟨some 100, .mov (.t 0), none, 0⟩,
    ⟨some 101, .call 60 [.s, .s] [.t 100, .c (.sc (.int .i64 1))], none, 0⟩,
    ⟨some 102, .conv .u8 (.t 101), none, 0⟩,
    ⟨some 103, .nck (.t 99), none, 0⟩,
    ⟨some 104, .fad (.t 103) 2, none, 0⟩,
    ⟨none, .store 1 (.t 104) (.t 102), none, 0⟩]) .skip)))))))
def b63_0 : Cd := b63_0F
def b63_1F (c0 : Cd) : Cd := (.cond (.t 15) (.seq (.seq (.region [⟨some 18, .mov (.t 1), none, 0⟩,
    ⟨some 19, .mov (.t 0), none, 0⟩,
    ⟨some 20, .call 103 [.s] [.t 19], none, 0⟩,
    ⟨some 21, .nck (.t 18), none, 0⟩,
    ⟨some 22, .fad (.t 21) 3, none, 0⟩,
    ⟨none, .store 1 (.t 22) (.t 20), none, 0⟩]) (.seq (.region [⟨some 23, .mov (.t 1), none, 0⟩,
    ⟨some 24, .nck (.t 23), none, 0⟩,
    ⟨some 25, .fad (.t 24) 3, none, 0⟩,
    ⟨some 26, .load false 1 (.t 25), none, 0⟩,
    ⟨some 27, .mov (.t 26), none, 0⟩,
    ⟨some 28, .mov (.t 1), some (27, true), 0⟩,
    ⟨some 29, .nck (.t 28), some (27, true), 0⟩,
    ⟨some 30, .fad (.t 29) 0, some (27, true), 0⟩,
    ⟨some 31, .load false 1 (.t 30), some (27, true), 0⟩,
    ⟨some 32, .bin .eql .num (.t 31) (.c (.sc (.int .i64 4))), some (27, true), 0⟩,
    ⟨some 33, .pick (.t 27) (.t 32) (.c (.sc (.bool false))), none, 0⟩]) (.cond (.t 33) (.region [⟨some 34, .mov (.t 1), none, 0⟩,
    ⟨some 35, .mov (.t 0), none, 0⟩,
    ⟨some 36, .call 104 [.s] [.t 35], none, 0⟩,
    ⟨some 37, .nck (.t 34), none, 0⟩,
    ⟨some 38, .fad (.t 37) 7, none, 0⟩,
    ⟨none, .store 2 (.t 38) (.t 36), none, 0⟩]) .skip))) (.region [⟨some 39, .mov (.t 1), none, 0⟩,
    ⟨some 40, .mov (.t 0), none, 0⟩,
    ⟨some 41, .callz 105 [.s] [.t 40], none, 0⟩,
    ⟨some 42, .nck (.t 39), none, 0⟩,
    ⟨some 43, .fad (.t 42) 9, none, 0⟩,
    ⟨none, .store 1 (.t 43) (.t 41), none, 0⟩])) (.seq (.region [⟨some 45, .bin .eql .num (.t 7) (.c (.sc (.int .i64 5))), none, 0⟩,
    ⟨some 44, .mov (.t 45), none, 0⟩]) (.cond (.t 44) (.region [⟨some 46, .mov (.t 1), none, 0⟩,
    ⟨some 47, .mov (.t 0), none, 0⟩,
    ⟨some 48, .call 104 [.s] [.t 47], none, 0⟩,
    ⟨some 49, .nck (.t 46), none, 0⟩,
    ⟨some 50, .fad (.t 49) 7, none, 0⟩,
    ⟨none, .store 2 (.t 50) (.t 48), none, 0⟩]) (.seq (.seq (.region [⟨some 52, .bin .eql .num (.t 7) (.c (.sc (.int .i64 7))), none, 0⟩,
    ⟨some 51, .mov (.t 52), none, 0⟩]) (.cond (.t 51) .skip (.region [⟨some 53, .bin .eql .num (.t 7) (.c (.sc (.int .i64 8))), none, 0⟩,
    ⟨some 51, .mov (.t 53), none, 0⟩]))) (.seg [51, 7, 1, 0] [] c0)))))
def b63_1 : Cd := b63_1F b63_0
def g63F (c1 : Cd) : Fn := ⟨105, [], [], .mv,
  (.seq (.region [⟨some 4, .mov (.t 1), none, 0⟩,
    ⟨some 5, .nck (.t 4), none, 0⟩,
    ⟨some 6, .fad (.t 5) 0, none, 0⟩,
    ⟨some 7, .load false 1 (.t 6), none, 0⟩]) (.block 0 (.seq (.region [⟨some 9, .bin .eql .num (.t 7) (.c (.sc (.int .i64 1))), none, 0⟩,
    ⟨some 8, .mov (.t 9), none, 0⟩]) (.cond (.t 8) (.region [⟨some 10, .mov (.t 1), none, 0⟩,
    ⟨some 11, .mov (.t 0), none, 0⟩,
    ⟨some 12, .call 60 [.s, .s] [.t 11, .c (.sc (.int .i64 8))], none, 0⟩,
    ⟨some 13, .nck (.t 10), none, 0⟩,
    ⟨some 14, .fad (.t 13) 4, none, 0⟩,
    ⟨none, .store 1 (.t 14) (.t 12), none, 0⟩]) (.seq (.seq (.region [⟨some 16, .bin .eql .num (.t 7) (.c (.sc (.int .i64 2))), none, 0⟩,
    ⟨some 15, .mov (.t 16), none, 0⟩]) (.cond (.t 15) .skip (.region [⟨some 17, .bin .eql .num (.t 7) (.c (.sc (.int .i64 4))), none, 0⟩,
    ⟨some 15, .mov (.t 17), none, 0⟩]))) (.seg [15, 7, 1, 0] [] c1))))))⟩
def g63 : Fn := g63F b63_1
theorem cmp63 : cmpFn Tryd.prog .mv [1000016, 41, 94] 63 = some g63 := by kernel_rfl
def g64F : Fn := ⟨15, [.t 2], [.s], .mv,
  (.seq (.region [⟨some 2, .mov (.c (.sc (.int .i64 0))), none, 0⟩]) (.seq (.seq (.region [⟨some 4, .mov (.t 0), none, 0⟩,
    ⟨some 5, .call 108 [.s] [.t 4], none, 0⟩,
    ⟨some 3, .mov (.t 5), none, 0⟩]) (.seq (.region [⟨some 6, .mov (.t 3), none, 0⟩,
    ⟨some 7, .bin .neq .num (.t 6) (.c (.sc (.int .i64 0))), none, 0⟩]) (.cond (.t 7) (.seq (.region [⟨some 8, .mov (.t 3), none, 0⟩,
    ⟨some 2, .mov (.t 8), none, 0⟩]) (.ret [2])) .skip))) (.seq (.seq (.region [⟨some 9, .mov (.t 0), none, 0⟩,
    ⟨some 10, .nck (.t 9), none, 0⟩,
    ⟨some 11, .fad (.t 10) 1, none, 0⟩,
    ⟨some 12, .load false 1 (.t 11), none, 0⟩,
    ⟨some 13, .len false (.t 12), none, 0⟩,
    ⟨some 14, .bin .gtr .num (.t 13) (.c (.sc (.int .i64 0))), none, 0⟩]) (.cond (.t 14) (.seq (.region [⟨some 2, .mov (.c (.sc (.int .i64 4))), none, 0⟩]) (.ret [2])) .skip)) (.seq (.region [⟨some 2, .mov (.c (.sc (.int .i64 0))), none, 0⟩]) (.ret [2])))))⟩
def g64 : Fn := g64F
theorem cmp64 : cmpFn Tryd.prog .mv [1000016] 64 = some g64 := by kernel_rfl
def b65_0F : Cd := (.seq (.seq (.region [⟨some 27, .mov (.t 7), none, 0⟩,
    ⟨some 28, .mov (.t 5), none, 0⟩,
    ⟨some 29, .len false (.t 28), none, 0⟩,
    ⟨some 30, .bin .lss .num (.t 27) (.t 29), none, 0⟩]) (.cond (.t 30) .skip (.exit 0 [6]))) (.seq (.block 1 (.region [⟨some 33, .mov (.t 6), none, 0⟩,
    ⟨some 34, .bin .mul .num (.t 33) (.c (.sc (.int .u64 256))), none, 0⟩,
    ⟨some 35, .mov (.t 5), none, 0⟩,
    ⟨some 36, .mov (.t 7), none, 0⟩,
    ⟨some 37, .iadS 5 (.t 35) (.t 36), none, 0⟩,
    ⟨some 38, .load false 1 (.t 37), none, 0⟩,
    ⟨some 39, .conv .u64 (.t 38), none, 0⟩,
    ⟨some 40, .bin .add .num (.t 34) (.t 39), none, 0⟩,
    ⟨some 6, .mov (.t 40), none, 0⟩])) (.region [⟨some 31, .mov (.t 7), none, 0⟩,
    ⟨some 32, .bin .add .num (.t 31) (.c (.sc (.int .i64 1))), none, 0⟩,
    ⟨some 7, .mov (.t 32), none, 0⟩])))
def b65_0 : Cd := b65_0F
def b65_1F (c0 : Cd) : Cd := (.seq (.region [⟨some 24, .mov (.t 0), none, 0⟩,
    ⟨some 25, .mov (.t 1), none, 0⟩,
    ⟨some 26, .call 109 [.s, .s] [.t 24, .t 25], none, 0⟩,
    ⟨some 5, .mov (.t 26), none, 0⟩]) (.seq (.region [⟨some 6, .mov (.c (.sc (.int .u64 0))), none, 0⟩]) (.seq (.seq (.region [⟨some 7, .mov (.c (.sc (.int .i64 0))), none, 0⟩]) (.block 0 (.loop [5, 7, 6] c0))) (.seq (.region [⟨some 41, .mov (.t 6), none, 0⟩,
    ⟨some 4, .mov (.t 41), none, 0⟩]) (.ret [4])))))
def b65_1 : Cd := b65_1F b65_0
def g65F (c1 : Cd) : Fn := ⟨42, [.t 4], [.s], .mv,
  (.seq (.region [⟨some 4, .mov (.c (.sc (.int .u64 0))), none, 0⟩]) (.seq (.seq (.region [⟨some 8, .mov (.t 0), none, 0⟩,
    ⟨some 9, .nck (.t 8), none, 0⟩,
    ⟨some 10, .fad (.t 9) 2, none, 0⟩,
    ⟨some 11, .load false 1 (.t 10), none, 0⟩,
    ⟨some 12, .bin .eql .num (.t 11) (.c (.sc (.int .i64 0))), none, 0⟩,
    ⟨some 13, .mov (.t 12), none, 0⟩,
    ⟨some 14, .mov (.t 1), some (13, true), 0⟩,
    ⟨some 15, .bin .lss .num (.t 14) (.c (.sc (.int .i64 1))), some (13, true), 0⟩,
    ⟨some 16, .mov (.t 15), some (13, true), 0⟩,
    ⟨some 17, .mov (.t 1), some (16, false), 0⟩,
    ⟨some 18, .bin .gtr .num (.t 17) (.c (.sc (.int .i64 8))), some (16, false), 0⟩,
    ⟨some 19, .pick (.t 16) (.c (.sc (.bool true))) (.t 18), some (13, true), 0⟩,
    ⟨some 20, .pick (.t 13) (.t 19) (.c (.sc (.bool false))), none, 0⟩]) (.cond (.t 20) (.region [⟨some 21, .mov (.t 0), none, 0⟩,
    ⟨some 22, .nck (.t 21), none, 0⟩,
    ⟨some 23, .fad (.t 22) 2, none, 0⟩,
    ⟨none, .store 1 (.t 23) (.c (.sc (.int .i64 1))), none, 0⟩]) .skip)) (.seg [0, 1] [4] c1)))⟩
def g65 : Fn := g65F b65_1
theorem cmp65 : cmpFn Tryd.prog .mv [1000016] 65 = some g65 := by kernel_rfl
def g66F : Fn := ⟨13, [], [], .mv,
  (.seq (.region [⟨some 4, .mov (.t 0), none, 0⟩,
    ⟨some 5, .nck (.t 4), none, 0⟩,
    ⟨some 6, .fad (.t 5) 2, none, 0⟩,
    ⟨some 7, .load false 1 (.t 6), none, 0⟩,
    ⟨some 8, .bin .eql .num (.t 7) (.c (.sc (.int .i64 0))), none, 0⟩]) (.cond (.t 8) (.region [⟨some 9, .mov (.t 0), none, 0⟩,
    ⟨some 10, .mov (.t 1), none, 0⟩,
    ⟨some 11, .nck (.t 9), none, 0⟩,
    ⟨some 12, .fad (.t 11) 2, none, 0⟩,
    ⟨none, .store 1 (.t 12) (.t 10), none, 0⟩]) .skip))⟩
def g66 : Fn := g66F
theorem cmp66 : cmpFn Tryd.prog .mv [1000016] 66 = some g66 := by kernel_rfl
def g67F : Fn := ⟨48, [.t 2], [.s], .mv,
  (.seq (.region [⟨some 2, .mov (.c (.sc (.bool false))), none, 0⟩]) (.seq (.seq (.region [⟨some 3, .mov (.t 0), none, 0⟩,
    ⟨some 4, .nck (.t 3), none, 0⟩,
    ⟨some 5, .fad (.t 4) 2, none, 0⟩,
    ⟨some 6, .load false 1 (.t 5), none, 0⟩,
    ⟨some 7, .bin .neq .num (.t 6) (.c (.sc (.int .i64 0))), none, 0⟩]) (.cond (.t 7) (.seq (.region [⟨some 2, .mov (.c (.sc (.bool false))), none, 0⟩]) (.ret [2])) .skip)) (.seq (.seq (.region [⟨some 8, .mov (.t 0), none, 0⟩,
    ⟨some 9, .call 110 [.s] [.t 8], none, 0⟩,
    ⟨some 10, .bin .lss .num (.t 9) (.c (.sc (.int .i64 1))), none, 0⟩]) (.cond (.t 10) (.seq (.region [⟨some 11, .mov (.t 0), none, 0⟩,
    ⟨some 12, .nck (.t 11), none, 0⟩,
    ⟨some 13, .fad (.t 12) 2, none, 0⟩,
    ⟨none, .store 1 (.t 13) (.c (.sc (.int .i64 2))), none, 0⟩]) (.seq (.region [⟨some 2, .mov (.c (.sc (.bool false))), none, 0⟩]) (.ret [2]))) .skip)) (.seq (.seq (.region [⟨some 14, .mov (.t 0), none, 0⟩,
    ⟨some 15, .nck (.t 14), none, 0⟩,
    ⟨some 16, .fad (.t 15) 0, none, 0⟩,
    ⟨some 17, .load false 1 (.t 16), none, 0⟩,
    ⟨some 18, .mov (.t 0), none, 0⟩,
    ⟨some 19, .nck (.t 18), none, 0⟩,
    ⟨some 20, .fad (.t 19) 1, none, 0⟩,
    ⟨some 21, .load false 1 (.t 20), none, 0⟩,
    ⟨some 22, .iadS 5 (.t 17) (.t 21), none, 0⟩,
    ⟨some 23, .load false 1 (.t 22), none, 0⟩,
    ⟨some 24, .bin .gtr .num (.t 23) (.c (.sc (.int .u8 1))), none, 0⟩]) (.cond (.t 24) (.seq (.region [⟨some 25, .mov (.t 0), none, 0⟩,
    ⟨some 26, .nck (.t 25), none, 0⟩,
    ⟨some 27, .fad (.t 26) 2, none, 0⟩,
    ⟨none, .store 1 (.t 27) (.c (.sc (.int .i64 3))), none, 0⟩]) (.seq (.region [⟨some 2, .mov (.c (.sc (.bool false))), none, 0⟩]) (.ret [2]))) .skip)) (.seq (.region [⟨some 28, .mov (.t 0), none, 0⟩,
    ⟨some 29, .mov (.t 0), none, 0⟩,
    ⟨some 30, .nck (.t 29), none, 0⟩,
    ⟨some 31, .fad (.t 30) 1, none, 0⟩,
    ⟨some 32, .load false 1 (.t 31), none, 0⟩,
    ⟨some 33, .bin .add .num (.t 32) (.c (.sc (.int .i64 1))), none, 0⟩,
    ⟨some 34, .nck (.t 28), none, 0⟩,
    ⟨some 35, .fad (.t 34) 1, none, 0⟩,
    ⟨none, .store 1 (.t 35) (.t 33), none, 0⟩]) (.seq (.region [⟨some 36, .mov (.t 0), none, 0⟩,
    ⟨some 37, .nck (.t 36), none, 0⟩,
    ⟨some 38, .fad (.t 37) 0, none, 0⟩,
    ⟨some 39, .load false 1 (.t 38), none, 0⟩,
    ⟨some 40, .mov (.t 0), none, 0⟩,
    ⟨some 41, .nck (.t 40), none, 0⟩,
    ⟨some 42, .fad (.t 41) 1, none, 0⟩,
    ⟨some 43, .load false 1 (.t 42), none, 0⟩,
    ⟨some 44, .bin .sub .num (.t 43) (.c (.sc (.int .i64 1))), none, 0⟩,
    ⟨some 45, .iadS 5 (.t 39) (.t 44), none, 0⟩,
    ⟨some 46, .load false 1 (.t 45), none, 0⟩,
    ⟨some 47, .bin .eql .num (.t 46) (.c (.sc (.int .u8 1))), none, 0⟩,
    ⟨some 2, .mov (.t 47), none, 0⟩]) (.ret [2])))))))⟩
def g67 : Fn := g67F
theorem cmp67 : cmpFn Tryd.prog .mv [1000016] 67 = some g67 := by kernel_rfl
def g68F : Fn := ⟨13, [.cell 2 true 2], [.a [.s, .s]], .mv,
  (.seq (.region [⟨some 2, .box 46 2 (.c (.agg [.sc (.int .u64 0), .sc (.int .u16 0)])), none, 0⟩]) (.seq (.region [⟨some 5, .mov (.t 0), none, 0⟩,
    ⟨some 6, .call 65 [.s, .s] [.t 5, .c (.sc (.int .i64 8))], none, 0⟩,
    ⟨some 3, .mov (.t 6), none, 0⟩]) (.seq (.region [⟨some 7, .mov (.t 0), none, 0⟩,
    ⟨some 8, .call 65 [.s, .s] [.t 7, .c (.sc (.int .i64 2))], none, 0⟩,
    ⟨some 4, .mov (.t 8), none, 0⟩]) (.seq (.region [⟨some 9, .mov (.t 3), none, 0⟩,
    ⟨some 10, .mov (.t 4), none, 0⟩,
    ⟨some 11, .conv .u16 (.t 10), none, 0⟩,
    ⟨some 12, .build [.sc (.int .u64 0), .sc (.int .u16 0)] [(0, 1, .t 9), (1, 1, .t 11)], none, 0⟩,
    ⟨none, .store 2 (.t 2) (.t 12), none, 0⟩]) (.ret [2])))))⟩
def g68 : Fn := g68F
theorem cmp68 : cmpFn Tryd.prog .mv [1000016] 68 = some g68 := by kernel_rfl
def g69F : Fn := ⟨15, [.t 4], [.s], .mv,
  (.seq (.region [⟨some 4, .mov (.c (.sc (.int .i64 0))), none, 0⟩]) (.seq (.region [⟨some 6, .mov (.t 0), none, 0⟩,
    ⟨some 7, .call 65 [.s, .s] [.t 6, .c (.sc (.int .i64 1))], none, 0⟩,
    ⟨some 8, .conv .i64 (.t 7), none, 0⟩,
    ⟨some 5, .mov (.t 8), none, 0⟩]) (.seq (.seq (.region [⟨some 9, .mov (.t 5), none, 0⟩,
    ⟨some 10, .mov (.t 1), none, 0⟩,
    ⟨some 11, .bin .gtr .num (.t 9) (.t 10), none, 0⟩]) (.cond (.t 11) (.seq (.region [⟨some 12, .mov (.t 0), none, 0⟩,
    ⟨some 13, .call 66 [.s, .s] [.t 12, .c (.sc (.int .i64 5))], none, 0⟩]) (.region [⟨some 5, .mov (.c (.sc (.int .i64 0))), none, 0⟩])) .skip)) (.seq (.region [⟨some 14, .mov (.t 5), none, 0⟩,
    ⟨some 4, .mov (.t 14), none, 0⟩]) (.ret [4])))))⟩
def g69 : Fn := g69F
theorem cmp69 : cmpFn Tryd.prog .mv [1000016] 69 = some g69 := by kernel_rfl
def g70F : Fn := ⟨21, [.t 6], [.s], .mv,
  (.seq (.region [⟨some 6, .mov (.c (.sc (.string ⟨#[]⟩))), none, 0⟩]) (.seq (.region [⟨some 8, .mov (.t 0), none, 0⟩,
    ⟨some 9, .mov (.t 1), none, 0⟩,
    ⟨some 10, .call 65 [.s, .s] [.t 8, .t 9], none, 0⟩,
    ⟨some 11, .conv .i64 (.t 10), none, 0⟩,
    ⟨some 7, .mov (.t 11), none, 0⟩]) (.seq (.seq (.region [⟨some 12, .mov (.t 7), none, 0⟩,
    ⟨some 13, .mov (.t 2), none, 0⟩,
    ⟨some 14, .bin .gtr .num (.t 12) (.t 13), none, 0⟩]) (.cond (.t 14) (.region [⟨some 15, .mov (.t 0), none, 0⟩,
    ⟨some 16, .call 66 [.s, .s] [.t 15, .c (.sc (.int .i64 5))], none, 0⟩]) .skip)) (.seq (.region [⟨some 17, .mov (.t 0), none, 0⟩,
    ⟨some 18, .mov (.t 7), none, 0⟩,
    ⟨some 19, .call 109 [.s, .s] [.t 17, .t 18], none, 0⟩,
    ⟨some 20, .sofb 5 (.t 19), none, 0⟩,
    ⟨some 6, .mov (.t 20), none, 0⟩]) (.ret [6])))))⟩
def g70 : Fn := g70F
theorem cmp70 : cmpFn Tryd.prog .mv [1000016] 70 = some g70 := by kernel_rfl
def g71F : Fn := ⟨17, [.t 2], [.s], .mv,
  (.seq (.region [⟨some 2, .mov (.c (.sc (.int .i64 0))), none, 0⟩]) (.seq (.seq (.region [⟨some 3, .mov (.t 0), none, 0⟩,
    ⟨some 4, .nck (.t 3), none, 0⟩,
    ⟨some 5, .fad (.t 4) 2, none, 0⟩,
    ⟨some 6, .load false 1 (.t 5), none, 0⟩,
    ⟨some 7, .bin .eql .num (.t 6) (.c (.sc (.int .i64 0))), none, 0⟩,
    ⟨some 8, .mov (.t 7), none, 0⟩,
    ⟨some 9, .mov (.t 0), some (8, true), 0⟩,
    ⟨some 10, .call 110 [.s] [.t 9], some (8, true), 0⟩,
    ⟨some 11, .bin .gtr .num (.t 10) (.c (.sc (.int .i64 0))), some (8, true), 0⟩,
    ⟨some 12, .pick (.t 8) (.t 11) (.c (.sc (.bool false))), none, 0⟩]) (.cond (.t 12) (.seq (.region [⟨some 2, .mov (.c (.sc (.int .i64 4))), none, 0⟩]) (.ret [2])) .skip)) (.seq (.region [⟨some 13, .mov (.t 0), none, 0⟩,
    ⟨some 14, .nck (.t 13), none, 0⟩,
    ⟨some 15, .fad (.t 14) 2, none, 0⟩,
    ⟨some 16, .load false 1 (.t 15), none, 0⟩,
    ⟨some 2, .mov (.t 16), none, 0⟩]) (.ret [2]))))⟩
def g71 : Fn := g71F
theorem cmp71 : cmpFn Tryd.prog .mv [1000016] 71 = some g71 := by kernel_rfl
def b72_0F : Cd := (.seq (.seq (.region [⟨some 11, .mov (.t 5), none, 0⟩,
    ⟨some 12, .mov (.t 0), none, 0⟩,
    ⟨some 13, .len false (.t 12), none, 0⟩,
    ⟨some 14, .bin .lss .num (.t 11) (.t 13), none, 0⟩]) (.cond (.t 14) .skip (.exit 0 []))) (.seq (.block 1 (.seq (.region [⟨some 17, .mov (.t 0), none, 0⟩,
    ⟨some 18, .mov (.t 5), none, 0⟩,
    ⟨some 19, .iadS 46 (.t 17) (.t 18), none, 0⟩,
    ⟨some 20, .load true 2 (.t 19), none, 0⟩,
    ⟨some 21, .mov (.t 1), none, 0⟩,
    ⟨some 22, .mov (.t 5), none, 0⟩,
    ⟨some 23, .iadS 46 (.t 21) (.t 22), none, 0⟩,
    ⟨some 24, .load true 2 (.t 23), none, 0⟩,
    ⟨some 25, .eqs true [.num, .num] (.t 20) (.t 24), none, 0⟩]) (.cond (.t 25) (.seq (.region [⟨some 4, .mov (.c (.sc (.bool false))), none, 0⟩]) (.ret [4])) .skip))) (.region [⟨some 15, .mov (.t 5), none, 0⟩,
    ⟨some 16, .bin .add .num (.t 15) (.c (.sc (.int .i64 1))), none, 0⟩,
    ⟨some 5, .mov (.t 16), none, 0⟩])))
def b72_0 : Cd := b72_0F
def g72F (c0 : Cd) : Fn := ⟨26, [.t 4], [.s], .lit,
  (.seq (.region [⟨some 4, .mov (.c (.sc (.bool false))), none, 0⟩]) (.seq (.seq (.region [⟨some 6, .mov (.t 0), none, 0⟩,
    ⟨some 7, .len false (.t 6), none, 0⟩,
    ⟨some 8, .mov (.t 1), none, 0⟩,
    ⟨some 9, .len false (.t 8), none, 0⟩,
    ⟨some 10, .bin .neq .num (.t 7) (.t 9), none, 0⟩]) (.cond (.t 10) (.seq (.region [⟨some 4, .mov (.c (.sc (.bool false))), none, 0⟩]) (.ret [4])) .skip)) (.seq (.seq (.region [⟨some 5, .mov (.c (.sc (.int .i64 0))), none, 0⟩]) (.block 0 (.loop [0, 1, 5] c0))) (.seq (.region [⟨some 4, .mov (.c (.sc (.bool true))), none, 0⟩]) (.ret [4])))))⟩
def g72 : Fn := g72F b72_0
theorem cmp72 : cmpFn Tryd.prog .lit [1000016] 72 = some g72 := by kernel_rfl
def b74_0F : Cd := (.seq (.region [⟨some 7, .nxt (.t 6), none, 0⟩,
    ⟨some 8, .ext (.t 7) 0, none, 0⟩]) (.seq (.cond (.t 8) .skip (.exit 0 [])) (.block 1 (.seq (.region [⟨some 9, .ext (.t 7) 1, none, 0⟩,
    ⟨some 10, .ext (.t 7) 2, none, 0⟩,
    ⟨some 3, .mov (.t 9), none, 0⟩,
    ⟨some 4, .mov (.t 10), none, 0⟩]) (.seq (.region [⟨some 11, .mov (.t 0), none, 0⟩,
    ⟨some 12, .mov (.t 3), none, 0⟩,
    ⟨some 13, .mov (.t 4), none, 0⟩,
    ⟨some 14, .call 111 [.s, .s, .s] [.t 11, .t 12, .t 13], none, 0⟩]) (.cond (.t 14) (.seq (.region [⟨some 2, .mov (.c (.sc (.bool false))), none, 0⟩]) (.ret [2])) .skip))))))
def b74_0 : Cd := b74_0F
def g74F (c0 : Cd) : Fn := ⟨15, [.t 2], [.s], .lit,
  (.seq (.region [⟨some 2, .mov (.c (.sc (.bool false))), none, 0⟩]) (.seq (.seq (.region [⟨some 5, .mov (.t 0), none, 0⟩,
    ⟨some 6, .rng (.t 5), none, 0⟩]) (.block 0 (.loop [6, 0] c0))) (.seq (.region [⟨some 2, .mov (.c (.sc (.bool true))), none, 0⟩]) (.ret [2]))))⟩
def g74 : Fn := g74F b74_0
theorem cmp74 : cmpFn Tryd.prog .lit [1000016] 74 = some g74 := by kernel_rfl
def b75_0F : Cd := (.seq (.region [⟨some 6, .nxt (.t 5), none, 0⟩,
    ⟨some 7, .ext (.t 6) 0, none, 0⟩]) (.seq (.cond (.t 7) .skip (.exit 0 [3])) (.block 1 (.region [⟨some 8, .mov (.t 3), none, 0⟩,
    ⟨some 9, .bin .add .num (.t 8) (.c (.sc (.int .i64 1))), none, 0⟩,
    ⟨some 3, .mov (.t 9), none, 0⟩]))))
def b75_0 : Cd := b75_0F
def g75F (c0 : Cd) : Fn := ⟨11, [.t 2], [.s], .lit,
  (.seq (.region [⟨some 2, .mov (.c (.sc (.int .i64 0))), none, 0⟩]) (.seq (.region [⟨some 3, .mov (.c (.sc (.int .i64 0))), none, 0⟩]) (.seq (.seq (.region [⟨some 4, .mov (.t 0), none, 0⟩,
    ⟨some 5, .rng (.t 4), none, 0⟩]) (.block 0 (.loop [5, 3] c0))) (.seq (.region [⟨some 10, .mov (.t 3), none, 0⟩,
    ⟨some 2, .mov (.t 10), none, 0⟩]) (.ret [2])))))⟩
def g75 : Fn := g75F b75_0
theorem cmp75 : cmpFn Tryd.prog .lit [1000016] 75 = some g75 := by kernel_rfl
def b78_0F : Cd := (.seq (.seq (.region [⟨some 7, .mov (.t 4), none, 0⟩,
    ⟨some 8, .mov (.t 3), none, 0⟩,
    ⟨some 9, .len false (.t 8), none, 0⟩,
    ⟨some 10, .bin .lss .num (.t 7) (.t 9), none, 0⟩]) (.cond (.t 10) .skip (.exit 0 []))) (.seq (.block 1 (.seq (.region [⟨some 13, .mov (.t 3), none, 0⟩,
    ⟨some 14, .mov (.t 4), none, 0⟩,
    ⟨some 15, .iadS 9 (.t 13) (.t 14), none, 0⟩,
    ⟨some 16, .load false 1 (.t 15), none, 0⟩,
    ⟨some 17, .call 113 [.s, .s] [.t 16, .c (.sc (.int .i64 0))], none, 0⟩,
    ⟨some 18, .bin .eql .num (.t 17) (.c (.sc (.int .i64 0))), none, 0⟩]) (.cond (.t 18) (.seq (.region [⟨some 2, .mov (.c (.sc (.bool false))), none, 0⟩]) (.ret [2])) .skip))) (.region [⟨some 11, .mov (.t 4), none, 0⟩,
    ⟨some 12, .bin .add .num (.t 11) (.c (.sc (.int .i64 1))), none, 0⟩,
    ⟨some 4, .mov (.t 12), none, 0⟩])))
def b78_0 : Cd := b78_0F
def g78F (c0 : Cd) : Fn := ⟨19, [.t 2], [.s], .lit,
  (.seq (.region [⟨some 2, .mov (.c (.sc (.bool false))), none, 0⟩]) (.seq (.region [⟨some 5, .mov (.t 0), none, 0⟩,
    ⟨some 6, .call 79 [.s] [.t 5], none, 0⟩,
    ⟨some 3, .mov (.t 6), none, 0⟩]) (.seq (.seq (.region [⟨some 4, .mov (.c (.sc (.int .i64 0))), none, 0⟩]) (.block 0 (.loop [3, 4] c0))) (.seq (.region [⟨some 2, .mov (.c (.sc (.bool true))), none, 0⟩]) (.ret [2])))))⟩
def g78 : Fn := g78F b78_0
theorem cmp78 : cmpFn Tryd.prog .lit [1000016] 78 = some g78 := by kernel_rfl
def b79_0F : Cd := (.seq (.seq (.region [⟨some 6, .mov (.t 4), none, 0⟩,
    ⟨some 7, .mov (.t 0), none, 0⟩,
    ⟨some 8, .len true (.t 7), none, 0⟩,
    ⟨some 9, .bin .lss .num (.t 6) (.t 8), none, 0⟩]) (.cond (.t 9) .skip (.exit 0 [3]))) (.block 1 (.seq (.region [⟨some 10, .mov (.t 0), none, 0⟩,
    ⟨some 11, .mov (.t 4), none, 0⟩,
    ⟨some 12, .call 113 [.s, .s] [.t 10, .t 11], none, 0⟩,
    ⟨some 5, .mov (.t 12), none, 0⟩]) (.seq (.seq (.region [⟨some 13, .mov (.t 5), none, 0⟩,
    ⟨some 14, .bin .eql .num (.t 13) (.c (.sc (.int .i64 0))), none, 0⟩]) (.cond (.t 14) (.region [⟨some 5, .mov (.c (.sc (.int .i64 1))), none, 0⟩]) .skip)) (.seq (.region [⟨some 15, .mov (.t 3), none, 0⟩,
    ⟨some 16, .mov (.t 0), none, 0⟩,
    ⟨some 17, .mov (.t 4), none, 0⟩,
    ⟨some 18, .mov (.t 4), none, 0⟩,
    ⟨some 19, .mov (.t 5), none, 0⟩,
    ⟨some 20, .bin .add .num (.t 18) (.t 19), none, 0⟩,
    ⟨some 21, .ssl (.t 16) (some (.t 17)) (some (.t 20)), none, 0⟩,
    ⟨some 22, .bsl 9 1 (.s) [.t 21], none, 0⟩,
    ⟨some 23, .app 9 16 (.t 15) (.t 22), none, 0⟩,
    ⟨some 3, .mov (.t 23), none, 0⟩]) (.region [⟨some 24, .mov (.t 4), none, 0⟩,
    ⟨some 25, .mov (.t 5), none, 0⟩,
    ⟨some 26, .bin .add .num (.t 24) (.t 25), none, 0⟩,
    ⟨some 4, .mov (.t 26), none, 0⟩]))))))
def b79_0 : Cd := b79_0F
def g79F (c0 : Cd) : Fn := ⟨28, [.t 2], [.l 9], .lit,
  (.seq (.region [⟨some 2, .nil 9, none, 0⟩]) (.seq (.region [⟨some 3, .nil 9, none, 0⟩]) (.seq (.region [⟨some 4, .mov (.c (.sc (.int .i64 0))), none, 0⟩]) (.seq (.block 0 (.loop [0, 4, 3] c0)) (.seq (.region [⟨some 27, .mov (.t 3), none, 0⟩,
    ⟨some 2, .mov (.t 27), none, 0⟩]) (.ret [2]))))))⟩
def g79 : Fn := g79F b79_0
theorem cmp79 : cmpFn Tryd.prog .lit [1000016, 1000300009, 1000200009] 79 = some g79 := by kernel_rfl
def g85F : Fn := ⟨20, [.t 2], [.s], .lit,
  (.seq (.region [⟨some 1, .box 49 11 (.t 0), none, 0⟩,
    ⟨some 2, .mov (.c (.sc (.int .i64 0))), none, 0⟩]) (.seq (.region [⟨some 4, .fad (.t 1) 0, none, 0⟩,
    ⟨some 5, .load false 1 (.t 4), none, 0⟩,
    ⟨some 6, .call 102 [.s] [.t 5], none, 0⟩,
    ⟨some 7, .fld false 1 1 (.t 6), none, 0⟩,
    ⟨some 3, .mov (.t 7), none, 0⟩]) (.seq (.seq (.region [⟨some 8, .mov (.t 3), none, 0⟩,
    ⟨some 9, .bin .and .num (.t 8) (.c (.sc (.int .i64 256))), none, 0⟩,
    ⟨some 10, .bin .neq .num (.t 9) (.c (.sc (.int .i64 0))), none, 0⟩,
    ⟨some 11, .mov (.t 10), none, 0⟩,
    ⟨some 12, .fad (.t 1) 3, some (11, true), 0⟩,
    ⟨some 13, .load false 1 (.t 12), some (11, true), 0⟩,
    ⟨some 14, .un .not (.t 13), some (11, true), 0⟩,
    ⟨some 15, .pick (.t 11) (.t 14) (.c (.sc (.bool false))), none, 0⟩]) (.cond (.t 15) (.region [⟨some 16, .mov (.t 3), none, 0⟩,
    ⟨some 17, .bin .andNot .num (.t 16) (.c (.sc (.int .i64 72))), none, 0⟩,
    ⟨some 3, .mov (.t 17), none, 0⟩]) .skip)) (.seq (.region [⟨some 18, .mov (.t 3), none, 0⟩,
    ⟨some 19, .bin .andNot .num (.t 18) (.c (.sc (.int .i64 256))), none, 0⟩,
    ⟨some 2, .mov (.t 19), none, 0⟩]) (.ret [2])))))⟩
def g85 : Fn := g85F
theorem cmp85 : cmpFn Tryd.prog .lit [1000016] 85 = some g85 := by kernel_rfl
def b86_0F : Cd := (.seq (.region [⟨some 39, .mov (.t 5), none, 0⟩,
    ⟨some 40, .mov (.t 39), none, 0⟩,
    ⟨some 41, .fad (.t 2) 5, some (40, true), 0⟩,
    ⟨some 42, .load false 1 (.t 41), some (40, true), 0⟩,
    ⟨some 43, .fad (.t 3) 5, some (40, true), 0⟩,
    ⟨some 44, .load false 1 (.t 43), some (40, true), 0⟩,
    ⟨some 45, .bin .eql .str (.t 42) (.t 44), some (40, true), 0⟩,
    ⟨some 46, .pick (.t 40) (.t 45) (.c (.sc (.bool false))), none, 0⟩,
    ⟨some 47, .mov (.t 46), none, 0⟩,
    ⟨some 48, .fad (.t 2) 6, some (47, true), 0⟩,
    ⟨some 49, .load false 1 (.t 48), some (47, true), 0⟩,
    ⟨some 50, .fad (.t 3) 6, some (47, true), 0⟩,
    ⟨some 51, .load false 1 (.t 50), some (47, true), 0⟩,
    ⟨some 52, .bin .eql .str (.t 49) (.t 51), some (47, true), 0⟩,
    ⟨some 53, .pick (.t 47) (.t 52) (.c (.sc (.bool false))), none, 0⟩,
    ⟨some 54, .mov (.t 53), none, 0⟩,
    ⟨some 55, .fad (.t 2) 7, some (54, true), 0⟩,
    ⟨some 56, .load true 2 (.t 55), some (54, true), 0⟩,
    ⟨some 57, .fad (.t 3) 7, some (54, true), 0⟩,
    ⟨some 58, .load true 2 (.t 57), some (54, true), 0⟩,
    ⟨some 59, .eqs false [.num, .num] (.t 56) (.t 58), some (54, true), 0⟩,
    ⟨some 60, .pick (.t 54) (.t 59) (.c (.sc (.bool false))), none, 0⟩,
    ⟨some 61, .mov (.t 60), none, 0⟩,
    ⟨some 62, .fad (.t 2) 9, some (61, true), 0⟩,
    ⟨some 63, .load false 1 (.t 62), some (61, true), 0⟩,
    ⟨some 64, .fad (.t 3) 9, some (61, true), 0⟩,
    ⟨some 65, .load false 1 (.t 64), some (61, true), 0⟩,
    ⟨some 66, .call 115 [.l 46, .l 46] [.t 63, .t 65], some (61, true), 0⟩,
    ⟨some 67, .pick (.t 61) (.t 66) (.c (.sc (.bool false))), none, 0⟩,
    ⟨some 68, .mov (.t 67), none, 0⟩,
    ⟨some 69, .fad (.t 2) 10, some (68, true), 0⟩,
    ⟨some 70, .load false 1 (.t 69), some (68, true), 0⟩,
    ⟨some 71, .fad (.t 3) 10, some (68, true), 0⟩,
    ⟨some 72, .load false 1 (.t 71), some (68, true), 0⟩,
    ⟨some 73, .call 116 [.l 41, .l 41] [.t 70, .t 72], some (68, true), 0⟩,
    ⟨some 74, .pick (.t 68) (.t 73) (.c (.sc (.bool false))), none, 0⟩,
    ⟨some 4, .mov (.t 74), none, 0⟩]) (.ret [4]))
def b86_0 : Cd := b86_0F
def g86F (c0 : Cd) : Fn := ⟨75, [.t 4], [.s], .lit,
  (.seq (.region [⟨some 2, .box 49 11 (.t 0), none, 0⟩,
    ⟨some 3, .box 49 11 (.t 1), none, 0⟩,
    ⟨some 4, .mov (.c (.sc (.bool false))), none, 0⟩]) (.seq (.region [⟨some 6, .fad (.t 2) 0, none, 0⟩,
    ⟨some 7, .load false 1 (.t 6), none, 0⟩,
    ⟨some 8, .fad (.t 3) 0, none, 0⟩,
    ⟨some 9, .load false 1 (.t 8), none, 0⟩,
    ⟨some 10, .bin .eql .num (.t 7) (.t 9), none, 0⟩,
    ⟨some 11, .mov (.t 10), none, 0⟩,
    ⟨some 12, .fad (.t 2) 1, some (11, true), 0⟩,
    ⟨some 13, .load false 1 (.t 12), some (11, true), 0⟩,
    ⟨some 14, .fad (.t 3) 1, some (11, true), 0⟩,
    ⟨some 15, .load false 1 (.t 14), some (11, true), 0⟩,
    ⟨some 16, .bin .eql .num (.t 13) (.t 15), some (11, true), 0⟩,
    ⟨some 17, .pick (.t 11) (.t 16) (.c (.sc (.bool false))), none, 0⟩,
    ⟨some 18, .mov (.t 17), none, 0⟩,
    ⟨some 19, .fad (.t 2) 2, some (18, true), 0⟩,
    ⟨some 20, .load false 1 (.t 19), some (18, true), 0⟩,
    ⟨some 21, .fad (.t 3) 2, some (18, true), 0⟩,
    ⟨some 22, .load false 1 (.t 21), some (18, true), 0⟩,
    ⟨some 23, .bin .eql .num (.t 20) (.t 22), some (18, true), 0⟩,
    ⟨some 24, .pick (.t 18) (.t 23) (.c (.sc (.bool false))), none, 0⟩,
    ⟨some 25, .mov (.t 24), none, 0⟩,
    ⟨some 26, .fad (.t 2) 3, some (25, true), 0⟩,
    ⟨some 27, .load false 1 (.t 26), some (25, true), 0⟩,
    ⟨some 28, .fad (.t 3) 3, some (25, true), 0⟩,
    ⟨some 29, .load false 1 (.t 28), some (25, true), 0⟩,
    ⟨some 30, .bin .eql .bool (.t 27) (.t 29), some (25, true), 0⟩,
    ⟨some 31, .pick (.t 25) (.t 30) (.c (.sc (.bool false))), none, 0⟩,
    ⟨some 32, .mov (.t 31), none, 0⟩,
    ⟨some 33, .fad (.t 2) 4, some (32, true), 0⟩,
    ⟨some 34, .load false 1 (.t 33), some (32, true), 0⟩,
    ⟨some 35, .fad (.t 3) 4, some (32, true), 0⟩,
    ⟨some 36, .load false 1 (.t 35), some (32, true), 0⟩,
    ⟨some 37, .bin .eql .num (.t 34) (.t 36), some (32, true), 0⟩,
    ⟨some 38, .pick (.t 32) (.t 37) (.c (.sc (.bool false))), none, 0⟩,
    ⟨some 5, .mov (.t 38), none, 0⟩]) (.seg [5, 2, 3] [4] c0)))⟩
def g86 : Fn := g86F b86_0
theorem cmp86 : cmpFn Tryd.prog .lit [1000016] 86 = some g86 := by kernel_rfl
def b87_0F : Cd := (.seq (.seq (.region [⟨some 49, .mov (.t 3), none, 0⟩,
    ⟨some 50, .bin .and .num (.t 49) (.c (.sc (.int .i64 64))), none, 0⟩,
    ⟨some 51, .bin .neq .num (.t 50) (.c (.sc (.int .i64 0))), none, 0⟩]) (.cond (.t 51) (.region [⟨some 52, .fad (.t 1) 6, none, 0⟩,
    ⟨some 53, .load false 1 (.t 52), none, 0⟩,
    ⟨some 54, .fad (.t 4) 6, none, 0⟩,
    ⟨none, .store 1 (.t 54) (.t 53), none, 0⟩]) .skip)) (.seq (.seq (.region [⟨some 55, .mov (.t 3), none, 0⟩,
    ⟨some 56, .bin .and .num (.t 55) (.c (.sc (.int .i64 128))), none, 0⟩,
    ⟨some 57, .bin .neq .num (.t 56) (.c (.sc (.int .i64 0))), none, 0⟩]) (.cond (.t 57) (.region [⟨some 58, .fad (.t 1) 10, none, 0⟩,
    ⟨some 59, .load false 1 (.t 58), none, 0⟩,
    ⟨some 60, .callz 33 [.l 41] [.t 59], none, 0⟩,
    ⟨some 61, .fad (.t 4) 10, none, 0⟩,
    ⟨none, .store 1 (.t 61) (.t 60), none, 0⟩]) .skip)) (.seq (.region [⟨some 62, .load true 11 (.t 4), none, 0⟩,
    ⟨none, .store 11 (.t 2) (.t 62), none, 0⟩]) (.ret [2]))))
def b87_0 : Cd := b87_0F
def b87_1F (c0 : Cd) : Cd := (.seq (.seq (.region [⟨some 36, .mov (.t 3), none, 0⟩,
    ⟨some 37, .bin .and .num (.t 36) (.c (.sc (.int .i64 16))), none, 0⟩,
    ⟨some 38, .bin .neq .num (.t 37) (.c (.sc (.int .i64 0))), none, 0⟩]) (.cond (.t 38) (.region [⟨some 39, .fad (.t 1) 9, none, 0⟩,
    ⟨some 40, .load false 1 (.t 39), none, 0⟩,
    ⟨some 41, .callz 117 [.l 46] [.t 40], none, 0⟩,
    ⟨some 42, .fad (.t 4) 9, none, 0⟩,
    ⟨none, .store 1 (.t 42) (.t 41), none, 0⟩]) .skip)) (.seq (.seq (.region [⟨some 43, .mov (.t 3), none, 0⟩,
    ⟨some 44, .bin .and .num (.t 43) (.c (.sc (.int .i64 32))), none, 0⟩,
    ⟨some 45, .bin .neq .num (.t 44) (.c (.sc (.int .i64 0))), none, 0⟩]) (.cond (.t 45) (.region [⟨some 46, .fad (.t 1) 5, none, 0⟩,
    ⟨some 47, .load false 1 (.t 46), none, 0⟩,
    ⟨some 48, .fad (.t 4) 5, none, 0⟩,
    ⟨none, .store 1 (.t 48) (.t 47), none, 0⟩]) .skip)) (.seg [3, 1, 4, 2] [2] c0)))
def b87_1 : Cd := b87_1F b87_0
def b87_2F (c1 : Cd) : Cd := (.seq (.seq (.region [⟨some 24, .mov (.t 3), none, 0⟩,
    ⟨some 25, .bin .and .num (.t 24) (.c (.sc (.int .i64 4))), none, 0⟩,
    ⟨some 26, .bin .neq .num (.t 25) (.c (.sc (.int .i64 0))), none, 0⟩]) (.cond (.t 26) (.region [⟨some 27, .fad (.t 1) 4, none, 0⟩,
    ⟨some 28, .load false 1 (.t 27), none, 0⟩,
    ⟨some 29, .fad (.t 4) 4, none, 0⟩,
    ⟨none, .store 1 (.t 29) (.t 28), none, 0⟩]) .skip)) (.seq (.seq (.region [⟨some 30, .mov (.t 3), none, 0⟩,
    ⟨some 31, .bin .and .num (.t 30) (.c (.sc (.int .i64 8))), none, 0⟩,
    ⟨some 32, .bin .neq .num (.t 31) (.c (.sc (.int .i64 0))), none, 0⟩]) (.cond (.t 32) (.region [⟨some 33, .fad (.t 1) 7, none, 0⟩,
    ⟨some 34, .load true 2 (.t 33), none, 0⟩,
    ⟨some 35, .fad (.t 4) 7, none, 0⟩,
    ⟨none, .store 2 (.t 35) (.t 34), none, 0⟩]) .skip)) (.seg [3, 1, 4, 2] [2] c1)))
def b87_2 : Cd := b87_2F b87_1
def g87F (c2 : Cd) : Fn := ⟨63, [.cell 2 true 11], [.a [.s, .s, .s, .s, .s, .s, .s, .s, .s, .l 46, .l 41]], .lit,
  (.seq (.region [⟨some 1, .box 49 11 (.t 0), none, 0⟩,
    ⟨some 2, .box 49 11 (.c (.agg [.sc (.int .i64 0), .sc (.int .u32 0), .sc (.int .u8 0), .sc (.bool false), .sc (.int .u64 0), .sc (.string ⟨#[]⟩), .sc (.string ⟨#[]⟩), .sc (.int .u64 0), .sc (.int .u16 0), .lit 0 true [], .lit 0 true []])), none, 0⟩]) (.seq (.region [⟨some 5, .load true 11 (.t 1), none, 0⟩,
    ⟨some 6, .call 85 [.a [.s, .s, .s, .s, .s, .s, .s, .s, .s, .l 46, .l 41]] [.t 5], none, 0⟩,
    ⟨some 3, .mov (.t 6), none, 0⟩]) (.seq (.region [⟨some 7, .fad (.t 1) 0, none, 0⟩,
    ⟨some 8, .load false 1 (.t 7), none, 0⟩,
    ⟨some 9, .fad (.t 1) 1, none, 0⟩,
    ⟨some 10, .load false 1 (.t 9), none, 0⟩,
    ⟨some 11, .buildr [.sc (.int .i64 0), .sc (.int .u32 0), .sc (.int .u8 0), .sc (.bool false), .sc (.int .u64 0), .sc (.string ⟨#[]⟩), .sc (.string ⟨#[]⟩), .sc (.int .u64 0), .sc (.int .u16 0), .lit 0 true [], .lit 0 true []] [(0, 1, .t 8), (1, 1, .t 10)] [(9, 46, false), (10, 41, false)], none, 0⟩,
    ⟨some 4, .box 49 11 (.c (.agg [.sc (.int .i64 0), .sc (.int .u32 0), .sc (.int .u8 0), .sc (.bool false), .sc (.int .u64 0), .sc (.string ⟨#[]⟩), .sc (.string ⟨#[]⟩), .sc (.int .u64 0), .sc (.int .u16 0), .lit 0 true [], .lit 0 true []])), none, 0⟩,
    ⟨none, .store 11 (.t 4) (.t 11), none, 0⟩]) (.seq (.seq (.region [⟨some 12, .mov (.t 3), none, 0⟩,
    ⟨some 13, .bin .and .num (.t 12) (.c (.sc (.int .i64 1))), none, 0⟩,
    ⟨some 14, .bin .neq .num (.t 13) (.c (.sc (.int .i64 0))), none, 0⟩]) (.cond (.t 14) (.region [⟨some 15, .fad (.t 1) 2, none, 0⟩,
    ⟨some 16, .load false 1 (.t 15), none, 0⟩,
    ⟨some 17, .fad (.t 4) 2, none, 0⟩,
    ⟨none, .store 1 (.t 17) (.t 16), none, 0⟩]) .skip)) (.seq (.seq (.region [⟨some 18, .mov (.t 3), none, 0⟩,
    ⟨some 19, .bin .and .num (.t 18) (.c (.sc (.int .i64 2))), none, 0⟩,
    ⟨some 20, .bin .neq .num (.t 19) (.c (.sc (.int .i64 0))), none, 0⟩]) (.cond (.t 20) (.region [⟨some 21, .fad (.t 1) 3, none, 0⟩,
    ⟨some 22, .load false 1 (.t 21), none, 0⟩,
    ⟨some 23, .fad (.t 4) 3, none, 0⟩,
    ⟨none, .store 1 (.t 23) (.t 22), none, 0⟩]) .skip)) (.seg [3, 1, 4, 2] [2] c2))))))⟩
def g87 : Fn := g87F b87_2
theorem cmp87 : cmpFn Tryd.prog .lit [1000016, 41, 60, 100000221800092, 100000222000082] 87 = some g87 := by kernel_rfl
def g88F : Fn := ⟨19, [.t 4], [.s], .lit,
  (.seq (.region [⟨some 2, .box 49 11 (.t 0), none, 0⟩,
    ⟨some 4, .mov (.c (.sc (.bool false))), none, 0⟩]) (.seq (.region [⟨some 5, .mov (.t 1), none, 0⟩,
    ⟨some 6, .bin .and .num (.t 5) (.c (.sc (.int .i64 32))), none, 0⟩,
    ⟨some 7, .bin .eql .num (.t 6) (.c (.sc (.int .i64 0))), none, 0⟩,
    ⟨some 8, .mov (.t 7), none, 0⟩,
    ⟨some 9, .fad (.t 2) 5, some (8, false), 0⟩,
    ⟨some 10, .load false 1 (.t 9), some (8, false), 0⟩,
    ⟨some 11, .call 35 [.s] [.t 10], some (8, false), 0⟩,
    ⟨some 12, .pick (.t 8) (.c (.sc (.bool true))) (.t 11), none, 0⟩,
    ⟨some 13, .mov (.t 12), none, 0⟩,
    ⟨some 14, .fad (.t 2) 10, some (13, true), 0⟩,
    ⟨some 15, .load false 1 (.t 14), some (13, true), 0⟩,
    ⟨some 16, .call 118 [.l 41, .s] [.t 15, .c (.fn 119 [])], some (13, true), 0⟩,
    ⟨some 17, .un .not (.t 16), some (13, true), 0⟩,
    ⟨some 18, .pick (.t 13) (.t 17) (.c (.sc (.bool false))), none, 0⟩,
    ⟨some 4, .mov (.t 18), none, 0⟩]) (.ret [4])))⟩
def g88 : Fn := g88F
theorem cmp88 : cmpFn Tryd.prog .lit [1000016] 88 = some g88 := by kernel_rfl
def g89F : Fn := ⟨26, [.t 2], [.s], .lit,
  (.seq (.region [⟨some 1, .box 49 11 (.t 0), none, 0⟩,
    ⟨some 2, .mov (.c (.sc (.bool false))), none, 0⟩]) (.seq (.region [⟨some 3, .mov (.c (.fn 120 [])), none, 0⟩]) (.seq (.region [⟨some 4, .fad (.t 1) 6, none, 0⟩,
    ⟨some 5, .load false 1 (.t 4), none, 0⟩,
    ⟨some 6, .len true (.t 5), none, 0⟩,
    ⟨some 7, .bin .gtr .num (.t 6) (.c (.sc (.int .i64 512))), none, 0⟩,
    ⟨some 8, .mov (.t 7), none, 0⟩,
    ⟨some 9, .fad (.t 1) 9, some (8, false), 0⟩,
    ⟨some 10, .load false 1 (.t 9), some (8, false), 0⟩,
    ⟨some 11, .len false (.t 10), some (8, false), 0⟩,
    ⟨some 12, .bin .gtr .num (.t 11) (.c (.sc (.int .i64 16))), some (8, false), 0⟩,
    ⟨some 13, .pick (.t 8) (.c (.sc (.bool true))) (.t 12), none, 0⟩,
    ⟨some 14, .mov (.t 13), none, 0⟩,
    ⟨some 15, .fad (.t 1) 10, some (14, false), 0⟩,
    ⟨some 16, .load false 1 (.t 15), some (14, false), 0⟩,
    ⟨some 17, .len false (.t 16), some (14, false), 0⟩,
    ⟨some 18, .bin .gtr .num (.t 17) (.c (.sc (.int .i64 8))), some (14, false), 0⟩,
    ⟨some 19, .pick (.t 14) (.c (.sc (.bool true))) (.t 18), none, 0⟩,
    ⟨some 20, .mov (.t 19), none, 0⟩,
    ⟨some 21, .fad (.t 1) 10, some (20, false), 0⟩,
    ⟨some 22, .load false 1 (.t 21), some (20, false), 0⟩,
    ⟨some 23, .mov (.t 3), some (20, false), 0⟩,
    ⟨some 24, .call 118 [.l 41, .s] [.t 22, .t 23], some (20, false), 0⟩,
    ⟨some 25, .pick (.t 20) (.c (.sc (.bool true))) (.t 24), none, 0⟩,
    ⟨some 2, .mov (.t 25), none, 0⟩]) (.ret [2]))))⟩
def g89 : Fn := g89F
theorem cmp89 : cmpFn Tryd.prog .lit [1000016] 89 = some g89 := by kernel_rfl
def g90F : Fn := ⟨22, [.t 2], [.s], .lit,
  (.seq (.region [⟨some 1, .box 49 11 (.t 0), none, 0⟩,
    ⟨some 2, .mov (.c (.sc (.bool false))), none, 0⟩]) (.seq (.seq (.region [⟨some 3, .fad (.t 1) 0, none, 0⟩,
    ⟨some 4, .load false 1 (.t 3), none, 0⟩]) (.block 0 (.seq (.region [⟨some 6, .bin .eql .num (.t 4) (.c (.sc (.int .i64 2))), none, 0⟩,
    ⟨some 5, .mov (.t 6), none, 0⟩]) (.cond (.t 5) (.seq (.region [⟨some 7, .fad (.t 1) 9, none, 0⟩,
    ⟨some 8, .load false 1 (.t 7), none, 0⟩,
    ⟨some 9, .len false (.t 8), none, 0⟩,
    ⟨some 10, .bin .eql .num (.t 9) (.c (.sc (.int .i64 0))), none, 0⟩,
    ⟨some 2, .mov (.t 10), none, 0⟩]) (.ret [2])) (.seq (.region [⟨some 12, .bin .eql .num (.t 4) (.c (.sc (.int .i64 10))), none, 0⟩,
    ⟨some 11, .mov (.t 12), none, 0⟩]) (.cond (.t 11) (.seq (.region [⟨some 13, .fad (.t 1) 10, none, 0⟩,
    ⟨some 14, .load false 1 (.t 13), none, 0⟩,
    ⟨some 15, .len false (.t 14), none, 0⟩,
    ⟨some 16, .bin .eql .num (.t 15) (.c (.sc (.int .i64 0))), none, 0⟩,
    ⟨some 2, .mov (.t 16), none, 0⟩]) (.ret [2])) (.seq (.region [⟨some 18, .bin .eql .num (.t 4) (.c (.sc (.int .i64 12))), none, 0⟩,
    ⟨some 17, .mov (.t 18), none, 0⟩]) (.cond (.t 17) (.seq (.region [⟨some 19, .fad (.t 1) 2, none, 0⟩,
    ⟨some 20, .load false 1 (.t 19), none, 0⟩,
    ⟨some 21, .bin .eql .num (.t 20) (.c (.sc (.int .u8 0))), none, 0⟩,
    ⟨some 2, .mov (.t 21), none, 0⟩]) (.ret [2])) .skip)))))))) (.seq (.region [⟨some 2, .mov (.c (.sc (.bool false))), none, 0⟩]) (.ret [2]))))⟩
def g90 : Fn := g90F
theorem cmp90 : cmpFn Tryd.prog .lit [1000016] 90 = some g90 := by kernel_rfl
def b91_0F : Cd := (.seq (.seq (.region [⟨some 17, .mov (.t 7), none, 0⟩,
    ⟨some 18, .bin .geq .num (.t 17) (.c (.sc (.int .i64 0))), none, 0⟩]) (.cond (.t 18) .skip (.exit 0 [0]))) (.seq (.block 1 (.region [⟨some 21, .mov (.t 0), none, 0⟩,
    ⟨some 22, .mov (.t 1), none, 0⟩,
    ⟨some 23, .mov (.t 7), none, 0⟩,
    ⟨some 24, .bin .mul .num (.c (.sc (.int .i64 8))) (.t 23), none, 0⟩,
    ⟨some 25, .bin .shr .num (.t 22) (.t 24), none, 0⟩,
    ⟨some 26, .conv .u8 (.t 25), none, 0⟩,
    ⟨some 27, .bsl 5 1 (.s) [.t 26], none, 0⟩,
    ⟨some 28, .app 5 1 (.t 21) (.t 27), none, 0⟩,
    ⟨some 0, .mov (.t 28), none, 0⟩])) (.region [⟨some 19, .mov (.t 7), none, 0⟩,
    ⟨some 20, .bin .sub .num (.t 19) (.c (.sc (.int .i64 1))), none, 0⟩,
    ⟨some 7, .mov (.t 20), none, 0⟩])))
def b91_0 : Cd := b91_0F
def g91F (c0 : Cd) : Fn := ⟨30, [.t 6], [.l 5], .mv,
  (.seq (.region [⟨some 6, .nil 5, none, 0⟩]) (.seq (.seq (.region [⟨some 8, .mov (.t 2), none, 0⟩,
    ⟨some 9, .bin .lss .num (.t 8) (.c (.sc (.int .i64 1))), none, 0⟩,
    ⟨some 10, .mov (.t 9), none, 0⟩,
    ⟨some 11, .mov (.t 2), some (10, false), 0⟩,
    ⟨some 12, .bin .gtr .num (.t 11) (.c (.sc (.int .i64 8))), some (10, false), 0⟩,
    ⟨some 13, .pick (.t 10) (.c (.sc (.bool true))) (.t 12), none, 0⟩]) (.cond (.t 13) (.seq (.region [⟨some 14, .mov (.t 0), none, 0⟩,
    ⟨some 6, .mov (.t 14), none, 0⟩]) (.ret [6])) .skip)) (.seq (.seq (.region [⟨some 15, .mov (.t 2), none, 0⟩,
    ⟨some 16, .bin .sub .num (.t 15) (.c (.sc (.int .i64 1))), none, 0⟩,
    ⟨some 7, .mov (.t 16), none, 0⟩]) (.block 0 (.loop [1, 7, 0] c0))) (.seq (.region [⟨some 29, .mov (.t 0), none, 0⟩,
    ⟨some 6, .mov (.t 29), none, 0⟩]) (.ret [6])))))⟩
def g91 : Fn := g91F b91_0
theorem cmp91 : cmpFn Tryd.prog .mv [1000016, 1000600005] 91 = some g91 := by kernel_rfl
def g92F : Fn := ⟨13, [.t 2], [.s], .lit,
  (.seq (.region [⟨some 2, .mov (.c (.sc (.string ⟨#[]⟩))), none, 0⟩]) (.seq (.seq (.region [⟨some 3, .mov (.t 0), none, 0⟩,
    ⟨some 4, .bin .lss .num (.t 3) (.c (.sc (.int .i64 1))), none, 0⟩,
    ⟨some 5, .mov (.t 4), none, 0⟩,
    ⟨some 6, .mov (.t 0), some (5, false), 0⟩,
    ⟨some 7, .bin .gtr .num (.t 6) (.c (.sc (.int .i64 12))), some (5, false), 0⟩,
    ⟨some 8, .pick (.t 5) (.c (.sc (.bool true))) (.t 7), none, 0⟩]) (.cond (.t 8) (.seq (.region [⟨some 2, .mov (.c (.sc (.string ⟨#[63]⟩))), none, 0⟩]) (.ret [2])) .skip)) (.seq (.region [⟨some 9, .call 121 [] [], none, 0⟩,
    ⟨some 10, .mov (.t 0), none, 0⟩,
    ⟨some 11, .iadS 9 (.t 9) (.t 10), none, 0⟩,
    ⟨some 12, .load false 1 (.t 11), none, 0⟩,
    ⟨some 2, .mov (.t 12), none, 0⟩]) (.ret [2]))))⟩
def g92 : Fn := g92F
theorem cmp92 : cmpFn Tryd.prog .lit [1000016] 92 = some g92 := by kernel_rfl
def g93F : Fn := ⟨85, [.cell 2 true 11], [.a [.s, .s, .s, .s, .s, .s, .s, .s, .s, .l 46, .l 41]], .lit,
  (.seq (.region [⟨some 1, .box 49 11 (.t 0), none, 0⟩,
    ⟨some 2, .box 49 11 (.c (.agg [.sc (.int .i64 0), .sc (.int .u32 0), .sc (.int .u8 0), .sc (.bool false), .sc (.int .u64 0), .sc (.string ⟨#[]⟩), .sc (.string ⟨#[]⟩), .sc (.int .u64 0), .sc (.int .u16 0), .lit 0 true [], .lit 0 true []])), none, 0⟩]) (.seq (.region [⟨some 4, .fad (.t 1) 0, none, 0⟩,
    ⟨some 5, .load false 1 (.t 4), none, 0⟩,
    ⟨some 6, .fad (.t 1) 1, none, 0⟩,
    ⟨some 7, .load false 1 (.t 6), none, 0⟩,
    ⟨some 8, .build [.sc (.int .i64 0), .sc (.int .u32 0), .sc (.int .u8 0), .sc (.bool false), .sc (.int .u64 0), .sc (.string ⟨#[]⟩), .sc (.string ⟨#[]⟩), .sc (.int .u64 0), .sc (.int .u16 0), .lit 0 true [], .lit 0 true []] [(0, 1, .t 5), (1, 1, .t 7)], none, 0⟩,
    ⟨some 3, .box 49 11 (.c (.agg [.sc (.int .i64 0), .sc (.int .u32 0), .sc (.int .u8 0), .sc (.bool false), .sc (.int .u64 0), .sc (.string ⟨#[]⟩), .sc (.string ⟨#[]⟩), .sc (.int .u64 0), .sc (.int .u16 0), .lit 0 true [], .lit 0 true []])), none, 0⟩,
    ⟨none, .store 11 (.t 3) (.t 8), none, 0⟩]) (.seq (.seq (.region [⟨some 9, .fad (.t 1) 0, none, 0⟩,
    ⟨some 10, .load false 1 (.t 9), none, 0⟩]) (.block 0 (.seq (.region [⟨some 12, .bin .eql .num (.t 10) (.c (.sc (.int .i64 1))), none, 0⟩,
    ⟨some 11, .mov (.t 12), none, 0⟩]) (.cond (.t 11) (.region [⟨some 13, .fad (.t 1) 4, none, 0⟩,
    ⟨some 14, .load false 1 (.t 13), none, 0⟩,
    ⟨some 15, .fad (.t 3) 4, none, 0⟩,
    ⟨none, .store 1 (.t 15) (.t 14), none, 0⟩]) (.seq (.region [⟨some 17, .bin .eql .num (.t 10) (.c (.sc (.int .i64 2))), none, 0⟩,
    ⟨some 16, .mov (.t 17), none, 0⟩]) (.cond (.t 16) (.seq (.region [⟨some 18, .fad (.t 1) 3, none, 0⟩,
    ⟨some 19, .load false 1 (.t 18), none, 0⟩,
    ⟨some 20, .fad (.t 3) 3, none, 0⟩,
    ⟨none, .store 1 (.t 20) (.t 19), none, 0⟩]) (.region [⟨some 21, .bsl 46 2 (.a [.s, .s]) [], none, 0⟩,
    ⟨some 22, .fad (.t 1) 9, none, 0⟩,
    ⟨some 23, .load false 1 (.t 22), none, 0⟩,
    ⟨some 24, .app 46 16 (.t 21) (.t 23), none, 0⟩,
    ⟨some 25, .fad (.t 3) 9, none, 0⟩,
    ⟨none, .store 1 (.t 25) (.t 24), none, 0⟩])) (.seq (.region [⟨some 27, .bin .eql .num (.t 10) (.c (.sc (.int .i64 4))), none, 0⟩,
    ⟨some 26, .mov (.t 27), none, 0⟩]) (.cond (.t 26) (.seq (.region [⟨some 28, .fad (.t 1) 3, none, 0⟩,
    ⟨some 29, .load false 1 (.t 28), none, 0⟩,
    ⟨some 30, .fad (.t 3) 3, none, 0⟩,
    ⟨none, .store 1 (.t 30) (.t 29), none, 0⟩]) (.seq (.region [⟨some 31, .bsl 46 2 (.a [.s, .s]) [], none, 0⟩,
    ⟨some 32, .fad (.t 1) 9, none, 0⟩,
    ⟨some 33, .load false 1 (.t 32), none, 0⟩,
    ⟨some 34, .app 46 16 (.t 31) (.t 33), none, 0⟩,
    ⟨some 35, .fad (.t 3) 9, none, 0⟩,
    ⟨none, .store 1 (.t 35) (.t 34), none, 0⟩]) (.seq (.region [⟨some 36, .fad (.t 1) 3, none, 0⟩,
    ⟨some 37, .load false 1 (.t 36), none, 0⟩]) (.cond (.t 37) (.region [⟨some 38, .fad (.t 1) 7, none, 0⟩,
    ⟨some 39, .load true 2 (.t 38), none, 0⟩,
    ⟨some 40, .fad (.t 3) 7, none, 0⟩,
    ⟨none, .store 2 (.t 40) (.t 39), none, 0⟩]) .skip)))) (.seq (.region [⟨some 42, .bin .eql .num (.t 10) (.c (.sc (.int .i64 5))), none, 0⟩,
    ⟨some 41, .mov (.t 42), none, 0⟩]) (.cond (.t 41) (.region [⟨some 43, .fad (.t 1) 7, none, 0⟩,
    ⟨some 44, .load true 2 (.t 43), none, 0⟩,
    ⟨some 45, .fad (.t 3) 7, none, 0⟩,
    ⟨none, .store 2 (.t 45) (.t 44), none, 0⟩]) (.seq (.region [⟨some 47, .bin .eql .num (.t 10) (.c (.sc (.int .i64 7))), none, 0⟩,
    ⟨some 46, .mov (.t 47), none, 0⟩]) (.cond (.t 46) (.seq (.region [⟨some 48, .fad (.t 1) 5, none, 0⟩,
    ⟨some 49, .load false 1 (.t 48), none, 0⟩,
    ⟨some 50, .fad (.t 3) 5, none, 0⟩,
    ⟨none, .store 1 (.t 50) (.t 49), none, 0⟩]) (.region [⟨some 51, .fad (.t 1) 6, none, 0⟩,
    ⟨some 52, .load false 1 (.t 51), none, 0⟩,
    ⟨some 53, .fad (.t 3) 6, none, 0⟩,
    ⟨none, .store 1 (.t 53) (.t 52), none, 0⟩])) (.seq (.region [⟨some 55, .bin .eql .num (.t 10) (.c (.sc (.int .i64 8))), none, 0⟩,
    ⟨some 54, .mov (.t 55), none, 0⟩]) (.cond (.t 54) (.region [⟨some 56, .fad (.t 1) 5, none, 0⟩,
    ⟨some 57, .load false 1 (.t 56), none, 0⟩,
    ⟨some 58, .fad (.t 3) 5, none, 0⟩,
    ⟨none, .store 1 (.t 58) (.t 57), none, 0⟩]) (.seq (.region [⟨some 60, .bin .eql .num (.t 10) (.c (.sc (.int .i64 9))), none, 0⟩,
    ⟨some 59, .mov (.t 60), none, 0⟩]) (.cond (.t 59) (.seq (.region [⟨some 61, .fad (.t 1) 3, none, 0⟩,
    ⟨some 62, .load false 1 (.t 61), none, 0⟩,
    ⟨some 63, .fad (.t 3) 3, none, 0⟩,
    ⟨none, .store 1 (.t 63) (.t 62), none, 0⟩]) (.seq (.region [⟨some 64, .fad (.t 1) 3, none, 0⟩,
    ⟨some 65, .load false 1 (.t 64), none, 0⟩]) (.cond (.t 65) (.region [⟨some 66, .fad (.t 1) 6, none, 0⟩,
    ⟨some 67, .load false 1 (.t 66), none, 0⟩,
    ⟨some 68, .fad (.t 3) 6, none, 0⟩,
    ⟨none, .store 1 (.t 68) (.t 67), none, 0⟩]) .skip))) (.seq (.region [⟨some 70, .bin .eql .num (.t 10) (.c (.sc (.int .i64 10))), none, 0⟩,
    ⟨some 69, .mov (.t 70), none, 0⟩]) (.cond (.t 69) (.seq (.region [⟨some 71, .fad (.t 1) 3, none, 0⟩,
    ⟨some 72, .load false 1 (.t 71), none, 0⟩,
    ⟨some 73, .fad (.t 3) 3, none, 0⟩,
    ⟨none, .store 1 (.t 73) (.t 72), none, 0⟩]) (.region [⟨some 74, .bsl 41 2 (.a [.s, .s]) [], none, 0⟩,
    ⟨some 75, .fad (.t 1) 10, none, 0⟩,
    ⟨some 76, .load false 1 (.t 75), none, 0⟩,
    ⟨some 77, .app 41 32 (.t 74) (.t 76), none, 0⟩,
    ⟨some 78, .fad (.t 3) 10, none, 0⟩,
    ⟨none, .store 1 (.t 78) (.t 77), none, 0⟩])) (.seq (.region [⟨some 80, .bin .eql .num (.t 10) (.c (.sc (.int .i64 12))), none, 0⟩,
    ⟨some 79, .mov (.t 80), none, 0⟩]) (.cond (.t 79) (.region [⟨some 81, .fad (.t 1) 2, none, 0⟩,
    ⟨some 82, .load false 1 (.t 81), none, 0⟩,
    ⟨some 83, .fad (.t 3) 2, none, 0⟩,
    ⟨none, .store 1 (.t 83) (.t 82), none, 0⟩]) .skip)))))))))))))))))))) (.seq (.region [⟨some 84, .load true 11 (.t 3), none, 0⟩,
    ⟨none, .store 11 (.t 2) (.t 84), none, 0⟩]) (.ret [2])))))⟩
def g93 : Fn := g93F
theorem cmp93 : cmpFn Tryd.prog .lit [1000016] 93 = some g93 := by kernel_rfl
def g94F : Fn := ⟨12, [.t 6], [.l 5], .mv,
  (.seq (.region [⟨some 6, .nil 5, none, 0⟩]) (.seq (.region [⟨some 7, .mov (.t 0), none, 0⟩,
    ⟨some 8, .mov (.t 1), none, 0⟩,
    ⟨some 9, .mov (.t 2), none, 0⟩,
    ⟨some 10, .call 122 [.s, .s] [.t 8, .t 9], none, 0⟩,
    ⟨some 11, .app 5 1 (.t 7) (.t 10), none, 0⟩,
    ⟨some 6, .mov (.t 11), none, 0⟩]) (.ret [6])))⟩
def g94 : Fn := g94F
theorem cmp94 : cmpFn Tryd.prog .mv [1000016, 1000600005] 94 = some g94 := by kernel_rfl
def g95F : Fn := ⟨12, [.t 4], [.l 5], .mv,
  (.seq (.region [⟨some 4, .nil 5, none, 0⟩]) (.seq (.seq (.region [⟨some 5, .mov (.t 1), none, 0⟩]) (.cond (.t 5) (.seq (.region [⟨some 6, .mov (.t 0), none, 0⟩,
    ⟨some 7, .bsl 5 1 (.s) [.c (.sc (.int .u8 1))], none, 0⟩,
    ⟨some 8, .app 5 1 (.t 6) (.t 7), none, 0⟩,
    ⟨some 4, .mov (.t 8), none, 0⟩]) (.ret [4])) .skip)) (.seq (.region [⟨some 9, .mov (.t 0), none, 0⟩,
    ⟨some 10, .bsl 5 1 (.s) [.c (.sc (.int .u8 0))], none, 0⟩,
    ⟨some 11, .app 5 1 (.t 9) (.t 10), none, 0⟩,
    ⟨some 4, .mov (.t 11), none, 0⟩]) (.ret [4]))))⟩
def g95 : Fn := g95F
theorem cmp95 : cmpFn Tryd.prog .mv [1000016, 1000400005] 95 = some g95 := by kernel_rfl
def g96F : Fn := ⟨13, [.t 4], [.l 5], .mv,
  (.seq (.region [⟨some 3, .box 46 2 (.t 1), none, 0⟩,
    ⟨some 4, .nil 5, none, 0⟩]) (.seq (.region [⟨some 5, .mov (.t 0), none, 0⟩,
    ⟨some 6, .fad (.t 3) 0, none, 0⟩,
    ⟨some 7, .load false 1 (.t 6), none, 0⟩,
    ⟨some 8, .call 94 [.l 5, .s, .s] [.t 5, .t 7, .c (.sc (.int .i64 8))], none, 1⟩,
    ⟨some 9, .fad (.t 3) 1, none, 2⟩,
    ⟨some 10, .load false 1 (.t 9), none, 2⟩,
    ⟨some 11, .conv .u64 (.t 10), none, 0⟩,
    ⟨some 12, .call 94 [.l 5, .s, .s] [.t 8, .t 11, .c (.sc (.int .i64 2))], none, 0⟩,
    ⟨some 4, .mov (.t 12), none, 0⟩]) (.ret [4])))⟩
def g96 : Fn := g96F
theorem cmp96 : cmpFn Tryd.prog .mv [1000016, 1000400005] 96 = some g96 := by kernel_rfl
def g97F : Fn := ⟨16, [.t 6], [.l 5], .mv,
  (.seq (.region [⟨some 6, .nil 5, none, 0⟩]) (.seq (.region [⟨some 7, .mov (.t 0), none, 0⟩,
    ⟨some 8, .mov (.t 1), none, 0⟩,
    ⟨some 9, .len true (.t 8), none, 0⟩,
    ⟨some 10, .conv .u64 (.t 9), none, 0⟩,
    ⟨some 11, .mov (.t 2), none, 0⟩,
    ⟨some 12, .call 94 [.l 5, .s, .s] [.t 7, .t 10, .t 11], none, 0⟩,
    ⟨some 13, .mov (.t 1), none, 0⟩,
    ⟨some 14, .bofs 5 (.t 13), none, 0⟩,
    ⟨some 15, .app 5 1 (.t 12) (.t 14), none, 0⟩,
    ⟨some 6, .mov (.t 15), none, 0⟩]) (.ret [6])))⟩
def g97 : Fn := g97F
theorem cmp97 : cmpFn Tryd.prog .mv [1000016, 1000600005] 97 = some g97 := by kernel_rfl
def g99F : Fn := ⟨19, [.t 2], [.s], .mv,
  (.seq (.region [⟨some 2, .mov (.c (.sc (.bool false))), none, 0⟩]) (.seq (.region [⟨some 3, .mov (.t 0), none, 0⟩,
    ⟨some 4, .isn false (.t 3), none, 0⟩,
    ⟨some 5, .mov (.t 4), none, 0⟩,
    ⟨some 6, .mov (.t 0), some (5, false), 0⟩,
    ⟨some 7, .nck (.t 6), some (5, false), 0⟩,
    ⟨some 8, .fad (.t 7) 0, some (5, false), 0⟩,
    ⟨some 9, .load false 1 (.t 8), some (5, false), 0⟩,
    ⟨some 10, .un .not (.t 9), some (5, false), 0⟩,
    ⟨some 11, .pick (.t 5) (.c (.sc (.bool true))) (.t 10), none, 0⟩,
    ⟨some 12, .mov (.t 11), none, 0⟩,
    ⟨some 13, .mov (.t 0), some (12, false), 0⟩,
    ⟨some 14, .nck (.t 13), some (12, false), 0⟩,
    ⟨some 15, .fad (.t 14) 2, some (12, false), 0⟩,
    ⟨some 16, .load false 1 (.t 15), some (12, false), 0⟩,
    ⟨some 17, .bin .neq .num (.t 16) (.c (.sc (.int .i64 0))), some (12, false), 0⟩,
    ⟨some 18, .pick (.t 12) (.c (.sc (.bool true))) (.t 17), none, 0⟩,
    ⟨some 2, .mov (.t 18), none, 0⟩]) (.ret [2])))⟩
def g99 : Fn := g99F
theorem cmp99 : cmpFn Tryd.prog .mv [1000016] 99 = some g99 := by kernel_rfl
def g100F : Fn := ⟨15, [.t 4], [.s], .mv,
  (.seq (.region [⟨some 4, .mov (.c (.sc (.bool false))), none, 0⟩]) (.seq (.seq (.region [⟨some 5, .mov (.t 1), none, 0⟩,
    ⟨some 6, .mov (.t 0), none, 0⟩,
    ⟨some 7, .nck (.t 6), none, 0⟩,
    ⟨some 8, .fad (.t 7) 1, none, 0⟩,
    ⟨some 9, .load false 1 (.t 8), none, 0⟩,
    ⟨some 10, .len false (.t 9), none, 0⟩,
    ⟨some 11, .bin .leq .num (.t 5) (.t 10), none, 0⟩]) (.cond (.t 11) (.seq (.region [⟨some 4, .mov (.c (.sc (.bool false))), none, 0⟩]) (.ret [4])) .skip)) (.seq (.region [⟨some 12, .mov (.t 0), none, 0⟩,
    ⟨some 13, .nck (.t 12), none, 0⟩,
    ⟨some 14, .fad (.t 13) 2, none, 0⟩,
    ⟨none, .store 1 (.t 14) (.c (.sc (.int .i64 2))), none, 0⟩]) (.seq (.region [⟨some 4, .mov (.c (.sc (.bool true))), none, 0⟩]) (.ret [4])))))⟩
def g100 : Fn := g100F
theorem cmp100 : cmpFn Tryd.prog .mv [1000016] 100 = some g100 := by kernel_rfl
def g101F : Fn := ⟨23, [.t 4], [.l 5], .mv,
  (.seq (.region [⟨some 4, .nil 5, none, 0⟩]) (.seq (.region [⟨some 6, .mov (.t 0), none, 0⟩,
    ⟨some 7, .nck (.t 6), none, 0⟩,
    ⟨some 8, .fad (.t 7) 1, none, 0⟩,
    ⟨some 9, .load false 1 (.t 8), none, 0⟩,
    ⟨some 10, .mov (.t 1), none, 0⟩,
    ⟨some 11, .sls 5 (.t 9) none (some (.t 10)), none, 0⟩,
    ⟨some 12, .call 98 [.l 5] [.t 11], none, 0⟩,
    ⟨some 5, .mov (.t 12), none, 0⟩]) (.seq (.region [⟨some 13, .mov (.t 0), none, 0⟩,
    ⟨some 14, .mov (.t 0), none, 0⟩,
    ⟨some 15, .nck (.t 14), none, 0⟩,
    ⟨some 16, .fad (.t 15) 1, none, 0⟩,
    ⟨some 17, .load false 1 (.t 16), none, 0⟩,
    ⟨some 18, .mov (.t 1), none, 0⟩,
    ⟨some 19, .sls 5 (.t 17) (some (.t 18)) none, none, 0⟩,
    ⟨some 20, .nck (.t 13), none, 0⟩,
    ⟨some 21, .fad (.t 20) 1, none, 0⟩,
    ⟨none, .store 1 (.t 21) (.t 19), none, 0⟩]) (.seq (.region [⟨some 22, .mov (.t 5), none, 0⟩,
    ⟨some 4, .mov (.t 22), none, 0⟩]) (.ret [4])))))⟩
def g101 : Fn := g101F
theorem cmp101 : cmpFn Tryd.prog .mv [1000016, 1000400005] 101 = some g101 := by kernel_rfl
def g102F : Fn := ⟨17, [.cell 2 true 3], [.a [.s, .s, .l 3]], .lit,
  (.seq (.region [⟨some 2, .box 118 3 (.c (.agg [.sc (.string ⟨#[]⟩), .sc (.int .i64 0), .lit 0 true []])), none, 0⟩]) (.seq (.region [⟨some 4, .call 123 [] [], none, 0⟩,
    ⟨some 3, .mov (.t 4), none, 0⟩]) (.seq (.seq (.region [⟨some 5, .mov (.t 0), none, 0⟩,
    ⟨some 6, .bin .lss .num (.t 5) (.c (.sc (.int .i64 0))), none, 0⟩,
    ⟨some 7, .mov (.t 6), none, 0⟩,
    ⟨some 8, .mov (.t 0), some (7, false), 0⟩,
    ⟨some 9, .mov (.t 3), some (7, false), 0⟩,
    ⟨some 10, .len false (.t 9), some (7, false), 0⟩,
    ⟨some 11, .bin .geq .num (.t 8) (.t 10), some (7, false), 0⟩,
    ⟨some 12, .pick (.t 7) (.c (.sc (.bool true))) (.t 11), none, 0⟩]) (.cond (.t 12) (.region [⟨some 0, .mov (.c (.sc (.int .i64 0))), none, 0⟩]) .skip)) (.seq (.region [⟨some 13, .mov (.t 3), none, 0⟩,
    ⟨some 14, .mov (.t 0), none, 0⟩,
    ⟨some 15, .iadS 118 (.t 13) (.t 14), none, 0⟩,
    ⟨some 16, .load true 3 (.t 15), none, 0⟩,
    ⟨none, .store 3 (.t 2) (.t 16), none, 0⟩]) (.ret [2])))))⟩
def g102 : Fn := g102F
theorem cmp102 : cmpFn Tryd.prog .lit [1000016] 102 = some g102 := by kernel_rfl
def b103_0F : Cd := (.seq (.seq (.region [⟨some 9, .mov (.t 0), none, 0⟩,
    ⟨some 10, .nck (.t 9), none, 0⟩,
    ⟨some 11, .fad (.t 10) 1, none, 0⟩,
    ⟨some 12, .load false 1 (.t 11), none, 0⟩,
    ⟨some 13, .iadS 5 (.t 12) (.c (.sc (.int .i64 0))), none, 0⟩,
    ⟨some 14, .load false 1 (.t 13), none, 0⟩,
    ⟨some 15, .bin .gtr .num (.t 14) (.c (.sc (.int .u8 1))), none, 0⟩]) (.cond (.t 15) (.seq (.region [⟨some 16, .mov (.t 0), none, 0⟩,
    ⟨some 17, .nck (.t 16), none, 0⟩,
    ⟨some 18, .fad (.t 17) 2, none, 0⟩,
    ⟨none, .store 1 (.t 18) (.c (.sc (.int .i64 3))), none, 0⟩]) (.seq (.region [⟨some 2, .mov (.c (.sc (.bool false))), none, 0⟩]) (.ret [2]))) .skip)) (.seq (.region [⟨some 19, .mov (.t 0), none, 0⟩,
    ⟨some 20, .call 101 [.s, .s] [.t 19, .c (.sc (.int .i64 1))], none, 0⟩,
    ⟨some 21, .iadS 5 (.t 20) (.c (.sc (.int .i64 0))), none, 0⟩,
    ⟨some 22, .load false 1 (.t 21), none, 0⟩,
    ⟨some 23, .bin .eql .num (.t 22) (.c (.sc (.int .u8 1))), none, 0⟩,
    ⟨some 2, .mov (.t 23), none, 0⟩]) (.ret [2])))
def b103_0 : Cd := b103_0F
def g103F (c0 : Cd) : Fn := ⟨24, [.t 2], [.s], .mv,
  (.seq (.region [⟨some 2, .mov (.c (.sc (.bool false))), none, 0⟩]) (.seq (.seq (.region [⟨some 3, .mov (.t 0), none, 0⟩,
    ⟨some 4, .call 99 [.s] [.t 3], none, 0⟩,
    ⟨some 5, .mov (.t 4), none, 0⟩,
    ⟨some 6, .mov (.t 0), some (5, false), 0⟩,
    ⟨some 7, .call 100 [.s, .s] [.t 6, .c (.sc (.int .i64 1))], some (5, false), 0⟩,
    ⟨some 8, .pick (.t 5) (.c (.sc (.bool true))) (.t 7), none, 0⟩]) (.cond (.t 8) (.seq (.region [⟨some 2, .mov (.c (.sc (.bool false))), none, 0⟩]) (.ret [2])) .skip)) (.seg [0] [2] c0)))⟩
def g103 : Fn := g103F b103_0
theorem cmp103 : cmpFn Tryd.prog .mv [1000016] 103 = some g103 := by kernel_rfl
def g104F : Fn := ⟨11, [.cell 2 true 2], [.a [.s, .s]], .mv,
  (.seq (.region [⟨some 2, .box 46 2 (.c (.agg [.sc (.int .u64 0), .sc (.int .u16 0)])), none, 0⟩]) (.seq (.region [⟨some 4, .mov (.t 0), none, 0⟩,
    ⟨some 5, .call 60 [.s, .s] [.t 4, .c (.sc (.int .i64 8))], none, 0⟩,
    ⟨some 3, .mov (.t 5), none, 0⟩]) (.seq (.region [⟨some 6, .mov (.t 3), none, 0⟩,
    ⟨some 7, .mov (.t 0), none, 0⟩,
    ⟨some 8, .call 60 [.s, .s] [.t 7, .c (.sc (.int .i64 2))], none, 0⟩,
    ⟨some 9, .conv .u16 (.t 8), none, 0⟩,
    ⟨some 10, .build [.sc (.int .u64 0), .sc (.int .u16 0)] [(0, 1, .t 6), (1, 1, .t 9)], none, 0⟩,
    ⟨none, .store 2 (.t 2) (.t 10), none, 0⟩]) (.ret [2]))))⟩
def g104 : Fn := g104F
theorem cmp104 : cmpFn Tryd.prog .mv [1000016] 104 = some g104 := by kernel_rfl
def b105_0F : Cd := (.seq (.region [⟨some 7, .bin .lss .num (.t 6) (.t 5), none, 0⟩]) (.seq (.cond (.t 7) .skip (.exit 0 [3])) (.seq (.block 1 (.region [⟨some 8, .mov (.t 3), none, 0⟩,
    ⟨some 9, .mov (.t 0), none, 0⟩,
    ⟨some 10, .call 104 [.s] [.t 9], none, 0⟩,
    ⟨some 11, .bsl 46 2 (.a [.s, .s]) [.t 10], none, 0⟩,
    ⟨some 12, .app 46 16 (.t 8) (.t 11), none, 0⟩,
    ⟨some 3, .mov (.t 12), none, 0⟩])) (.region [⟨some 13, .bin .add .num (.t 6) (.c (.sc (.int .i64 1))), none, 0⟩,
    ⟨some 6, .mov (.t 13), none, 0⟩]))))
def b105_0 : Cd := b105_0F
def g105F (c0 : Cd) : Fn := ⟨15, [.t 2], [.l 46], .mv,
  (.seq (.region [⟨some 2, .nil 46, none, 0⟩]) (.seq (.region [⟨some 3, .nil 46, none, 0⟩]) (.seq (.seq (.region [⟨some 4, .mov (.t 0), none, 0⟩,
    ⟨some 5, .call 124 [.s, .s] [.t 4, .c (.sc (.int .i64 16))], none, 0⟩,
    ⟨some 6, .mov (.c (.sc (.int .i64 0))), none, 0⟩]) (.block 0 (.loop [5, 0, 6, 3] c0))) (.seq (.region [⟨some 14, .mov (.t 3), none, 0⟩,
    ⟨some 2, .mov (.t 14), none, 0⟩]) (.ret [2])))))⟩
def g105 : Fn := g105F b105_0
theorem cmp105 : cmpFn Tryd.prog .mv [1000016, 1000300046, 1000200046] 105 = some g105 := by kernel_rfl
def g106F : Fn := ⟨22, [.t 6], [.s], .mv,
  (.seq (.region [⟨some 6, .mov (.c (.sc (.string ⟨#[]⟩))), none, 0⟩]) (.seq (.region [⟨some 8, .mov (.t 0), none, 0⟩,
    ⟨some 9, .mov (.t 1), none, 0⟩,
    ⟨some 10, .call 60 [.s, .s] [.t 8, .t 9], none, 0⟩,
    ⟨some 7, .mov (.t 10), none, 0⟩]) (.seq (.seq (.region [⟨some 11, .mov (.t 7), none, 0⟩,
    ⟨some 12, .mov (.t 2), none, 0⟩,
    ⟨some 13, .conv .u64 (.t 12), none, 0⟩,
    ⟨some 14, .bin .gtr .num (.t 11) (.t 13), none, 0⟩]) (.cond (.t 14) (.region [⟨some 15, .mov (.t 0), none, 0⟩,
    ⟨some 16, .call 62 [.s, .s] [.t 15, .c (.sc (.int .i64 5))], none, 0⟩]) .skip)) (.seq (.region [⟨some 17, .mov (.t 0), none, 0⟩,
    ⟨some 18, .mov (.t 7), none, 0⟩,
    ⟨some 19, .conv .i64 (.t 18), none, 0⟩,
    ⟨some 20, .call 125 [.s, .s] [.t 17, .t 19], none, 0⟩,
    ⟨some 21, .sofb 5 (.t 20), none, 0⟩,
    ⟨some 6, .mov (.t 21), none, 0⟩]) (.ret [6])))))⟩
def g106 : Fn := g106F
theorem cmp106 : cmpFn Tryd.prog .mv [1000016] 106 = some g106 := by kernel_rfl
def b107_0F : Cd := (.seq (.region [⟨some 8, .bin .lss .num (.t 7) (.t 6), none, 0⟩]) (.seq (.cond (.t 8) .skip (.exit 0 [3])) (.seq (.block 1 (.seq (.region [⟨some 9, .mov (.t 0), none, 0⟩,
    ⟨some 10, .call 106 [.s, .s, .s] [.t 9, .c (.sc (.int .i64 1)), .c (.sc (.int .i64 96))], none, 0⟩,
    ⟨some 4, .mov (.t 10), none, 0⟩]) (.region [⟨some 11, .mov (.t 3), none, 0⟩,
    ⟨some 12, .mov (.t 4), none, 0⟩,
    ⟨some 13, .mov (.t 0), none, 0⟩,
    ⟨some 14, .call 106 [.s, .s, .s] [.t 13, .c (.sc (.int .i64 2)), .c (.sc (.int .i64 512))], none, 0⟩,
    ⟨some 15, .build [.sc (.string ⟨#[]⟩), .sc (.string ⟨#[]⟩)] [(0, 1, .t 12), (1, 1, .t 14)], none, 0⟩,
    ⟨some 16, .bsl 41 2 (.a [.s, .s]) [.t 15], none, 0⟩,
    ⟨some 17, .app 41 32 (.t 11) (.t 16), none, 0⟩,
    ⟨some 3, .mov (.t 17), none, 0⟩]))) (.region [⟨some 18, .bin .add .num (.t 7) (.c (.sc (.int .i64 1))), none, 0⟩,
    ⟨some 7, .mov (.t 18), none, 0⟩]))))
def b107_0 : Cd := b107_0F
def g107F (c0 : Cd) : Fn := ⟨20, [.t 2], [.l 41], .mv,
  (.seq (.region [⟨some 2, .nil 41, none, 0⟩]) (.seq (.region [⟨some 3, .nil 41, none, 0⟩]) (.seq (.seq (.region [⟨some 5, .mov (.t 0), none, 0⟩,
    ⟨some 6, .call 124 [.s, .s] [.t 5, .c (.sc (.int .i64 8))], none, 0⟩,
    ⟨some 7, .mov (.c (.sc (.int .i64 0))), none, 0⟩]) (.block 0 (.loop [6, 0, 7, 3] c0))) (.seq (.region [⟨some 19, .mov (.t 3), none, 0⟩,
    ⟨some 2, .mov (.t 19), none, 0⟩]) (.ret [2])))))⟩
def g107 : Fn := g107F b107_0
theorem cmp107 : cmpFn Tryd.prog .mv [1000016, 1000300041, 1000200041] 107 = some g107 := by kernel_rfl
def g108F : Fn := ⟨16, [.t 2], [.s], .mv,
  (.seq (.region [⟨some 2, .mov (.c (.sc (.int .i64 0))), none, 0⟩]) (.seq (.seq (.region [⟨some 3, .mov (.t 0), none, 0⟩,
    ⟨some 4, .isn false (.t 3), none, 0⟩,
    ⟨some 5, .mov (.t 4), none, 0⟩,
    ⟨some 6, .mov (.t 0), some (5, false), 0⟩,
    ⟨some 7, .nck (.t 6), some (5, false), 0⟩,
    ⟨some 8, .fad (.t 7) 0, some (5, false), 0⟩,
    ⟨some 9, .load false 1 (.t 8), some (5, false), 0⟩,
    ⟨some 10, .un .not (.t 9), some (5, false), 0⟩,
    ⟨some 11, .pick (.t 5) (.c (.sc (.bool true))) (.t 10), none, 0⟩]) (.cond (.t 11) (.seq (.region [⟨some 2, .mov (.c (.sc (.int .i64 14))), none, 0⟩]) (.ret [2])) .skip)) (.seq (.region [⟨some 12, .mov (.t 0), none, 0⟩,
    ⟨some 13, .nck (.t 12), none, 0⟩,
    ⟨some 14, .fad (.t 13) 2, none, 0⟩,
    ⟨some 15, .load false 1 (.t 14), none, 0⟩,
    ⟨some 2, .mov (.t 15), none, 0⟩]) (.ret [2]))))⟩
def g108 : Fn := g108F
theorem cmp108 : cmpFn Tryd.prog .mv [1000016] 108 = some g108 := by kernel_rfl
def g109F : Fn := ⟨48, [.t 4], [.l 5], .mv,
  (.seq (.region [⟨some 4, .nil 5, none, 0⟩]) (.seq (.seq (.region [⟨some 5, .mov (.t 0), none, 0⟩,
    ⟨some 6, .nck (.t 5), none, 0⟩,
    ⟨some 7, .fad (.t 6) 2, none, 0⟩,
    ⟨some 8, .load false 1 (.t 7), none, 0⟩,
    ⟨some 9, .bin .neq .num (.t 8) (.c (.sc (.int .i64 0))), none, 0⟩]) (.cond (.t 9) (.seq (.region [⟨some 4, .nil 5, none, 0⟩]) (.ret [4])) .skip)) (.seq (.seq (.region [⟨some 10, .mov (.t 1), none, 0⟩,
    ⟨some 11, .bin .lss .num (.t 10) (.c (.sc (.int .i64 0))), none, 0⟩]) (.cond (.t 11) (.seq (.region [⟨some 12, .mov (.t 0), none, 0⟩,
    ⟨some 13, .nck (.t 12), none, 0⟩,
    ⟨some 14, .fad (.t 13) 2, none, 0⟩,
    ⟨none, .store 1 (.t 14) (.c (.sc (.int .i64 1))), none, 0⟩]) (.seq (.region [⟨some 4, .nil 5, none, 0⟩]) (.ret [4]))) .skip)) (.seq (.seq (.region [⟨some 15, .mov (.t 0), none, 0⟩,
    ⟨some 16, .call 110 [.s] [.t 15], none, 0⟩,
    ⟨some 17, .mov (.t 1), none, 0⟩,
    ⟨some 18, .bin .lss .num (.t 16) (.t 17), none, 0⟩]) (.cond (.t 18) (.seq (.region [⟨some 19, .mov (.t 0), none, 0⟩,
    ⟨some 20, .nck (.t 19), none, 0⟩,
    ⟨some 21, .fad (.t 20) 2, none, 0⟩,
    ⟨none, .store 1 (.t 21) (.c (.sc (.int .i64 2))), none, 0⟩]) (.seq (.region [⟨some 4, .nil 5, none, 0⟩]) (.ret [4]))) .skip)) (.seq (.region [⟨some 22, .mov (.t 0), none, 0⟩,
    ⟨some 23, .mov (.t 0), none, 0⟩,
    ⟨some 24, .nck (.t 23), none, 0⟩,
    ⟨some 25, .fad (.t 24) 1, none, 0⟩,
    ⟨some 26, .load false 1 (.t 25), none, 0⟩,
    ⟨some 27, .mov (.t 1), none, 0⟩,
    ⟨some 28, .bin .add .num (.t 26) (.t 27), none, 0⟩,
    ⟨some 29, .nck (.t 22), none, 0⟩,
    ⟨some 30, .fad (.t 29) 1, none, 0⟩,
    ⟨none, .store 1 (.t 30) (.t 28), none, 0⟩]) (.seq (.region [⟨some 31, .bsl 5 1 (.s) [], none, 0⟩,
    ⟨some 32, .mov (.t 0), none, 0⟩,
    ⟨some 33, .nck (.t 32), none, 0⟩,
    ⟨some 34, .fad (.t 33) 0, none, 0⟩,
    ⟨some 35, .load false 1 (.t 34), none, 0⟩,
    ⟨some 36, .mov (.t 0), none, 0⟩,
    ⟨some 37, .nck (.t 36), none, 0⟩,
    ⟨some 38, .fad (.t 37) 1, none, 0⟩,
    ⟨some 39, .load false 1 (.t 38), none, 0⟩,
    ⟨some 40, .mov (.t 1), none, 0⟩,
    ⟨some 41, .bin .sub .num (.t 39) (.t 40), none, 0⟩,
    ⟨some 42, .mov (.t 0), none, 0⟩,
    ⟨some 43, .nck (.t 42), none, 0⟩,
    ⟨some 44, .fad (.t 43) 1, none, 0⟩,
    ⟨some 45, .load false 1 (.t 44), none, 0⟩,
    ⟨some 46, .sls 5 (.t 35) (some (.t 41)) (some (.t 45)), none, 0⟩,
    ⟨some 47, .app 5 1 (.t 31) (.t 46), none, 0⟩,
    ⟨some 4, .mov (.t 47), none, 0⟩]) (.ret [4])))))))⟩
def g109 : Fn := g109F
theorem cmp109 : cmpFn Tryd.prog .mv [1000016, 1000400005] 109 = some g109 := by kernel_rfl
def g110F : Fn := ⟨13, [.t 2], [.s], .mv,
  (.seq (.region [⟨some 2, .mov (.c (.sc (.int .i64 0))), none, 0⟩]) (.seq (.region [⟨some 3, .mov (.t 0), none, 0⟩,
    ⟨some 4, .nck (.t 3), none, 0⟩,
    ⟨some 5, .fad (.t 4) 0, none, 0⟩,
    ⟨some 6, .load false 1 (.t 5), none, 0⟩,
    ⟨some 7, .len false (.t 6), none, 0⟩,
    ⟨some 8, .mov (.t 0), none, 0⟩,
    ⟨some 9, .nck (.t 8), none, 0⟩,
    ⟨some 10, .fad (.t 9) 1, none, 0⟩,
    ⟨some 11, .load false 1 (.t 10), none, 0⟩,
    ⟨some 12, .bin .sub .num (.t 7) (.t 11), none, 0⟩,
    ⟨some 2, .mov (.t 12), none, 0⟩]) (.ret [2])))⟩
def g110 : Fn := g110F
theorem cmp110 : cmpFn Tryd.prog .mv [1000016] 110 = some g110 := by kernel_rfl
def g111F : Fn := ⟨20, [.t 6], [.s], .lit,
  (.seq (.region [⟨some 6, .mov (.c (.sc (.bool false))), none, 0⟩]) (.seq (.seq (.region [⟨some 9, .mov (.t 2), none, 0⟩,
    ⟨some 10, .bin .neq .num (.t 9) (.c (.sc (.int .i32 65533))), none, 0⟩]) (.cond (.t 10) (.seq (.region [⟨some 6, .mov (.c (.sc (.bool false))), none, 0⟩]) (.ret [6])) .skip)) (.seq (.region [⟨some 12, .mov (.t 0), none, 0⟩,
    ⟨some 13, .mov (.t 1), none, 0⟩,
    ⟨some 14, .ssl (.t 12) (some (.t 13)) none, none, 0⟩,
    ⟨some 15, .call 126 [.s] [.t 14], none, 0⟩,
    ⟨some 11, .mov (.t 15), none, 0⟩,
    ⟨some 16, .ext (.t 11) 0, none, 0⟩,
    ⟨some 17, .ext (.t 11) 1, none, 0⟩,
    ⟨some 7, .mov (.t 16), none, 0⟩,
    ⟨some 8, .mov (.t 17), none, 0⟩]) (.seq (.region [⟨some 18, .mov (.t 8), none, 0⟩,
    ⟨some 19, .bin .eql .num (.t 18) (.c (.sc (.int .i64 1))), none, 0⟩,
    ⟨some 6, .mov (.t 19), none, 0⟩]) (.ret [6])))))⟩
def g111 : Fn := g111F
theorem cmp111 : cmpFn Tryd.prog .lit [1000016] 111 = some g111 := by kernel_rfl
def b113_0F : Cd := (.cond (.t 56) (.seq (.seq (.region [⟨some 57, .mov (.t 5), none, 0⟩,
    ⟨some 58, .bin .eql .num (.t 57) (.c (.sc (.int .u8 224))), none, 0⟩,
    ⟨some 59, .mov (.t 58), none, 0⟩,
    ⟨some 60, .mov (.t 0), some (59, true), 0⟩,
    ⟨some 61, .mov (.t 1), some (59, true), 0⟩,
    ⟨some 62, .bin .add .num (.t 61) (.c (.sc (.int .i64 1))), some (59, true), 0⟩,
    ⟨some 63, .sidx (.t 60) (.t 62), some (59, true), 0⟩,
    ⟨some 64, .bin .lss .num (.t 63) (.c (.sc (.int .u8 160))), some (59, true), 0⟩,
    ⟨some 65, .pick (.t 59) (.t 64) (.c (.sc (.bool false))), none, 0⟩,
    ⟨some 66, .mov (.t 65), none, 0⟩,
    ⟨some 67, .mov (.t 5), some (66, false), 0⟩,
    ⟨some 68, .bin .eql .num (.t 67) (.c (.sc (.int .u8 237))), some (66, false), 0⟩,
    ⟨some 69, .mov (.t 68), some (66, false), 0⟩,
    ⟨some 70, .mov (.t 0), some (69, true), 0⟩,
    ⟨some 71, .mov (.t 1), some (69, true), 0⟩,
    ⟨some 72, .bin .add .num (.t 71) (.c (.sc (.int .i64 1))), some (69, true), 0⟩,
    ⟨some 73, .sidx (.t 70) (.t 72), some (69, true), 0⟩,
    ⟨some 74, .bin .gtr .num (.t 73) (.c (.sc (.int .u8 159))), some (69, true), 0⟩,
    ⟨some 75, .pick (.t 69) (.t 74) (.c (.sc (.bool false))), some (66, false), 0⟩,
    ⟨some 76, .pick (.t 66) (.c (.sc (.bool true))) (.t 75), none, 0⟩]) (.cond (.t 76) (.seq (.region [⟨some 4, .mov (.c (.sc (.int .i64 0))), none, 0⟩]) (.ret [4])) .skip)) (.seq (.region [⟨some 4, .mov (.c (.sc (.int .i64 3))), none, 0⟩]) (.ret [4]))) .skip)
def b113_0 : Cd := b113_0F
def b113_1F : Cd := (.cond (.t 107) (.seq (.seq (.region [⟨some 108, .mov (.t 5), none, 0⟩,
    ⟨some 109, .bin .eql .num (.t 108) (.c (.sc (.int .u8 240))), none, 0⟩,
    ⟨some 110, .mov (.t 109), none, 0⟩,
    ⟨some 111, .mov (.t 0), some (110, true), 0⟩,
    ⟨some 112, .mov (.t 1), some (110, true), 0⟩,
    ⟨some 113, .bin .add .num (.t 112) (.c (.sc (.int .i64 1))), some (110, true), 0⟩,
    ⟨some 114, .sidx (.t 111) (.t 113), some (110, true), 0⟩,
    ⟨some 115, .bin .lss .num (.t 114) (.c (.sc (.int .u8 144))), some (110, true), 0⟩,
    ⟨some 116, .pick (.t 110) (.t 115) (.c (.sc (.bool false))), none, 0⟩,
    ⟨some 117, .mov (.t 116), none, 0⟩,
    ⟨some 118, .mov (.t 5), some (117, false), 0⟩,
    ⟨some 119, .bin .eql .num (.t 118) (.c (.sc (.int .u8 244))), some (117, false), 0⟩,
    ⟨some 120, .mov (.t 119), some (117, false), 0⟩,
    ⟨some 121, .mov (.t 0), some (120, true), 0⟩,
    ⟨some 122, .mov (.t 1), some (120, true), 0⟩,
    ⟨some 123, .bin .add .num (.t 122) (.c (.sc (.int .i64 1))), some (120, true), 0⟩,
    ⟨some 124, .sidx (.t 121) (.t 123), some (120, true), 0⟩,
    ⟨some 125, .bin .gtr .num (.t 124) (.c (.sc (.int .u8 143))), some (120, true), 0⟩,
    ⟨some 126, .pick (.t 120) (.t 125) (.c (.sc (.bool false))), some (117, false), 0⟩,
    ⟨some 127, .pick (.t 117) (.c (.sc (.bool true))) (.t 126), none, 0⟩]) (.cond (.t 127) (.seq (.region [⟨some 4, .mov (.c (.sc (.int .i64 0))), none, 0⟩]) (.ret [4])) .skip)) (.seq (.region [⟨some 4, .mov (.c (.sc (.int .i64 4))), none, 0⟩]) (.ret [4]))) .skip)
def b113_1 : Cd := b113_1F
def b113_2F (c1 : Cd) : Cd := (.seq (.seq (.region [⟨some 77, .mov (.t 5), none, 0⟩,
    ⟨some 78, .bin .geq .num (.t 77) (.c (.sc (.int .u8 240))), none, 0⟩,
    ⟨some 79, .mov (.t 78), none, 0⟩,
    ⟨some 80, .mov (.t 5), some (79, true), 0⟩,
    ⟨some 81, .bin .leq .num (.t 80) (.c (.sc (.int .u8 244))), some (79, true), 0⟩,
    ⟨some 82, .pick (.t 79) (.t 81) (.c (.sc (.bool false))), none, 0⟩,
    ⟨some 83, .mov (.t 82), none, 0⟩,
    ⟨some 84, .mov (.t 6), some (83, true), 0⟩,
    ⟨some 85, .bin .gtr .num (.t 84) (.c (.sc (.int .i64 3))), some (83, true), 0⟩,
    ⟨some 86, .pick (.t 83) (.t 85) (.c (.sc (.bool false))), none, 0⟩,
    ⟨some 87, .mov (.t 86), none, 0⟩,
    ⟨some 88, .mov (.t 0), some (87, true), 0⟩,
    ⟨some 89, .mov (.t 1), some (87, true), 0⟩,
    ⟨some 90, .bin .add .num (.t 89) (.c (.sc (.int .i64 1))), some (87, true), 0⟩,
    ⟨some 91, .sidx (.t 88) (.t 90), some (87, true), 0⟩,
    ⟨some 92, .call 128 [.s] [.t 91], some (87, true), 0⟩,
    ⟨some 93, .pick (.t 87) (.t 92) (.c (.sc (.bool false))), none, 0⟩,
    ⟨some 94, .mov (.t 93), none, 0⟩,
    ⟨some 95, .mov (.t 0), some (94, true), 0⟩,
    ⟨some 96, .mov (.t 1), some (94, true), 0⟩,
    ⟨some 97, .bin .add .num (.t 96) (.c (.sc (.int .i64 2))), some (94, true), 0⟩,
    ⟨some 98, .sidx (.t 95) (.t 97), some (94, true), 0⟩,
    ⟨some 99, .call 128 [.s] [.t 98], some (94, true), 0⟩,
    ⟨some 100, .pick (.t 94) (.t 99) (.c (.sc (.bool false))), none, 0⟩,
    ⟨some 101, .mov (.t 100), none, 0⟩,
    ⟨some 102, .mov (.t 0), some (101, true), 0⟩,
    ⟨some 103, .mov (.t 1), some (101, true), 0⟩,
    ⟨some 104, .bin .add .num (.t 103) (.c (.sc (.int .i64 3))), some (101, true), 0⟩,
    ⟨some 105, .sidx (.t 102) (.t 104), some (101, true), 0⟩,
    ⟨some 106, .call 128 [.s] [.t 105], some (101, true), 0⟩,
    ⟨some 107, .pick (.t 101) (.t 106) (.c (.sc (.bool false))), none, 0⟩]) (.seg [107, 5, 0, 1] [] c1)) (.seq (.region [⟨some 4, .mov (.c (.sc (.int .i64 0))), none, 0⟩]) (.ret [4])))
def b113_2 : Cd := b113_2F b113_1
def b113_3F (c0 : Cd) (c2 : Cd) : Cd := (.seq (.seq (.region [⟨some 33, .mov (.t 5), none, 0⟩,
    ⟨some 34, .bin .geq .num (.t 33) (.c (.sc (.int .u8 224))), none, 0⟩,
    ⟨some 35, .mov (.t 34), none, 0⟩,
    ⟨some 36, .mov (.t 5), some (35, true), 0⟩,
    ⟨some 37, .bin .leq .num (.t 36) (.c (.sc (.int .u8 239))), some (35, true), 0⟩,
    ⟨some 38, .pick (.t 35) (.t 37) (.c (.sc (.bool false))), none, 0⟩,
    ⟨some 39, .mov (.t 38), none, 0⟩,
    ⟨some 40, .mov (.t 6), some (39, true), 0⟩,
    ⟨some 41, .bin .gtr .num (.t 40) (.c (.sc (.int .i64 2))), some (39, true), 0⟩,
    ⟨some 42, .pick (.t 39) (.t 41) (.c (.sc (.bool false))), none, 0⟩,
    ⟨some 43, .mov (.t 42), none, 0⟩,
    ⟨some 44, .mov (.t 0), some (43, true), 0⟩,
    ⟨some 45, .mov (.t 1), some (43, true), 0⟩,
    ⟨some 46, .bin .add .num (.t 45) (.c (.sc (.int .i64 1))), some (43, true), 0⟩,
    ⟨some 47, .sidx (.t 44) (.t 46), some (43, true), 0⟩,
    ⟨some 48, .call 128 [.s] [.t 47], some (43, true), 0⟩,
    ⟨some 49, .pick (.t 43) (.t 48) (.c (.sc (.bool false))), none, 0⟩,
    ⟨some 50, .mov (.t 49), none, 0⟩,
    ⟨some 51, .mov (.t 0), some (50, true), 0⟩,
    ⟨some 52, .mov (.t 1), some (50, true), 0⟩,
    ⟨some 53, .bin .add .num (.t 52) (.c (.sc (.int .i64 2))), some (50, true), 0⟩,
    ⟨some 54, .sidx (.t 51) (.t 53), some (50, true), 0⟩,
    ⟨some 55, .call 128 [.s] [.t 54], some (50, true), 0⟩,
    ⟨some 56, .pick (.t 50) (.t 55) (.c (.sc (.bool false))), none, 0⟩]) (.seg [56, 6, 5, 0, 1] [6, 5, 0, 1] c0)) (.seg [6, 5, 0, 1] [4] c2))
def b113_3 : Cd := b113_3F b113_0 b113_2
def g113F (c3 : Cd) : Fn := ⟨128, [.t 4], [.s], .lit,
  (.seq (.region [⟨some 4, .mov (.c (.sc (.int .i64 0))), none, 0⟩]) (.seq (.region [⟨some 7, .mov (.t 0), none, 0⟩,
    ⟨some 8, .mov (.t 1), none, 0⟩,
    ⟨some 9, .sidx (.t 7) (.t 8), none, 0⟩,
    ⟨some 5, .mov (.t 9), none, 0⟩]) (.seq (.region [⟨some 10, .mov (.t 0), none, 0⟩,
    ⟨some 11, .len true (.t 10), none, 0⟩,
    ⟨some 12, .mov (.t 1), none, 0⟩,
    ⟨some 13, .bin .sub .num (.t 11) (.t 12), none, 0⟩,
    ⟨some 6, .mov (.t 13), none, 0⟩]) (.seq (.seq (.region [⟨some 14, .mov (.t 5), none, 0⟩,
    ⟨some 15, .bin .lss .num (.t 14) (.c (.sc (.int .u8 128))), none, 0⟩]) (.cond (.t 15) (.seq (.region [⟨some 4, .mov (.c (.sc (.int .i64 1))), none, 0⟩]) (.ret [4])) .skip)) (.seq (.seq (.region [⟨some 16, .mov (.t 5), none, 0⟩,
    ⟨some 17, .bin .geq .num (.t 16) (.c (.sc (.int .u8 194))), none, 0⟩,
    ⟨some 18, .mov (.t 17), none, 0⟩,
    ⟨some 19, .mov (.t 5), some (18, true), 0⟩,
    ⟨some 20, .bin .leq .num (.t 19) (.c (.sc (.int .u8 223))), some (18, true), 0⟩,
    ⟨some 21, .pick (.t 18) (.t 20) (.c (.sc (.bool false))), none, 0⟩,
    ⟨some 22, .mov (.t 21), none, 0⟩,
    ⟨some 23, .mov (.t 6), some (22, true), 0⟩,
    ⟨some 24, .bin .gtr .num (.t 23) (.c (.sc (.int .i64 1))), some (22, true), 0⟩,
    ⟨some 25, .pick (.t 22) (.t 24) (.c (.sc (.bool false))), none, 0⟩,
    ⟨some 26, .mov (.t 25), none, 0⟩,
    ⟨some 27, .mov (.t 0), some (26, true), 0⟩,
    ⟨some 28, .mov (.t 1), some (26, true), 0⟩,
    ⟨some 29, .bin .add .num (.t 28) (.c (.sc (.int .i64 1))), some (26, true), 0⟩,
    ⟨some 30, .sidx (.t 27) (.t 29), some (26, true), 0⟩,
    ⟨some 31, .call 128 [.s] [.t 30], some (26, true), 0⟩,
    ⟨some 32, .pick (.t 26) (.t 31) (.c (.sc (.bool false))), none, 0⟩]) (.cond (.t 32) (.seq (.region [⟨some 4, .mov (.c (.sc (.int .i64 2))), none, 0⟩]) (.ret [4])) .skip)) (.seg [6, 5, 0, 1] [4] c3))))))⟩
def g113 : Fn := g113F b113_3
theorem cmp113 : cmpFn Tryd.prog .lit [1000016] 113 = some g113 := by kernel_rfl
end Go.Ab.Tryd
namespace Go.Ab.Tryd
open Go Go.Proofs
def b115_0F : Cd := (.seq (.region [⟨some 14, .bin .lss .num (.t 13) (.t 12), none, 0⟩]) (.seq (.cond (.t 14) .skip (.exit 0 [])) (.seq (.block 1 (.seq (.region [⟨some 15, .mov (.t 13), none, 0⟩,
    ⟨some 5, .mov (.t 15), none, 0⟩]) (.seq (.region [⟨some 16, .mov (.t 0), none, 0⟩,
    ⟨some 17, .mov (.t 5), none, 0⟩,
    ⟨some 18, .iadS 46 (.t 16) (.t 17), none, 0⟩,
    ⟨some 19, .load true 2 (.t 18), none, 0⟩,
    ⟨some 20, .mov (.t 1), none, 0⟩,
    ⟨some 21, .mov (.t 5), none, 0⟩,
    ⟨some 22, .iadS 46 (.t 20) (.t 21), none, 0⟩,
    ⟨some 23, .load true 2 (.t 22), none, 0⟩,
    ⟨some 24, .eqs true [.num, .num] (.t 19) (.t 23), none, 0⟩]) (.cond (.t 24) (.seq (.region [⟨some 4, .mov (.c (.sc (.bool false))), none, 0⟩]) (.ret [4])) .skip)))) (.region [⟨some 25, .bin .add .num (.t 13) (.c (.sc (.int .i64 1))), none, 0⟩,
    ⟨some 13, .mov (.t 25), none, 0⟩]))))
def b115_0 : Cd := b115_0F
def g115F (c0 : Cd) : Fn := ⟨26, [.t 4], [.s], .lit,
  (.seq (.region [⟨some 4, .mov (.c (.sc (.bool false))), none, 0⟩]) (.seq (.seq (.region [⟨some 6, .mov (.t 0), none, 0⟩,
    ⟨some 7, .len false (.t 6), none, 0⟩,
    ⟨some 8, .mov (.t 1), none, 0⟩,
    ⟨some 9, .len false (.t 8), none, 0⟩,
    ⟨some 10, .bin .neq .num (.t 7) (.t 9), none, 0⟩]) (.cond (.t 10) (.seq (.region [⟨some 4, .mov (.c (.sc (.bool false))), none, 0⟩]) (.ret [4])) .skip)) (.seq (.seq (.region [⟨some 11, .mov (.t 0), none, 0⟩,
    ⟨some 12, .len false (.t 11), none, 0⟩,
    ⟨some 13, .mov (.c (.sc (.int .i64 0))), none, 0⟩]) (.block 0 (.loop [12, 0, 1, 13] c0))) (.seq (.region [⟨some 4, .mov (.c (.sc (.bool true))), none, 0⟩]) (.ret [4])))))⟩
def g115 : Fn := g115F b115_0
theorem cmp115 : cmpFn Tryd.prog .lit [1000016] 115 = some g115 := by kernel_rfl
def b116_0F : Cd := (.seq (.region [⟨some 14, .bin .lss .num (.t 13) (.t 12), none, 0⟩]) (.seq (.cond (.t 14) .skip (.exit 0 [])) (.seq (.block 1 (.seq (.region [⟨some 15, .mov (.t 13), none, 0⟩,
    ⟨some 5, .mov (.t 15), none, 0⟩]) (.seq (.region [⟨some 16, .mov (.t 0), none, 0⟩,
    ⟨some 17, .mov (.t 5), none, 0⟩,
    ⟨some 18, .iadS 41 (.t 16) (.t 17), none, 0⟩,
    ⟨some 19, .load true 2 (.t 18), none, 0⟩,
    ⟨some 20, .mov (.t 1), none, 0⟩,
    ⟨some 21, .mov (.t 5), none, 0⟩,
    ⟨some 22, .iadS 41 (.t 20) (.t 21), none, 0⟩,
    ⟨some 23, .load true 2 (.t 22), none, 0⟩,
    ⟨some 24, .eqs true [.str, .str] (.t 19) (.t 23), none, 0⟩]) (.cond (.t 24) (.seq (.region [⟨some 4, .mov (.c (.sc (.bool false))), none, 0⟩]) (.ret [4])) .skip)))) (.region [⟨some 25, .bin .add .num (.t 13) (.c (.sc (.int .i64 1))), none, 0⟩,
    ⟨some 13, .mov (.t 25), none, 0⟩]))))
def b116_0 : Cd := b116_0F
def g116F (c0 : Cd) : Fn := ⟨26, [.t 4], [.s], .lit,
  (.seq (.region [⟨some 4, .mov (.c (.sc (.bool false))), none, 0⟩]) (.seq (.seq (.region [⟨some 6, .mov (.t 0), none, 0⟩,
    ⟨some 7, .len false (.t 6), none, 0⟩,
    ⟨some 8, .mov (.t 1), none, 0⟩,
    ⟨some 9, .len false (.t 8), none, 0⟩,
    ⟨some 10, .bin .neq .num (.t 7) (.t 9), none, 0⟩]) (.cond (.t 10) (.seq (.region [⟨some 4, .mov (.c (.sc (.bool false))), none, 0⟩]) (.ret [4])) .skip)) (.seq (.seq (.region [⟨some 11, .mov (.t 0), none, 0⟩,
    ⟨some 12, .len false (.t 11), none, 0⟩,
    ⟨some 13, .mov (.c (.sc (.int .i64 0))), none, 0⟩]) (.block 0 (.loop [12, 0, 1, 13] c0))) (.seq (.region [⟨some 4, .mov (.c (.sc (.bool true))), none, 0⟩]) (.ret [4])))))⟩
def g116 : Fn := g116F b116_0
theorem cmp116 : cmpFn Tryd.prog .lit [1000016] 116 = some g116 := by kernel_rfl
def g118F : Fn := ⟨9, [.t 4], [.s], .lit,
  (.seq (.region [⟨some 4, .mov (.c (.sc (.bool false))), none, 0⟩]) (.seq (.region [⟨some 5, .mov (.t 0), none, 0⟩,
    ⟨some 6, .mov (.t 1), none, 0⟩,
    ⟨some 7, .call 36 [.l 41, .s] [.t 5, .t 6], none, 0⟩,
    ⟨some 8, .bin .geq .num (.t 7) (.c (.sc (.int .i64 0))), none, 0⟩,
    ⟨some 4, .mov (.t 8), none, 0⟩]) (.ret [4])))⟩
def g118 : Fn := g118F
theorem cmp118 : cmpFn Tryd.prog .lit [1000016] 118 = some g118 := by kernel_rfl
def g119F : Fn := ⟨7, [.t 2], [.s], .lit,
  (.seq (.region [⟨some 1, .box 41 2 (.t 0), none, 0⟩,
    ⟨some 2, .mov (.c (.sc (.bool false))), none, 0⟩]) (.seq (.region [⟨some 3, .fad (.t 1) 0, none, 0⟩,
    ⟨some 4, .load false 1 (.t 3), none, 0⟩,
    ⟨some 5, .call 35 [.s] [.t 4], none, 0⟩,
    ⟨some 6, .un .not (.t 5), none, 0⟩,
    ⟨some 2, .mov (.t 6), none, 0⟩]) (.ret [2])))⟩
def g119 : Fn := g119F
theorem cmp119 : cmpFn Tryd.prog .lit [1000016] 119 = some g119 := by kernel_rfl
def g120F : Fn := ⟨7, [.t 2], [.s], .lit,
  (.seq (.region [⟨some 1, .box 41 2 (.t 0), none, 0⟩,
    ⟨some 2, .mov (.c (.sc (.bool false))), none, 0⟩]) (.seq (.region [⟨some 3, .fad (.t 1) 1, none, 0⟩,
    ⟨some 4, .load false 1 (.t 3), none, 0⟩,
    ⟨some 5, .len true (.t 4), none, 0⟩,
    ⟨some 6, .bin .gtr .num (.t 5) (.c (.sc (.int .i64 512))), none, 0⟩,
    ⟨some 2, .mov (.t 6), none, 0⟩]) (.ret [2])))⟩
def g120 : Fn := g120F
theorem cmp120 : cmpFn Tryd.prog .lit [1000016] 120 = some g120 := by kernel_rfl
def g121F : Fn := ⟨2, [.t 0], [.l 9], .lit,
  (.seq (.region [⟨some 0, .nil 9, none, 0⟩]) (.seq (.region [⟨some 1, .bsl 9 1 (.s) [.c (.sc (.string ⟨#[63]⟩)), .c (.sc (.string ⟨#[102, 105, 110, 100]⟩)), .c (.sc (.string ⟨#[104, 111, 112]⟩)), .c (.sc (.string ⟨#[97, 115, 107]⟩)), .c (.sc (.string ⟨#[116, 101, 108, 108]⟩)), .c (.sc (.string ⟨#[110, 111, 116, 101]⟩)), .c (.sc (.string ⟨#[111, 107, 97, 121]⟩)), .c (.sc (.string ⟨#[112, 117, 116]⟩)), .c (.sc (.string ⟨#[103, 101, 116]⟩)), .c (.sc (.string ⟨#[103, 111, 116]⟩)), .c (.sc (.string ⟨#[109, 111, 118, 101]⟩)), .c (.sc (.string ⟨#[112, 105, 110, 103]⟩)), .c (.sc (.string ⟨#[110, 97, 121]⟩))], none, 0⟩,
    ⟨some 0, .mov (.t 1), none, 0⟩]) (.ret [0])))⟩
def g121 : Fn := g121F
theorem cmp121 : cmpFn Tryd.prog .lit [1000016, 1000000009] 121 = some g121 := by kernel_rfl
def b122_0F : Cd := (.seq (.seq (.region [⟨some 9, .mov (.t 6), none, 0⟩,
    ⟨some 10, .mov (.t 1), none, 0⟩,
    ⟨some 11, .bin .lss .num (.t 9) (.t 10), none, 0⟩]) (.cond (.t 11) .skip (.exit 0 [5]))) (.seq (.block 1 (.seq (.region [⟨some 14, .mov (.t 0), none, 0⟩,
    ⟨some 15, .bin .rem .num (.t 14) (.c (.sc (.int .u64 256))), none, 0⟩,
    ⟨some 16, .conv .u8 (.t 15), none, 0⟩,
    ⟨some 17, .bsl 5 1 (.s) [.t 16], none, 0⟩,
    ⟨some 18, .mov (.t 5), none, 0⟩,
    ⟨some 19, .app 5 1 (.t 17) (.t 18), none, 0⟩,
    ⟨some 5, .mov (.t 19), none, 0⟩]) (.region [⟨some 20, .mov (.t 0), none, 0⟩,
    ⟨some 21, .bin .quo .num (.t 20) (.c (.sc (.int .u64 256))), none, 0⟩,
    ⟨some 0, .mov (.t 21), none, 0⟩]))) (.region [⟨some 12, .mov (.t 6), none, 0⟩,
    ⟨some 13, .bin .add .num (.t 12) (.c (.sc (.int .i64 1))), none, 0⟩,
    ⟨some 6, .mov (.t 13), none, 0⟩])))
def b122_0 : Cd := b122_0F
def g122F (c0 : Cd) : Fn := ⟨23, [.t 4], [.l 5], .lit,
  (.seq (.region [⟨some 4, .mov (.c (.lit 0 true [])), none, 0⟩]) (.seq (.region [⟨some 5, .mov (.c (.lit 0 true [])), none, 0⟩]) (.seq (.seq (.region [⟨some 7, .mov (.t 1), none, 0⟩,
    ⟨some 8, .bin .gtr .num (.t 7) (.c (.sc (.int .i64 8))), none, 0⟩]) (.cond (.t 8) (.seq (.region [⟨some 4, .mov (.c (.lit 0 true [])), none, 0⟩]) (.ret [4])) .skip)) (.seq (.seq (.region [⟨some 6, .mov (.c (.sc (.int .i64 0))), none, 0⟩]) (.block 0 (.loop [1, 0, 6, 5] c0))) (.seq (.region [⟨some 22, .mov (.t 5), none, 0⟩,
    ⟨some 4, .mov (.t 22), none, 0⟩]) (.ret [4]))))))⟩
def g122 : Fn := g122F b122_0
theorem cmp122 : cmpFn Tryd.prog .lit [1000016] 122 = some g122 := by kernel_rfl
def g123F : Fn := ⟨22, [.t 0], [.l 118], .lit,
  (.seq (.region [⟨some 0, .nil 118, none, 0⟩]) (.seq (.region [⟨some 1, .build [.sc (.string ⟨#[]⟩), .sc (.int .i64 0), .lit 0 true []] [(0, 1, .c (.sc (.string ⟨#[63]⟩)))], none, 0⟩,
    ⟨some 2, .bsl 3 1 (.s) [.c (.sc (.int .i64 2)), .c (.sc (.int .i64 12))], none, 0⟩,
    ⟨some 3, .build [.sc (.string ⟨#[]⟩), .sc (.int .i64 0), .lit 0 true []] [(0, 1, .c (.sc (.string ⟨#[102, 105, 110, 100]⟩))), (1, 1, .c (.sc (.int .i64 4))), (2, 1, .t 2)], none, 0⟩,
    ⟨some 4, .build [.sc (.string ⟨#[]⟩), .sc (.int .i64 0), .lit 0 true []] [(0, 1, .c (.sc (.string ⟨#[104, 111, 112]⟩))), (1, 1, .c (.sc (.int .i64 18))), (2, 1, .c (.lit 0 true []))], none, 0⟩,
    ⟨some 5, .bsl 3 1 (.s) [.c (.sc (.int .i64 4))], none, 0⟩,
    ⟨some 6, .build [.sc (.string ⟨#[]⟩), .sc (.int .i64 0), .lit 0 true []] [(0, 1, .c (.sc (.string ⟨#[97, 115, 107]⟩))), (1, 1, .c (.sc (.int .i64 0))), (2, 1, .t 5)], none, 0⟩,
    ⟨some 7, .build [.sc (.string ⟨#[]⟩), .sc (.int .i64 0), .lit 0 true []] [(0, 1, .c (.sc (.string ⟨#[116, 101, 108, 108]⟩))), (1, 1, .c (.sc (.int .i64 282))), (2, 1, .c (.lit 0 true []))], none, 0⟩,
    ⟨some 8, .bsl 3 1 (.s) [.c (.sc (.int .i64 6))], none, 0⟩,
    ⟨some 9, .build [.sc (.string ⟨#[]⟩), .sc (.int .i64 0), .lit 0 true []] [(0, 1, .c (.sc (.string ⟨#[110, 111, 116, 101]⟩))), (1, 1, .c (.sc (.int .i64 8))), (2, 1, .t 8)], none, 0⟩,
    ⟨some 10, .build [.sc (.string ⟨#[]⟩), .sc (.int .i64 0), .lit 0 true []] [(0, 1, .c (.sc (.string ⟨#[111, 107, 97, 121]⟩))), (1, 1, .c (.sc (.int .i64 0))), (2, 1, .c (.lit 0 true []))], none, 0⟩,
    ⟨some 11, .bsl 3 1 (.s) [.c (.sc (.int .i64 6)), .c (.sc (.int .i64 12))], none, 0⟩,
    ⟨some 12, .build [.sc (.string ⟨#[]⟩), .sc (.int .i64 0), .lit 0 true []] [(0, 1, .c (.sc (.string ⟨#[112, 117, 116]⟩))), (1, 1, .c (.sc (.int .i64 96))), (2, 1, .t 11)], none, 0⟩,
    ⟨some 13, .bsl 3 1 (.s) [.c (.sc (.int .i64 9)), .c (.sc (.int .i64 12))], none, 0⟩,
    ⟨some 14, .build [.sc (.string ⟨#[]⟩), .sc (.int .i64 0), .lit 0 true []] [(0, 1, .c (.sc (.string ⟨#[103, 101, 116]⟩))), (1, 1, .c (.sc (.int .i64 32))), (2, 1, .t 13)], none, 0⟩,
    ⟨some 15, .build [.sc (.string ⟨#[]⟩), .sc (.int .i64 0), .lit 0 true []] [(0, 1, .c (.sc (.string ⟨#[103, 111, 116]⟩))), (1, 1, .c (.sc (.int .i64 322))), (2, 1, .c (.lit 0 true []))], none, 0⟩,
    ⟨some 16, .bsl 3 1 (.s) [.c (.sc (.int .i64 6))], none, 0⟩,
    ⟨some 17, .build [.sc (.string ⟨#[]⟩), .sc (.int .i64 0), .lit 0 true []] [(0, 1, .c (.sc (.string ⟨#[109, 111, 118, 101]⟩))), (1, 1, .c (.sc (.int .i64 130))), (2, 1, .t 16)], none, 0⟩,
    ⟨some 18, .bsl 3 1 (.s) [.c (.sc (.int .i64 6))], none, 0⟩,
    ⟨some 19, .build [.sc (.string ⟨#[]⟩), .sc (.int .i64 0), .lit 0 true []] [(0, 1, .c (.sc (.string ⟨#[112, 105, 110, 103]⟩))), (1, 1, .c (.sc (.int .i64 0))), (2, 1, .t 18)], none, 0⟩,
    ⟨some 20, .build [.sc (.string ⟨#[]⟩), .sc (.int .i64 0), .lit 0 true []] [(0, 1, .c (.sc (.string ⟨#[110, 97, 121]⟩))), (1, 1, .c (.sc (.int .i64 1))), (2, 1, .c (.lit 0 true []))], none, 0⟩,
    ⟨some 21, .bsl 118 3 (.a [.s, .s, .l 3]) [.t 1, .t 3, .t 4, .t 6, .t 7, .t 9, .t 10, .t 12, .t 14, .t 15, .t 17, .t 19, .t 20], none, 0⟩,
    ⟨some 0, .mov (.t 21), none, 0⟩]) (.ret [0])))⟩
def g123 : Fn := g123F
theorem cmp123 : cmpFn Tryd.prog .lit [1000016, 1000000118] 123 = some g123 := by kernel_rfl
def g124F : Fn := ⟨18, [.t 4], [.s], .mv,
  (.seq (.region [⟨some 4, .mov (.c (.sc (.int .i64 0))), none, 0⟩]) (.seq (.region [⟨some 6, .mov (.t 0), none, 0⟩,
    ⟨some 7, .call 60 [.s, .s] [.t 6, .c (.sc (.int .i64 1))], none, 0⟩,
    ⟨some 8, .conv .i64 (.t 7), none, 0⟩,
    ⟨some 5, .mov (.t 8), none, 0⟩]) (.seq (.seq (.region [⟨some 9, .mov (.t 5), none, 0⟩,
    ⟨some 10, .mov (.t 1), none, 0⟩,
    ⟨some 11, .bin .gtr .num (.t 9) (.t 10), none, 0⟩]) (.cond (.t 11) (.region [⟨some 12, .mov (.t 0), none, 0⟩,
    ⟨some 13, .call 62 [.s, .s] [.t 12, .c (.sc (.int .i64 5))], none, 0⟩]) .skip)) (.seq (.seq (.region [⟨some 14, .mov (.t 0), none, 0⟩,
    ⟨some 15, .call 108 [.s] [.t 14], none, 0⟩,
    ⟨some 16, .bin .neq .num (.t 15) (.c (.sc (.int .i64 0))), none, 0⟩]) (.cond (.t 16) (.seq (.region [⟨some 4, .mov (.c (.sc (.int .i64 0))), none, 0⟩]) (.ret [4])) .skip)) (.seq (.region [⟨some 17, .mov (.t 5), none, 0⟩,
    ⟨some 4, .mov (.t 17), none, 0⟩]) (.ret [4]))))))⟩
def g124 : Fn := g124F
theorem cmp124 : cmpFn Tryd.prog .mv [1000016] 124 = some g124 := by kernel_rfl
def g125F : Fn := ⟨18, [.t 4], [.l 5], .mv,
  (.seq (.region [⟨some 4, .nil 5, none, 0⟩]) (.seq (.seq (.region [⟨some 5, .mov (.t 0), none, 0⟩,
    ⟨some 6, .call 99 [.s] [.t 5], none, 0⟩]) (.cond (.t 6) (.seq (.region [⟨some 4, .nil 5, none, 0⟩]) (.ret [4])) .skip)) (.seq (.seq (.region [⟨some 7, .mov (.t 1), none, 0⟩,
    ⟨some 8, .bin .lss .num (.t 7) (.c (.sc (.int .i64 0))), none, 0⟩]) (.cond (.t 8) (.seq (.region [⟨some 9, .mov (.t 0), none, 0⟩,
    ⟨some 10, .nck (.t 9), none, 0⟩,
    ⟨some 11, .fad (.t 10) 2, none, 0⟩,
    ⟨none, .store 1 (.t 11) (.c (.sc (.int .i64 1))), none, 0⟩]) (.seq (.region [⟨some 4, .nil 5, none, 0⟩]) (.ret [4]))) .skip)) (.seq (.seq (.region [⟨some 12, .mov (.t 0), none, 0⟩,
    ⟨some 13, .mov (.t 1), none, 0⟩,
    ⟨some 14, .call 100 [.s, .s] [.t 12, .t 13], none, 0⟩]) (.cond (.t 14) (.seq (.region [⟨some 4, .nil 5, none, 0⟩]) (.ret [4])) .skip)) (.seq (.region [⟨some 15, .mov (.t 0), none, 0⟩,
    ⟨some 16, .mov (.t 1), none, 0⟩,
    ⟨some 17, .call 101 [.s, .s] [.t 15, .t 16], none, 0⟩,
    ⟨some 4, .mov (.t 17), none, 0⟩]) (.ret [4]))))))⟩
def g125 : Fn := g125F
theorem cmp125 : cmpFn Tryd.prog .mv [1000016, 1000400005] 125 = some g125 := by kernel_rfl
def g128F : Fn := ⟨9, [.t 2], [.s], .lit,
  (.seq (.region [⟨some 2, .mov (.c (.sc (.bool false))), none, 0⟩]) (.seq (.region [⟨some 3, .mov (.t 0), none, 0⟩,
    ⟨some 4, .bin .geq .num (.t 3) (.c (.sc (.int .u8 128))), none, 0⟩,
    ⟨some 5, .mov (.t 4), none, 0⟩,
    ⟨some 6, .mov (.t 0), some (5, true), 0⟩,
    ⟨some 7, .bin .leq .num (.t 6) (.c (.sc (.int .u8 191))), some (5, true), 0⟩,
    ⟨some 8, .pick (.t 5) (.t 7) (.c (.sc (.bool false))), none, 0⟩,
    ⟨some 2, .mov (.t 8), none, 0⟩]) (.ret [2])))⟩
def g128 : Fn := g128F
theorem cmp128 : cmpFn Tryd.prog .lit [1000016] 128 = some g128 := by kernel_rfl
end Go.Ab.Tryd
namespace Go.Ab.Tryd
open Go Go.Ab Go.Proofs
def F : FuncId → Option Fn
  | 7 => some g7
  | 8 => some g8
  | 9 => some g9
  | 16 => some g16
  | 26 => some g26
  | 27 => some g27
  | 28 => some g28
  | 29 => some g29
  | 30 => some g30
  | 31 => some g31
  | 32 => some g32
  | 35 => some g35
  | 36 => some g36
  | 39 => some g39
  | 50 => some g50
  | 51 => some g51
  | 52 => some g52
  | 53 => some g53
  | 54 => some g54
  | 55 => some g55
  | 56 => some g56
  | 57 => some g57
  | 58 => some g58
  | 59 => some g59
  | 60 => some g60
  | 61 => some g61
  | 62 => some g62
  | 63 => some g63
  | 64 => some g64
  | 65 => some g65
  | 66 => some g66
  | 67 => some g67
  | 68 => some g68
  | 69 => some g69
  | 70 => some g70
  | 71 => some g71
  | 72 => some g72
  | 74 => some g74
  | 75 => some g75
  | 78 => some g78
  | 79 => some g79
  | 85 => some g85
  | 86 => some g86
  | 87 => some g87
  | 88 => some g88
  | 89 => some g89
  | 90 => some g90
  | 91 => some g91
  | 92 => some g92
  | 93 => some g93
  | 94 => some g94
  | 95 => some g95
  | 96 => some g96
  | 97 => some g97
  | 99 => some g99
  | 100 => some g100
  | 101 => some g101
  | 102 => some g102
  | 103 => some g103
  | 104 => some g104
  | 105 => some g105
  | 106 => some g106
  | 107 => some g107
  | 108 => some g108
  | 109 => some g109
  | 110 => some g110
  | 111 => some g111
  | 113 => some g113
  | 115 => some g115
  | 116 => some g116
  | 118 => some g118
  | 119 => some g119
  | 120 => some g120
  | 121 => some g121
  | 122 => some g122
  | 123 => some g123
  | 124 => some g124
  | 125 => some g125
  | 128 => some g128
  | _ => none
theorem F_ok : ∀ f fn, F f = some fn → ∃ md fz, cmpFn Tryd.prog md fz f = some fn := by
  intro f fn h
  unfold F at h
  split at h
  · cases h; exact ⟨_, _, cmp7⟩
  · cases h; exact ⟨_, _, cmp8⟩
  · cases h; exact ⟨_, _, cmp9⟩
  · cases h; exact ⟨_, _, cmp16⟩
  · cases h; exact ⟨_, _, cmp26⟩
  · cases h; exact ⟨_, _, cmp27⟩
  · cases h; exact ⟨_, _, cmp28⟩
  · cases h; exact ⟨_, _, cmp29⟩
  · cases h; exact ⟨_, _, cmp30⟩
  · cases h; exact ⟨_, _, cmp31⟩
  · cases h; exact ⟨_, _, cmp32⟩
  · cases h; exact ⟨_, _, cmp35⟩
  · cases h; exact ⟨_, _, cmp36⟩
  · cases h; exact ⟨_, _, cmp39⟩
  · cases h; exact ⟨_, _, cmp50⟩
  · cases h; exact ⟨_, _, cmp51⟩
  · cases h; exact ⟨_, _, cmp52⟩
  · cases h; exact ⟨_, _, cmp53⟩
  · cases h; exact ⟨_, _, cmp54⟩
  · cases h; exact ⟨_, _, cmp55⟩
  · cases h; exact ⟨_, _, cmp56⟩
  · cases h; exact ⟨_, _, cmp57⟩
  · cases h; exact ⟨_, _, cmp58⟩
  · cases h; exact ⟨_, _, cmp59⟩
  · cases h; exact ⟨_, _, cmp60⟩
  · cases h; exact ⟨_, _, cmp61⟩
  · cases h; exact ⟨_, _, cmp62⟩
  · cases h; exact ⟨_, _, cmp63⟩
  · cases h; exact ⟨_, _, cmp64⟩
  · cases h; exact ⟨_, _, cmp65⟩
  · cases h; exact ⟨_, _, cmp66⟩
  · cases h; exact ⟨_, _, cmp67⟩
  · cases h; exact ⟨_, _, cmp68⟩
  · cases h; exact ⟨_, _, cmp69⟩
  · cases h; exact ⟨_, _, cmp70⟩
  · cases h; exact ⟨_, _, cmp71⟩
  · cases h; exact ⟨_, _, cmp72⟩
  · cases h; exact ⟨_, _, cmp74⟩
  · cases h; exact ⟨_, _, cmp75⟩
  · cases h; exact ⟨_, _, cmp78⟩
  · cases h; exact ⟨_, _, cmp79⟩
  · cases h; exact ⟨_, _, cmp85⟩
  · cases h; exact ⟨_, _, cmp86⟩
  · cases h; exact ⟨_, _, cmp87⟩
  · cases h; exact ⟨_, _, cmp88⟩
  · cases h; exact ⟨_, _, cmp89⟩
  · cases h; exact ⟨_, _, cmp90⟩
  · cases h; exact ⟨_, _, cmp91⟩
  · cases h; exact ⟨_, _, cmp92⟩
  · cases h; exact ⟨_, _, cmp93⟩
  · cases h; exact ⟨_, _, cmp94⟩
  · cases h; exact ⟨_, _, cmp95⟩
  · cases h; exact ⟨_, _, cmp96⟩
  · cases h; exact ⟨_, _, cmp97⟩
  · cases h; exact ⟨_, _, cmp99⟩
  · cases h; exact ⟨_, _, cmp100⟩
  · cases h; exact ⟨_, _, cmp101⟩
  · cases h; exact ⟨_, _, cmp102⟩
  · cases h; exact ⟨_, _, cmp103⟩
  · cases h; exact ⟨_, _, cmp104⟩
  · cases h; exact ⟨_, _, cmp105⟩
  · cases h; exact ⟨_, _, cmp106⟩
  · cases h; exact ⟨_, _, cmp107⟩
  · cases h; exact ⟨_, _, cmp108⟩
  · cases h; exact ⟨_, _, cmp109⟩
  · cases h; exact ⟨_, _, cmp110⟩
  · cases h; exact ⟨_, _, cmp111⟩
  · cases h; exact ⟨_, _, cmp113⟩
  · cases h; exact ⟨_, _, cmp115⟩
  · cases h; exact ⟨_, _, cmp116⟩
  · cases h; exact ⟨_, _, cmp118⟩
  · cases h; exact ⟨_, _, cmp119⟩
  · cases h; exact ⟨_, _, cmp120⟩
  · cases h; exact ⟨_, _, cmp121⟩
  · cases h; exact ⟨_, _, cmp122⟩
  · cases h; exact ⟨_, _, cmp123⟩
  · cases h; exact ⟨_, _, cmp124⟩
  · cases h; exact ⟨_, _, cmp125⟩
  · cases h; exact ⟨_, _, cmp128⟩
  · cases h
end Go.Ab.Tryd
