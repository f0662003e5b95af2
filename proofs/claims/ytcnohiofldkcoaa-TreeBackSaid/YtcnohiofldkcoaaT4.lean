/- What the functions of chapter 11 come to, way by way: printed by a program. -/
import Derived.Test.YtcnohiofldkcoaaTreeF
namespace Go.Ab.Try
open Go Go.Proofs
set_option linter.unusedVariables false
set_option maxRecDepth 10000
section
variable {iadd isub imul iquo : IntKind → Int → Int → Int} {irem : Int → Int → Int} {ibit : BinOp → IntKind → Int → Int → Int} {ishl ishr : IntKind → Int → Int → Int} {iwrap : IntKind → Int → Int}
  {ieq ilt ile : Int → Int → Bool} {beq : Bool → Bool → Bool} {seq slt : ByteArray → ByteArray → Bool} {sapp : ByteArray → ByteArray → Option ByteArray} {slen : ByteArray → Int} {sget : ByteArray → Int → Option Int} {ssub : ByteArray → Int → Int → Option ByteArray}
  {llen : List AV → Int} {lget : List AV → Int → Option AV} {lset : List AV → Int → AV → List AV} {lapp : List AV → List AV → List AV} {lsub : List AV → Int → Int → Option (List AV)} {room : Nat → List AV → List AV → Bool}
  {call : FuncId → List AV → Store → Option (AV × Store)} {loop : List Nat → Nat → Cd → St → Option (X × St)} {prim : FuncId → Option Prim}

theorem p39_0 (c0 : Cd) (x0_kind : Int) (x0_n : Int) (x0_s : ByteArray) (x0_keys : List AV) (x0_kids : List AV) (e3ao : List AV) (hp49 : prim 49 = some (.clone 9 16)) (hp50 : prim 50 = some (.clone 32 80)) (h1 : room 16 [] x0_keys = true) (h2 : room 80 [] x0_kids = true) (h3 : loop [14, 15, 1, 2] 4 c0 ⟨[.bad, .bptr 0 0, .bptr 1 0, .bad, .bad, .bad, .bad, .bad, .bad, .bad, .bad, .bad, .bad, .bad, .sc (.int .i64 (llen x0_kids)), .sc (.int .i64 0), .bad, .bad, .bad, .bad, .bad, .bad, .bad, .bad, .bad, .bad, .bad, .bad, .bad, .bad], [.box 32 [.sc (.int .i64 x0_kind), .sc (.int .i64 x0_n), .sc (.string x0_s), .sl 2 0, .sl 3 0], .box 32 [.sc (.int .i64 0), .sc (.int .i64 0), .sc (.string ⟨#[]⟩), .lit 0 true [], .lit 0 true []], .row 9 0 false x0_keys, .row 32 0 false x0_kids]⟩ = some (.brk 0, ⟨[.bad, .bptr 0 0, .bptr 1 0, .bad, .bad, .bad, .bad, .bad, .bad, .bad, .bad, .bad, .bad, .bad, .bad, .bad, .bad, .bad, .bad, .bad, .bad, .bad, .bad, .bad, .bad, .bad, .bad, .bad, .bad, .bad], [.box 32 [.sc (.int .i64 x0_kind), .sc (.int .i64 x0_n), .sc (.string x0_s), .sl 2 0, .sl 3 0], .box 32 [.sc (.int .i64 0), .sc (.int .i64 0), .sc (.string ⟨#[]⟩), .lit 0 true [], .lit 0 true []], .row 9 0 false x0_keys, .row 32 0 false e3ao]⟩)) : runFn ⟨⟨iadd, isub, imul, iquo, irem, ibit, ishl, ishr, iwrap, ieq, ilt, ile, beq, seq, slt, sapp, slen, sget, ssub, llen, lget, lset, lapp, lsub, room⟩, call, loop, prim⟩ (g39F c0) [.agg [.sc (.int .i64 x0_kind), .sc (.int .i64 x0_n), .sc (.string x0_s), .lit 9 false x0_keys, .lit 32 false x0_kids]] [] = some (.agg [.sc (.int .i64 x0_kind), .sc (.int .i64 x0_n), .sc (.string x0_s), .sl 0 0, .sl 1 0], [.row 9 0 false x0_keys, .row 32 0 false e3ao]) := by
  cbv
  all_goals (try rw [hp49])
  all_goals (try cbv)
  all_goals (try rw [h1])
  all_goals (try cbv)
  all_goals (try rw [hp50])
  all_goals (try cbv)
  all_goals (try rw [h2])
  all_goals (try cbv)
  all_goals (try rw [h3])
  all_goals (try cbv)

theorem r39_0_0_0 (x0_kind : Int) (x0_n : Int) (x0_s : ByteArray) (x0_keys : List AV) (x0_kids : List AV) (t15 : Int) (e3a : List AV) (x_kind : Int) (x_n : Int) (x_s : ByteArray) (x_keys : List AV) (x_kids : List AV) (r_kind : Int) (r_n : Int) (r_s : ByteArray) (r_keys : List AV) (r_kids : List AV) (hp39 : prim 39 = none) (h1 : ilt t15 (llen x0_kids) = true) (h2 : lget e3a t15 = some (.agg [.sc (.int .i64 x_kind), .sc (.int .i64 x_n), .sc (.string x_s), .lit 9 false x_keys, .lit 32 false x_kids])) (h3 : call 39 [.agg [.sc (.int .i64 x_kind), .sc (.int .i64 x_n), .sc (.string x_s), .lit 9 false x_keys, .lit 32 false x_kids]] [] = some (.agg [.sc (.int .i64 r_kind), .sc (.int .i64 r_n), .sc (.string r_s), .sl 0 0, .sl 1 0], [.row 9 0 false r_keys, .row 32 0 false r_kids])) : Ifc.round ⟨⟨iadd, isub, imul, iquo, irem, ibit, ishl, ishr, iwrap, ieq, ilt, ile, beq, seq, slt, sapp, slen, sget, ssub, llen, lget, lset, lapp, lsub, room⟩, call, loop, prim⟩ [14, 15, 1, 2] 4 (b39_0F) ⟨[.bad, .bptr 0 0, .bptr 1 0, .bad, .bad, .bad, .bad, .bad, .bad, .bad, .bad, .bad, .bad, .bad, .sc (.int .i64 (llen x0_kids)), .sc (.int .i64 t15), .bad, .bad, .bad, .bad, .bad, .bad, .bad, .bad, .bad, .bad, .bad, .bad, .bad, .bad], [.box 32 [.sc (.int .i64 x0_kind), .sc (.int .i64 x0_n), .sc (.string x0_s), .sl 2 0, .sl 3 0], .box 32 [.sc (.int .i64 0), .sc (.int .i64 0), .sc (.string ⟨#[]⟩), .lit 0 true [], .lit 0 true []], .row 9 0 false x0_keys, .row 32 0 false e3a]⟩ = loop [14, 15, 1, 2] 4 (b39_0F) ⟨[.bad, .bptr 0 0, .bptr 1 0, .bad, .bad, .bad, .bad, .bad, .bad, .bad, .bad, .bad, .bad, .bad, .sc (.int .i64 (llen x0_kids)), .sc (.int .i64 (iadd .i64 t15 1)), .bad, .bad, .bad, .bad, .bad, .bad, .bad, .bad, .bad, .bad, .bad, .bad, .bad, .bad], [.box 32 [.sc (.int .i64 x0_kind), .sc (.int .i64 x0_n), .sc (.string x0_s), .sl 2 0, .sl 3 0], .box 32 [.sc (.int .i64 0), .sc (.int .i64 0), .sc (.string ⟨#[]⟩), .lit 0 true [], .lit 0 true []], .row 9 0 false x0_keys, .row 32 0 false (lset e3a t15 (.agg [.sc (.int .i64 r_kind), .sc (.int .i64 r_n), .sc (.string r_s), .lit 9 false r_keys, .lit 32 false r_kids]))]⟩ := by
  cbv
  all_goals (try rw [h1])
  all_goals (try cbv)
  all_goals (try rw [h2])
  all_goals (try cbv)
  all_goals (try rw [h2])
  all_goals (try cbv)
  all_goals (try rw [hp39])
  all_goals (try cbv)
  all_goals (try rw [h3])
  all_goals (try cbv)
  all_goals (try rw [h2])
  all_goals (try cbv)
  all_goals (try rw [h2])
  all_goals (try cbv)

theorem r39_0_0_1 (x0_kind : Int) (x0_n : Int) (x0_s : ByteArray) (x0_keys : List AV) (x0_kids : List AV) (t15 : Int) (e3a : List AV) (h1 : ilt t15 (llen x0_kids) = false) : Ifc.round ⟨⟨iadd, isub, imul, iquo, irem, ibit, ishl, ishr, iwrap, ieq, ilt, ile, beq, seq, slt, sapp, slen, sget, ssub, llen, lget, lset, lapp, lsub, room⟩, call, loop, prim⟩ [14, 15, 1, 2] 4 (b39_0F) ⟨[.bad, .bptr 0 0, .bptr 1 0, .bad, .bad, .bad, .bad, .bad, .bad, .bad, .bad, .bad, .bad, .bad, .sc (.int .i64 (llen x0_kids)), .sc (.int .i64 t15), .bad, .bad, .bad, .bad, .bad, .bad, .bad, .bad, .bad, .bad, .bad, .bad, .bad, .bad], [.box 32 [.sc (.int .i64 x0_kind), .sc (.int .i64 x0_n), .sc (.string x0_s), .sl 2 0, .sl 3 0], .box 32 [.sc (.int .i64 0), .sc (.int .i64 0), .sc (.string ⟨#[]⟩), .lit 0 true [], .lit 0 true []], .row 9 0 false x0_keys, .row 32 0 false e3a]⟩ = some (.brk 0, ⟨[.bad, .bptr 0 0, .bptr 1 0, .bad, .bad, .bad, .bad, .bad, .bad, .bad, .bad, .bad, .bad, .bad, .bad, .bad, .bad, .bad, .bad, .bad, .bad, .bad, .bad, .bad, .bad, .bad, .bad, .bad, .bad, .bad], [.box 32 [.sc (.int .i64 x0_kind), .sc (.int .i64 x0_n), .sc (.string x0_s), .sl 2 0, .sl 3 0], .box 32 [.sc (.int .i64 0), .sc (.int .i64 0), .sc (.string ⟨#[]⟩), .lit 0 true [], .lit 0 true []], .row 9 0 false x0_keys, .row 32 0 false e3a]⟩) := by
  cbv
  all_goals (try rw [h1])
  all_goals (try cbv)

theorem p27_0 (c0 : Cd) (x0_kind : Int) (x0_n : Int) (x0_s : ByteArray) (x0_keys : List AV) (x0_kids : List AV) (x1 : ByteArray) (x2_kind : Int) (x2_n : Int) (x2_s : ByteArray) (x2_keys : List AV) (x2_kids : List AV) (r : Int) (x_kind : Int) (x_n : Int) (x_s : ByteArray) (x_keys : List AV) (x_kids : List AV) (hp40 : prim 40 = none) (h1 : ieq x0_kind 4 = true) (h2 : ieq (llen x0_keys) (llen x0_kids) = true) (h3 : call 40 [.lit 9 false x0_keys, .sc (.string x1)] [] = some (.sc (.int .i64 r), [])) (h4 : ilt r (llen x0_keys) = true) (h5 : room 80 [] x0_kids = true) (h6 : lget x0_kids r = some (.agg [.sc (.int .i64 x_kind), .sc (.int .i64 x_n), .sc (.string x_s), .lit 9 false x_keys, .lit 32 false x_kids])) : runFn ⟨⟨iadd, isub, imul, iquo, irem, ibit, ishl, ishr, iwrap, ieq, ilt, ile, beq, seq, slt, sapp, slen, sget, ssub, llen, lget, lset, lapp, lsub, room⟩, call, loop, prim⟩ (g27F c0) [.agg [.sc (.int .i64 x0_kind), .sc (.int .i64 x0_n), .sc (.string x0_s), .lit 9 false x0_keys, .lit 32 false x0_kids], .sc (.string x1), .agg [.sc (.int .i64 x2_kind), .sc (.int .i64 x2_n), .sc (.string x2_s), .lit 9 false x2_keys, .lit 32 false x2_kids]] [] = some (.agg [.sc (.int .i64 x0_kind), .sc (.int .i64 x0_n), .sc (.string x0_s), .lit 9 false x0_keys, .lit 32 false (lset x0_kids r (.agg [.sc (.int .i64 x2_kind), .sc (.int .i64 x2_n), .sc (.string x2_s), .lit 9 false x2_keys, .lit 32 false x2_kids]))], []) := by
  cbv
  all_goals (try rw [h1])
  all_goals (try cbv)
  all_goals (try rw [h2])
  all_goals (try cbv)
  all_goals (try rw [hp40])
  all_goals (try cbv)
  all_goals (try rw [h3])
  all_goals (try cbv)
  all_goals (try rw [h4])
  all_goals (try cbv)
  all_goals (try rw [h5])
  all_goals (try cbv)
  all_goals (try rw [h6])
  all_goals (try cbv)
  all_goals (try rw [h6])
  all_goals (try cbv)

theorem p27_1 (c0 : Cd) (x0_kind : Int) (x0_n : Int) (x0_s : ByteArray) (x0_keys : List AV) (x0_kids : List AV) (x1 : ByteArray) (x2_kind : Int) (x2_n : Int) (x2_s : ByteArray) (x2_keys : List AV) (x2_kids : List AV) (r : Int) (t7o : Int) (ys : List AV) (ys1 : List AV) (ys2 : List AV) (ys3 : List AV) (hp40 : prim 40 = none) (h1 : ieq x0_kind 4 = true) (h2 : ieq (llen x0_keys) (llen x0_kids) = true) (h3 : call 40 [.lit 9 false x0_keys, .sc (.string x1)] [] = some (.sc (.int .i64 r), [])) (h4 : ilt r (llen x0_keys) = false) (h5 : loop [1, 5, 7, 3, 6] 3 c0 ⟨[.bad, .sc (.string x1), .bad, .bptr 0 0, .bad, .bptr 1 0, .bptr 2 0, .sc (.int .i64 0), .bad, .bad, .bad, .bad, .bad, .bad, .bad, .bad, .bad, .bad, .bad, .bad, .bad, .bad, .bad, .bad, .bad, .bad, .bad, .bad, .bad, .bad, .bad, .bad, .bad, .bad, .bad, .bad, .bad, .bad, .bad, .bad, .bad, .bad, .bad, .bad, .bad, .bad, .bad, .bad, .bad, .bad, .bad, .bad, .bad, .bad, .bad, .bad, .bad, .bad, .bad, .bad, .bad, .bad, .bad, .bad, .bad, .bad, .bad, .bad, .bad, .bad, .bad, .bad, .bad, .bad, .bad, .bad, .bad, .bad, .bad, .bad, .bad, .bad, .bad, .bad, .bad, .bad, .bad, .bad, .bad, .bad, .bad, .bad, .bad, .bad, .bad], [.box 32 [.sc (.int .i64 x0_kind), .sc (.int .i64 x0_n), .sc (.string x0_s), .lit 9 false x0_keys, .lit 32 false x0_kids], .box 32 [.sc (.int .i64 x2_kind), .sc (.int .i64 x2_n), .sc (.string x2_s), .lit 9 false x2_keys, .lit 32 false x2_kids], .box 32 [.sc (.int .i64 0), .sc (.int .i64 0), .sc (.string ⟨#[]⟩), .lit 0 true [], .lit 0 true []]]⟩ = some (.brk 0, ⟨[.bad, .sc (.string x1), .bad, .bptr 0 0, .bad, .bptr 1 0, .bptr 2 0, .sc (.int .i64 t7o), .bad, .bad, .bad, .bad, .bad, .bad, .bad, .bad, .bad, .bad, .bad, .bad, .bad, .bad, .bad, .bad, .bad, .bad, .bad, .bad, .bad, .bad, .bad, .bad, .bad, .bad, .bad, .bad, .bad, .bad, .bad, .bad, .bad, .bad, .bad, .bad, .bad, .bad, .bad, .bad, .bad, .bad, .bad, .bad, .bad, .bad, .bad, .bad, .bad, .bad, .bad, .bad, .bad, .bad, .bad, .bad, .bad, .bad, .bad, .bad, .bad, .bad, .bad, .bad, .bad, .bad, .bad, .bad, .bad, .bad, .bad, .bad, .bad, .bad, .bad, .bad, .bad, .bad, .bad, .bad, .bad, .bad, .bad, .bad, .bad, .bad, .bad], [.box 32 [.sc (.int .i64 x0_kind), .sc (.int .i64 x0_n), .sc (.string x0_s), .lit 9 false x0_keys, .lit 32 false x0_kids], .box 32 [.sc (.int .i64 x2_kind), .sc (.int .i64 x2_n), .sc (.string x2_s), .lit 9 false x2_keys, .lit 32 false x2_kids], .box 32 [.sc (.int .i64 0), .sc (.int .i64 0), .sc (.string ⟨#[]⟩), .lit 0 true [], .lit 0 true []]]⟩)) (h6 : lsub x0_keys 0 t7o = some ys) (h7 : room 16 [] ys = true) (h8 : room 16 ys [.sc (.string x1)] = true) (h9 : lsub x0_kids 0 t7o = some ys1) (h10 : room 80 [] ys1 = true) (h11 : room 80 ys1 [.agg [.sc (.int .i64 x2_kind), .sc (.int .i64 x2_n), .sc (.string x2_s), .lit 9 false x2_keys, .lit 32 false x2_kids]] = true) (h12 : lsub x0_keys t7o (llen x0_keys) = some ys2) (h13 : room 16 (lapp ys [.sc (.string x1)]) ys2 = true) (h14 : lsub x0_kids t7o (llen x0_kids) = some ys3) (h15 : room 80 (lapp ys1 [.agg [.sc (.int .i64 x2_kind), .sc (.int .i64 x2_n), .sc (.string x2_s), .lit 9 false x2_keys, .lit 32 false x2_kids]]) ys3 = true) : runFn ⟨⟨iadd, isub, imul, iquo, irem, ibit, ishl, ishr, iwrap, ieq, ilt, ile, beq, seq, slt, sapp, slen, sget, ssub, llen, lget, lset, lapp, lsub, room⟩, call, loop, prim⟩ (g27F c0) [.agg [.sc (.int .i64 x0_kind), .sc (.int .i64 x0_n), .sc (.string x0_s), .lit 9 false x0_keys, .lit 32 false x0_kids], .sc (.string x1), .agg [.sc (.int .i64 x2_kind), .sc (.int .i64 x2_n), .sc (.string x2_s), .lit 9 false x2_keys, .lit 32 false x2_kids]] [] = some (.agg [.sc (.int .i64 x0_kind), .sc (.int .i64 x0_n), .sc (.string x0_s), .lit 9 false (lapp (lapp ys [.sc (.string x1)]) ys2), .lit 32 false (lapp (lapp ys1 [.agg [.sc (.int .i64 x2_kind), .sc (.int .i64 x2_n), .sc (.string x2_s), .lit 9 false x2_keys, .lit 32 false x2_kids]]) ys3)], []) := by
  cbv
  all_goals (try rw [h1])
  all_goals (try cbv)
  all_goals (try rw [h2])
  all_goals (try cbv)
  all_goals (try rw [hp40])
  all_goals (try cbv)
  all_goals (try rw [h3])
  all_goals (try cbv)
  all_goals (try rw [h4])
  all_goals (try cbv)
  all_goals (try rw [h5])
  all_goals (try cbv)
  all_goals (try rw [h6])
  all_goals (try cbv)
  all_goals (try rw [h7])
  all_goals (try cbv)
  all_goals (try rw [h8])
  all_goals (try cbv)
  all_goals (try rw [h9])
  all_goals (try cbv)
  all_goals (try rw [h10])
  all_goals (try cbv)
  all_goals (try rw [h11])
  all_goals (try cbv)
  all_goals (try rw [h12])
  all_goals (try cbv)
  all_goals (try rw [h13])
  all_goals (try cbv)
  all_goals (try rw [h14])
  all_goals (try cbv)
  all_goals (try rw [h15])
  all_goals (try cbv)

theorem p27_2 (c0 : Cd) (x0_kind : Int) (x0_n : Int) (x0_s : ByteArray) (x0_keys : List AV) (x0_kids : List AV) (x1 : ByteArray) (x2_kind : Int) (x2_n : Int) (x2_s : ByteArray) (x2_keys : List AV) (x2_kids : List AV) (h1 : ieq x0_kind 4 = true) (h2 : ieq (llen x0_keys) (llen x0_kids) = false) : runFn ⟨⟨iadd, isub, imul, iquo, irem, ibit, ishl, ishr, iwrap, ieq, ilt, ile, beq, seq, slt, sapp, slen, sget, ssub, llen, lget, lset, lapp, lsub, room⟩, call, loop, prim⟩ (g27F c0) [.agg [.sc (.int .i64 x0_kind), .sc (.int .i64 x0_n), .sc (.string x0_s), .lit 9 false x0_keys, .lit 32 false x0_kids], .sc (.string x1), .agg [.sc (.int .i64 x2_kind), .sc (.int .i64 x2_n), .sc (.string x2_s), .lit 9 false x2_keys, .lit 32 false x2_kids]] [] = some (.agg [.sc (.int .i64 x0_kind), .sc (.int .i64 x0_n), .sc (.string x0_s), .lit 9 false x0_keys, .lit 32 false x0_kids], []) := by
  cbv
  all_goals (try rw [h1])
  all_goals (try cbv)
  all_goals (try rw [h2])
  all_goals (try cbv)

theorem p27_3 (c0 : Cd) (x0_kind : Int) (x0_n : Int) (x0_s : ByteArray) (x0_keys : List AV) (x0_kids : List AV) (x1 : ByteArray) (x2_kind : Int) (x2_n : Int) (x2_s : ByteArray) (x2_keys : List AV) (x2_kids : List AV) (h1 : ieq x0_kind 4 = false) : runFn ⟨⟨iadd, isub, imul, iquo, irem, ibit, ishl, ishr, iwrap, ieq, ilt, ile, beq, seq, slt, sapp, slen, sget, ssub, llen, lget, lset, lapp, lsub, room⟩, call, loop, prim⟩ (g27F c0) [.agg [.sc (.int .i64 x0_kind), .sc (.int .i64 x0_n), .sc (.string x0_s), .lit 9 false x0_keys, .lit 32 false x0_kids], .sc (.string x1), .agg [.sc (.int .i64 x2_kind), .sc (.int .i64 x2_n), .sc (.string x2_s), .lit 9 false x2_keys, .lit 32 false x2_kids]] [] = some (.agg [.sc (.int .i64 x0_kind), .sc (.int .i64 x0_n), .sc (.string x0_s), .lit 9 false x0_keys, .lit 32 false x0_kids], []) := by
  cbv
  all_goals (try rw [h1])
  all_goals (try cbv)

theorem r27_0_0_0 (x0_kind : Int) (x0_n : Int) (x0_s : ByteArray) (x0_keys : List AV) (x0_kids : List AV) (x1 : ByteArray) (x2_kind : Int) (x2_n : Int) (x2_s : ByteArray) (x2_keys : List AV) (x2_kids : List AV) (t7 : Int) (x : ByteArray) (r1 : Bool) (hp46 : prim 46 = none) (h1 : ilt t7 (llen x0_keys) = true) (h2 : lget x0_keys t7 = some (.sc (.string x))) (h3 : call 46 [.sc (.string x1), .sc (.string x)] [] = some (.sc (.bool r1), [])) (h4 : r1 = true) : Ifc.round ⟨⟨iadd, isub, imul, iquo, irem, ibit, ishl, ishr, iwrap, ieq, ilt, ile, beq, seq, slt, sapp, slen, sget, ssub, llen, lget, lset, lapp, lsub, room⟩, call, loop, prim⟩ [1, 5, 7, 3, 6] 3 (b27_0F) ⟨[.bad, .sc (.string x1), .bad, .bptr 0 0, .bad, .bptr 1 0, .bptr 2 0, .sc (.int .i64 t7), .bad, .bad, .bad, .bad, .bad, .bad, .bad, .bad, .bad, .bad, .bad, .bad, .bad, .bad, .bad, .bad, .bad, .bad, .bad, .bad, .bad, .bad, .bad, .bad, .bad, .bad, .bad, .bad, .bad, .bad, .bad, .bad, .bad, .bad, .bad, .bad, .bad, .bad, .bad, .bad, .bad, .bad, .bad, .bad, .bad, .bad, .bad, .bad, .bad, .bad, .bad, .bad, .bad, .bad, .bad, .bad, .bad, .bad, .bad, .bad, .bad, .bad, .bad, .bad, .bad, .bad, .bad, .bad, .bad, .bad, .bad, .bad, .bad, .bad, .bad, .bad, .bad, .bad, .bad, .bad, .bad, .bad, .bad, .bad, .bad, .bad, .bad], [.box 32 [.sc (.int .i64 x0_kind), .sc (.int .i64 x0_n), .sc (.string x0_s), .lit 9 false x0_keys, .lit 32 false x0_kids], .box 32 [.sc (.int .i64 x2_kind), .sc (.int .i64 x2_n), .sc (.string x2_s), .lit 9 false x2_keys, .lit 32 false x2_kids], .box 32 [.sc (.int .i64 0), .sc (.int .i64 0), .sc (.string ⟨#[]⟩), .lit 0 true [], .lit 0 true []]]⟩ = some (.brk 0, ⟨[.bad, .sc (.string x1), .bad, .bptr 0 0, .bad, .bptr 1 0, .bptr 2 0, .sc (.int .i64 t7), .bad, .bad, .bad, .bad, .bad, .bad, .bad, .bad, .bad, .bad, .bad, .bad, .bad, .bad, .bad, .bad, .bad, .bad, .bad, .bad, .bad, .bad, .bad, .bad, .bad, .bad, .bad, .bad, .bad, .bad, .bad, .bad, .bad, .bad, .bad, .bad, .bad, .bad, .bad, .bad, .bad, .bad, .bad, .bad, .bad, .bad, .bad, .bad, .bad, .bad, .bad, .bad, .bad, .bad, .bad, .bad, .bad, .bad, .bad, .bad, .bad, .bad, .bad, .bad, .bad, .bad, .bad, .bad, .bad, .bad, .bad, .bad, .bad, .bad, .bad, .bad, .bad, .bad, .bad, .bad, .bad, .bad, .bad, .bad, .bad, .bad, .bad], [.box 32 [.sc (.int .i64 x0_kind), .sc (.int .i64 x0_n), .sc (.string x0_s), .lit 9 false x0_keys, .lit 32 false x0_kids], .box 32 [.sc (.int .i64 x2_kind), .sc (.int .i64 x2_n), .sc (.string x2_s), .lit 9 false x2_keys, .lit 32 false x2_kids], .box 32 [.sc (.int .i64 0), .sc (.int .i64 0), .sc (.string ⟨#[]⟩), .lit 0 true [], .lit 0 true []]]⟩) := by
  cbv
  all_goals (try rw [h1])
  all_goals (try cbv)
  all_goals (try rw [h2])
  all_goals (try cbv)
  all_goals (try rw [h2])
  all_goals (try cbv)
  all_goals (try rw [hp46])
  all_goals (try cbv)
  all_goals (try rw [h3])
  all_goals (try cbv)
  all_goals (try rw [h4])
  all_goals (try cbv)

theorem r27_0_0_1 (x0_kind : Int) (x0_n : Int) (x0_s : ByteArray) (x0_keys : List AV) (x0_kids : List AV) (x1 : ByteArray) (x2_kind : Int) (x2_n : Int) (x2_s : ByteArray) (x2_keys : List AV) (x2_kids : List AV) (t7 : Int) (x : ByteArray) (r1 : Bool) (hp46 : prim 46 = none) (h1 : ilt t7 (llen x0_keys) = true) (h2 : lget x0_keys t7 = some (.sc (.string x))) (h3 : call 46 [.sc (.string x1), .sc (.string x)] [] = some (.sc (.bool r1), [])) (h4 : r1 = false) : Ifc.round ⟨⟨iadd, isub, imul, iquo, irem, ibit, ishl, ishr, iwrap, ieq, ilt, ile, beq, seq, slt, sapp, slen, sget, ssub, llen, lget, lset, lapp, lsub, room⟩, call, loop, prim⟩ [1, 5, 7, 3, 6] 3 (b27_0F) ⟨[.bad, .sc (.string x1), .bad, .bptr 0 0, .bad, .bptr 1 0, .bptr 2 0, .sc (.int .i64 t7), .bad, .bad, .bad, .bad, .bad, .bad, .bad, .bad, .bad, .bad, .bad, .bad, .bad, .bad, .bad, .bad, .bad, .bad, .bad, .bad, .bad, .bad, .bad, .bad, .bad, .bad, .bad, .bad, .bad, .bad, .bad, .bad, .bad, .bad, .bad, .bad, .bad, .bad, .bad, .bad, .bad, .bad, .bad, .bad, .bad, .bad, .bad, .bad, .bad, .bad, .bad, .bad, .bad, .bad, .bad, .bad, .bad, .bad, .bad, .bad, .bad, .bad, .bad, .bad, .bad, .bad, .bad, .bad, .bad, .bad, .bad, .bad, .bad, .bad, .bad, .bad, .bad, .bad, .bad, .bad, .bad, .bad, .bad, .bad, .bad, .bad, .bad], [.box 32 [.sc (.int .i64 x0_kind), .sc (.int .i64 x0_n), .sc (.string x0_s), .lit 9 false x0_keys, .lit 32 false x0_kids], .box 32 [.sc (.int .i64 x2_kind), .sc (.int .i64 x2_n), .sc (.string x2_s), .lit 9 false x2_keys, .lit 32 false x2_kids], .box 32 [.sc (.int .i64 0), .sc (.int .i64 0), .sc (.string ⟨#[]⟩), .lit 0 true [], .lit 0 true []]]⟩ = loop [1, 5, 7, 3, 6] 3 (b27_0F) ⟨[.bad, .sc (.string x1), .bad, .bptr 0 0, .bad, .bptr 1 0, .bptr 2 0, .sc (.int .i64 (iadd .i64 t7 1)), .bad, .bad, .bad, .bad, .bad, .bad, .bad, .bad, .bad, .bad, .bad, .bad, .bad, .bad, .bad, .bad, .bad, .bad, .bad, .bad, .bad, .bad, .bad, .bad, .bad, .bad, .bad, .bad, .bad, .bad, .bad, .bad, .bad, .bad, .bad, .bad, .bad, .bad, .bad, .bad, .bad, .bad, .bad, .bad, .bad, .bad, .bad, .bad, .bad, .bad, .bad, .bad, .bad, .bad, .bad, .bad, .bad, .bad, .bad, .bad, .bad, .bad, .bad, .bad, .bad, .bad, .bad, .bad, .bad, .bad, .bad, .bad, .bad, .bad, .bad, .bad, .bad, .bad, .bad, .bad, .bad, .bad, .bad, .bad, .bad, .bad, .bad], [.box 32 [.sc (.int .i64 x0_kind), .sc (.int .i64 x0_n), .sc (.string x0_s), .lit 9 false x0_keys, .lit 32 false x0_kids], .box 32 [.sc (.int .i64 x2_kind), .sc (.int .i64 x2_n), .sc (.string x2_s), .lit 9 false x2_keys, .lit 32 false x2_kids], .box 32 [.sc (.int .i64 0), .sc (.int .i64 0), .sc (.string ⟨#[]⟩), .lit 0 true [], .lit 0 true []]]⟩ := by
  cbv
  all_goals (try rw [h1])
  all_goals (try cbv)
  all_goals (try rw [h2])
  all_goals (try cbv)
  all_goals (try rw [h2])
  all_goals (try cbv)
  all_goals (try rw [hp46])
  all_goals (try cbv)
  all_goals (try rw [h3])
  all_goals (try cbv)
  all_goals (try rw [h4])
  all_goals (try cbv)

theorem r27_0_0_2 (x0_kind : Int) (x0_n : Int) (x0_s : ByteArray) (x0_keys : List AV) (x0_kids : List AV) (x1 : ByteArray) (x2_kind : Int) (x2_n : Int) (x2_s : ByteArray) (x2_keys : List AV) (x2_kids : List AV) (t7 : Int) (h1 : ilt t7 (llen x0_keys) = false) : Ifc.round ⟨⟨iadd, isub, imul, iquo, irem, ibit, ishl, ishr, iwrap, ieq, ilt, ile, beq, seq, slt, sapp, slen, sget, ssub, llen, lget, lset, lapp, lsub, room⟩, call, loop, prim⟩ [1, 5, 7, 3, 6] 3 (b27_0F) ⟨[.bad, .sc (.string x1), .bad, .bptr 0 0, .bad, .bptr 1 0, .bptr 2 0, .sc (.int .i64 t7), .bad, .bad, .bad, .bad, .bad, .bad, .bad, .bad, .bad, .bad, .bad, .bad, .bad, .bad, .bad, .bad, .bad, .bad, .bad, .bad, .bad, .bad, .bad, .bad, .bad, .bad, .bad, .bad, .bad, .bad, .bad, .bad, .bad, .bad, .bad, .bad, .bad, .bad, .bad, .bad, .bad, .bad, .bad, .bad, .bad, .bad, .bad, .bad, .bad, .bad, .bad, .bad, .bad, .bad, .bad, .bad, .bad, .bad, .bad, .bad, .bad, .bad, .bad, .bad, .bad, .bad, .bad, .bad, .bad, .bad, .bad, .bad, .bad, .bad, .bad, .bad, .bad, .bad, .bad, .bad, .bad, .bad, .bad, .bad, .bad, .bad, .bad], [.box 32 [.sc (.int .i64 x0_kind), .sc (.int .i64 x0_n), .sc (.string x0_s), .lit 9 false x0_keys, .lit 32 false x0_kids], .box 32 [.sc (.int .i64 x2_kind), .sc (.int .i64 x2_n), .sc (.string x2_s), .lit 9 false x2_keys, .lit 32 false x2_kids], .box 32 [.sc (.int .i64 0), .sc (.int .i64 0), .sc (.string ⟨#[]⟩), .lit 0 true [], .lit 0 true []]]⟩ = some (.brk 0, ⟨[.bad, .sc (.string x1), .bad, .bptr 0 0, .bad, .bptr 1 0, .bptr 2 0, .sc (.int .i64 t7), .bad, .bad, .bad, .bad, .bad, .bad, .bad, .bad, .bad, .bad, .bad, .bad, .bad, .bad, .bad, .bad, .bad, .bad, .bad, .bad, .bad, .bad, .bad, .bad, .bad, .bad, .bad, .bad, .bad, .bad, .bad, .bad, .bad, .bad, .bad, .bad, .bad, .bad, .bad, .bad, .bad, .bad, .bad, .bad, .bad, .bad, .bad, .bad, .bad, .bad, .bad, .bad, .bad, .bad, .bad, .bad, .bad, .bad, .bad, .bad, .bad, .bad, .bad, .bad, .bad, .bad, .bad, .bad, .bad, .bad, .bad, .bad, .bad, .bad, .bad, .bad, .bad, .bad, .bad, .bad, .bad, .bad, .bad, .bad, .bad, .bad, .bad], [.box 32 [.sc (.int .i64 x0_kind), .sc (.int .i64 x0_n), .sc (.string x0_s), .lit 9 false x0_keys, .lit 32 false x0_kids], .box 32 [.sc (.int .i64 x2_kind), .sc (.int .i64 x2_n), .sc (.string x2_s), .lit 9 false x2_keys, .lit 32 false x2_kids], .box 32 [.sc (.int .i64 0), .sc (.int .i64 0), .sc (.string ⟨#[]⟩), .lit 0 true [], .lit 0 true []]]⟩) := by
  cbv
  all_goals (try rw [h1])
  all_goals (try cbv)

theorem p28_0 (x0 : List AV) (r_kind : Int) (r_n : Int) (r_s : ByteArray) (r_keys : List AV) (r_kids : List AV) (hp39 : prim 39 = none) (h1 : call 39 [.agg [.sc (.int .i64 3), .sc (.int .i64 0), .sc (.string ⟨#[]⟩), .lit 9 false [], .lit 32 false x0]] [] = some (.agg [.sc (.int .i64 r_kind), .sc (.int .i64 r_n), .sc (.string r_s), .sl 0 0, .sl 1 0], [.row 9 0 false r_keys, .row 32 0 false r_kids])) : runFn ⟨⟨iadd, isub, imul, iquo, irem, ibit, ishl, ishr, iwrap, ieq, ilt, ile, beq, seq, slt, sapp, slen, sget, ssub, llen, lget, lset, lapp, lsub, room⟩, call, loop, prim⟩ (g28F) [.lit 32 false x0] [] = some (.agg [.sc (.int .i64 r_kind), .sc (.int .i64 r_n), .sc (.string r_s), .lit 9 false r_keys, .lit 32 false r_kids], []) := by
  cbv
  all_goals (try rw [hp39])
  all_goals (try cbv)
  all_goals (try rw [h1])
  all_goals (try cbv)

theorem p26_0 (x0_kind : Int) (x0_n : Int) (x0_s : ByteArray) (x0_keys : List AV) (x0_kids : List AV) (x1 : ByteArray) (x2_kind : Int) (x2_n : Int) (x2_s : ByteArray) (x2_keys : List AV) (x2_kids : List AV) (r_kind : Int) (r_n : Int) (r_s : ByteArray) (r_keys : List AV) (r_kids : List AV) (r_kind1 : Int) (r_n1 : Int) (r_s1 : ByteArray) (r_keys1 : List AV) (r_kids1 : List AV) (r : Int) (x_kind : Int) (x_n : Int) (x_s : ByteArray) (x_keys : List AV) (x_kids : List AV) (hp39 : prim 39 = none) (hp38 : prim 38 = none) (h1 : call 39 [.agg [.sc (.int .i64 x0_kind), .sc (.int .i64 x0_n), .sc (.string x0_s), .lit 9 false x0_keys, .lit 32 false x0_kids]] [] = some (.agg [.sc (.int .i64 r_kind), .sc (.int .i64 r_n), .sc (.string r_s), .sl 0 0, .sl 1 0], [.row 9 0 false r_keys, .row 32 0 false r_kids])) (h2 : ieq r_kind 4 = true) (h3 : ieq (llen r_keys) (llen r_kids) = true) (h4 : call 39 [.agg [.sc (.int .i64 x2_kind), .sc (.int .i64 x2_n), .sc (.string x2_s), .lit 9 false x2_keys, .lit 32 false x2_kids]] [] = some (.agg [.sc (.int .i64 r_kind1), .sc (.int .i64 r_n1), .sc (.string r_s1), .sl 0 0, .sl 1 0], [.row 9 0 false r_keys1, .row 32 0 false r_kids1])) (h5 : call 38 [.lit 9 false r_keys, .sc (.string x1)] [] = some (.sc (.int .i64 r), [])) (h6 : ile 0 r = true) (h7 : lget r_kids r = some (.agg [.sc (.int .i64 x_kind), .sc (.int .i64 x_n), .sc (.string x_s), .lit 9 false x_keys, .lit 32 false x_kids])) : runFn ⟨⟨iadd, isub, imul, iquo, irem, ibit, ishl, ishr, iwrap, ieq, ilt, ile, beq, seq, slt, sapp, slen, sget, ssub, llen, lget, lset, lapp, lsub, room⟩, call, loop, prim⟩ (g26F) [.agg [.sc (.int .i64 x0_kind), .sc (.int .i64 x0_n), .sc (.string x0_s), .lit 9 false x0_keys, .lit 32 false x0_kids], .sc (.string x1), .agg [.sc (.int .i64 x2_kind), .sc (.int .i64 x2_n), .sc (.string x2_s), .lit 9 false x2_keys, .lit 32 false x2_kids]] [] = some (.agg [.sc (.int .i64 r_kind), .sc (.int .i64 r_n), .sc (.string r_s), .lit 9 false r_keys, .lit 32 false (lset r_kids r (.agg [.sc (.int .i64 r_kind1), .sc (.int .i64 r_n1), .sc (.string r_s1), .lit 9 false r_keys1, .lit 32 false r_kids1]))], []) := by
  cbv
  all_goals (try rw [hp39])
  all_goals (try cbv)
  all_goals (try rw [h1])
  all_goals (try cbv)
  all_goals (try rw [h2])
  all_goals (try cbv)
  all_goals (try rw [h3])
  all_goals (try cbv)
  all_goals (try rw [hp39])
  all_goals (try cbv)
  all_goals (try rw [h4])
  all_goals (try cbv)
  all_goals (try rw [hp38])
  all_goals (try cbv)
  all_goals (try rw [h5])
  all_goals (try cbv)
  all_goals (try rw [h6])
  all_goals (try cbv)
  all_goals (try rw [h7])
  all_goals (try cbv)
  all_goals (try rw [h7])
  all_goals (try cbv)

theorem p26_1 (x0_kind : Int) (x0_n : Int) (x0_s : ByteArray) (x0_keys : List AV) (x0_kids : List AV) (x1 : ByteArray) (x2_kind : Int) (x2_n : Int) (x2_s : ByteArray) (x2_keys : List AV) (x2_kids : List AV) (r_kind : Int) (r_n : Int) (r_s : ByteArray) (r_keys : List AV) (r_kids : List AV) (r_kind1 : Int) (r_n1 : Int) (r_s1 : ByteArray) (r_keys1 : List AV) (r_kids1 : List AV) (r : Int) (r1 : Int) (ys : List AV) (ys1 : List AV) (ys2 : List AV) (ys3 : List AV) (hp39 : prim 39 = none) (hp38 : prim 38 = none) (hp42 : prim 42 = none) (hp44 : prim 44 = some (.insert 9 16)) (hp45 : prim 45 = some (.insert 32 80)) (h1 : call 39 [.agg [.sc (.int .i64 x0_kind), .sc (.int .i64 x0_n), .sc (.string x0_s), .lit 9 false x0_keys, .lit 32 false x0_kids]] [] = some (.agg [.sc (.int .i64 r_kind), .sc (.int .i64 r_n), .sc (.string r_s), .sl 0 0, .sl 1 0], [.row 9 0 false r_keys, .row 32 0 false r_kids])) (h2 : ieq r_kind 4 = true) (h3 : ieq (llen r_keys) (llen r_kids) = true) (h4 : call 39 [.agg [.sc (.int .i64 x2_kind), .sc (.int .i64 x2_n), .sc (.string x2_s), .lit 9 false x2_keys, .lit 32 false x2_kids]] [] = some (.agg [.sc (.int .i64 r_kind1), .sc (.int .i64 r_n1), .sc (.string r_s1), .sl 0 0, .sl 1 0], [.row 9 0 false r_keys1, .row 32 0 false r_kids1])) (h5 : call 38 [.lit 9 false r_keys, .sc (.string x1)] [] = some (.sc (.int .i64 r), [])) (h6 : ile 0 r = false) (h7 : call 42 [.lit 9 false r_keys, .fn 43 [.bptr 0 0]] [.box 9 [.sc (.string x1)]] = some (.sc (.int .i64 r1), [.box 9 [.sc (.string x1)]])) (h8 : ilt r1 0 = true) (h9 : room 16 r_keys [.sc (.string x1)] = true) (h10 : lsub r_keys 0 (llen r_keys) = some ys) (h11 : lsub r_keys (llen r_keys) (llen r_keys) = some ys1) (h12 : room 80 r_kids [.agg [.sc (.int .i64 r_kind1), .sc (.int .i64 r_n1), .sc (.string r_s1), .lit 9 false r_keys1, .lit 32 false r_kids1]] = true) (h13 : lsub r_kids 0 (llen r_keys) = some ys2) (h14 : lsub r_kids (llen r_keys) (llen r_kids) = some ys3) : runFn ⟨⟨iadd, isub, imul, iquo, irem, ibit, ishl, ishr, iwrap, ieq, ilt, ile, beq, seq, slt, sapp, slen, sget, ssub, llen, lget, lset, lapp, lsub, room⟩, call, loop, prim⟩ (g26F) [.agg [.sc (.int .i64 x0_kind), .sc (.int .i64 x0_n), .sc (.string x0_s), .lit 9 false x0_keys, .lit 32 false x0_kids], .sc (.string x1), .agg [.sc (.int .i64 x2_kind), .sc (.int .i64 x2_n), .sc (.string x2_s), .lit 9 false x2_keys, .lit 32 false x2_kids]] [] = some (.agg [.sc (.int .i64 r_kind), .sc (.int .i64 r_n), .sc (.string r_s), .lit 9 false (lapp ys (lapp [.sc (.string x1)] ys1)), .lit 32 false (lapp ys2 (lapp [.agg [.sc (.int .i64 r_kind1), .sc (.int .i64 r_n1), .sc (.string r_s1), .lit 9 false r_keys1, .lit 32 false r_kids1]] ys3))], []) := by
  cbv
  all_goals (try rw [hp39])
  all_goals (try cbv)
  all_goals (try rw [h1])
  all_goals (try cbv)
  all_goals (try rw [h2])
  all_goals (try cbv)
  all_goals (try rw [h3])
  all_goals (try cbv)
  all_goals (try rw [hp39])
  all_goals (try cbv)
  all_goals (try rw [h4])
  all_goals (try cbv)
  all_goals (try rw [hp38])
  all_goals (try cbv)
  all_goals (try rw [h5])
  all_goals (try cbv)
  all_goals (try rw [h6])
  all_goals (try cbv)
  all_goals (try rw [hp42])
  all_goals (try cbv)
  all_goals (try rw [h7])
  all_goals (try cbv)
  all_goals (try rw [h8])
  all_goals (try cbv)
  all_goals (try rw [hp44])
  all_goals (try cbv)
  all_goals (try rw [h9])
  all_goals (try cbv)
  all_goals (try rw [h10])
  all_goals (try cbv)
  all_goals (try rw [h11])
  all_goals (try cbv)
  all_goals (try rw [hp39])
  all_goals (try cbv)
  all_goals (try rw [h1])
  all_goals (try cbv)
  all_goals (try rw [h2])
  all_goals (try cbv)
  all_goals (try rw [h3])
  all_goals (try cbv)
  all_goals (try rw [hp39])
  all_goals (try cbv)
  all_goals (try rw [h4])
  all_goals (try cbv)
  all_goals (try rw [hp38])
  all_goals (try cbv)
  all_goals (try rw [h5])
  all_goals (try cbv)
  all_goals (try rw [h6])
  all_goals (try cbv)
  all_goals (try rw [hp42])
  all_goals (try cbv)
  all_goals (try rw [h7])
  all_goals (try cbv)
  all_goals (try rw [h8])
  all_goals (try cbv)
  all_goals (try rw [hp44])
  all_goals (try cbv)
  all_goals (try rw [h9])
  all_goals (try cbv)
  all_goals (try rw [h10])
  all_goals (try cbv)
  all_goals (try rw [h11])
  all_goals (try cbv)
  all_goals (try rw [hp44])
  all_goals (try cbv)
  all_goals (try rw [h9])
  all_goals (try cbv)
  all_goals (try rw [h10])
  all_goals (try cbv)
  all_goals (try rw [h11])
  all_goals (try cbv)
  all_goals (try rw [hp45])
  all_goals (try cbv)
  all_goals (try rw [h12])
  all_goals (try cbv)
  all_goals (try rw [h13])
  all_goals (try cbv)
  all_goals (try rw [h14])
  all_goals (try cbv)

theorem p26_2 (x0_kind : Int) (x0_n : Int) (x0_s : ByteArray) (x0_keys : List AV) (x0_kids : List AV) (x1 : ByteArray) (x2_kind : Int) (x2_n : Int) (x2_s : ByteArray) (x2_keys : List AV) (x2_kids : List AV) (r_kind : Int) (r_n : Int) (r_s : ByteArray) (r_keys : List AV) (r_kids : List AV) (r_kind1 : Int) (r_n1 : Int) (r_s1 : ByteArray) (r_keys1 : List AV) (r_kids1 : List AV) (r : Int) (r1 : Int) (ys : List AV) (ys1 : List AV) (ys2 : List AV) (ys3 : List AV) (hp39 : prim 39 = none) (hp38 : prim 38 = none) (hp42 : prim 42 = none) (hp44 : prim 44 = some (.insert 9 16)) (hp45 : prim 45 = some (.insert 32 80)) (h1 : call 39 [.agg [.sc (.int .i64 x0_kind), .sc (.int .i64 x0_n), .sc (.string x0_s), .lit 9 false x0_keys, .lit 32 false x0_kids]] [] = some (.agg [.sc (.int .i64 r_kind), .sc (.int .i64 r_n), .sc (.string r_s), .sl 0 0, .sl 1 0], [.row 9 0 false r_keys, .row 32 0 false r_kids])) (h2 : ieq r_kind 4 = true) (h3 : ieq (llen r_keys) (llen r_kids) = true) (h4 : call 39 [.agg [.sc (.int .i64 x2_kind), .sc (.int .i64 x2_n), .sc (.string x2_s), .lit 9 false x2_keys, .lit 32 false x2_kids]] [] = some (.agg [.sc (.int .i64 r_kind1), .sc (.int .i64 r_n1), .sc (.string r_s1), .sl 0 0, .sl 1 0], [.row 9 0 false r_keys1, .row 32 0 false r_kids1])) (h5 : call 38 [.lit 9 false r_keys, .sc (.string x1)] [] = some (.sc (.int .i64 r), [])) (h6 : ile 0 r = false) (h7 : call 42 [.lit 9 false r_keys, .fn 43 [.bptr 0 0]] [.box 9 [.sc (.string x1)]] = some (.sc (.int .i64 r1), [.box 9 [.sc (.string x1)]])) (h8 : ilt r1 0 = false) (h9 : room 16 r_keys [.sc (.string x1)] = true) (h10 : lsub r_keys 0 r1 = some ys) (h11 : lsub r_keys r1 (llen r_keys) = some ys1) (h12 : room 80 r_kids [.agg [.sc (.int .i64 r_kind1), .sc (.int .i64 r_n1), .sc (.string r_s1), .lit 9 false r_keys1, .lit 32 false r_kids1]] = true) (h13 : lsub r_kids 0 r1 = some ys2) (h14 : lsub r_kids r1 (llen r_kids) = some ys3) : runFn ⟨⟨iadd, isub, imul, iquo, irem, ibit, ishl, ishr, iwrap, ieq, ilt, ile, beq, seq, slt, sapp, slen, sget, ssub, llen, lget, lset, lapp, lsub, room⟩, call, loop, prim⟩ (g26F) [.agg [.sc (.int .i64 x0_kind), .sc (.int .i64 x0_n), .sc (.string x0_s), .lit 9 false x0_keys, .lit 32 false x0_kids], .sc (.string x1), .agg [.sc (.int .i64 x2_kind), .sc (.int .i64 x2_n), .sc (.string x2_s), .lit 9 false x2_keys, .lit 32 false x2_kids]] [] = some (.agg [.sc (.int .i64 r_kind), .sc (.int .i64 r_n), .sc (.string r_s), .lit 9 false (lapp ys (lapp [.sc (.string x1)] ys1)), .lit 32 false (lapp ys2 (lapp [.agg [.sc (.int .i64 r_kind1), .sc (.int .i64 r_n1), .sc (.string r_s1), .lit 9 false r_keys1, .lit 32 false r_kids1]] ys3))], []) := by
  cbv
  all_goals (try rw [hp39])
  all_goals (try cbv)
  all_goals (try rw [h1])
  all_goals (try cbv)
  all_goals (try rw [h2])
  all_goals (try cbv)
  all_goals (try rw [h3])
  all_goals (try cbv)
  all_goals (try rw [hp39])
  all_goals (try cbv)
  all_goals (try rw [h4])
  all_goals (try cbv)
  all_goals (try rw [hp38])
  all_goals (try cbv)
  all_goals (try rw [h5])
  all_goals (try cbv)
  all_goals (try rw [h6])
  all_goals (try cbv)
  all_goals (try rw [hp42])
  all_goals (try cbv)
  all_goals (try rw [h7])
  all_goals (try cbv)
  all_goals (try rw [h8])
  all_goals (try cbv)
  all_goals (try rw [hp44])
  all_goals (try cbv)
  all_goals (try rw [h9])
  all_goals (try cbv)
  all_goals (try rw [h10])
  all_goals (try cbv)
  all_goals (try rw [h11])
  all_goals (try cbv)
  all_goals (try rw [hp39])
  all_goals (try cbv)
  all_goals (try rw [h1])
  all_goals (try cbv)
  all_goals (try rw [h2])
  all_goals (try cbv)
  all_goals (try rw [h3])
  all_goals (try cbv)
  all_goals (try rw [hp39])
  all_goals (try cbv)
  all_goals (try rw [h4])
  all_goals (try cbv)
  all_goals (try rw [hp38])
  all_goals (try cbv)
  all_goals (try rw [h5])
  all_goals (try cbv)
  all_goals (try rw [h6])
  all_goals (try cbv)
  all_goals (try rw [hp42])
  all_goals (try cbv)
  all_goals (try rw [h7])
  all_goals (try cbv)
  all_goals (try rw [h8])
  all_goals (try cbv)
  all_goals (try rw [hp44])
  all_goals (try cbv)
  all_goals (try rw [h9])
  all_goals (try cbv)
  all_goals (try rw [h10])
  all_goals (try cbv)
  all_goals (try rw [h11])
  all_goals (try cbv)
  all_goals (try rw [hp44])
  all_goals (try cbv)
  all_goals (try rw [h9])
  all_goals (try cbv)
  all_goals (try rw [h10])
  all_goals (try cbv)
  all_goals (try rw [h11])
  all_goals (try cbv)
  all_goals (try rw [hp45])
  all_goals (try cbv)
  all_goals (try rw [h12])
  all_goals (try cbv)
  all_goals (try rw [h13])
  all_goals (try cbv)
  all_goals (try rw [h14])
  all_goals (try cbv)

theorem p26_3 (x0_kind : Int) (x0_n : Int) (x0_s : ByteArray) (x0_keys : List AV) (x0_kids : List AV) (x1 : ByteArray) (x2_kind : Int) (x2_n : Int) (x2_s : ByteArray) (x2_keys : List AV) (x2_kids : List AV) (r_kind : Int) (r_n : Int) (r_s : ByteArray) (r_keys : List AV) (r_kids : List AV) (hp39 : prim 39 = none) (h1 : call 39 [.agg [.sc (.int .i64 x0_kind), .sc (.int .i64 x0_n), .sc (.string x0_s), .lit 9 false x0_keys, .lit 32 false x0_kids]] [] = some (.agg [.sc (.int .i64 r_kind), .sc (.int .i64 r_n), .sc (.string r_s), .sl 0 0, .sl 1 0], [.row 9 0 false r_keys, .row 32 0 false r_kids])) (h2 : ieq r_kind 4 = true) (h3 : ieq (llen r_keys) (llen r_kids) = false) : runFn ⟨⟨iadd, isub, imul, iquo, irem, ibit, ishl, ishr, iwrap, ieq, ilt, ile, beq, seq, slt, sapp, slen, sget, ssub, llen, lget, lset, lapp, lsub, room⟩, call, loop, prim⟩ (g26F) [.agg [.sc (.int .i64 x0_kind), .sc (.int .i64 x0_n), .sc (.string x0_s), .lit 9 false x0_keys, .lit 32 false x0_kids], .sc (.string x1), .agg [.sc (.int .i64 x2_kind), .sc (.int .i64 x2_n), .sc (.string x2_s), .lit 9 false x2_keys, .lit 32 false x2_kids]] [] = some (.agg [.sc (.int .i64 r_kind), .sc (.int .i64 r_n), .sc (.string r_s), .lit 9 false r_keys, .lit 32 false r_kids], []) := by
  cbv
  all_goals (try rw [hp39])
  all_goals (try cbv)
  all_goals (try rw [h1])
  all_goals (try cbv)
  all_goals (try rw [h2])
  all_goals (try cbv)
  all_goals (try rw [h3])
  all_goals (try cbv)

theorem p26_4 (x0_kind : Int) (x0_n : Int) (x0_s : ByteArray) (x0_keys : List AV) (x0_kids : List AV) (x1 : ByteArray) (x2_kind : Int) (x2_n : Int) (x2_s : ByteArray) (x2_keys : List AV) (x2_kids : List AV) (r_kind : Int) (r_n : Int) (r_s : ByteArray) (r_keys : List AV) (r_kids : List AV) (hp39 : prim 39 = none) (h1 : call 39 [.agg [.sc (.int .i64 x0_kind), .sc (.int .i64 x0_n), .sc (.string x0_s), .lit 9 false x0_keys, .lit 32 false x0_kids]] [] = some (.agg [.sc (.int .i64 r_kind), .sc (.int .i64 r_n), .sc (.string r_s), .sl 0 0, .sl 1 0], [.row 9 0 false r_keys, .row 32 0 false r_kids])) (h2 : ieq r_kind 4 = false) : runFn ⟨⟨iadd, isub, imul, iquo, irem, ibit, ishl, ishr, iwrap, ieq, ilt, ile, beq, seq, slt, sapp, slen, sget, ssub, llen, lget, lset, lapp, lsub, room⟩, call, loop, prim⟩ (g26F) [.agg [.sc (.int .i64 x0_kind), .sc (.int .i64 x0_n), .sc (.string x0_s), .lit 9 false x0_keys, .lit 32 false x0_kids], .sc (.string x1), .agg [.sc (.int .i64 x2_kind), .sc (.int .i64 x2_n), .sc (.string x2_s), .lit 9 false x2_keys, .lit 32 false x2_kids]] [] = some (.agg [.sc (.int .i64 r_kind), .sc (.int .i64 r_n), .sc (.string r_s), .lit 9 false r_keys, .lit 32 false r_kids], []) := by
  cbv
  all_goals (try rw [hp39])
  all_goals (try cbv)
  all_goals (try rw [h1])
  all_goals (try cbv)
  all_goals (try rw [h2])
  all_goals (try cbv)

end

theorem p39_0L (x0_kind : Int) (x0_n : Int) (x0_s : ByteArray) (x0_keys : List AV) (x0_kids : List AV) (e3ao : List AV) (h1 : Ops.std.room 16 [] x0_keys = true) (h2 : Ops.std.room 80 [] x0_kids = true) (h3 : (lim F pr).loop [14, 15, 1, 2] 4 b39_0 ⟨[.bad, .bptr 0 0, .bptr 1 0, .bad, .bad, .bad, .bad, .bad, .bad, .bad, .bad, .bad, .bad, .bad, .sc (.int .i64 (Ops.std.llen x0_kids)), .sc (.int .i64 0), .bad, .bad, .bad, .bad, .bad, .bad, .bad, .bad, .bad, .bad, .bad, .bad, .bad, .bad], [.box 32 [.sc (.int .i64 x0_kind), .sc (.int .i64 x0_n), .sc (.string x0_s), .sl 2 0, .sl 3 0], .box 32 [.sc (.int .i64 0), .sc (.int .i64 0), .sc (.string ⟨#[]⟩), .lit 0 true [], .lit 0 true []], .row 9 0 false x0_keys, .row 32 0 false x0_kids]⟩ = some (.brk 0, ⟨[.bad, .bptr 0 0, .bptr 1 0, .bad, .bad, .bad, .bad, .bad, .bad, .bad, .bad, .bad, .bad, .bad, .bad, .bad, .bad, .bad, .bad, .bad, .bad, .bad, .bad, .bad, .bad, .bad, .bad, .bad, .bad, .bad], [.box 32 [.sc (.int .i64 x0_kind), .sc (.int .i64 x0_n), .sc (.string x0_s), .sl 2 0, .sl 3 0], .box 32 [.sc (.int .i64 0), .sc (.int .i64 0), .sc (.string ⟨#[]⟩), .lit 0 true [], .lit 0 true []], .row 9 0 false x0_keys, .row 32 0 false e3ao]⟩)) : runFn (lim F pr) g39 [.agg [.sc (.int .i64 x0_kind), .sc (.int .i64 x0_n), .sc (.string x0_s), .lit 9 false x0_keys, .lit 32 false x0_kids]] [] = some (.agg [.sc (.int .i64 x0_kind), .sc (.int .i64 x0_n), .sc (.string x0_s), .sl 0 0, .sl 1 0], [.row 9 0 false x0_keys, .row 32 0 false e3ao]) :=
  p39_0 (iadd := Ops.std.iadd) (isub := Ops.std.isub) (imul := Ops.std.imul) (iquo := Ops.std.iquo) (irem := Ops.std.irem) (ibit := Ops.std.ibit) (ishl := Ops.std.ishl) (ishr := Ops.std.ishr) (iwrap := Ops.std.iwrap) (ieq := Ops.std.ieq) (ilt := Ops.std.ilt) (ile := Ops.std.ile) (beq := Ops.std.beq) (seq := Ops.std.seq) (slt := Ops.std.slt) (sapp := Ops.std.sapp) (slen := Ops.std.slen) (sget := Ops.std.sget) (ssub := Ops.std.ssub) (llen := Ops.std.llen) (lget := Ops.std.lget) (lset := Ops.std.lset) (lapp := Ops.std.lapp) (lsub := Ops.std.lsub) (room := Ops.std.room) (call := (lim F pr).call) (loop := (lim F pr).loop) (prim := pr) b39_0 x0_kind x0_n x0_s x0_keys x0_kids e3ao rfl rfl h1 h2 h3

abbrev W39_0_0 (x0_kind : Int) (x0_n : Int) (x0_s : ByteArray) (x0_keys : List AV) (e3ao : List AV) : X × St := (.brk 0, ⟨[.bad, .bptr 0 0, .bptr 1 0, .bad, .bad, .bad, .bad, .bad, .bad, .bad, .bad, .bad, .bad, .bad, .bad, .bad, .bad, .bad, .bad, .bad, .bad, .bad, .bad, .bad, .bad, .bad, .bad, .bad, .bad, .bad], [.box 32 [.sc (.int .i64 x0_kind), .sc (.int .i64 x0_n), .sc (.string x0_s), .sl 2 0, .sl 3 0], .box 32 [.sc (.int .i64 0), .sc (.int .i64 0), .sc (.string ⟨#[]⟩), .lit 0 true [], .lit 0 true []], .row 9 0 false x0_keys, .row 32 0 false e3ao]⟩)

abbrev H39_0_0 (x0_kind : Int) (x0_n : Int) (x0_s : ByteArray) (x0_keys : List AV) (x0_kids : List AV) (t15 : Int) (e3a : List AV) : St := ⟨[.bad, .bptr 0 0, .bptr 1 0, .bad, .bad, .bad, .bad, .bad, .bad, .bad, .bad, .bad, .bad, .bad, .sc (.int .i64 (Ops.std.llen x0_kids)), .sc (.int .i64 t15), .bad, .bad, .bad, .bad, .bad, .bad, .bad, .bad, .bad, .bad, .bad, .bad, .bad, .bad], [.box 32 [.sc (.int .i64 x0_kind), .sc (.int .i64 x0_n), .sc (.string x0_s), .sl 2 0, .sl 3 0], .box 32 [.sc (.int .i64 0), .sc (.int .i64 0), .sc (.string ⟨#[]⟩), .lit 0 true [], .lit 0 true []], .row 9 0 false x0_keys, .row 32 0 false e3a]⟩

theorem r39_0_0_0L (x0_kind : Int) (x0_n : Int) (x0_s : ByteArray) (x0_keys : List AV) (x0_kids : List AV) (t15 : Int) (e3a : List AV) (x_kind : Int) (x_n : Int) (x_s : ByteArray) (x_keys : List AV) (x_kids : List AV) (r_kind : Int) (r_n : Int) (r_s : ByteArray) (r_keys : List AV) (r_kids : List AV) (h1 : Ops.std.ilt t15 (Ops.std.llen x0_kids) = true) (h2 : Ops.std.lget e3a t15 = some (.agg [.sc (.int .i64 x_kind), .sc (.int .i64 x_n), .sc (.string x_s), .lit 9 false x_keys, .lit 32 false x_kids])) (h3 : (lim F pr).call 39 [.agg [.sc (.int .i64 x_kind), .sc (.int .i64 x_n), .sc (.string x_s), .lit 9 false x_keys, .lit 32 false x_kids]] [] = some (.agg [.sc (.int .i64 r_kind), .sc (.int .i64 r_n), .sc (.string r_s), .sl 0 0, .sl 1 0], [.row 9 0 false r_keys, .row 32 0 false r_kids])) : Ifc.round (lim F pr) [14, 15, 1, 2] 4 b39_0 ⟨[.bad, .bptr 0 0, .bptr 1 0, .bad, .bad, .bad, .bad, .bad, .bad, .bad, .bad, .bad, .bad, .bad, .sc (.int .i64 (Ops.std.llen x0_kids)), .sc (.int .i64 t15), .bad, .bad, .bad, .bad, .bad, .bad, .bad, .bad, .bad, .bad, .bad, .bad, .bad, .bad], [.box 32 [.sc (.int .i64 x0_kind), .sc (.int .i64 x0_n), .sc (.string x0_s), .sl 2 0, .sl 3 0], .box 32 [.sc (.int .i64 0), .sc (.int .i64 0), .sc (.string ⟨#[]⟩), .lit 0 true [], .lit 0 true []], .row 9 0 false x0_keys, .row 32 0 false e3a]⟩ = (lim F pr).loop [14, 15, 1, 2] 4 b39_0 ⟨[.bad, .bptr 0 0, .bptr 1 0, .bad, .bad, .bad, .bad, .bad, .bad, .bad, .bad, .bad, .bad, .bad, .sc (.int .i64 (Ops.std.llen x0_kids)), .sc (.int .i64 (Ops.std.iadd .i64 t15 1)), .bad, .bad, .bad, .bad, .bad, .bad, .bad, .bad, .bad, .bad, .bad, .bad, .bad, .bad], [.box 32 [.sc (.int .i64 x0_kind), .sc (.int .i64 x0_n), .sc (.string x0_s), .sl 2 0, .sl 3 0], .box 32 [.sc (.int .i64 0), .sc (.int .i64 0), .sc (.string ⟨#[]⟩), .lit 0 true [], .lit 0 true []], .row 9 0 false x0_keys, .row 32 0 false (Ops.std.lset e3a t15 (.agg [.sc (.int .i64 r_kind), .sc (.int .i64 r_n), .sc (.string r_s), .lit 9 false r_keys, .lit 32 false r_kids]))]⟩ :=
  r39_0_0_0 (iadd := Ops.std.iadd) (isub := Ops.std.isub) (imul := Ops.std.imul) (iquo := Ops.std.iquo) (irem := Ops.std.irem) (ibit := Ops.std.ibit) (ishl := Ops.std.ishl) (ishr := Ops.std.ishr) (iwrap := Ops.std.iwrap) (ieq := Ops.std.ieq) (ilt := Ops.std.ilt) (ile := Ops.std.ile) (beq := Ops.std.beq) (seq := Ops.std.seq) (slt := Ops.std.slt) (sapp := Ops.std.sapp) (slen := Ops.std.slen) (sget := Ops.std.sget) (ssub := Ops.std.ssub) (llen := Ops.std.llen) (lget := Ops.std.lget) (lset := Ops.std.lset) (lapp := Ops.std.lapp) (lsub := Ops.std.lsub) (room := Ops.std.room) (call := (lim F pr).call) (loop := (lim F pr).loop) (prim := pr)  x0_kind x0_n x0_s x0_keys x0_kids t15 e3a x_kind x_n x_s x_keys x_kids r_kind r_n r_s r_keys r_kids rfl h1 h2 h3

theorem r39_0_0_1L (x0_kind : Int) (x0_n : Int) (x0_s : ByteArray) (x0_keys : List AV) (x0_kids : List AV) (t15 : Int) (e3a : List AV) (h1 : Ops.std.ilt t15 (Ops.std.llen x0_kids) = false) : Ifc.round (lim F pr) [14, 15, 1, 2] 4 b39_0 ⟨[.bad, .bptr 0 0, .bptr 1 0, .bad, .bad, .bad, .bad, .bad, .bad, .bad, .bad, .bad, .bad, .bad, .sc (.int .i64 (Ops.std.llen x0_kids)), .sc (.int .i64 t15), .bad, .bad, .bad, .bad, .bad, .bad, .bad, .bad, .bad, .bad, .bad, .bad, .bad, .bad], [.box 32 [.sc (.int .i64 x0_kind), .sc (.int .i64 x0_n), .sc (.string x0_s), .sl 2 0, .sl 3 0], .box 32 [.sc (.int .i64 0), .sc (.int .i64 0), .sc (.string ⟨#[]⟩), .lit 0 true [], .lit 0 true []], .row 9 0 false x0_keys, .row 32 0 false e3a]⟩ = some (.brk 0, ⟨[.bad, .bptr 0 0, .bptr 1 0, .bad, .bad, .bad, .bad, .bad, .bad, .bad, .bad, .bad, .bad, .bad, .bad, .bad, .bad, .bad, .bad, .bad, .bad, .bad, .bad, .bad, .bad, .bad, .bad, .bad, .bad, .bad], [.box 32 [.sc (.int .i64 x0_kind), .sc (.int .i64 x0_n), .sc (.string x0_s), .sl 2 0, .sl 3 0], .box 32 [.sc (.int .i64 0), .sc (.int .i64 0), .sc (.string ⟨#[]⟩), .lit 0 true [], .lit 0 true []], .row 9 0 false x0_keys, .row 32 0 false e3a]⟩) :=
  r39_0_0_1 (iadd := Ops.std.iadd) (isub := Ops.std.isub) (imul := Ops.std.imul) (iquo := Ops.std.iquo) (irem := Ops.std.irem) (ibit := Ops.std.ibit) (ishl := Ops.std.ishl) (ishr := Ops.std.ishr) (iwrap := Ops.std.iwrap) (ieq := Ops.std.ieq) (ilt := Ops.std.ilt) (ile := Ops.std.ile) (beq := Ops.std.beq) (seq := Ops.std.seq) (slt := Ops.std.slt) (sapp := Ops.std.sapp) (slen := Ops.std.slen) (sget := Ops.std.sget) (ssub := Ops.std.ssub) (llen := Ops.std.llen) (lget := Ops.std.lget) (lset := Ops.std.lset) (lapp := Ops.std.lapp) (lsub := Ops.std.lsub) (room := Ops.std.room) (call := (lim F pr).call) (loop := (lim F pr).loop) (prim := pr)  x0_kind x0_n x0_s x0_keys x0_kids t15 e3a  h1

theorem p27_0L (x0_kind : Int) (x0_n : Int) (x0_s : ByteArray) (x0_keys : List AV) (x0_kids : List AV) (x1 : ByteArray) (x2_kind : Int) (x2_n : Int) (x2_s : ByteArray) (x2_keys : List AV) (x2_kids : List AV) (r : Int) (x_kind : Int) (x_n : Int) (x_s : ByteArray) (x_keys : List AV) (x_kids : List AV) (h1 : Ops.std.ieq x0_kind 4 = true) (h2 : Ops.std.ieq (Ops.std.llen x0_keys) (Ops.std.llen x0_kids) = true) (h3 : (lim F pr).call 40 [.lit 9 false x0_keys, .sc (.string x1)] [] = some (.sc (.int .i64 r), [])) (h4 : Ops.std.ilt r (Ops.std.llen x0_keys) = true) (h5 : Ops.std.room 80 [] x0_kids = true) (h6 : Ops.std.lget x0_kids r = some (.agg [.sc (.int .i64 x_kind), .sc (.int .i64 x_n), .sc (.string x_s), .lit 9 false x_keys, .lit 32 false x_kids])) : runFn (lim F pr) g27 [.agg [.sc (.int .i64 x0_kind), .sc (.int .i64 x0_n), .sc (.string x0_s), .lit 9 false x0_keys, .lit 32 false x0_kids], .sc (.string x1), .agg [.sc (.int .i64 x2_kind), .sc (.int .i64 x2_n), .sc (.string x2_s), .lit 9 false x2_keys, .lit 32 false x2_kids]] [] = some (.agg [.sc (.int .i64 x0_kind), .sc (.int .i64 x0_n), .sc (.string x0_s), .lit 9 false x0_keys, .lit 32 false (Ops.std.lset x0_kids r (.agg [.sc (.int .i64 x2_kind), .sc (.int .i64 x2_n), .sc (.string x2_s), .lit 9 false x2_keys, .lit 32 false x2_kids]))], []) :=
  p27_0 (iadd := Ops.std.iadd) (isub := Ops.std.isub) (imul := Ops.std.imul) (iquo := Ops.std.iquo) (irem := Ops.std.irem) (ibit := Ops.std.ibit) (ishl := Ops.std.ishl) (ishr := Ops.std.ishr) (iwrap := Ops.std.iwrap) (ieq := Ops.std.ieq) (ilt := Ops.std.ilt) (ile := Ops.std.ile) (beq := Ops.std.beq) (seq := Ops.std.seq) (slt := Ops.std.slt) (sapp := Ops.std.sapp) (slen := Ops.std.slen) (sget := Ops.std.sget) (ssub := Ops.std.ssub) (llen := Ops.std.llen) (lget := Ops.std.lget) (lset := Ops.std.lset) (lapp := Ops.std.lapp) (lsub := Ops.std.lsub) (room := Ops.std.room) (call := (lim F pr).call) (loop := (lim F pr).loop) (prim := pr) b27_0 x0_kind x0_n x0_s x0_keys x0_kids x1 x2_kind x2_n x2_s x2_keys x2_kids r x_kind x_n x_s x_keys x_kids rfl h1 h2 h3 h4 h5 h6

theorem p27_1L (x0_kind : Int) (x0_n : Int) (x0_s : ByteArray) (x0_keys : List AV) (x0_kids : List AV) (x1 : ByteArray) (x2_kind : Int) (x2_n : Int) (x2_s : ByteArray) (x2_keys : List AV) (x2_kids : List AV) (r : Int) (t7o : Int) (ys : List AV) (ys1 : List AV) (ys2 : List AV) (ys3 : List AV) (h1 : Ops.std.ieq x0_kind 4 = true) (h2 : Ops.std.ieq (Ops.std.llen x0_keys) (Ops.std.llen x0_kids) = true) (h3 : (lim F pr).call 40 [.lit 9 false x0_keys, .sc (.string x1)] [] = some (.sc (.int .i64 r), [])) (h4 : Ops.std.ilt r (Ops.std.llen x0_keys) = false) (h5 : (lim F pr).loop [1, 5, 7, 3, 6] 3 b27_0 ⟨[.bad, .sc (.string x1), .bad, .bptr 0 0, .bad, .bptr 1 0, .bptr 2 0, .sc (.int .i64 0), .bad, .bad, .bad, .bad, .bad, .bad, .bad, .bad, .bad, .bad, .bad, .bad, .bad, .bad, .bad, .bad, .bad, .bad, .bad, .bad, .bad, .bad, .bad, .bad, .bad, .bad, .bad, .bad, .bad, .bad, .bad, .bad, .bad, .bad, .bad, .bad, .bad, .bad, .bad, .bad, .bad, .bad, .bad, .bad, .bad, .bad, .bad, .bad, .bad, .bad, .bad, .bad, .bad, .bad, .bad, .bad, .bad, .bad, .bad, .bad, .bad, .bad, .bad, .bad, .bad, .bad, .bad, .bad, .bad, .bad, .bad, .bad, .bad, .bad, .bad, .bad, .bad, .bad, .bad, .bad, .bad, .bad, .bad, .bad, .bad, .bad, .bad], [.box 32 [.sc (.int .i64 x0_kind), .sc (.int .i64 x0_n), .sc (.string x0_s), .lit 9 false x0_keys, .lit 32 false x0_kids], .box 32 [.sc (.int .i64 x2_kind), .sc (.int .i64 x2_n), .sc (.string x2_s), .lit 9 false x2_keys, .lit 32 false x2_kids], .box 32 [.sc (.int .i64 0), .sc (.int .i64 0), .sc (.string ⟨#[]⟩), .lit 0 true [], .lit 0 true []]]⟩ = some (.brk 0, ⟨[.bad, .sc (.string x1), .bad, .bptr 0 0, .bad, .bptr 1 0, .bptr 2 0, .sc (.int .i64 t7o), .bad, .bad, .bad, .bad, .bad, .bad, .bad, .bad, .bad, .bad, .bad, .bad, .bad, .bad, .bad, .bad, .bad, .bad, .bad, .bad, .bad, .bad, .bad, .bad, .bad, .bad, .bad, .bad, .bad, .bad, .bad, .bad, .bad, .bad, .bad, .bad, .bad, .bad, .bad, .bad, .bad, .bad, .bad, .bad, .bad, .bad, .bad, .bad, .bad, .bad, .bad, .bad, .bad, .bad, .bad, .bad, .bad, .bad, .bad, .bad, .bad, .bad, .bad, .bad, .bad, .bad, .bad, .bad, .bad, .bad, .bad, .bad, .bad, .bad, .bad, .bad, .bad, .bad, .bad, .bad, .bad, .bad, .bad, .bad, .bad, .bad, .bad], [.box 32 [.sc (.int .i64 x0_kind), .sc (.int .i64 x0_n), .sc (.string x0_s), .lit 9 false x0_keys, .lit 32 false x0_kids], .box 32 [.sc (.int .i64 x2_kind), .sc (.int .i64 x2_n), .sc (.string x2_s), .lit 9 false x2_keys, .lit 32 false x2_kids], .box 32 [.sc (.int .i64 0), .sc (.int .i64 0), .sc (.string ⟨#[]⟩), .lit 0 true [], .lit 0 true []]]⟩)) (h6 : Ops.std.lsub x0_keys 0 t7o = some ys) (h7 : Ops.std.room 16 [] ys = true) (h8 : Ops.std.room 16 ys [.sc (.string x1)] = true) (h9 : Ops.std.lsub x0_kids 0 t7o = some ys1) (h10 : Ops.std.room 80 [] ys1 = true) (h11 : Ops.std.room 80 ys1 [.agg [.sc (.int .i64 x2_kind), .sc (.int .i64 x2_n), .sc (.string x2_s), .lit 9 false x2_keys, .lit 32 false x2_kids]] = true) (h12 : Ops.std.lsub x0_keys t7o (Ops.std.llen x0_keys) = some ys2) (h13 : Ops.std.room 16 (Ops.std.lapp ys [.sc (.string x1)]) ys2 = true) (h14 : Ops.std.lsub x0_kids t7o (Ops.std.llen x0_kids) = some ys3) (h15 : Ops.std.room 80 (Ops.std.lapp ys1 [.agg [.sc (.int .i64 x2_kind), .sc (.int .i64 x2_n), .sc (.string x2_s), .lit 9 false x2_keys, .lit 32 false x2_kids]]) ys3 = true) : runFn (lim F pr) g27 [.agg [.sc (.int .i64 x0_kind), .sc (.int .i64 x0_n), .sc (.string x0_s), .lit 9 false x0_keys, .lit 32 false x0_kids], .sc (.string x1), .agg [.sc (.int .i64 x2_kind), .sc (.int .i64 x2_n), .sc (.string x2_s), .lit 9 false x2_keys, .lit 32 false x2_kids]] [] = some (.agg [.sc (.int .i64 x0_kind), .sc (.int .i64 x0_n), .sc (.string x0_s), .lit 9 false (Ops.std.lapp (Ops.std.lapp ys [.sc (.string x1)]) ys2), .lit 32 false (Ops.std.lapp (Ops.std.lapp ys1 [.agg [.sc (.int .i64 x2_kind), .sc (.int .i64 x2_n), .sc (.string x2_s), .lit 9 false x2_keys, .lit 32 false x2_kids]]) ys3)], []) :=
  p27_1 (iadd := Ops.std.iadd) (isub := Ops.std.isub) (imul := Ops.std.imul) (iquo := Ops.std.iquo) (irem := Ops.std.irem) (ibit := Ops.std.ibit) (ishl := Ops.std.ishl) (ishr := Ops.std.ishr) (iwrap := Ops.std.iwrap) (ieq := Ops.std.ieq) (ilt := Ops.std.ilt) (ile := Ops.std.ile) (beq := Ops.std.beq) (seq := Ops.std.seq) (slt := Ops.std.slt) (sapp := Ops.std.sapp) (slen := Ops.std.slen) (sget := Ops.std.sget) (ssub := Ops.std.ssub) (llen := Ops.std.llen) (lget := Ops.std.lget) (lset := Ops.std.lset) (lapp := Ops.std.lapp) (lsub := Ops.std.lsub) (room := Ops.std.room) (call := (lim F pr).call) (loop := (lim F pr).loop) (prim := pr) b27_0 x0_kind x0_n x0_s x0_keys x0_kids x1 x2_kind x2_n x2_s x2_keys x2_kids r t7o ys ys1 ys2 ys3 rfl h1 h2 h3 h4 h5 h6 h7 h8 h9 h10 h11 h12 h13 h14 h15

theorem p27_2L (x0_kind : Int) (x0_n : Int) (x0_s : ByteArray) (x0_keys : List AV) (x0_kids : List AV) (x1 : ByteArray) (x2_kind : Int) (x2_n : Int) (x2_s : ByteArray) (x2_keys : List AV) (x2_kids : List AV) (h1 : Ops.std.ieq x0_kind 4 = true) (h2 : Ops.std.ieq (Ops.std.llen x0_keys) (Ops.std.llen x0_kids) = false) : runFn (lim F pr) g27 [.agg [.sc (.int .i64 x0_kind), .sc (.int .i64 x0_n), .sc (.string x0_s), .lit 9 false x0_keys, .lit 32 false x0_kids], .sc (.string x1), .agg [.sc (.int .i64 x2_kind), .sc (.int .i64 x2_n), .sc (.string x2_s), .lit 9 false x2_keys, .lit 32 false x2_kids]] [] = some (.agg [.sc (.int .i64 x0_kind), .sc (.int .i64 x0_n), .sc (.string x0_s), .lit 9 false x0_keys, .lit 32 false x0_kids], []) :=
  p27_2 (iadd := Ops.std.iadd) (isub := Ops.std.isub) (imul := Ops.std.imul) (iquo := Ops.std.iquo) (irem := Ops.std.irem) (ibit := Ops.std.ibit) (ishl := Ops.std.ishl) (ishr := Ops.std.ishr) (iwrap := Ops.std.iwrap) (ieq := Ops.std.ieq) (ilt := Ops.std.ilt) (ile := Ops.std.ile) (beq := Ops.std.beq) (seq := Ops.std.seq) (slt := Ops.std.slt) (sapp := Ops.std.sapp) (slen := Ops.std.slen) (sget := Ops.std.sget) (ssub := Ops.std.ssub) (llen := Ops.std.llen) (lget := Ops.std.lget) (lset := Ops.std.lset) (lapp := Ops.std.lapp) (lsub := Ops.std.lsub) (room := Ops.std.room) (call := (lim F pr).call) (loop := (lim F pr).loop) (prim := pr) b27_0 x0_kind x0_n x0_s x0_keys x0_kids x1 x2_kind x2_n x2_s x2_keys x2_kids  h1 h2

theorem p27_3L (x0_kind : Int) (x0_n : Int) (x0_s : ByteArray) (x0_keys : List AV) (x0_kids : List AV) (x1 : ByteArray) (x2_kind : Int) (x2_n : Int) (x2_s : ByteArray) (x2_keys : List AV) (x2_kids : List AV) (h1 : Ops.std.ieq x0_kind 4 = false) : runFn (lim F pr) g27 [.agg [.sc (.int .i64 x0_kind), .sc (.int .i64 x0_n), .sc (.string x0_s), .lit 9 false x0_keys, .lit 32 false x0_kids], .sc (.string x1), .agg [.sc (.int .i64 x2_kind), .sc (.int .i64 x2_n), .sc (.string x2_s), .lit 9 false x2_keys, .lit 32 false x2_kids]] [] = some (.agg [.sc (.int .i64 x0_kind), .sc (.int .i64 x0_n), .sc (.string x0_s), .lit 9 false x0_keys, .lit 32 false x0_kids], []) :=
  p27_3 (iadd := Ops.std.iadd) (isub := Ops.std.isub) (imul := Ops.std.imul) (iquo := Ops.std.iquo) (irem := Ops.std.irem) (ibit := Ops.std.ibit) (ishl := Ops.std.ishl) (ishr := Ops.std.ishr) (iwrap := Ops.std.iwrap) (ieq := Ops.std.ieq) (ilt := Ops.std.ilt) (ile := Ops.std.ile) (beq := Ops.std.beq) (seq := Ops.std.seq) (slt := Ops.std.slt) (sapp := Ops.std.sapp) (slen := Ops.std.slen) (sget := Ops.std.sget) (ssub := Ops.std.ssub) (llen := Ops.std.llen) (lget := Ops.std.lget) (lset := Ops.std.lset) (lapp := Ops.std.lapp) (lsub := Ops.std.lsub) (room := Ops.std.room) (call := (lim F pr).call) (loop := (lim F pr).loop) (prim := pr) b27_0 x0_kind x0_n x0_s x0_keys x0_kids x1 x2_kind x2_n x2_s x2_keys x2_kids  h1

abbrev W27_0_0 (x0_kind : Int) (x0_n : Int) (x0_s : ByteArray) (x0_keys : List AV) (x0_kids : List AV) (x1 : ByteArray) (x2_kind : Int) (x2_n : Int) (x2_s : ByteArray) (x2_keys : List AV) (x2_kids : List AV) (t7o : Int) : X × St := (.brk 0, ⟨[.bad, .sc (.string x1), .bad, .bptr 0 0, .bad, .bptr 1 0, .bptr 2 0, .sc (.int .i64 t7o), .bad, .bad, .bad, .bad, .bad, .bad, .bad, .bad, .bad, .bad, .bad, .bad, .bad, .bad, .bad, .bad, .bad, .bad, .bad, .bad, .bad, .bad, .bad, .bad, .bad, .bad, .bad, .bad, .bad, .bad, .bad, .bad, .bad, .bad, .bad, .bad, .bad, .bad, .bad, .bad, .bad, .bad, .bad, .bad, .bad, .bad, .bad, .bad, .bad, .bad, .bad, .bad, .bad, .bad, .bad, .bad, .bad, .bad, .bad, .bad, .bad, .bad, .bad, .bad, .bad, .bad, .bad, .bad, .bad, .bad, .bad, .bad, .bad, .bad, .bad, .bad, .bad, .bad, .bad, .bad, .bad, .bad, .bad, .bad, .bad, .bad, .bad], [.box 32 [.sc (.int .i64 x0_kind), .sc (.int .i64 x0_n), .sc (.string x0_s), .lit 9 false x0_keys, .lit 32 false x0_kids], .box 32 [.sc (.int .i64 x2_kind), .sc (.int .i64 x2_n), .sc (.string x2_s), .lit 9 false x2_keys, .lit 32 false x2_kids], .box 32 [.sc (.int .i64 0), .sc (.int .i64 0), .sc (.string ⟨#[]⟩), .lit 0 true [], .lit 0 true []]]⟩)

abbrev H27_0_0 (x0_kind : Int) (x0_n : Int) (x0_s : ByteArray) (x0_keys : List AV) (x0_kids : List AV) (x1 : ByteArray) (x2_kind : Int) (x2_n : Int) (x2_s : ByteArray) (x2_keys : List AV) (x2_kids : List AV) (t7 : Int) : St := ⟨[.bad, .sc (.string x1), .bad, .bptr 0 0, .bad, .bptr 1 0, .bptr 2 0, .sc (.int .i64 t7), .bad, .bad, .bad, .bad, .bad, .bad, .bad, .bad, .bad, .bad, .bad, .bad, .bad, .bad, .bad, .bad, .bad, .bad, .bad, .bad, .bad, .bad, .bad, .bad, .bad, .bad, .bad, .bad, .bad, .bad, .bad, .bad, .bad, .bad, .bad, .bad, .bad, .bad, .bad, .bad, .bad, .bad, .bad, .bad, .bad, .bad, .bad, .bad, .bad, .bad, .bad, .bad, .bad, .bad, .bad, .bad, .bad, .bad, .bad, .bad, .bad, .bad, .bad, .bad, .bad, .bad, .bad, .bad, .bad, .bad, .bad, .bad, .bad, .bad, .bad, .bad, .bad, .bad, .bad, .bad, .bad, .bad, .bad, .bad, .bad, .bad, .bad], [.box 32 [.sc (.int .i64 x0_kind), .sc (.int .i64 x0_n), .sc (.string x0_s), .lit 9 false x0_keys, .lit 32 false x0_kids], .box 32 [.sc (.int .i64 x2_kind), .sc (.int .i64 x2_n), .sc (.string x2_s), .lit 9 false x2_keys, .lit 32 false x2_kids], .box 32 [.sc (.int .i64 0), .sc (.int .i64 0), .sc (.string ⟨#[]⟩), .lit 0 true [], .lit 0 true []]]⟩

theorem r27_0_0_0L (x0_kind : Int) (x0_n : Int) (x0_s : ByteArray) (x0_keys : List AV) (x0_kids : List AV) (x1 : ByteArray) (x2_kind : Int) (x2_n : Int) (x2_s : ByteArray) (x2_keys : List AV) (x2_kids : List AV) (t7 : Int) (x : ByteArray) (r1 : Bool) (h1 : Ops.std.ilt t7 (Ops.std.llen x0_keys) = true) (h2 : Ops.std.lget x0_keys t7 = some (.sc (.string x))) (h3 : (lim F pr).call 46 [.sc (.string x1), .sc (.string x)] [] = some (.sc (.bool r1), [])) (h4 : r1 = true) : Ifc.round (lim F pr) [1, 5, 7, 3, 6] 3 b27_0 ⟨[.bad, .sc (.string x1), .bad, .bptr 0 0, .bad, .bptr 1 0, .bptr 2 0, .sc (.int .i64 t7), .bad, .bad, .bad, .bad, .bad, .bad, .bad, .bad, .bad, .bad, .bad, .bad, .bad, .bad, .bad, .bad, .bad, .bad, .bad, .bad, .bad, .bad, .bad, .bad, .bad, .bad, .bad, .bad, .bad, .bad, .bad, .bad, .bad, .bad, .bad, .bad, .bad, .bad, .bad, .bad, .bad, .bad, .bad, .bad, .bad, .bad, .bad, .bad, .bad, .bad, .bad, .bad, .bad, .bad, .bad, .bad, .bad, .bad, .bad, .bad, .bad, .bad, .bad, .bad, .bad, .bad, .bad, .bad, .bad, .bad, .bad, .bad, .bad, .bad, .bad, .bad, .bad, .bad, .bad, .bad, .bad, .bad, .bad, .bad, .bad, .bad, .bad], [.box 32 [.sc (.int .i64 x0_kind), .sc (.int .i64 x0_n), .sc (.string x0_s), .lit 9 false x0_keys, .lit 32 false x0_kids], .box 32 [.sc (.int .i64 x2_kind), .sc (.int .i64 x2_n), .sc (.string x2_s), .lit 9 false x2_keys, .lit 32 false x2_kids], .box 32 [.sc (.int .i64 0), .sc (.int .i64 0), .sc (.string ⟨#[]⟩), .lit 0 true [], .lit 0 true []]]⟩ = some (.brk 0, ⟨[.bad, .sc (.string x1), .bad, .bptr 0 0, .bad, .bptr 1 0, .bptr 2 0, .sc (.int .i64 t7), .bad, .bad, .bad, .bad, .bad, .bad, .bad, .bad, .bad, .bad, .bad, .bad, .bad, .bad, .bad, .bad, .bad, .bad, .bad, .bad, .bad, .bad, .bad, .bad, .bad, .bad, .bad, .bad, .bad, .bad, .bad, .bad, .bad, .bad, .bad, .bad, .bad, .bad, .bad, .bad, .bad, .bad, .bad, .bad, .bad, .bad, .bad, .bad, .bad, .bad, .bad, .bad, .bad, .bad, .bad, .bad, .bad, .bad, .bad, .bad, .bad, .bad, .bad, .bad, .bad, .bad, .bad, .bad, .bad, .bad, .bad, .bad, .bad, .bad, .bad, .bad, .bad, .bad, .bad, .bad, .bad, .bad, .bad, .bad, .bad, .bad, .bad], [.box 32 [.sc (.int .i64 x0_kind), .sc (.int .i64 x0_n), .sc (.string x0_s), .lit 9 false x0_keys, .lit 32 false x0_kids], .box 32 [.sc (.int .i64 x2_kind), .sc (.int .i64 x2_n), .sc (.string x2_s), .lit 9 false x2_keys, .lit 32 false x2_kids], .box 32 [.sc (.int .i64 0), .sc (.int .i64 0), .sc (.string ⟨#[]⟩), .lit 0 true [], .lit 0 true []]]⟩) :=
  r27_0_0_0 (iadd := Ops.std.iadd) (isub := Ops.std.isub) (imul := Ops.std.imul) (iquo := Ops.std.iquo) (irem := Ops.std.irem) (ibit := Ops.std.ibit) (ishl := Ops.std.ishl) (ishr := Ops.std.ishr) (iwrap := Ops.std.iwrap) (ieq := Ops.std.ieq) (ilt := Ops.std.ilt) (ile := Ops.std.ile) (beq := Ops.std.beq) (seq := Ops.std.seq) (slt := Ops.std.slt) (sapp := Ops.std.sapp) (slen := Ops.std.slen) (sget := Ops.std.sget) (ssub := Ops.std.ssub) (llen := Ops.std.llen) (lget := Ops.std.lget) (lset := Ops.std.lset) (lapp := Ops.std.lapp) (lsub := Ops.std.lsub) (room := Ops.std.room) (call := (lim F pr).call) (loop := (lim F pr).loop) (prim := pr)  x0_kind x0_n x0_s x0_keys x0_kids x1 x2_kind x2_n x2_s x2_keys x2_kids t7 x r1 rfl h1 h2 h3 h4

theorem r27_0_0_1L (x0_kind : Int) (x0_n : Int) (x0_s : ByteArray) (x0_keys : List AV) (x0_kids : List AV) (x1 : ByteArray) (x2_kind : Int) (x2_n : Int) (x2_s : ByteArray) (x2_keys : List AV) (x2_kids : List AV) (t7 : Int) (x : ByteArray) (r1 : Bool) (h1 : Ops.std.ilt t7 (Ops.std.llen x0_keys) = true) (h2 : Ops.std.lget x0_keys t7 = some (.sc (.string x))) (h3 : (lim F pr).call 46 [.sc (.string x1), .sc (.string x)] [] = some (.sc (.bool r1), [])) (h4 : r1 = false) : Ifc.round (lim F pr) [1, 5, 7, 3, 6] 3 b27_0 ⟨[.bad, .sc (.string x1), .bad, .bptr 0 0, .bad, .bptr 1 0, .bptr 2 0, .sc (.int .i64 t7), .bad, .bad, .bad, .bad, .bad, .bad, .bad, .bad, .bad, .bad, .bad, .bad, .bad, .bad, .bad, .bad, .bad, .bad, .bad, .bad, .bad, .bad, .bad, .bad, .bad, .bad, .bad, .bad, .bad, .bad, .bad, .bad, .bad, .bad, .bad, .bad, .bad, .bad, .bad, .bad, .bad, .bad, .bad, .bad, .bad, .bad, .bad, .bad, .bad, .bad, .bad, .bad, .bad, .bad, .bad, .bad, .bad, .bad, .bad, .bad, .bad, .bad, .bad, .bad, .bad, .bad, .bad, .bad, .bad, .bad, .bad, .bad, .bad, .bad, .bad, .bad, .bad, .bad, .bad, .bad, .bad, .bad, .bad, .bad, .bad, .bad, .bad], [.box 32 [.sc (.int .i64 x0_kind), .sc (.int .i64 x0_n), .sc (.string x0_s), .lit 9 false x0_keys, .lit 32 false x0_kids], .box 32 [.sc (.int .i64 x2_kind), .sc (.int .i64 x2_n), .sc (.string x2_s), .lit 9 false x2_keys, .lit 32 false x2_kids], .box 32 [.sc (.int .i64 0), .sc (.int .i64 0), .sc (.string ⟨#[]⟩), .lit 0 true [], .lit 0 true []]]⟩ = (lim F pr).loop [1, 5, 7, 3, 6] 3 b27_0 ⟨[.bad, .sc (.string x1), .bad, .bptr 0 0, .bad, .bptr 1 0, .bptr 2 0, .sc (.int .i64 (Ops.std.iadd .i64 t7 1)), .bad, .bad, .bad, .bad, .bad, .bad, .bad, .bad, .bad, .bad, .bad, .bad, .bad, .bad, .bad, .bad, .bad, .bad, .bad, .bad, .bad, .bad, .bad, .bad, .bad, .bad, .bad, .bad, .bad, .bad, .bad, .bad, .bad, .bad, .bad, .bad, .bad, .bad, .bad, .bad, .bad, .bad, .bad, .bad, .bad, .bad, .bad, .bad, .bad, .bad, .bad, .bad, .bad, .bad, .bad, .bad, .bad, .bad, .bad, .bad, .bad, .bad, .bad, .bad, .bad, .bad, .bad, .bad, .bad, .bad, .bad, .bad, .bad, .bad, .bad, .bad, .bad, .bad, .bad, .bad, .bad, .bad, .bad, .bad, .bad, .bad, .bad], [.box 32 [.sc (.int .i64 x0_kind), .sc (.int .i64 x0_n), .sc (.string x0_s), .lit 9 false x0_keys, .lit 32 false x0_kids], .box 32 [.sc (.int .i64 x2_kind), .sc (.int .i64 x2_n), .sc (.string x2_s), .lit 9 false x2_keys, .lit 32 false x2_kids], .box 32 [.sc (.int .i64 0), .sc (.int .i64 0), .sc (.string ⟨#[]⟩), .lit 0 true [], .lit 0 true []]]⟩ :=
  r27_0_0_1 (iadd := Ops.std.iadd) (isub := Ops.std.isub) (imul := Ops.std.imul) (iquo := Ops.std.iquo) (irem := Ops.std.irem) (ibit := Ops.std.ibit) (ishl := Ops.std.ishl) (ishr := Ops.std.ishr) (iwrap := Ops.std.iwrap) (ieq := Ops.std.ieq) (ilt := Ops.std.ilt) (ile := Ops.std.ile) (beq := Ops.std.beq) (seq := Ops.std.seq) (slt := Ops.std.slt) (sapp := Ops.std.sapp) (slen := Ops.std.slen) (sget := Ops.std.sget) (ssub := Ops.std.ssub) (llen := Ops.std.llen) (lget := Ops.std.lget) (lset := Ops.std.lset) (lapp := Ops.std.lapp) (lsub := Ops.std.lsub) (room := Ops.std.room) (call := (lim F pr).call) (loop := (lim F pr).loop) (prim := pr)  x0_kind x0_n x0_s x0_keys x0_kids x1 x2_kind x2_n x2_s x2_keys x2_kids t7 x r1 rfl h1 h2 h3 h4

theorem r27_0_0_2L (x0_kind : Int) (x0_n : Int) (x0_s : ByteArray) (x0_keys : List AV) (x0_kids : List AV) (x1 : ByteArray) (x2_kind : Int) (x2_n : Int) (x2_s : ByteArray) (x2_keys : List AV) (x2_kids : List AV) (t7 : Int) (h1 : Ops.std.ilt t7 (Ops.std.llen x0_keys) = false) : Ifc.round (lim F pr) [1, 5, 7, 3, 6] 3 b27_0 ⟨[.bad, .sc (.string x1), .bad, .bptr 0 0, .bad, .bptr 1 0, .bptr 2 0, .sc (.int .i64 t7), .bad, .bad, .bad, .bad, .bad, .bad, .bad, .bad, .bad, .bad, .bad, .bad, .bad, .bad, .bad, .bad, .bad, .bad, .bad, .bad, .bad, .bad, .bad, .bad, .bad, .bad, .bad, .bad, .bad, .bad, .bad, .bad, .bad, .bad, .bad, .bad, .bad, .bad, .bad, .bad, .bad, .bad, .bad, .bad, .bad, .bad, .bad, .bad, .bad, .bad, .bad, .bad, .bad, .bad, .bad, .bad, .bad, .bad, .bad, .bad, .bad, .bad, .bad, .bad, .bad, .bad, .bad, .bad, .bad, .bad, .bad, .bad, .bad, .bad, .bad, .bad, .bad, .bad, .bad, .bad, .bad, .bad, .bad, .bad, .bad, .bad, .bad], [.box 32 [.sc (.int .i64 x0_kind), .sc (.int .i64 x0_n), .sc (.string x0_s), .lit 9 false x0_keys, .lit 32 false x0_kids], .box 32 [.sc (.int .i64 x2_kind), .sc (.int .i64 x2_n), .sc (.string x2_s), .lit 9 false x2_keys, .lit 32 false x2_kids], .box 32 [.sc (.int .i64 0), .sc (.int .i64 0), .sc (.string ⟨#[]⟩), .lit 0 true [], .lit 0 true []]]⟩ = some (.brk 0, ⟨[.bad, .sc (.string x1), .bad, .bptr 0 0, .bad, .bptr 1 0, .bptr 2 0, .sc (.int .i64 t7), .bad, .bad, .bad, .bad, .bad, .bad, .bad, .bad, .bad, .bad, .bad, .bad, .bad, .bad, .bad, .bad, .bad, .bad, .bad, .bad, .bad, .bad, .bad, .bad, .bad, .bad, .bad, .bad, .bad, .bad, .bad, .bad, .bad, .bad, .bad, .bad, .bad, .bad, .bad, .bad, .bad, .bad, .bad, .bad, .bad, .bad, .bad, .bad, .bad, .bad, .bad, .bad, .bad, .bad, .bad, .bad, .bad, .bad, .bad, .bad, .bad, .bad, .bad, .bad, .bad, .bad, .bad, .bad, .bad, .bad, .bad, .bad, .bad, .bad, .bad, .bad, .bad, .bad, .bad, .bad, .bad, .bad, .bad, .bad, .bad, .bad, .bad], [.box 32 [.sc (.int .i64 x0_kind), .sc (.int .i64 x0_n), .sc (.string x0_s), .lit 9 false x0_keys, .lit 32 false x0_kids], .box 32 [.sc (.int .i64 x2_kind), .sc (.int .i64 x2_n), .sc (.string x2_s), .lit 9 false x2_keys, .lit 32 false x2_kids], .box 32 [.sc (.int .i64 0), .sc (.int .i64 0), .sc (.string ⟨#[]⟩), .lit 0 true [], .lit 0 true []]]⟩) :=
  r27_0_0_2 (iadd := Ops.std.iadd) (isub := Ops.std.isub) (imul := Ops.std.imul) (iquo := Ops.std.iquo) (irem := Ops.std.irem) (ibit := Ops.std.ibit) (ishl := Ops.std.ishl) (ishr := Ops.std.ishr) (iwrap := Ops.std.iwrap) (ieq := Ops.std.ieq) (ilt := Ops.std.ilt) (ile := Ops.std.ile) (beq := Ops.std.beq) (seq := Ops.std.seq) (slt := Ops.std.slt) (sapp := Ops.std.sapp) (slen := Ops.std.slen) (sget := Ops.std.sget) (ssub := Ops.std.ssub) (llen := Ops.std.llen) (lget := Ops.std.lget) (lset := Ops.std.lset) (lapp := Ops.std.lapp) (lsub := Ops.std.lsub) (room := Ops.std.room) (call := (lim F pr).call) (loop := (lim F pr).loop) (prim := pr)  x0_kind x0_n x0_s x0_keys x0_kids x1 x2_kind x2_n x2_s x2_keys x2_kids t7  h1

theorem p28_0L (x0 : List AV) (r_kind : Int) (r_n : Int) (r_s : ByteArray) (r_keys : List AV) (r_kids : List AV) (h1 : (lim F pr).call 39 [.agg [.sc (.int .i64 3), .sc (.int .i64 0), .sc (.string ⟨#[]⟩), .lit 9 false [], .lit 32 false x0]] [] = some (.agg [.sc (.int .i64 r_kind), .sc (.int .i64 r_n), .sc (.string r_s), .sl 0 0, .sl 1 0], [.row 9 0 false r_keys, .row 32 0 false r_kids])) : runFn (lim F pr) g28 [.lit 32 false x0] [] = some (.agg [.sc (.int .i64 r_kind), .sc (.int .i64 r_n), .sc (.string r_s), .lit 9 false r_keys, .lit 32 false r_kids], []) :=
  p28_0 (iadd := Ops.std.iadd) (isub := Ops.std.isub) (imul := Ops.std.imul) (iquo := Ops.std.iquo) (irem := Ops.std.irem) (ibit := Ops.std.ibit) (ishl := Ops.std.ishl) (ishr := Ops.std.ishr) (iwrap := Ops.std.iwrap) (ieq := Ops.std.ieq) (ilt := Ops.std.ilt) (ile := Ops.std.ile) (beq := Ops.std.beq) (seq := Ops.std.seq) (slt := Ops.std.slt) (sapp := Ops.std.sapp) (slen := Ops.std.slen) (sget := Ops.std.sget) (ssub := Ops.std.ssub) (llen := Ops.std.llen) (lget := Ops.std.lget) (lset := Ops.std.lset) (lapp := Ops.std.lapp) (lsub := Ops.std.lsub) (room := Ops.std.room) (call := (lim F pr).call) (loop := (lim F pr).loop) (prim := pr)  x0 r_kind r_n r_s r_keys r_kids rfl h1

theorem p26_0L (x0_kind : Int) (x0_n : Int) (x0_s : ByteArray) (x0_keys : List AV) (x0_kids : List AV) (x1 : ByteArray) (x2_kind : Int) (x2_n : Int) (x2_s : ByteArray) (x2_keys : List AV) (x2_kids : List AV) (r_kind : Int) (r_n : Int) (r_s : ByteArray) (r_keys : List AV) (r_kids : List AV) (r_kind1 : Int) (r_n1 : Int) (r_s1 : ByteArray) (r_keys1 : List AV) (r_kids1 : List AV) (r : Int) (x_kind : Int) (x_n : Int) (x_s : ByteArray) (x_keys : List AV) (x_kids : List AV) (h1 : (lim F pr).call 39 [.agg [.sc (.int .i64 x0_kind), .sc (.int .i64 x0_n), .sc (.string x0_s), .lit 9 false x0_keys, .lit 32 false x0_kids]] [] = some (.agg [.sc (.int .i64 r_kind), .sc (.int .i64 r_n), .sc (.string r_s), .sl 0 0, .sl 1 0], [.row 9 0 false r_keys, .row 32 0 false r_kids])) (h2 : Ops.std.ieq r_kind 4 = true) (h3 : Ops.std.ieq (Ops.std.llen r_keys) (Ops.std.llen r_kids) = true) (h4 : (lim F pr).call 39 [.agg [.sc (.int .i64 x2_kind), .sc (.int .i64 x2_n), .sc (.string x2_s), .lit 9 false x2_keys, .lit 32 false x2_kids]] [] = some (.agg [.sc (.int .i64 r_kind1), .sc (.int .i64 r_n1), .sc (.string r_s1), .sl 0 0, .sl 1 0], [.row 9 0 false r_keys1, .row 32 0 false r_kids1])) (h5 : (lim F pr).call 38 [.lit 9 false r_keys, .sc (.string x1)] [] = some (.sc (.int .i64 r), [])) (h6 : Ops.std.ile 0 r = true) (h7 : Ops.std.lget r_kids r = some (.agg [.sc (.int .i64 x_kind), .sc (.int .i64 x_n), .sc (.string x_s), .lit 9 false x_keys, .lit 32 false x_kids])) : runFn (lim F pr) g26 [.agg [.sc (.int .i64 x0_kind), .sc (.int .i64 x0_n), .sc (.string x0_s), .lit 9 false x0_keys, .lit 32 false x0_kids], .sc (.string x1), .agg [.sc (.int .i64 x2_kind), .sc (.int .i64 x2_n), .sc (.string x2_s), .lit 9 false x2_keys, .lit 32 false x2_kids]] [] = some (.agg [.sc (.int .i64 r_kind), .sc (.int .i64 r_n), .sc (.string r_s), .lit 9 false r_keys, .lit 32 false (Ops.std.lset r_kids r (.agg [.sc (.int .i64 r_kind1), .sc (.int .i64 r_n1), .sc (.string r_s1), .lit 9 false r_keys1, .lit 32 false r_kids1]))], []) :=
  p26_0 (iadd := Ops.std.iadd) (isub := Ops.std.isub) (imul := Ops.std.imul) (iquo := Ops.std.iquo) (irem := Ops.std.irem) (ibit := Ops.std.ibit) (ishl := Ops.std.ishl) (ishr := Ops.std.ishr) (iwrap := Ops.std.iwrap) (ieq := Ops.std.ieq) (ilt := Ops.std.ilt) (ile := Ops.std.ile) (beq := Ops.std.beq) (seq := Ops.std.seq) (slt := Ops.std.slt) (sapp := Ops.std.sapp) (slen := Ops.std.slen) (sget := Ops.std.sget) (ssub := Ops.std.ssub) (llen := Ops.std.llen) (lget := Ops.std.lget) (lset := Ops.std.lset) (lapp := Ops.std.lapp) (lsub := Ops.std.lsub) (room := Ops.std.room) (call := (lim F pr).call) (loop := (lim F pr).loop) (prim := pr)  x0_kind x0_n x0_s x0_keys x0_kids x1 x2_kind x2_n x2_s x2_keys x2_kids r_kind r_n r_s r_keys r_kids r_kind1 r_n1 r_s1 r_keys1 r_kids1 r x_kind x_n x_s x_keys x_kids rfl rfl h1 h2 h3 h4 h5 h6 h7

theorem p26_1L (x0_kind : Int) (x0_n : Int) (x0_s : ByteArray) (x0_keys : List AV) (x0_kids : List AV) (x1 : ByteArray) (x2_kind : Int) (x2_n : Int) (x2_s : ByteArray) (x2_keys : List AV) (x2_kids : List AV) (r_kind : Int) (r_n : Int) (r_s : ByteArray) (r_keys : List AV) (r_kids : List AV) (r_kind1 : Int) (r_n1 : Int) (r_s1 : ByteArray) (r_keys1 : List AV) (r_kids1 : List AV) (r : Int) (r1 : Int) (ys : List AV) (ys1 : List AV) (ys2 : List AV) (ys3 : List AV) (h1 : (lim F pr).call 39 [.agg [.sc (.int .i64 x0_kind), .sc (.int .i64 x0_n), .sc (.string x0_s), .lit 9 false x0_keys, .lit 32 false x0_kids]] [] = some (.agg [.sc (.int .i64 r_kind), .sc (.int .i64 r_n), .sc (.string r_s), .sl 0 0, .sl 1 0], [.row 9 0 false r_keys, .row 32 0 false r_kids])) (h2 : Ops.std.ieq r_kind 4 = true) (h3 : Ops.std.ieq (Ops.std.llen r_keys) (Ops.std.llen r_kids) = true) (h4 : (lim F pr).call 39 [.agg [.sc (.int .i64 x2_kind), .sc (.int .i64 x2_n), .sc (.string x2_s), .lit 9 false x2_keys, .lit 32 false x2_kids]] [] = some (.agg [.sc (.int .i64 r_kind1), .sc (.int .i64 r_n1), .sc (.string r_s1), .sl 0 0, .sl 1 0], [.row 9 0 false r_keys1, .row 32 0 false r_kids1])) (h5 : (lim F pr).call 38 [.lit 9 false r_keys, .sc (.string x1)] [] = some (.sc (.int .i64 r), [])) (h6 : Ops.std.ile 0 r = false) (h7 : (lim F pr).call 42 [.lit 9 false r_keys, .fn 43 [.bptr 0 0]] [.box 9 [.sc (.string x1)]] = some (.sc (.int .i64 r1), [.box 9 [.sc (.string x1)]])) (h8 : Ops.std.ilt r1 0 = true) (h9 : Ops.std.room 16 r_keys [.sc (.string x1)] = true) (h10 : Ops.std.lsub r_keys 0 (Ops.std.llen r_keys) = some ys) (h11 : Ops.std.lsub r_keys (Ops.std.llen r_keys) (Ops.std.llen r_keys) = some ys1) (h12 : Ops.std.room 80 r_kids [.agg [.sc (.int .i64 r_kind1), .sc (.int .i64 r_n1), .sc (.string r_s1), .lit 9 false r_keys1, .lit 32 false r_kids1]] = true) (h13 : Ops.std.lsub r_kids 0 (Ops.std.llen r_keys) = some ys2) (h14 : Ops.std.lsub r_kids (Ops.std.llen r_keys) (Ops.std.llen r_kids) = some ys3) : runFn (lim F pr) g26 [.agg [.sc (.int .i64 x0_kind), .sc (.int .i64 x0_n), .sc (.string x0_s), .lit 9 false x0_keys, .lit 32 false x0_kids], .sc (.string x1), .agg [.sc (.int .i64 x2_kind), .sc (.int .i64 x2_n), .sc (.string x2_s), .lit 9 false x2_keys, .lit 32 false x2_kids]] [] = some (.agg [.sc (.int .i64 r_kind), .sc (.int .i64 r_n), .sc (.string r_s), .lit 9 false (Ops.std.lapp ys (Ops.std.lapp [.sc (.string x1)] ys1)), .lit 32 false (Ops.std.lapp ys2 (Ops.std.lapp [.agg [.sc (.int .i64 r_kind1), .sc (.int .i64 r_n1), .sc (.string r_s1), .lit 9 false r_keys1, .lit 32 false r_kids1]] ys3))], []) :=
  p26_1 (iadd := Ops.std.iadd) (isub := Ops.std.isub) (imul := Ops.std.imul) (iquo := Ops.std.iquo) (irem := Ops.std.irem) (ibit := Ops.std.ibit) (ishl := Ops.std.ishl) (ishr := Ops.std.ishr) (iwrap := Ops.std.iwrap) (ieq := Ops.std.ieq) (ilt := Ops.std.ilt) (ile := Ops.std.ile) (beq := Ops.std.beq) (seq := Ops.std.seq) (slt := Ops.std.slt) (sapp := Ops.std.sapp) (slen := Ops.std.slen) (sget := Ops.std.sget) (ssub := Ops.std.ssub) (llen := Ops.std.llen) (lget := Ops.std.lget) (lset := Ops.std.lset) (lapp := Ops.std.lapp) (lsub := Ops.std.lsub) (room := Ops.std.room) (call := (lim F pr).call) (loop := (lim F pr).loop) (prim := pr)  x0_kind x0_n x0_s x0_keys x0_kids x1 x2_kind x2_n x2_s x2_keys x2_kids r_kind r_n r_s r_keys r_kids r_kind1 r_n1 r_s1 r_keys1 r_kids1 r r1 ys ys1 ys2 ys3 rfl rfl rfl rfl rfl h1 h2 h3 h4 h5 h6 h7 h8 h9 h10 h11 h12 h13 h14

theorem p26_2L (x0_kind : Int) (x0_n : Int) (x0_s : ByteArray) (x0_keys : List AV) (x0_kids : List AV) (x1 : ByteArray) (x2_kind : Int) (x2_n : Int) (x2_s : ByteArray) (x2_keys : List AV) (x2_kids : List AV) (r_kind : Int) (r_n : Int) (r_s : ByteArray) (r_keys : List AV) (r_kids : List AV) (r_kind1 : Int) (r_n1 : Int) (r_s1 : ByteArray) (r_keys1 : List AV) (r_kids1 : List AV) (r : Int) (r1 : Int) (ys : List AV) (ys1 : List AV) (ys2 : List AV) (ys3 : List AV) (h1 : (lim F pr).call 39 [.agg [.sc (.int .i64 x0_kind), .sc (.int .i64 x0_n), .sc (.string x0_s), .lit 9 false x0_keys, .lit 32 false x0_kids]] [] = some (.agg [.sc (.int .i64 r_kind), .sc (.int .i64 r_n), .sc (.string r_s), .sl 0 0, .sl 1 0], [.row 9 0 false r_keys, .row 32 0 false r_kids])) (h2 : Ops.std.ieq r_kind 4 = true) (h3 : Ops.std.ieq (Ops.std.llen r_keys) (Ops.std.llen r_kids) = true) (h4 : (lim F pr).call 39 [.agg [.sc (.int .i64 x2_kind), .sc (.int .i64 x2_n), .sc (.string x2_s), .lit 9 false x2_keys, .lit 32 false x2_kids]] [] = some (.agg [.sc (.int .i64 r_kind1), .sc (.int .i64 r_n1), .sc (.string r_s1), .sl 0 0, .sl 1 0], [.row 9 0 false r_keys1, .row 32 0 false r_kids1])) (h5 : (lim F pr).call 38 [.lit 9 false r_keys, .sc (.string x1)] [] = some (.sc (.int .i64 r), [])) (h6 : Ops.std.ile 0 r = false) (h7 : (lim F pr).call 42 [.lit 9 false r_keys, .fn 43 [.bptr 0 0]] [.box 9 [.sc (.string x1)]] = some (.sc (.int .i64 r1), [.box 9 [.sc (.string x1)]])) (h8 : Ops.std.ilt r1 0 = false) (h9 : Ops.std.room 16 r_keys [.sc (.string x1)] = true) (h10 : Ops.std.lsub r_keys 0 r1 = some ys) (h11 : Ops.std.lsub r_keys r1 (Ops.std.llen r_keys) = some ys1) (h12 : Ops.std.room 80 r_kids [.agg [.sc (.int .i64 r_kind1), .sc (.int .i64 r_n1), .sc (.string r_s1), .lit 9 false r_keys1, .lit 32 false r_kids1]] = true) (h13 : Ops.std.lsub r_kids 0 r1 = some ys2) (h14 : Ops.std.lsub r_kids r1 (Ops.std.llen r_kids) = some ys3) : runFn (lim F pr) g26 [.agg [.sc (.int .i64 x0_kind), .sc (.int .i64 x0_n), .sc (.string x0_s), .lit 9 false x0_keys, .lit 32 false x0_kids], .sc (.string x1), .agg [.sc (.int .i64 x2_kind), .sc (.int .i64 x2_n), .sc (.string x2_s), .lit 9 false x2_keys, .lit 32 false x2_kids]] [] = some (.agg [.sc (.int .i64 r_kind), .sc (.int .i64 r_n), .sc (.string r_s), .lit 9 false (Ops.std.lapp ys (Ops.std.lapp [.sc (.string x1)] ys1)), .lit 32 false (Ops.std.lapp ys2 (Ops.std.lapp [.agg [.sc (.int .i64 r_kind1), .sc (.int .i64 r_n1), .sc (.string r_s1), .lit 9 false r_keys1, .lit 32 false r_kids1]] ys3))], []) :=
  p26_2 (iadd := Ops.std.iadd) (isub := Ops.std.isub) (imul := Ops.std.imul) (iquo := Ops.std.iquo) (irem := Ops.std.irem) (ibit := Ops.std.ibit) (ishl := Ops.std.ishl) (ishr := Ops.std.ishr) (iwrap := Ops.std.iwrap) (ieq := Ops.std.ieq) (ilt := Ops.std.ilt) (ile := Ops.std.ile) (beq := Ops.std.beq) (seq := Ops.std.seq) (slt := Ops.std.slt) (sapp := Ops.std.sapp) (slen := Ops.std.slen) (sget := Ops.std.sget) (ssub := Ops.std.ssub) (llen := Ops.std.llen) (lget := Ops.std.lget) (lset := Ops.std.lset) (lapp := Ops.std.lapp) (lsub := Ops.std.lsub) (room := Ops.std.room) (call := (lim F pr).call) (loop := (lim F pr).loop) (prim := pr)  x0_kind x0_n x0_s x0_keys x0_kids x1 x2_kind x2_n x2_s x2_keys x2_kids r_kind r_n r_s r_keys r_kids r_kind1 r_n1 r_s1 r_keys1 r_kids1 r r1 ys ys1 ys2 ys3 rfl rfl rfl rfl rfl h1 h2 h3 h4 h5 h6 h7 h8 h9 h10 h11 h12 h13 h14

theorem p26_3L (x0_kind : Int) (x0_n : Int) (x0_s : ByteArray) (x0_keys : List AV) (x0_kids : List AV) (x1 : ByteArray) (x2_kind : Int) (x2_n : Int) (x2_s : ByteArray) (x2_keys : List AV) (x2_kids : List AV) (r_kind : Int) (r_n : Int) (r_s : ByteArray) (r_keys : List AV) (r_kids : List AV) (h1 : (lim F pr).call 39 [.agg [.sc (.int .i64 x0_kind), .sc (.int .i64 x0_n), .sc (.string x0_s), .lit 9 false x0_keys, .lit 32 false x0_kids]] [] = some (.agg [.sc (.int .i64 r_kind), .sc (.int .i64 r_n), .sc (.string r_s), .sl 0 0, .sl 1 0], [.row 9 0 false r_keys, .row 32 0 false r_kids])) (h2 : Ops.std.ieq r_kind 4 = true) (h3 : Ops.std.ieq (Ops.std.llen r_keys) (Ops.std.llen r_kids) = false) : runFn (lim F pr) g26 [.agg [.sc (.int .i64 x0_kind), .sc (.int .i64 x0_n), .sc (.string x0_s), .lit 9 false x0_keys, .lit 32 false x0_kids], .sc (.string x1), .agg [.sc (.int .i64 x2_kind), .sc (.int .i64 x2_n), .sc (.string x2_s), .lit 9 false x2_keys, .lit 32 false x2_kids]] [] = some (.agg [.sc (.int .i64 r_kind), .sc (.int .i64 r_n), .sc (.string r_s), .lit 9 false r_keys, .lit 32 false r_kids], []) :=
  p26_3 (iadd := Ops.std.iadd) (isub := Ops.std.isub) (imul := Ops.std.imul) (iquo := Ops.std.iquo) (irem := Ops.std.irem) (ibit := Ops.std.ibit) (ishl := Ops.std.ishl) (ishr := Ops.std.ishr) (iwrap := Ops.std.iwrap) (ieq := Ops.std.ieq) (ilt := Ops.std.ilt) (ile := Ops.std.ile) (beq := Ops.std.beq) (seq := Ops.std.seq) (slt := Ops.std.slt) (sapp := Ops.std.sapp) (slen := Ops.std.slen) (sget := Ops.std.sget) (ssub := Ops.std.ssub) (llen := Ops.std.llen) (lget := Ops.std.lget) (lset := Ops.std.lset) (lapp := Ops.std.lapp) (lsub := Ops.std.lsub) (room := Ops.std.room) (call := (lim F pr).call) (loop := (lim F pr).loop) (prim := pr)  x0_kind x0_n x0_s x0_keys x0_kids x1 x2_kind x2_n x2_s x2_keys x2_kids r_kind r_n r_s r_keys r_kids rfl h1 h2 h3

theorem p26_4L (x0_kind : Int) (x0_n : Int) (x0_s : ByteArray) (x0_keys : List AV) (x0_kids : List AV) (x1 : ByteArray) (x2_kind : Int) (x2_n : Int) (x2_s : ByteArray) (x2_keys : List AV) (x2_kids : List AV) (r_kind : Int) (r_n : Int) (r_s : ByteArray) (r_keys : List AV) (r_kids : List AV) (h1 : (lim F pr).call 39 [.agg [.sc (.int .i64 x0_kind), .sc (.int .i64 x0_n), .sc (.string x0_s), .lit 9 false x0_keys, .lit 32 false x0_kids]] [] = some (.agg [.sc (.int .i64 r_kind), .sc (.int .i64 r_n), .sc (.string r_s), .sl 0 0, .sl 1 0], [.row 9 0 false r_keys, .row 32 0 false r_kids])) (h2 : Ops.std.ieq r_kind 4 = false) : runFn (lim F pr) g26 [.agg [.sc (.int .i64 x0_kind), .sc (.int .i64 x0_n), .sc (.string x0_s), .lit 9 false x0_keys, .lit 32 false x0_kids], .sc (.string x1), .agg [.sc (.int .i64 x2_kind), .sc (.int .i64 x2_n), .sc (.string x2_s), .lit 9 false x2_keys, .lit 32 false x2_kids]] [] = some (.agg [.sc (.int .i64 r_kind), .sc (.int .i64 r_n), .sc (.string r_s), .lit 9 false r_keys, .lit 32 false r_kids], []) :=
  p26_4 (iadd := Ops.std.iadd) (isub := Ops.std.isub) (imul := Ops.std.imul) (iquo := Ops.std.iquo) (irem := Ops.std.irem) (ibit := Ops.std.ibit) (ishl := Ops.std.ishl) (ishr := Ops.std.ishr) (iwrap := Ops.std.iwrap) (ieq := Ops.std.ieq) (ilt := Ops.std.ilt) (ile := Ops.std.ile) (beq := Ops.std.beq) (seq := Ops.std.seq) (slt := Ops.std.slt) (sapp := Ops.std.sapp) (slen := Ops.std.slen) (sget := Ops.std.sget) (ssub := Ops.std.ssub) (llen := Ops.std.llen) (lget := Ops.std.lget) (lset := Ops.std.lset) (lapp := Ops.std.lapp) (lsub := Ops.std.lsub) (room := Ops.std.room) (call := (lim F pr).call) (loop := (lim F pr).loop) (prim := pr)  x0_kind x0_n x0_s x0_keys x0_kids x1 x2_kind x2_n x2_s x2_keys x2_kids r_kind r_n r_s r_keys r_kids rfl h1 h2

end Go.Ab.Try
