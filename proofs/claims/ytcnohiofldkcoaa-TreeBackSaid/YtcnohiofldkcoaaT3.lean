/- What the functions of chapter 11 come to, way by way: printed by a program. -/
import Derived.Test.YtcnohiofldkcoaaTreeF
namespace Go.Ab.Try
open Go Go.Proofs
set_option linter.unusedVariables false
set_option maxRecDepth 10000
section
variable {iadd isub imul iquo : IntKind → Int → Int → Int} {irem : Int → Int → Int} {ibit : BinOp → IntKind → Int → Int → Int} {ishl ishr : IntKind → Int → Int → Int} {iwrap : IntKind → Int → Int}
  {ieq ilt ile : Int → Int → Bool} {beq : Bool → Bool → Bool} {seq slt : ByteArray → ByteArray → Bool} {sapp : ByteArray → ByteArray → Option ByteArray} {slen : ByteArray → Int} {sget : ByteArray → Int → Option Int} {ssub : ByteArray → Int → Int → Option ByteArray}
  {llen : List AV → Int} {lget : List AV → Int → Option AV} {lset : List AV → Int → AV → List AV} {lapp : List AV → List AV → List AV} {lsub : List AV → Int → Int → Option (List AV)} {room : Nat → List AV → List AV → Bool}
  {call : FuncId → List AV → Store → Option (AV × Store)} {loop : List Nat → Nat → Cd → St → Option (X × St)} {prim : FuncId → Option Prim}

theorem p38_0 (c0 : Cd) (x0 : List AV) (x1 : ByteArray) (t4o : Int) (h1 : loop [7, 1, 0, 8] 0 c0 ⟨[.lit 9 false x0, .sc (.string x1), .bad, .bad, .bad, .bad, .bad, .sc (.int .i64 (llen x0)), .sc (.int .i64 0), .bad, .bad, .bad, .bad, .bad, .bad, .bad, .bad, .bad, .bad], []⟩ = some (.ret, ⟨[.bad, .bad, .bad, .bad, .sc (.int .i64 t4o), .bad, .bad, .bad, .bad, .bad, .bad, .bad, .bad, .bad, .bad, .bad, .bad, .bad, .bad], []⟩)) : runFn ⟨⟨iadd, isub, imul, iquo, irem, ibit, ishl, ishr, iwrap, ieq, ilt, ile, beq, seq, slt, sapp, slen, sget, ssub, llen, lget, lset, lapp, lsub, room⟩, call, loop, prim⟩ (g38F c0) [.lit 9 false x0, .sc (.string x1)] [] = some (.sc (.int .i64 t4o), []) := by
  cbv
  all_goals (try rw [h1])
  all_goals (try cbv)

theorem p38_1 (c0 : Cd) (x0 : List AV) (x1 : ByteArray) (h1 : loop [7, 1, 0, 8] 0 c0 ⟨[.lit 9 false x0, .sc (.string x1), .bad, .bad, .bad, .bad, .bad, .sc (.int .i64 (llen x0)), .sc (.int .i64 0), .bad, .bad, .bad, .bad, .bad, .bad, .bad, .bad, .bad, .bad], []⟩ = some (.brk 0, ⟨[.bad, .bad, .bad, .bad, .bad, .bad, .bad, .bad, .bad, .bad, .bad, .bad, .bad, .bad, .bad, .bad, .bad, .bad, .bad], []⟩)) : runFn ⟨⟨iadd, isub, imul, iquo, irem, ibit, ishl, ishr, iwrap, ieq, ilt, ile, beq, seq, slt, sapp, slen, sget, ssub, llen, lget, lset, lapp, lsub, room⟩, call, loop, prim⟩ (g38F c0) [.lit 9 false x0, .sc (.string x1)] [] = some (.sc (.int .i64 (-1)), []) := by
  cbv
  all_goals (try rw [h1])
  all_goals (try cbv)

theorem r38_0_0_0 (x0 : List AV) (x1 : ByteArray) (t8 : Int) (x : ByteArray) (h1 : ilt t8 (llen x0) = true) (h2 : lget x0 t8 = some (.sc (.string x))) (h3 : seq x1 x = true) : Ifc.round ⟨⟨iadd, isub, imul, iquo, irem, ibit, ishl, ishr, iwrap, ieq, ilt, ile, beq, seq, slt, sapp, slen, sget, ssub, llen, lget, lset, lapp, lsub, room⟩, call, loop, prim⟩ [7, 1, 0, 8] 0 (b38_0F) ⟨[.lit 9 false x0, .sc (.string x1), .bad, .bad, .bad, .bad, .bad, .sc (.int .i64 (llen x0)), .sc (.int .i64 t8), .bad, .bad, .bad, .bad, .bad, .bad, .bad, .bad, .bad, .bad], []⟩ = some (.ret, ⟨[.bad, .bad, .bad, .bad, .sc (.int .i64 t8), .bad, .bad, .bad, .bad, .bad, .bad, .bad, .bad, .bad, .bad, .bad, .bad, .bad, .bad], []⟩) := by
  cbv
  all_goals (try rw [h1])
  all_goals (try cbv)
  all_goals (try rw [h2])
  all_goals (try cbv)
  all_goals (try rw [h2])
  all_goals (try cbv)
  all_goals (try rw [h3])
  all_goals (try cbv)

theorem r38_0_0_1 (x0 : List AV) (x1 : ByteArray) (t8 : Int) (x : ByteArray) (h1 : ilt t8 (llen x0) = true) (h2 : lget x0 t8 = some (.sc (.string x))) (h3 : seq x1 x = false) : Ifc.round ⟨⟨iadd, isub, imul, iquo, irem, ibit, ishl, ishr, iwrap, ieq, ilt, ile, beq, seq, slt, sapp, slen, sget, ssub, llen, lget, lset, lapp, lsub, room⟩, call, loop, prim⟩ [7, 1, 0, 8] 0 (b38_0F) ⟨[.lit 9 false x0, .sc (.string x1), .bad, .bad, .bad, .bad, .bad, .sc (.int .i64 (llen x0)), .sc (.int .i64 t8), .bad, .bad, .bad, .bad, .bad, .bad, .bad, .bad, .bad, .bad], []⟩ = loop [7, 1, 0, 8] 0 (b38_0F) ⟨[.lit 9 false x0, .sc (.string x1), .bad, .bad, .bad, .bad, .bad, .sc (.int .i64 (llen x0)), .sc (.int .i64 (iadd .i64 t8 1)), .bad, .bad, .bad, .bad, .bad, .bad, .bad, .bad, .bad, .bad], []⟩ := by
  cbv
  all_goals (try rw [h1])
  all_goals (try cbv)
  all_goals (try rw [h2])
  all_goals (try cbv)
  all_goals (try rw [h2])
  all_goals (try cbv)
  all_goals (try rw [h3])
  all_goals (try cbv)

theorem r38_0_0_2 (x0 : List AV) (x1 : ByteArray) (t8 : Int) (h1 : ilt t8 (llen x0) = false) : Ifc.round ⟨⟨iadd, isub, imul, iquo, irem, ibit, ishl, ishr, iwrap, ieq, ilt, ile, beq, seq, slt, sapp, slen, sget, ssub, llen, lget, lset, lapp, lsub, room⟩, call, loop, prim⟩ [7, 1, 0, 8] 0 (b38_0F) ⟨[.lit 9 false x0, .sc (.string x1), .bad, .bad, .bad, .bad, .bad, .sc (.int .i64 (llen x0)), .sc (.int .i64 t8), .bad, .bad, .bad, .bad, .bad, .bad, .bad, .bad, .bad, .bad], []⟩ = some (.brk 0, ⟨[.bad, .bad, .bad, .bad, .bad, .bad, .bad, .bad, .bad, .bad, .bad, .bad, .bad, .bad, .bad, .bad, .bad, .bad, .bad], []⟩) := by
  cbv
  all_goals (try rw [h1])
  all_goals (try cbv)

theorem p40_0 (c0 : Cd) (x0 : List AV) (x1 : ByteArray) (t4o : Int) (h1 : loop [1, 5, 0] 0 c0 ⟨[.lit 9 false x0, .sc (.string x1), .bad, .bad, .bad, .sc (.int .i64 0), .bad, .bad, .bad, .bad, .bad, .bad, .bad, .bad, .bad, .bad, .bad, .bad, .bad, .bad, .bad], []⟩ = some (.ret, ⟨[.bad, .bad, .bad, .bad, .sc (.int .i64 t4o), .bad, .bad, .bad, .bad, .bad, .bad, .bad, .bad, .bad, .bad, .bad, .bad, .bad, .bad, .bad, .bad], []⟩)) : runFn ⟨⟨iadd, isub, imul, iquo, irem, ibit, ishl, ishr, iwrap, ieq, ilt, ile, beq, seq, slt, sapp, slen, sget, ssub, llen, lget, lset, lapp, lsub, room⟩, call, loop, prim⟩ (g40F c0) [.lit 9 false x0, .sc (.string x1)] [] = some (.sc (.int .i64 t4o), []) := by
  cbv
  all_goals (try rw [h1])
  all_goals (try cbv)

theorem p40_1 (c0 : Cd) (x0 : List AV) (x1 : ByteArray) (h1 : loop [1, 5, 0] 0 c0 ⟨[.lit 9 false x0, .sc (.string x1), .bad, .bad, .bad, .sc (.int .i64 0), .bad, .bad, .bad, .bad, .bad, .bad, .bad, .bad, .bad, .bad, .bad, .bad, .bad, .bad, .bad], []⟩ = some (.brk 0, ⟨[.lit 9 false x0, .bad, .bad, .bad, .bad, .bad, .bad, .bad, .bad, .bad, .bad, .bad, .bad, .bad, .bad, .bad, .bad, .bad, .bad, .bad, .bad], []⟩)) : runFn ⟨⟨iadd, isub, imul, iquo, irem, ibit, ishl, ishr, iwrap, ieq, ilt, ile, beq, seq, slt, sapp, slen, sget, ssub, llen, lget, lset, lapp, lsub, room⟩, call, loop, prim⟩ (g40F c0) [.lit 9 false x0, .sc (.string x1)] [] = some (.sc (.int .i64 (llen x0)), []) := by
  cbv
  all_goals (try rw [h1])
  all_goals (try cbv)

theorem r40_0_0_0 (x0 : List AV) (x1 : ByteArray) (t5 : Int) (x : ByteArray) (h1 : ilt t5 (llen x0) = true) (h2 : lget x0 t5 = some (.sc (.string x))) (h3 : seq x x1 = true) : Ifc.round ⟨⟨iadd, isub, imul, iquo, irem, ibit, ishl, ishr, iwrap, ieq, ilt, ile, beq, seq, slt, sapp, slen, sget, ssub, llen, lget, lset, lapp, lsub, room⟩, call, loop, prim⟩ [1, 5, 0] 0 (b40_0F) ⟨[.lit 9 false x0, .sc (.string x1), .bad, .bad, .bad, .sc (.int .i64 t5), .bad, .bad, .bad, .bad, .bad, .bad, .bad, .bad, .bad, .bad, .bad, .bad, .bad, .bad, .bad], []⟩ = some (.ret, ⟨[.bad, .bad, .bad, .bad, .sc (.int .i64 t5), .bad, .bad, .bad, .bad, .bad, .bad, .bad, .bad, .bad, .bad, .bad, .bad, .bad, .bad, .bad, .bad], []⟩) := by
  cbv
  all_goals (try rw [h1])
  all_goals (try cbv)
  all_goals (try rw [h2])
  all_goals (try cbv)
  all_goals (try rw [h2])
  all_goals (try cbv)
  all_goals (try rw [h3])
  all_goals (try cbv)

theorem r40_0_0_1 (x0 : List AV) (x1 : ByteArray) (t5 : Int) (x : ByteArray) (h1 : ilt t5 (llen x0) = true) (h2 : lget x0 t5 = some (.sc (.string x))) (h3 : seq x x1 = false) : Ifc.round ⟨⟨iadd, isub, imul, iquo, irem, ibit, ishl, ishr, iwrap, ieq, ilt, ile, beq, seq, slt, sapp, slen, sget, ssub, llen, lget, lset, lapp, lsub, room⟩, call, loop, prim⟩ [1, 5, 0] 0 (b40_0F) ⟨[.lit 9 false x0, .sc (.string x1), .bad, .bad, .bad, .sc (.int .i64 t5), .bad, .bad, .bad, .bad, .bad, .bad, .bad, .bad, .bad, .bad, .bad, .bad, .bad, .bad, .bad], []⟩ = loop [1, 5, 0] 0 (b40_0F) ⟨[.lit 9 false x0, .sc (.string x1), .bad, .bad, .bad, .sc (.int .i64 (iadd .i64 t5 1)), .bad, .bad, .bad, .bad, .bad, .bad, .bad, .bad, .bad, .bad, .bad, .bad, .bad, .bad, .bad], []⟩ := by
  cbv
  all_goals (try rw [h1])
  all_goals (try cbv)
  all_goals (try rw [h2])
  all_goals (try cbv)
  all_goals (try rw [h2])
  all_goals (try cbv)
  all_goals (try rw [h3])
  all_goals (try cbv)

theorem r40_0_0_2 (x0 : List AV) (x1 : ByteArray) (t5 : Int) (h1 : ilt t5 (llen x0) = false) : Ifc.round ⟨⟨iadd, isub, imul, iquo, irem, ibit, ishl, ishr, iwrap, ieq, ilt, ile, beq, seq, slt, sapp, slen, sget, ssub, llen, lget, lset, lapp, lsub, room⟩, call, loop, prim⟩ [1, 5, 0] 0 (b40_0F) ⟨[.lit 9 false x0, .sc (.string x1), .bad, .bad, .bad, .sc (.int .i64 t5), .bad, .bad, .bad, .bad, .bad, .bad, .bad, .bad, .bad, .bad, .bad, .bad, .bad, .bad, .bad], []⟩ = some (.brk 0, ⟨[.lit 9 false x0, .bad, .bad, .bad, .bad, .bad, .bad, .bad, .bad, .bad, .bad, .bad, .bad, .bad, .bad, .bad, .bad, .bad, .bad, .bad, .bad], []⟩) := by
  cbv
  all_goals (try rw [h1])
  all_goals (try cbv)

theorem p41_0 (c0 : Cd) (x0 : List AV) (x1 : List AV) (h1 : ieq (llen x0) (llen x1) = true) (h2 : loop [0, 1, 5] 0 c0 ⟨[.lit 9 false x0, .lit 9 false x1, .bad, .bad, .bad, .sc (.int .i64 0), .bad, .bad, .bad, .bad, .bad, .bad, .bad, .bad, .bad, .bad, .bad, .bad, .bad, .bad, .bad, .bad, .bad, .bad, .bad, .bad], []⟩ = some (.ret, ⟨[.bad, .bad, .bad, .bad, .sc (.bool false), .bad, .bad, .bad, .bad, .bad, .bad, .bad, .bad, .bad, .bad, .bad, .bad, .bad, .bad, .bad, .bad, .bad, .bad, .bad, .bad, .bad], []⟩)) : runFn ⟨⟨iadd, isub, imul, iquo, irem, ibit, ishl, ishr, iwrap, ieq, ilt, ile, beq, seq, slt, sapp, slen, sget, ssub, llen, lget, lset, lapp, lsub, room⟩, call, loop, prim⟩ (g41F c0) [.lit 9 false x0, .lit 9 false x1] [] = some (.sc (.bool false), []) := by
  cbv
  all_goals (try rw [h1])
  all_goals (try cbv)
  all_goals (try rw [h2])
  all_goals (try cbv)

theorem p41_1 (c0 : Cd) (x0 : List AV) (x1 : List AV) (h1 : ieq (llen x0) (llen x1) = true) (h2 : loop [0, 1, 5] 0 c0 ⟨[.lit 9 false x0, .lit 9 false x1, .bad, .bad, .bad, .sc (.int .i64 0), .bad, .bad, .bad, .bad, .bad, .bad, .bad, .bad, .bad, .bad, .bad, .bad, .bad, .bad, .bad, .bad, .bad, .bad, .bad, .bad], []⟩ = some (.brk 0, ⟨[.bad, .bad, .bad, .bad, .bad, .bad, .bad, .bad, .bad, .bad, .bad, .bad, .bad, .bad, .bad, .bad, .bad, .bad, .bad, .bad, .bad, .bad, .bad, .bad, .bad, .bad], []⟩)) : runFn ⟨⟨iadd, isub, imul, iquo, irem, ibit, ishl, ishr, iwrap, ieq, ilt, ile, beq, seq, slt, sapp, slen, sget, ssub, llen, lget, lset, lapp, lsub, room⟩, call, loop, prim⟩ (g41F c0) [.lit 9 false x0, .lit 9 false x1] [] = some (.sc (.bool true), []) := by
  cbv
  all_goals (try rw [h1])
  all_goals (try cbv)
  all_goals (try rw [h2])
  all_goals (try cbv)

theorem p41_2 (c0 : Cd) (x0 : List AV) (x1 : List AV) (h1 : ieq (llen x0) (llen x1) = false) : runFn ⟨⟨iadd, isub, imul, iquo, irem, ibit, ishl, ishr, iwrap, ieq, ilt, ile, beq, seq, slt, sapp, slen, sget, ssub, llen, lget, lset, lapp, lsub, room⟩, call, loop, prim⟩ (g41F c0) [.lit 9 false x0, .lit 9 false x1] [] = some (.sc (.bool false), []) := by
  cbv
  all_goals (try rw [h1])
  all_goals (try cbv)

theorem r41_0_0_0 (x0 : List AV) (x1 : List AV) (t5 : Int) (x : ByteArray) (x2 : ByteArray) (h1 : ilt t5 (llen x0) = true) (h2 : lget x0 t5 = some (.sc (.string x))) (h3 : lget x1 t5 = some (.sc (.string x2))) (h4 : seq x x2 = true) : Ifc.round ⟨⟨iadd, isub, imul, iquo, irem, ibit, ishl, ishr, iwrap, ieq, ilt, ile, beq, seq, slt, sapp, slen, sget, ssub, llen, lget, lset, lapp, lsub, room⟩, call, loop, prim⟩ [0, 1, 5] 0 (b41_0F) ⟨[.lit 9 false x0, .lit 9 false x1, .bad, .bad, .bad, .sc (.int .i64 t5), .bad, .bad, .bad, .bad, .bad, .bad, .bad, .bad, .bad, .bad, .bad, .bad, .bad, .bad, .bad, .bad, .bad, .bad, .bad, .bad], []⟩ = loop [0, 1, 5] 0 (b41_0F) ⟨[.lit 9 false x0, .lit 9 false x1, .bad, .bad, .bad, .sc (.int .i64 (iadd .i64 t5 1)), .bad, .bad, .bad, .bad, .bad, .bad, .bad, .bad, .bad, .bad, .bad, .bad, .bad, .bad, .bad, .bad, .bad, .bad, .bad, .bad], []⟩ := by
  cbv
  all_goals (try rw [h1])
  all_goals (try cbv)
  all_goals (try rw [h2])
  all_goals (try cbv)
  all_goals (try rw [h2])
  all_goals (try cbv)
  all_goals (try rw [h3])
  all_goals (try cbv)
  all_goals (try rw [h3])
  all_goals (try cbv)
  all_goals (try rw [h4])
  all_goals (try cbv)

theorem r41_0_0_1 (x0 : List AV) (x1 : List AV) (t5 : Int) (x : ByteArray) (x2 : ByteArray) (h1 : ilt t5 (llen x0) = true) (h2 : lget x0 t5 = some (.sc (.string x))) (h3 : lget x1 t5 = some (.sc (.string x2))) (h4 : seq x x2 = false) : Ifc.round ⟨⟨iadd, isub, imul, iquo, irem, ibit, ishl, ishr, iwrap, ieq, ilt, ile, beq, seq, slt, sapp, slen, sget, ssub, llen, lget, lset, lapp, lsub, room⟩, call, loop, prim⟩ [0, 1, 5] 0 (b41_0F) ⟨[.lit 9 false x0, .lit 9 false x1, .bad, .bad, .bad, .sc (.int .i64 t5), .bad, .bad, .bad, .bad, .bad, .bad, .bad, .bad, .bad, .bad, .bad, .bad, .bad, .bad, .bad, .bad, .bad, .bad, .bad, .bad], []⟩ = some (.ret, ⟨[.bad, .bad, .bad, .bad, .sc (.bool false), .bad, .bad, .bad, .bad, .bad, .bad, .bad, .bad, .bad, .bad, .bad, .bad, .bad, .bad, .bad, .bad, .bad, .bad, .bad, .bad, .bad], []⟩) := by
  cbv
  all_goals (try rw [h1])
  all_goals (try cbv)
  all_goals (try rw [h2])
  all_goals (try cbv)
  all_goals (try rw [h2])
  all_goals (try cbv)
  all_goals (try rw [h3])
  all_goals (try cbv)
  all_goals (try rw [h3])
  all_goals (try cbv)
  all_goals (try rw [h4])
  all_goals (try cbv)

theorem r41_0_0_2 (x0 : List AV) (x1 : List AV) (t5 : Int) (h1 : ilt t5 (llen x0) = false) : Ifc.round ⟨⟨iadd, isub, imul, iquo, irem, ibit, ishl, ishr, iwrap, ieq, ilt, ile, beq, seq, slt, sapp, slen, sget, ssub, llen, lget, lset, lapp, lsub, room⟩, call, loop, prim⟩ [0, 1, 5] 0 (b41_0F) ⟨[.lit 9 false x0, .lit 9 false x1, .bad, .bad, .bad, .sc (.int .i64 t5), .bad, .bad, .bad, .bad, .bad, .bad, .bad, .bad, .bad, .bad, .bad, .bad, .bad, .bad, .bad, .bad, .bad, .bad, .bad, .bad], []⟩ = some (.brk 0, ⟨[.bad, .bad, .bad, .bad, .bad, .bad, .bad, .bad, .bad, .bad, .bad, .bad, .bad, .bad, .bad, .bad, .bad, .bad, .bad, .bad, .bad, .bad, .bad, .bad, .bad, .bad], []⟩) := by
  cbv
  all_goals (try rw [h1])
  all_goals (try cbv)

theorem p25_0 (c0 : Cd) (x0_kind : Int) (x0_n : Int) (x0_s : ByteArray) (x0_keys : List AV) (x0_kids : List AV) (x1_kind : Int) (x1_n : Int) (x1_s : ByteArray) (x1_keys : List AV) (x1_kids : List AV) (r : Bool) (hp41 : prim 41 = none) (h1 : ieq x0_kind x1_kind = true) (h2 : ieq x0_n x1_n = true) (h3 : seq x0_s x1_s = true) (h4 : call 41 [.lit 9 false x0_keys, .lit 9 false x1_keys] [] = some (.sc (.bool r), [])) (h5 : r = true) (h6 : ieq (llen x0_kids) (llen x1_kids) = true) (h7 : loop [2, 3, 5] 2 c0 ⟨[.bad, .bad, .bptr 0 0, .bptr 1 0, .bad, .sc (.int .i64 0), .bad, .bad, .bad, .bad, .bad, .bad, .bad, .bad, .bad, .bad, .bad, .bad, .bad, .bad, .bad, .bad, .bad, .bad, .bad, .bad, .bad, .bad, .bad, .bad, .bad, .bad, .bad, .bad, .bad, .bad, .bad, .bad, .bad, .bad, .bad, .bad, .bad, .bad, .bad, .bad, .bad, .bad, .bad, .bad, .bad, .bad, .bad, .bad, .bad, .bad, .bad, .bad, .bad, .bad, .bad], [.box 32 [.sc (.int .i64 x0_kind), .sc (.int .i64 x0_n), .sc (.string x0_s), .lit 9 false x0_keys, .lit 32 false x0_kids], .box 32 [.sc (.int .i64 x1_kind), .sc (.int .i64 x1_n), .sc (.string x1_s), .lit 9 false x1_keys, .lit 32 false x1_kids]]⟩ = some (.ret, ⟨[.bad, .bad, .bad, .bad, .sc (.bool false), .bad, .bad, .bad, .bad, .bad, .bad, .bad, .bad, .bad, .bad, .bad, .bad, .bad, .bad, .bad, .bad, .bad, .bad, .bad, .bad, .bad, .bad, .bad, .bad, .bad, .bad, .bad, .bad, .bad, .bad, .bad, .bad, .bad, .bad, .bad, .bad, .bad, .bad, .bad, .bad, .bad, .bad, .bad, .bad, .bad, .bad, .bad, .bad, .bad, .bad, .bad, .bad, .bad, .bad, .bad, .bad], [.box 32 [.sc (.int .i64 x0_kind), .sc (.int .i64 x0_n), .sc (.string x0_s), .lit 9 false x0_keys, .lit 32 false x0_kids], .box 32 [.sc (.int .i64 x1_kind), .sc (.int .i64 x1_n), .sc (.string x1_s), .lit 9 false x1_keys, .lit 32 false x1_kids]]⟩)) : runFn ⟨⟨iadd, isub, imul, iquo, irem, ibit, ishl, ishr, iwrap, ieq, ilt, ile, beq, seq, slt, sapp, slen, sget, ssub, llen, lget, lset, lapp, lsub, room⟩, call, loop, prim⟩ (g25F c0) [.agg [.sc (.int .i64 x0_kind), .sc (.int .i64 x0_n), .sc (.string x0_s), .lit 9 false x0_keys, .lit 32 false x0_kids], .agg [.sc (.int .i64 x1_kind), .sc (.int .i64 x1_n), .sc (.string x1_s), .lit 9 false x1_keys, .lit 32 false x1_kids]] [] = some (.sc (.bool false), []) := by
  cbv
  all_goals (try rw [h1])
  all_goals (try cbv)
  all_goals (try rw [h2])
  all_goals (try cbv)
  all_goals (try rw [h3])
  all_goals (try cbv)
  all_goals (try rw [hp41])
  all_goals (try cbv)
  all_goals (try rw [h4])
  all_goals (try cbv)
  all_goals (try rw [h5])
  all_goals (try cbv)
  all_goals (try rw [h6])
  all_goals (try cbv)
  all_goals (try rw [h7])
  all_goals (try cbv)

theorem p25_1 (c0 : Cd) (x0_kind : Int) (x0_n : Int) (x0_s : ByteArray) (x0_keys : List AV) (x0_kids : List AV) (x1_kind : Int) (x1_n : Int) (x1_s : ByteArray) (x1_keys : List AV) (x1_kids : List AV) (r : Bool) (hp41 : prim 41 = none) (h1 : ieq x0_kind x1_kind = true) (h2 : ieq x0_n x1_n = true) (h3 : seq x0_s x1_s = true) (h4 : call 41 [.lit 9 false x0_keys, .lit 9 false x1_keys] [] = some (.sc (.bool r), [])) (h5 : r = true) (h6 : ieq (llen x0_kids) (llen x1_kids) = true) (h7 : loop [2, 3, 5] 2 c0 ⟨[.bad, .bad, .bptr 0 0, .bptr 1 0, .bad, .sc (.int .i64 0), .bad, .bad, .bad, .bad, .bad, .bad, .bad, .bad, .bad, .bad, .bad, .bad, .bad, .bad, .bad, .bad, .bad, .bad, .bad, .bad, .bad, .bad, .bad, .bad, .bad, .bad, .bad, .bad, .bad, .bad, .bad, .bad, .bad, .bad, .bad, .bad, .bad, .bad, .bad, .bad, .bad, .bad, .bad, .bad, .bad, .bad, .bad, .bad, .bad, .bad, .bad, .bad, .bad, .bad, .bad], [.box 32 [.sc (.int .i64 x0_kind), .sc (.int .i64 x0_n), .sc (.string x0_s), .lit 9 false x0_keys, .lit 32 false x0_kids], .box 32 [.sc (.int .i64 x1_kind), .sc (.int .i64 x1_n), .sc (.string x1_s), .lit 9 false x1_keys, .lit 32 false x1_kids]]⟩ = some (.brk 0, ⟨[.bad, .bad, .bad, .bad, .bad, .bad, .bad, .bad, .bad, .bad, .bad, .bad, .bad, .bad, .bad, .bad, .bad, .bad, .bad, .bad, .bad, .bad, .bad, .bad, .bad, .bad, .bad, .bad, .bad, .bad, .bad, .bad, .bad, .bad, .bad, .bad, .bad, .bad, .bad, .bad, .bad, .bad, .bad, .bad, .bad, .bad, .bad, .bad, .bad, .bad, .bad, .bad, .bad, .bad, .bad, .bad, .bad, .bad, .bad, .bad, .bad], [.box 32 [.sc (.int .i64 x0_kind), .sc (.int .i64 x0_n), .sc (.string x0_s), .lit 9 false x0_keys, .lit 32 false x0_kids], .box 32 [.sc (.int .i64 x1_kind), .sc (.int .i64 x1_n), .sc (.string x1_s), .lit 9 false x1_keys, .lit 32 false x1_kids]]⟩)) : runFn ⟨⟨iadd, isub, imul, iquo, irem, ibit, ishl, ishr, iwrap, ieq, ilt, ile, beq, seq, slt, sapp, slen, sget, ssub, llen, lget, lset, lapp, lsub, room⟩, call, loop, prim⟩ (g25F c0) [.agg [.sc (.int .i64 x0_kind), .sc (.int .i64 x0_n), .sc (.string x0_s), .lit 9 false x0_keys, .lit 32 false x0_kids], .agg [.sc (.int .i64 x1_kind), .sc (.int .i64 x1_n), .sc (.string x1_s), .lit 9 false x1_keys, .lit 32 false x1_kids]] [] = some (.sc (.bool true), []) := by
  cbv
  all_goals (try rw [h1])
  all_goals (try cbv)
  all_goals (try rw [h2])
  all_goals (try cbv)
  all_goals (try rw [h3])
  all_goals (try cbv)
  all_goals (try rw [hp41])
  all_goals (try cbv)
  all_goals (try rw [h4])
  all_goals (try cbv)
  all_goals (try rw [h5])
  all_goals (try cbv)
  all_goals (try rw [h6])
  all_goals (try cbv)
  all_goals (try rw [h7])
  all_goals (try cbv)

theorem p25_2 (c0 : Cd) (x0_kind : Int) (x0_n : Int) (x0_s : ByteArray) (x0_keys : List AV) (x0_kids : List AV) (x1_kind : Int) (x1_n : Int) (x1_s : ByteArray) (x1_keys : List AV) (x1_kids : List AV) (r : Bool) (hp41 : prim 41 = none) (h1 : ieq x0_kind x1_kind = true) (h2 : ieq x0_n x1_n = true) (h3 : seq x0_s x1_s = true) (h4 : call 41 [.lit 9 false x0_keys, .lit 9 false x1_keys] [] = some (.sc (.bool r), [])) (h5 : r = true) (h6 : ieq (llen x0_kids) (llen x1_kids) = false) : runFn ⟨⟨iadd, isub, imul, iquo, irem, ibit, ishl, ishr, iwrap, ieq, ilt, ile, beq, seq, slt, sapp, slen, sget, ssub, llen, lget, lset, lapp, lsub, room⟩, call, loop, prim⟩ (g25F c0) [.agg [.sc (.int .i64 x0_kind), .sc (.int .i64 x0_n), .sc (.string x0_s), .lit 9 false x0_keys, .lit 32 false x0_kids], .agg [.sc (.int .i64 x1_kind), .sc (.int .i64 x1_n), .sc (.string x1_s), .lit 9 false x1_keys, .lit 32 false x1_kids]] [] = some (.sc (.bool false), []) := by
  cbv
  all_goals (try rw [h1])
  all_goals (try cbv)
  all_goals (try rw [h2])
  all_goals (try cbv)
  all_goals (try rw [h3])
  all_goals (try cbv)
  all_goals (try rw [hp41])
  all_goals (try cbv)
  all_goals (try rw [h4])
  all_goals (try cbv)
  all_goals (try rw [h5])
  all_goals (try cbv)
  all_goals (try rw [h6])
  all_goals (try cbv)

theorem p25_3 (c0 : Cd) (x0_kind : Int) (x0_n : Int) (x0_s : ByteArray) (x0_keys : List AV) (x0_kids : List AV) (x1_kind : Int) (x1_n : Int) (x1_s : ByteArray) (x1_keys : List AV) (x1_kids : List AV) (r : Bool) (hp41 : prim 41 = none) (h1 : ieq x0_kind x1_kind = true) (h2 : ieq x0_n x1_n = true) (h3 : seq x0_s x1_s = true) (h4 : call 41 [.lit 9 false x0_keys, .lit 9 false x1_keys] [] = some (.sc (.bool r), [])) (h5 : r = false) : runFn ⟨⟨iadd, isub, imul, iquo, irem, ibit, ishl, ishr, iwrap, ieq, ilt, ile, beq, seq, slt, sapp, slen, sget, ssub, llen, lget, lset, lapp, lsub, room⟩, call, loop, prim⟩ (g25F c0) [.agg [.sc (.int .i64 x0_kind), .sc (.int .i64 x0_n), .sc (.string x0_s), .lit 9 false x0_keys, .lit 32 false x0_kids], .agg [.sc (.int .i64 x1_kind), .sc (.int .i64 x1_n), .sc (.string x1_s), .lit 9 false x1_keys, .lit 32 false x1_kids]] [] = some (.sc (.bool false), []) := by
  cbv
  all_goals (try rw [h1])
  all_goals (try cbv)
  all_goals (try rw [h2])
  all_goals (try cbv)
  all_goals (try rw [h3])
  all_goals (try cbv)
  all_goals (try rw [hp41])
  all_goals (try cbv)
  all_goals (try rw [h4])
  all_goals (try cbv)
  all_goals (try rw [h5])
  all_goals (try cbv)

theorem p25_4 (c0 : Cd) (x0_kind : Int) (x0_n : Int) (x0_s : ByteArray) (x0_keys : List AV) (x0_kids : List AV) (x1_kind : Int) (x1_n : Int) (x1_s : ByteArray) (x1_keys : List AV) (x1_kids : List AV) (h1 : ieq x0_kind x1_kind = true) (h2 : ieq x0_n x1_n = true) (h3 : seq x0_s x1_s = false) : runFn ⟨⟨iadd, isub, imul, iquo, irem, ibit, ishl, ishr, iwrap, ieq, ilt, ile, beq, seq, slt, sapp, slen, sget, ssub, llen, lget, lset, lapp, lsub, room⟩, call, loop, prim⟩ (g25F c0) [.agg [.sc (.int .i64 x0_kind), .sc (.int .i64 x0_n), .sc (.string x0_s), .lit 9 false x0_keys, .lit 32 false x0_kids], .agg [.sc (.int .i64 x1_kind), .sc (.int .i64 x1_n), .sc (.string x1_s), .lit 9 false x1_keys, .lit 32 false x1_kids]] [] = some (.sc (.bool false), []) := by
  cbv
  all_goals (try rw [h1])
  all_goals (try cbv)
  all_goals (try rw [h2])
  all_goals (try cbv)
  all_goals (try rw [h3])
  all_goals (try cbv)

theorem p25_5 (c0 : Cd) (x0_kind : Int) (x0_n : Int) (x0_s : ByteArray) (x0_keys : List AV) (x0_kids : List AV) (x1_kind : Int) (x1_n : Int) (x1_s : ByteArray) (x1_keys : List AV) (x1_kids : List AV) (h1 : ieq x0_kind x1_kind = true) (h2 : ieq x0_n x1_n = false) : runFn ⟨⟨iadd, isub, imul, iquo, irem, ibit, ishl, ishr, iwrap, ieq, ilt, ile, beq, seq, slt, sapp, slen, sget, ssub, llen, lget, lset, lapp, lsub, room⟩, call, loop, prim⟩ (g25F c0) [.agg [.sc (.int .i64 x0_kind), .sc (.int .i64 x0_n), .sc (.string x0_s), .lit 9 false x0_keys, .lit 32 false x0_kids], .agg [.sc (.int .i64 x1_kind), .sc (.int .i64 x1_n), .sc (.string x1_s), .lit 9 false x1_keys, .lit 32 false x1_kids]] [] = some (.sc (.bool false), []) := by
  cbv
  all_goals (try rw [h1])
  all_goals (try cbv)
  all_goals (try rw [h2])
  all_goals (try cbv)

theorem p25_6 (c0 : Cd) (x0_kind : Int) (x0_n : Int) (x0_s : ByteArray) (x0_keys : List AV) (x0_kids : List AV) (x1_kind : Int) (x1_n : Int) (x1_s : ByteArray) (x1_keys : List AV) (x1_kids : List AV) (h1 : ieq x0_kind x1_kind = false) : runFn ⟨⟨iadd, isub, imul, iquo, irem, ibit, ishl, ishr, iwrap, ieq, ilt, ile, beq, seq, slt, sapp, slen, sget, ssub, llen, lget, lset, lapp, lsub, room⟩, call, loop, prim⟩ (g25F c0) [.agg [.sc (.int .i64 x0_kind), .sc (.int .i64 x0_n), .sc (.string x0_s), .lit 9 false x0_keys, .lit 32 false x0_kids], .agg [.sc (.int .i64 x1_kind), .sc (.int .i64 x1_n), .sc (.string x1_s), .lit 9 false x1_keys, .lit 32 false x1_kids]] [] = some (.sc (.bool false), []) := by
  cbv
  all_goals (try rw [h1])
  all_goals (try cbv)

theorem r25_0_0_0 (x0_kind : Int) (x0_n : Int) (x0_s : ByteArray) (x0_keys : List AV) (x0_kids : List AV) (x1_kind : Int) (x1_n : Int) (x1_s : ByteArray) (x1_keys : List AV) (x1_kids : List AV) (t5 : Int) (x_kind : Int) (x_n : Int) (x_s : ByteArray) (x_keys : List AV) (x_kids : List AV) (x_kind1 : Int) (x_n1 : Int) (x_s1 : ByteArray) (x_keys1 : List AV) (x_kids1 : List AV) (r1 : Bool) (hp25 : prim 25 = none) (h1 : ilt t5 (llen x0_kids) = true) (h2 : lget x0_kids t5 = some (.agg [.sc (.int .i64 x_kind), .sc (.int .i64 x_n), .sc (.string x_s), .lit 9 false x_keys, .lit 32 false x_kids])) (h3 : lget x1_kids t5 = some (.agg [.sc (.int .i64 x_kind1), .sc (.int .i64 x_n1), .sc (.string x_s1), .lit 9 false x_keys1, .lit 32 false x_kids1])) (h4 : call 25 [.agg [.sc (.int .i64 x_kind), .sc (.int .i64 x_n), .sc (.string x_s), .lit 9 false x_keys, .lit 32 false x_kids], .agg [.sc (.int .i64 x_kind1), .sc (.int .i64 x_n1), .sc (.string x_s1), .lit 9 false x_keys1, .lit 32 false x_kids1]] [] = some (.sc (.bool r1), [])) (h5 : r1 = true) : Ifc.round ⟨⟨iadd, isub, imul, iquo, irem, ibit, ishl, ishr, iwrap, ieq, ilt, ile, beq, seq, slt, sapp, slen, sget, ssub, llen, lget, lset, lapp, lsub, room⟩, call, loop, prim⟩ [2, 3, 5] 2 (b25_0F) ⟨[.bad, .bad, .bptr 0 0, .bptr 1 0, .bad, .sc (.int .i64 t5), .bad, .bad, .bad, .bad, .bad, .bad, .bad, .bad, .bad, .bad, .bad, .bad, .bad, .bad, .bad, .bad, .bad, .bad, .bad, .bad, .bad, .bad, .bad, .bad, .bad, .bad, .bad, .bad, .bad, .bad, .bad, .bad, .bad, .bad, .bad, .bad, .bad, .bad, .bad, .bad, .bad, .bad, .bad, .bad, .bad, .bad, .bad, .bad, .bad, .bad, .bad, .bad, .bad, .bad, .bad], [.box 32 [.sc (.int .i64 x0_kind), .sc (.int .i64 x0_n), .sc (.string x0_s), .lit 9 false x0_keys, .lit 32 false x0_kids], .box 32 [.sc (.int .i64 x1_kind), .sc (.int .i64 x1_n), .sc (.string x1_s), .lit 9 false x1_keys, .lit 32 false x1_kids]]⟩ = loop [2, 3, 5] 2 (b25_0F) ⟨[.bad, .bad, .bptr 0 0, .bptr 1 0, .bad, .sc (.int .i64 (iadd .i64 t5 1)), .bad, .bad, .bad, .bad, .bad, .bad, .bad, .bad, .bad, .bad, .bad, .bad, .bad, .bad, .bad, .bad, .bad, .bad, .bad, .bad, .bad, .bad, .bad, .bad, .bad, .bad, .bad, .bad, .bad, .bad, .bad, .bad, .bad, .bad, .bad, .bad, .bad, .bad, .bad, .bad, .bad, .bad, .bad, .bad, .bad, .bad, .bad, .bad, .bad, .bad, .bad, .bad, .bad, .bad, .bad], [.box 32 [.sc (.int .i64 x0_kind), .sc (.int .i64 x0_n), .sc (.string x0_s), .lit 9 false x0_keys, .lit 32 false x0_kids], .box 32 [.sc (.int .i64 x1_kind), .sc (.int .i64 x1_n), .sc (.string x1_s), .lit 9 false x1_keys, .lit 32 false x1_kids]]⟩ := by
  cbv
  all_goals (try rw [h1])
  all_goals (try cbv)
  all_goals (try rw [h2])
  all_goals (try cbv)
  all_goals (try rw [h2])
  all_goals (try cbv)
  all_goals (try rw [h3])
  all_goals (try cbv)
  all_goals (try rw [h3])
  all_goals (try cbv)
  all_goals (try rw [hp25])
  all_goals (try cbv)
  all_goals (try rw [h4])
  all_goals (try cbv)
  all_goals (try rw [h5])
  all_goals (try cbv)

theorem r25_0_0_1 (x0_kind : Int) (x0_n : Int) (x0_s : ByteArray) (x0_keys : List AV) (x0_kids : List AV) (x1_kind : Int) (x1_n : Int) (x1_s : ByteArray) (x1_keys : List AV) (x1_kids : List AV) (t5 : Int) (x_kind : Int) (x_n : Int) (x_s : ByteArray) (x_keys : List AV) (x_kids : List AV) (x_kind1 : Int) (x_n1 : Int) (x_s1 : ByteArray) (x_keys1 : List AV) (x_kids1 : List AV) (r1 : Bool) (hp25 : prim 25 = none) (h1 : ilt t5 (llen x0_kids) = true) (h2 : lget x0_kids t5 = some (.agg [.sc (.int .i64 x_kind), .sc (.int .i64 x_n), .sc (.string x_s), .lit 9 false x_keys, .lit 32 false x_kids])) (h3 : lget x1_kids t5 = some (.agg [.sc (.int .i64 x_kind1), .sc (.int .i64 x_n1), .sc (.string x_s1), .lit 9 false x_keys1, .lit 32 false x_kids1])) (h4 : call 25 [.agg [.sc (.int .i64 x_kind), .sc (.int .i64 x_n), .sc (.string x_s), .lit 9 false x_keys, .lit 32 false x_kids], .agg [.sc (.int .i64 x_kind1), .sc (.int .i64 x_n1), .sc (.string x_s1), .lit 9 false x_keys1, .lit 32 false x_kids1]] [] = some (.sc (.bool r1), [])) (h5 : r1 = false) : Ifc.round ⟨⟨iadd, isub, imul, iquo, irem, ibit, ishl, ishr, iwrap, ieq, ilt, ile, beq, seq, slt, sapp, slen, sget, ssub, llen, lget, lset, lapp, lsub, room⟩, call, loop, prim⟩ [2, 3, 5] 2 (b25_0F) ⟨[.bad, .bad, .bptr 0 0, .bptr 1 0, .bad, .sc (.int .i64 t5), .bad, .bad, .bad, .bad, .bad, .bad, .bad, .bad, .bad, .bad, .bad, .bad, .bad, .bad, .bad, .bad, .bad, .bad, .bad, .bad, .bad, .bad, .bad, .bad, .bad, .bad, .bad, .bad, .bad, .bad, .bad, .bad, .bad, .bad, .bad, .bad, .bad, .bad, .bad, .bad, .bad, .bad, .bad, .bad, .bad, .bad, .bad, .bad, .bad, .bad, .bad, .bad, .bad, .bad, .bad], [.box 32 [.sc (.int .i64 x0_kind), .sc (.int .i64 x0_n), .sc (.string x0_s), .lit 9 false x0_keys, .lit 32 false x0_kids], .box 32 [.sc (.int .i64 x1_kind), .sc (.int .i64 x1_n), .sc (.string x1_s), .lit 9 false x1_keys, .lit 32 false x1_kids]]⟩ = some (.ret, ⟨[.bad, .bad, .bad, .bad, .sc (.bool false), .bad, .bad, .bad, .bad, .bad, .bad, .bad, .bad, .bad, .bad, .bad, .bad, .bad, .bad, .bad, .bad, .bad, .bad, .bad, .bad, .bad, .bad, .bad, .bad, .bad, .bad, .bad, .bad, .bad, .bad, .bad, .bad, .bad, .bad, .bad, .bad, .bad, .bad, .bad, .bad, .bad, .bad, .bad, .bad, .bad, .bad, .bad, .bad, .bad, .bad, .bad, .bad, .bad, .bad, .bad, .bad], [.box 32 [.sc (.int .i64 x0_kind), .sc (.int .i64 x0_n), .sc (.string x0_s), .lit 9 false x0_keys, .lit 32 false x0_kids], .box 32 [.sc (.int .i64 x1_kind), .sc (.int .i64 x1_n), .sc (.string x1_s), .lit 9 false x1_keys, .lit 32 false x1_kids]]⟩) := by
  cbv
  all_goals (try rw [h1])
  all_goals (try cbv)
  all_goals (try rw [h2])
  all_goals (try cbv)
  all_goals (try rw [h2])
  all_goals (try cbv)
  all_goals (try rw [h3])
  all_goals (try cbv)
  all_goals (try rw [h3])
  all_goals (try cbv)
  all_goals (try rw [hp25])
  all_goals (try cbv)
  all_goals (try rw [h4])
  all_goals (try cbv)
  all_goals (try rw [h5])
  all_goals (try cbv)

theorem r25_0_0_2 (x0_kind : Int) (x0_n : Int) (x0_s : ByteArray) (x0_keys : List AV) (x0_kids : List AV) (x1_kind : Int) (x1_n : Int) (x1_s : ByteArray) (x1_keys : List AV) (x1_kids : List AV) (t5 : Int) (h1 : ilt t5 (llen x0_kids) = false) : Ifc.round ⟨⟨iadd, isub, imul, iquo, irem, ibit, ishl, ishr, iwrap, ieq, ilt, ile, beq, seq, slt, sapp, slen, sget, ssub, llen, lget, lset, lapp, lsub, room⟩, call, loop, prim⟩ [2, 3, 5] 2 (b25_0F) ⟨[.bad, .bad, .bptr 0 0, .bptr 1 0, .bad, .sc (.int .i64 t5), .bad, .bad, .bad, .bad, .bad, .bad, .bad, .bad, .bad, .bad, .bad, .bad, .bad, .bad, .bad, .bad, .bad, .bad, .bad, .bad, .bad, .bad, .bad, .bad, .bad, .bad, .bad, .bad, .bad, .bad, .bad, .bad, .bad, .bad, .bad, .bad, .bad, .bad, .bad, .bad, .bad, .bad, .bad, .bad, .bad, .bad, .bad, .bad, .bad, .bad, .bad, .bad, .bad, .bad, .bad], [.box 32 [.sc (.int .i64 x0_kind), .sc (.int .i64 x0_n), .sc (.string x0_s), .lit 9 false x0_keys, .lit 32 false x0_kids], .box 32 [.sc (.int .i64 x1_kind), .sc (.int .i64 x1_n), .sc (.string x1_s), .lit 9 false x1_keys, .lit 32 false x1_kids]]⟩ = some (.brk 0, ⟨[.bad, .bad, .bad, .bad, .bad, .bad, .bad, .bad, .bad, .bad, .bad, .bad, .bad, .bad, .bad, .bad, .bad, .bad, .bad, .bad, .bad, .bad, .bad, .bad, .bad, .bad, .bad, .bad, .bad, .bad, .bad, .bad, .bad, .bad, .bad, .bad, .bad, .bad, .bad, .bad, .bad, .bad, .bad, .bad, .bad, .bad, .bad, .bad, .bad, .bad, .bad, .bad, .bad, .bad, .bad, .bad, .bad, .bad, .bad, .bad, .bad], [.box 32 [.sc (.int .i64 x0_kind), .sc (.int .i64 x0_n), .sc (.string x0_s), .lit 9 false x0_keys, .lit 32 false x0_kids], .box 32 [.sc (.int .i64 x1_kind), .sc (.int .i64 x1_n), .sc (.string x1_s), .lit 9 false x1_keys, .lit 32 false x1_kids]]⟩) := by
  cbv
  all_goals (try rw [h1])
  all_goals (try cbv)

theorem p24_0 (x0_kind : Int) (x0_n : Int) (x0_s : ByteArray) (x0_keys : List AV) (x0_kids : List AV) (x1 : ByteArray) (r : Int) (hp40 : prim 40 = none) (h1 : call 40 [.lit 9 false x0_keys, .sc (.string x1)] [] = some (.sc (.int .i64 r), [])) (h2 : ieq x0_kind 4 = true) (h3 : ieq r (llen x0_keys) = true) : runFn ⟨⟨iadd, isub, imul, iquo, irem, ibit, ishl, ishr, iwrap, ieq, ilt, ile, beq, seq, slt, sapp, slen, sget, ssub, llen, lget, lset, lapp, lsub, room⟩, call, loop, prim⟩ (g24F) [.agg [.sc (.int .i64 x0_kind), .sc (.int .i64 x0_n), .sc (.string x0_s), .lit 9 false x0_keys, .lit 32 false x0_kids], .sc (.string x1)] [] = some (.tup [.agg [.sc (.int .i64 0), .sc (.int .i64 0), .sc (.string ⟨#[]⟩), .lit 9 false [], .lit 32 false []], .sc (.bool false)], []) := by
  cbv
  all_goals (try rw [hp40])
  all_goals (try cbv)
  all_goals (try rw [h1])
  all_goals (try cbv)
  all_goals (try rw [h2])
  all_goals (try cbv)
  all_goals (try rw [h3])
  all_goals (try cbv)

theorem p24_1 (x0_kind : Int) (x0_n : Int) (x0_s : ByteArray) (x0_keys : List AV) (x0_kids : List AV) (x1 : ByteArray) (r : Int) (hp40 : prim 40 = none) (h1 : call 40 [.lit 9 false x0_keys, .sc (.string x1)] [] = some (.sc (.int .i64 r), [])) (h2 : ieq x0_kind 4 = true) (h3 : ieq r (llen x0_keys) = false) (h4 : ile (llen x0_kids) r = true) : runFn ⟨⟨iadd, isub, imul, iquo, irem, ibit, ishl, ishr, iwrap, ieq, ilt, ile, beq, seq, slt, sapp, slen, sget, ssub, llen, lget, lset, lapp, lsub, room⟩, call, loop, prim⟩ (g24F) [.agg [.sc (.int .i64 x0_kind), .sc (.int .i64 x0_n), .sc (.string x0_s), .lit 9 false x0_keys, .lit 32 false x0_kids], .sc (.string x1)] [] = some (.tup [.agg [.sc (.int .i64 0), .sc (.int .i64 0), .sc (.string ⟨#[]⟩), .lit 9 false [], .lit 32 false []], .sc (.bool false)], []) := by
  cbv
  all_goals (try rw [hp40])
  all_goals (try cbv)
  all_goals (try rw [h1])
  all_goals (try cbv)
  all_goals (try rw [h2])
  all_goals (try cbv)
  all_goals (try rw [h3])
  all_goals (try cbv)
  all_goals (try rw [h4])
  all_goals (try cbv)

theorem p24_2 (x0_kind : Int) (x0_n : Int) (x0_s : ByteArray) (x0_keys : List AV) (x0_kids : List AV) (x1 : ByteArray) (r : Int) (x_kind : Int) (x_n : Int) (x_s : ByteArray) (x_keys : List AV) (x_kids : List AV) (hp40 : prim 40 = none) (h1 : call 40 [.lit 9 false x0_keys, .sc (.string x1)] [] = some (.sc (.int .i64 r), [])) (h2 : ieq x0_kind 4 = true) (h3 : ieq r (llen x0_keys) = false) (h4 : ile (llen x0_kids) r = false) (h5 : lget x0_kids r = some (.agg [.sc (.int .i64 x_kind), .sc (.int .i64 x_n), .sc (.string x_s), .lit 9 false x_keys, .lit 32 false x_kids])) : runFn ⟨⟨iadd, isub, imul, iquo, irem, ibit, ishl, ishr, iwrap, ieq, ilt, ile, beq, seq, slt, sapp, slen, sget, ssub, llen, lget, lset, lapp, lsub, room⟩, call, loop, prim⟩ (g24F) [.agg [.sc (.int .i64 x0_kind), .sc (.int .i64 x0_n), .sc (.string x0_s), .lit 9 false x0_keys, .lit 32 false x0_kids], .sc (.string x1)] [] = some (.tup [.agg [.sc (.int .i64 x_kind), .sc (.int .i64 x_n), .sc (.string x_s), .lit 9 false x_keys, .lit 32 false x_kids], .sc (.bool true)], []) := by
  cbv
  all_goals (try rw [hp40])
  all_goals (try cbv)
  all_goals (try rw [h1])
  all_goals (try cbv)
  all_goals (try rw [h2])
  all_goals (try cbv)
  all_goals (try rw [h3])
  all_goals (try cbv)
  all_goals (try rw [h4])
  all_goals (try cbv)
  all_goals (try rw [h5])
  all_goals (try cbv)
  all_goals (try rw [h5])
  all_goals (try cbv)

theorem p24_3 (x0_kind : Int) (x0_n : Int) (x0_s : ByteArray) (x0_keys : List AV) (x0_kids : List AV) (x1 : ByteArray) (r : Int) (hp40 : prim 40 = none) (h1 : call 40 [.lit 9 false x0_keys, .sc (.string x1)] [] = some (.sc (.int .i64 r), [])) (h2 : ieq x0_kind 4 = false) : runFn ⟨⟨iadd, isub, imul, iquo, irem, ibit, ishl, ishr, iwrap, ieq, ilt, ile, beq, seq, slt, sapp, slen, sget, ssub, llen, lget, lset, lapp, lsub, room⟩, call, loop, prim⟩ (g24F) [.agg [.sc (.int .i64 x0_kind), .sc (.int .i64 x0_n), .sc (.string x0_s), .lit 9 false x0_keys, .lit 32 false x0_kids], .sc (.string x1)] [] = some (.tup [.agg [.sc (.int .i64 0), .sc (.int .i64 0), .sc (.string ⟨#[]⟩), .lit 9 false [], .lit 32 false []], .sc (.bool false)], []) := by
  cbv
  all_goals (try rw [hp40])
  all_goals (try cbv)
  all_goals (try rw [h1])
  all_goals (try cbv)
  all_goals (try rw [h2])
  all_goals (try cbv)

theorem p23_0 (x0_kind : Int) (x0_n : Int) (x0_s : ByteArray) (x0_keys : List AV) (x0_kids : List AV) (x1 : ByteArray) (r : Int) (hp38 : prim 38 = none) (h1 : call 38 [.lit 9 false x0_keys, .sc (.string x1)] [] = some (.sc (.int .i64 r), [])) (h2 : ieq x0_kind 4 = true) (h3 : ilt r 0 = true) : runFn ⟨⟨iadd, isub, imul, iquo, irem, ibit, ishl, ishr, iwrap, ieq, ilt, ile, beq, seq, slt, sapp, slen, sget, ssub, llen, lget, lset, lapp, lsub, room⟩, call, loop, prim⟩ (g23F) [.agg [.sc (.int .i64 x0_kind), .sc (.int .i64 x0_n), .sc (.string x0_s), .lit 9 false x0_keys, .lit 32 false x0_kids], .sc (.string x1)] [] = some (.tup [.agg [.sc (.int .i64 0), .sc (.int .i64 0), .sc (.string ⟨#[]⟩), .lit 9 false [], .lit 32 false []], .sc (.bool false)], []) := by
  cbv
  all_goals (try rw [hp38])
  all_goals (try cbv)
  all_goals (try rw [h1])
  all_goals (try cbv)
  all_goals (try rw [h2])
  all_goals (try cbv)
  all_goals (try rw [h3])
  all_goals (try cbv)

theorem p23_1 (x0_kind : Int) (x0_n : Int) (x0_s : ByteArray) (x0_keys : List AV) (x0_kids : List AV) (x1 : ByteArray) (r : Int) (hp38 : prim 38 = none) (h1 : call 38 [.lit 9 false x0_keys, .sc (.string x1)] [] = some (.sc (.int .i64 r), [])) (h2 : ieq x0_kind 4 = true) (h3 : ilt r 0 = false) (h4 : ile (llen x0_kids) r = true) : runFn ⟨⟨iadd, isub, imul, iquo, irem, ibit, ishl, ishr, iwrap, ieq, ilt, ile, beq, seq, slt, sapp, slen, sget, ssub, llen, lget, lset, lapp, lsub, room⟩, call, loop, prim⟩ (g23F) [.agg [.sc (.int .i64 x0_kind), .sc (.int .i64 x0_n), .sc (.string x0_s), .lit 9 false x0_keys, .lit 32 false x0_kids], .sc (.string x1)] [] = some (.tup [.agg [.sc (.int .i64 0), .sc (.int .i64 0), .sc (.string ⟨#[]⟩), .lit 9 false [], .lit 32 false []], .sc (.bool false)], []) := by
  cbv
  all_goals (try rw [hp38])
  all_goals (try cbv)
  all_goals (try rw [h1])
  all_goals (try cbv)
  all_goals (try rw [h2])
  all_goals (try cbv)
  all_goals (try rw [h3])
  all_goals (try cbv)
  all_goals (try rw [h4])
  all_goals (try cbv)

theorem p23_2 (x0_kind : Int) (x0_n : Int) (x0_s : ByteArray) (x0_keys : List AV) (x0_kids : List AV) (x1 : ByteArray) (r : Int) (x_kind : Int) (x_n : Int) (x_s : ByteArray) (x_keys : List AV) (x_kids : List AV) (r_kind : Int) (r_n : Int) (r_s : ByteArray) (r_keys : List AV) (r_kids : List AV) (hp38 : prim 38 = none) (hp39 : prim 39 = none) (h1 : call 38 [.lit 9 false x0_keys, .sc (.string x1)] [] = some (.sc (.int .i64 r), [])) (h2 : ieq x0_kind 4 = true) (h3 : ilt r 0 = false) (h4 : ile (llen x0_kids) r = false) (h5 : lget x0_kids r = some (.agg [.sc (.int .i64 x_kind), .sc (.int .i64 x_n), .sc (.string x_s), .lit 9 false x_keys, .lit 32 false x_kids])) (h6 : call 39 [.agg [.sc (.int .i64 x_kind), .sc (.int .i64 x_n), .sc (.string x_s), .lit 9 false x_keys, .lit 32 false x_kids]] [] = some (.agg [.sc (.int .i64 r_kind), .sc (.int .i64 r_n), .sc (.string r_s), .sl 0 0, .sl 1 0], [.row 9 0 false r_keys, .row 32 0 false r_kids])) : runFn ⟨⟨iadd, isub, imul, iquo, irem, ibit, ishl, ishr, iwrap, ieq, ilt, ile, beq, seq, slt, sapp, slen, sget, ssub, llen, lget, lset, lapp, lsub, room⟩, call, loop, prim⟩ (g23F) [.agg [.sc (.int .i64 x0_kind), .sc (.int .i64 x0_n), .sc (.string x0_s), .lit 9 false x0_keys, .lit 32 false x0_kids], .sc (.string x1)] [] = some (.tup [.agg [.sc (.int .i64 r_kind), .sc (.int .i64 r_n), .sc (.string r_s), .lit 9 false r_keys, .lit 32 false r_kids], .sc (.bool true)], []) := by
  cbv
  all_goals (try rw [hp38])
  all_goals (try cbv)
  all_goals (try rw [h1])
  all_goals (try cbv)
  all_goals (try rw [h2])
  all_goals (try cbv)
  all_goals (try rw [h3])
  all_goals (try cbv)
  all_goals (try rw [h4])
  all_goals (try cbv)
  all_goals (try rw [h5])
  all_goals (try cbv)
  all_goals (try rw [h5])
  all_goals (try cbv)
  all_goals (try rw [hp39])
  all_goals (try cbv)
  all_goals (try rw [h6])
  all_goals (try cbv)

theorem p23_3 (x0_kind : Int) (x0_n : Int) (x0_s : ByteArray) (x0_keys : List AV) (x0_kids : List AV) (x1 : ByteArray) (r : Int) (hp38 : prim 38 = none) (h1 : call 38 [.lit 9 false x0_keys, .sc (.string x1)] [] = some (.sc (.int .i64 r), [])) (h2 : ieq x0_kind 4 = false) : runFn ⟨⟨iadd, isub, imul, iquo, irem, ibit, ishl, ishr, iwrap, ieq, ilt, ile, beq, seq, slt, sapp, slen, sget, ssub, llen, lget, lset, lapp, lsub, room⟩, call, loop, prim⟩ (g23F) [.agg [.sc (.int .i64 x0_kind), .sc (.int .i64 x0_n), .sc (.string x0_s), .lit 9 false x0_keys, .lit 32 false x0_kids], .sc (.string x1)] [] = some (.tup [.agg [.sc (.int .i64 0), .sc (.int .i64 0), .sc (.string ⟨#[]⟩), .lit 9 false [], .lit 32 false []], .sc (.bool false)], []) := by
  cbv
  all_goals (try rw [hp38])
  all_goals (try cbv)
  all_goals (try rw [h1])
  all_goals (try cbv)
  all_goals (try rw [h2])
  all_goals (try cbv)

end

theorem p38_0L (x0 : List AV) (x1 : ByteArray) (t4o : Int) (h1 : (lim F pr).loop [7, 1, 0, 8] 0 b38_0 ⟨[.lit 9 false x0, .sc (.string x1), .bad, .bad, .bad, .bad, .bad, .sc (.int .i64 (Ops.std.llen x0)), .sc (.int .i64 0), .bad, .bad, .bad, .bad, .bad, .bad, .bad, .bad, .bad, .bad], []⟩ = some (.ret, ⟨[.bad, .bad, .bad, .bad, .sc (.int .i64 t4o), .bad, .bad, .bad, .bad, .bad, .bad, .bad, .bad, .bad, .bad, .bad, .bad, .bad, .bad], []⟩)) : runFn (lim F pr) g38 [.lit 9 false x0, .sc (.string x1)] [] = some (.sc (.int .i64 t4o), []) :=
  p38_0 (iadd := Ops.std.iadd) (isub := Ops.std.isub) (imul := Ops.std.imul) (iquo := Ops.std.iquo) (irem := Ops.std.irem) (ibit := Ops.std.ibit) (ishl := Ops.std.ishl) (ishr := Ops.std.ishr) (iwrap := Ops.std.iwrap) (ieq := Ops.std.ieq) (ilt := Ops.std.ilt) (ile := Ops.std.ile) (beq := Ops.std.beq) (seq := Ops.std.seq) (slt := Ops.std.slt) (sapp := Ops.std.sapp) (slen := Ops.std.slen) (sget := Ops.std.sget) (ssub := Ops.std.ssub) (llen := Ops.std.llen) (lget := Ops.std.lget) (lset := Ops.std.lset) (lapp := Ops.std.lapp) (lsub := Ops.std.lsub) (room := Ops.std.room) (call := (lim F pr).call) (loop := (lim F pr).loop) (prim := pr) b38_0 x0 x1 t4o  h1

theorem p38_1L (x0 : List AV) (x1 : ByteArray) (h1 : (lim F pr).loop [7, 1, 0, 8] 0 b38_0 ⟨[.lit 9 false x0, .sc (.string x1), .bad, .bad, .bad, .bad, .bad, .sc (.int .i64 (Ops.std.llen x0)), .sc (.int .i64 0), .bad, .bad, .bad, .bad, .bad, .bad, .bad, .bad, .bad, .bad], []⟩ = some (.brk 0, ⟨[.bad, .bad, .bad, .bad, .bad, .bad, .bad, .bad, .bad, .bad, .bad, .bad, .bad, .bad, .bad, .bad, .bad, .bad, .bad], []⟩)) : runFn (lim F pr) g38 [.lit 9 false x0, .sc (.string x1)] [] = some (.sc (.int .i64 (-1)), []) :=
  p38_1 (iadd := Ops.std.iadd) (isub := Ops.std.isub) (imul := Ops.std.imul) (iquo := Ops.std.iquo) (irem := Ops.std.irem) (ibit := Ops.std.ibit) (ishl := Ops.std.ishl) (ishr := Ops.std.ishr) (iwrap := Ops.std.iwrap) (ieq := Ops.std.ieq) (ilt := Ops.std.ilt) (ile := Ops.std.ile) (beq := Ops.std.beq) (seq := Ops.std.seq) (slt := Ops.std.slt) (sapp := Ops.std.sapp) (slen := Ops.std.slen) (sget := Ops.std.sget) (ssub := Ops.std.ssub) (llen := Ops.std.llen) (lget := Ops.std.lget) (lset := Ops.std.lset) (lapp := Ops.std.lapp) (lsub := Ops.std.lsub) (room := Ops.std.room) (call := (lim F pr).call) (loop := (lim F pr).loop) (prim := pr) b38_0 x0 x1  h1

abbrev W38_0_0 (t4o : Int) : X × St := (.ret, ⟨[.bad, .bad, .bad, .bad, .sc (.int .i64 t4o), .bad, .bad, .bad, .bad, .bad, .bad, .bad, .bad, .bad, .bad, .bad, .bad, .bad, .bad], []⟩)

abbrev W38_0_1 : X × St := (.brk 0, ⟨[.bad, .bad, .bad, .bad, .bad, .bad, .bad, .bad, .bad, .bad, .bad, .bad, .bad, .bad, .bad, .bad, .bad, .bad, .bad], []⟩)

abbrev H38_0_0 (x0 : List AV) (x1 : ByteArray) (t8 : Int) : St := ⟨[.lit 9 false x0, .sc (.string x1), .bad, .bad, .bad, .bad, .bad, .sc (.int .i64 (Ops.std.llen x0)), .sc (.int .i64 t8), .bad, .bad, .bad, .bad, .bad, .bad, .bad, .bad, .bad, .bad], []⟩

theorem r38_0_0_0L (x0 : List AV) (x1 : ByteArray) (t8 : Int) (x : ByteArray) (h1 : Ops.std.ilt t8 (Ops.std.llen x0) = true) (h2 : Ops.std.lget x0 t8 = some (.sc (.string x))) (h3 : Ops.std.seq x1 x = true) : Ifc.round (lim F pr) [7, 1, 0, 8] 0 b38_0 ⟨[.lit 9 false x0, .sc (.string x1), .bad, .bad, .bad, .bad, .bad, .sc (.int .i64 (Ops.std.llen x0)), .sc (.int .i64 t8), .bad, .bad, .bad, .bad, .bad, .bad, .bad, .bad, .bad, .bad], []⟩ = some (.ret, ⟨[.bad, .bad, .bad, .bad, .sc (.int .i64 t8), .bad, .bad, .bad, .bad, .bad, .bad, .bad, .bad, .bad, .bad, .bad, .bad, .bad, .bad], []⟩) :=
  r38_0_0_0 (iadd := Ops.std.iadd) (isub := Ops.std.isub) (imul := Ops.std.imul) (iquo := Ops.std.iquo) (irem := Ops.std.irem) (ibit := Ops.std.ibit) (ishl := Ops.std.ishl) (ishr := Ops.std.ishr) (iwrap := Ops.std.iwrap) (ieq := Ops.std.ieq) (ilt := Ops.std.ilt) (ile := Ops.std.ile) (beq := Ops.std.beq) (seq := Ops.std.seq) (slt := Ops.std.slt) (sapp := Ops.std.sapp) (slen := Ops.std.slen) (sget := Ops.std.sget) (ssub := Ops.std.ssub) (llen := Ops.std.llen) (lget := Ops.std.lget) (lset := Ops.std.lset) (lapp := Ops.std.lapp) (lsub := Ops.std.lsub) (room := Ops.std.room) (call := (lim F pr).call) (loop := (lim F pr).loop) (prim := pr)  x0 x1 t8 x  h1 h2 h3

theorem r38_0_0_1L (x0 : List AV) (x1 : ByteArray) (t8 : Int) (x : ByteArray) (h1 : Ops.std.ilt t8 (Ops.std.llen x0) = true) (h2 : Ops.std.lget x0 t8 = some (.sc (.string x))) (h3 : Ops.std.seq x1 x = false) : Ifc.round (lim F pr) [7, 1, 0, 8] 0 b38_0 ⟨[.lit 9 false x0, .sc (.string x1), .bad, .bad, .bad, .bad, .bad, .sc (.int .i64 (Ops.std.llen x0)), .sc (.int .i64 t8), .bad, .bad, .bad, .bad, .bad, .bad, .bad, .bad, .bad, .bad], []⟩ = (lim F pr).loop [7, 1, 0, 8] 0 b38_0 ⟨[.lit 9 false x0, .sc (.string x1), .bad, .bad, .bad, .bad, .bad, .sc (.int .i64 (Ops.std.llen x0)), .sc (.int .i64 (Ops.std.iadd .i64 t8 1)), .bad, .bad, .bad, .bad, .bad, .bad, .bad, .bad, .bad, .bad], []⟩ :=
  r38_0_0_1 (iadd := Ops.std.iadd) (isub := Ops.std.isub) (imul := Ops.std.imul) (iquo := Ops.std.iquo) (irem := Ops.std.irem) (ibit := Ops.std.ibit) (ishl := Ops.std.ishl) (ishr := Ops.std.ishr) (iwrap := Ops.std.iwrap) (ieq := Ops.std.ieq) (ilt := Ops.std.ilt) (ile := Ops.std.ile) (beq := Ops.std.beq) (seq := Ops.std.seq) (slt := Ops.std.slt) (sapp := Ops.std.sapp) (slen := Ops.std.slen) (sget := Ops.std.sget) (ssub := Ops.std.ssub) (llen := Ops.std.llen) (lget := Ops.std.lget) (lset := Ops.std.lset) (lapp := Ops.std.lapp) (lsub := Ops.std.lsub) (room := Ops.std.room) (call := (lim F pr).call) (loop := (lim F pr).loop) (prim := pr)  x0 x1 t8 x  h1 h2 h3

theorem r38_0_0_2L (x0 : List AV) (x1 : ByteArray) (t8 : Int) (h1 : Ops.std.ilt t8 (Ops.std.llen x0) = false) : Ifc.round (lim F pr) [7, 1, 0, 8] 0 b38_0 ⟨[.lit 9 false x0, .sc (.string x1), .bad, .bad, .bad, .bad, .bad, .sc (.int .i64 (Ops.std.llen x0)), .sc (.int .i64 t8), .bad, .bad, .bad, .bad, .bad, .bad, .bad, .bad, .bad, .bad], []⟩ = some (.brk 0, ⟨[.bad, .bad, .bad, .bad, .bad, .bad, .bad, .bad, .bad, .bad, .bad, .bad, .bad, .bad, .bad, .bad, .bad, .bad, .bad], []⟩) :=
  r38_0_0_2 (iadd := Ops.std.iadd) (isub := Ops.std.isub) (imul := Ops.std.imul) (iquo := Ops.std.iquo) (irem := Ops.std.irem) (ibit := Ops.std.ibit) (ishl := Ops.std.ishl) (ishr := Ops.std.ishr) (iwrap := Ops.std.iwrap) (ieq := Ops.std.ieq) (ilt := Ops.std.ilt) (ile := Ops.std.ile) (beq := Ops.std.beq) (seq := Ops.std.seq) (slt := Ops.std.slt) (sapp := Ops.std.sapp) (slen := Ops.std.slen) (sget := Ops.std.sget) (ssub := Ops.std.ssub) (llen := Ops.std.llen) (lget := Ops.std.lget) (lset := Ops.std.lset) (lapp := Ops.std.lapp) (lsub := Ops.std.lsub) (room := Ops.std.room) (call := (lim F pr).call) (loop := (lim F pr).loop) (prim := pr)  x0 x1 t8  h1

theorem p40_0L (x0 : List AV) (x1 : ByteArray) (t4o : Int) (h1 : (lim F pr).loop [1, 5, 0] 0 b40_0 ⟨[.lit 9 false x0, .sc (.string x1), .bad, .bad, .bad, .sc (.int .i64 0), .bad, .bad, .bad, .bad, .bad, .bad, .bad, .bad, .bad, .bad, .bad, .bad, .bad, .bad, .bad], []⟩ = some (.ret, ⟨[.bad, .bad, .bad, .bad, .sc (.int .i64 t4o), .bad, .bad, .bad, .bad, .bad, .bad, .bad, .bad, .bad, .bad, .bad, .bad, .bad, .bad, .bad, .bad], []⟩)) : runFn (lim F pr) g40 [.lit 9 false x0, .sc (.string x1)] [] = some (.sc (.int .i64 t4o), []) :=
  p40_0 (iadd := Ops.std.iadd) (isub := Ops.std.isub) (imul := Ops.std.imul) (iquo := Ops.std.iquo) (irem := Ops.std.irem) (ibit := Ops.std.ibit) (ishl := Ops.std.ishl) (ishr := Ops.std.ishr) (iwrap := Ops.std.iwrap) (ieq := Ops.std.ieq) (ilt := Ops.std.ilt) (ile := Ops.std.ile) (beq := Ops.std.beq) (seq := Ops.std.seq) (slt := Ops.std.slt) (sapp := Ops.std.sapp) (slen := Ops.std.slen) (sget := Ops.std.sget) (ssub := Ops.std.ssub) (llen := Ops.std.llen) (lget := Ops.std.lget) (lset := Ops.std.lset) (lapp := Ops.std.lapp) (lsub := Ops.std.lsub) (room := Ops.std.room) (call := (lim F pr).call) (loop := (lim F pr).loop) (prim := pr) b40_0 x0 x1 t4o  h1

theorem p40_1L (x0 : List AV) (x1 : ByteArray) (h1 : (lim F pr).loop [1, 5, 0] 0 b40_0 ⟨[.lit 9 false x0, .sc (.string x1), .bad, .bad, .bad, .sc (.int .i64 0), .bad, .bad, .bad, .bad, .bad, .bad, .bad, .bad, .bad, .bad, .bad, .bad, .bad, .bad, .bad], []⟩ = some (.brk 0, ⟨[.lit 9 false x0, .bad, .bad, .bad, .bad, .bad, .bad, .bad, .bad, .bad, .bad, .bad, .bad, .bad, .bad, .bad, .bad, .bad, .bad, .bad, .bad], []⟩)) : runFn (lim F pr) g40 [.lit 9 false x0, .sc (.string x1)] [] = some (.sc (.int .i64 (Ops.std.llen x0)), []) :=
  p40_1 (iadd := Ops.std.iadd) (isub := Ops.std.isub) (imul := Ops.std.imul) (iquo := Ops.std.iquo) (irem := Ops.std.irem) (ibit := Ops.std.ibit) (ishl := Ops.std.ishl) (ishr := Ops.std.ishr) (iwrap := Ops.std.iwrap) (ieq := Ops.std.ieq) (ilt := Ops.std.ilt) (ile := Ops.std.ile) (beq := Ops.std.beq) (seq := Ops.std.seq) (slt := Ops.std.slt) (sapp := Ops.std.sapp) (slen := Ops.std.slen) (sget := Ops.std.sget) (ssub := Ops.std.ssub) (llen := Ops.std.llen) (lget := Ops.std.lget) (lset := Ops.std.lset) (lapp := Ops.std.lapp) (lsub := Ops.std.lsub) (room := Ops.std.room) (call := (lim F pr).call) (loop := (lim F pr).loop) (prim := pr) b40_0 x0 x1  h1

abbrev W40_0_0 (t4o : Int) : X × St := (.ret, ⟨[.bad, .bad, .bad, .bad, .sc (.int .i64 t4o), .bad, .bad, .bad, .bad, .bad, .bad, .bad, .bad, .bad, .bad, .bad, .bad, .bad, .bad, .bad, .bad], []⟩)

abbrev W40_0_1 (x0 : List AV) : X × St := (.brk 0, ⟨[.lit 9 false x0, .bad, .bad, .bad, .bad, .bad, .bad, .bad, .bad, .bad, .bad, .bad, .bad, .bad, .bad, .bad, .bad, .bad, .bad, .bad, .bad], []⟩)

abbrev H40_0_0 (x0 : List AV) (x1 : ByteArray) (t5 : Int) : St := ⟨[.lit 9 false x0, .sc (.string x1), .bad, .bad, .bad, .sc (.int .i64 t5), .bad, .bad, .bad, .bad, .bad, .bad, .bad, .bad, .bad, .bad, .bad, .bad, .bad, .bad, .bad], []⟩

theorem r40_0_0_0L (x0 : List AV) (x1 : ByteArray) (t5 : Int) (x : ByteArray) (h1 : Ops.std.ilt t5 (Ops.std.llen x0) = true) (h2 : Ops.std.lget x0 t5 = some (.sc (.string x))) (h3 : Ops.std.seq x x1 = true) : Ifc.round (lim F pr) [1, 5, 0] 0 b40_0 ⟨[.lit 9 false x0, .sc (.string x1), .bad, .bad, .bad, .sc (.int .i64 t5), .bad, .bad, .bad, .bad, .bad, .bad, .bad, .bad, .bad, .bad, .bad, .bad, .bad, .bad, .bad], []⟩ = some (.ret, ⟨[.bad, .bad, .bad, .bad, .sc (.int .i64 t5), .bad, .bad, .bad, .bad, .bad, .bad, .bad, .bad, .bad, .bad, .bad, .bad, .bad, .bad, .bad, .bad], []⟩) :=
  r40_0_0_0 (iadd := Ops.std.iadd) (isub := Ops.std.isub) (imul := Ops.std.imul) (iquo := Ops.std.iquo) (irem := Ops.std.irem) (ibit := Ops.std.ibit) (ishl := Ops.std.ishl) (ishr := Ops.std.ishr) (iwrap := Ops.std.iwrap) (ieq := Ops.std.ieq) (ilt := Ops.std.ilt) (ile := Ops.std.ile) (beq := Ops.std.beq) (seq := Ops.std.seq) (slt := Ops.std.slt) (sapp := Ops.std.sapp) (slen := Ops.std.slen) (sget := Ops.std.sget) (ssub := Ops.std.ssub) (llen := Ops.std.llen) (lget := Ops.std.lget) (lset := Ops.std.lset) (lapp := Ops.std.lapp) (lsub := Ops.std.lsub) (room := Ops.std.room) (call := (lim F pr).call) (loop := (lim F pr).loop) (prim := pr)  x0 x1 t5 x  h1 h2 h3

theorem r40_0_0_1L (x0 : List AV) (x1 : ByteArray) (t5 : Int) (x : ByteArray) (h1 : Ops.std.ilt t5 (Ops.std.llen x0) = true) (h2 : Ops.std.lget x0 t5 = some (.sc (.string x))) (h3 : Ops.std.seq x x1 = false) : Ifc.round (lim F pr) [1, 5, 0] 0 b40_0 ⟨[.lit 9 false x0, .sc (.string x1), .bad, .bad, .bad, .sc (.int .i64 t5), .bad, .bad, .bad, .bad, .bad, .bad, .bad, .bad, .bad, .bad, .bad, .bad, .bad, .bad, .bad], []⟩ = (lim F pr).loop [1, 5, 0] 0 b40_0 ⟨[.lit 9 false x0, .sc (.string x1), .bad, .bad, .bad, .sc (.int .i64 (Ops.std.iadd .i64 t5 1)), .bad, .bad, .bad, .bad, .bad, .bad, .bad, .bad, .bad, .bad, .bad, .bad, .bad, .bad, .bad], []⟩ :=
  r40_0_0_1 (iadd := Ops.std.iadd) (isub := Ops.std.isub) (imul := Ops.std.imul) (iquo := Ops.std.iquo) (irem := Ops.std.irem) (ibit := Ops.std.ibit) (ishl := Ops.std.ishl) (ishr := Ops.std.ishr) (iwrap := Ops.std.iwrap) (ieq := Ops.std.ieq) (ilt := Ops.std.ilt) (ile := Ops.std.ile) (beq := Ops.std.beq) (seq := Ops.std.seq) (slt := Ops.std.slt) (sapp := Ops.std.sapp) (slen := Ops.std.slen) (sget := Ops.std.sget) (ssub := Ops.std.ssub) (llen := Ops.std.llen) (lget := Ops.std.lget) (lset := Ops.std.lset) (lapp := Ops.std.lapp) (lsub := Ops.std.lsub) (room := Ops.std.room) (call := (lim F pr).call) (loop := (lim F pr).loop) (prim := pr)  x0 x1 t5 x  h1 h2 h3

theorem r40_0_0_2L (x0 : List AV) (x1 : ByteArray) (t5 : Int) (h1 : Ops.std.ilt t5 (Ops.std.llen x0) = false) : Ifc.round (lim F pr) [1, 5, 0] 0 b40_0 ⟨[.lit 9 false x0, .sc (.string x1), .bad, .bad, .bad, .sc (.int .i64 t5), .bad, .bad, .bad, .bad, .bad, .bad, .bad, .bad, .bad, .bad, .bad, .bad, .bad, .bad, .bad], []⟩ = some (.brk 0, ⟨[.lit 9 false x0, .bad, .bad, .bad, .bad, .bad, .bad, .bad, .bad, .bad, .bad, .bad, .bad, .bad, .bad, .bad, .bad, .bad, .bad, .bad, .bad], []⟩) :=
  r40_0_0_2 (iadd := Ops.std.iadd) (isub := Ops.std.isub) (imul := Ops.std.imul) (iquo := Ops.std.iquo) (irem := Ops.std.irem) (ibit := Ops.std.ibit) (ishl := Ops.std.ishl) (ishr := Ops.std.ishr) (iwrap := Ops.std.iwrap) (ieq := Ops.std.ieq) (ilt := Ops.std.ilt) (ile := Ops.std.ile) (beq := Ops.std.beq) (seq := Ops.std.seq) (slt := Ops.std.slt) (sapp := Ops.std.sapp) (slen := Ops.std.slen) (sget := Ops.std.sget) (ssub := Ops.std.ssub) (llen := Ops.std.llen) (lget := Ops.std.lget) (lset := Ops.std.lset) (lapp := Ops.std.lapp) (lsub := Ops.std.lsub) (room := Ops.std.room) (call := (lim F pr).call) (loop := (lim F pr).loop) (prim := pr)  x0 x1 t5  h1

theorem p41_0L (x0 : List AV) (x1 : List AV) (h1 : Ops.std.ieq (Ops.std.llen x0) (Ops.std.llen x1) = true) (h2 : (lim F pr).loop [0, 1, 5] 0 b41_0 ⟨[.lit 9 false x0, .lit 9 false x1, .bad, .bad, .bad, .sc (.int .i64 0), .bad, .bad, .bad, .bad, .bad, .bad, .bad, .bad, .bad, .bad, .bad, .bad, .bad, .bad, .bad, .bad, .bad, .bad, .bad, .bad], []⟩ = some (.ret, ⟨[.bad, .bad, .bad, .bad, .sc (.bool false), .bad, .bad, .bad, .bad, .bad, .bad, .bad, .bad, .bad, .bad, .bad, .bad, .bad, .bad, .bad, .bad, .bad, .bad, .bad, .bad, .bad], []⟩)) : runFn (lim F pr) g41 [.lit 9 false x0, .lit 9 false x1] [] = some (.sc (.bool false), []) :=
  p41_0 (iadd := Ops.std.iadd) (isub := Ops.std.isub) (imul := Ops.std.imul) (iquo := Ops.std.iquo) (irem := Ops.std.irem) (ibit := Ops.std.ibit) (ishl := Ops.std.ishl) (ishr := Ops.std.ishr) (iwrap := Ops.std.iwrap) (ieq := Ops.std.ieq) (ilt := Ops.std.ilt) (ile := Ops.std.ile) (beq := Ops.std.beq) (seq := Ops.std.seq) (slt := Ops.std.slt) (sapp := Ops.std.sapp) (slen := Ops.std.slen) (sget := Ops.std.sget) (ssub := Ops.std.ssub) (llen := Ops.std.llen) (lget := Ops.std.lget) (lset := Ops.std.lset) (lapp := Ops.std.lapp) (lsub := Ops.std.lsub) (room := Ops.std.room) (call := (lim F pr).call) (loop := (lim F pr).loop) (prim := pr) b41_0 x0 x1  h1 h2

theorem p41_1L (x0 : List AV) (x1 : List AV) (h1 : Ops.std.ieq (Ops.std.llen x0) (Ops.std.llen x1) = true) (h2 : (lim F pr).loop [0, 1, 5] 0 b41_0 ⟨[.lit 9 false x0, .lit 9 false x1, .bad, .bad, .bad, .sc (.int .i64 0), .bad, .bad, .bad, .bad, .bad, .bad, .bad, .bad, .bad, .bad, .bad, .bad, .bad, .bad, .bad, .bad, .bad, .bad, .bad, .bad], []⟩ = some (.brk 0, ⟨[.bad, .bad, .bad, .bad, .bad, .bad, .bad, .bad, .bad, .bad, .bad, .bad, .bad, .bad, .bad, .bad, .bad, .bad, .bad, .bad, .bad, .bad, .bad, .bad, .bad, .bad], []⟩)) : runFn (lim F pr) g41 [.lit 9 false x0, .lit 9 false x1] [] = some (.sc (.bool true), []) :=
  p41_1 (iadd := Ops.std.iadd) (isub := Ops.std.isub) (imul := Ops.std.imul) (iquo := Ops.std.iquo) (irem := Ops.std.irem) (ibit := Ops.std.ibit) (ishl := Ops.std.ishl) (ishr := Ops.std.ishr) (iwrap := Ops.std.iwrap) (ieq := Ops.std.ieq) (ilt := Ops.std.ilt) (ile := Ops.std.ile) (beq := Ops.std.beq) (seq := Ops.std.seq) (slt := Ops.std.slt) (sapp := Ops.std.sapp) (slen := Ops.std.slen) (sget := Ops.std.sget) (ssub := Ops.std.ssub) (llen := Ops.std.llen) (lget := Ops.std.lget) (lset := Ops.std.lset) (lapp := Ops.std.lapp) (lsub := Ops.std.lsub) (room := Ops.std.room) (call := (lim F pr).call) (loop := (lim F pr).loop) (prim := pr) b41_0 x0 x1  h1 h2

theorem p41_2L (x0 : List AV) (x1 : List AV) (h1 : Ops.std.ieq (Ops.std.llen x0) (Ops.std.llen x1) = false) : runFn (lim F pr) g41 [.lit 9 false x0, .lit 9 false x1] [] = some (.sc (.bool false), []) :=
  p41_2 (iadd := Ops.std.iadd) (isub := Ops.std.isub) (imul := Ops.std.imul) (iquo := Ops.std.iquo) (irem := Ops.std.irem) (ibit := Ops.std.ibit) (ishl := Ops.std.ishl) (ishr := Ops.std.ishr) (iwrap := Ops.std.iwrap) (ieq := Ops.std.ieq) (ilt := Ops.std.ilt) (ile := Ops.std.ile) (beq := Ops.std.beq) (seq := Ops.std.seq) (slt := Ops.std.slt) (sapp := Ops.std.sapp) (slen := Ops.std.slen) (sget := Ops.std.sget) (ssub := Ops.std.ssub) (llen := Ops.std.llen) (lget := Ops.std.lget) (lset := Ops.std.lset) (lapp := Ops.std.lapp) (lsub := Ops.std.lsub) (room := Ops.std.room) (call := (lim F pr).call) (loop := (lim F pr).loop) (prim := pr) b41_0 x0 x1  h1

abbrev W41_0_0 : X × St := (.ret, ⟨[.bad, .bad, .bad, .bad, .sc (.bool false), .bad, .bad, .bad, .bad, .bad, .bad, .bad, .bad, .bad, .bad, .bad, .bad, .bad, .bad, .bad, .bad, .bad, .bad, .bad, .bad, .bad], []⟩)

abbrev W41_0_1 : X × St := (.brk 0, ⟨[.bad, .bad, .bad, .bad, .bad, .bad, .bad, .bad, .bad, .bad, .bad, .bad, .bad, .bad, .bad, .bad, .bad, .bad, .bad, .bad, .bad, .bad, .bad, .bad, .bad, .bad], []⟩)

abbrev H41_0_0 (x0 : List AV) (x1 : List AV) (t5 : Int) : St := ⟨[.lit 9 false x0, .lit 9 false x1, .bad, .bad, .bad, .sc (.int .i64 t5), .bad, .bad, .bad, .bad, .bad, .bad, .bad, .bad, .bad, .bad, .bad, .bad, .bad, .bad, .bad, .bad, .bad, .bad, .bad, .bad], []⟩

theorem r41_0_0_0L (x0 : List AV) (x1 : List AV) (t5 : Int) (x : ByteArray) (x2 : ByteArray) (h1 : Ops.std.ilt t5 (Ops.std.llen x0) = true) (h2 : Ops.std.lget x0 t5 = some (.sc (.string x))) (h3 : Ops.std.lget x1 t5 = some (.sc (.string x2))) (h4 : Ops.std.seq x x2 = true) : Ifc.round (lim F pr) [0, 1, 5] 0 b41_0 ⟨[.lit 9 false x0, .lit 9 false x1, .bad, .bad, .bad, .sc (.int .i64 t5), .bad, .bad, .bad, .bad, .bad, .bad, .bad, .bad, .bad, .bad, .bad, .bad, .bad, .bad, .bad, .bad, .bad, .bad, .bad, .bad], []⟩ = (lim F pr).loop [0, 1, 5] 0 b41_0 ⟨[.lit 9 false x0, .lit 9 false x1, .bad, .bad, .bad, .sc (.int .i64 (Ops.std.iadd .i64 t5 1)), .bad, .bad, .bad, .bad, .bad, .bad, .bad, .bad, .bad, .bad, .bad, .bad, .bad, .bad, .bad, .bad, .bad, .bad, .bad, .bad], []⟩ :=
  r41_0_0_0 (iadd := Ops.std.iadd) (isub := Ops.std.isub) (imul := Ops.std.imul) (iquo := Ops.std.iquo) (irem := Ops.std.irem) (ibit := Ops.std.ibit) (ishl := Ops.std.ishl) (ishr := Ops.std.ishr) (iwrap := Ops.std.iwrap) (ieq := Ops.std.ieq) (ilt := Ops.std.ilt) (ile := Ops.std.ile) (beq := Ops.std.beq) (seq := Ops.std.seq) (slt := Ops.std.slt) (sapp := Ops.std.sapp) (slen := Ops.std.slen) (sget := Ops.std.sget) (ssub := Ops.std.ssub) (llen := Ops.std.llen) (lget := Ops.std.lget) (lset := Ops.std.lset) (lapp := Ops.std.lapp) (lsub := Ops.std.lsub) (room := Ops.std.room) (call := (lim F pr).call) (loop := (lim F pr).loop) (prim := pr)  x0 x1 t5 x x2  h1 h2 h3 h4

theorem r41_0_0_1L (x0 : List AV) (x1 : List AV) (t5 : Int) (x : ByteArray) (x2 : ByteArray) (h1 : Ops.std.ilt t5 (Ops.std.llen x0) = true) (h2 : Ops.std.lget x0 t5 = some (.sc (.string x))) (h3 : Ops.std.lget x1 t5 = some (.sc (.string x2))) (h4 : Ops.std.seq x x2 = false) : Ifc.round (lim F pr) [0, 1, 5] 0 b41_0 ⟨[.lit 9 false x0, .lit 9 false x1, .bad, .bad, .bad, .sc (.int .i64 t5), .bad, .bad, .bad, .bad, .bad, .bad, .bad, .bad, .bad, .bad, .bad, .bad, .bad, .bad, .bad, .bad, .bad, .bad, .bad, .bad], []⟩ = some (.ret, ⟨[.bad, .bad, .bad, .bad, .sc (.bool false), .bad, .bad, .bad, .bad, .bad, .bad, .bad, .bad, .bad, .bad, .bad, .bad, .bad, .bad, .bad, .bad, .bad, .bad, .bad, .bad, .bad], []⟩) :=
  r41_0_0_1 (iadd := Ops.std.iadd) (isub := Ops.std.isub) (imul := Ops.std.imul) (iquo := Ops.std.iquo) (irem := Ops.std.irem) (ibit := Ops.std.ibit) (ishl := Ops.std.ishl) (ishr := Ops.std.ishr) (iwrap := Ops.std.iwrap) (ieq := Ops.std.ieq) (ilt := Ops.std.ilt) (ile := Ops.std.ile) (beq := Ops.std.beq) (seq := Ops.std.seq) (slt := Ops.std.slt) (sapp := Ops.std.sapp) (slen := Ops.std.slen) (sget := Ops.std.sget) (ssub := Ops.std.ssub) (llen := Ops.std.llen) (lget := Ops.std.lget) (lset := Ops.std.lset) (lapp := Ops.std.lapp) (lsub := Ops.std.lsub) (room := Ops.std.room) (call := (lim F pr).call) (loop := (lim F pr).loop) (prim := pr)  x0 x1 t5 x x2  h1 h2 h3 h4

theorem r41_0_0_2L (x0 : List AV) (x1 : List AV) (t5 : Int) (h1 : Ops.std.ilt t5 (Ops.std.llen x0) = false) : Ifc.round (lim F pr) [0, 1, 5] 0 b41_0 ⟨[.lit 9 false x0, .lit 9 false x1, .bad, .bad, .bad, .sc (.int .i64 t5), .bad, .bad, .bad, .bad, .bad, .bad, .bad, .bad, .bad, .bad, .bad, .bad, .bad, .bad, .bad, .bad, .bad, .bad, .bad, .bad], []⟩ = some (.brk 0, ⟨[.bad, .bad, .bad, .bad, .bad, .bad, .bad, .bad, .bad, .bad, .bad, .bad, .bad, .bad, .bad, .bad, .bad, .bad, .bad, .bad, .bad, .bad, .bad, .bad, .bad, .bad], []⟩) :=
  r41_0_0_2 (iadd := Ops.std.iadd) (isub := Ops.std.isub) (imul := Ops.std.imul) (iquo := Ops.std.iquo) (irem := Ops.std.irem) (ibit := Ops.std.ibit) (ishl := Ops.std.ishl) (ishr := Ops.std.ishr) (iwrap := Ops.std.iwrap) (ieq := Ops.std.ieq) (ilt := Ops.std.ilt) (ile := Ops.std.ile) (beq := Ops.std.beq) (seq := Ops.std.seq) (slt := Ops.std.slt) (sapp := Ops.std.sapp) (slen := Ops.std.slen) (sget := Ops.std.sget) (ssub := Ops.std.ssub) (llen := Ops.std.llen) (lget := Ops.std.lget) (lset := Ops.std.lset) (lapp := Ops.std.lapp) (lsub := Ops.std.lsub) (room := Ops.std.room) (call := (lim F pr).call) (loop := (lim F pr).loop) (prim := pr)  x0 x1 t5  h1

theorem p25_0L (x0_kind : Int) (x0_n : Int) (x0_s : ByteArray) (x0_keys : List AV) (x0_kids : List AV) (x1_kind : Int) (x1_n : Int) (x1_s : ByteArray) (x1_keys : List AV) (x1_kids : List AV) (r : Bool) (h1 : Ops.std.ieq x0_kind x1_kind = true) (h2 : Ops.std.ieq x0_n x1_n = true) (h3 : Ops.std.seq x0_s x1_s = true) (h4 : (lim F pr).call 41 [.lit 9 false x0_keys, .lit 9 false x1_keys] [] = some (.sc (.bool r), [])) (h5 : r = true) (h6 : Ops.std.ieq (Ops.std.llen x0_kids) (Ops.std.llen x1_kids) = true) (h7 : (lim F pr).loop [2, 3, 5] 2 b25_0 ⟨[.bad, .bad, .bptr 0 0, .bptr 1 0, .bad, .sc (.int .i64 0), .bad, .bad, .bad, .bad, .bad, .bad, .bad, .bad, .bad, .bad, .bad, .bad, .bad, .bad, .bad, .bad, .bad, .bad, .bad, .bad, .bad, .bad, .bad, .bad, .bad, .bad, .bad, .bad, .bad, .bad, .bad, .bad, .bad, .bad, .bad, .bad, .bad, .bad, .bad, .bad, .bad, .bad, .bad, .bad, .bad, .bad, .bad, .bad, .bad, .bad, .bad, .bad, .bad, .bad, .bad], [.box 32 [.sc (.int .i64 x0_kind), .sc (.int .i64 x0_n), .sc (.string x0_s), .lit 9 false x0_keys, .lit 32 false x0_kids], .box 32 [.sc (.int .i64 x1_kind), .sc (.int .i64 x1_n), .sc (.string x1_s), .lit 9 false x1_keys, .lit 32 false x1_kids]]⟩ = some (.ret, ⟨[.bad, .bad, .bad, .bad, .sc (.bool false), .bad, .bad, .bad, .bad, .bad, .bad, .bad, .bad, .bad, .bad, .bad, .bad, .bad, .bad, .bad, .bad, .bad, .bad, .bad, .bad, .bad, .bad, .bad, .bad, .bad, .bad, .bad, .bad, .bad, .bad, .bad, .bad, .bad, .bad, .bad, .bad, .bad, .bad, .bad, .bad, .bad, .bad, .bad, .bad, .bad, .bad, .bad, .bad, .bad, .bad, .bad, .bad, .bad, .bad, .bad, .bad], [.box 32 [.sc (.int .i64 x0_kind), .sc (.int .i64 x0_n), .sc (.string x0_s), .lit 9 false x0_keys, .lit 32 false x0_kids], .box 32 [.sc (.int .i64 x1_kind), .sc (.int .i64 x1_n), .sc (.string x1_s), .lit 9 false x1_keys, .lit 32 false x1_kids]]⟩)) : runFn (lim F pr) g25 [.agg [.sc (.int .i64 x0_kind), .sc (.int .i64 x0_n), .sc (.string x0_s), .lit 9 false x0_keys, .lit 32 false x0_kids], .agg [.sc (.int .i64 x1_kind), .sc (.int .i64 x1_n), .sc (.string x1_s), .lit 9 false x1_keys, .lit 32 false x1_kids]] [] = some (.sc (.bool false), []) :=
  p25_0 (iadd := Ops.std.iadd) (isub := Ops.std.isub) (imul := Ops.std.imul) (iquo := Ops.std.iquo) (irem := Ops.std.irem) (ibit := Ops.std.ibit) (ishl := Ops.std.ishl) (ishr := Ops.std.ishr) (iwrap := Ops.std.iwrap) (ieq := Ops.std.ieq) (ilt := Ops.std.ilt) (ile := Ops.std.ile) (beq := Ops.std.beq) (seq := Ops.std.seq) (slt := Ops.std.slt) (sapp := Ops.std.sapp) (slen := Ops.std.slen) (sget := Ops.std.sget) (ssub := Ops.std.ssub) (llen := Ops.std.llen) (lget := Ops.std.lget) (lset := Ops.std.lset) (lapp := Ops.std.lapp) (lsub := Ops.std.lsub) (room := Ops.std.room) (call := (lim F pr).call) (loop := (lim F pr).loop) (prim := pr) b25_0 x0_kind x0_n x0_s x0_keys x0_kids x1_kind x1_n x1_s x1_keys x1_kids r rfl h1 h2 h3 h4 h5 h6 h7

theorem p25_1L (x0_kind : Int) (x0_n : Int) (x0_s : ByteArray) (x0_keys : List AV) (x0_kids : List AV) (x1_kind : Int) (x1_n : Int) (x1_s : ByteArray) (x1_keys : List AV) (x1_kids : List AV) (r : Bool) (h1 : Ops.std.ieq x0_kind x1_kind = true) (h2 : Ops.std.ieq x0_n x1_n = true) (h3 : Ops.std.seq x0_s x1_s = true) (h4 : (lim F pr).call 41 [.lit 9 false x0_keys, .lit 9 false x1_keys] [] = some (.sc (.bool r), [])) (h5 : r = true) (h6 : Ops.std.ieq (Ops.std.llen x0_kids) (Ops.std.llen x1_kids) = true) (h7 : (lim F pr).loop [2, 3, 5] 2 b25_0 ⟨[.bad, .bad, .bptr 0 0, .bptr 1 0, .bad, .sc (.int .i64 0), .bad, .bad, .bad, .bad, .bad, .bad, .bad, .bad, .bad, .bad, .bad, .bad, .bad, .bad, .bad, .bad, .bad, .bad, .bad, .bad, .bad, .bad, .bad, .bad, .bad, .bad, .bad, .bad, .bad, .bad, .bad, .bad, .bad, .bad, .bad, .bad, .bad, .bad, .bad, .bad, .bad, .bad, .bad, .bad, .bad, .bad, .bad, .bad, .bad, .bad, .bad, .bad, .bad, .bad, .bad], [.box 32 [.sc (.int .i64 x0_kind), .sc (.int .i64 x0_n), .sc (.string x0_s), .lit 9 false x0_keys, .lit 32 false x0_kids], .box 32 [.sc (.int .i64 x1_kind), .sc (.int .i64 x1_n), .sc (.string x1_s), .lit 9 false x1_keys, .lit 32 false x1_kids]]⟩ = some (.brk 0, ⟨[.bad, .bad, .bad, .bad, .bad, .bad, .bad, .bad, .bad, .bad, .bad, .bad, .bad, .bad, .bad, .bad, .bad, .bad, .bad, .bad, .bad, .bad, .bad, .bad, .bad, .bad, .bad, .bad, .bad, .bad, .bad, .bad, .bad, .bad, .bad, .bad, .bad, .bad, .bad, .bad, .bad, .bad, .bad, .bad, .bad, .bad, .bad, .bad, .bad, .bad, .bad, .bad, .bad, .bad, .bad, .bad, .bad, .bad, .bad, .bad, .bad], [.box 32 [.sc (.int .i64 x0_kind), .sc (.int .i64 x0_n), .sc (.string x0_s), .lit 9 false x0_keys, .lit 32 false x0_kids], .box 32 [.sc (.int .i64 x1_kind), .sc (.int .i64 x1_n), .sc (.string x1_s), .lit 9 false x1_keys, .lit 32 false x1_kids]]⟩)) : runFn (lim F pr) g25 [.agg [.sc (.int .i64 x0_kind), .sc (.int .i64 x0_n), .sc (.string x0_s), .lit 9 false x0_keys, .lit 32 false x0_kids], .agg [.sc (.int .i64 x1_kind), .sc (.int .i64 x1_n), .sc (.string x1_s), .lit 9 false x1_keys, .lit 32 false x1_kids]] [] = some (.sc (.bool true), []) :=
  p25_1 (iadd := Ops.std.iadd) (isub := Ops.std.isub) (imul := Ops.std.imul) (iquo := Ops.std.iquo) (irem := Ops.std.irem) (ibit := Ops.std.ibit) (ishl := Ops.std.ishl) (ishr := Ops.std.ishr) (iwrap := Ops.std.iwrap) (ieq := Ops.std.ieq) (ilt := Ops.std.ilt) (ile := Ops.std.ile) (beq := Ops.std.beq) (seq := Ops.std.seq) (slt := Ops.std.slt) (sapp := Ops.std.sapp) (slen := Ops.std.slen) (sget := Ops.std.sget) (ssub := Ops.std.ssub) (llen := Ops.std.llen) (lget := Ops.std.lget) (lset := Ops.std.lset) (lapp := Ops.std.lapp) (lsub := Ops.std.lsub) (room := Ops.std.room) (call := (lim F pr).call) (loop := (lim F pr).loop) (prim := pr) b25_0 x0_kind x0_n x0_s x0_keys x0_kids x1_kind x1_n x1_s x1_keys x1_kids r rfl h1 h2 h3 h4 h5 h6 h7

theorem p25_2L (x0_kind : Int) (x0_n : Int) (x0_s : ByteArray) (x0_keys : List AV) (x0_kids : List AV) (x1_kind : Int) (x1_n : Int) (x1_s : ByteArray) (x1_keys : List AV) (x1_kids : List AV) (r : Bool) (h1 : Ops.std.ieq x0_kind x1_kind = true) (h2 : Ops.std.ieq x0_n x1_n = true) (h3 : Ops.std.seq x0_s x1_s = true) (h4 : (lim F pr).call 41 [.lit 9 false x0_keys, .lit 9 false x1_keys] [] = some (.sc (.bool r), [])) (h5 : r = true) (h6 : Ops.std.ieq (Ops.std.llen x0_kids) (Ops.std.llen x1_kids) = false) : runFn (lim F pr) g25 [.agg [.sc (.int .i64 x0_kind), .sc (.int .i64 x0_n), .sc (.string x0_s), .lit 9 false x0_keys, .lit 32 false x0_kids], .agg [.sc (.int .i64 x1_kind), .sc (.int .i64 x1_n), .sc (.string x1_s), .lit 9 false x1_keys, .lit 32 false x1_kids]] [] = some (.sc (.bool false), []) :=
  p25_2 (iadd := Ops.std.iadd) (isub := Ops.std.isub) (imul := Ops.std.imul) (iquo := Ops.std.iquo) (irem := Ops.std.irem) (ibit := Ops.std.ibit) (ishl := Ops.std.ishl) (ishr := Ops.std.ishr) (iwrap := Ops.std.iwrap) (ieq := Ops.std.ieq) (ilt := Ops.std.ilt) (ile := Ops.std.ile) (beq := Ops.std.beq) (seq := Ops.std.seq) (slt := Ops.std.slt) (sapp := Ops.std.sapp) (slen := Ops.std.slen) (sget := Ops.std.sget) (ssub := Ops.std.ssub) (llen := Ops.std.llen) (lget := Ops.std.lget) (lset := Ops.std.lset) (lapp := Ops.std.lapp) (lsub := Ops.std.lsub) (room := Ops.std.room) (call := (lim F pr).call) (loop := (lim F pr).loop) (prim := pr) b25_0 x0_kind x0_n x0_s x0_keys x0_kids x1_kind x1_n x1_s x1_keys x1_kids r rfl h1 h2 h3 h4 h5 h6

theorem p25_3L (x0_kind : Int) (x0_n : Int) (x0_s : ByteArray) (x0_keys : List AV) (x0_kids : List AV) (x1_kind : Int) (x1_n : Int) (x1_s : ByteArray) (x1_keys : List AV) (x1_kids : List AV) (r : Bool) (h1 : Ops.std.ieq x0_kind x1_kind = true) (h2 : Ops.std.ieq x0_n x1_n = true) (h3 : Ops.std.seq x0_s x1_s = true) (h4 : (lim F pr).call 41 [.lit 9 false x0_keys, .lit 9 false x1_keys] [] = some (.sc (.bool r), [])) (h5 : r = false) : runFn (lim F pr) g25 [.agg [.sc (.int .i64 x0_kind), .sc (.int .i64 x0_n), .sc (.string x0_s), .lit 9 false x0_keys, .lit 32 false x0_kids], .agg [.sc (.int .i64 x1_kind), .sc (.int .i64 x1_n), .sc (.string x1_s), .lit 9 false x1_keys, .lit 32 false x1_kids]] [] = some (.sc (.bool false), []) :=
  p25_3 (iadd := Ops.std.iadd) (isub := Ops.std.isub) (imul := Ops.std.imul) (iquo := Ops.std.iquo) (irem := Ops.std.irem) (ibit := Ops.std.ibit) (ishl := Ops.std.ishl) (ishr := Ops.std.ishr) (iwrap := Ops.std.iwrap) (ieq := Ops.std.ieq) (ilt := Ops.std.ilt) (ile := Ops.std.ile) (beq := Ops.std.beq) (seq := Ops.std.seq) (slt := Ops.std.slt) (sapp := Ops.std.sapp) (slen := Ops.std.slen) (sget := Ops.std.sget) (ssub := Ops.std.ssub) (llen := Ops.std.llen) (lget := Ops.std.lget) (lset := Ops.std.lset) (lapp := Ops.std.lapp) (lsub := Ops.std.lsub) (room := Ops.std.room) (call := (lim F pr).call) (loop := (lim F pr).loop) (prim := pr) b25_0 x0_kind x0_n x0_s x0_keys x0_kids x1_kind x1_n x1_s x1_keys x1_kids r rfl h1 h2 h3 h4 h5

theorem p25_4L (x0_kind : Int) (x0_n : Int) (x0_s : ByteArray) (x0_keys : List AV) (x0_kids : List AV) (x1_kind : Int) (x1_n : Int) (x1_s : ByteArray) (x1_keys : List AV) (x1_kids : List AV) (h1 : Ops.std.ieq x0_kind x1_kind = true) (h2 : Ops.std.ieq x0_n x1_n = true) (h3 : Ops.std.seq x0_s x1_s = false) : runFn (lim F pr) g25 [.agg [.sc (.int .i64 x0_kind), .sc (.int .i64 x0_n), .sc (.string x0_s), .lit 9 false x0_keys, .lit 32 false x0_kids], .agg [.sc (.int .i64 x1_kind), .sc (.int .i64 x1_n), .sc (.string x1_s), .lit 9 false x1_keys, .lit 32 false x1_kids]] [] = some (.sc (.bool false), []) :=
  p25_4 (iadd := Ops.std.iadd) (isub := Ops.std.isub) (imul := Ops.std.imul) (iquo := Ops.std.iquo) (irem := Ops.std.irem) (ibit := Ops.std.ibit) (ishl := Ops.std.ishl) (ishr := Ops.std.ishr) (iwrap := Ops.std.iwrap) (ieq := Ops.std.ieq) (ilt := Ops.std.ilt) (ile := Ops.std.ile) (beq := Ops.std.beq) (seq := Ops.std.seq) (slt := Ops.std.slt) (sapp := Ops.std.sapp) (slen := Ops.std.slen) (sget := Ops.std.sget) (ssub := Ops.std.ssub) (llen := Ops.std.llen) (lget := Ops.std.lget) (lset := Ops.std.lset) (lapp := Ops.std.lapp) (lsub := Ops.std.lsub) (room := Ops.std.room) (call := (lim F pr).call) (loop := (lim F pr).loop) (prim := pr) b25_0 x0_kind x0_n x0_s x0_keys x0_kids x1_kind x1_n x1_s x1_keys x1_kids  h1 h2 h3

theorem p25_5L (x0_kind : Int) (x0_n : Int) (x0_s : ByteArray) (x0_keys : List AV) (x0_kids : List AV) (x1_kind : Int) (x1_n : Int) (x1_s : ByteArray) (x1_keys : List AV) (x1_kids : List AV) (h1 : Ops.std.ieq x0_kind x1_kind = true) (h2 : Ops.std.ieq x0_n x1_n = false) : runFn (lim F pr) g25 [.agg [.sc (.int .i64 x0_kind), .sc (.int .i64 x0_n), .sc (.string x0_s), .lit 9 false x0_keys, .lit 32 false x0_kids], .agg [.sc (.int .i64 x1_kind), .sc (.int .i64 x1_n), .sc (.string x1_s), .lit 9 false x1_keys, .lit 32 false x1_kids]] [] = some (.sc (.bool false), []) :=
  p25_5 (iadd := Ops.std.iadd) (isub := Ops.std.isub) (imul := Ops.std.imul) (iquo := Ops.std.iquo) (irem := Ops.std.irem) (ibit := Ops.std.ibit) (ishl := Ops.std.ishl) (ishr := Ops.std.ishr) (iwrap := Ops.std.iwrap) (ieq := Ops.std.ieq) (ilt := Ops.std.ilt) (ile := Ops.std.ile) (beq := Ops.std.beq) (seq := Ops.std.seq) (slt := Ops.std.slt) (sapp := Ops.std.sapp) (slen := Ops.std.slen) (sget := Ops.std.sget) (ssub := Ops.std.ssub) (llen := Ops.std.llen) (lget := Ops.std.lget) (lset := Ops.std.lset) (lapp := Ops.std.lapp) (lsub := Ops.std.lsub) (room := Ops.std.room) (call := (lim F pr).call) (loop := (lim F pr).loop) (prim := pr) b25_0 x0_kind x0_n x0_s x0_keys x0_kids x1_kind x1_n x1_s x1_keys x1_kids  h1 h2

theorem p25_6L (x0_kind : Int) (x0_n : Int) (x0_s : ByteArray) (x0_keys : List AV) (x0_kids : List AV) (x1_kind : Int) (x1_n : Int) (x1_s : ByteArray) (x1_keys : List AV) (x1_kids : List AV) (h1 : Ops.std.ieq x0_kind x1_kind = false) : runFn (lim F pr) g25 [.agg [.sc (.int .i64 x0_kind), .sc (.int .i64 x0_n), .sc (.string x0_s), .lit 9 false x0_keys, .lit 32 false x0_kids], .agg [.sc (.int .i64 x1_kind), .sc (.int .i64 x1_n), .sc (.string x1_s), .lit 9 false x1_keys, .lit 32 false x1_kids]] [] = some (.sc (.bool false), []) :=
  p25_6 (iadd := Ops.std.iadd) (isub := Ops.std.isub) (imul := Ops.std.imul) (iquo := Ops.std.iquo) (irem := Ops.std.irem) (ibit := Ops.std.ibit) (ishl := Ops.std.ishl) (ishr := Ops.std.ishr) (iwrap := Ops.std.iwrap) (ieq := Ops.std.ieq) (ilt := Ops.std.ilt) (ile := Ops.std.ile) (beq := Ops.std.beq) (seq := Ops.std.seq) (slt := Ops.std.slt) (sapp := Ops.std.sapp) (slen := Ops.std.slen) (sget := Ops.std.sget) (ssub := Ops.std.ssub) (llen := Ops.std.llen) (lget := Ops.std.lget) (lset := Ops.std.lset) (lapp := Ops.std.lapp) (lsub := Ops.std.lsub) (room := Ops.std.room) (call := (lim F pr).call) (loop := (lim F pr).loop) (prim := pr) b25_0 x0_kind x0_n x0_s x0_keys x0_kids x1_kind x1_n x1_s x1_keys x1_kids  h1

abbrev W25_0_0 (x0_kind : Int) (x0_n : Int) (x0_s : ByteArray) (x0_keys : List AV) (x0_kids : List AV) (x1_kind : Int) (x1_n : Int) (x1_s : ByteArray) (x1_keys : List AV) (x1_kids : List AV) : X × St := (.ret, ⟨[.bad, .bad, .bad, .bad, .sc (.bool false), .bad, .bad, .bad, .bad, .bad, .bad, .bad, .bad, .bad, .bad, .bad, .bad, .bad, .bad, .bad, .bad, .bad, .bad, .bad, .bad, .bad, .bad, .bad, .bad, .bad, .bad, .bad, .bad, .bad, .bad, .bad, .bad, .bad, .bad, .bad, .bad, .bad, .bad, .bad, .bad, .bad, .bad, .bad, .bad, .bad, .bad, .bad, .bad, .bad, .bad, .bad, .bad, .bad, .bad, .bad, .bad], [.box 32 [.sc (.int .i64 x0_kind), .sc (.int .i64 x0_n), .sc (.string x0_s), .lit 9 false x0_keys, .lit 32 false x0_kids], .box 32 [.sc (.int .i64 x1_kind), .sc (.int .i64 x1_n), .sc (.string x1_s), .lit 9 false x1_keys, .lit 32 false x1_kids]]⟩)

abbrev W25_0_1 (x0_kind : Int) (x0_n : Int) (x0_s : ByteArray) (x0_keys : List AV) (x0_kids : List AV) (x1_kind : Int) (x1_n : Int) (x1_s : ByteArray) (x1_keys : List AV) (x1_kids : List AV) : X × St := (.brk 0, ⟨[.bad, .bad, .bad, .bad, .bad, .bad, .bad, .bad, .bad, .bad, .bad, .bad, .bad, .bad, .bad, .bad, .bad, .bad, .bad, .bad, .bad, .bad, .bad, .bad, .bad, .bad, .bad, .bad, .bad, .bad, .bad, .bad, .bad, .bad, .bad, .bad, .bad, .bad, .bad, .bad, .bad, .bad, .bad, .bad, .bad, .bad, .bad, .bad, .bad, .bad, .bad, .bad, .bad, .bad, .bad, .bad, .bad, .bad, .bad, .bad, .bad], [.box 32 [.sc (.int .i64 x0_kind), .sc (.int .i64 x0_n), .sc (.string x0_s), .lit 9 false x0_keys, .lit 32 false x0_kids], .box 32 [.sc (.int .i64 x1_kind), .sc (.int .i64 x1_n), .sc (.string x1_s), .lit 9 false x1_keys, .lit 32 false x1_kids]]⟩)

abbrev H25_0_0 (x0_kind : Int) (x0_n : Int) (x0_s : ByteArray) (x0_keys : List AV) (x0_kids : List AV) (x1_kind : Int) (x1_n : Int) (x1_s : ByteArray) (x1_keys : List AV) (x1_kids : List AV) (t5 : Int) : St := ⟨[.bad, .bad, .bptr 0 0, .bptr 1 0, .bad, .sc (.int .i64 t5), .bad, .bad, .bad, .bad, .bad, .bad, .bad, .bad, .bad, .bad, .bad, .bad, .bad, .bad, .bad, .bad, .bad, .bad, .bad, .bad, .bad, .bad, .bad, .bad, .bad, .bad, .bad, .bad, .bad, .bad, .bad, .bad, .bad, .bad, .bad, .bad, .bad, .bad, .bad, .bad, .bad, .bad, .bad, .bad, .bad, .bad, .bad, .bad, .bad, .bad, .bad, .bad, .bad, .bad, .bad], [.box 32 [.sc (.int .i64 x0_kind), .sc (.int .i64 x0_n), .sc (.string x0_s), .lit 9 false x0_keys, .lit 32 false x0_kids], .box 32 [.sc (.int .i64 x1_kind), .sc (.int .i64 x1_n), .sc (.string x1_s), .lit 9 false x1_keys, .lit 32 false x1_kids]]⟩

theorem r25_0_0_0L (x0_kind : Int) (x0_n : Int) (x0_s : ByteArray) (x0_keys : List AV) (x0_kids : List AV) (x1_kind : Int) (x1_n : Int) (x1_s : ByteArray) (x1_keys : List AV) (x1_kids : List AV) (t5 : Int) (x_kind : Int) (x_n : Int) (x_s : ByteArray) (x_keys : List AV) (x_kids : List AV) (x_kind1 : Int) (x_n1 : Int) (x_s1 : ByteArray) (x_keys1 : List AV) (x_kids1 : List AV) (r1 : Bool) (h1 : Ops.std.ilt t5 (Ops.std.llen x0_kids) = true) (h2 : Ops.std.lget x0_kids t5 = some (.agg [.sc (.int .i64 x_kind), .sc (.int .i64 x_n), .sc (.string x_s), .lit 9 false x_keys, .lit 32 false x_kids])) (h3 : Ops.std.lget x1_kids t5 = some (.agg [.sc (.int .i64 x_kind1), .sc (.int .i64 x_n1), .sc (.string x_s1), .lit 9 false x_keys1, .lit 32 false x_kids1])) (h4 : (lim F pr).call 25 [.agg [.sc (.int .i64 x_kind), .sc (.int .i64 x_n), .sc (.string x_s), .lit 9 false x_keys, .lit 32 false x_kids], .agg [.sc (.int .i64 x_kind1), .sc (.int .i64 x_n1), .sc (.string x_s1), .lit 9 false x_keys1, .lit 32 false x_kids1]] [] = some (.sc (.bool r1), [])) (h5 : r1 = true) : Ifc.round (lim F pr) [2, 3, 5] 2 b25_0 ⟨[.bad, .bad, .bptr 0 0, .bptr 1 0, .bad, .sc (.int .i64 t5), .bad, .bad, .bad, .bad, .bad, .bad, .bad, .bad, .bad, .bad, .bad, .bad, .bad, .bad, .bad, .bad, .bad, .bad, .bad, .bad, .bad, .bad, .bad, .bad, .bad, .bad, .bad, .bad, .bad, .bad, .bad, .bad, .bad, .bad, .bad, .bad, .bad, .bad, .bad, .bad, .bad, .bad, .bad, .bad, .bad, .bad, .bad, .bad, .bad, .bad, .bad, .bad, .bad, .bad, .bad], [.box 32 [.sc (.int .i64 x0_kind), .sc (.int .i64 x0_n), .sc (.string x0_s), .lit 9 false x0_keys, .lit 32 false x0_kids], .box 32 [.sc (.int .i64 x1_kind), .sc (.int .i64 x1_n), .sc (.string x1_s), .lit 9 false x1_keys, .lit 32 false x1_kids]]⟩ = (lim F pr).loop [2, 3, 5] 2 b25_0 ⟨[.bad, .bad, .bptr 0 0, .bptr 1 0, .bad, .sc (.int .i64 (Ops.std.iadd .i64 t5 1)), .bad, .bad, .bad, .bad, .bad, .bad, .bad, .bad, .bad, .bad, .bad, .bad, .bad, .bad, .bad, .bad, .bad, .bad, .bad, .bad, .bad, .bad, .bad, .bad, .bad, .bad, .bad, .bad, .bad, .bad, .bad, .bad, .bad, .bad, .bad, .bad, .bad, .bad, .bad, .bad, .bad, .bad, .bad, .bad, .bad, .bad, .bad, .bad, .bad, .bad, .bad, .bad, .bad, .bad, .bad], [.box 32 [.sc (.int .i64 x0_kind), .sc (.int .i64 x0_n), .sc (.string x0_s), .lit 9 false x0_keys, .lit 32 false x0_kids], .box 32 [.sc (.int .i64 x1_kind), .sc (.int .i64 x1_n), .sc (.string x1_s), .lit 9 false x1_keys, .lit 32 false x1_kids]]⟩ :=
  r25_0_0_0 (iadd := Ops.std.iadd) (isub := Ops.std.isub) (imul := Ops.std.imul) (iquo := Ops.std.iquo) (irem := Ops.std.irem) (ibit := Ops.std.ibit) (ishl := Ops.std.ishl) (ishr := Ops.std.ishr) (iwrap := Ops.std.iwrap) (ieq := Ops.std.ieq) (ilt := Ops.std.ilt) (ile := Ops.std.ile) (beq := Ops.std.beq) (seq := Ops.std.seq) (slt := Ops.std.slt) (sapp := Ops.std.sapp) (slen := Ops.std.slen) (sget := Ops.std.sget) (ssub := Ops.std.ssub) (llen := Ops.std.llen) (lget := Ops.std.lget) (lset := Ops.std.lset) (lapp := Ops.std.lapp) (lsub := Ops.std.lsub) (room := Ops.std.room) (call := (lim F pr).call) (loop := (lim F pr).loop) (prim := pr)  x0_kind x0_n x0_s x0_keys x0_kids x1_kind x1_n x1_s x1_keys x1_kids t5 x_kind x_n x_s x_keys x_kids x_kind1 x_n1 x_s1 x_keys1 x_kids1 r1 rfl h1 h2 h3 h4 h5

theorem r25_0_0_1L (x0_kind : Int) (x0_n : Int) (x0_s : ByteArray) (x0_keys : List AV) (x0_kids : List AV) (x1_kind : Int) (x1_n : Int) (x1_s : ByteArray) (x1_keys : List AV) (x1_kids : List AV) (t5 : Int) (x_kind : Int) (x_n : Int) (x_s : ByteArray) (x_keys : List AV) (x_kids : List AV) (x_kind1 : Int) (x_n1 : Int) (x_s1 : ByteArray) (x_keys1 : List AV) (x_kids1 : List AV) (r1 : Bool) (h1 : Ops.std.ilt t5 (Ops.std.llen x0_kids) = true) (h2 : Ops.std.lget x0_kids t5 = some (.agg [.sc (.int .i64 x_kind), .sc (.int .i64 x_n), .sc (.string x_s), .lit 9 false x_keys, .lit 32 false x_kids])) (h3 : Ops.std.lget x1_kids t5 = some (.agg [.sc (.int .i64 x_kind1), .sc (.int .i64 x_n1), .sc (.string x_s1), .lit 9 false x_keys1, .lit 32 false x_kids1])) (h4 : (lim F pr).call 25 [.agg [.sc (.int .i64 x_kind), .sc (.int .i64 x_n), .sc (.string x_s), .lit 9 false x_keys, .lit 32 false x_kids], .agg [.sc (.int .i64 x_kind1), .sc (.int .i64 x_n1), .sc (.string x_s1), .lit 9 false x_keys1, .lit 32 false x_kids1]] [] = some (.sc (.bool r1), [])) (h5 : r1 = false) : Ifc.round (lim F pr) [2, 3, 5] 2 b25_0 ⟨[.bad, .bad, .bptr 0 0, .bptr 1 0, .bad, .sc (.int .i64 t5), .bad, .bad, .bad, .bad, .bad, .bad, .bad, .bad, .bad, .bad, .bad, .bad, .bad, .bad, .bad, .bad, .bad, .bad, .bad, .bad, .bad, .bad, .bad, .bad, .bad, .bad, .bad, .bad, .bad, .bad, .bad, .bad, .bad, .bad, .bad, .bad, .bad, .bad, .bad, .bad, .bad, .bad, .bad, .bad, .bad, .bad, .bad, .bad, .bad, .bad, .bad, .bad, .bad, .bad, .bad], [.box 32 [.sc (.int .i64 x0_kind), .sc (.int .i64 x0_n), .sc (.string x0_s), .lit 9 false x0_keys, .lit 32 false x0_kids], .box 32 [.sc (.int .i64 x1_kind), .sc (.int .i64 x1_n), .sc (.string x1_s), .lit 9 false x1_keys, .lit 32 false x1_kids]]⟩ = some (.ret, ⟨[.bad, .bad, .bad, .bad, .sc (.bool false), .bad, .bad, .bad, .bad, .bad, .bad, .bad, .bad, .bad, .bad, .bad, .bad, .bad, .bad, .bad, .bad, .bad, .bad, .bad, .bad, .bad, .bad, .bad, .bad, .bad, .bad, .bad, .bad, .bad, .bad, .bad, .bad, .bad, .bad, .bad, .bad, .bad, .bad, .bad, .bad, .bad, .bad, .bad, .bad, .bad, .bad, .bad, .bad, .bad, .bad, .bad, .bad, .bad, .bad, .bad, .bad], [.box 32 [.sc (.int .i64 x0_kind), .sc (.int .i64 x0_n), .sc (.string x0_s), .lit 9 false x0_keys, .lit 32 false x0_kids], .box 32 [.sc (.int .i64 x1_kind), .sc (.int .i64 x1_n), .sc (.string x1_s), .lit 9 false x1_keys, .lit 32 false x1_kids]]⟩) :=
  r25_0_0_1 (iadd := Ops.std.iadd) (isub := Ops.std.isub) (imul := Ops.std.imul) (iquo := Ops.std.iquo) (irem := Ops.std.irem) (ibit := Ops.std.ibit) (ishl := Ops.std.ishl) (ishr := Ops.std.ishr) (iwrap := Ops.std.iwrap) (ieq := Ops.std.ieq) (ilt := Ops.std.ilt) (ile := Ops.std.ile) (beq := Ops.std.beq) (seq := Ops.std.seq) (slt := Ops.std.slt) (sapp := Ops.std.sapp) (slen := Ops.std.slen) (sget := Ops.std.sget) (ssub := Ops.std.ssub) (llen := Ops.std.llen) (lget := Ops.std.lget) (lset := Ops.std.lset) (lapp := Ops.std.lapp) (lsub := Ops.std.lsub) (room := Ops.std.room) (call := (lim F pr).call) (loop := (lim F pr).loop) (prim := pr)  x0_kind x0_n x0_s x0_keys x0_kids x1_kind x1_n x1_s x1_keys x1_kids t5 x_kind x_n x_s x_keys x_kids x_kind1 x_n1 x_s1 x_keys1 x_kids1 r1 rfl h1 h2 h3 h4 h5

theorem r25_0_0_2L (x0_kind : Int) (x0_n : Int) (x0_s : ByteArray) (x0_keys : List AV) (x0_kids : List AV) (x1_kind : Int) (x1_n : Int) (x1_s : ByteArray) (x1_keys : List AV) (x1_kids : List AV) (t5 : Int) (h1 : Ops.std.ilt t5 (Ops.std.llen x0_kids) = false) : Ifc.round (lim F pr) [2, 3, 5] 2 b25_0 ⟨[.bad, .bad, .bptr 0 0, .bptr 1 0, .bad, .sc (.int .i64 t5), .bad, .bad, .bad, .bad, .bad, .bad, .bad, .bad, .bad, .bad, .bad, .bad, .bad, .bad, .bad, .bad, .bad, .bad, .bad, .bad, .bad, .bad, .bad, .bad, .bad, .bad, .bad, .bad, .bad, .bad, .bad, .bad, .bad, .bad, .bad, .bad, .bad, .bad, .bad, .bad, .bad, .bad, .bad, .bad, .bad, .bad, .bad, .bad, .bad, .bad, .bad, .bad, .bad, .bad, .bad], [.box 32 [.sc (.int .i64 x0_kind), .sc (.int .i64 x0_n), .sc (.string x0_s), .lit 9 false x0_keys, .lit 32 false x0_kids], .box 32 [.sc (.int .i64 x1_kind), .sc (.int .i64 x1_n), .sc (.string x1_s), .lit 9 false x1_keys, .lit 32 false x1_kids]]⟩ = some (.brk 0, ⟨[.bad, .bad, .bad, .bad, .bad, .bad, .bad, .bad, .bad, .bad, .bad, .bad, .bad, .bad, .bad, .bad, .bad, .bad, .bad, .bad, .bad, .bad, .bad, .bad, .bad, .bad, .bad, .bad, .bad, .bad, .bad, .bad, .bad, .bad, .bad, .bad, .bad, .bad, .bad, .bad, .bad, .bad, .bad, .bad, .bad, .bad, .bad, .bad, .bad, .bad, .bad, .bad, .bad, .bad, .bad, .bad, .bad, .bad, .bad, .bad, .bad], [.box 32 [.sc (.int .i64 x0_kind), .sc (.int .i64 x0_n), .sc (.string x0_s), .lit 9 false x0_keys, .lit 32 false x0_kids], .box 32 [.sc (.int .i64 x1_kind), .sc (.int .i64 x1_n), .sc (.string x1_s), .lit 9 false x1_keys, .lit 32 false x1_kids]]⟩) :=
  r25_0_0_2 (iadd := Ops.std.iadd) (isub := Ops.std.isub) (imul := Ops.std.imul) (iquo := Ops.std.iquo) (irem := Ops.std.irem) (ibit := Ops.std.ibit) (ishl := Ops.std.ishl) (ishr := Ops.std.ishr) (iwrap := Ops.std.iwrap) (ieq := Ops.std.ieq) (ilt := Ops.std.ilt) (ile := Ops.std.ile) (beq := Ops.std.beq) (seq := Ops.std.seq) (slt := Ops.std.slt) (sapp := Ops.std.sapp) (slen := Ops.std.slen) (sget := Ops.std.sget) (ssub := Ops.std.ssub) (llen := Ops.std.llen) (lget := Ops.std.lget) (lset := Ops.std.lset) (lapp := Ops.std.lapp) (lsub := Ops.std.lsub) (room := Ops.std.room) (call := (lim F pr).call) (loop := (lim F pr).loop) (prim := pr)  x0_kind x0_n x0_s x0_keys x0_kids x1_kind x1_n x1_s x1_keys x1_kids t5  h1

theorem p24_0L (x0_kind : Int) (x0_n : Int) (x0_s : ByteArray) (x0_keys : List AV) (x0_kids : List AV) (x1 : ByteArray) (r : Int) (h1 : (lim F pr).call 40 [.lit 9 false x0_keys, .sc (.string x1)] [] = some (.sc (.int .i64 r), [])) (h2 : Ops.std.ieq x0_kind 4 = true) (h3 : Ops.std.ieq r (Ops.std.llen x0_keys) = true) : runFn (lim F pr) g24 [.agg [.sc (.int .i64 x0_kind), .sc (.int .i64 x0_n), .sc (.string x0_s), .lit 9 false x0_keys, .lit 32 false x0_kids], .sc (.string x1)] [] = some (.tup [.agg [.sc (.int .i64 0), .sc (.int .i64 0), .sc (.string ⟨#[]⟩), .lit 9 false [], .lit 32 false []], .sc (.bool false)], []) :=
  p24_0 (iadd := Ops.std.iadd) (isub := Ops.std.isub) (imul := Ops.std.imul) (iquo := Ops.std.iquo) (irem := Ops.std.irem) (ibit := Ops.std.ibit) (ishl := Ops.std.ishl) (ishr := Ops.std.ishr) (iwrap := Ops.std.iwrap) (ieq := Ops.std.ieq) (ilt := Ops.std.ilt) (ile := Ops.std.ile) (beq := Ops.std.beq) (seq := Ops.std.seq) (slt := Ops.std.slt) (sapp := Ops.std.sapp) (slen := Ops.std.slen) (sget := Ops.std.sget) (ssub := Ops.std.ssub) (llen := Ops.std.llen) (lget := Ops.std.lget) (lset := Ops.std.lset) (lapp := Ops.std.lapp) (lsub := Ops.std.lsub) (room := Ops.std.room) (call := (lim F pr).call) (loop := (lim F pr).loop) (prim := pr)  x0_kind x0_n x0_s x0_keys x0_kids x1 r rfl h1 h2 h3

theorem p24_1L (x0_kind : Int) (x0_n : Int) (x0_s : ByteArray) (x0_keys : List AV) (x0_kids : List AV) (x1 : ByteArray) (r : Int) (h1 : (lim F pr).call 40 [.lit 9 false x0_keys, .sc (.string x1)] [] = some (.sc (.int .i64 r), [])) (h2 : Ops.std.ieq x0_kind 4 = true) (h3 : Ops.std.ieq r (Ops.std.llen x0_keys) = false) (h4 : Ops.std.ile (Ops.std.llen x0_kids) r = true) : runFn (lim F pr) g24 [.agg [.sc (.int .i64 x0_kind), .sc (.int .i64 x0_n), .sc (.string x0_s), .lit 9 false x0_keys, .lit 32 false x0_kids], .sc (.string x1)] [] = some (.tup [.agg [.sc (.int .i64 0), .sc (.int .i64 0), .sc (.string ⟨#[]⟩), .lit 9 false [], .lit 32 false []], .sc (.bool false)], []) :=
  p24_1 (iadd := Ops.std.iadd) (isub := Ops.std.isub) (imul := Ops.std.imul) (iquo := Ops.std.iquo) (irem := Ops.std.irem) (ibit := Ops.std.ibit) (ishl := Ops.std.ishl) (ishr := Ops.std.ishr) (iwrap := Ops.std.iwrap) (ieq := Ops.std.ieq) (ilt := Ops.std.ilt) (ile := Ops.std.ile) (beq := Ops.std.beq) (seq := Ops.std.seq) (slt := Ops.std.slt) (sapp := Ops.std.sapp) (slen := Ops.std.slen) (sget := Ops.std.sget) (ssub := Ops.std.ssub) (llen := Ops.std.llen) (lget := Ops.std.lget) (lset := Ops.std.lset) (lapp := Ops.std.lapp) (lsub := Ops.std.lsub) (room := Ops.std.room) (call := (lim F pr).call) (loop := (lim F pr).loop) (prim := pr)  x0_kind x0_n x0_s x0_keys x0_kids x1 r rfl h1 h2 h3 h4

theorem p24_2L (x0_kind : Int) (x0_n : Int) (x0_s : ByteArray) (x0_keys : List AV) (x0_kids : List AV) (x1 : ByteArray) (r : Int) (x_kind : Int) (x_n : Int) (x_s : ByteArray) (x_keys : List AV) (x_kids : List AV) (h1 : (lim F pr).call 40 [.lit 9 false x0_keys, .sc (.string x1)] [] = some (.sc (.int .i64 r), [])) (h2 : Ops.std.ieq x0_kind 4 = true) (h3 : Ops.std.ieq r (Ops.std.llen x0_keys) = false) (h4 : Ops.std.ile (Ops.std.llen x0_kids) r = false) (h5 : Ops.std.lget x0_kids r = some (.agg [.sc (.int .i64 x_kind), .sc (.int .i64 x_n), .sc (.string x_s), .lit 9 false x_keys, .lit 32 false x_kids])) : runFn (lim F pr) g24 [.agg [.sc (.int .i64 x0_kind), .sc (.int .i64 x0_n), .sc (.string x0_s), .lit 9 false x0_keys, .lit 32 false x0_kids], .sc (.string x1)] [] = some (.tup [.agg [.sc (.int .i64 x_kind), .sc (.int .i64 x_n), .sc (.string x_s), .lit 9 false x_keys, .lit 32 false x_kids], .sc (.bool true)], []) :=
  p24_2 (iadd := Ops.std.iadd) (isub := Ops.std.isub) (imul := Ops.std.imul) (iquo := Ops.std.iquo) (irem := Ops.std.irem) (ibit := Ops.std.ibit) (ishl := Ops.std.ishl) (ishr := Ops.std.ishr) (iwrap := Ops.std.iwrap) (ieq := Ops.std.ieq) (ilt := Ops.std.ilt) (ile := Ops.std.ile) (beq := Ops.std.beq) (seq := Ops.std.seq) (slt := Ops.std.slt) (sapp := Ops.std.sapp) (slen := Ops.std.slen) (sget := Ops.std.sget) (ssub := Ops.std.ssub) (llen := Ops.std.llen) (lget := Ops.std.lget) (lset := Ops.std.lset) (lapp := Ops.std.lapp) (lsub := Ops.std.lsub) (room := Ops.std.room) (call := (lim F pr).call) (loop := (lim F pr).loop) (prim := pr)  x0_kind x0_n x0_s x0_keys x0_kids x1 r x_kind x_n x_s x_keys x_kids rfl h1 h2 h3 h4 h5

theorem p24_3L (x0_kind : Int) (x0_n : Int) (x0_s : ByteArray) (x0_keys : List AV) (x0_kids : List AV) (x1 : ByteArray) (r : Int) (h1 : (lim F pr).call 40 [.lit 9 false x0_keys, .sc (.string x1)] [] = some (.sc (.int .i64 r), [])) (h2 : Ops.std.ieq x0_kind 4 = false) : runFn (lim F pr) g24 [.agg [.sc (.int .i64 x0_kind), .sc (.int .i64 x0_n), .sc (.string x0_s), .lit 9 false x0_keys, .lit 32 false x0_kids], .sc (.string x1)] [] = some (.tup [.agg [.sc (.int .i64 0), .sc (.int .i64 0), .sc (.string ⟨#[]⟩), .lit 9 false [], .lit 32 false []], .sc (.bool false)], []) :=
  p24_3 (iadd := Ops.std.iadd) (isub := Ops.std.isub) (imul := Ops.std.imul) (iquo := Ops.std.iquo) (irem := Ops.std.irem) (ibit := Ops.std.ibit) (ishl := Ops.std.ishl) (ishr := Ops.std.ishr) (iwrap := Ops.std.iwrap) (ieq := Ops.std.ieq) (ilt := Ops.std.ilt) (ile := Ops.std.ile) (beq := Ops.std.beq) (seq := Ops.std.seq) (slt := Ops.std.slt) (sapp := Ops.std.sapp) (slen := Ops.std.slen) (sget := Ops.std.sget) (ssub := Ops.std.ssub) (llen := Ops.std.llen) (lget := Ops.std.lget) (lset := Ops.std.lset) (lapp := Ops.std.lapp) (lsub := Ops.std.lsub) (room := Ops.std.room) (call := (lim F pr).call) (loop := (lim F pr).loop) (prim := pr)  x0_kind x0_n x0_s x0_keys x0_kids x1 r rfl h1 h2

theorem p23_0L (x0_kind : Int) (x0_n : Int) (x0_s : ByteArray) (x0_keys : List AV) (x0_kids : List AV) (x1 : ByteArray) (r : Int) (h1 : (lim F pr).call 38 [.lit 9 false x0_keys, .sc (.string x1)] [] = some (.sc (.int .i64 r), [])) (h2 : Ops.std.ieq x0_kind 4 = true) (h3 : Ops.std.ilt r 0 = true) : runFn (lim F pr) g23 [.agg [.sc (.int .i64 x0_kind), .sc (.int .i64 x0_n), .sc (.string x0_s), .lit 9 false x0_keys, .lit 32 false x0_kids], .sc (.string x1)] [] = some (.tup [.agg [.sc (.int .i64 0), .sc (.int .i64 0), .sc (.string ⟨#[]⟩), .lit 9 false [], .lit 32 false []], .sc (.bool false)], []) :=
  p23_0 (iadd := Ops.std.iadd) (isub := Ops.std.isub) (imul := Ops.std.imul) (iquo := Ops.std.iquo) (irem := Ops.std.irem) (ibit := Ops.std.ibit) (ishl := Ops.std.ishl) (ishr := Ops.std.ishr) (iwrap := Ops.std.iwrap) (ieq := Ops.std.ieq) (ilt := Ops.std.ilt) (ile := Ops.std.ile) (beq := Ops.std.beq) (seq := Ops.std.seq) (slt := Ops.std.slt) (sapp := Ops.std.sapp) (slen := Ops.std.slen) (sget := Ops.std.sget) (ssub := Ops.std.ssub) (llen := Ops.std.llen) (lget := Ops.std.lget) (lset := Ops.std.lset) (lapp := Ops.std.lapp) (lsub := Ops.std.lsub) (room := Ops.std.room) (call := (lim F pr).call) (loop := (lim F pr).loop) (prim := pr)  x0_kind x0_n x0_s x0_keys x0_kids x1 r rfl h1 h2 h3

theorem p23_1L (x0_kind : Int) (x0_n : Int) (x0_s : ByteArray) (x0_keys : List AV) (x0_kids : List AV) (x1 : ByteArray) (r : Int) (h1 : (lim F pr).call 38 [.lit 9 false x0_keys, .sc (.string x1)] [] = some (.sc (.int .i64 r), [])) (h2 : Ops.std.ieq x0_kind 4 = true) (h3 : Ops.std.ilt r 0 = false) (h4 : Ops.std.ile (Ops.std.llen x0_kids) r = true) : runFn (lim F pr) g23 [.agg [.sc (.int .i64 x0_kind), .sc (.int .i64 x0_n), .sc (.string x0_s), .lit 9 false x0_keys, .lit 32 false x0_kids], .sc (.string x1)] [] = some (.tup [.agg [.sc (.int .i64 0), .sc (.int .i64 0), .sc (.string ⟨#[]⟩), .lit 9 false [], .lit 32 false []], .sc (.bool false)], []) :=
  p23_1 (iadd := Ops.std.iadd) (isub := Ops.std.isub) (imul := Ops.std.imul) (iquo := Ops.std.iquo) (irem := Ops.std.irem) (ibit := Ops.std.ibit) (ishl := Ops.std.ishl) (ishr := Ops.std.ishr) (iwrap := Ops.std.iwrap) (ieq := Ops.std.ieq) (ilt := Ops.std.ilt) (ile := Ops.std.ile) (beq := Ops.std.beq) (seq := Ops.std.seq) (slt := Ops.std.slt) (sapp := Ops.std.sapp) (slen := Ops.std.slen) (sget := Ops.std.sget) (ssub := Ops.std.ssub) (llen := Ops.std.llen) (lget := Ops.std.lget) (lset := Ops.std.lset) (lapp := Ops.std.lapp) (lsub := Ops.std.lsub) (room := Ops.std.room) (call := (lim F pr).call) (loop := (lim F pr).loop) (prim := pr)  x0_kind x0_n x0_s x0_keys x0_kids x1 r rfl h1 h2 h3 h4

theorem p23_2L (x0_kind : Int) (x0_n : Int) (x0_s : ByteArray) (x0_keys : List AV) (x0_kids : List AV) (x1 : ByteArray) (r : Int) (x_kind : Int) (x_n : Int) (x_s : ByteArray) (x_keys : List AV) (x_kids : List AV) (r_kind : Int) (r_n : Int) (r_s : ByteArray) (r_keys : List AV) (r_kids : List AV) (h1 : (lim F pr).call 38 [.lit 9 false x0_keys, .sc (.string x1)] [] = some (.sc (.int .i64 r), [])) (h2 : Ops.std.ieq x0_kind 4 = true) (h3 : Ops.std.ilt r 0 = false) (h4 : Ops.std.ile (Ops.std.llen x0_kids) r = false) (h5 : Ops.std.lget x0_kids r = some (.agg [.sc (.int .i64 x_kind), .sc (.int .i64 x_n), .sc (.string x_s), .lit 9 false x_keys, .lit 32 false x_kids])) (h6 : (lim F pr).call 39 [.agg [.sc (.int .i64 x_kind), .sc (.int .i64 x_n), .sc (.string x_s), .lit 9 false x_keys, .lit 32 false x_kids]] [] = some (.agg [.sc (.int .i64 r_kind), .sc (.int .i64 r_n), .sc (.string r_s), .sl 0 0, .sl 1 0], [.row 9 0 false r_keys, .row 32 0 false r_kids])) : runFn (lim F pr) g23 [.agg [.sc (.int .i64 x0_kind), .sc (.int .i64 x0_n), .sc (.string x0_s), .lit 9 false x0_keys, .lit 32 false x0_kids], .sc (.string x1)] [] = some (.tup [.agg [.sc (.int .i64 r_kind), .sc (.int .i64 r_n), .sc (.string r_s), .lit 9 false r_keys, .lit 32 false r_kids], .sc (.bool true)], []) :=
  p23_2 (iadd := Ops.std.iadd) (isub := Ops.std.isub) (imul := Ops.std.imul) (iquo := Ops.std.iquo) (irem := Ops.std.irem) (ibit := Ops.std.ibit) (ishl := Ops.std.ishl) (ishr := Ops.std.ishr) (iwrap := Ops.std.iwrap) (ieq := Ops.std.ieq) (ilt := Ops.std.ilt) (ile := Ops.std.ile) (beq := Ops.std.beq) (seq := Ops.std.seq) (slt := Ops.std.slt) (sapp := Ops.std.sapp) (slen := Ops.std.slen) (sget := Ops.std.sget) (ssub := Ops.std.ssub) (llen := Ops.std.llen) (lget := Ops.std.lget) (lset := Ops.std.lset) (lapp := Ops.std.lapp) (lsub := Ops.std.lsub) (room := Ops.std.room) (call := (lim F pr).call) (loop := (lim F pr).loop) (prim := pr)  x0_kind x0_n x0_s x0_keys x0_kids x1 r x_kind x_n x_s x_keys x_kids r_kind r_n r_s r_keys r_kids rfl rfl h1 h2 h3 h4 h5 h6

theorem p23_3L (x0_kind : Int) (x0_n : Int) (x0_s : ByteArray) (x0_keys : List AV) (x0_kids : List AV) (x1 : ByteArray) (r : Int) (h1 : (lim F pr).call 38 [.lit 9 false x0_keys, .sc (.string x1)] [] = some (.sc (.int .i64 r), [])) (h2 : Ops.std.ieq x0_kind 4 = false) : runFn (lim F pr) g23 [.agg [.sc (.int .i64 x0_kind), .sc (.int .i64 x0_n), .sc (.string x0_s), .lit 9 false x0_keys, .lit 32 false x0_kids], .sc (.string x1)] [] = some (.tup [.agg [.sc (.int .i64 0), .sc (.int .i64 0), .sc (.string ⟨#[]⟩), .lit 9 false [], .lit 32 false []], .sc (.bool false)], []) :=
  p23_3 (iadd := Ops.std.iadd) (isub := Ops.std.isub) (imul := Ops.std.imul) (iquo := Ops.std.iquo) (irem := Ops.std.irem) (ibit := Ops.std.ibit) (ishl := Ops.std.ishl) (ishr := Ops.std.ishr) (iwrap := Ops.std.iwrap) (ieq := Ops.std.ieq) (ilt := Ops.std.ilt) (ile := Ops.std.ile) (beq := Ops.std.beq) (seq := Ops.std.seq) (slt := Ops.std.slt) (sapp := Ops.std.sapp) (slen := Ops.std.slen) (sget := Ops.std.sget) (ssub := Ops.std.ssub) (llen := Ops.std.llen) (lget := Ops.std.lget) (lset := Ops.std.lset) (lapp := Ops.std.lapp) (lsub := Ops.std.lsub) (room := Ops.std.room) (call := (lim F pr).call) (loop := (lim F pr).loop) (prim := pr)  x0_kind x0_n x0_s x0_keys x0_kids x1 r rfl h1 h2

end Go.Ab.Try
