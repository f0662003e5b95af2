/- What the functions of chapter 11 come to, way by way: printed by a program. -/
import Derived.Test.YtcnohiofldkcoaaTreeF
namespace Go.Ab.Try
open Go Go.Proofs
set_option linter.unusedVariables false
set_option maxRecDepth 10000
section
variable {iadd isub imul iquo : IntKind → Int → Int → Int} {irem : Int → Int → Int} {ibit : BinOp → IntKind → Int → Int → Int} {ishl ishr : IntKind → Int → Int → Int} {iwrap : IntKind → Int → Int}
  {ieq ilt ile : Int → Int → Bool} {beq : Bool → Bool → Bool} {seq slt : ByteArray → ByteArray → Bool} {sapp : ByteArray → ByteArray → Option ByteArray} {slen : ByteArray → Int} {sget : ByteArray → Int → Option Int} {ssub : ByteArray → Int → Int → Option ByteArray}
  {llen : List AV → Int} {lget : List AV → Int → Option AV} {lset : List AV → Int → AV → List AV} {lapp : List AV → List AV → List AV} {lsub : List AV → Int → Int → Option (List AV)} {room : Nat → List AV → List AV → Bool}
  {call : FuncId → List AV → Store → Option (AV × Store)} {loop : List Nat → Nat → Cd → St → Option (X × St)} {prim : FuncId → Option Prim}

theorem p36_0 (c0 : Cd) (x0_kind : Int) (x0_n : Int) (x0_s : ByteArray) (x0_keys : List AV) (x0_kids : List AV) (x1 : Int) (r : Int) (t4o : Int) (hp47 : prim 47 = none) (h1 : call 47 [.agg [.sc (.int .i64 x0_kind), .sc (.int .i64 x0_n), .sc (.string x0_s), .lit 9 false x0_keys, .lit 32 false x0_kids], .sc (.int .i64 x1)] [] = some (.sc (.int .i64 r), [])) (h2 : ieq r 0 = true) (h3 : loop [17, 16, 1, 18] 1 c0 ⟨[.bad, .sc (.int .i64 x1), .bad, .bad, .bad, .bad, .bad, .bad, .bad, .bad, .bad, .bad, .bad, .bad, .bad, .bad, .lit 32 false x0_kids, .sc (.int .i64 (llen x0_kids)), .sc (.int .i64 0), .bad, .bad, .bad, .bad, .bad, .bad, .bad, .bad, .bad, .bad, .bad], [.box 32 [.sc (.int .i64 x0_kind), .sc (.int .i64 x0_n), .sc (.string x0_s), .lit 9 false x0_keys, .lit 32 false x0_kids]]⟩ = some (.ret, ⟨[.bad, .bad, .bad, .bad, .sc (.int .i64 t4o), .bad, .bad, .bad, .bad, .bad, .bad, .bad, .bad, .bad, .bad, .bad, .bad, .bad, .bad, .bad, .bad, .bad, .bad, .bad, .bad, .bad, .bad, .bad, .bad, .bad], [.box 32 [.sc (.int .i64 x0_kind), .sc (.int .i64 x0_n), .sc (.string x0_s), .lit 9 false x0_keys, .lit 32 false x0_kids]]⟩)) : runFn ⟨⟨iadd, isub, imul, iquo, irem, ibit, ishl, ishr, iwrap, ieq, ilt, ile, beq, seq, slt, sapp, slen, sget, ssub, llen, lget, lset, lapp, lsub, room⟩, call, loop, prim⟩ (g36F c0) [.agg [.sc (.int .i64 x0_kind), .sc (.int .i64 x0_n), .sc (.string x0_s), .lit 9 false x0_keys, .lit 32 false x0_kids], .sc (.int .i64 x1)] [] = some (.sc (.int .i64 t4o), []) := by
  cbv
  all_goals (try rw [hp47])
  all_goals (try cbv)
  all_goals (try rw [h1])
  all_goals (try cbv)
  all_goals (try rw [h2])
  all_goals (try cbv)
  all_goals (try rw [h3])
  all_goals (try cbv)

theorem p36_1 (c0 : Cd) (x0_kind : Int) (x0_n : Int) (x0_s : ByteArray) (x0_keys : List AV) (x0_kids : List AV) (x1 : Int) (r : Int) (hp47 : prim 47 = none) (h1 : call 47 [.agg [.sc (.int .i64 x0_kind), .sc (.int .i64 x0_n), .sc (.string x0_s), .lit 9 false x0_keys, .lit 32 false x0_kids], .sc (.int .i64 x1)] [] = some (.sc (.int .i64 r), [])) (h2 : ieq r 0 = true) (h3 : loop [17, 16, 1, 18] 1 c0 ⟨[.bad, .sc (.int .i64 x1), .bad, .bad, .bad, .bad, .bad, .bad, .bad, .bad, .bad, .bad, .bad, .bad, .bad, .bad, .lit 32 false x0_kids, .sc (.int .i64 (llen x0_kids)), .sc (.int .i64 0), .bad, .bad, .bad, .bad, .bad, .bad, .bad, .bad, .bad, .bad, .bad], [.box 32 [.sc (.int .i64 x0_kind), .sc (.int .i64 x0_n), .sc (.string x0_s), .lit 9 false x0_keys, .lit 32 false x0_kids]]⟩ = some (.brk 0, ⟨[.bad, .bad, .bad, .bad, .bad, .bad, .bad, .bad, .bad, .bad, .bad, .bad, .bad, .bad, .bad, .bad, .bad, .bad, .bad, .bad, .bad, .bad, .bad, .bad, .bad, .bad, .bad, .bad, .bad, .bad], [.box 32 [.sc (.int .i64 x0_kind), .sc (.int .i64 x0_n), .sc (.string x0_s), .lit 9 false x0_keys, .lit 32 false x0_kids]]⟩)) : runFn ⟨⟨iadd, isub, imul, iquo, irem, ibit, ishl, ishr, iwrap, ieq, ilt, ile, beq, seq, slt, sapp, slen, sget, ssub, llen, lget, lset, lapp, lsub, room⟩, call, loop, prim⟩ (g36F c0) [.agg [.sc (.int .i64 x0_kind), .sc (.int .i64 x0_n), .sc (.string x0_s), .lit 9 false x0_keys, .lit 32 false x0_kids], .sc (.int .i64 x1)] [] = some (.sc (.int .i64 0), []) := by
  cbv
  all_goals (try rw [hp47])
  all_goals (try cbv)
  all_goals (try rw [h1])
  all_goals (try cbv)
  all_goals (try rw [h2])
  all_goals (try cbv)
  all_goals (try rw [h3])
  all_goals (try cbv)

theorem p36_2 (c0 : Cd) (x0_kind : Int) (x0_n : Int) (x0_s : ByteArray) (x0_keys : List AV) (x0_kids : List AV) (x1 : Int) (r : Int) (hp47 : prim 47 = none) (h1 : call 47 [.agg [.sc (.int .i64 x0_kind), .sc (.int .i64 x0_n), .sc (.string x0_s), .lit 9 false x0_keys, .lit 32 false x0_kids], .sc (.int .i64 x1)] [] = some (.sc (.int .i64 r), [])) (h2 : ieq r 0 = false) : runFn ⟨⟨iadd, isub, imul, iquo, irem, ibit, ishl, ishr, iwrap, ieq, ilt, ile, beq, seq, slt, sapp, slen, sget, ssub, llen, lget, lset, lapp, lsub, room⟩, call, loop, prim⟩ (g36F c0) [.agg [.sc (.int .i64 x0_kind), .sc (.int .i64 x0_n), .sc (.string x0_s), .lit 9 false x0_keys, .lit 32 false x0_kids], .sc (.int .i64 x1)] [] = some (.sc (.int .i64 r), []) := by
  cbv
  all_goals (try rw [hp47])
  all_goals (try cbv)
  all_goals (try rw [h1])
  all_goals (try cbv)
  all_goals (try rw [h2])
  all_goals (try cbv)

theorem r36_0_0_0 (x0_kind : Int) (x0_n : Int) (x0_s : ByteArray) (x0_keys : List AV) (x0_kids : List AV) (x1 : Int) (t18 : Int) (x_kind : Int) (x_n : Int) (x_s : ByteArray) (x_keys : List AV) (x_kids : List AV) (r1 : Int) (hp36 : prim 36 = none) (h1 : ilt t18 (llen x0_kids) = true) (h2 : lget x0_kids t18 = some (.agg [.sc (.int .i64 x_kind), .sc (.int .i64 x_n), .sc (.string x_s), .lit 9 false x_keys, .lit 32 false x_kids])) (h3 : call 36 [.agg [.sc (.int .i64 x_kind), .sc (.int .i64 x_n), .sc (.string x_s), .lit 9 false x_keys, .lit 32 false x_kids], .sc (.int .i64 (iadd .i64 x1 1))] [] = some (.sc (.int .i64 r1), [])) (h4 : ieq r1 0 = true) : Ifc.round ⟨⟨iadd, isub, imul, iquo, irem, ibit, ishl, ishr, iwrap, ieq, ilt, ile, beq, seq, slt, sapp, slen, sget, ssub, llen, lget, lset, lapp, lsub, room⟩, call, loop, prim⟩ [17, 16, 1, 18] 1 (b36_0F) ⟨[.bad, .sc (.int .i64 x1), .bad, .bad, .bad, .bad, .bad, .bad, .bad, .bad, .bad, .bad, .bad, .bad, .bad, .bad, .lit 32 false x0_kids, .sc (.int .i64 (llen x0_kids)), .sc (.int .i64 t18), .bad, .bad, .bad, .bad, .bad, .bad, .bad, .bad, .bad, .bad, .bad], [.box 32 [.sc (.int .i64 x0_kind), .sc (.int .i64 x0_n), .sc (.string x0_s), .lit 9 false x0_keys, .lit 32 false x0_kids]]⟩ = loop [17, 16, 1, 18] 1 (b36_0F) ⟨[.bad, .sc (.int .i64 x1), .bad, .bad, .bad, .bad, .bad, .bad, .bad, .bad, .bad, .bad, .bad, .bad, .bad, .bad, .lit 32 false x0_kids, .sc (.int .i64 (llen x0_kids)), .sc (.int .i64 (iadd .i64 t18 1)), .bad, .bad, .bad, .bad, .bad, .bad, .bad, .bad, .bad, .bad, .bad], [.box 32 [.sc (.int .i64 x0_kind), .sc (.int .i64 x0_n), .sc (.string x0_s), .lit 9 false x0_keys, .lit 32 false x0_kids]]⟩ := by
  cbv
  all_goals (try rw [h1])
  all_goals (try cbv)
  all_goals (try rw [h2])
  all_goals (try cbv)
  all_goals (try rw [h2])
  all_goals (try cbv)
  all_goals (try rw [hp36])
  all_goals (try cbv)
  all_goals (try rw [h3])
  all_goals (try cbv)
  all_goals (try rw [h4])
  all_goals (try cbv)

theorem r36_0_0_1 (x0_kind : Int) (x0_n : Int) (x0_s : ByteArray) (x0_keys : List AV) (x0_kids : List AV) (x1 : Int) (t18 : Int) (x_kind : Int) (x_n : Int) (x_s : ByteArray) (x_keys : List AV) (x_kids : List AV) (r1 : Int) (hp36 : prim 36 = none) (h1 : ilt t18 (llen x0_kids) = true) (h2 : lget x0_kids t18 = some (.agg [.sc (.int .i64 x_kind), .sc (.int .i64 x_n), .sc (.string x_s), .lit 9 false x_keys, .lit 32 false x_kids])) (h3 : call 36 [.agg [.sc (.int .i64 x_kind), .sc (.int .i64 x_n), .sc (.string x_s), .lit 9 false x_keys, .lit 32 false x_kids], .sc (.int .i64 (iadd .i64 x1 1))] [] = some (.sc (.int .i64 r1), [])) (h4 : ieq r1 0 = false) : Ifc.round ⟨⟨iadd, isub, imul, iquo, irem, ibit, ishl, ishr, iwrap, ieq, ilt, ile, beq, seq, slt, sapp, slen, sget, ssub, llen, lget, lset, lapp, lsub, room⟩, call, loop, prim⟩ [17, 16, 1, 18] 1 (b36_0F) ⟨[.bad, .sc (.int .i64 x1), .bad, .bad, .bad, .bad, .bad, .bad, .bad, .bad, .bad, .bad, .bad, .bad, .bad, .bad, .lit 32 false x0_kids, .sc (.int .i64 (llen x0_kids)), .sc (.int .i64 t18), .bad, .bad, .bad, .bad, .bad, .bad, .bad, .bad, .bad, .bad, .bad], [.box 32 [.sc (.int .i64 x0_kind), .sc (.int .i64 x0_n), .sc (.string x0_s), .lit 9 false x0_keys, .lit 32 false x0_kids]]⟩ = some (.ret, ⟨[.bad, .bad, .bad, .bad, .sc (.int .i64 r1), .bad, .bad, .bad, .bad, .bad, .bad, .bad, .bad, .bad, .bad, .bad, .bad, .bad, .bad, .bad, .bad, .bad, .bad, .bad, .bad, .bad, .bad, .bad, .bad, .bad], [.box 32 [.sc (.int .i64 x0_kind), .sc (.int .i64 x0_n), .sc (.string x0_s), .lit 9 false x0_keys, .lit 32 false x0_kids]]⟩) := by
  cbv
  all_goals (try rw [h1])
  all_goals (try cbv)
  all_goals (try rw [h2])
  all_goals (try cbv)
  all_goals (try rw [h2])
  all_goals (try cbv)
  all_goals (try rw [hp36])
  all_goals (try cbv)
  all_goals (try rw [h3])
  all_goals (try cbv)
  all_goals (try rw [h4])
  all_goals (try cbv)

theorem r36_0_0_2 (x0_kind : Int) (x0_n : Int) (x0_s : ByteArray) (x0_keys : List AV) (x0_kids : List AV) (x1 : Int) (t18 : Int) (h1 : ilt t18 (llen x0_kids) = false) : Ifc.round ⟨⟨iadd, isub, imul, iquo, irem, ibit, ishl, ishr, iwrap, ieq, ilt, ile, beq, seq, slt, sapp, slen, sget, ssub, llen, lget, lset, lapp, lsub, room⟩, call, loop, prim⟩ [17, 16, 1, 18] 1 (b36_0F) ⟨[.bad, .sc (.int .i64 x1), .bad, .bad, .bad, .bad, .bad, .bad, .bad, .bad, .bad, .bad, .bad, .bad, .bad, .bad, .lit 32 false x0_kids, .sc (.int .i64 (llen x0_kids)), .sc (.int .i64 t18), .bad, .bad, .bad, .bad, .bad, .bad, .bad, .bad, .bad, .bad, .bad], [.box 32 [.sc (.int .i64 x0_kind), .sc (.int .i64 x0_n), .sc (.string x0_s), .lit 9 false x0_keys, .lit 32 false x0_kids]]⟩ = some (.brk 0, ⟨[.bad, .bad, .bad, .bad, .bad, .bad, .bad, .bad, .bad, .bad, .bad, .bad, .bad, .bad, .bad, .bad, .bad, .bad, .bad, .bad, .bad, .bad, .bad, .bad, .bad, .bad, .bad, .bad, .bad, .bad], [.box 32 [.sc (.int .i64 x0_kind), .sc (.int .i64 x0_n), .sc (.string x0_s), .lit 9 false x0_keys, .lit 32 false x0_kids]]⟩) := by
  cbv
  all_goals (try rw [h1])
  all_goals (try cbv)

theorem p37_0 (c0 : Cd) (c1 : Cd) (x0_kind : Int) (x0_n : Int) (x0_s : ByteArray) (x0_keys : List AV) (x0_kids : List AV) (x1 : Int) (h1 : ilt 7 x1 = true) : runFn ⟨⟨iadd, isub, imul, iquo, irem, ibit, ishl, ishr, iwrap, ieq, ilt, ile, beq, seq, slt, sapp, slen, sget, ssub, llen, lget, lset, lapp, lsub, room⟩, call, loop, prim⟩ (g37F c0 c1) [.agg [.sc (.int .i64 x0_kind), .sc (.int .i64 x0_n), .sc (.string x0_s), .lit 9 false x0_keys, .lit 32 false x0_kids], .sc (.int .i64 x1)] [] = some (.sc (.int .i64 6), []) := by
  cbv
  all_goals (try rw [h1])
  all_goals (try cbv)

theorem p37_1 (c0 : Cd) (c1 : Cd) (x0_kind : Int) (x0_n : Int) (x0_s : ByteArray) (x0_keys : List AV) (x0_kids : List AV) (x1 : Int) (h1 : ilt 7 x1 = false) (h2 : ilt x0_kind 1 = true) : runFn ⟨⟨iadd, isub, imul, iquo, irem, ibit, ishl, ishr, iwrap, ieq, ilt, ile, beq, seq, slt, sapp, slen, sget, ssub, llen, lget, lset, lapp, lsub, room⟩, call, loop, prim⟩ (g37F c0 c1) [.agg [.sc (.int .i64 x0_kind), .sc (.int .i64 x0_n), .sc (.string x0_s), .lit 9 false x0_keys, .lit 32 false x0_kids], .sc (.int .i64 x1)] [] = some (.sc (.int .i64 9), []) := by
  cbv
  all_goals (try rw [h1])
  all_goals (try cbv)
  all_goals (try rw [h2])
  all_goals (try cbv)

theorem p37_2 (c0 : Cd) (c1 : Cd) (x0_kind : Int) (x0_n : Int) (x0_s : ByteArray) (x0_keys : List AV) (x0_kids : List AV) (x1 : Int) (h1 : ilt 7 x1 = false) (h2 : ilt x0_kind 1 = false) (h3 : ilt 4 x0_kind = true) : runFn ⟨⟨iadd, isub, imul, iquo, irem, ibit, ishl, ishr, iwrap, ieq, ilt, ile, beq, seq, slt, sapp, slen, sget, ssub, llen, lget, lset, lapp, lsub, room⟩, call, loop, prim⟩ (g37F c0 c1) [.agg [.sc (.int .i64 x0_kind), .sc (.int .i64 x0_n), .sc (.string x0_s), .lit 9 false x0_keys, .lit 32 false x0_kids], .sc (.int .i64 x1)] [] = some (.sc (.int .i64 9), []) := by
  cbv
  all_goals (try rw [h1])
  all_goals (try cbv)
  all_goals (try rw [h2])
  all_goals (try cbv)
  all_goals (try rw [h3])
  all_goals (try cbv)

theorem p37_3 (c0 : Cd) (c1 : Cd) (x0_kind : Int) (x0_n : Int) (x0_s : ByteArray) (x0_keys : List AV) (x0_kids : List AV) (x1 : Int) (r : Bool) (hp48 : prim 48 = none) (h1 : ilt 7 x1 = false) (h2 : ilt x0_kind 1 = false) (h3 : ilt 4 x0_kind = false) (h4 : call 48 [.agg [.sc (.int .i64 x0_kind), .sc (.int .i64 x0_n), .sc (.string x0_s), .lit 9 false x0_keys, .lit 32 false x0_kids]] [] = some (.sc (.bool r), [])) (h5 : r = true) : runFn ⟨⟨iadd, isub, imul, iquo, irem, ibit, ishl, ishr, iwrap, ieq, ilt, ile, beq, seq, slt, sapp, slen, sget, ssub, llen, lget, lset, lapp, lsub, room⟩, call, loop, prim⟩ (g37F c0 c1) [.agg [.sc (.int .i64 x0_kind), .sc (.int .i64 x0_n), .sc (.string x0_s), .lit 9 false x0_keys, .lit 32 false x0_kids], .sc (.int .i64 x1)] [] = some (.sc (.int .i64 1), []) := by
  cbv
  all_goals (try rw [h1])
  all_goals (try cbv)
  all_goals (try rw [h2])
  all_goals (try cbv)
  all_goals (try rw [h3])
  all_goals (try cbv)
  all_goals (try rw [hp48])
  all_goals (try cbv)
  all_goals (try rw [h4])
  all_goals (try cbv)
  all_goals (try rw [h5])
  all_goals (try cbv)

theorem p37_4 (c0 : Cd) (c1 : Cd) (x0_kind : Int) (x0_n : Int) (x0_s : ByteArray) (x0_keys : List AV) (x0_kids : List AV) (x1 : Int) (r : Bool) (t5o : Bool) (t6o : Bool) (hp48 : prim 48 = none) (h1 : ilt 7 x1 = false) (h2 : ilt x0_kind 1 = false) (h3 : ilt 4 x0_kind = false) (h4 : call 48 [.agg [.sc (.int .i64 x0_kind), .sc (.int .i64 x0_n), .sc (.string x0_s), .lit 9 false x0_keys, .lit 32 false x0_kids]] [] = some (.sc (.bool r), [])) (h5 : r = false) (h6 : loop [7, 5, 6, 2, 1] 1 c0 ⟨[.bad, .sc (.int .i64 x1), .bptr 0 0, .bad, .bad, .sc (.bool (ilt 1048576 (slen x0_s))), .sc (.bool false), .sc (.int .i64 0), .bad, .bad, .bad, .bad, .bad, .bad, .bad, .bad, .bad, .bad, .bad, .bad, .bad, .bad, .bad, .bad, .bad, .bad, .bad, .bad, .bad, .bad, .bad, .bad, .bad, .bad, .bad, .bad, .bad, .bad, .bad, .bad, .bad, .bad, .bad, .bad, .bad, .bad, .bad, .bad, .bad, .bad, .bad, .bad, .bad, .bad, .bad, .bad, .bad, .bad, .bad, .bad, .bad, .bad, .bad, .bad, .bad, .bad, .bad, .bad, .bad, .bad, .bad, .bad, .bad, .bad, .bad, .bad, .bad, .bad, .bad, .bad, .bad, .bad, .bad], [.box 32 [.sc (.int .i64 x0_kind), .sc (.int .i64 x0_n), .sc (.string x0_s), .lit 9 false x0_keys, .lit 32 false x0_kids]]⟩ = some (.brk 0, ⟨[.bad, .sc (.int .i64 x1), .bptr 0 0, .bad, .bad, .sc (.bool t5o), .sc (.bool t6o), .bad, .bad, .bad, .bad, .bad, .bad, .bad, .bad, .bad, .bad, .bad, .bad, .bad, .bad, .bad, .bad, .bad, .bad, .bad, .bad, .bad, .bad, .bad, .bad, .bad, .bad, .bad, .bad, .bad, .bad, .bad, .bad, .bad, .bad, .bad, .bad, .bad, .bad, .bad, .bad, .bad, .bad, .bad, .bad, .bad, .bad, .bad, .bad, .bad, .bad, .bad, .bad, .bad, .bad, .bad, .bad, .bad, .bad, .bad, .bad, .bad, .bad, .bad, .bad, .bad, .bad, .bad, .bad, .bad, .bad, .bad, .bad, .bad, .bad, .bad, .bad], [.box 32 [.sc (.int .i64 x0_kind), .sc (.int .i64 x0_n), .sc (.string x0_s), .lit 9 false x0_keys, .lit 32 false x0_kids]]⟩)) (h7 : t5o = true) : runFn ⟨⟨iadd, isub, imul, iquo, irem, ibit, ishl, ishr, iwrap, ieq, ilt, ile, beq, seq, slt, sapp, slen, sget, ssub, llen, lget, lset, lapp, lsub, room⟩, call, loop, prim⟩ (g37F c0 c1) [.agg [.sc (.int .i64 x0_kind), .sc (.int .i64 x0_n), .sc (.string x0_s), .lit 9 false x0_keys, .lit 32 false x0_kids], .sc (.int .i64 x1)] [] = some (.sc (.int .i64 5), []) := by
  cbv
  all_goals (try rw [h1])
  all_goals (try cbv)
  all_goals (try rw [h2])
  all_goals (try cbv)
  all_goals (try rw [h3])
  all_goals (try cbv)
  all_goals (try rw [hp48])
  all_goals (try cbv)
  all_goals (try rw [h4])
  all_goals (try cbv)
  all_goals (try rw [h5])
  all_goals (try cbv)
  all_goals (try rw [h6])
  all_goals (try cbv)
  all_goals (try rw [h7])
  all_goals (try cbv)

theorem p37_5 (c0 : Cd) (c1 : Cd) (x0_kind : Int) (x0_n : Int) (x0_s : ByteArray) (x0_keys : List AV) (x0_kids : List AV) (x1 : Int) (r : Bool) (t5o : Bool) (t6o : Bool) (hp48 : prim 48 = none) (h1 : ilt 7 x1 = false) (h2 : ilt x0_kind 1 = false) (h3 : ilt 4 x0_kind = false) (h4 : call 48 [.agg [.sc (.int .i64 x0_kind), .sc (.int .i64 x0_n), .sc (.string x0_s), .lit 9 false x0_keys, .lit 32 false x0_kids]] [] = some (.sc (.bool r), [])) (h5 : r = false) (h6 : loop [7, 5, 6, 2, 1] 1 c0 ⟨[.bad, .sc (.int .i64 x1), .bptr 0 0, .bad, .bad, .sc (.bool (ilt 1048576 (slen x0_s))), .sc (.bool false), .sc (.int .i64 0), .bad, .bad, .bad, .bad, .bad, .bad, .bad, .bad, .bad, .bad, .bad, .bad, .bad, .bad, .bad, .bad, .bad, .bad, .bad, .bad, .bad, .bad, .bad, .bad, .bad, .bad, .bad, .bad, .bad, .bad, .bad, .bad, .bad, .bad, .bad, .bad, .bad, .bad, .bad, .bad, .bad, .bad, .bad, .bad, .bad, .bad, .bad, .bad, .bad, .bad, .bad, .bad, .bad, .bad, .bad, .bad, .bad, .bad, .bad, .bad, .bad, .bad, .bad, .bad, .bad, .bad, .bad, .bad, .bad, .bad, .bad, .bad, .bad, .bad, .bad], [.box 32 [.sc (.int .i64 x0_kind), .sc (.int .i64 x0_n), .sc (.string x0_s), .lit 9 false x0_keys, .lit 32 false x0_kids]]⟩ = some (.brk 0, ⟨[.bad, .sc (.int .i64 x1), .bptr 0 0, .bad, .bad, .sc (.bool t5o), .sc (.bool t6o), .bad, .bad, .bad, .bad, .bad, .bad, .bad, .bad, .bad, .bad, .bad, .bad, .bad, .bad, .bad, .bad, .bad, .bad, .bad, .bad, .bad, .bad, .bad, .bad, .bad, .bad, .bad, .bad, .bad, .bad, .bad, .bad, .bad, .bad, .bad, .bad, .bad, .bad, .bad, .bad, .bad, .bad, .bad, .bad, .bad, .bad, .bad, .bad, .bad, .bad, .bad, .bad, .bad, .bad, .bad, .bad, .bad, .bad, .bad, .bad, .bad, .bad, .bad, .bad, .bad, .bad, .bad, .bad, .bad, .bad, .bad, .bad, .bad, .bad, .bad, .bad], [.box 32 [.sc (.int .i64 x0_kind), .sc (.int .i64 x0_n), .sc (.string x0_s), .lit 9 false x0_keys, .lit 32 false x0_kids]]⟩)) (h7 : t5o = false) (h8 : t6o = true) : runFn ⟨⟨iadd, isub, imul, iquo, irem, ibit, ishl, ishr, iwrap, ieq, ilt, ile, beq, seq, slt, sapp, slen, sget, ssub, llen, lget, lset, lapp, lsub, room⟩, call, loop, prim⟩ (g37F c0 c1) [.agg [.sc (.int .i64 x0_kind), .sc (.int .i64 x0_n), .sc (.string x0_s), .lit 9 false x0_keys, .lit 32 false x0_kids], .sc (.int .i64 x1)] [] = some (.sc (.int .i64 3), []) := by
  cbv
  all_goals (try rw [h1])
  all_goals (try cbv)
  all_goals (try rw [h2])
  all_goals (try cbv)
  all_goals (try rw [h3])
  all_goals (try cbv)
  all_goals (try rw [hp48])
  all_goals (try cbv)
  all_goals (try rw [h4])
  all_goals (try cbv)
  all_goals (try rw [h5])
  all_goals (try cbv)
  all_goals (try rw [h6])
  all_goals (try cbv)
  all_goals (try rw [h7])
  all_goals (try cbv)
  all_goals (try rw [h8])
  all_goals (try cbv)

theorem p37_6 (c0 : Cd) (c1 : Cd) (x0_kind : Int) (x0_n : Int) (x0_s : ByteArray) (x0_keys : List AV) (x0_kids : List AV) (x1 : Int) (r : Bool) (t5o : Bool) (t6o : Bool) (t4o : Int) (hp48 : prim 48 = none) (h1 : ilt 7 x1 = false) (h2 : ilt x0_kind 1 = false) (h3 : ilt 4 x0_kind = false) (h4 : call 48 [.agg [.sc (.int .i64 x0_kind), .sc (.int .i64 x0_n), .sc (.string x0_s), .lit 9 false x0_keys, .lit 32 false x0_kids]] [] = some (.sc (.bool r), [])) (h5 : r = false) (h6 : loop [7, 5, 6, 2, 1] 1 c0 ⟨[.bad, .sc (.int .i64 x1), .bptr 0 0, .bad, .bad, .sc (.bool (ilt 1048576 (slen x0_s))), .sc (.bool false), .sc (.int .i64 0), .bad, .bad, .bad, .bad, .bad, .bad, .bad, .bad, .bad, .bad, .bad, .bad, .bad, .bad, .bad, .bad, .bad, .bad, .bad, .bad, .bad, .bad, .bad, .bad, .bad, .bad, .bad, .bad, .bad, .bad, .bad, .bad, .bad, .bad, .bad, .bad, .bad, .bad, .bad, .bad, .bad, .bad, .bad, .bad, .bad, .bad, .bad, .bad, .bad, .bad, .bad, .bad, .bad, .bad, .bad, .bad, .bad, .bad, .bad, .bad, .bad, .bad, .bad, .bad, .bad, .bad, .bad, .bad, .bad, .bad, .bad, .bad, .bad, .bad, .bad], [.box 32 [.sc (.int .i64 x0_kind), .sc (.int .i64 x0_n), .sc (.string x0_s), .lit 9 false x0_keys, .lit 32 false x0_kids]]⟩ = some (.brk 0, ⟨[.bad, .sc (.int .i64 x1), .bptr 0 0, .bad, .bad, .sc (.bool t5o), .sc (.bool t6o), .bad, .bad, .bad, .bad, .bad, .bad, .bad, .bad, .bad, .bad, .bad, .bad, .bad, .bad, .bad, .bad, .bad, .bad, .bad, .bad, .bad, .bad, .bad, .bad, .bad, .bad, .bad, .bad, .bad, .bad, .bad, .bad, .bad, .bad, .bad, .bad, .bad, .bad, .bad, .bad, .bad, .bad, .bad, .bad, .bad, .bad, .bad, .bad, .bad, .bad, .bad, .bad, .bad, .bad, .bad, .bad, .bad, .bad, .bad, .bad, .bad, .bad, .bad, .bad, .bad, .bad, .bad, .bad, .bad, .bad, .bad, .bad, .bad, .bad, .bad, .bad], [.box 32 [.sc (.int .i64 x0_kind), .sc (.int .i64 x0_n), .sc (.string x0_s), .lit 9 false x0_keys, .lit 32 false x0_kids]]⟩)) (h7 : t5o = false) (h8 : t6o = false) (h9 : loop [2, 1, 8] 1 c1 ⟨[.bad, .sc (.int .i64 x1), .bptr 0 0, .bad, .bad, .bad, .bad, .bad, .sc (.int .i64 0), .bad, .bad, .bad, .bad, .bad, .bad, .bad, .bad, .bad, .bad, .bad, .bad, .bad, .bad, .bad, .bad, .bad, .bad, .bad, .bad, .bad, .bad, .bad, .bad, .bad, .bad, .bad, .bad, .bad, .bad, .bad, .bad, .bad, .bad, .bad, .bad, .bad, .bad, .bad, .bad, .bad, .bad, .bad, .bad, .bad, .bad, .bad, .bad, .bad, .bad, .bad, .bad, .bad, .bad, .bad, .bad, .bad, .bad, .bad, .bad, .bad, .bad, .bad, .bad, .bad, .bad, .bad, .bad, .bad, .bad, .bad, .bad, .bad, .bad], [.box 32 [.sc (.int .i64 x0_kind), .sc (.int .i64 x0_n), .sc (.string x0_s), .lit 9 false x0_keys, .lit 32 false x0_kids]]⟩ = some (.ret, ⟨[.bad, .bad, .bad, .bad, .sc (.int .i64 t4o), .bad, .bad, .bad, .bad, .bad, .bad, .bad, .bad, .bad, .bad, .bad, .bad, .bad, .bad, .bad, .bad, .bad, .bad, .bad, .bad, .bad, .bad, .bad, .bad, .bad, .bad, .bad, .bad, .bad, .bad, .bad, .bad, .bad, .bad, .bad, .bad, .bad, .bad, .bad, .bad, .bad, .bad, .bad, .bad, .bad, .bad, .bad, .bad, .bad, .bad, .bad, .bad, .bad, .bad, .bad, .bad, .bad, .bad, .bad, .bad, .bad, .bad, .bad, .bad, .bad, .bad, .bad, .bad, .bad, .bad, .bad, .bad, .bad, .bad, .bad, .bad, .bad, .bad], [.box 32 [.sc (.int .i64 x0_kind), .sc (.int .i64 x0_n), .sc (.string x0_s), .lit 9 false x0_keys, .lit 32 false x0_kids]]⟩)) : runFn ⟨⟨iadd, isub, imul, iquo, irem, ibit, ishl, ishr, iwrap, ieq, ilt, ile, beq, seq, slt, sapp, slen, sget, ssub, llen, lget, lset, lapp, lsub, room⟩, call, loop, prim⟩ (g37F c0 c1) [.agg [.sc (.int .i64 x0_kind), .sc (.int .i64 x0_n), .sc (.string x0_s), .lit 9 false x0_keys, .lit 32 false x0_kids], .sc (.int .i64 x1)] [] = some (.sc (.int .i64 t4o), []) := by
  cbv
  all_goals (try rw [h1])
  all_goals (try cbv)
  all_goals (try rw [h2])
  all_goals (try cbv)
  all_goals (try rw [h3])
  all_goals (try cbv)
  all_goals (try rw [hp48])
  all_goals (try cbv)
  all_goals (try rw [h4])
  all_goals (try cbv)
  all_goals (try rw [h5])
  all_goals (try cbv)
  all_goals (try rw [h6])
  all_goals (try cbv)
  all_goals (try rw [h7])
  all_goals (try cbv)
  all_goals (try rw [h8])
  all_goals (try cbv)
  all_goals (try rw [h9])
  all_goals (try cbv)

theorem p37_7 (c0 : Cd) (c1 : Cd) (x0_kind : Int) (x0_n : Int) (x0_s : ByteArray) (x0_keys : List AV) (x0_kids : List AV) (x1 : Int) (r : Bool) (t5o : Bool) (t6o : Bool) (hp48 : prim 48 = none) (h1 : ilt 7 x1 = false) (h2 : ilt x0_kind 1 = false) (h3 : ilt 4 x0_kind = false) (h4 : call 48 [.agg [.sc (.int .i64 x0_kind), .sc (.int .i64 x0_n), .sc (.string x0_s), .lit 9 false x0_keys, .lit 32 false x0_kids]] [] = some (.sc (.bool r), [])) (h5 : r = false) (h6 : loop [7, 5, 6, 2, 1] 1 c0 ⟨[.bad, .sc (.int .i64 x1), .bptr 0 0, .bad, .bad, .sc (.bool (ilt 1048576 (slen x0_s))), .sc (.bool false), .sc (.int .i64 0), .bad, .bad, .bad, .bad, .bad, .bad, .bad, .bad, .bad, .bad, .bad, .bad, .bad, .bad, .bad, .bad, .bad, .bad, .bad, .bad, .bad, .bad, .bad, .bad, .bad, .bad, .bad, .bad, .bad, .bad, .bad, .bad, .bad, .bad, .bad, .bad, .bad, .bad, .bad, .bad, .bad, .bad, .bad, .bad, .bad, .bad, .bad, .bad, .bad, .bad, .bad, .bad, .bad, .bad, .bad, .bad, .bad, .bad, .bad, .bad, .bad, .bad, .bad, .bad, .bad, .bad, .bad, .bad, .bad, .bad, .bad, .bad, .bad, .bad, .bad], [.box 32 [.sc (.int .i64 x0_kind), .sc (.int .i64 x0_n), .sc (.string x0_s), .lit 9 false x0_keys, .lit 32 false x0_kids]]⟩ = some (.brk 0, ⟨[.bad, .sc (.int .i64 x1), .bptr 0 0, .bad, .bad, .sc (.bool t5o), .sc (.bool t6o), .bad, .bad, .bad, .bad, .bad, .bad, .bad, .bad, .bad, .bad, .bad, .bad, .bad, .bad, .bad, .bad, .bad, .bad, .bad, .bad, .bad, .bad, .bad, .bad, .bad, .bad, .bad, .bad, .bad, .bad, .bad, .bad, .bad, .bad, .bad, .bad, .bad, .bad, .bad, .bad, .bad, .bad, .bad, .bad, .bad, .bad, .bad, .bad, .bad, .bad, .bad, .bad, .bad, .bad, .bad, .bad, .bad, .bad, .bad, .bad, .bad, .bad, .bad, .bad, .bad, .bad, .bad, .bad, .bad, .bad, .bad, .bad, .bad, .bad, .bad, .bad], [.box 32 [.sc (.int .i64 x0_kind), .sc (.int .i64 x0_n), .sc (.string x0_s), .lit 9 false x0_keys, .lit 32 false x0_kids]]⟩)) (h7 : t5o = false) (h8 : t6o = false) (h9 : loop [2, 1, 8] 1 c1 ⟨[.bad, .sc (.int .i64 x1), .bptr 0 0, .bad, .bad, .bad, .bad, .bad, .sc (.int .i64 0), .bad, .bad, .bad, .bad, .bad, .bad, .bad, .bad, .bad, .bad, .bad, .bad, .bad, .bad, .bad, .bad, .bad, .bad, .bad, .bad, .bad, .bad, .bad, .bad, .bad, .bad, .bad, .bad, .bad, .bad, .bad, .bad, .bad, .bad, .bad, .bad, .bad, .bad, .bad, .bad, .bad, .bad, .bad, .bad, .bad, .bad, .bad, .bad, .bad, .bad, .bad, .bad, .bad, .bad, .bad, .bad, .bad, .bad, .bad, .bad, .bad, .bad, .bad, .bad, .bad, .bad, .bad, .bad, .bad, .bad, .bad, .bad, .bad, .bad], [.box 32 [.sc (.int .i64 x0_kind), .sc (.int .i64 x0_n), .sc (.string x0_s), .lit 9 false x0_keys, .lit 32 false x0_kids]]⟩ = some (.brk 2, ⟨[.bad, .bad, .bad, .bad, .bad, .bad, .bad, .bad, .bad, .bad, .bad, .bad, .bad, .bad, .bad, .bad, .bad, .bad, .bad, .bad, .bad, .bad, .bad, .bad, .bad, .bad, .bad, .bad, .bad, .bad, .bad, .bad, .bad, .bad, .bad, .bad, .bad, .bad, .bad, .bad, .bad, .bad, .bad, .bad, .bad, .bad, .bad, .bad, .bad, .bad, .bad, .bad, .bad, .bad, .bad, .bad, .bad, .bad, .bad, .bad, .bad, .bad, .bad, .bad, .bad, .bad, .bad, .bad, .bad, .bad, .bad, .bad, .bad, .bad, .bad, .bad, .bad, .bad, .bad, .bad, .bad, .bad, .bad], [.box 32 [.sc (.int .i64 x0_kind), .sc (.int .i64 x0_n), .sc (.string x0_s), .lit 9 false x0_keys, .lit 32 false x0_kids]]⟩)) : runFn ⟨⟨iadd, isub, imul, iquo, irem, ibit, ishl, ishr, iwrap, ieq, ilt, ile, beq, seq, slt, sapp, slen, sget, ssub, llen, lget, lset, lapp, lsub, room⟩, call, loop, prim⟩ (g37F c0 c1) [.agg [.sc (.int .i64 x0_kind), .sc (.int .i64 x0_n), .sc (.string x0_s), .lit 9 false x0_keys, .lit 32 false x0_kids], .sc (.int .i64 x1)] [] = some (.sc (.int .i64 0), []) := by
  cbv
  all_goals (try rw [h1])
  all_goals (try cbv)
  all_goals (try rw [h2])
  all_goals (try cbv)
  all_goals (try rw [h3])
  all_goals (try cbv)
  all_goals (try rw [hp48])
  all_goals (try cbv)
  all_goals (try rw [h4])
  all_goals (try cbv)
  all_goals (try rw [h5])
  all_goals (try cbv)
  all_goals (try rw [h6])
  all_goals (try cbv)
  all_goals (try rw [h7])
  all_goals (try cbv)
  all_goals (try rw [h8])
  all_goals (try cbv)
  all_goals (try rw [h9])
  all_goals (try cbv)

theorem r37_0_0_0 (x0_kind : Int) (x0_n : Int) (x0_s : ByteArray) (x0_keys : List AV) (x0_kids : List AV) (x1 : Int) (t5 : Bool) (t6 : Bool) (t7 : Int) (h1 : ilt t7 (llen x0_keys) = true) (h2 : t5 = true) (h3 : t6 = true) : Ifc.round ⟨⟨iadd, isub, imul, iquo, irem, ibit, ishl, ishr, iwrap, ieq, ilt, ile, beq, seq, slt, sapp, slen, sget, ssub, llen, lget, lset, lapp, lsub, room⟩, call, loop, prim⟩ [7, 5, 6, 2, 1] 1 (b37_0F) ⟨[.bad, .sc (.int .i64 x1), .bptr 0 0, .bad, .bad, .sc (.bool t5), .sc (.bool t6), .sc (.int .i64 t7), .bad, .bad, .bad, .bad, .bad, .bad, .bad, .bad, .bad, .bad, .bad, .bad, .bad, .bad, .bad, .bad, .bad, .bad, .bad, .bad, .bad, .bad, .bad, .bad, .bad, .bad, .bad, .bad, .bad, .bad, .bad, .bad, .bad, .bad, .bad, .bad, .bad, .bad, .bad, .bad, .bad, .bad, .bad, .bad, .bad, .bad, .bad, .bad, .bad, .bad, .bad, .bad, .bad, .bad, .bad, .bad, .bad, .bad, .bad, .bad, .bad, .bad, .bad, .bad, .bad, .bad, .bad, .bad, .bad, .bad, .bad, .bad, .bad, .bad, .bad], [.box 32 [.sc (.int .i64 x0_kind), .sc (.int .i64 x0_n), .sc (.string x0_s), .lit 9 false x0_keys, .lit 32 false x0_kids]]⟩ = loop [7, 5, 6, 2, 1] 1 (b37_0F) ⟨[.bad, .sc (.int .i64 x1), .bptr 0 0, .bad, .bad, .sc (.bool true), .sc (.bool true), .sc (.int .i64 (iadd .i64 t7 1)), .bad, .bad, .bad, .bad, .bad, .bad, .bad, .bad, .bad, .bad, .bad, .bad, .bad, .bad, .bad, .bad, .bad, .bad, .bad, .bad, .bad, .bad, .bad, .bad, .bad, .bad, .bad, .bad, .bad, .bad, .bad, .bad, .bad, .bad, .bad, .bad, .bad, .bad, .bad, .bad, .bad, .bad, .bad, .bad, .bad, .bad, .bad, .bad, .bad, .bad, .bad, .bad, .bad, .bad, .bad, .bad, .bad, .bad, .bad, .bad, .bad, .bad, .bad, .bad, .bad, .bad, .bad, .bad, .bad, .bad, .bad, .bad, .bad, .bad, .bad], [.box 32 [.sc (.int .i64 x0_kind), .sc (.int .i64 x0_n), .sc (.string x0_s), .lit 9 false x0_keys, .lit 32 false x0_kids]]⟩ := by
  cbv
  all_goals (try rw [h1])
  all_goals (try cbv)
  all_goals (try rw [h2])
  all_goals (try cbv)
  all_goals (try rw [h3])
  all_goals (try cbv)

theorem r37_0_0_1 (x0_kind : Int) (x0_n : Int) (x0_s : ByteArray) (x0_keys : List AV) (x0_kids : List AV) (x1 : Int) (t5 : Bool) (t6 : Bool) (t7 : Int) (x : ByteArray) (x2 : ByteArray) (r1 : Bool) (hp46 : prim 46 = none) (h1 : ilt t7 (llen x0_keys) = true) (h2 : t5 = true) (h3 : t6 = false) (h4 : ilt 0 t7 = true) (h5 : lget x0_keys (isub .i64 t7 1) = some (.sc (.string x))) (h6 : lget x0_keys t7 = some (.sc (.string x2))) (h7 : call 46 [.sc (.string x), .sc (.string x2)] [] = some (.sc (.bool r1), [])) : Ifc.round ⟨⟨iadd, isub, imul, iquo, irem, ibit, ishl, ishr, iwrap, ieq, ilt, ile, beq, seq, slt, sapp, slen, sget, ssub, llen, lget, lset, lapp, lsub, room⟩, call, loop, prim⟩ [7, 5, 6, 2, 1] 1 (b37_0F) ⟨[.bad, .sc (.int .i64 x1), .bptr 0 0, .bad, .bad, .sc (.bool t5), .sc (.bool t6), .sc (.int .i64 t7), .bad, .bad, .bad, .bad, .bad, .bad, .bad, .bad, .bad, .bad, .bad, .bad, .bad, .bad, .bad, .bad, .bad, .bad, .bad, .bad, .bad, .bad, .bad, .bad, .bad, .bad, .bad, .bad, .bad, .bad, .bad, .bad, .bad, .bad, .bad, .bad, .bad, .bad, .bad, .bad, .bad, .bad, .bad, .bad, .bad, .bad, .bad, .bad, .bad, .bad, .bad, .bad, .bad, .bad, .bad, .bad, .bad, .bad, .bad, .bad, .bad, .bad, .bad, .bad, .bad, .bad, .bad, .bad, .bad, .bad, .bad, .bad, .bad, .bad, .bad], [.box 32 [.sc (.int .i64 x0_kind), .sc (.int .i64 x0_n), .sc (.string x0_s), .lit 9 false x0_keys, .lit 32 false x0_kids]]⟩ = loop [7, 5, 6, 2, 1] 1 (b37_0F) ⟨[.bad, .sc (.int .i64 x1), .bptr 0 0, .bad, .bad, .sc (.bool true), .sc (.bool ((!r1))), .sc (.int .i64 (iadd .i64 t7 1)), .bad, .bad, .bad, .bad, .bad, .bad, .bad, .bad, .bad, .bad, .bad, .bad, .bad, .bad, .bad, .bad, .bad, .bad, .bad, .bad, .bad, .bad, .bad, .bad, .bad, .bad, .bad, .bad, .bad, .bad, .bad, .bad, .bad, .bad, .bad, .bad, .bad, .bad, .bad, .bad, .bad, .bad, .bad, .bad, .bad, .bad, .bad, .bad, .bad, .bad, .bad, .bad, .bad, .bad, .bad, .bad, .bad, .bad, .bad, .bad, .bad, .bad, .bad, .bad, .bad, .bad, .bad, .bad, .bad, .bad, .bad, .bad, .bad, .bad, .bad], [.box 32 [.sc (.int .i64 x0_kind), .sc (.int .i64 x0_n), .sc (.string x0_s), .lit 9 false x0_keys, .lit 32 false x0_kids]]⟩ := by
  cbv
  all_goals (try rw [h1])
  all_goals (try cbv)
  all_goals (try rw [h2])
  all_goals (try cbv)
  all_goals (try rw [h3])
  all_goals (try cbv)
  all_goals (try rw [h4])
  all_goals (try cbv)
  all_goals (try rw [h5])
  all_goals (try cbv)
  all_goals (try rw [h5])
  all_goals (try cbv)
  all_goals (try rw [h6])
  all_goals (try cbv)
  all_goals (try rw [h6])
  all_goals (try cbv)
  all_goals (try rw [hp46])
  all_goals (try cbv)
  all_goals (try rw [h7])
  all_goals (try cbv)

theorem r37_0_0_2 (x0_kind : Int) (x0_n : Int) (x0_s : ByteArray) (x0_keys : List AV) (x0_kids : List AV) (x1 : Int) (t5 : Bool) (t6 : Bool) (t7 : Int) (h1 : ilt t7 (llen x0_keys) = true) (h2 : t5 = true) (h3 : t6 = false) (h4 : ilt 0 t7 = false) : Ifc.round ⟨⟨iadd, isub, imul, iquo, irem, ibit, ishl, ishr, iwrap, ieq, ilt, ile, beq, seq, slt, sapp, slen, sget, ssub, llen, lget, lset, lapp, lsub, room⟩, call, loop, prim⟩ [7, 5, 6, 2, 1] 1 (b37_0F) ⟨[.bad, .sc (.int .i64 x1), .bptr 0 0, .bad, .bad, .sc (.bool t5), .sc (.bool t6), .sc (.int .i64 t7), .bad, .bad, .bad, .bad, .bad, .bad, .bad, .bad, .bad, .bad, .bad, .bad, .bad, .bad, .bad, .bad, .bad, .bad, .bad, .bad, .bad, .bad, .bad, .bad, .bad, .bad, .bad, .bad, .bad, .bad, .bad, .bad, .bad, .bad, .bad, .bad, .bad, .bad, .bad, .bad, .bad, .bad, .bad, .bad, .bad, .bad, .bad, .bad, .bad, .bad, .bad, .bad, .bad, .bad, .bad, .bad, .bad, .bad, .bad, .bad, .bad, .bad, .bad, .bad, .bad, .bad, .bad, .bad, .bad, .bad, .bad, .bad, .bad, .bad, .bad], [.box 32 [.sc (.int .i64 x0_kind), .sc (.int .i64 x0_n), .sc (.string x0_s), .lit 9 false x0_keys, .lit 32 false x0_kids]]⟩ = loop [7, 5, 6, 2, 1] 1 (b37_0F) ⟨[.bad, .sc (.int .i64 x1), .bptr 0 0, .bad, .bad, .sc (.bool true), .sc (.bool false), .sc (.int .i64 (iadd .i64 t7 1)), .bad, .bad, .bad, .bad, .bad, .bad, .bad, .bad, .bad, .bad, .bad, .bad, .bad, .bad, .bad, .bad, .bad, .bad, .bad, .bad, .bad, .bad, .bad, .bad, .bad, .bad, .bad, .bad, .bad, .bad, .bad, .bad, .bad, .bad, .bad, .bad, .bad, .bad, .bad, .bad, .bad, .bad, .bad, .bad, .bad, .bad, .bad, .bad, .bad, .bad, .bad, .bad, .bad, .bad, .bad, .bad, .bad, .bad, .bad, .bad, .bad, .bad, .bad, .bad, .bad, .bad, .bad, .bad, .bad, .bad, .bad, .bad, .bad, .bad, .bad], [.box 32 [.sc (.int .i64 x0_kind), .sc (.int .i64 x0_n), .sc (.string x0_s), .lit 9 false x0_keys, .lit 32 false x0_kids]]⟩ := by
  cbv
  all_goals (try rw [h1])
  all_goals (try cbv)
  all_goals (try rw [h2])
  all_goals (try cbv)
  all_goals (try rw [h3])
  all_goals (try cbv)
  all_goals (try rw [h4])
  all_goals (try cbv)

theorem r37_0_0_3 (x0_kind : Int) (x0_n : Int) (x0_s : ByteArray) (x0_keys : List AV) (x0_kids : List AV) (x1 : Int) (t5 : Bool) (t6 : Bool) (t7 : Int) (x : ByteArray) (h1 : ilt t7 (llen x0_keys) = true) (h2 : t5 = false) (h3 : lget x0_keys t7 = some (.sc (.string x))) (h4 : t6 = true) : Ifc.round ⟨⟨iadd, isub, imul, iquo, irem, ibit, ishl, ishr, iwrap, ieq, ilt, ile, beq, seq, slt, sapp, slen, sget, ssub, llen, lget, lset, lapp, lsub, room⟩, call, loop, prim⟩ [7, 5, 6, 2, 1] 1 (b37_0F) ⟨[.bad, .sc (.int .i64 x1), .bptr 0 0, .bad, .bad, .sc (.bool t5), .sc (.bool t6), .sc (.int .i64 t7), .bad, .bad, .bad, .bad, .bad, .bad, .bad, .bad, .bad, .bad, .bad, .bad, .bad, .bad, .bad, .bad, .bad, .bad, .bad, .bad, .bad, .bad, .bad, .bad, .bad, .bad, .bad, .bad, .bad, .bad, .bad, .bad, .bad, .bad, .bad, .bad, .bad, .bad, .bad, .bad, .bad, .bad, .bad, .bad, .bad, .bad, .bad, .bad, .bad, .bad, .bad, .bad, .bad, .bad, .bad, .bad, .bad, .bad, .bad, .bad, .bad, .bad, .bad, .bad, .bad, .bad, .bad, .bad, .bad, .bad, .bad, .bad, .bad, .bad, .bad], [.box 32 [.sc (.int .i64 x0_kind), .sc (.int .i64 x0_n), .sc (.string x0_s), .lit 9 false x0_keys, .lit 32 false x0_kids]]⟩ = loop [7, 5, 6, 2, 1] 1 (b37_0F) ⟨[.bad, .sc (.int .i64 x1), .bptr 0 0, .bad, .bad, .sc (.bool (ilt 1048576 (slen x))), .sc (.bool true), .sc (.int .i64 (iadd .i64 t7 1)), .bad, .bad, .bad, .bad, .bad, .bad, .bad, .bad, .bad, .bad, .bad, .bad, .bad, .bad, .bad, .bad, .bad, .bad, .bad, .bad, .bad, .bad, .bad, .bad, .bad, .bad, .bad, .bad, .bad, .bad, .bad, .bad, .bad, .bad, .bad, .bad, .bad, .bad, .bad, .bad, .bad, .bad, .bad, .bad, .bad, .bad, .bad, .bad, .bad, .bad, .bad, .bad, .bad, .bad, .bad, .bad, .bad, .bad, .bad, .bad, .bad, .bad, .bad, .bad, .bad, .bad, .bad, .bad, .bad, .bad, .bad, .bad, .bad, .bad, .bad], [.box 32 [.sc (.int .i64 x0_kind), .sc (.int .i64 x0_n), .sc (.string x0_s), .lit 9 false x0_keys, .lit 32 false x0_kids]]⟩ := by
  cbv
  all_goals (try rw [h1])
  all_goals (try cbv)
  all_goals (try rw [h2])
  all_goals (try cbv)
  all_goals (try rw [h3])
  all_goals (try cbv)
  all_goals (try rw [h3])
  all_goals (try cbv)
  all_goals (try rw [h4])
  all_goals (try cbv)

theorem r37_0_0_4 (x0_kind : Int) (x0_n : Int) (x0_s : ByteArray) (x0_keys : List AV) (x0_kids : List AV) (x1 : Int) (t5 : Bool) (t6 : Bool) (t7 : Int) (x : ByteArray) (x2 : ByteArray) (r1 : Bool) (hp46 : prim 46 = none) (h1 : ilt t7 (llen x0_keys) = true) (h2 : t5 = false) (h3 : lget x0_keys t7 = some (.sc (.string x))) (h4 : t6 = false) (h5 : ilt 0 t7 = true) (h6 : lget x0_keys (isub .i64 t7 1) = some (.sc (.string x2))) (h7 : call 46 [.sc (.string x2), .sc (.string x)] [] = some (.sc (.bool r1), [])) : Ifc.round ⟨⟨iadd, isub, imul, iquo, irem, ibit, ishl, ishr, iwrap, ieq, ilt, ile, beq, seq, slt, sapp, slen, sget, ssub, llen, lget, lset, lapp, lsub, room⟩, call, loop, prim⟩ [7, 5, 6, 2, 1] 1 (b37_0F) ⟨[.bad, .sc (.int .i64 x1), .bptr 0 0, .bad, .bad, .sc (.bool t5), .sc (.bool t6), .sc (.int .i64 t7), .bad, .bad, .bad, .bad, .bad, .bad, .bad, .bad, .bad, .bad, .bad, .bad, .bad, .bad, .bad, .bad, .bad, .bad, .bad, .bad, .bad, .bad, .bad, .bad, .bad, .bad, .bad, .bad, .bad, .bad, .bad, .bad, .bad, .bad, .bad, .bad, .bad, .bad, .bad, .bad, .bad, .bad, .bad, .bad, .bad, .bad, .bad, .bad, .bad, .bad, .bad, .bad, .bad, .bad, .bad, .bad, .bad, .bad, .bad, .bad, .bad, .bad, .bad, .bad, .bad, .bad, .bad, .bad, .bad, .bad, .bad, .bad, .bad, .bad, .bad], [.box 32 [.sc (.int .i64 x0_kind), .sc (.int .i64 x0_n), .sc (.string x0_s), .lit 9 false x0_keys, .lit 32 false x0_kids]]⟩ = loop [7, 5, 6, 2, 1] 1 (b37_0F) ⟨[.bad, .sc (.int .i64 x1), .bptr 0 0, .bad, .bad, .sc (.bool (ilt 1048576 (slen x))), .sc (.bool ((!r1))), .sc (.int .i64 (iadd .i64 t7 1)), .bad, .bad, .bad, .bad, .bad, .bad, .bad, .bad, .bad, .bad, .bad, .bad, .bad, .bad, .bad, .bad, .bad, .bad, .bad, .bad, .bad, .bad, .bad, .bad, .bad, .bad, .bad, .bad, .bad, .bad, .bad, .bad, .bad, .bad, .bad, .bad, .bad, .bad, .bad, .bad, .bad, .bad, .bad, .bad, .bad, .bad, .bad, .bad, .bad, .bad, .bad, .bad, .bad, .bad, .bad, .bad, .bad, .bad, .bad, .bad, .bad, .bad, .bad, .bad, .bad, .bad, .bad, .bad, .bad, .bad, .bad, .bad, .bad, .bad, .bad], [.box 32 [.sc (.int .i64 x0_kind), .sc (.int .i64 x0_n), .sc (.string x0_s), .lit 9 false x0_keys, .lit 32 false x0_kids]]⟩ := by
  cbv
  all_goals (try rw [h1])
  all_goals (try cbv)
  all_goals (try rw [h2])
  all_goals (try cbv)
  all_goals (try rw [h3])
  all_goals (try cbv)
  all_goals (try rw [h3])
  all_goals (try cbv)
  all_goals (try rw [h4])
  all_goals (try cbv)
  all_goals (try rw [h5])
  all_goals (try cbv)
  all_goals (try rw [h6])
  all_goals (try cbv)
  all_goals (try rw [h6])
  all_goals (try cbv)
  all_goals (try rw [h3])
  all_goals (try cbv)
  all_goals (try rw [h3])
  all_goals (try cbv)
  all_goals (try rw [hp46])
  all_goals (try cbv)
  all_goals (try rw [h7])
  all_goals (try cbv)

theorem r37_0_0_5 (x0_kind : Int) (x0_n : Int) (x0_s : ByteArray) (x0_keys : List AV) (x0_kids : List AV) (x1 : Int) (t5 : Bool) (t6 : Bool) (t7 : Int) (x : ByteArray) (h1 : ilt t7 (llen x0_keys) = true) (h2 : t5 = false) (h3 : lget x0_keys t7 = some (.sc (.string x))) (h4 : t6 = false) (h5 : ilt 0 t7 = false) : Ifc.round ⟨⟨iadd, isub, imul, iquo, irem, ibit, ishl, ishr, iwrap, ieq, ilt, ile, beq, seq, slt, sapp, slen, sget, ssub, llen, lget, lset, lapp, lsub, room⟩, call, loop, prim⟩ [7, 5, 6, 2, 1] 1 (b37_0F) ⟨[.bad, .sc (.int .i64 x1), .bptr 0 0, .bad, .bad, .sc (.bool t5), .sc (.bool t6), .sc (.int .i64 t7), .bad, .bad, .bad, .bad, .bad, .bad, .bad, .bad, .bad, .bad, .bad, .bad, .bad, .bad, .bad, .bad, .bad, .bad, .bad, .bad, .bad, .bad, .bad, .bad, .bad, .bad, .bad, .bad, .bad, .bad, .bad, .bad, .bad, .bad, .bad, .bad, .bad, .bad, .bad, .bad, .bad, .bad, .bad, .bad, .bad, .bad, .bad, .bad, .bad, .bad, .bad, .bad, .bad, .bad, .bad, .bad, .bad, .bad, .bad, .bad, .bad, .bad, .bad, .bad, .bad, .bad, .bad, .bad, .bad, .bad, .bad, .bad, .bad, .bad, .bad], [.box 32 [.sc (.int .i64 x0_kind), .sc (.int .i64 x0_n), .sc (.string x0_s), .lit 9 false x0_keys, .lit 32 false x0_kids]]⟩ = loop [7, 5, 6, 2, 1] 1 (b37_0F) ⟨[.bad, .sc (.int .i64 x1), .bptr 0 0, .bad, .bad, .sc (.bool (ilt 1048576 (slen x))), .sc (.bool false), .sc (.int .i64 (iadd .i64 t7 1)), .bad, .bad, .bad, .bad, .bad, .bad, .bad, .bad, .bad, .bad, .bad, .bad, .bad, .bad, .bad, .bad, .bad, .bad, .bad, .bad, .bad, .bad, .bad, .bad, .bad, .bad, .bad, .bad, .bad, .bad, .bad, .bad, .bad, .bad, .bad, .bad, .bad, .bad, .bad, .bad, .bad, .bad, .bad, .bad, .bad, .bad, .bad, .bad, .bad, .bad, .bad, .bad, .bad, .bad, .bad, .bad, .bad, .bad, .bad, .bad, .bad, .bad, .bad, .bad, .bad, .bad, .bad, .bad, .bad, .bad, .bad, .bad, .bad, .bad, .bad], [.box 32 [.sc (.int .i64 x0_kind), .sc (.int .i64 x0_n), .sc (.string x0_s), .lit 9 false x0_keys, .lit 32 false x0_kids]]⟩ := by
  cbv
  all_goals (try rw [h1])
  all_goals (try cbv)
  all_goals (try rw [h2])
  all_goals (try cbv)
  all_goals (try rw [h3])
  all_goals (try cbv)
  all_goals (try rw [h3])
  all_goals (try cbv)
  all_goals (try rw [h4])
  all_goals (try cbv)
  all_goals (try rw [h5])
  all_goals (try cbv)

theorem r37_0_0_6 (x0_kind : Int) (x0_n : Int) (x0_s : ByteArray) (x0_keys : List AV) (x0_kids : List AV) (x1 : Int) (t5 : Bool) (t6 : Bool) (t7 : Int) (h1 : ilt t7 (llen x0_keys) = false) : Ifc.round ⟨⟨iadd, isub, imul, iquo, irem, ibit, ishl, ishr, iwrap, ieq, ilt, ile, beq, seq, slt, sapp, slen, sget, ssub, llen, lget, lset, lapp, lsub, room⟩, call, loop, prim⟩ [7, 5, 6, 2, 1] 1 (b37_0F) ⟨[.bad, .sc (.int .i64 x1), .bptr 0 0, .bad, .bad, .sc (.bool t5), .sc (.bool t6), .sc (.int .i64 t7), .bad, .bad, .bad, .bad, .bad, .bad, .bad, .bad, .bad, .bad, .bad, .bad, .bad, .bad, .bad, .bad, .bad, .bad, .bad, .bad, .bad, .bad, .bad, .bad, .bad, .bad, .bad, .bad, .bad, .bad, .bad, .bad, .bad, .bad, .bad, .bad, .bad, .bad, .bad, .bad, .bad, .bad, .bad, .bad, .bad, .bad, .bad, .bad, .bad, .bad, .bad, .bad, .bad, .bad, .bad, .bad, .bad, .bad, .bad, .bad, .bad, .bad, .bad, .bad, .bad, .bad, .bad, .bad, .bad, .bad, .bad, .bad, .bad, .bad, .bad], [.box 32 [.sc (.int .i64 x0_kind), .sc (.int .i64 x0_n), .sc (.string x0_s), .lit 9 false x0_keys, .lit 32 false x0_kids]]⟩ = some (.brk 0, ⟨[.bad, .sc (.int .i64 x1), .bptr 0 0, .bad, .bad, .sc (.bool t5), .sc (.bool t6), .bad, .bad, .bad, .bad, .bad, .bad, .bad, .bad, .bad, .bad, .bad, .bad, .bad, .bad, .bad, .bad, .bad, .bad, .bad, .bad, .bad, .bad, .bad, .bad, .bad, .bad, .bad, .bad, .bad, .bad, .bad, .bad, .bad, .bad, .bad, .bad, .bad, .bad, .bad, .bad, .bad, .bad, .bad, .bad, .bad, .bad, .bad, .bad, .bad, .bad, .bad, .bad, .bad, .bad, .bad, .bad, .bad, .bad, .bad, .bad, .bad, .bad, .bad, .bad, .bad, .bad, .bad, .bad, .bad, .bad, .bad, .bad, .bad, .bad, .bad, .bad], [.box 32 [.sc (.int .i64 x0_kind), .sc (.int .i64 x0_n), .sc (.string x0_s), .lit 9 false x0_keys, .lit 32 false x0_kids]]⟩) := by
  cbv
  all_goals (try rw [h1])
  all_goals (try cbv)

theorem r37_1_0_0 (x0_kind : Int) (x0_n : Int) (x0_s : ByteArray) (x0_keys : List AV) (x0_kids : List AV) (x1 : Int) (t8 : Int) (x_kind : Int) (x_n : Int) (x_s : ByteArray) (x_keys : List AV) (x_kids : List AV) (r1 : Int) (hp37 : prim 37 = none) (h1 : ilt t8 (llen x0_kids) = true) (h2 : lget x0_kids t8 = some (.agg [.sc (.int .i64 x_kind), .sc (.int .i64 x_n), .sc (.string x_s), .lit 9 false x_keys, .lit 32 false x_kids])) (h3 : call 37 [.agg [.sc (.int .i64 x_kind), .sc (.int .i64 x_n), .sc (.string x_s), .lit 9 false x_keys, .lit 32 false x_kids], .sc (.int .i64 (iadd .i64 x1 1))] [] = some (.sc (.int .i64 r1), [])) (h4 : ieq r1 0 = true) : Ifc.round ⟨⟨iadd, isub, imul, iquo, irem, ibit, ishl, ishr, iwrap, ieq, ilt, ile, beq, seq, slt, sapp, slen, sget, ssub, llen, lget, lset, lapp, lsub, room⟩, call, loop, prim⟩ [2, 1, 8] 1 (b37_1F) ⟨[.bad, .sc (.int .i64 x1), .bptr 0 0, .bad, .bad, .bad, .bad, .bad, .sc (.int .i64 t8), .bad, .bad, .bad, .bad, .bad, .bad, .bad, .bad, .bad, .bad, .bad, .bad, .bad, .bad, .bad, .bad, .bad, .bad, .bad, .bad, .bad, .bad, .bad, .bad, .bad, .bad, .bad, .bad, .bad, .bad, .bad, .bad, .bad, .bad, .bad, .bad, .bad, .bad, .bad, .bad, .bad, .bad, .bad, .bad, .bad, .bad, .bad, .bad, .bad, .bad, .bad, .bad, .bad, .bad, .bad, .bad, .bad, .bad, .bad, .bad, .bad, .bad, .bad, .bad, .bad, .bad, .bad, .bad, .bad, .bad, .bad, .bad, .bad, .bad], [.box 32 [.sc (.int .i64 x0_kind), .sc (.int .i64 x0_n), .sc (.string x0_s), .lit 9 false x0_keys, .lit 32 false x0_kids]]⟩ = loop [2, 1, 8] 1 (b37_1F) ⟨[.bad, .sc (.int .i64 x1), .bptr 0 0, .bad, .bad, .bad, .bad, .bad, .sc (.int .i64 (iadd .i64 t8 1)), .bad, .bad, .bad, .bad, .bad, .bad, .bad, .bad, .bad, .bad, .bad, .bad, .bad, .bad, .bad, .bad, .bad, .bad, .bad, .bad, .bad, .bad, .bad, .bad, .bad, .bad, .bad, .bad, .bad, .bad, .bad, .bad, .bad, .bad, .bad, .bad, .bad, .bad, .bad, .bad, .bad, .bad, .bad, .bad, .bad, .bad, .bad, .bad, .bad, .bad, .bad, .bad, .bad, .bad, .bad, .bad, .bad, .bad, .bad, .bad, .bad, .bad, .bad, .bad, .bad, .bad, .bad, .bad, .bad, .bad, .bad, .bad, .bad, .bad], [.box 32 [.sc (.int .i64 x0_kind), .sc (.int .i64 x0_n), .sc (.string x0_s), .lit 9 false x0_keys, .lit 32 false x0_kids]]⟩ := by
  cbv
  all_goals (try rw [h1])
  all_goals (try cbv)
  all_goals (try rw [h2])
  all_goals (try cbv)
  all_goals (try rw [h2])
  all_goals (try cbv)
  all_goals (try rw [hp37])
  all_goals (try cbv)
  all_goals (try rw [h3])
  all_goals (try cbv)
  all_goals (try rw [h4])
  all_goals (try cbv)

theorem r37_1_0_1 (x0_kind : Int) (x0_n : Int) (x0_s : ByteArray) (x0_keys : List AV) (x0_kids : List AV) (x1 : Int) (t8 : Int) (x_kind : Int) (x_n : Int) (x_s : ByteArray) (x_keys : List AV) (x_kids : List AV) (r1 : Int) (hp37 : prim 37 = none) (h1 : ilt t8 (llen x0_kids) = true) (h2 : lget x0_kids t8 = some (.agg [.sc (.int .i64 x_kind), .sc (.int .i64 x_n), .sc (.string x_s), .lit 9 false x_keys, .lit 32 false x_kids])) (h3 : call 37 [.agg [.sc (.int .i64 x_kind), .sc (.int .i64 x_n), .sc (.string x_s), .lit 9 false x_keys, .lit 32 false x_kids], .sc (.int .i64 (iadd .i64 x1 1))] [] = some (.sc (.int .i64 r1), [])) (h4 : ieq r1 0 = false) : Ifc.round ⟨⟨iadd, isub, imul, iquo, irem, ibit, ishl, ishr, iwrap, ieq, ilt, ile, beq, seq, slt, sapp, slen, sget, ssub, llen, lget, lset, lapp, lsub, room⟩, call, loop, prim⟩ [2, 1, 8] 1 (b37_1F) ⟨[.bad, .sc (.int .i64 x1), .bptr 0 0, .bad, .bad, .bad, .bad, .bad, .sc (.int .i64 t8), .bad, .bad, .bad, .bad, .bad, .bad, .bad, .bad, .bad, .bad, .bad, .bad, .bad, .bad, .bad, .bad, .bad, .bad, .bad, .bad, .bad, .bad, .bad, .bad, .bad, .bad, .bad, .bad, .bad, .bad, .bad, .bad, .bad, .bad, .bad, .bad, .bad, .bad, .bad, .bad, .bad, .bad, .bad, .bad, .bad, .bad, .bad, .bad, .bad, .bad, .bad, .bad, .bad, .bad, .bad, .bad, .bad, .bad, .bad, .bad, .bad, .bad, .bad, .bad, .bad, .bad, .bad, .bad, .bad, .bad, .bad, .bad, .bad, .bad], [.box 32 [.sc (.int .i64 x0_kind), .sc (.int .i64 x0_n), .sc (.string x0_s), .lit 9 false x0_keys, .lit 32 false x0_kids]]⟩ = some (.ret, ⟨[.bad, .bad, .bad, .bad, .sc (.int .i64 r1), .bad, .bad, .bad, .bad, .bad, .bad, .bad, .bad, .bad, .bad, .bad, .bad, .bad, .bad, .bad, .bad, .bad, .bad, .bad, .bad, .bad, .bad, .bad, .bad, .bad, .bad, .bad, .bad, .bad, .bad, .bad, .bad, .bad, .bad, .bad, .bad, .bad, .bad, .bad, .bad, .bad, .bad, .bad, .bad, .bad, .bad, .bad, .bad, .bad, .bad, .bad, .bad, .bad, .bad, .bad, .bad, .bad, .bad, .bad, .bad, .bad, .bad, .bad, .bad, .bad, .bad, .bad, .bad, .bad, .bad, .bad, .bad, .bad, .bad, .bad, .bad, .bad, .bad], [.box 32 [.sc (.int .i64 x0_kind), .sc (.int .i64 x0_n), .sc (.string x0_s), .lit 9 false x0_keys, .lit 32 false x0_kids]]⟩) := by
  cbv
  all_goals (try rw [h1])
  all_goals (try cbv)
  all_goals (try rw [h2])
  all_goals (try cbv)
  all_goals (try rw [h2])
  all_goals (try cbv)
  all_goals (try rw [hp37])
  all_goals (try cbv)
  all_goals (try rw [h3])
  all_goals (try cbv)
  all_goals (try rw [h4])
  all_goals (try cbv)

theorem r37_1_0_2 (x0_kind : Int) (x0_n : Int) (x0_s : ByteArray) (x0_keys : List AV) (x0_kids : List AV) (x1 : Int) (t8 : Int) (h1 : ilt t8 (llen x0_kids) = false) : Ifc.round ⟨⟨iadd, isub, imul, iquo, irem, ibit, ishl, ishr, iwrap, ieq, ilt, ile, beq, seq, slt, sapp, slen, sget, ssub, llen, lget, lset, lapp, lsub, room⟩, call, loop, prim⟩ [2, 1, 8] 1 (b37_1F) ⟨[.bad, .sc (.int .i64 x1), .bptr 0 0, .bad, .bad, .bad, .bad, .bad, .sc (.int .i64 t8), .bad, .bad, .bad, .bad, .bad, .bad, .bad, .bad, .bad, .bad, .bad, .bad, .bad, .bad, .bad, .bad, .bad, .bad, .bad, .bad, .bad, .bad, .bad, .bad, .bad, .bad, .bad, .bad, .bad, .bad, .bad, .bad, .bad, .bad, .bad, .bad, .bad, .bad, .bad, .bad, .bad, .bad, .bad, .bad, .bad, .bad, .bad, .bad, .bad, .bad, .bad, .bad, .bad, .bad, .bad, .bad, .bad, .bad, .bad, .bad, .bad, .bad, .bad, .bad, .bad, .bad, .bad, .bad, .bad, .bad, .bad, .bad, .bad, .bad], [.box 32 [.sc (.int .i64 x0_kind), .sc (.int .i64 x0_n), .sc (.string x0_s), .lit 9 false x0_keys, .lit 32 false x0_kids]]⟩ = some (.brk 2, ⟨[.bad, .bad, .bad, .bad, .bad, .bad, .bad, .bad, .bad, .bad, .bad, .bad, .bad, .bad, .bad, .bad, .bad, .bad, .bad, .bad, .bad, .bad, .bad, .bad, .bad, .bad, .bad, .bad, .bad, .bad, .bad, .bad, .bad, .bad, .bad, .bad, .bad, .bad, .bad, .bad, .bad, .bad, .bad, .bad, .bad, .bad, .bad, .bad, .bad, .bad, .bad, .bad, .bad, .bad, .bad, .bad, .bad, .bad, .bad, .bad, .bad, .bad, .bad, .bad, .bad, .bad, .bad, .bad, .bad, .bad, .bad, .bad, .bad, .bad, .bad, .bad, .bad, .bad, .bad, .bad, .bad, .bad, .bad], [.box 32 [.sc (.int .i64 x0_kind), .sc (.int .i64 x0_n), .sc (.string x0_s), .lit 9 false x0_keys, .lit 32 false x0_kids]]⟩) := by
  cbv
  all_goals (try rw [h1])
  all_goals (try cbv)

theorem p47_0 (c0 : Cd) (x0_kind : Int) (x0_n : Int) (x0_s : ByteArray) (x0_keys : List AV) (x0_kids : List AV) (x1 : Int) (h1 : ilt 8 x1 = true) : runFn ⟨⟨iadd, isub, imul, iquo, irem, ibit, ishl, ishr, iwrap, ieq, ilt, ile, beq, seq, slt, sapp, slen, sget, ssub, llen, lget, lset, lapp, lsub, room⟩, call, loop, prim⟩ (g47F c0) [.agg [.sc (.int .i64 x0_kind), .sc (.int .i64 x0_n), .sc (.string x0_s), .lit 9 false x0_keys, .lit 32 false x0_kids], .sc (.int .i64 x1)] [] = some (.sc (.int .i64 6), []) := by
  cbv
  all_goals (try rw [h1])
  all_goals (try cbv)

theorem p47_1 (c0 : Cd) (x0_kind : Int) (x0_n : Int) (x0_s : ByteArray) (x0_keys : List AV) (x0_kids : List AV) (x1 : Int) (h1 : ilt 8 x1 = false) (h2 : ilt x0_kind 1 = true) : runFn ⟨⟨iadd, isub, imul, iquo, irem, ibit, ishl, ishr, iwrap, ieq, ilt, ile, beq, seq, slt, sapp, slen, sget, ssub, llen, lget, lset, lapp, lsub, room⟩, call, loop, prim⟩ (g47F c0) [.agg [.sc (.int .i64 x0_kind), .sc (.int .i64 x0_n), .sc (.string x0_s), .lit 9 false x0_keys, .lit 32 false x0_kids], .sc (.int .i64 x1)] [] = some (.sc (.int .i64 9), []) := by
  cbv
  all_goals (try rw [h1])
  all_goals (try cbv)
  all_goals (try rw [h2])
  all_goals (try cbv)

theorem p47_2 (c0 : Cd) (x0_kind : Int) (x0_n : Int) (x0_s : ByteArray) (x0_keys : List AV) (x0_kids : List AV) (x1 : Int) (h1 : ilt 8 x1 = false) (h2 : ilt x0_kind 1 = false) (h3 : ilt 4 x0_kind = true) : runFn ⟨⟨iadd, isub, imul, iquo, irem, ibit, ishl, ishr, iwrap, ieq, ilt, ile, beq, seq, slt, sapp, slen, sget, ssub, llen, lget, lset, lapp, lsub, room⟩, call, loop, prim⟩ (g47F c0) [.agg [.sc (.int .i64 x0_kind), .sc (.int .i64 x0_n), .sc (.string x0_s), .lit 9 false x0_keys, .lit 32 false x0_kids], .sc (.int .i64 x1)] [] = some (.sc (.int .i64 9), []) := by
  cbv
  all_goals (try rw [h1])
  all_goals (try cbv)
  all_goals (try rw [h2])
  all_goals (try cbv)
  all_goals (try rw [h3])
  all_goals (try cbv)

theorem p47_3 (c0 : Cd) (x0_kind : Int) (x0_n : Int) (x0_s : ByteArray) (x0_keys : List AV) (x0_kids : List AV) (x1 : Int) (r : Bool) (r1 : Bool) (hp55 : prim 55 = none) (hp56 : prim 56 = none) (h1 : ilt 8 x1 = false) (h2 : ilt x0_kind 1 = false) (h3 : ilt 4 x0_kind = false) (h4 : call 55 [.agg [.sc (.int .i64 x0_kind), .sc (.int .i64 x0_n), .sc (.string x0_s), .lit 9 false x0_keys, .lit 32 false x0_kids]] [] = some (.sc (.bool r), [])) (h5 : r = true) (h6 : call 56 [.sc (.string x0_s)] [] = some (.sc (.bool r1), [])) (h7 : r1 = true) : runFn ⟨⟨iadd, isub, imul, iquo, irem, ibit, ishl, ishr, iwrap, ieq, ilt, ile, beq, seq, slt, sapp, slen, sget, ssub, llen, lget, lset, lapp, lsub, room⟩, call, loop, prim⟩ (g47F c0) [.agg [.sc (.int .i64 x0_kind), .sc (.int .i64 x0_n), .sc (.string x0_s), .lit 9 false x0_keys, .lit 32 false x0_kids], .sc (.int .i64 x1)] [] = some (.sc (.int .i64 5), []) := by
  cbv
  all_goals (try rw [h1])
  all_goals (try cbv)
  all_goals (try rw [h2])
  all_goals (try cbv)
  all_goals (try rw [h3])
  all_goals (try cbv)
  all_goals (try rw [hp55])
  all_goals (try cbv)
  all_goals (try rw [h4])
  all_goals (try cbv)
  all_goals (try rw [h5])
  all_goals (try cbv)
  all_goals (try rw [hp56])
  all_goals (try cbv)
  all_goals (try rw [h6])
  all_goals (try cbv)
  all_goals (try rw [h7])
  all_goals (try cbv)

theorem p47_4 (c0 : Cd) (x0_kind : Int) (x0_n : Int) (x0_s : ByteArray) (x0_keys : List AV) (x0_kids : List AV) (x1 : Int) (r : Bool) (r1 : Bool) (r2 : Bool) (hp55 : prim 55 = none) (hp56 : prim 56 = none) (hp57 : prim 57 = none) (h1 : ilt 8 x1 = false) (h2 : ilt x0_kind 1 = false) (h3 : ilt 4 x0_kind = false) (h4 : call 55 [.agg [.sc (.int .i64 x0_kind), .sc (.int .i64 x0_n), .sc (.string x0_s), .lit 9 false x0_keys, .lit 32 false x0_kids]] [] = some (.sc (.bool r), [])) (h5 : r = true) (h6 : call 56 [.sc (.string x0_s)] [] = some (.sc (.bool r1), [])) (h7 : r1 = false) (h8 : call 57 [.lit 9 false x0_keys, .fn 56 []] [] = some (.sc (.bool r2), [])) (h9 : r2 = true) : runFn ⟨⟨iadd, isub, imul, iquo, irem, ibit, ishl, ishr, iwrap, ieq, ilt, ile, beq, seq, slt, sapp, slen, sget, ssub, llen, lget, lset, lapp, lsub, room⟩, call, loop, prim⟩ (g47F c0) [.agg [.sc (.int .i64 x0_kind), .sc (.int .i64 x0_n), .sc (.string x0_s), .lit 9 false x0_keys, .lit 32 false x0_kids], .sc (.int .i64 x1)] [] = some (.sc (.int .i64 5), []) := by
  cbv
  all_goals (try rw [h1])
  all_goals (try cbv)
  all_goals (try rw [h2])
  all_goals (try cbv)
  all_goals (try rw [h3])
  all_goals (try cbv)
  all_goals (try rw [hp55])
  all_goals (try cbv)
  all_goals (try rw [h4])
  all_goals (try cbv)
  all_goals (try rw [h5])
  all_goals (try cbv)
  all_goals (try rw [hp56])
  all_goals (try cbv)
  all_goals (try rw [h6])
  all_goals (try cbv)
  all_goals (try rw [h7])
  all_goals (try cbv)
  all_goals (try rw [hp57])
  all_goals (try cbv)
  all_goals (try rw [h8])
  all_goals (try cbv)
  all_goals (try rw [h9])
  all_goals (try cbv)

theorem p47_5 (c0 : Cd) (x0_kind : Int) (x0_n : Int) (x0_s : ByteArray) (x0_keys : List AV) (x0_kids : List AV) (x1 : Int) (r : Bool) (r1 : Bool) (r2 : Bool) (hp55 : prim 55 = none) (hp56 : prim 56 = none) (hp57 : prim 57 = none) (h1 : ilt 8 x1 = false) (h2 : ilt x0_kind 1 = false) (h3 : ilt 4 x0_kind = false) (h4 : call 55 [.agg [.sc (.int .i64 x0_kind), .sc (.int .i64 x0_n), .sc (.string x0_s), .lit 9 false x0_keys, .lit 32 false x0_kids]] [] = some (.sc (.bool r), [])) (h5 : r = true) (h6 : call 56 [.sc (.string x0_s)] [] = some (.sc (.bool r1), [])) (h7 : r1 = false) (h8 : call 57 [.lit 9 false x0_keys, .fn 56 []] [] = some (.sc (.bool r2), [])) (h9 : r2 = false) (h10 : loop [2, 5] 1 c0 ⟨[.bad, .bad, .bptr 0 0, .bad, .bad, .sc (.int .i64 1), .bad, .bad, .bad, .bad, .bad, .bad, .bad, .bad, .bad, .bad, .bad, .bad, .bad, .bad, .bad, .bad, .bad, .bad, .bad, .bad, .bad, .bad, .bad, .bad, .bad, .bad, .bad, .bad, .bad, .bad, .bad, .bad, .bad, .bad, .bad, .bad, .bad, .bad, .bad, .bad, .bad, .bad, .bad, .bad], [.box 32 [.sc (.int .i64 x0_kind), .sc (.int .i64 x0_n), .sc (.string x0_s), .lit 9 false x0_keys, .lit 32 false x0_kids]]⟩ = some (.ret, ⟨[.bad, .bad, .bad, .bad, .sc (.int .i64 3), .bad, .bad, .bad, .bad, .bad, .bad, .bad, .bad, .bad, .bad, .bad, .bad, .bad, .bad, .bad, .bad, .bad, .bad, .bad, .bad, .bad, .bad, .bad, .bad, .bad, .bad, .bad, .bad, .bad, .bad, .bad, .bad, .bad, .bad, .bad, .bad, .bad, .bad, .bad, .bad, .bad, .bad, .bad, .bad, .bad], [.box 32 [.sc (.int .i64 x0_kind), .sc (.int .i64 x0_n), .sc (.string x0_s), .lit 9 false x0_keys, .lit 32 false x0_kids]]⟩)) : runFn ⟨⟨iadd, isub, imul, iquo, irem, ibit, ishl, ishr, iwrap, ieq, ilt, ile, beq, seq, slt, sapp, slen, sget, ssub, llen, lget, lset, lapp, lsub, room⟩, call, loop, prim⟩ (g47F c0) [.agg [.sc (.int .i64 x0_kind), .sc (.int .i64 x0_n), .sc (.string x0_s), .lit 9 false x0_keys, .lit 32 false x0_kids], .sc (.int .i64 x1)] [] = some (.sc (.int .i64 3), []) := by
  cbv
  all_goals (try rw [h1])
  all_goals (try cbv)
  all_goals (try rw [h2])
  all_goals (try cbv)
  all_goals (try rw [h3])
  all_goals (try cbv)
  all_goals (try rw [hp55])
  all_goals (try cbv)
  all_goals (try rw [h4])
  all_goals (try cbv)
  all_goals (try rw [h5])
  all_goals (try cbv)
  all_goals (try rw [hp56])
  all_goals (try cbv)
  all_goals (try rw [h6])
  all_goals (try cbv)
  all_goals (try rw [h7])
  all_goals (try cbv)
  all_goals (try rw [hp57])
  all_goals (try cbv)
  all_goals (try rw [h8])
  all_goals (try cbv)
  all_goals (try rw [h9])
  all_goals (try cbv)
  all_goals (try rw [h10])
  all_goals (try cbv)

theorem p47_6 (c0 : Cd) (x0_kind : Int) (x0_n : Int) (x0_s : ByteArray) (x0_keys : List AV) (x0_kids : List AV) (x1 : Int) (r : Bool) (r1 : Bool) (r2 : Bool) (hp55 : prim 55 = none) (hp56 : prim 56 = none) (hp57 : prim 57 = none) (h1 : ilt 8 x1 = false) (h2 : ilt x0_kind 1 = false) (h3 : ilt 4 x0_kind = false) (h4 : call 55 [.agg [.sc (.int .i64 x0_kind), .sc (.int .i64 x0_n), .sc (.string x0_s), .lit 9 false x0_keys, .lit 32 false x0_kids]] [] = some (.sc (.bool r), [])) (h5 : r = true) (h6 : call 56 [.sc (.string x0_s)] [] = some (.sc (.bool r1), [])) (h7 : r1 = false) (h8 : call 57 [.lit 9 false x0_keys, .fn 56 []] [] = some (.sc (.bool r2), [])) (h9 : r2 = false) (h10 : loop [2, 5] 1 c0 ⟨[.bad, .bad, .bptr 0 0, .bad, .bad, .sc (.int .i64 1), .bad, .bad, .bad, .bad, .bad, .bad, .bad, .bad, .bad, .bad, .bad, .bad, .bad, .bad, .bad, .bad, .bad, .bad, .bad, .bad, .bad, .bad, .bad, .bad, .bad, .bad, .bad, .bad, .bad, .bad, .bad, .bad, .bad, .bad, .bad, .bad, .bad, .bad, .bad, .bad, .bad, .bad, .bad, .bad], [.box 32 [.sc (.int .i64 x0_kind), .sc (.int .i64 x0_n), .sc (.string x0_s), .lit 9 false x0_keys, .lit 32 false x0_kids]]⟩ = some (.brk 1, ⟨[.bad, .bad, .bad, .bad, .bad, .bad, .bad, .bad, .bad, .bad, .bad, .bad, .bad, .bad, .bad, .bad, .bad, .bad, .bad, .bad, .bad, .bad, .bad, .bad, .bad, .bad, .bad, .bad, .bad, .bad, .bad, .bad, .bad, .bad, .bad, .bad, .bad, .bad, .bad, .bad, .bad, .bad, .bad, .bad, .bad, .bad, .bad, .bad, .bad, .bad], [.box 32 [.sc (.int .i64 x0_kind), .sc (.int .i64 x0_n), .sc (.string x0_s), .lit 9 false x0_keys, .lit 32 false x0_kids]]⟩)) : runFn ⟨⟨iadd, isub, imul, iquo, irem, ibit, ishl, ishr, iwrap, ieq, ilt, ile, beq, seq, slt, sapp, slen, sget, ssub, llen, lget, lset, lapp, lsub, room⟩, call, loop, prim⟩ (g47F c0) [.agg [.sc (.int .i64 x0_kind), .sc (.int .i64 x0_n), .sc (.string x0_s), .lit 9 false x0_keys, .lit 32 false x0_kids], .sc (.int .i64 x1)] [] = some (.sc (.int .i64 0), []) := by
  cbv
  all_goals (try rw [h1])
  all_goals (try cbv)
  all_goals (try rw [h2])
  all_goals (try cbv)
  all_goals (try rw [h3])
  all_goals (try cbv)
  all_goals (try rw [hp55])
  all_goals (try cbv)
  all_goals (try rw [h4])
  all_goals (try cbv)
  all_goals (try rw [h5])
  all_goals (try cbv)
  all_goals (try rw [hp56])
  all_goals (try cbv)
  all_goals (try rw [h6])
  all_goals (try cbv)
  all_goals (try rw [h7])
  all_goals (try cbv)
  all_goals (try rw [hp57])
  all_goals (try cbv)
  all_goals (try rw [h8])
  all_goals (try cbv)
  all_goals (try rw [h9])
  all_goals (try cbv)
  all_goals (try rw [h10])
  all_goals (try cbv)

theorem p47_7 (c0 : Cd) (x0_kind : Int) (x0_n : Int) (x0_s : ByteArray) (x0_keys : List AV) (x0_kids : List AV) (x1 : Int) (r : Bool) (hp55 : prim 55 = none) (h1 : ilt 8 x1 = false) (h2 : ilt x0_kind 1 = false) (h3 : ilt 4 x0_kind = false) (h4 : call 55 [.agg [.sc (.int .i64 x0_kind), .sc (.int .i64 x0_n), .sc (.string x0_s), .lit 9 false x0_keys, .lit 32 false x0_kids]] [] = some (.sc (.bool r), [])) (h5 : r = false) : runFn ⟨⟨iadd, isub, imul, iquo, irem, ibit, ishl, ishr, iwrap, ieq, ilt, ile, beq, seq, slt, sapp, slen, sget, ssub, llen, lget, lset, lapp, lsub, room⟩, call, loop, prim⟩ (g47F c0) [.agg [.sc (.int .i64 x0_kind), .sc (.int .i64 x0_n), .sc (.string x0_s), .lit 9 false x0_keys, .lit 32 false x0_kids], .sc (.int .i64 x1)] [] = some (.sc (.int .i64 1), []) := by
  cbv
  all_goals (try rw [h1])
  all_goals (try cbv)
  all_goals (try rw [h2])
  all_goals (try cbv)
  all_goals (try rw [h3])
  all_goals (try cbv)
  all_goals (try rw [hp55])
  all_goals (try cbv)
  all_goals (try rw [h4])
  all_goals (try cbv)
  all_goals (try rw [h5])
  all_goals (try cbv)

theorem r47_0_0_0 (x0_kind : Int) (x0_n : Int) (x0_s : ByteArray) (x0_keys : List AV) (x0_kids : List AV) (t5 : Int) (x : ByteArray) (x2 : ByteArray) (h1 : ilt t5 (llen x0_keys) = true) (h2 : lget x0_keys (isub .i64 t5 1) = some (.sc (.string x))) (h3 : lget x0_keys t5 = some (.sc (.string x2))) (h4 : slt x x2 = true) : Ifc.round ⟨⟨iadd, isub, imul, iquo, irem, ibit, ishl, ishr, iwrap, ieq, ilt, ile, beq, seq, slt, sapp, slen, sget, ssub, llen, lget, lset, lapp, lsub, room⟩, call, loop, prim⟩ [2, 5] 1 (b47_0F) ⟨[.bad, .bad, .bptr 0 0, .bad, .bad, .sc (.int .i64 t5), .bad, .bad, .bad, .bad, .bad, .bad, .bad, .bad, .bad, .bad, .bad, .bad, .bad, .bad, .bad, .bad, .bad, .bad, .bad, .bad, .bad, .bad, .bad, .bad, .bad, .bad, .bad, .bad, .bad, .bad, .bad, .bad, .bad, .bad, .bad, .bad, .bad, .bad, .bad, .bad, .bad, .bad, .bad, .bad], [.box 32 [.sc (.int .i64 x0_kind), .sc (.int .i64 x0_n), .sc (.string x0_s), .lit 9 false x0_keys, .lit 32 false x0_kids]]⟩ = loop [2, 5] 1 (b47_0F) ⟨[.bad, .bad, .bptr 0 0, .bad, .bad, .sc (.int .i64 (iadd .i64 t5 1)), .bad, .bad, .bad, .bad, .bad, .bad, .bad, .bad, .bad, .bad, .bad, .bad, .bad, .bad, .bad, .bad, .bad, .bad, .bad, .bad, .bad, .bad, .bad, .bad, .bad, .bad, .bad, .bad, .bad, .bad, .bad, .bad, .bad, .bad, .bad, .bad, .bad, .bad, .bad, .bad, .bad, .bad, .bad, .bad], [.box 32 [.sc (.int .i64 x0_kind), .sc (.int .i64 x0_n), .sc (.string x0_s), .lit 9 false x0_keys, .lit 32 false x0_kids]]⟩ := by
  cbv
  all_goals (try rw [h1])
  all_goals (try cbv)
  all_goals (try rw [h2])
  all_goals (try cbv)
  all_goals (try rw [h2])
  all_goals (try cbv)
  all_goals (try rw [h3])
  all_goals (try cbv)
  all_goals (try rw [h3])
  all_goals (try cbv)
  all_goals (try rw [h4])
  all_goals (try cbv)

theorem r47_0_0_1 (x0_kind : Int) (x0_n : Int) (x0_s : ByteArray) (x0_keys : List AV) (x0_kids : List AV) (t5 : Int) (x : ByteArray) (x2 : ByteArray) (h1 : ilt t5 (llen x0_keys) = true) (h2 : lget x0_keys (isub .i64 t5 1) = some (.sc (.string x))) (h3 : lget x0_keys t5 = some (.sc (.string x2))) (h4 : slt x x2 = false) : Ifc.round ⟨⟨iadd, isub, imul, iquo, irem, ibit, ishl, ishr, iwrap, ieq, ilt, ile, beq, seq, slt, sapp, slen, sget, ssub, llen, lget, lset, lapp, lsub, room⟩, call, loop, prim⟩ [2, 5] 1 (b47_0F) ⟨[.bad, .bad, .bptr 0 0, .bad, .bad, .sc (.int .i64 t5), .bad, .bad, .bad, .bad, .bad, .bad, .bad, .bad, .bad, .bad, .bad, .bad, .bad, .bad, .bad, .bad, .bad, .bad, .bad, .bad, .bad, .bad, .bad, .bad, .bad, .bad, .bad, .bad, .bad, .bad, .bad, .bad, .bad, .bad, .bad, .bad, .bad, .bad, .bad, .bad, .bad, .bad, .bad, .bad], [.box 32 [.sc (.int .i64 x0_kind), .sc (.int .i64 x0_n), .sc (.string x0_s), .lit 9 false x0_keys, .lit 32 false x0_kids]]⟩ = some (.ret, ⟨[.bad, .bad, .bad, .bad, .sc (.int .i64 3), .bad, .bad, .bad, .bad, .bad, .bad, .bad, .bad, .bad, .bad, .bad, .bad, .bad, .bad, .bad, .bad, .bad, .bad, .bad, .bad, .bad, .bad, .bad, .bad, .bad, .bad, .bad, .bad, .bad, .bad, .bad, .bad, .bad, .bad, .bad, .bad, .bad, .bad, .bad, .bad, .bad, .bad, .bad, .bad, .bad], [.box 32 [.sc (.int .i64 x0_kind), .sc (.int .i64 x0_n), .sc (.string x0_s), .lit 9 false x0_keys, .lit 32 false x0_kids]]⟩) := by
  cbv
  all_goals (try rw [h1])
  all_goals (try cbv)
  all_goals (try rw [h2])
  all_goals (try cbv)
  all_goals (try rw [h2])
  all_goals (try cbv)
  all_goals (try rw [h3])
  all_goals (try cbv)
  all_goals (try rw [h3])
  all_goals (try cbv)
  all_goals (try rw [h4])
  all_goals (try cbv)

theorem r47_0_0_2 (x0_kind : Int) (x0_n : Int) (x0_s : ByteArray) (x0_keys : List AV) (x0_kids : List AV) (t5 : Int) (h1 : ilt t5 (llen x0_keys) = false) : Ifc.round ⟨⟨iadd, isub, imul, iquo, irem, ibit, ishl, ishr, iwrap, ieq, ilt, ile, beq, seq, slt, sapp, slen, sget, ssub, llen, lget, lset, lapp, lsub, room⟩, call, loop, prim⟩ [2, 5] 1 (b47_0F) ⟨[.bad, .bad, .bptr 0 0, .bad, .bad, .sc (.int .i64 t5), .bad, .bad, .bad, .bad, .bad, .bad, .bad, .bad, .bad, .bad, .bad, .bad, .bad, .bad, .bad, .bad, .bad, .bad, .bad, .bad, .bad, .bad, .bad, .bad, .bad, .bad, .bad, .bad, .bad, .bad, .bad, .bad, .bad, .bad, .bad, .bad, .bad, .bad, .bad, .bad, .bad, .bad, .bad, .bad], [.box 32 [.sc (.int .i64 x0_kind), .sc (.int .i64 x0_n), .sc (.string x0_s), .lit 9 false x0_keys, .lit 32 false x0_kids]]⟩ = some (.brk 1, ⟨[.bad, .bad, .bad, .bad, .bad, .bad, .bad, .bad, .bad, .bad, .bad, .bad, .bad, .bad, .bad, .bad, .bad, .bad, .bad, .bad, .bad, .bad, .bad, .bad, .bad, .bad, .bad, .bad, .bad, .bad, .bad, .bad, .bad, .bad, .bad, .bad, .bad, .bad, .bad, .bad, .bad, .bad, .bad, .bad, .bad, .bad, .bad, .bad, .bad, .bad], [.box 32 [.sc (.int .i64 x0_kind), .sc (.int .i64 x0_n), .sc (.string x0_s), .lit 9 false x0_keys, .lit 32 false x0_kids]]⟩) := by
  cbv
  all_goals (try rw [h1])
  all_goals (try cbv)

theorem p48_0 (x0_kind : Int) (x0_n : Int) (x0_s : ByteArray) (x0_keys : List AV) (x0_kids : List AV) (h1 : ieq x0_kind 1 = true) (h2 : ieq x0_kind 2 = true) (h3 : ieq x0_kind 4 = true) (h4 : ilt x0_kind 3 = true) : runFn ⟨⟨iadd, isub, imul, iquo, irem, ibit, ishl, ishr, iwrap, ieq, ilt, ile, beq, seq, slt, sapp, slen, sget, ssub, llen, lget, lset, lapp, lsub, room⟩, call, loop, prim⟩ (g48F) [.agg [.sc (.int .i64 x0_kind), .sc (.int .i64 x0_n), .sc (.string x0_s), .lit 9 false x0_keys, .lit 32 false x0_kids]] [] = some (.sc (.bool (ilt 0 (llen x0_kids))), []) := by
  cbv
  all_goals (try rw [h1])
  all_goals (try cbv)
  all_goals (try rw [h2])
  all_goals (try cbv)
  all_goals (try rw [h3])
  all_goals (try cbv)
  all_goals (try rw [h4])
  all_goals (try cbv)

theorem p48_1 (x0_kind : Int) (x0_n : Int) (x0_s : ByteArray) (x0_keys : List AV) (x0_kids : List AV) (h1 : ieq x0_kind 1 = true) (h2 : ieq x0_kind 2 = true) (h3 : ieq x0_kind 4 = true) (h4 : ilt x0_kind 3 = false) : runFn ⟨⟨iadd, isub, imul, iquo, irem, ibit, ishl, ishr, iwrap, ieq, ilt, ile, beq, seq, slt, sapp, slen, sget, ssub, llen, lget, lset, lapp, lsub, room⟩, call, loop, prim⟩ (g48F) [.agg [.sc (.int .i64 x0_kind), .sc (.int .i64 x0_n), .sc (.string x0_s), .lit 9 false x0_keys, .lit 32 false x0_kids]] [] = some (.sc (.bool ((!(ieq (llen x0_keys) (llen x0_kids))))), []) := by
  cbv
  all_goals (try rw [h1])
  all_goals (try cbv)
  all_goals (try rw [h2])
  all_goals (try cbv)
  all_goals (try rw [h3])
  all_goals (try cbv)
  all_goals (try rw [h4])
  all_goals (try cbv)
  all_goals (try rw [h3])
  all_goals (try cbv)

theorem p48_2 (x0_kind : Int) (x0_n : Int) (x0_s : ByteArray) (x0_keys : List AV) (x0_kids : List AV) (h1 : ieq x0_kind 1 = true) (h2 : ieq x0_kind 2 = true) (h3 : ieq x0_kind 4 = false) (h4 : ilt 0 (llen x0_keys) = true) : runFn ⟨⟨iadd, isub, imul, iquo, irem, ibit, ishl, ishr, iwrap, ieq, ilt, ile, beq, seq, slt, sapp, slen, sget, ssub, llen, lget, lset, lapp, lsub, room⟩, call, loop, prim⟩ (g48F) [.agg [.sc (.int .i64 x0_kind), .sc (.int .i64 x0_n), .sc (.string x0_s), .lit 9 false x0_keys, .lit 32 false x0_kids]] [] = some (.sc (.bool true), []) := by
  cbv
  all_goals (try rw [h1])
  all_goals (try cbv)
  all_goals (try rw [h2])
  all_goals (try cbv)
  all_goals (try rw [h3])
  all_goals (try cbv)
  all_goals (try rw [h4])
  all_goals (try cbv)

theorem p48_3 (x0_kind : Int) (x0_n : Int) (x0_s : ByteArray) (x0_keys : List AV) (x0_kids : List AV) (h1 : ieq x0_kind 1 = true) (h2 : ieq x0_kind 2 = true) (h3 : ieq x0_kind 4 = false) (h4 : ilt 0 (llen x0_keys) = false) (h5 : ilt x0_kind 3 = true) : runFn ⟨⟨iadd, isub, imul, iquo, irem, ibit, ishl, ishr, iwrap, ieq, ilt, ile, beq, seq, slt, sapp, slen, sget, ssub, llen, lget, lset, lapp, lsub, room⟩, call, loop, prim⟩ (g48F) [.agg [.sc (.int .i64 x0_kind), .sc (.int .i64 x0_n), .sc (.string x0_s), .lit 9 false x0_keys, .lit 32 false x0_kids]] [] = some (.sc (.bool (ilt 0 (llen x0_kids))), []) := by
  cbv
  all_goals (try rw [h1])
  all_goals (try cbv)
  all_goals (try rw [h2])
  all_goals (try cbv)
  all_goals (try rw [h3])
  all_goals (try cbv)
  all_goals (try rw [h4])
  all_goals (try cbv)
  all_goals (try rw [h5])
  all_goals (try cbv)

theorem p48_4 (x0_kind : Int) (x0_n : Int) (x0_s : ByteArray) (x0_keys : List AV) (x0_kids : List AV) (h1 : ieq x0_kind 1 = true) (h2 : ieq x0_kind 2 = true) (h3 : ieq x0_kind 4 = false) (h4 : ilt 0 (llen x0_keys) = false) (h5 : ilt x0_kind 3 = false) : runFn ⟨⟨iadd, isub, imul, iquo, irem, ibit, ishl, ishr, iwrap, ieq, ilt, ile, beq, seq, slt, sapp, slen, sget, ssub, llen, lget, lset, lapp, lsub, room⟩, call, loop, prim⟩ (g48F) [.agg [.sc (.int .i64 x0_kind), .sc (.int .i64 x0_n), .sc (.string x0_s), .lit 9 false x0_keys, .lit 32 false x0_kids]] [] = some (.sc (.bool false), []) := by
  cbv
  all_goals (try rw [h1])
  all_goals (try cbv)
  all_goals (try rw [h2])
  all_goals (try cbv)
  all_goals (try rw [h3])
  all_goals (try cbv)
  all_goals (try rw [h4])
  all_goals (try cbv)
  all_goals (try rw [h5])
  all_goals (try cbv)
  all_goals (try rw [h3])
  all_goals (try cbv)

theorem p48_5 (x0_kind : Int) (x0_n : Int) (x0_s : ByteArray) (x0_keys : List AV) (x0_kids : List AV) (h1 : ieq x0_kind 1 = true) (h2 : ieq x0_kind 2 = false) (h3 : seq x0_s ⟨#[]⟩ = true) (h4 : ieq x0_kind 4 = true) (h5 : ilt x0_kind 3 = true) : runFn ⟨⟨iadd, isub, imul, iquo, irem, ibit, ishl, ishr, iwrap, ieq, ilt, ile, beq, seq, slt, sapp, slen, sget, ssub, llen, lget, lset, lapp, lsub, room⟩, call, loop, prim⟩ (g48F) [.agg [.sc (.int .i64 x0_kind), .sc (.int .i64 x0_n), .sc (.string x0_s), .lit 9 false x0_keys, .lit 32 false x0_kids]] [] = some (.sc (.bool (ilt 0 (llen x0_kids))), []) := by
  cbv
  all_goals (try rw [h1])
  all_goals (try cbv)
  all_goals (try rw [h2])
  all_goals (try cbv)
  all_goals (try rw [h3])
  all_goals (try cbv)
  all_goals (try rw [h4])
  all_goals (try cbv)
  all_goals (try rw [h5])
  all_goals (try cbv)

theorem p48_6 (x0_kind : Int) (x0_n : Int) (x0_s : ByteArray) (x0_keys : List AV) (x0_kids : List AV) (h1 : ieq x0_kind 1 = true) (h2 : ieq x0_kind 2 = false) (h3 : seq x0_s ⟨#[]⟩ = true) (h4 : ieq x0_kind 4 = true) (h5 : ilt x0_kind 3 = false) : runFn ⟨⟨iadd, isub, imul, iquo, irem, ibit, ishl, ishr, iwrap, ieq, ilt, ile, beq, seq, slt, sapp, slen, sget, ssub, llen, lget, lset, lapp, lsub, room⟩, call, loop, prim⟩ (g48F) [.agg [.sc (.int .i64 x0_kind), .sc (.int .i64 x0_n), .sc (.string x0_s), .lit 9 false x0_keys, .lit 32 false x0_kids]] [] = some (.sc (.bool ((!(ieq (llen x0_keys) (llen x0_kids))))), []) := by
  cbv
  all_goals (try rw [h1])
  all_goals (try cbv)
  all_goals (try rw [h2])
  all_goals (try cbv)
  all_goals (try rw [h3])
  all_goals (try cbv)
  all_goals (try rw [h4])
  all_goals (try cbv)
  all_goals (try rw [h5])
  all_goals (try cbv)
  all_goals (try rw [h4])
  all_goals (try cbv)

theorem p48_7 (x0_kind : Int) (x0_n : Int) (x0_s : ByteArray) (x0_keys : List AV) (x0_kids : List AV) (h1 : ieq x0_kind 1 = true) (h2 : ieq x0_kind 2 = false) (h3 : seq x0_s ⟨#[]⟩ = true) (h4 : ieq x0_kind 4 = false) (h5 : ilt 0 (llen x0_keys) = true) : runFn ⟨⟨iadd, isub, imul, iquo, irem, ibit, ishl, ishr, iwrap, ieq, ilt, ile, beq, seq, slt, sapp, slen, sget, ssub, llen, lget, lset, lapp, lsub, room⟩, call, loop, prim⟩ (g48F) [.agg [.sc (.int .i64 x0_kind), .sc (.int .i64 x0_n), .sc (.string x0_s), .lit 9 false x0_keys, .lit 32 false x0_kids]] [] = some (.sc (.bool true), []) := by
  cbv
  all_goals (try rw [h1])
  all_goals (try cbv)
  all_goals (try rw [h2])
  all_goals (try cbv)
  all_goals (try rw [h3])
  all_goals (try cbv)
  all_goals (try rw [h4])
  all_goals (try cbv)
  all_goals (try rw [h5])
  all_goals (try cbv)

theorem p48_8 (x0_kind : Int) (x0_n : Int) (x0_s : ByteArray) (x0_keys : List AV) (x0_kids : List AV) (h1 : ieq x0_kind 1 = true) (h2 : ieq x0_kind 2 = false) (h3 : seq x0_s ⟨#[]⟩ = true) (h4 : ieq x0_kind 4 = false) (h5 : ilt 0 (llen x0_keys) = false) (h6 : ilt x0_kind 3 = true) : runFn ⟨⟨iadd, isub, imul, iquo, irem, ibit, ishl, ishr, iwrap, ieq, ilt, ile, beq, seq, slt, sapp, slen, sget, ssub, llen, lget, lset, lapp, lsub, room⟩, call, loop, prim⟩ (g48F) [.agg [.sc (.int .i64 x0_kind), .sc (.int .i64 x0_n), .sc (.string x0_s), .lit 9 false x0_keys, .lit 32 false x0_kids]] [] = some (.sc (.bool (ilt 0 (llen x0_kids))), []) := by
  cbv
  all_goals (try rw [h1])
  all_goals (try cbv)
  all_goals (try rw [h2])
  all_goals (try cbv)
  all_goals (try rw [h3])
  all_goals (try cbv)
  all_goals (try rw [h4])
  all_goals (try cbv)
  all_goals (try rw [h5])
  all_goals (try cbv)
  all_goals (try rw [h6])
  all_goals (try cbv)

theorem p48_9 (x0_kind : Int) (x0_n : Int) (x0_s : ByteArray) (x0_keys : List AV) (x0_kids : List AV) (h1 : ieq x0_kind 1 = true) (h2 : ieq x0_kind 2 = false) (h3 : seq x0_s ⟨#[]⟩ = true) (h4 : ieq x0_kind 4 = false) (h5 : ilt 0 (llen x0_keys) = false) (h6 : ilt x0_kind 3 = false) : runFn ⟨⟨iadd, isub, imul, iquo, irem, ibit, ishl, ishr, iwrap, ieq, ilt, ile, beq, seq, slt, sapp, slen, sget, ssub, llen, lget, lset, lapp, lsub, room⟩, call, loop, prim⟩ (g48F) [.agg [.sc (.int .i64 x0_kind), .sc (.int .i64 x0_n), .sc (.string x0_s), .lit 9 false x0_keys, .lit 32 false x0_kids]] [] = some (.sc (.bool false), []) := by
  cbv
  all_goals (try rw [h1])
  all_goals (try cbv)
  all_goals (try rw [h2])
  all_goals (try cbv)
  all_goals (try rw [h3])
  all_goals (try cbv)
  all_goals (try rw [h4])
  all_goals (try cbv)
  all_goals (try rw [h5])
  all_goals (try cbv)
  all_goals (try rw [h6])
  all_goals (try cbv)
  all_goals (try rw [h4])
  all_goals (try cbv)

theorem p48_10 (x0_kind : Int) (x0_n : Int) (x0_s : ByteArray) (x0_keys : List AV) (x0_kids : List AV) (h1 : ieq x0_kind 1 = true) (h2 : ieq x0_kind 2 = false) (h3 : seq x0_s ⟨#[]⟩ = false) : runFn ⟨⟨iadd, isub, imul, iquo, irem, ibit, ishl, ishr, iwrap, ieq, ilt, ile, beq, seq, slt, sapp, slen, sget, ssub, llen, lget, lset, lapp, lsub, room⟩, call, loop, prim⟩ (g48F) [.agg [.sc (.int .i64 x0_kind), .sc (.int .i64 x0_n), .sc (.string x0_s), .lit 9 false x0_keys, .lit 32 false x0_kids]] [] = some (.sc (.bool true), []) := by
  cbv
  all_goals (try rw [h1])
  all_goals (try cbv)
  all_goals (try rw [h2])
  all_goals (try cbv)
  all_goals (try rw [h3])
  all_goals (try cbv)

theorem p48_11 (x0_kind : Int) (x0_n : Int) (x0_s : ByteArray) (x0_keys : List AV) (x0_kids : List AV) (h1 : ieq x0_kind 1 = false) (h2 : ieq x0_n 0 = true) (h3 : ieq x0_kind 2 = true) (h4 : ieq x0_kind 4 = true) (h5 : ilt x0_kind 3 = true) : runFn ⟨⟨iadd, isub, imul, iquo, irem, ibit, ishl, ishr, iwrap, ieq, ilt, ile, beq, seq, slt, sapp, slen, sget, ssub, llen, lget, lset, lapp, lsub, room⟩, call, loop, prim⟩ (g48F) [.agg [.sc (.int .i64 x0_kind), .sc (.int .i64 x0_n), .sc (.string x0_s), .lit 9 false x0_keys, .lit 32 false x0_kids]] [] = some (.sc (.bool (ilt 0 (llen x0_kids))), []) := by
  cbv
  all_goals (try rw [h1])
  all_goals (try cbv)
  all_goals (try rw [h2])
  all_goals (try cbv)
  all_goals (try rw [h3])
  all_goals (try cbv)
  all_goals (try rw [h4])
  all_goals (try cbv)
  all_goals (try rw [h5])
  all_goals (try cbv)

theorem p48_12 (x0_kind : Int) (x0_n : Int) (x0_s : ByteArray) (x0_keys : List AV) (x0_kids : List AV) (h1 : ieq x0_kind 1 = false) (h2 : ieq x0_n 0 = true) (h3 : ieq x0_kind 2 = true) (h4 : ieq x0_kind 4 = true) (h5 : ilt x0_kind 3 = false) : runFn ⟨⟨iadd, isub, imul, iquo, irem, ibit, ishl, ishr, iwrap, ieq, ilt, ile, beq, seq, slt, sapp, slen, sget, ssub, llen, lget, lset, lapp, lsub, room⟩, call, loop, prim⟩ (g48F) [.agg [.sc (.int .i64 x0_kind), .sc (.int .i64 x0_n), .sc (.string x0_s), .lit 9 false x0_keys, .lit 32 false x0_kids]] [] = some (.sc (.bool ((!(ieq (llen x0_keys) (llen x0_kids))))), []) := by
  cbv
  all_goals (try rw [h1])
  all_goals (try cbv)
  all_goals (try rw [h2])
  all_goals (try cbv)
  all_goals (try rw [h3])
  all_goals (try cbv)
  all_goals (try rw [h4])
  all_goals (try cbv)
  all_goals (try rw [h5])
  all_goals (try cbv)
  all_goals (try rw [h4])
  all_goals (try cbv)

theorem p48_13 (x0_kind : Int) (x0_n : Int) (x0_s : ByteArray) (x0_keys : List AV) (x0_kids : List AV) (h1 : ieq x0_kind 1 = false) (h2 : ieq x0_n 0 = true) (h3 : ieq x0_kind 2 = true) (h4 : ieq x0_kind 4 = false) (h5 : ilt 0 (llen x0_keys) = true) : runFn ⟨⟨iadd, isub, imul, iquo, irem, ibit, ishl, ishr, iwrap, ieq, ilt, ile, beq, seq, slt, sapp, slen, sget, ssub, llen, lget, lset, lapp, lsub, room⟩, call, loop, prim⟩ (g48F) [.agg [.sc (.int .i64 x0_kind), .sc (.int .i64 x0_n), .sc (.string x0_s), .lit 9 false x0_keys, .lit 32 false x0_kids]] [] = some (.sc (.bool true), []) := by
  cbv
  all_goals (try rw [h1])
  all_goals (try cbv)
  all_goals (try rw [h2])
  all_goals (try cbv)
  all_goals (try rw [h3])
  all_goals (try cbv)
  all_goals (try rw [h4])
  all_goals (try cbv)
  all_goals (try rw [h5])
  all_goals (try cbv)

theorem p48_14 (x0_kind : Int) (x0_n : Int) (x0_s : ByteArray) (x0_keys : List AV) (x0_kids : List AV) (h1 : ieq x0_kind 1 = false) (h2 : ieq x0_n 0 = true) (h3 : ieq x0_kind 2 = true) (h4 : ieq x0_kind 4 = false) (h5 : ilt 0 (llen x0_keys) = false) (h6 : ilt x0_kind 3 = true) : runFn ⟨⟨iadd, isub, imul, iquo, irem, ibit, ishl, ishr, iwrap, ieq, ilt, ile, beq, seq, slt, sapp, slen, sget, ssub, llen, lget, lset, lapp, lsub, room⟩, call, loop, prim⟩ (g48F) [.agg [.sc (.int .i64 x0_kind), .sc (.int .i64 x0_n), .sc (.string x0_s), .lit 9 false x0_keys, .lit 32 false x0_kids]] [] = some (.sc (.bool (ilt 0 (llen x0_kids))), []) := by
  cbv
  all_goals (try rw [h1])
  all_goals (try cbv)
  all_goals (try rw [h2])
  all_goals (try cbv)
  all_goals (try rw [h3])
  all_goals (try cbv)
  all_goals (try rw [h4])
  all_goals (try cbv)
  all_goals (try rw [h5])
  all_goals (try cbv)
  all_goals (try rw [h6])
  all_goals (try cbv)

theorem p48_15 (x0_kind : Int) (x0_n : Int) (x0_s : ByteArray) (x0_keys : List AV) (x0_kids : List AV) (h1 : ieq x0_kind 1 = false) (h2 : ieq x0_n 0 = true) (h3 : ieq x0_kind 2 = true) (h4 : ieq x0_kind 4 = false) (h5 : ilt 0 (llen x0_keys) = false) (h6 : ilt x0_kind 3 = false) : runFn ⟨⟨iadd, isub, imul, iquo, irem, ibit, ishl, ishr, iwrap, ieq, ilt, ile, beq, seq, slt, sapp, slen, sget, ssub, llen, lget, lset, lapp, lsub, room⟩, call, loop, prim⟩ (g48F) [.agg [.sc (.int .i64 x0_kind), .sc (.int .i64 x0_n), .sc (.string x0_s), .lit 9 false x0_keys, .lit 32 false x0_kids]] [] = some (.sc (.bool false), []) := by
  cbv
  all_goals (try rw [h1])
  all_goals (try cbv)
  all_goals (try rw [h2])
  all_goals (try cbv)
  all_goals (try rw [h3])
  all_goals (try cbv)
  all_goals (try rw [h4])
  all_goals (try cbv)
  all_goals (try rw [h5])
  all_goals (try cbv)
  all_goals (try rw [h6])
  all_goals (try cbv)
  all_goals (try rw [h4])
  all_goals (try cbv)

theorem p48_16 (x0_kind : Int) (x0_n : Int) (x0_s : ByteArray) (x0_keys : List AV) (x0_kids : List AV) (h1 : ieq x0_kind 1 = false) (h2 : ieq x0_n 0 = true) (h3 : ieq x0_kind 2 = false) (h4 : seq x0_s ⟨#[]⟩ = true) (h5 : ieq x0_kind 4 = true) (h6 : ilt x0_kind 3 = true) : runFn ⟨⟨iadd, isub, imul, iquo, irem, ibit, ishl, ishr, iwrap, ieq, ilt, ile, beq, seq, slt, sapp, slen, sget, ssub, llen, lget, lset, lapp, lsub, room⟩, call, loop, prim⟩ (g48F) [.agg [.sc (.int .i64 x0_kind), .sc (.int .i64 x0_n), .sc (.string x0_s), .lit 9 false x0_keys, .lit 32 false x0_kids]] [] = some (.sc (.bool (ilt 0 (llen x0_kids))), []) := by
  cbv
  all_goals (try rw [h1])
  all_goals (try cbv)
  all_goals (try rw [h2])
  all_goals (try cbv)
  all_goals (try rw [h3])
  all_goals (try cbv)
  all_goals (try rw [h4])
  all_goals (try cbv)
  all_goals (try rw [h5])
  all_goals (try cbv)
  all_goals (try rw [h6])
  all_goals (try cbv)

theorem p48_17 (x0_kind : Int) (x0_n : Int) (x0_s : ByteArray) (x0_keys : List AV) (x0_kids : List AV) (h1 : ieq x0_kind 1 = false) (h2 : ieq x0_n 0 = true) (h3 : ieq x0_kind 2 = false) (h4 : seq x0_s ⟨#[]⟩ = true) (h5 : ieq x0_kind 4 = true) (h6 : ilt x0_kind 3 = false) : runFn ⟨⟨iadd, isub, imul, iquo, irem, ibit, ishl, ishr, iwrap, ieq, ilt, ile, beq, seq, slt, sapp, slen, sget, ssub, llen, lget, lset, lapp, lsub, room⟩, call, loop, prim⟩ (g48F) [.agg [.sc (.int .i64 x0_kind), .sc (.int .i64 x0_n), .sc (.string x0_s), .lit 9 false x0_keys, .lit 32 false x0_kids]] [] = some (.sc (.bool ((!(ieq (llen x0_keys) (llen x0_kids))))), []) := by
  cbv
  all_goals (try rw [h1])
  all_goals (try cbv)
  all_goals (try rw [h2])
  all_goals (try cbv)
  all_goals (try rw [h3])
  all_goals (try cbv)
  all_goals (try rw [h4])
  all_goals (try cbv)
  all_goals (try rw [h5])
  all_goals (try cbv)
  all_goals (try rw [h6])
  all_goals (try cbv)
  all_goals (try rw [h5])
  all_goals (try cbv)

theorem p48_18 (x0_kind : Int) (x0_n : Int) (x0_s : ByteArray) (x0_keys : List AV) (x0_kids : List AV) (h1 : ieq x0_kind 1 = false) (h2 : ieq x0_n 0 = true) (h3 : ieq x0_kind 2 = false) (h4 : seq x0_s ⟨#[]⟩ = true) (h5 : ieq x0_kind 4 = false) (h6 : ilt 0 (llen x0_keys) = true) : runFn ⟨⟨iadd, isub, imul, iquo, irem, ibit, ishl, ishr, iwrap, ieq, ilt, ile, beq, seq, slt, sapp, slen, sget, ssub, llen, lget, lset, lapp, lsub, room⟩, call, loop, prim⟩ (g48F) [.agg [.sc (.int .i64 x0_kind), .sc (.int .i64 x0_n), .sc (.string x0_s), .lit 9 false x0_keys, .lit 32 false x0_kids]] [] = some (.sc (.bool true), []) := by
  cbv
  all_goals (try rw [h1])
  all_goals (try cbv)
  all_goals (try rw [h2])
  all_goals (try cbv)
  all_goals (try rw [h3])
  all_goals (try cbv)
  all_goals (try rw [h4])
  all_goals (try cbv)
  all_goals (try rw [h5])
  all_goals (try cbv)
  all_goals (try rw [h6])
  all_goals (try cbv)

theorem p48_19 (x0_kind : Int) (x0_n : Int) (x0_s : ByteArray) (x0_keys : List AV) (x0_kids : List AV) (h1 : ieq x0_kind 1 = false) (h2 : ieq x0_n 0 = true) (h3 : ieq x0_kind 2 = false) (h4 : seq x0_s ⟨#[]⟩ = true) (h5 : ieq x0_kind 4 = false) (h6 : ilt 0 (llen x0_keys) = false) (h7 : ilt x0_kind 3 = true) : runFn ⟨⟨iadd, isub, imul, iquo, irem, ibit, ishl, ishr, iwrap, ieq, ilt, ile, beq, seq, slt, sapp, slen, sget, ssub, llen, lget, lset, lapp, lsub, room⟩, call, loop, prim⟩ (g48F) [.agg [.sc (.int .i64 x0_kind), .sc (.int .i64 x0_n), .sc (.string x0_s), .lit 9 false x0_keys, .lit 32 false x0_kids]] [] = some (.sc (.bool (ilt 0 (llen x0_kids))), []) := by
  cbv
  all_goals (try rw [h1])
  all_goals (try cbv)
  all_goals (try rw [h2])
  all_goals (try cbv)
  all_goals (try rw [h3])
  all_goals (try cbv)
  all_goals (try rw [h4])
  all_goals (try cbv)
  all_goals (try rw [h5])
  all_goals (try cbv)
  all_goals (try rw [h6])
  all_goals (try cbv)
  all_goals (try rw [h7])
  all_goals (try cbv)

theorem p48_20 (x0_kind : Int) (x0_n : Int) (x0_s : ByteArray) (x0_keys : List AV) (x0_kids : List AV) (h1 : ieq x0_kind 1 = false) (h2 : ieq x0_n 0 = true) (h3 : ieq x0_kind 2 = false) (h4 : seq x0_s ⟨#[]⟩ = true) (h5 : ieq x0_kind 4 = false) (h6 : ilt 0 (llen x0_keys) = false) (h7 : ilt x0_kind 3 = false) : runFn ⟨⟨iadd, isub, imul, iquo, irem, ibit, ishl, ishr, iwrap, ieq, ilt, ile, beq, seq, slt, sapp, slen, sget, ssub, llen, lget, lset, lapp, lsub, room⟩, call, loop, prim⟩ (g48F) [.agg [.sc (.int .i64 x0_kind), .sc (.int .i64 x0_n), .sc (.string x0_s), .lit 9 false x0_keys, .lit 32 false x0_kids]] [] = some (.sc (.bool false), []) := by
  cbv
  all_goals (try rw [h1])
  all_goals (try cbv)
  all_goals (try rw [h2])
  all_goals (try cbv)
  all_goals (try rw [h3])
  all_goals (try cbv)
  all_goals (try rw [h4])
  all_goals (try cbv)
  all_goals (try rw [h5])
  all_goals (try cbv)
  all_goals (try rw [h6])
  all_goals (try cbv)
  all_goals (try rw [h7])
  all_goals (try cbv)
  all_goals (try rw [h5])
  all_goals (try cbv)

theorem p48_21 (x0_kind : Int) (x0_n : Int) (x0_s : ByteArray) (x0_keys : List AV) (x0_kids : List AV) (h1 : ieq x0_kind 1 = false) (h2 : ieq x0_n 0 = true) (h3 : ieq x0_kind 2 = false) (h4 : seq x0_s ⟨#[]⟩ = false) : runFn ⟨⟨iadd, isub, imul, iquo, irem, ibit, ishl, ishr, iwrap, ieq, ilt, ile, beq, seq, slt, sapp, slen, sget, ssub, llen, lget, lset, lapp, lsub, room⟩, call, loop, prim⟩ (g48F) [.agg [.sc (.int .i64 x0_kind), .sc (.int .i64 x0_n), .sc (.string x0_s), .lit 9 false x0_keys, .lit 32 false x0_kids]] [] = some (.sc (.bool true), []) := by
  cbv
  all_goals (try rw [h1])
  all_goals (try cbv)
  all_goals (try rw [h2])
  all_goals (try cbv)
  all_goals (try rw [h3])
  all_goals (try cbv)
  all_goals (try rw [h4])
  all_goals (try cbv)

theorem p48_22 (x0_kind : Int) (x0_n : Int) (x0_s : ByteArray) (x0_keys : List AV) (x0_kids : List AV) (h1 : ieq x0_kind 1 = false) (h2 : ieq x0_n 0 = false) : runFn ⟨⟨iadd, isub, imul, iquo, irem, ibit, ishl, ishr, iwrap, ieq, ilt, ile, beq, seq, slt, sapp, slen, sget, ssub, llen, lget, lset, lapp, lsub, room⟩, call, loop, prim⟩ (g48F) [.agg [.sc (.int .i64 x0_kind), .sc (.int .i64 x0_n), .sc (.string x0_s), .lit 9 false x0_keys, .lit 32 false x0_kids]] [] = some (.sc (.bool true), []) := by
  cbv
  all_goals (try rw [h1])
  all_goals (try cbv)
  all_goals (try rw [h2])
  all_goals (try cbv)

theorem p46_0 (c0 : Cd) (x0 : ByteArray) (x1 : ByteArray) (t4o : Bool) (h1 : loop [5, 0, 1] 0 c0 ⟨[.sc (.string x0), .sc (.string x1), .bad, .bad, .bad, .sc (.int .i64 0), .bad, .bad, .bad, .bad, .bad, .bad, .bad, .bad, .bad, .bad, .bad, .bad, .bad, .bad, .bad, .bad, .bad, .bad, .bad, .bad, .bad, .bad, .bad, .bad, .bad, .bad, .bad, .bad, .bad, .bad, .bad], []⟩ = some (.ret, ⟨[.bad, .bad, .bad, .bad, .sc (.bool t4o), .bad, .bad, .bad, .bad, .bad, .bad, .bad, .bad, .bad, .bad, .bad, .bad, .bad, .bad, .bad, .bad, .bad, .bad, .bad, .bad, .bad, .bad, .bad, .bad, .bad, .bad, .bad, .bad, .bad, .bad, .bad, .bad], []⟩)) : runFn ⟨⟨iadd, isub, imul, iquo, irem, ibit, ishl, ishr, iwrap, ieq, ilt, ile, beq, seq, slt, sapp, slen, sget, ssub, llen, lget, lset, lapp, lsub, room⟩, call, loop, prim⟩ (g46F c0) [.sc (.string x0), .sc (.string x1)] [] = some (.sc (.bool t4o), []) := by
  cbv
  all_goals (try rw [h1])
  all_goals (try cbv)

theorem p46_1 (c0 : Cd) (x0 : ByteArray) (x1 : ByteArray) (h1 : loop [5, 0, 1] 0 c0 ⟨[.sc (.string x0), .sc (.string x1), .bad, .bad, .bad, .sc (.int .i64 0), .bad, .bad, .bad, .bad, .bad, .bad, .bad, .bad, .bad, .bad, .bad, .bad, .bad, .bad, .bad, .bad, .bad, .bad, .bad, .bad, .bad, .bad, .bad, .bad, .bad, .bad, .bad, .bad, .bad, .bad, .bad], []⟩ = some (.brk 0, ⟨[.sc (.string x0), .sc (.string x1), .bad, .bad, .bad, .bad, .bad, .bad, .bad, .bad, .bad, .bad, .bad, .bad, .bad, .bad, .bad, .bad, .bad, .bad, .bad, .bad, .bad, .bad, .bad, .bad, .bad, .bad, .bad, .bad, .bad, .bad, .bad, .bad, .bad, .bad, .bad], []⟩)) : runFn ⟨⟨iadd, isub, imul, iquo, irem, ibit, ishl, ishr, iwrap, ieq, ilt, ile, beq, seq, slt, sapp, slen, sget, ssub, llen, lget, lset, lapp, lsub, room⟩, call, loop, prim⟩ (g46F c0) [.sc (.string x0), .sc (.string x1)] [] = some (.sc (.bool (ilt (slen x0) (slen x1))), []) := by
  cbv
  all_goals (try rw [h1])
  all_goals (try cbv)

theorem r46_0_0_0 (x0 : ByteArray) (x1 : ByteArray) (t5 : Int) (b : Int) (b1 : Int) (h1 : ilt t5 (slen x0) = true) (h2 : ilt t5 (slen x1) = true) (h3 : sget x0 t5 = some b) (h4 : sget x1 t5 = some b1) (h5 : ieq b b1 = true) : Ifc.round ⟨⟨iadd, isub, imul, iquo, irem, ibit, ishl, ishr, iwrap, ieq, ilt, ile, beq, seq, slt, sapp, slen, sget, ssub, llen, lget, lset, lapp, lsub, room⟩, call, loop, prim⟩ [5, 0, 1] 0 (b46_0F) ⟨[.sc (.string x0), .sc (.string x1), .bad, .bad, .bad, .sc (.int .i64 t5), .bad, .bad, .bad, .bad, .bad, .bad, .bad, .bad, .bad, .bad, .bad, .bad, .bad, .bad, .bad, .bad, .bad, .bad, .bad, .bad, .bad, .bad, .bad, .bad, .bad, .bad, .bad, .bad, .bad, .bad, .bad], []⟩ = loop [5, 0, 1] 0 (b46_0F) ⟨[.sc (.string x0), .sc (.string x1), .bad, .bad, .bad, .sc (.int .i64 (iadd .i64 t5 1)), .bad, .bad, .bad, .bad, .bad, .bad, .bad, .bad, .bad, .bad, .bad, .bad, .bad, .bad, .bad, .bad, .bad, .bad, .bad, .bad, .bad, .bad, .bad, .bad, .bad, .bad, .bad, .bad, .bad, .bad, .bad], []⟩ := by
  cbv
  all_goals (try rw [h1])
  all_goals (try cbv)
  all_goals (try rw [h2])
  all_goals (try cbv)
  all_goals (try rw [h3])
  all_goals (try cbv)
  all_goals (try rw [h4])
  all_goals (try cbv)
  all_goals (try rw [h5])
  all_goals (try cbv)

theorem r46_0_0_1 (x0 : ByteArray) (x1 : ByteArray) (t5 : Int) (b : Int) (b1 : Int) (h1 : ilt t5 (slen x0) = true) (h2 : ilt t5 (slen x1) = true) (h3 : sget x0 t5 = some b) (h4 : sget x1 t5 = some b1) (h5 : ieq b b1 = false) : Ifc.round ⟨⟨iadd, isub, imul, iquo, irem, ibit, ishl, ishr, iwrap, ieq, ilt, ile, beq, seq, slt, sapp, slen, sget, ssub, llen, lget, lset, lapp, lsub, room⟩, call, loop, prim⟩ [5, 0, 1] 0 (b46_0F) ⟨[.sc (.string x0), .sc (.string x1), .bad, .bad, .bad, .sc (.int .i64 t5), .bad, .bad, .bad, .bad, .bad, .bad, .bad, .bad, .bad, .bad, .bad, .bad, .bad, .bad, .bad, .bad, .bad, .bad, .bad, .bad, .bad, .bad, .bad, .bad, .bad, .bad, .bad, .bad, .bad, .bad, .bad], []⟩ = some (.ret, ⟨[.bad, .bad, .bad, .bad, .sc (.bool (ilt b b1)), .bad, .bad, .bad, .bad, .bad, .bad, .bad, .bad, .bad, .bad, .bad, .bad, .bad, .bad, .bad, .bad, .bad, .bad, .bad, .bad, .bad, .bad, .bad, .bad, .bad, .bad, .bad, .bad, .bad, .bad, .bad, .bad], []⟩) := by
  cbv
  all_goals (try rw [h1])
  all_goals (try cbv)
  all_goals (try rw [h2])
  all_goals (try cbv)
  all_goals (try rw [h3])
  all_goals (try cbv)
  all_goals (try rw [h4])
  all_goals (try cbv)
  all_goals (try rw [h5])
  all_goals (try cbv)
  all_goals (try rw [h3])
  all_goals (try cbv)
  all_goals (try rw [h4])
  all_goals (try cbv)

theorem r46_0_0_2 (x0 : ByteArray) (x1 : ByteArray) (t5 : Int) (h1 : ilt t5 (slen x0) = true) (h2 : ilt t5 (slen x1) = false) : Ifc.round ⟨⟨iadd, isub, imul, iquo, irem, ibit, ishl, ishr, iwrap, ieq, ilt, ile, beq, seq, slt, sapp, slen, sget, ssub, llen, lget, lset, lapp, lsub, room⟩, call, loop, prim⟩ [5, 0, 1] 0 (b46_0F) ⟨[.sc (.string x0), .sc (.string x1), .bad, .bad, .bad, .sc (.int .i64 t5), .bad, .bad, .bad, .bad, .bad, .bad, .bad, .bad, .bad, .bad, .bad, .bad, .bad, .bad, .bad, .bad, .bad, .bad, .bad, .bad, .bad, .bad, .bad, .bad, .bad, .bad, .bad, .bad, .bad, .bad, .bad], []⟩ = some (.brk 0, ⟨[.sc (.string x0), .sc (.string x1), .bad, .bad, .bad, .bad, .bad, .bad, .bad, .bad, .bad, .bad, .bad, .bad, .bad, .bad, .bad, .bad, .bad, .bad, .bad, .bad, .bad, .bad, .bad, .bad, .bad, .bad, .bad, .bad, .bad, .bad, .bad, .bad, .bad, .bad, .bad], []⟩) := by
  cbv
  all_goals (try rw [h1])
  all_goals (try cbv)
  all_goals (try rw [h2])
  all_goals (try cbv)

theorem r46_0_0_3 (x0 : ByteArray) (x1 : ByteArray) (t5 : Int) (h1 : ilt t5 (slen x0) = false) : Ifc.round ⟨⟨iadd, isub, imul, iquo, irem, ibit, ishl, ishr, iwrap, ieq, ilt, ile, beq, seq, slt, sapp, slen, sget, ssub, llen, lget, lset, lapp, lsub, room⟩, call, loop, prim⟩ [5, 0, 1] 0 (b46_0F) ⟨[.sc (.string x0), .sc (.string x1), .bad, .bad, .bad, .sc (.int .i64 t5), .bad, .bad, .bad, .bad, .bad, .bad, .bad, .bad, .bad, .bad, .bad, .bad, .bad, .bad, .bad, .bad, .bad, .bad, .bad, .bad, .bad, .bad, .bad, .bad, .bad, .bad, .bad, .bad, .bad, .bad, .bad], []⟩ = some (.brk 0, ⟨[.sc (.string x0), .sc (.string x1), .bad, .bad, .bad, .bad, .bad, .bad, .bad, .bad, .bad, .bad, .bad, .bad, .bad, .bad, .bad, .bad, .bad, .bad, .bad, .bad, .bad, .bad, .bad, .bad, .bad, .bad, .bad, .bad, .bad, .bad, .bad, .bad, .bad, .bad, .bad], []⟩) := by
  cbv
  all_goals (try rw [h1])
  all_goals (try cbv)

theorem p55_0 (x0_kind : Int) (x0_n : Int) (x0_s : ByteArray) (x0_keys : List AV) (x0_kids : List AV) (h1 : ieq x0_kind 1 = true) (h2 : seq x0_s ⟨#[]⟩ = true) (h3 : ilt 0 (llen x0_keys) = true) : runFn ⟨⟨iadd, isub, imul, iquo, irem, ibit, ishl, ishr, iwrap, ieq, ilt, ile, beq, seq, slt, sapp, slen, sget, ssub, llen, lget, lset, lapp, lsub, room⟩, call, loop, prim⟩ (g55F) [.agg [.sc (.int .i64 x0_kind), .sc (.int .i64 x0_n), .sc (.string x0_s), .lit 9 false x0_keys, .lit 32 false x0_kids]] [] = some (.sc (.bool false), []) := by
  cbv
  all_goals (try rw [h1])
  all_goals (try cbv)
  all_goals (try rw [h2])
  all_goals (try cbv)
  all_goals (try rw [h2])
  all_goals (try cbv)
  all_goals (try rw [h2])
  all_goals (try cbv)
  all_goals (try rw [h3])
  all_goals (try cbv)

theorem p55_1 (x0_kind : Int) (x0_n : Int) (x0_s : ByteArray) (x0_keys : List AV) (x0_kids : List AV) (h1 : ieq x0_kind 1 = true) (h2 : seq x0_s ⟨#[]⟩ = true) (h3 : ilt 0 (llen x0_keys) = false) : runFn ⟨⟨iadd, isub, imul, iquo, irem, ibit, ishl, ishr, iwrap, ieq, ilt, ile, beq, seq, slt, sapp, slen, sget, ssub, llen, lget, lset, lapp, lsub, room⟩, call, loop, prim⟩ (g55F) [.agg [.sc (.int .i64 x0_kind), .sc (.int .i64 x0_n), .sc (.string x0_s), .lit 9 false x0_keys, .lit 32 false x0_kids]] [] = some (.sc (.bool ((!(ilt 0 (llen x0_kids))))), []) := by
  cbv
  all_goals (try rw [h1])
  all_goals (try cbv)
  all_goals (try rw [h2])
  all_goals (try cbv)
  all_goals (try rw [h2])
  all_goals (try cbv)
  all_goals (try rw [h2])
  all_goals (try cbv)
  all_goals (try rw [h3])
  all_goals (try cbv)

theorem p55_2 (x0_kind : Int) (x0_n : Int) (x0_s : ByteArray) (x0_keys : List AV) (x0_kids : List AV) (h1 : ieq x0_kind 1 = true) (h2 : seq x0_s ⟨#[]⟩ = false) : runFn ⟨⟨iadd, isub, imul, iquo, irem, ibit, ishl, ishr, iwrap, ieq, ilt, ile, beq, seq, slt, sapp, slen, sget, ssub, llen, lget, lset, lapp, lsub, room⟩, call, loop, prim⟩ (g55F) [.agg [.sc (.int .i64 x0_kind), .sc (.int .i64 x0_n), .sc (.string x0_s), .lit 9 false x0_keys, .lit 32 false x0_kids]] [] = some (.sc (.bool false), []) := by
  cbv
  all_goals (try rw [h1])
  all_goals (try cbv)
  all_goals (try rw [h2])
  all_goals (try cbv)
  all_goals (try rw [h2])
  all_goals (try cbv)
  all_goals (try rw [h2])
  all_goals (try cbv)

theorem p55_3 (x0_kind : Int) (x0_n : Int) (x0_s : ByteArray) (x0_keys : List AV) (x0_kids : List AV) (h1 : ieq x0_kind 1 = false) (h2 : ieq x0_kind 2 = true) (h3 : ieq x0_n 0 = true) (h4 : ilt 0 (llen x0_keys) = true) : runFn ⟨⟨iadd, isub, imul, iquo, irem, ibit, ishl, ishr, iwrap, ieq, ilt, ile, beq, seq, slt, sapp, slen, sget, ssub, llen, lget, lset, lapp, lsub, room⟩, call, loop, prim⟩ (g55F) [.agg [.sc (.int .i64 x0_kind), .sc (.int .i64 x0_n), .sc (.string x0_s), .lit 9 false x0_keys, .lit 32 false x0_kids]] [] = some (.sc (.bool false), []) := by
  cbv
  all_goals (try rw [h1])
  all_goals (try cbv)
  all_goals (try rw [h2])
  all_goals (try cbv)
  all_goals (try rw [h3])
  all_goals (try cbv)
  all_goals (try rw [h3])
  all_goals (try cbv)
  all_goals (try rw [h3])
  all_goals (try cbv)
  all_goals (try rw [h4])
  all_goals (try cbv)

theorem p55_4 (x0_kind : Int) (x0_n : Int) (x0_s : ByteArray) (x0_keys : List AV) (x0_kids : List AV) (h1 : ieq x0_kind 1 = false) (h2 : ieq x0_kind 2 = true) (h3 : ieq x0_n 0 = true) (h4 : ilt 0 (llen x0_keys) = false) : runFn ⟨⟨iadd, isub, imul, iquo, irem, ibit, ishl, ishr, iwrap, ieq, ilt, ile, beq, seq, slt, sapp, slen, sget, ssub, llen, lget, lset, lapp, lsub, room⟩, call, loop, prim⟩ (g55F) [.agg [.sc (.int .i64 x0_kind), .sc (.int .i64 x0_n), .sc (.string x0_s), .lit 9 false x0_keys, .lit 32 false x0_kids]] [] = some (.sc (.bool ((!(ilt 0 (llen x0_kids))))), []) := by
  cbv
  all_goals (try rw [h1])
  all_goals (try cbv)
  all_goals (try rw [h2])
  all_goals (try cbv)
  all_goals (try rw [h3])
  all_goals (try cbv)
  all_goals (try rw [h3])
  all_goals (try cbv)
  all_goals (try rw [h3])
  all_goals (try cbv)
  all_goals (try rw [h4])
  all_goals (try cbv)

theorem p55_5 (x0_kind : Int) (x0_n : Int) (x0_s : ByteArray) (x0_keys : List AV) (x0_kids : List AV) (h1 : ieq x0_kind 1 = false) (h2 : ieq x0_kind 2 = true) (h3 : ieq x0_n 0 = false) : runFn ⟨⟨iadd, isub, imul, iquo, irem, ibit, ishl, ishr, iwrap, ieq, ilt, ile, beq, seq, slt, sapp, slen, sget, ssub, llen, lget, lset, lapp, lsub, room⟩, call, loop, prim⟩ (g55F) [.agg [.sc (.int .i64 x0_kind), .sc (.int .i64 x0_n), .sc (.string x0_s), .lit 9 false x0_keys, .lit 32 false x0_kids]] [] = some (.sc (.bool false), []) := by
  cbv
  all_goals (try rw [h1])
  all_goals (try cbv)
  all_goals (try rw [h2])
  all_goals (try cbv)
  all_goals (try rw [h3])
  all_goals (try cbv)
  all_goals (try rw [h3])
  all_goals (try cbv)
  all_goals (try rw [h3])
  all_goals (try cbv)

theorem p55_6 (x0_kind : Int) (x0_n : Int) (x0_s : ByteArray) (x0_keys : List AV) (x0_kids : List AV) (h1 : ieq x0_kind 1 = false) (h2 : ieq x0_kind 2 = false) (h3 : ieq x0_kind 3 = true) (h4 : ieq x0_n 0 = true) (h5 : seq x0_s ⟨#[]⟩ = true) : runFn ⟨⟨iadd, isub, imul, iquo, irem, ibit, ishl, ishr, iwrap, ieq, ilt, ile, beq, seq, slt, sapp, slen, sget, ssub, llen, lget, lset, lapp, lsub, room⟩, call, loop, prim⟩ (g55F) [.agg [.sc (.int .i64 x0_kind), .sc (.int .i64 x0_n), .sc (.string x0_s), .lit 9 false x0_keys, .lit 32 false x0_kids]] [] = some (.sc (.bool ((!(ilt 0 (llen x0_keys))))), []) := by
  cbv
  all_goals (try rw [h1])
  all_goals (try cbv)
  all_goals (try rw [h2])
  all_goals (try cbv)
  all_goals (try rw [h3])
  all_goals (try cbv)
  all_goals (try rw [h4])
  all_goals (try cbv)
  all_goals (try rw [h4])
  all_goals (try cbv)
  all_goals (try rw [h4])
  all_goals (try cbv)
  all_goals (try rw [h5])
  all_goals (try cbv)
  all_goals (try rw [h5])
  all_goals (try cbv)
  all_goals (try rw [h5])
  all_goals (try cbv)

theorem p55_7 (x0_kind : Int) (x0_n : Int) (x0_s : ByteArray) (x0_keys : List AV) (x0_kids : List AV) (h1 : ieq x0_kind 1 = false) (h2 : ieq x0_kind 2 = false) (h3 : ieq x0_kind 3 = true) (h4 : ieq x0_n 0 = true) (h5 : seq x0_s ⟨#[]⟩ = false) : runFn ⟨⟨iadd, isub, imul, iquo, irem, ibit, ishl, ishr, iwrap, ieq, ilt, ile, beq, seq, slt, sapp, slen, sget, ssub, llen, lget, lset, lapp, lsub, room⟩, call, loop, prim⟩ (g55F) [.agg [.sc (.int .i64 x0_kind), .sc (.int .i64 x0_n), .sc (.string x0_s), .lit 9 false x0_keys, .lit 32 false x0_kids]] [] = some (.sc (.bool false), []) := by
  cbv
  all_goals (try rw [h1])
  all_goals (try cbv)
  all_goals (try rw [h2])
  all_goals (try cbv)
  all_goals (try rw [h3])
  all_goals (try cbv)
  all_goals (try rw [h4])
  all_goals (try cbv)
  all_goals (try rw [h4])
  all_goals (try cbv)
  all_goals (try rw [h4])
  all_goals (try cbv)
  all_goals (try rw [h5])
  all_goals (try cbv)
  all_goals (try rw [h5])
  all_goals (try cbv)
  all_goals (try rw [h5])
  all_goals (try cbv)

theorem p55_8 (x0_kind : Int) (x0_n : Int) (x0_s : ByteArray) (x0_keys : List AV) (x0_kids : List AV) (h1 : ieq x0_kind 1 = false) (h2 : ieq x0_kind 2 = false) (h3 : ieq x0_kind 3 = true) (h4 : ieq x0_n 0 = false) : runFn ⟨⟨iadd, isub, imul, iquo, irem, ibit, ishl, ishr, iwrap, ieq, ilt, ile, beq, seq, slt, sapp, slen, sget, ssub, llen, lget, lset, lapp, lsub, room⟩, call, loop, prim⟩ (g55F) [.agg [.sc (.int .i64 x0_kind), .sc (.int .i64 x0_n), .sc (.string x0_s), .lit 9 false x0_keys, .lit 32 false x0_kids]] [] = some (.sc (.bool false), []) := by
  cbv
  all_goals (try rw [h1])
  all_goals (try cbv)
  all_goals (try rw [h2])
  all_goals (try cbv)
  all_goals (try rw [h3])
  all_goals (try cbv)
  all_goals (try rw [h4])
  all_goals (try cbv)
  all_goals (try rw [h4])
  all_goals (try cbv)
  all_goals (try rw [h4])
  all_goals (try cbv)

theorem p55_9 (x0_kind : Int) (x0_n : Int) (x0_s : ByteArray) (x0_keys : List AV) (x0_kids : List AV) (h1 : ieq x0_kind 1 = false) (h2 : ieq x0_kind 2 = false) (h3 : ieq x0_kind 3 = false) (h4 : ieq x0_n 0 = true) (h5 : seq x0_s ⟨#[]⟩ = true) : runFn ⟨⟨iadd, isub, imul, iquo, irem, ibit, ishl, ishr, iwrap, ieq, ilt, ile, beq, seq, slt, sapp, slen, sget, ssub, llen, lget, lset, lapp, lsub, room⟩, call, loop, prim⟩ (g55F) [.agg [.sc (.int .i64 x0_kind), .sc (.int .i64 x0_n), .sc (.string x0_s), .lit 9 false x0_keys, .lit 32 false x0_kids]] [] = some (.sc (.bool (ieq (llen x0_keys) (llen x0_kids))), []) := by
  cbv
  all_goals (try rw [h1])
  all_goals (try cbv)
  all_goals (try rw [h2])
  all_goals (try cbv)
  all_goals (try rw [h3])
  all_goals (try cbv)
  all_goals (try rw [h4])
  all_goals (try cbv)
  all_goals (try rw [h4])
  all_goals (try cbv)
  all_goals (try rw [h4])
  all_goals (try cbv)
  all_goals (try rw [h5])
  all_goals (try cbv)
  all_goals (try rw [h5])
  all_goals (try cbv)
  all_goals (try rw [h5])
  all_goals (try cbv)
  all_goals (try rw [h5])
  all_goals (try cbv)
  all_goals (try rw [h5])
  all_goals (try cbv)
  all_goals (try rw [h5])
  all_goals (try cbv)
  all_goals (try rw [h5])
  all_goals (try cbv)
  all_goals (try rw [h5])
  all_goals (try cbv)

theorem p55_10 (x0_kind : Int) (x0_n : Int) (x0_s : ByteArray) (x0_keys : List AV) (x0_kids : List AV) (h1 : ieq x0_kind 1 = false) (h2 : ieq x0_kind 2 = false) (h3 : ieq x0_kind 3 = false) (h4 : ieq x0_n 0 = true) (h5 : seq x0_s ⟨#[]⟩ = false) : runFn ⟨⟨iadd, isub, imul, iquo, irem, ibit, ishl, ishr, iwrap, ieq, ilt, ile, beq, seq, slt, sapp, slen, sget, ssub, llen, lget, lset, lapp, lsub, room⟩, call, loop, prim⟩ (g55F) [.agg [.sc (.int .i64 x0_kind), .sc (.int .i64 x0_n), .sc (.string x0_s), .lit 9 false x0_keys, .lit 32 false x0_kids]] [] = some (.sc (.bool false), []) := by
  cbv
  all_goals (try rw [h1])
  all_goals (try cbv)
  all_goals (try rw [h2])
  all_goals (try cbv)
  all_goals (try rw [h3])
  all_goals (try cbv)
  all_goals (try rw [h4])
  all_goals (try cbv)
  all_goals (try rw [h4])
  all_goals (try cbv)
  all_goals (try rw [h4])
  all_goals (try cbv)
  all_goals (try rw [h5])
  all_goals (try cbv)
  all_goals (try rw [h5])
  all_goals (try cbv)
  all_goals (try rw [h5])
  all_goals (try cbv)
  all_goals (try rw [h5])
  all_goals (try cbv)
  all_goals (try rw [h5])
  all_goals (try cbv)
  all_goals (try rw [h5])
  all_goals (try cbv)
  all_goals (try rw [h5])
  all_goals (try cbv)
  all_goals (try rw [h5])
  all_goals (try cbv)

theorem p55_11 (x0_kind : Int) (x0_n : Int) (x0_s : ByteArray) (x0_keys : List AV) (x0_kids : List AV) (h1 : ieq x0_kind 1 = false) (h2 : ieq x0_kind 2 = false) (h3 : ieq x0_kind 3 = false) (h4 : ieq x0_n 0 = false) : runFn ⟨⟨iadd, isub, imul, iquo, irem, ibit, ishl, ishr, iwrap, ieq, ilt, ile, beq, seq, slt, sapp, slen, sget, ssub, llen, lget, lset, lapp, lsub, room⟩, call, loop, prim⟩ (g55F) [.agg [.sc (.int .i64 x0_kind), .sc (.int .i64 x0_n), .sc (.string x0_s), .lit 9 false x0_keys, .lit 32 false x0_kids]] [] = some (.sc (.bool false), []) := by
  cbv
  all_goals (try rw [h1])
  all_goals (try cbv)
  all_goals (try rw [h2])
  all_goals (try cbv)
  all_goals (try rw [h3])
  all_goals (try cbv)
  all_goals (try rw [h4])
  all_goals (try cbv)
  all_goals (try rw [h4])
  all_goals (try cbv)
  all_goals (try rw [h4])
  all_goals (try cbv)

theorem p56_0 (x0 : ByteArray) : runFn ⟨⟨iadd, isub, imul, iquo, irem, ibit, ishl, ishr, iwrap, ieq, ilt, ile, beq, seq, slt, sapp, slen, sget, ssub, llen, lget, lset, lapp, lsub, room⟩, call, loop, prim⟩ (g56F) [.sc (.string x0)] [] = some (.sc (.bool (ilt 1048576 (slen x0))), []) := by
  cbv

theorem p57k_0 (x0 : List AV) (r : Int) (hp42 : prim 42 = none) (h1 : call 42 [.lit 9 false x0, .fn 56 []] [] = some (.sc (.int .i64 r), [])) : runFn ⟨⟨iadd, isub, imul, iquo, irem, ibit, ishl, ishr, iwrap, ieq, ilt, ile, beq, seq, slt, sapp, slen, sget, ssub, llen, lget, lset, lapp, lsub, room⟩, call, loop, prim⟩ (g57F) [.lit 9 false x0, .fn 56 []] [] = some (.sc (.bool (ile 0 r)), []) := by
  cbv
  all_goals (try rw [hp42])
  all_goals (try cbv)
  all_goals (try rw [h1])
  all_goals (try cbv)

theorem p42k_0 (c0 : Cd) (x0 : List AV) (t4o : Int) (h1 : loop [7, 1, 0, 8] 0 c0 ⟨[.lit 9 false x0, .fn 56 [], .bad, .bad, .bad, .bad, .bad, .sc (.int .i64 (llen x0)), .sc (.int .i64 0), .bad, .bad, .bad, .bad, .bad, .bad, .bad, .bad, .bad, .bad], []⟩ = some (.ret, ⟨[.bad, .bad, .bad, .bad, .sc (.int .i64 t4o), .bad, .bad, .bad, .bad, .bad, .bad, .bad, .bad, .bad, .bad, .bad, .bad, .bad, .bad], []⟩)) : runFn ⟨⟨iadd, isub, imul, iquo, irem, ibit, ishl, ishr, iwrap, ieq, ilt, ile, beq, seq, slt, sapp, slen, sget, ssub, llen, lget, lset, lapp, lsub, room⟩, call, loop, prim⟩ (g42F c0) [.lit 9 false x0, .fn 56 []] [] = some (.sc (.int .i64 t4o), []) := by
  cbv
  all_goals (try rw [h1])
  all_goals (try cbv)

theorem p42k_1 (c0 : Cd) (x0 : List AV) (h1 : loop [7, 1, 0, 8] 0 c0 ⟨[.lit 9 false x0, .fn 56 [], .bad, .bad, .bad, .bad, .bad, .sc (.int .i64 (llen x0)), .sc (.int .i64 0), .bad, .bad, .bad, .bad, .bad, .bad, .bad, .bad, .bad, .bad], []⟩ = some (.brk 0, ⟨[.bad, .bad, .bad, .bad, .bad, .bad, .bad, .bad, .bad, .bad, .bad, .bad, .bad, .bad, .bad, .bad, .bad, .bad, .bad], []⟩)) : runFn ⟨⟨iadd, isub, imul, iquo, irem, ibit, ishl, ishr, iwrap, ieq, ilt, ile, beq, seq, slt, sapp, slen, sget, ssub, llen, lget, lset, lapp, lsub, room⟩, call, loop, prim⟩ (g42F c0) [.lit 9 false x0, .fn 56 []] [] = some (.sc (.int .i64 (-1)), []) := by
  cbv
  all_goals (try rw [h1])
  all_goals (try cbv)

theorem r42_0k_0_0 (x0 : List AV) (t8 : Int) (x : ByteArray) (r : Bool) (hp56 : prim 56 = none) (h1 : ilt t8 (llen x0) = true) (h2 : lget x0 t8 = some (.sc (.string x))) (h3 : call 56 [.sc (.string x)] [] = some (.sc (.bool r), [])) (h4 : r = true) : Ifc.round ⟨⟨iadd, isub, imul, iquo, irem, ibit, ishl, ishr, iwrap, ieq, ilt, ile, beq, seq, slt, sapp, slen, sget, ssub, llen, lget, lset, lapp, lsub, room⟩, call, loop, prim⟩ [7, 1, 0, 8] 0 (b42_0F) ⟨[.lit 9 false x0, .fn 56 [], .bad, .bad, .bad, .bad, .bad, .sc (.int .i64 (llen x0)), .sc (.int .i64 t8), .bad, .bad, .bad, .bad, .bad, .bad, .bad, .bad, .bad, .bad], []⟩ = some (.ret, ⟨[.bad, .bad, .bad, .bad, .sc (.int .i64 t8), .bad, .bad, .bad, .bad, .bad, .bad, .bad, .bad, .bad, .bad, .bad, .bad, .bad, .bad], []⟩) := by
  cbv
  all_goals (try rw [h1])
  all_goals (try cbv)
  all_goals (try rw [h2])
  all_goals (try cbv)
  all_goals (try rw [h2])
  all_goals (try cbv)
  all_goals (try rw [hp56])
  all_goals (try cbv)
  all_goals (try rw [h3])
  all_goals (try cbv)
  all_goals (try rw [h4])
  all_goals (try cbv)

theorem r42_0k_0_1 (x0 : List AV) (t8 : Int) (x : ByteArray) (r : Bool) (hp56 : prim 56 = none) (h1 : ilt t8 (llen x0) = true) (h2 : lget x0 t8 = some (.sc (.string x))) (h3 : call 56 [.sc (.string x)] [] = some (.sc (.bool r), [])) (h4 : r = false) : Ifc.round ⟨⟨iadd, isub, imul, iquo, irem, ibit, ishl, ishr, iwrap, ieq, ilt, ile, beq, seq, slt, sapp, slen, sget, ssub, llen, lget, lset, lapp, lsub, room⟩, call, loop, prim⟩ [7, 1, 0, 8] 0 (b42_0F) ⟨[.lit 9 false x0, .fn 56 [], .bad, .bad, .bad, .bad, .bad, .sc (.int .i64 (llen x0)), .sc (.int .i64 t8), .bad, .bad, .bad, .bad, .bad, .bad, .bad, .bad, .bad, .bad], []⟩ = loop [7, 1, 0, 8] 0 (b42_0F) ⟨[.lit 9 false x0, .fn 56 [], .bad, .bad, .bad, .bad, .bad, .sc (.int .i64 (llen x0)), .sc (.int .i64 (iadd .i64 t8 1)), .bad, .bad, .bad, .bad, .bad, .bad, .bad, .bad, .bad, .bad], []⟩ := by
  cbv
  all_goals (try rw [h1])
  all_goals (try cbv)
  all_goals (try rw [h2])
  all_goals (try cbv)
  all_goals (try rw [h2])
  all_goals (try cbv)
  all_goals (try rw [hp56])
  all_goals (try cbv)
  all_goals (try rw [h3])
  all_goals (try cbv)
  all_goals (try rw [h4])
  all_goals (try cbv)

theorem r42_0k_0_2 (x0 : List AV) (t8 : Int) (h1 : ilt t8 (llen x0) = false) : Ifc.round ⟨⟨iadd, isub, imul, iquo, irem, ibit, ishl, ishr, iwrap, ieq, ilt, ile, beq, seq, slt, sapp, slen, sget, ssub, llen, lget, lset, lapp, lsub, room⟩, call, loop, prim⟩ [7, 1, 0, 8] 0 (b42_0F) ⟨[.lit 9 false x0, .fn 56 [], .bad, .bad, .bad, .bad, .bad, .sc (.int .i64 (llen x0)), .sc (.int .i64 t8), .bad, .bad, .bad, .bad, .bad, .bad, .bad, .bad, .bad, .bad], []⟩ = some (.brk 0, ⟨[.bad, .bad, .bad, .bad, .bad, .bad, .bad, .bad, .bad, .bad, .bad, .bad, .bad, .bad, .bad, .bad, .bad, .bad, .bad], []⟩) := by
  cbv
  all_goals (try rw [h1])
  all_goals (try cbv)

theorem p42s_0 (c0 : Cd) (x0 : List AV) (key : ByteArray) (t4o : Int) (h1 : loop [7, 1, 0, 8] 1 c0 ⟨[.lit 9 false x0, .fn 43 [.bptr 0 0], .bad, .bad, .bad, .bad, .bad, .sc (.int .i64 (llen x0)), .sc (.int .i64 0), .bad, .bad, .bad, .bad, .bad, .bad, .bad, .bad, .bad, .bad], [.box 9 [.sc (.string key)]]⟩ = some (.ret, ⟨[.bad, .bad, .bad, .bad, .sc (.int .i64 t4o), .bad, .bad, .bad, .bad, .bad, .bad, .bad, .bad, .bad, .bad, .bad, .bad, .bad, .bad], [.box 9 [.sc (.string key)]]⟩)) : runFn ⟨⟨iadd, isub, imul, iquo, irem, ibit, ishl, ishr, iwrap, ieq, ilt, ile, beq, seq, slt, sapp, slen, sget, ssub, llen, lget, lset, lapp, lsub, room⟩, call, loop, prim⟩ (g42F c0) [.lit 9 false x0, .fn 43 [.bptr 0 0]] [.box 9 [.sc (.string key)]] = some (.sc (.int .i64 t4o), [.box 9 [.sc (.string key)]]) := by
  cbv
  all_goals (try rw [h1])
  all_goals (try cbv)

theorem p42s_1 (c0 : Cd) (x0 : List AV) (key : ByteArray) (h1 : loop [7, 1, 0, 8] 1 c0 ⟨[.lit 9 false x0, .fn 43 [.bptr 0 0], .bad, .bad, .bad, .bad, .bad, .sc (.int .i64 (llen x0)), .sc (.int .i64 0), .bad, .bad, .bad, .bad, .bad, .bad, .bad, .bad, .bad, .bad], [.box 9 [.sc (.string key)]]⟩ = some (.brk 0, ⟨[.bad, .bad, .bad, .bad, .bad, .bad, .bad, .bad, .bad, .bad, .bad, .bad, .bad, .bad, .bad, .bad, .bad, .bad, .bad], [.box 9 [.sc (.string key)]]⟩)) : runFn ⟨⟨iadd, isub, imul, iquo, irem, ibit, ishl, ishr, iwrap, ieq, ilt, ile, beq, seq, slt, sapp, slen, sget, ssub, llen, lget, lset, lapp, lsub, room⟩, call, loop, prim⟩ (g42F c0) [.lit 9 false x0, .fn 43 [.bptr 0 0]] [.box 9 [.sc (.string key)]] = some (.sc (.int .i64 (-1)), [.box 9 [.sc (.string key)]]) := by
  cbv
  all_goals (try rw [h1])
  all_goals (try cbv)

theorem r42_0s_0_0 (x0 : List AV) (key : ByteArray) (t8 : Int) (x : ByteArray) (r : Bool) (hp43 : prim 43 = none) (h1 : ilt t8 (llen x0) = true) (h2 : lget x0 t8 = some (.sc (.string x))) (h3 : call 43 [.sc (.string x), .bptr 0 0] [.box 9 [.sc (.string key)]] = some (.sc (.bool r), [.box 9 [.sc (.string key)]])) (h4 : r = true) : Ifc.round ⟨⟨iadd, isub, imul, iquo, irem, ibit, ishl, ishr, iwrap, ieq, ilt, ile, beq, seq, slt, sapp, slen, sget, ssub, llen, lget, lset, lapp, lsub, room⟩, call, loop, prim⟩ [7, 1, 0, 8] 1 (b42_0F) ⟨[.lit 9 false x0, .fn 43 [.bptr 0 0], .bad, .bad, .bad, .bad, .bad, .sc (.int .i64 (llen x0)), .sc (.int .i64 t8), .bad, .bad, .bad, .bad, .bad, .bad, .bad, .bad, .bad, .bad], [.box 9 [.sc (.string key)]]⟩ = some (.ret, ⟨[.bad, .bad, .bad, .bad, .sc (.int .i64 t8), .bad, .bad, .bad, .bad, .bad, .bad, .bad, .bad, .bad, .bad, .bad, .bad, .bad, .bad], [.box 9 [.sc (.string key)]]⟩) := by
  cbv
  all_goals (try rw [h1])
  all_goals (try cbv)
  all_goals (try rw [h2])
  all_goals (try cbv)
  all_goals (try rw [h2])
  all_goals (try cbv)
  all_goals (try rw [hp43])
  all_goals (try cbv)
  all_goals (try rw [h3])
  all_goals (try cbv)
  all_goals (try rw [h4])
  all_goals (try cbv)

theorem r42_0s_0_1 (x0 : List AV) (key : ByteArray) (t8 : Int) (x : ByteArray) (r : Bool) (hp43 : prim 43 = none) (h1 : ilt t8 (llen x0) = true) (h2 : lget x0 t8 = some (.sc (.string x))) (h3 : call 43 [.sc (.string x), .bptr 0 0] [.box 9 [.sc (.string key)]] = some (.sc (.bool r), [.box 9 [.sc (.string key)]])) (h4 : r = false) : Ifc.round ⟨⟨iadd, isub, imul, iquo, irem, ibit, ishl, ishr, iwrap, ieq, ilt, ile, beq, seq, slt, sapp, slen, sget, ssub, llen, lget, lset, lapp, lsub, room⟩, call, loop, prim⟩ [7, 1, 0, 8] 1 (b42_0F) ⟨[.lit 9 false x0, .fn 43 [.bptr 0 0], .bad, .bad, .bad, .bad, .bad, .sc (.int .i64 (llen x0)), .sc (.int .i64 t8), .bad, .bad, .bad, .bad, .bad, .bad, .bad, .bad, .bad, .bad], [.box 9 [.sc (.string key)]]⟩ = loop [7, 1, 0, 8] 1 (b42_0F) ⟨[.lit 9 false x0, .fn 43 [.bptr 0 0], .bad, .bad, .bad, .bad, .bad, .sc (.int .i64 (llen x0)), .sc (.int .i64 (iadd .i64 t8 1)), .bad, .bad, .bad, .bad, .bad, .bad, .bad, .bad, .bad, .bad], [.box 9 [.sc (.string key)]]⟩ := by
  cbv
  all_goals (try rw [h1])
  all_goals (try cbv)
  all_goals (try rw [h2])
  all_goals (try cbv)
  all_goals (try rw [h2])
  all_goals (try cbv)
  all_goals (try rw [hp43])
  all_goals (try cbv)
  all_goals (try rw [h3])
  all_goals (try cbv)
  all_goals (try rw [h4])
  all_goals (try cbv)

theorem r42_0s_0_2 (x0 : List AV) (key : ByteArray) (t8 : Int) (h1 : ilt t8 (llen x0) = false) : Ifc.round ⟨⟨iadd, isub, imul, iquo, irem, ibit, ishl, ishr, iwrap, ieq, ilt, ile, beq, seq, slt, sapp, slen, sget, ssub, llen, lget, lset, lapp, lsub, room⟩, call, loop, prim⟩ [7, 1, 0, 8] 1 (b42_0F) ⟨[.lit 9 false x0, .fn 43 [.bptr 0 0], .bad, .bad, .bad, .bad, .bad, .sc (.int .i64 (llen x0)), .sc (.int .i64 t8), .bad, .bad, .bad, .bad, .bad, .bad, .bad, .bad, .bad, .bad], [.box 9 [.sc (.string key)]]⟩ = some (.brk 0, ⟨[.bad, .bad, .bad, .bad, .bad, .bad, .bad, .bad, .bad, .bad, .bad, .bad, .bad, .bad, .bad, .bad, .bad, .bad, .bad], [.box 9 [.sc (.string key)]]⟩) := by
  cbv
  all_goals (try rw [h1])
  all_goals (try cbv)

theorem p43_0 (x0 : ByteArray) (key : ByteArray) : runFn ⟨⟨iadd, isub, imul, iquo, irem, ibit, ishl, ishr, iwrap, ieq, ilt, ile, beq, seq, slt, sapp, slen, sget, ssub, llen, lget, lset, lapp, lsub, room⟩, call, loop, prim⟩ (g43F) [.sc (.string x0), .bptr 0 0] [.box 9 [.sc (.string key)]] = some (.sc (.bool (slt key x0)), [.box 9 [.sc (.string key)]]) := by
  cbv

end

theorem p36_0L (x0_kind : Int) (x0_n : Int) (x0_s : ByteArray) (x0_keys : List AV) (x0_kids : List AV) (x1 : Int) (r : Int) (t4o : Int) (h1 : (lim F pr).call 47 [.agg [.sc (.int .i64 x0_kind), .sc (.int .i64 x0_n), .sc (.string x0_s), .lit 9 false x0_keys, .lit 32 false x0_kids], .sc (.int .i64 x1)] [] = some (.sc (.int .i64 r), [])) (h2 : Ops.std.ieq r 0 = true) (h3 : (lim F pr).loop [17, 16, 1, 18] 1 b36_0 ⟨[.bad, .sc (.int .i64 x1), .bad, .bad, .bad, .bad, .bad, .bad, .bad, .bad, .bad, .bad, .bad, .bad, .bad, .bad, .lit 32 false x0_kids, .sc (.int .i64 (Ops.std.llen x0_kids)), .sc (.int .i64 0), .bad, .bad, .bad, .bad, .bad, .bad, .bad, .bad, .bad, .bad, .bad], [.box 32 [.sc (.int .i64 x0_kind), .sc (.int .i64 x0_n), .sc (.string x0_s), .lit 9 false x0_keys, .lit 32 false x0_kids]]⟩ = some (.ret, ⟨[.bad, .bad, .bad, .bad, .sc (.int .i64 t4o), .bad, .bad, .bad, .bad, .bad, .bad, .bad, .bad, .bad, .bad, .bad, .bad, .bad, .bad, .bad, .bad, .bad, .bad, .bad, .bad, .bad, .bad, .bad, .bad, .bad], [.box 32 [.sc (.int .i64 x0_kind), .sc (.int .i64 x0_n), .sc (.string x0_s), .lit 9 false x0_keys, .lit 32 false x0_kids]]⟩)) : runFn (lim F pr) g36 [.agg [.sc (.int .i64 x0_kind), .sc (.int .i64 x0_n), .sc (.string x0_s), .lit 9 false x0_keys, .lit 32 false x0_kids], .sc (.int .i64 x1)] [] = some (.sc (.int .i64 t4o), []) :=
  p36_0 (iadd := Ops.std.iadd) (isub := Ops.std.isub) (imul := Ops.std.imul) (iquo := Ops.std.iquo) (irem := Ops.std.irem) (ibit := Ops.std.ibit) (ishl := Ops.std.ishl) (ishr := Ops.std.ishr) (iwrap := Ops.std.iwrap) (ieq := Ops.std.ieq) (ilt := Ops.std.ilt) (ile := Ops.std.ile) (beq := Ops.std.beq) (seq := Ops.std.seq) (slt := Ops.std.slt) (sapp := Ops.std.sapp) (slen := Ops.std.slen) (sget := Ops.std.sget) (ssub := Ops.std.ssub) (llen := Ops.std.llen) (lget := Ops.std.lget) (lset := Ops.std.lset) (lapp := Ops.std.lapp) (lsub := Ops.std.lsub) (room := Ops.std.room) (call := (lim F pr).call) (loop := (lim F pr).loop) (prim := pr) b36_0 x0_kind x0_n x0_s x0_keys x0_kids x1 r t4o rfl h1 h2 h3

theorem p36_1L (x0_kind : Int) (x0_n : Int) (x0_s : ByteArray) (x0_keys : List AV) (x0_kids : List AV) (x1 : Int) (r : Int) (h1 : (lim F pr).call 47 [.agg [.sc (.int .i64 x0_kind), .sc (.int .i64 x0_n), .sc (.string x0_s), .lit 9 false x0_keys, .lit 32 false x0_kids], .sc (.int .i64 x1)] [] = some (.sc (.int .i64 r), [])) (h2 : Ops.std.ieq r 0 = true) (h3 : (lim F pr).loop [17, 16, 1, 18] 1 b36_0 ⟨[.bad, .sc (.int .i64 x1), .bad, .bad, .bad, .bad, .bad, .bad, .bad, .bad, .bad, .bad, .bad, .bad, .bad, .bad, .lit 32 false x0_kids, .sc (.int .i64 (Ops.std.llen x0_kids)), .sc (.int .i64 0), .bad, .bad, .bad, .bad, .bad, .bad, .bad, .bad, .bad, .bad, .bad], [.box 32 [.sc (.int .i64 x0_kind), .sc (.int .i64 x0_n), .sc (.string x0_s), .lit 9 false x0_keys, .lit 32 false x0_kids]]⟩ = some (.brk 0, ⟨[.bad, .bad, .bad, .bad, .bad, .bad, .bad, .bad, .bad, .bad, .bad, .bad, .bad, .bad, .bad, .bad, .bad, .bad, .bad, .bad, .bad, .bad, .bad, .bad, .bad, .bad, .bad, .bad, .bad, .bad], [.box 32 [.sc (.int .i64 x0_kind), .sc (.int .i64 x0_n), .sc (.string x0_s), .lit 9 false x0_keys, .lit 32 false x0_kids]]⟩)) : runFn (lim F pr) g36 [.agg [.sc (.int .i64 x0_kind), .sc (.int .i64 x0_n), .sc (.string x0_s), .lit 9 false x0_keys, .lit 32 false x0_kids], .sc (.int .i64 x1)] [] = some (.sc (.int .i64 0), []) :=
  p36_1 (iadd := Ops.std.iadd) (isub := Ops.std.isub) (imul := Ops.std.imul) (iquo := Ops.std.iquo) (irem := Ops.std.irem) (ibit := Ops.std.ibit) (ishl := Ops.std.ishl) (ishr := Ops.std.ishr) (iwrap := Ops.std.iwrap) (ieq := Ops.std.ieq) (ilt := Ops.std.ilt) (ile := Ops.std.ile) (beq := Ops.std.beq) (seq := Ops.std.seq) (slt := Ops.std.slt) (sapp := Ops.std.sapp) (slen := Ops.std.slen) (sget := Ops.std.sget) (ssub := Ops.std.ssub) (llen := Ops.std.llen) (lget := Ops.std.lget) (lset := Ops.std.lset) (lapp := Ops.std.lapp) (lsub := Ops.std.lsub) (room := Ops.std.room) (call := (lim F pr).call) (loop := (lim F pr).loop) (prim := pr) b36_0 x0_kind x0_n x0_s x0_keys x0_kids x1 r rfl h1 h2 h3

theorem p36_2L (x0_kind : Int) (x0_n : Int) (x0_s : ByteArray) (x0_keys : List AV) (x0_kids : List AV) (x1 : Int) (r : Int) (h1 : (lim F pr).call 47 [.agg [.sc (.int .i64 x0_kind), .sc (.int .i64 x0_n), .sc (.string x0_s), .lit 9 false x0_keys, .lit 32 false x0_kids], .sc (.int .i64 x1)] [] = some (.sc (.int .i64 r), [])) (h2 : Ops.std.ieq r 0 = false) : runFn (lim F pr) g36 [.agg [.sc (.int .i64 x0_kind), .sc (.int .i64 x0_n), .sc (.string x0_s), .lit 9 false x0_keys, .lit 32 false x0_kids], .sc (.int .i64 x1)] [] = some (.sc (.int .i64 r), []) :=
  p36_2 (iadd := Ops.std.iadd) (isub := Ops.std.isub) (imul := Ops.std.imul) (iquo := Ops.std.iquo) (irem := Ops.std.irem) (ibit := Ops.std.ibit) (ishl := Ops.std.ishl) (ishr := Ops.std.ishr) (iwrap := Ops.std.iwrap) (ieq := Ops.std.ieq) (ilt := Ops.std.ilt) (ile := Ops.std.ile) (beq := Ops.std.beq) (seq := Ops.std.seq) (slt := Ops.std.slt) (sapp := Ops.std.sapp) (slen := Ops.std.slen) (sget := Ops.std.sget) (ssub := Ops.std.ssub) (llen := Ops.std.llen) (lget := Ops.std.lget) (lset := Ops.std.lset) (lapp := Ops.std.lapp) (lsub := Ops.std.lsub) (room := Ops.std.room) (call := (lim F pr).call) (loop := (lim F pr).loop) (prim := pr) b36_0 x0_kind x0_n x0_s x0_keys x0_kids x1 r rfl h1 h2

abbrev W36_0_0 (x0_kind : Int) (x0_n : Int) (x0_s : ByteArray) (x0_keys : List AV) (x0_kids : List AV) (t4o : Int) : X × St := (.ret, ⟨[.bad, .bad, .bad, .bad, .sc (.int .i64 t4o), .bad, .bad, .bad, .bad, .bad, .bad, .bad, .bad, .bad, .bad, .bad, .bad, .bad, .bad, .bad, .bad, .bad, .bad, .bad, .bad, .bad, .bad, .bad, .bad, .bad], [.box 32 [.sc (.int .i64 x0_kind), .sc (.int .i64 x0_n), .sc (.string x0_s), .lit 9 false x0_keys, .lit 32 false x0_kids]]⟩)

abbrev W36_0_1 (x0_kind : Int) (x0_n : Int) (x0_s : ByteArray) (x0_keys : List AV) (x0_kids : List AV) : X × St := (.brk 0, ⟨[.bad, .bad, .bad, .bad, .bad, .bad, .bad, .bad, .bad, .bad, .bad, .bad, .bad, .bad, .bad, .bad, .bad, .bad, .bad, .bad, .bad, .bad, .bad, .bad, .bad, .bad, .bad, .bad, .bad, .bad], [.box 32 [.sc (.int .i64 x0_kind), .sc (.int .i64 x0_n), .sc (.string x0_s), .lit 9 false x0_keys, .lit 32 false x0_kids]]⟩)

abbrev H36_0_0 (x0_kind : Int) (x0_n : Int) (x0_s : ByteArray) (x0_keys : List AV) (x0_kids : List AV) (x1 : Int) (t18 : Int) : St := ⟨[.bad, .sc (.int .i64 x1), .bad, .bad, .bad, .bad, .bad, .bad, .bad, .bad, .bad, .bad, .bad, .bad, .bad, .bad, .lit 32 false x0_kids, .sc (.int .i64 (Ops.std.llen x0_kids)), .sc (.int .i64 t18), .bad, .bad, .bad, .bad, .bad, .bad, .bad, .bad, .bad, .bad, .bad], [.box 32 [.sc (.int .i64 x0_kind), .sc (.int .i64 x0_n), .sc (.string x0_s), .lit 9 false x0_keys, .lit 32 false x0_kids]]⟩

theorem r36_0_0_0L (x0_kind : Int) (x0_n : Int) (x0_s : ByteArray) (x0_keys : List AV) (x0_kids : List AV) (x1 : Int) (t18 : Int) (x_kind : Int) (x_n : Int) (x_s : ByteArray) (x_keys : List AV) (x_kids : List AV) (r1 : Int) (h1 : Ops.std.ilt t18 (Ops.std.llen x0_kids) = true) (h2 : Ops.std.lget x0_kids t18 = some (.agg [.sc (.int .i64 x_kind), .sc (.int .i64 x_n), .sc (.string x_s), .lit 9 false x_keys, .lit 32 false x_kids])) (h3 : (lim F pr).call 36 [.agg [.sc (.int .i64 x_kind), .sc (.int .i64 x_n), .sc (.string x_s), .lit 9 false x_keys, .lit 32 false x_kids], .sc (.int .i64 (Ops.std.iadd .i64 x1 1))] [] = some (.sc (.int .i64 r1), [])) (h4 : Ops.std.ieq r1 0 = true) : Ifc.round (lim F pr) [17, 16, 1, 18] 1 b36_0 ⟨[.bad, .sc (.int .i64 x1), .bad, .bad, .bad, .bad, .bad, .bad, .bad, .bad, .bad, .bad, .bad, .bad, .bad, .bad, .lit 32 false x0_kids, .sc (.int .i64 (Ops.std.llen x0_kids)), .sc (.int .i64 t18), .bad, .bad, .bad, .bad, .bad, .bad, .bad, .bad, .bad, .bad, .bad], [.box 32 [.sc (.int .i64 x0_kind), .sc (.int .i64 x0_n), .sc (.string x0_s), .lit 9 false x0_keys, .lit 32 false x0_kids]]⟩ = (lim F pr).loop [17, 16, 1, 18] 1 b36_0 ⟨[.bad, .sc (.int .i64 x1), .bad, .bad, .bad, .bad, .bad, .bad, .bad, .bad, .bad, .bad, .bad, .bad, .bad, .bad, .lit 32 false x0_kids, .sc (.int .i64 (Ops.std.llen x0_kids)), .sc (.int .i64 (Ops.std.iadd .i64 t18 1)), .bad, .bad, .bad, .bad, .bad, .bad, .bad, .bad, .bad, .bad, .bad], [.box 32 [.sc (.int .i64 x0_kind), .sc (.int .i64 x0_n), .sc (.string x0_s), .lit 9 false x0_keys, .lit 32 false x0_kids]]⟩ :=
  r36_0_0_0 (iadd := Ops.std.iadd) (isub := Ops.std.isub) (imul := Ops.std.imul) (iquo := Ops.std.iquo) (irem := Ops.std.irem) (ibit := Ops.std.ibit) (ishl := Ops.std.ishl) (ishr := Ops.std.ishr) (iwrap := Ops.std.iwrap) (ieq := Ops.std.ieq) (ilt := Ops.std.ilt) (ile := Ops.std.ile) (beq := Ops.std.beq) (seq := Ops.std.seq) (slt := Ops.std.slt) (sapp := Ops.std.sapp) (slen := Ops.std.slen) (sget := Ops.std.sget) (ssub := Ops.std.ssub) (llen := Ops.std.llen) (lget := Ops.std.lget) (lset := Ops.std.lset) (lapp := Ops.std.lapp) (lsub := Ops.std.lsub) (room := Ops.std.room) (call := (lim F pr).call) (loop := (lim F pr).loop) (prim := pr)  x0_kind x0_n x0_s x0_keys x0_kids x1 t18 x_kind x_n x_s x_keys x_kids r1 rfl h1 h2 h3 h4

theorem r36_0_0_1L (x0_kind : Int) (x0_n : Int) (x0_s : ByteArray) (x0_keys : List AV) (x0_kids : List AV) (x1 : Int) (t18 : Int) (x_kind : Int) (x_n : Int) (x_s : ByteArray) (x_keys : List AV) (x_kids : List AV) (r1 : Int) (h1 : Ops.std.ilt t18 (Ops.std.llen x0_kids) = true) (h2 : Ops.std.lget x0_kids t18 = some (.agg [.sc (.int .i64 x_kind), .sc (.int .i64 x_n), .sc (.string x_s), .lit 9 false x_keys, .lit 32 false x_kids])) (h3 : (lim F pr).call 36 [.agg [.sc (.int .i64 x_kind), .sc (.int .i64 x_n), .sc (.string x_s), .lit 9 false x_keys, .lit 32 false x_kids], .sc (.int .i64 (Ops.std.iadd .i64 x1 1))] [] = some (.sc (.int .i64 r1), [])) (h4 : Ops.std.ieq r1 0 = false) : Ifc.round (lim F pr) [17, 16, 1, 18] 1 b36_0 ⟨[.bad, .sc (.int .i64 x1), .bad, .bad, .bad, .bad, .bad, .bad, .bad, .bad, .bad, .bad, .bad, .bad, .bad, .bad, .lit 32 false x0_kids, .sc (.int .i64 (Ops.std.llen x0_kids)), .sc (.int .i64 t18), .bad, .bad, .bad, .bad, .bad, .bad, .bad, .bad, .bad, .bad, .bad], [.box 32 [.sc (.int .i64 x0_kind), .sc (.int .i64 x0_n), .sc (.string x0_s), .lit 9 false x0_keys, .lit 32 false x0_kids]]⟩ = some (.ret, ⟨[.bad, .bad, .bad, .bad, .sc (.int .i64 r1), .bad, .bad, .bad, .bad, .bad, .bad, .bad, .bad, .bad, .bad, .bad, .bad, .bad, .bad, .bad, .bad, .bad, .bad, .bad, .bad, .bad, .bad, .bad, .bad, .bad], [.box 32 [.sc (.int .i64 x0_kind), .sc (.int .i64 x0_n), .sc (.string x0_s), .lit 9 false x0_keys, .lit 32 false x0_kids]]⟩) :=
  r36_0_0_1 (iadd := Ops.std.iadd) (isub := Ops.std.isub) (imul := Ops.std.imul) (iquo := Ops.std.iquo) (irem := Ops.std.irem) (ibit := Ops.std.ibit) (ishl := Ops.std.ishl) (ishr := Ops.std.ishr) (iwrap := Ops.std.iwrap) (ieq := Ops.std.ieq) (ilt := Ops.std.ilt) (ile := Ops.std.ile) (beq := Ops.std.beq) (seq := Ops.std.seq) (slt := Ops.std.slt) (sapp := Ops.std.sapp) (slen := Ops.std.slen) (sget := Ops.std.sget) (ssub := Ops.std.ssub) (llen := Ops.std.llen) (lget := Ops.std.lget) (lset := Ops.std.lset) (lapp := Ops.std.lapp) (lsub := Ops.std.lsub) (room := Ops.std.room) (call := (lim F pr).call) (loop := (lim F pr).loop) (prim := pr)  x0_kind x0_n x0_s x0_keys x0_kids x1 t18 x_kind x_n x_s x_keys x_kids r1 rfl h1 h2 h3 h4

theorem r36_0_0_2L (x0_kind : Int) (x0_n : Int) (x0_s : ByteArray) (x0_keys : List AV) (x0_kids : List AV) (x1 : Int) (t18 : Int) (h1 : Ops.std.ilt t18 (Ops.std.llen x0_kids) = false) : Ifc.round (lim F pr) [17, 16, 1, 18] 1 b36_0 ⟨[.bad, .sc (.int .i64 x1), .bad, .bad, .bad, .bad, .bad, .bad, .bad, .bad, .bad, .bad, .bad, .bad, .bad, .bad, .lit 32 false x0_kids, .sc (.int .i64 (Ops.std.llen x0_kids)), .sc (.int .i64 t18), .bad, .bad, .bad, .bad, .bad, .bad, .bad, .bad, .bad, .bad, .bad], [.box 32 [.sc (.int .i64 x0_kind), .sc (.int .i64 x0_n), .sc (.string x0_s), .lit 9 false x0_keys, .lit 32 false x0_kids]]⟩ = some (.brk 0, ⟨[.bad, .bad, .bad, .bad, .bad, .bad, .bad, .bad, .bad, .bad, .bad, .bad, .bad, .bad, .bad, .bad, .bad, .bad, .bad, .bad, .bad, .bad, .bad, .bad, .bad, .bad, .bad, .bad, .bad, .bad], [.box 32 [.sc (.int .i64 x0_kind), .sc (.int .i64 x0_n), .sc (.string x0_s), .lit 9 false x0_keys, .lit 32 false x0_kids]]⟩) :=
  r36_0_0_2 (iadd := Ops.std.iadd) (isub := Ops.std.isub) (imul := Ops.std.imul) (iquo := Ops.std.iquo) (irem := Ops.std.irem) (ibit := Ops.std.ibit) (ishl := Ops.std.ishl) (ishr := Ops.std.ishr) (iwrap := Ops.std.iwrap) (ieq := Ops.std.ieq) (ilt := Ops.std.ilt) (ile := Ops.std.ile) (beq := Ops.std.beq) (seq := Ops.std.seq) (slt := Ops.std.slt) (sapp := Ops.std.sapp) (slen := Ops.std.slen) (sget := Ops.std.sget) (ssub := Ops.std.ssub) (llen := Ops.std.llen) (lget := Ops.std.lget) (lset := Ops.std.lset) (lapp := Ops.std.lapp) (lsub := Ops.std.lsub) (room := Ops.std.room) (call := (lim F pr).call) (loop := (lim F pr).loop) (prim := pr)  x0_kind x0_n x0_s x0_keys x0_kids x1 t18  h1

theorem p37_0L (x0_kind : Int) (x0_n : Int) (x0_s : ByteArray) (x0_keys : List AV) (x0_kids : List AV) (x1 : Int) (h1 : Ops.std.ilt 7 x1 = true) : runFn (lim F pr) g37 [.agg [.sc (.int .i64 x0_kind), .sc (.int .i64 x0_n), .sc (.string x0_s), .lit 9 false x0_keys, .lit 32 false x0_kids], .sc (.int .i64 x1)] [] = some (.sc (.int .i64 6), []) :=
  p37_0 (iadd := Ops.std.iadd) (isub := Ops.std.isub) (imul := Ops.std.imul) (iquo := Ops.std.iquo) (irem := Ops.std.irem) (ibit := Ops.std.ibit) (ishl := Ops.std.ishl) (ishr := Ops.std.ishr) (iwrap := Ops.std.iwrap) (ieq := Ops.std.ieq) (ilt := Ops.std.ilt) (ile := Ops.std.ile) (beq := Ops.std.beq) (seq := Ops.std.seq) (slt := Ops.std.slt) (sapp := Ops.std.sapp) (slen := Ops.std.slen) (sget := Ops.std.sget) (ssub := Ops.std.ssub) (llen := Ops.std.llen) (lget := Ops.std.lget) (lset := Ops.std.lset) (lapp := Ops.std.lapp) (lsub := Ops.std.lsub) (room := Ops.std.room) (call := (lim F pr).call) (loop := (lim F pr).loop) (prim := pr) b37_0 b37_1 x0_kind x0_n x0_s x0_keys x0_kids x1  h1

theorem p37_1L (x0_kind : Int) (x0_n : Int) (x0_s : ByteArray) (x0_keys : List AV) (x0_kids : List AV) (x1 : Int) (h1 : Ops.std.ilt 7 x1 = false) (h2 : Ops.std.ilt x0_kind 1 = true) : runFn (lim F pr) g37 [.agg [.sc (.int .i64 x0_kind), .sc (.int .i64 x0_n), .sc (.string x0_s), .lit 9 false x0_keys, .lit 32 false x0_kids], .sc (.int .i64 x1)] [] = some (.sc (.int .i64 9), []) :=
  p37_1 (iadd := Ops.std.iadd) (isub := Ops.std.isub) (imul := Ops.std.imul) (iquo := Ops.std.iquo) (irem := Ops.std.irem) (ibit := Ops.std.ibit) (ishl := Ops.std.ishl) (ishr := Ops.std.ishr) (iwrap := Ops.std.iwrap) (ieq := Ops.std.ieq) (ilt := Ops.std.ilt) (ile := Ops.std.ile) (beq := Ops.std.beq) (seq := Ops.std.seq) (slt := Ops.std.slt) (sapp := Ops.std.sapp) (slen := Ops.std.slen) (sget := Ops.std.sget) (ssub := Ops.std.ssub) (llen := Ops.std.llen) (lget := Ops.std.lget) (lset := Ops.std.lset) (lapp := Ops.std.lapp) (lsub := Ops.std.lsub) (room := Ops.std.room) (call := (lim F pr).call) (loop := (lim F pr).loop) (prim := pr) b37_0 b37_1 x0_kind x0_n x0_s x0_keys x0_kids x1  h1 h2

theorem p37_2L (x0_kind : Int) (x0_n : Int) (x0_s : ByteArray) (x0_keys : List AV) (x0_kids : List AV) (x1 : Int) (h1 : Ops.std.ilt 7 x1 = false) (h2 : Ops.std.ilt x0_kind 1 = false) (h3 : Ops.std.ilt 4 x0_kind = true) : runFn (lim F pr) g37 [.agg [.sc (.int .i64 x0_kind), .sc (.int .i64 x0_n), .sc (.string x0_s), .lit 9 false x0_keys, .lit 32 false x0_kids], .sc (.int .i64 x1)] [] = some (.sc (.int .i64 9), []) :=
  p37_2 (iadd := Ops.std.iadd) (isub := Ops.std.isub) (imul := Ops.std.imul) (iquo := Ops.std.iquo) (irem := Ops.std.irem) (ibit := Ops.std.ibit) (ishl := Ops.std.ishl) (ishr := Ops.std.ishr) (iwrap := Ops.std.iwrap) (ieq := Ops.std.ieq) (ilt := Ops.std.ilt) (ile := Ops.std.ile) (beq := Ops.std.beq) (seq := Ops.std.seq) (slt := Ops.std.slt) (sapp := Ops.std.sapp) (slen := Ops.std.slen) (sget := Ops.std.sget) (ssub := Ops.std.ssub) (llen := Ops.std.llen) (lget := Ops.std.lget) (lset := Ops.std.lset) (lapp := Ops.std.lapp) (lsub := Ops.std.lsub) (room := Ops.std.room) (call := (lim F pr).call) (loop := (lim F pr).loop) (prim := pr) b37_0 b37_1 x0_kind x0_n x0_s x0_keys x0_kids x1  h1 h2 h3

theorem p37_3L (x0_kind : Int) (x0_n : Int) (x0_s : ByteArray) (x0_keys : List AV) (x0_kids : List AV) (x1 : Int) (r : Bool) (h1 : Ops.std.ilt 7 x1 = false) (h2 : Ops.std.ilt x0_kind 1 = false) (h3 : Ops.std.ilt 4 x0_kind = false) (h4 : (lim F pr).call 48 [.agg [.sc (.int .i64 x0_kind), .sc (.int .i64 x0_n), .sc (.string x0_s), .lit 9 false x0_keys, .lit 32 false x0_kids]] [] = some (.sc (.bool r), [])) (h5 : r = true) : runFn (lim F pr) g37 [.agg [.sc (.int .i64 x0_kind), .sc (.int .i64 x0_n), .sc (.string x0_s), .lit 9 false x0_keys, .lit 32 false x0_kids], .sc (.int .i64 x1)] [] = some (.sc (.int .i64 1), []) :=
  p37_3 (iadd := Ops.std.iadd) (isub := Ops.std.isub) (imul := Ops.std.imul) (iquo := Ops.std.iquo) (irem := Ops.std.irem) (ibit := Ops.std.ibit) (ishl := Ops.std.ishl) (ishr := Ops.std.ishr) (iwrap := Ops.std.iwrap) (ieq := Ops.std.ieq) (ilt := Ops.std.ilt) (ile := Ops.std.ile) (beq := Ops.std.beq) (seq := Ops.std.seq) (slt := Ops.std.slt) (sapp := Ops.std.sapp) (slen := Ops.std.slen) (sget := Ops.std.sget) (ssub := Ops.std.ssub) (llen := Ops.std.llen) (lget := Ops.std.lget) (lset := Ops.std.lset) (lapp := Ops.std.lapp) (lsub := Ops.std.lsub) (room := Ops.std.room) (call := (lim F pr).call) (loop := (lim F pr).loop) (prim := pr) b37_0 b37_1 x0_kind x0_n x0_s x0_keys x0_kids x1 r rfl h1 h2 h3 h4 h5

theorem p37_4L (x0_kind : Int) (x0_n : Int) (x0_s : ByteArray) (x0_keys : List AV) (x0_kids : List AV) (x1 : Int) (r : Bool) (t5o : Bool) (t6o : Bool) (h1 : Ops.std.ilt 7 x1 = false) (h2 : Ops.std.ilt x0_kind 1 = false) (h3 : Ops.std.ilt 4 x0_kind = false) (h4 : (lim F pr).call 48 [.agg [.sc (.int .i64 x0_kind), .sc (.int .i64 x0_n), .sc (.string x0_s), .lit 9 false x0_keys, .lit 32 false x0_kids]] [] = some (.sc (.bool r), [])) (h5 : r = false) (h6 : (lim F pr).loop [7, 5, 6, 2, 1] 1 b37_0 ⟨[.bad, .sc (.int .i64 x1), .bptr 0 0, .bad, .bad, .sc (.bool (Ops.std.ilt 1048576 (Ops.std.slen x0_s))), .sc (.bool false), .sc (.int .i64 0), .bad, .bad, .bad, .bad, .bad, .bad, .bad, .bad, .bad, .bad, .bad, .bad, .bad, .bad, .bad, .bad, .bad, .bad, .bad, .bad, .bad, .bad, .bad, .bad, .bad, .bad, .bad, .bad, .bad, .bad, .bad, .bad, .bad, .bad, .bad, .bad, .bad, .bad, .bad, .bad, .bad, .bad, .bad, .bad, .bad, .bad, .bad, .bad, .bad, .bad, .bad, .bad, .bad, .bad, .bad, .bad, .bad, .bad, .bad, .bad, .bad, .bad, .bad, .bad, .bad, .bad, .bad, .bad, .bad, .bad, .bad, .bad, .bad, .bad, .bad], [.box 32 [.sc (.int .i64 x0_kind), .sc (.int .i64 x0_n), .sc (.string x0_s), .lit 9 false x0_keys, .lit 32 false x0_kids]]⟩ = some (.brk 0, ⟨[.bad, .sc (.int .i64 x1), .bptr 0 0, .bad, .bad, .sc (.bool t5o), .sc (.bool t6o), .bad, .bad, .bad, .bad, .bad, .bad, .bad, .bad, .bad, .bad, .bad, .bad, .bad, .bad, .bad, .bad, .bad, .bad, .bad, .bad, .bad, .bad, .bad, .bad, .bad, .bad, .bad, .bad, .bad, .bad, .bad, .bad, .bad, .bad, .bad, .bad, .bad, .bad, .bad, .bad, .bad, .bad, .bad, .bad, .bad, .bad, .bad, .bad, .bad, .bad, .bad, .bad, .bad, .bad, .bad, .bad, .bad, .bad, .bad, .bad, .bad, .bad, .bad, .bad, .bad, .bad, .bad, .bad, .bad, .bad, .bad, .bad, .bad, .bad, .bad, .bad], [.box 32 [.sc (.int .i64 x0_kind), .sc (.int .i64 x0_n), .sc (.string x0_s), .lit 9 false x0_keys, .lit 32 false x0_kids]]⟩)) (h7 : t5o = true) : runFn (lim F pr) g37 [.agg [.sc (.int .i64 x0_kind), .sc (.int .i64 x0_n), .sc (.string x0_s), .lit 9 false x0_keys, .lit 32 false x0_kids], .sc (.int .i64 x1)] [] = some (.sc (.int .i64 5), []) :=
  p37_4 (iadd := Ops.std.iadd) (isub := Ops.std.isub) (imul := Ops.std.imul) (iquo := Ops.std.iquo) (irem := Ops.std.irem) (ibit := Ops.std.ibit) (ishl := Ops.std.ishl) (ishr := Ops.std.ishr) (iwrap := Ops.std.iwrap) (ieq := Ops.std.ieq) (ilt := Ops.std.ilt) (ile := Ops.std.ile) (beq := Ops.std.beq) (seq := Ops.std.seq) (slt := Ops.std.slt) (sapp := Ops.std.sapp) (slen := Ops.std.slen) (sget := Ops.std.sget) (ssub := Ops.std.ssub) (llen := Ops.std.llen) (lget := Ops.std.lget) (lset := Ops.std.lset) (lapp := Ops.std.lapp) (lsub := Ops.std.lsub) (room := Ops.std.room) (call := (lim F pr).call) (loop := (lim F pr).loop) (prim := pr) b37_0 b37_1 x0_kind x0_n x0_s x0_keys x0_kids x1 r t5o t6o rfl h1 h2 h3 h4 h5 h6 h7

theorem p37_5L (x0_kind : Int) (x0_n : Int) (x0_s : ByteArray) (x0_keys : List AV) (x0_kids : List AV) (x1 : Int) (r : Bool) (t5o : Bool) (t6o : Bool) (h1 : Ops.std.ilt 7 x1 = false) (h2 : Ops.std.ilt x0_kind 1 = false) (h3 : Ops.std.ilt 4 x0_kind = false) (h4 : (lim F pr).call 48 [.agg [.sc (.int .i64 x0_kind), .sc (.int .i64 x0_n), .sc (.string x0_s), .lit 9 false x0_keys, .lit 32 false x0_kids]] [] = some (.sc (.bool r), [])) (h5 : r = false) (h6 : (lim F pr).loop [7, 5, 6, 2, 1] 1 b37_0 ⟨[.bad, .sc (.int .i64 x1), .bptr 0 0, .bad, .bad, .sc (.bool (Ops.std.ilt 1048576 (Ops.std.slen x0_s))), .sc (.bool false), .sc (.int .i64 0), .bad, .bad, .bad, .bad, .bad, .bad, .bad, .bad, .bad, .bad, .bad, .bad, .bad, .bad, .bad, .bad, .bad, .bad, .bad, .bad, .bad, .bad, .bad, .bad, .bad, .bad, .bad, .bad, .bad, .bad, .bad, .bad, .bad, .bad, .bad, .bad, .bad, .bad, .bad, .bad, .bad, .bad, .bad, .bad, .bad, .bad, .bad, .bad, .bad, .bad, .bad, .bad, .bad, .bad, .bad, .bad, .bad, .bad, .bad, .bad, .bad, .bad, .bad, .bad, .bad, .bad, .bad, .bad, .bad, .bad, .bad, .bad, .bad, .bad, .bad], [.box 32 [.sc (.int .i64 x0_kind), .sc (.int .i64 x0_n), .sc (.string x0_s), .lit 9 false x0_keys, .lit 32 false x0_kids]]⟩ = some (.brk 0, ⟨[.bad, .sc (.int .i64 x1), .bptr 0 0, .bad, .bad, .sc (.bool t5o), .sc (.bool t6o), .bad, .bad, .bad, .bad, .bad, .bad, .bad, .bad, .bad, .bad, .bad, .bad, .bad, .bad, .bad, .bad, .bad, .bad, .bad, .bad, .bad, .bad, .bad, .bad, .bad, .bad, .bad, .bad, .bad, .bad, .bad, .bad, .bad, .bad, .bad, .bad, .bad, .bad, .bad, .bad, .bad, .bad, .bad, .bad, .bad, .bad, .bad, .bad, .bad, .bad, .bad, .bad, .bad, .bad, .bad, .bad, .bad, .bad, .bad, .bad, .bad, .bad, .bad, .bad, .bad, .bad, .bad, .bad, .bad, .bad, .bad, .bad, .bad, .bad, .bad, .bad], [.box 32 [.sc (.int .i64 x0_kind), .sc (.int .i64 x0_n), .sc (.string x0_s), .lit 9 false x0_keys, .lit 32 false x0_kids]]⟩)) (h7 : t5o = false) (h8 : t6o = true) : runFn (lim F pr) g37 [.agg [.sc (.int .i64 x0_kind), .sc (.int .i64 x0_n), .sc (.string x0_s), .lit 9 false x0_keys, .lit 32 false x0_kids], .sc (.int .i64 x1)] [] = some (.sc (.int .i64 3), []) :=
  p37_5 (iadd := Ops.std.iadd) (isub := Ops.std.isub) (imul := Ops.std.imul) (iquo := Ops.std.iquo) (irem := Ops.std.irem) (ibit := Ops.std.ibit) (ishl := Ops.std.ishl) (ishr := Ops.std.ishr) (iwrap := Ops.std.iwrap) (ieq := Ops.std.ieq) (ilt := Ops.std.ilt) (ile := Ops.std.ile) (beq := Ops.std.beq) (seq := Ops.std.seq) (slt := Ops.std.slt) (sapp := Ops.std.sapp) (slen := Ops.std.slen) (sget := Ops.std.sget) (ssub := Ops.std.ssub) (llen := Ops.std.llen) (lget := Ops.std.lget) (lset := Ops.std.lset) (lapp := Ops.std.lapp) (lsub := Ops.std.lsub) (room := Ops.std.room) (call := (lim F pr).call) (loop := (lim F pr).loop) (prim := pr) b37_0 b37_1 x0_kind x0_n x0_s x0_keys x0_kids x1 r t5o t6o rfl h1 h2 h3 h4 h5 h6 h7 h8

theorem p37_6L (x0_kind : Int) (x0_n : Int) (x0_s : ByteArray) (x0_keys : List AV) (x0_kids : List AV) (x1 : Int) (r : Bool) (t5o : Bool) (t6o : Bool) (t4o : Int) (h1 : Ops.std.ilt 7 x1 = false) (h2 : Ops.std.ilt x0_kind 1 = false) (h3 : Ops.std.ilt 4 x0_kind = false) (h4 : (lim F pr).call 48 [.agg [.sc (.int .i64 x0_kind), .sc (.int .i64 x0_n), .sc (.string x0_s), .lit 9 false x0_keys, .lit 32 false x0_kids]] [] = some (.sc (.bool r), [])) (h5 : r = false) (h6 : (lim F pr).loop [7, 5, 6, 2, 1] 1 b37_0 ⟨[.bad, .sc (.int .i64 x1), .bptr 0 0, .bad, .bad, .sc (.bool (Ops.std.ilt 1048576 (Ops.std.slen x0_s))), .sc (.bool false), .sc (.int .i64 0), .bad, .bad, .bad, .bad, .bad, .bad, .bad, .bad, .bad, .bad, .bad, .bad, .bad, .bad, .bad, .bad, .bad, .bad, .bad, .bad, .bad, .bad, .bad, .bad, .bad, .bad, .bad, .bad, .bad, .bad, .bad, .bad, .bad, .bad, .bad, .bad, .bad, .bad, .bad, .bad, .bad, .bad, .bad, .bad, .bad, .bad, .bad, .bad, .bad, .bad, .bad, .bad, .bad, .bad, .bad, .bad, .bad, .bad, .bad, .bad, .bad, .bad, .bad, .bad, .bad, .bad, .bad, .bad, .bad, .bad, .bad, .bad, .bad, .bad, .bad], [.box 32 [.sc (.int .i64 x0_kind), .sc (.int .i64 x0_n), .sc (.string x0_s), .lit 9 false x0_keys, .lit 32 false x0_kids]]⟩ = some (.brk 0, ⟨[.bad, .sc (.int .i64 x1), .bptr 0 0, .bad, .bad, .sc (.bool t5o), .sc (.bool t6o), .bad, .bad, .bad, .bad, .bad, .bad, .bad, .bad, .bad, .bad, .bad, .bad, .bad, .bad, .bad, .bad, .bad, .bad, .bad, .bad, .bad, .bad, .bad, .bad, .bad, .bad, .bad, .bad, .bad, .bad, .bad, .bad, .bad, .bad, .bad, .bad, .bad, .bad, .bad, .bad, .bad, .bad, .bad, .bad, .bad, .bad, .bad, .bad, .bad, .bad, .bad, .bad, .bad, .bad, .bad, .bad, .bad, .bad, .bad, .bad, .bad, .bad, .bad, .bad, .bad, .bad, .bad, .bad, .bad, .bad, .bad, .bad, .bad, .bad, .bad, .bad], [.box 32 [.sc (.int .i64 x0_kind), .sc (.int .i64 x0_n), .sc (.string x0_s), .lit 9 false x0_keys, .lit 32 false x0_kids]]⟩)) (h7 : t5o = false) (h8 : t6o = false) (h9 : (lim F pr).loop [2, 1, 8] 1 b37_1 ⟨[.bad, .sc (.int .i64 x1), .bptr 0 0, .bad, .bad, .bad, .bad, .bad, .sc (.int .i64 0), .bad, .bad, .bad, .bad, .bad, .bad, .bad, .bad, .bad, .bad, .bad, .bad, .bad, .bad, .bad, .bad, .bad, .bad, .bad, .bad, .bad, .bad, .bad, .bad, .bad, .bad, .bad, .bad, .bad, .bad, .bad, .bad, .bad, .bad, .bad, .bad, .bad, .bad, .bad, .bad, .bad, .bad, .bad, .bad, .bad, .bad, .bad, .bad, .bad, .bad, .bad, .bad, .bad, .bad, .bad, .bad, .bad, .bad, .bad, .bad, .bad, .bad, .bad, .bad, .bad, .bad, .bad, .bad, .bad, .bad, .bad, .bad, .bad, .bad], [.box 32 [.sc (.int .i64 x0_kind), .sc (.int .i64 x0_n), .sc (.string x0_s), .lit 9 false x0_keys, .lit 32 false x0_kids]]⟩ = some (.ret, ⟨[.bad, .bad, .bad, .bad, .sc (.int .i64 t4o), .bad, .bad, .bad, .bad, .bad, .bad, .bad, .bad, .bad, .bad, .bad, .bad, .bad, .bad, .bad, .bad, .bad, .bad, .bad, .bad, .bad, .bad, .bad, .bad, .bad, .bad, .bad, .bad, .bad, .bad, .bad, .bad, .bad, .bad, .bad, .bad, .bad, .bad, .bad, .bad, .bad, .bad, .bad, .bad, .bad, .bad, .bad, .bad, .bad, .bad, .bad, .bad, .bad, .bad, .bad, .bad, .bad, .bad, .bad, .bad, .bad, .bad, .bad, .bad, .bad, .bad, .bad, .bad, .bad, .bad, .bad, .bad, .bad, .bad, .bad, .bad, .bad, .bad], [.box 32 [.sc (.int .i64 x0_kind), .sc (.int .i64 x0_n), .sc (.string x0_s), .lit 9 false x0_keys, .lit 32 false x0_kids]]⟩)) : runFn (lim F pr) g37 [.agg [.sc (.int .i64 x0_kind), .sc (.int .i64 x0_n), .sc (.string x0_s), .lit 9 false x0_keys, .lit 32 false x0_kids], .sc (.int .i64 x1)] [] = some (.sc (.int .i64 t4o), []) :=
  p37_6 (iadd := Ops.std.iadd) (isub := Ops.std.isub) (imul := Ops.std.imul) (iquo := Ops.std.iquo) (irem := Ops.std.irem) (ibit := Ops.std.ibit) (ishl := Ops.std.ishl) (ishr := Ops.std.ishr) (iwrap := Ops.std.iwrap) (ieq := Ops.std.ieq) (ilt := Ops.std.ilt) (ile := Ops.std.ile) (beq := Ops.std.beq) (seq := Ops.std.seq) (slt := Ops.std.slt) (sapp := Ops.std.sapp) (slen := Ops.std.slen) (sget := Ops.std.sget) (ssub := Ops.std.ssub) (llen := Ops.std.llen) (lget := Ops.std.lget) (lset := Ops.std.lset) (lapp := Ops.std.lapp) (lsub := Ops.std.lsub) (room := Ops.std.room) (call := (lim F pr).call) (loop := (lim F pr).loop) (prim := pr) b37_0 b37_1 x0_kind x0_n x0_s x0_keys x0_kids x1 r t5o t6o t4o rfl h1 h2 h3 h4 h5 h6 h7 h8 h9

theorem p37_7L (x0_kind : Int) (x0_n : Int) (x0_s : ByteArray) (x0_keys : List AV) (x0_kids : List AV) (x1 : Int) (r : Bool) (t5o : Bool) (t6o : Bool) (h1 : Ops.std.ilt 7 x1 = false) (h2 : Ops.std.ilt x0_kind 1 = false) (h3 : Ops.std.ilt 4 x0_kind = false) (h4 : (lim F pr).call 48 [.agg [.sc (.int .i64 x0_kind), .sc (.int .i64 x0_n), .sc (.string x0_s), .lit 9 false x0_keys, .lit 32 false x0_kids]] [] = some (.sc (.bool r), [])) (h5 : r = false) (h6 : (lim F pr).loop [7, 5, 6, 2, 1] 1 b37_0 ⟨[.bad, .sc (.int .i64 x1), .bptr 0 0, .bad, .bad, .sc (.bool (Ops.std.ilt 1048576 (Ops.std.slen x0_s))), .sc (.bool false), .sc (.int .i64 0), .bad, .bad, .bad, .bad, .bad, .bad, .bad, .bad, .bad, .bad, .bad, .bad, .bad, .bad, .bad, .bad, .bad, .bad, .bad, .bad, .bad, .bad, .bad, .bad, .bad, .bad, .bad, .bad, .bad, .bad, .bad, .bad, .bad, .bad, .bad, .bad, .bad, .bad, .bad, .bad, .bad, .bad, .bad, .bad, .bad, .bad, .bad, .bad, .bad, .bad, .bad, .bad, .bad, .bad, .bad, .bad, .bad, .bad, .bad, .bad, .bad, .bad, .bad, .bad, .bad, .bad, .bad, .bad, .bad, .bad, .bad, .bad, .bad, .bad, .bad], [.box 32 [.sc (.int .i64 x0_kind), .sc (.int .i64 x0_n), .sc (.string x0_s), .lit 9 false x0_keys, .lit 32 false x0_kids]]⟩ = some (.brk 0, ⟨[.bad, .sc (.int .i64 x1), .bptr 0 0, .bad, .bad, .sc (.bool t5o), .sc (.bool t6o), .bad, .bad, .bad, .bad, .bad, .bad, .bad, .bad, .bad, .bad, .bad, .bad, .bad, .bad, .bad, .bad, .bad, .bad, .bad, .bad, .bad, .bad, .bad, .bad, .bad, .bad, .bad, .bad, .bad, .bad, .bad, .bad, .bad, .bad, .bad, .bad, .bad, .bad, .bad, .bad, .bad, .bad, .bad, .bad, .bad, .bad, .bad, .bad, .bad, .bad, .bad, .bad, .bad, .bad, .bad, .bad, .bad, .bad, .bad, .bad, .bad, .bad, .bad, .bad, .bad, .bad, .bad, .bad, .bad, .bad, .bad, .bad, .bad, .bad, .bad, .bad], [.box 32 [.sc (.int .i64 x0_kind), .sc (.int .i64 x0_n), .sc (.string x0_s), .lit 9 false x0_keys, .lit 32 false x0_kids]]⟩)) (h7 : t5o = false) (h8 : t6o = false) (h9 : (lim F pr).loop [2, 1, 8] 1 b37_1 ⟨[.bad, .sc (.int .i64 x1), .bptr 0 0, .bad, .bad, .bad, .bad, .bad, .sc (.int .i64 0), .bad, .bad, .bad, .bad, .bad, .bad, .bad, .bad, .bad, .bad, .bad, .bad, .bad, .bad, .bad, .bad, .bad, .bad, .bad, .bad, .bad, .bad, .bad, .bad, .bad, .bad, .bad, .bad, .bad, .bad, .bad, .bad, .bad, .bad, .bad, .bad, .bad, .bad, .bad, .bad, .bad, .bad, .bad, .bad, .bad, .bad, .bad, .bad, .bad, .bad, .bad, .bad, .bad, .bad, .bad, .bad, .bad, .bad, .bad, .bad, .bad, .bad, .bad, .bad, .bad, .bad, .bad, .bad, .bad, .bad, .bad, .bad, .bad, .bad], [.box 32 [.sc (.int .i64 x0_kind), .sc (.int .i64 x0_n), .sc (.string x0_s), .lit 9 false x0_keys, .lit 32 false x0_kids]]⟩ = some (.brk 2, ⟨[.bad, .bad, .bad, .bad, .bad, .bad, .bad, .bad, .bad, .bad, .bad, .bad, .bad, .bad, .bad, .bad, .bad, .bad, .bad, .bad, .bad, .bad, .bad, .bad, .bad, .bad, .bad, .bad, .bad, .bad, .bad, .bad, .bad, .bad, .bad, .bad, .bad, .bad, .bad, .bad, .bad, .bad, .bad, .bad, .bad, .bad, .bad, .bad, .bad, .bad, .bad, .bad, .bad, .bad, .bad, .bad, .bad, .bad, .bad, .bad, .bad, .bad, .bad, .bad, .bad, .bad, .bad, .bad, .bad, .bad, .bad, .bad, .bad, .bad, .bad, .bad, .bad, .bad, .bad, .bad, .bad, .bad, .bad], [.box 32 [.sc (.int .i64 x0_kind), .sc (.int .i64 x0_n), .sc (.string x0_s), .lit 9 false x0_keys, .lit 32 false x0_kids]]⟩)) : runFn (lim F pr) g37 [.agg [.sc (.int .i64 x0_kind), .sc (.int .i64 x0_n), .sc (.string x0_s), .lit 9 false x0_keys, .lit 32 false x0_kids], .sc (.int .i64 x1)] [] = some (.sc (.int .i64 0), []) :=
  p37_7 (iadd := Ops.std.iadd) (isub := Ops.std.isub) (imul := Ops.std.imul) (iquo := Ops.std.iquo) (irem := Ops.std.irem) (ibit := Ops.std.ibit) (ishl := Ops.std.ishl) (ishr := Ops.std.ishr) (iwrap := Ops.std.iwrap) (ieq := Ops.std.ieq) (ilt := Ops.std.ilt) (ile := Ops.std.ile) (beq := Ops.std.beq) (seq := Ops.std.seq) (slt := Ops.std.slt) (sapp := Ops.std.sapp) (slen := Ops.std.slen) (sget := Ops.std.sget) (ssub := Ops.std.ssub) (llen := Ops.std.llen) (lget := Ops.std.lget) (lset := Ops.std.lset) (lapp := Ops.std.lapp) (lsub := Ops.std.lsub) (room := Ops.std.room) (call := (lim F pr).call) (loop := (lim F pr).loop) (prim := pr) b37_0 b37_1 x0_kind x0_n x0_s x0_keys x0_kids x1 r t5o t6o rfl h1 h2 h3 h4 h5 h6 h7 h8 h9

abbrev W37_0_0 (x0_kind : Int) (x0_n : Int) (x0_s : ByteArray) (x0_keys : List AV) (x0_kids : List AV) (x1 : Int) (t5o : Bool) (t6o : Bool) : X × St := (.brk 0, ⟨[.bad, .sc (.int .i64 x1), .bptr 0 0, .bad, .bad, .sc (.bool t5o), .sc (.bool t6o), .bad, .bad, .bad, .bad, .bad, .bad, .bad, .bad, .bad, .bad, .bad, .bad, .bad, .bad, .bad, .bad, .bad, .bad, .bad, .bad, .bad, .bad, .bad, .bad, .bad, .bad, .bad, .bad, .bad, .bad, .bad, .bad, .bad, .bad, .bad, .bad, .bad, .bad, .bad, .bad, .bad, .bad, .bad, .bad, .bad, .bad, .bad, .bad, .bad, .bad, .bad, .bad, .bad, .bad, .bad, .bad, .bad, .bad, .bad, .bad, .bad, .bad, .bad, .bad, .bad, .bad, .bad, .bad, .bad, .bad, .bad, .bad, .bad, .bad, .bad, .bad], [.box 32 [.sc (.int .i64 x0_kind), .sc (.int .i64 x0_n), .sc (.string x0_s), .lit 9 false x0_keys, .lit 32 false x0_kids]]⟩)

abbrev H37_0_0 (x0_kind : Int) (x0_n : Int) (x0_s : ByteArray) (x0_keys : List AV) (x0_kids : List AV) (x1 : Int) (t5 : Bool) (t6 : Bool) (t7 : Int) : St := ⟨[.bad, .sc (.int .i64 x1), .bptr 0 0, .bad, .bad, .sc (.bool t5), .sc (.bool t6), .sc (.int .i64 t7), .bad, .bad, .bad, .bad, .bad, .bad, .bad, .bad, .bad, .bad, .bad, .bad, .bad, .bad, .bad, .bad, .bad, .bad, .bad, .bad, .bad, .bad, .bad, .bad, .bad, .bad, .bad, .bad, .bad, .bad, .bad, .bad, .bad, .bad, .bad, .bad, .bad, .bad, .bad, .bad, .bad, .bad, .bad, .bad, .bad, .bad, .bad, .bad, .bad, .bad, .bad, .bad, .bad, .bad, .bad, .bad, .bad, .bad, .bad, .bad, .bad, .bad, .bad, .bad, .bad, .bad, .bad, .bad, .bad, .bad, .bad, .bad, .bad, .bad, .bad], [.box 32 [.sc (.int .i64 x0_kind), .sc (.int .i64 x0_n), .sc (.string x0_s), .lit 9 false x0_keys, .lit 32 false x0_kids]]⟩

theorem r37_0_0_0L (x0_kind : Int) (x0_n : Int) (x0_s : ByteArray) (x0_keys : List AV) (x0_kids : List AV) (x1 : Int) (t5 : Bool) (t6 : Bool) (t7 : Int) (h1 : Ops.std.ilt t7 (Ops.std.llen x0_keys) = true) (h2 : t5 = true) (h3 : t6 = true) : Ifc.round (lim F pr) [7, 5, 6, 2, 1] 1 b37_0 ⟨[.bad, .sc (.int .i64 x1), .bptr 0 0, .bad, .bad, .sc (.bool t5), .sc (.bool t6), .sc (.int .i64 t7), .bad, .bad, .bad, .bad, .bad, .bad, .bad, .bad, .bad, .bad, .bad, .bad, .bad, .bad, .bad, .bad, .bad, .bad, .bad, .bad, .bad, .bad, .bad, .bad, .bad, .bad, .bad, .bad, .bad, .bad, .bad, .bad, .bad, .bad, .bad, .bad, .bad, .bad, .bad, .bad, .bad, .bad, .bad, .bad, .bad, .bad, .bad, .bad, .bad, .bad, .bad, .bad, .bad, .bad, .bad, .bad, .bad, .bad, .bad, .bad, .bad, .bad, .bad, .bad, .bad, .bad, .bad, .bad, .bad, .bad, .bad, .bad, .bad, .bad, .bad], [.box 32 [.sc (.int .i64 x0_kind), .sc (.int .i64 x0_n), .sc (.string x0_s), .lit 9 false x0_keys, .lit 32 false x0_kids]]⟩ = (lim F pr).loop [7, 5, 6, 2, 1] 1 b37_0 ⟨[.bad, .sc (.int .i64 x1), .bptr 0 0, .bad, .bad, .sc (.bool true), .sc (.bool true), .sc (.int .i64 (Ops.std.iadd .i64 t7 1)), .bad, .bad, .bad, .bad, .bad, .bad, .bad, .bad, .bad, .bad, .bad, .bad, .bad, .bad, .bad, .bad, .bad, .bad, .bad, .bad, .bad, .bad, .bad, .bad, .bad, .bad, .bad, .bad, .bad, .bad, .bad, .bad, .bad, .bad, .bad, .bad, .bad, .bad, .bad, .bad, .bad, .bad, .bad, .bad, .bad, .bad, .bad, .bad, .bad, .bad, .bad, .bad, .bad, .bad, .bad, .bad, .bad, .bad, .bad, .bad, .bad, .bad, .bad, .bad, .bad, .bad, .bad, .bad, .bad, .bad, .bad, .bad, .bad, .bad, .bad], [.box 32 [.sc (.int .i64 x0_kind), .sc (.int .i64 x0_n), .sc (.string x0_s), .lit 9 false x0_keys, .lit 32 false x0_kids]]⟩ :=
  r37_0_0_0 (iadd := Ops.std.iadd) (isub := Ops.std.isub) (imul := Ops.std.imul) (iquo := Ops.std.iquo) (irem := Ops.std.irem) (ibit := Ops.std.ibit) (ishl := Ops.std.ishl) (ishr := Ops.std.ishr) (iwrap := Ops.std.iwrap) (ieq := Ops.std.ieq) (ilt := Ops.std.ilt) (ile := Ops.std.ile) (beq := Ops.std.beq) (seq := Ops.std.seq) (slt := Ops.std.slt) (sapp := Ops.std.sapp) (slen := Ops.std.slen) (sget := Ops.std.sget) (ssub := Ops.std.ssub) (llen := Ops.std.llen) (lget := Ops.std.lget) (lset := Ops.std.lset) (lapp := Ops.std.lapp) (lsub := Ops.std.lsub) (room := Ops.std.room) (call := (lim F pr).call) (loop := (lim F pr).loop) (prim := pr)  x0_kind x0_n x0_s x0_keys x0_kids x1 t5 t6 t7  h1 h2 h3

theorem r37_0_0_1L (x0_kind : Int) (x0_n : Int) (x0_s : ByteArray) (x0_keys : List AV) (x0_kids : List AV) (x1 : Int) (t5 : Bool) (t6 : Bool) (t7 : Int) (x : ByteArray) (x2 : ByteArray) (r1 : Bool) (h1 : Ops.std.ilt t7 (Ops.std.llen x0_keys) = true) (h2 : t5 = true) (h3 : t6 = false) (h4 : Ops.std.ilt 0 t7 = true) (h5 : Ops.std.lget x0_keys (Ops.std.isub .i64 t7 1) = some (.sc (.string x))) (h6 : Ops.std.lget x0_keys t7 = some (.sc (.string x2))) (h7 : (lim F pr).call 46 [.sc (.string x), .sc (.string x2)] [] = some (.sc (.bool r1), [])) : Ifc.round (lim F pr) [7, 5, 6, 2, 1] 1 b37_0 ⟨[.bad, .sc (.int .i64 x1), .bptr 0 0, .bad, .bad, .sc (.bool t5), .sc (.bool t6), .sc (.int .i64 t7), .bad, .bad, .bad, .bad, .bad, .bad, .bad, .bad, .bad, .bad, .bad, .bad, .bad, .bad, .bad, .bad, .bad, .bad, .bad, .bad, .bad, .bad, .bad, .bad, .bad, .bad, .bad, .bad, .bad, .bad, .bad, .bad, .bad, .bad, .bad, .bad, .bad, .bad, .bad, .bad, .bad, .bad, .bad, .bad, .bad, .bad, .bad, .bad, .bad, .bad, .bad, .bad, .bad, .bad, .bad, .bad, .bad, .bad, .bad, .bad, .bad, .bad, .bad, .bad, .bad, .bad, .bad, .bad, .bad, .bad, .bad, .bad, .bad, .bad, .bad], [.box 32 [.sc (.int .i64 x0_kind), .sc (.int .i64 x0_n), .sc (.string x0_s), .lit 9 false x0_keys, .lit 32 false x0_kids]]⟩ = (lim F pr).loop [7, 5, 6, 2, 1] 1 b37_0 ⟨[.bad, .sc (.int .i64 x1), .bptr 0 0, .bad, .bad, .sc (.bool true), .sc (.bool ((!r1))), .sc (.int .i64 (Ops.std.iadd .i64 t7 1)), .bad, .bad, .bad, .bad, .bad, .bad, .bad, .bad, .bad, .bad, .bad, .bad, .bad, .bad, .bad, .bad, .bad, .bad, .bad, .bad, .bad, .bad, .bad, .bad, .bad, .bad, .bad, .bad, .bad, .bad, .bad, .bad, .bad, .bad, .bad, .bad, .bad, .bad, .bad, .bad, .bad, .bad, .bad, .bad, .bad, .bad, .bad, .bad, .bad, .bad, .bad, .bad, .bad, .bad, .bad, .bad, .bad, .bad, .bad, .bad, .bad, .bad, .bad, .bad, .bad, .bad, .bad, .bad, .bad, .bad, .bad, .bad, .bad, .bad, .bad], [.box 32 [.sc (.int .i64 x0_kind), .sc (.int .i64 x0_n), .sc (.string x0_s), .lit 9 false x0_keys, .lit 32 false x0_kids]]⟩ :=
  r37_0_0_1 (iadd := Ops.std.iadd) (isub := Ops.std.isub) (imul := Ops.std.imul) (iquo := Ops.std.iquo) (irem := Ops.std.irem) (ibit := Ops.std.ibit) (ishl := Ops.std.ishl) (ishr := Ops.std.ishr) (iwrap := Ops.std.iwrap) (ieq := Ops.std.ieq) (ilt := Ops.std.ilt) (ile := Ops.std.ile) (beq := Ops.std.beq) (seq := Ops.std.seq) (slt := Ops.std.slt) (sapp := Ops.std.sapp) (slen := Ops.std.slen) (sget := Ops.std.sget) (ssub := Ops.std.ssub) (llen := Ops.std.llen) (lget := Ops.std.lget) (lset := Ops.std.lset) (lapp := Ops.std.lapp) (lsub := Ops.std.lsub) (room := Ops.std.room) (call := (lim F pr).call) (loop := (lim F pr).loop) (prim := pr)  x0_kind x0_n x0_s x0_keys x0_kids x1 t5 t6 t7 x x2 r1 rfl h1 h2 h3 h4 h5 h6 h7

theorem r37_0_0_2L (x0_kind : Int) (x0_n : Int) (x0_s : ByteArray) (x0_keys : List AV) (x0_kids : List AV) (x1 : Int) (t5 : Bool) (t6 : Bool) (t7 : Int) (h1 : Ops.std.ilt t7 (Ops.std.llen x0_keys) = true) (h2 : t5 = true) (h3 : t6 = false) (h4 : Ops.std.ilt 0 t7 = false) : Ifc.round (lim F pr) [7, 5, 6, 2, 1] 1 b37_0 ⟨[.bad, .sc (.int .i64 x1), .bptr 0 0, .bad, .bad, .sc (.bool t5), .sc (.bool t6), .sc (.int .i64 t7), .bad, .bad, .bad, .bad, .bad, .bad, .bad, .bad, .bad, .bad, .bad, .bad, .bad, .bad, .bad, .bad, .bad, .bad, .bad, .bad, .bad, .bad, .bad, .bad, .bad, .bad, .bad, .bad, .bad, .bad, .bad, .bad, .bad, .bad, .bad, .bad, .bad, .bad, .bad, .bad, .bad, .bad, .bad, .bad, .bad, .bad, .bad, .bad, .bad, .bad, .bad, .bad, .bad, .bad, .bad, .bad, .bad, .bad, .bad, .bad, .bad, .bad, .bad, .bad, .bad, .bad, .bad, .bad, .bad, .bad, .bad, .bad, .bad, .bad, .bad], [.box 32 [.sc (.int .i64 x0_kind), .sc (.int .i64 x0_n), .sc (.string x0_s), .lit 9 false x0_keys, .lit 32 false x0_kids]]⟩ = (lim F pr).loop [7, 5, 6, 2, 1] 1 b37_0 ⟨[.bad, .sc (.int .i64 x1), .bptr 0 0, .bad, .bad, .sc (.bool true), .sc (.bool false), .sc (.int .i64 (Ops.std.iadd .i64 t7 1)), .bad, .bad, .bad, .bad, .bad, .bad, .bad, .bad, .bad, .bad, .bad, .bad, .bad, .bad, .bad, .bad, .bad, .bad, .bad, .bad, .bad, .bad, .bad, .bad, .bad, .bad, .bad, .bad, .bad, .bad, .bad, .bad, .bad, .bad, .bad, .bad, .bad, .bad, .bad, .bad, .bad, .bad, .bad, .bad, .bad, .bad, .bad, .bad, .bad, .bad, .bad, .bad, .bad, .bad, .bad, .bad, .bad, .bad, .bad, .bad, .bad, .bad, .bad, .bad, .bad, .bad, .bad, .bad, .bad, .bad, .bad, .bad, .bad, .bad, .bad], [.box 32 [.sc (.int .i64 x0_kind), .sc (.int .i64 x0_n), .sc (.string x0_s), .lit 9 false x0_keys, .lit 32 false x0_kids]]⟩ :=
  r37_0_0_2 (iadd := Ops.std.iadd) (isub := Ops.std.isub) (imul := Ops.std.imul) (iquo := Ops.std.iquo) (irem := Ops.std.irem) (ibit := Ops.std.ibit) (ishl := Ops.std.ishl) (ishr := Ops.std.ishr) (iwrap := Ops.std.iwrap) (ieq := Ops.std.ieq) (ilt := Ops.std.ilt) (ile := Ops.std.ile) (beq := Ops.std.beq) (seq := Ops.std.seq) (slt := Ops.std.slt) (sapp := Ops.std.sapp) (slen := Ops.std.slen) (sget := Ops.std.sget) (ssub := Ops.std.ssub) (llen := Ops.std.llen) (lget := Ops.std.lget) (lset := Ops.std.lset) (lapp := Ops.std.lapp) (lsub := Ops.std.lsub) (room := Ops.std.room) (call := (lim F pr).call) (loop := (lim F pr).loop) (prim := pr)  x0_kind x0_n x0_s x0_keys x0_kids x1 t5 t6 t7  h1 h2 h3 h4

theorem r37_0_0_3L (x0_kind : Int) (x0_n : Int) (x0_s : ByteArray) (x0_keys : List AV) (x0_kids : List AV) (x1 : Int) (t5 : Bool) (t6 : Bool) (t7 : Int) (x : ByteArray) (h1 : Ops.std.ilt t7 (Ops.std.llen x0_keys) = true) (h2 : t5 = false) (h3 : Ops.std.lget x0_keys t7 = some (.sc (.string x))) (h4 : t6 = true) : Ifc.round (lim F pr) [7, 5, 6, 2, 1] 1 b37_0 ⟨[.bad, .sc (.int .i64 x1), .bptr 0 0, .bad, .bad, .sc (.bool t5), .sc (.bool t6), .sc (.int .i64 t7), .bad, .bad, .bad, .bad, .bad, .bad, .bad, .bad, .bad, .bad, .bad, .bad, .bad, .bad, .bad, .bad, .bad, .bad, .bad, .bad, .bad, .bad, .bad, .bad, .bad, .bad, .bad, .bad, .bad, .bad, .bad, .bad, .bad, .bad, .bad, .bad, .bad, .bad, .bad, .bad, .bad, .bad, .bad, .bad, .bad, .bad, .bad, .bad, .bad, .bad, .bad, .bad, .bad, .bad, .bad, .bad, .bad, .bad, .bad, .bad, .bad, .bad, .bad, .bad, .bad, .bad, .bad, .bad, .bad, .bad, .bad, .bad, .bad, .bad, .bad], [.box 32 [.sc (.int .i64 x0_kind), .sc (.int .i64 x0_n), .sc (.string x0_s), .lit 9 false x0_keys, .lit 32 false x0_kids]]⟩ = (lim F pr).loop [7, 5, 6, 2, 1] 1 b37_0 ⟨[.bad, .sc (.int .i64 x1), .bptr 0 0, .bad, .bad, .sc (.bool (Ops.std.ilt 1048576 (Ops.std.slen x))), .sc (.bool true), .sc (.int .i64 (Ops.std.iadd .i64 t7 1)), .bad, .bad, .bad, .bad, .bad, .bad, .bad, .bad, .bad, .bad, .bad, .bad, .bad, .bad, .bad, .bad, .bad, .bad, .bad, .bad, .bad, .bad, .bad, .bad, .bad, .bad, .bad, .bad, .bad, .bad, .bad, .bad, .bad, .bad, .bad, .bad, .bad, .bad, .bad, .bad, .bad, .bad, .bad, .bad, .bad, .bad, .bad, .bad, .bad, .bad, .bad, .bad, .bad, .bad, .bad, .bad, .bad, .bad, .bad, .bad, .bad, .bad, .bad, .bad, .bad, .bad, .bad, .bad, .bad, .bad, .bad, .bad, .bad, .bad, .bad], [.box 32 [.sc (.int .i64 x0_kind), .sc (.int .i64 x0_n), .sc (.string x0_s), .lit 9 false x0_keys, .lit 32 false x0_kids]]⟩ :=
  r37_0_0_3 (iadd := Ops.std.iadd) (isub := Ops.std.isub) (imul := Ops.std.imul) (iquo := Ops.std.iquo) (irem := Ops.std.irem) (ibit := Ops.std.ibit) (ishl := Ops.std.ishl) (ishr := Ops.std.ishr) (iwrap := Ops.std.iwrap) (ieq := Ops.std.ieq) (ilt := Ops.std.ilt) (ile := Ops.std.ile) (beq := Ops.std.beq) (seq := Ops.std.seq) (slt := Ops.std.slt) (sapp := Ops.std.sapp) (slen := Ops.std.slen) (sget := Ops.std.sget) (ssub := Ops.std.ssub) (llen := Ops.std.llen) (lget := Ops.std.lget) (lset := Ops.std.lset) (lapp := Ops.std.lapp) (lsub := Ops.std.lsub) (room := Ops.std.room) (call := (lim F pr).call) (loop := (lim F pr).loop) (prim := pr)  x0_kind x0_n x0_s x0_keys x0_kids x1 t5 t6 t7 x  h1 h2 h3 h4

theorem r37_0_0_4L (x0_kind : Int) (x0_n : Int) (x0_s : ByteArray) (x0_keys : List AV) (x0_kids : List AV) (x1 : Int) (t5 : Bool) (t6 : Bool) (t7 : Int) (x : ByteArray) (x2 : ByteArray) (r1 : Bool) (h1 : Ops.std.ilt t7 (Ops.std.llen x0_keys) = true) (h2 : t5 = false) (h3 : Ops.std.lget x0_keys t7 = some (.sc (.string x))) (h4 : t6 = false) (h5 : Ops.std.ilt 0 t7 = true) (h6 : Ops.std.lget x0_keys (Ops.std.isub .i64 t7 1) = some (.sc (.string x2))) (h7 : (lim F pr).call 46 [.sc (.string x2), .sc (.string x)] [] = some (.sc (.bool r1), [])) : Ifc.round (lim F pr) [7, 5, 6, 2, 1] 1 b37_0 ⟨[.bad, .sc (.int .i64 x1), .bptr 0 0, .bad, .bad, .sc (.bool t5), .sc (.bool t6), .sc (.int .i64 t7), .bad, .bad, .bad, .bad, .bad, .bad, .bad, .bad, .bad, .bad, .bad, .bad, .bad, .bad, .bad, .bad, .bad, .bad, .bad, .bad, .bad, .bad, .bad, .bad, .bad, .bad, .bad, .bad, .bad, .bad, .bad, .bad, .bad, .bad, .bad, .bad, .bad, .bad, .bad, .bad, .bad, .bad, .bad, .bad, .bad, .bad, .bad, .bad, .bad, .bad, .bad, .bad, .bad, .bad, .bad, .bad, .bad, .bad, .bad, .bad, .bad, .bad, .bad, .bad, .bad, .bad, .bad, .bad, .bad, .bad, .bad, .bad, .bad, .bad, .bad], [.box 32 [.sc (.int .i64 x0_kind), .sc (.int .i64 x0_n), .sc (.string x0_s), .lit 9 false x0_keys, .lit 32 false x0_kids]]⟩ = (lim F pr).loop [7, 5, 6, 2, 1] 1 b37_0 ⟨[.bad, .sc (.int .i64 x1), .bptr 0 0, .bad, .bad, .sc (.bool (Ops.std.ilt 1048576 (Ops.std.slen x))), .sc (.bool ((!r1))), .sc (.int .i64 (Ops.std.iadd .i64 t7 1)), .bad, .bad, .bad, .bad, .bad, .bad, .bad, .bad, .bad, .bad, .bad, .bad, .bad, .bad, .bad, .bad, .bad, .bad, .bad, .bad, .bad, .bad, .bad, .bad, .bad, .bad, .bad, .bad, .bad, .bad, .bad, .bad, .bad, .bad, .bad, .bad, .bad, .bad, .bad, .bad, .bad, .bad, .bad, .bad, .bad, .bad, .bad, .bad, .bad, .bad, .bad, .bad, .bad, .bad, .bad, .bad, .bad, .bad, .bad, .bad, .bad, .bad, .bad, .bad, .bad, .bad, .bad, .bad, .bad, .bad, .bad, .bad, .bad, .bad, .bad], [.box 32 [.sc (.int .i64 x0_kind), .sc (.int .i64 x0_n), .sc (.string x0_s), .lit 9 false x0_keys, .lit 32 false x0_kids]]⟩ :=
  r37_0_0_4 (iadd := Ops.std.iadd) (isub := Ops.std.isub) (imul := Ops.std.imul) (iquo := Ops.std.iquo) (irem := Ops.std.irem) (ibit := Ops.std.ibit) (ishl := Ops.std.ishl) (ishr := Ops.std.ishr) (iwrap := Ops.std.iwrap) (ieq := Ops.std.ieq) (ilt := Ops.std.ilt) (ile := Ops.std.ile) (beq := Ops.std.beq) (seq := Ops.std.seq) (slt := Ops.std.slt) (sapp := Ops.std.sapp) (slen := Ops.std.slen) (sget := Ops.std.sget) (ssub := Ops.std.ssub) (llen := Ops.std.llen) (lget := Ops.std.lget) (lset := Ops.std.lset) (lapp := Ops.std.lapp) (lsub := Ops.std.lsub) (room := Ops.std.room) (call := (lim F pr).call) (loop := (lim F pr).loop) (prim := pr)  x0_kind x0_n x0_s x0_keys x0_kids x1 t5 t6 t7 x x2 r1 rfl h1 h2 h3 h4 h5 h6 h7

theorem r37_0_0_5L (x0_kind : Int) (x0_n : Int) (x0_s : ByteArray) (x0_keys : List AV) (x0_kids : List AV) (x1 : Int) (t5 : Bool) (t6 : Bool) (t7 : Int) (x : ByteArray) (h1 : Ops.std.ilt t7 (Ops.std.llen x0_keys) = true) (h2 : t5 = false) (h3 : Ops.std.lget x0_keys t7 = some (.sc (.string x))) (h4 : t6 = false) (h5 : Ops.std.ilt 0 t7 = false) : Ifc.round (lim F pr) [7, 5, 6, 2, 1] 1 b37_0 ⟨[.bad, .sc (.int .i64 x1), .bptr 0 0, .bad, .bad, .sc (.bool t5), .sc (.bool t6), .sc (.int .i64 t7), .bad, .bad, .bad, .bad, .bad, .bad, .bad, .bad, .bad, .bad, .bad, .bad, .bad, .bad, .bad, .bad, .bad, .bad, .bad, .bad, .bad, .bad, .bad, .bad, .bad, .bad, .bad, .bad, .bad, .bad, .bad, .bad, .bad, .bad, .bad, .bad, .bad, .bad, .bad, .bad, .bad, .bad, .bad, .bad, .bad, .bad, .bad, .bad, .bad, .bad, .bad, .bad, .bad, .bad, .bad, .bad, .bad, .bad, .bad, .bad, .bad, .bad, .bad, .bad, .bad, .bad, .bad, .bad, .bad, .bad, .bad, .bad, .bad, .bad, .bad], [.box 32 [.sc (.int .i64 x0_kind), .sc (.int .i64 x0_n), .sc (.string x0_s), .lit 9 false x0_keys, .lit 32 false x0_kids]]⟩ = (lim F pr).loop [7, 5, 6, 2, 1] 1 b37_0 ⟨[.bad, .sc (.int .i64 x1), .bptr 0 0, .bad, .bad, .sc (.bool (Ops.std.ilt 1048576 (Ops.std.slen x))), .sc (.bool false), .sc (.int .i64 (Ops.std.iadd .i64 t7 1)), .bad, .bad, .bad, .bad, .bad, .bad, .bad, .bad, .bad, .bad, .bad, .bad, .bad, .bad, .bad, .bad, .bad, .bad, .bad, .bad, .bad, .bad, .bad, .bad, .bad, .bad, .bad, .bad, .bad, .bad, .bad, .bad, .bad, .bad, .bad, .bad, .bad, .bad, .bad, .bad, .bad, .bad, .bad, .bad, .bad, .bad, .bad, .bad, .bad, .bad, .bad, .bad, .bad, .bad, .bad, .bad, .bad, .bad, .bad, .bad, .bad, .bad, .bad, .bad, .bad, .bad, .bad, .bad, .bad, .bad, .bad, .bad, .bad, .bad, .bad], [.box 32 [.sc (.int .i64 x0_kind), .sc (.int .i64 x0_n), .sc (.string x0_s), .lit 9 false x0_keys, .lit 32 false x0_kids]]⟩ :=
  r37_0_0_5 (iadd := Ops.std.iadd) (isub := Ops.std.isub) (imul := Ops.std.imul) (iquo := Ops.std.iquo) (irem := Ops.std.irem) (ibit := Ops.std.ibit) (ishl := Ops.std.ishl) (ishr := Ops.std.ishr) (iwrap := Ops.std.iwrap) (ieq := Ops.std.ieq) (ilt := Ops.std.ilt) (ile := Ops.std.ile) (beq := Ops.std.beq) (seq := Ops.std.seq) (slt := Ops.std.slt) (sapp := Ops.std.sapp) (slen := Ops.std.slen) (sget := Ops.std.sget) (ssub := Ops.std.ssub) (llen := Ops.std.llen) (lget := Ops.std.lget) (lset := Ops.std.lset) (lapp := Ops.std.lapp) (lsub := Ops.std.lsub) (room := Ops.std.room) (call := (lim F pr).call) (loop := (lim F pr).loop) (prim := pr)  x0_kind x0_n x0_s x0_keys x0_kids x1 t5 t6 t7 x  h1 h2 h3 h4 h5

theorem r37_0_0_6L (x0_kind : Int) (x0_n : Int) (x0_s : ByteArray) (x0_keys : List AV) (x0_kids : List AV) (x1 : Int) (t5 : Bool) (t6 : Bool) (t7 : Int) (h1 : Ops.std.ilt t7 (Ops.std.llen x0_keys) = false) : Ifc.round (lim F pr) [7, 5, 6, 2, 1] 1 b37_0 ⟨[.bad, .sc (.int .i64 x1), .bptr 0 0, .bad, .bad, .sc (.bool t5), .sc (.bool t6), .sc (.int .i64 t7), .bad, .bad, .bad, .bad, .bad, .bad, .bad, .bad, .bad, .bad, .bad, .bad, .bad, .bad, .bad, .bad, .bad, .bad, .bad, .bad, .bad, .bad, .bad, .bad, .bad, .bad, .bad, .bad, .bad, .bad, .bad, .bad, .bad, .bad, .bad, .bad, .bad, .bad, .bad, .bad, .bad, .bad, .bad, .bad, .bad, .bad, .bad, .bad, .bad, .bad, .bad, .bad, .bad, .bad, .bad, .bad, .bad, .bad, .bad, .bad, .bad, .bad, .bad, .bad, .bad, .bad, .bad, .bad, .bad, .bad, .bad, .bad, .bad, .bad, .bad], [.box 32 [.sc (.int .i64 x0_kind), .sc (.int .i64 x0_n), .sc (.string x0_s), .lit 9 false x0_keys, .lit 32 false x0_kids]]⟩ = some (.brk 0, ⟨[.bad, .sc (.int .i64 x1), .bptr 0 0, .bad, .bad, .sc (.bool t5), .sc (.bool t6), .bad, .bad, .bad, .bad, .bad, .bad, .bad, .bad, .bad, .bad, .bad, .bad, .bad, .bad, .bad, .bad, .bad, .bad, .bad, .bad, .bad, .bad, .bad, .bad, .bad, .bad, .bad, .bad, .bad, .bad, .bad, .bad, .bad, .bad, .bad, .bad, .bad, .bad, .bad, .bad, .bad, .bad, .bad, .bad, .bad, .bad, .bad, .bad, .bad, .bad, .bad, .bad, .bad, .bad, .bad, .bad, .bad, .bad, .bad, .bad, .bad, .bad, .bad, .bad, .bad, .bad, .bad, .bad, .bad, .bad, .bad, .bad, .bad, .bad, .bad, .bad], [.box 32 [.sc (.int .i64 x0_kind), .sc (.int .i64 x0_n), .sc (.string x0_s), .lit 9 false x0_keys, .lit 32 false x0_kids]]⟩) :=
  r37_0_0_6 (iadd := Ops.std.iadd) (isub := Ops.std.isub) (imul := Ops.std.imul) (iquo := Ops.std.iquo) (irem := Ops.std.irem) (ibit := Ops.std.ibit) (ishl := Ops.std.ishl) (ishr := Ops.std.ishr) (iwrap := Ops.std.iwrap) (ieq := Ops.std.ieq) (ilt := Ops.std.ilt) (ile := Ops.std.ile) (beq := Ops.std.beq) (seq := Ops.std.seq) (slt := Ops.std.slt) (sapp := Ops.std.sapp) (slen := Ops.std.slen) (sget := Ops.std.sget) (ssub := Ops.std.ssub) (llen := Ops.std.llen) (lget := Ops.std.lget) (lset := Ops.std.lset) (lapp := Ops.std.lapp) (lsub := Ops.std.lsub) (room := Ops.std.room) (call := (lim F pr).call) (loop := (lim F pr).loop) (prim := pr)  x0_kind x0_n x0_s x0_keys x0_kids x1 t5 t6 t7  h1

abbrev W37_1_0 (x0_kind : Int) (x0_n : Int) (x0_s : ByteArray) (x0_keys : List AV) (x0_kids : List AV) (t4o : Int) : X × St := (.ret, ⟨[.bad, .bad, .bad, .bad, .sc (.int .i64 t4o), .bad, .bad, .bad, .bad, .bad, .bad, .bad, .bad, .bad, .bad, .bad, .bad, .bad, .bad, .bad, .bad, .bad, .bad, .bad, .bad, .bad, .bad, .bad, .bad, .bad, .bad, .bad, .bad, .bad, .bad, .bad, .bad, .bad, .bad, .bad, .bad, .bad, .bad, .bad, .bad, .bad, .bad, .bad, .bad, .bad, .bad, .bad, .bad, .bad, .bad, .bad, .bad, .bad, .bad, .bad, .bad, .bad, .bad, .bad, .bad, .bad, .bad, .bad, .bad, .bad, .bad, .bad, .bad, .bad, .bad, .bad, .bad, .bad, .bad, .bad, .bad, .bad, .bad], [.box 32 [.sc (.int .i64 x0_kind), .sc (.int .i64 x0_n), .sc (.string x0_s), .lit 9 false x0_keys, .lit 32 false x0_kids]]⟩)

abbrev W37_1_1 (x0_kind : Int) (x0_n : Int) (x0_s : ByteArray) (x0_keys : List AV) (x0_kids : List AV) : X × St := (.brk 2, ⟨[.bad, .bad, .bad, .bad, .bad, .bad, .bad, .bad, .bad, .bad, .bad, .bad, .bad, .bad, .bad, .bad, .bad, .bad, .bad, .bad, .bad, .bad, .bad, .bad, .bad, .bad, .bad, .bad, .bad, .bad, .bad, .bad, .bad, .bad, .bad, .bad, .bad, .bad, .bad, .bad, .bad, .bad, .bad, .bad, .bad, .bad, .bad, .bad, .bad, .bad, .bad, .bad, .bad, .bad, .bad, .bad, .bad, .bad, .bad, .bad, .bad, .bad, .bad, .bad, .bad, .bad, .bad, .bad, .bad, .bad, .bad, .bad, .bad, .bad, .bad, .bad, .bad, .bad, .bad, .bad, .bad, .bad, .bad], [.box 32 [.sc (.int .i64 x0_kind), .sc (.int .i64 x0_n), .sc (.string x0_s), .lit 9 false x0_keys, .lit 32 false x0_kids]]⟩)

abbrev H37_1_0 (x0_kind : Int) (x0_n : Int) (x0_s : ByteArray) (x0_keys : List AV) (x0_kids : List AV) (x1 : Int) (t8 : Int) : St := ⟨[.bad, .sc (.int .i64 x1), .bptr 0 0, .bad, .bad, .bad, .bad, .bad, .sc (.int .i64 t8), .bad, .bad, .bad, .bad, .bad, .bad, .bad, .bad, .bad, .bad, .bad, .bad, .bad, .bad, .bad, .bad, .bad, .bad, .bad, .bad, .bad, .bad, .bad, .bad, .bad, .bad, .bad, .bad, .bad, .bad, .bad, .bad, .bad, .bad, .bad, .bad, .bad, .bad, .bad, .bad, .bad, .bad, .bad, .bad, .bad, .bad, .bad, .bad, .bad, .bad, .bad, .bad, .bad, .bad, .bad, .bad, .bad, .bad, .bad, .bad, .bad, .bad, .bad, .bad, .bad, .bad, .bad, .bad, .bad, .bad, .bad, .bad, .bad, .bad], [.box 32 [.sc (.int .i64 x0_kind), .sc (.int .i64 x0_n), .sc (.string x0_s), .lit 9 false x0_keys, .lit 32 false x0_kids]]⟩

theorem r37_1_0_0L (x0_kind : Int) (x0_n : Int) (x0_s : ByteArray) (x0_keys : List AV) (x0_kids : List AV) (x1 : Int) (t8 : Int) (x_kind : Int) (x_n : Int) (x_s : ByteArray) (x_keys : List AV) (x_kids : List AV) (r1 : Int) (h1 : Ops.std.ilt t8 (Ops.std.llen x0_kids) = true) (h2 : Ops.std.lget x0_kids t8 = some (.agg [.sc (.int .i64 x_kind), .sc (.int .i64 x_n), .sc (.string x_s), .lit 9 false x_keys, .lit 32 false x_kids])) (h3 : (lim F pr).call 37 [.agg [.sc (.int .i64 x_kind), .sc (.int .i64 x_n), .sc (.string x_s), .lit 9 false x_keys, .lit 32 false x_kids], .sc (.int .i64 (Ops.std.iadd .i64 x1 1))] [] = some (.sc (.int .i64 r1), [])) (h4 : Ops.std.ieq r1 0 = true) : Ifc.round (lim F pr) [2, 1, 8] 1 b37_1 ⟨[.bad, .sc (.int .i64 x1), .bptr 0 0, .bad, .bad, .bad, .bad, .bad, .sc (.int .i64 t8), .bad, .bad, .bad, .bad, .bad, .bad, .bad, .bad, .bad, .bad, .bad, .bad, .bad, .bad, .bad, .bad, .bad, .bad, .bad, .bad, .bad, .bad, .bad, .bad, .bad, .bad, .bad, .bad, .bad, .bad, .bad, .bad, .bad, .bad, .bad, .bad, .bad, .bad, .bad, .bad, .bad, .bad, .bad, .bad, .bad, .bad, .bad, .bad, .bad, .bad, .bad, .bad, .bad, .bad, .bad, .bad, .bad, .bad, .bad, .bad, .bad, .bad, .bad, .bad, .bad, .bad, .bad, .bad, .bad, .bad, .bad, .bad, .bad, .bad], [.box 32 [.sc (.int .i64 x0_kind), .sc (.int .i64 x0_n), .sc (.string x0_s), .lit 9 false x0_keys, .lit 32 false x0_kids]]⟩ = (lim F pr).loop [2, 1, 8] 1 b37_1 ⟨[.bad, .sc (.int .i64 x1), .bptr 0 0, .bad, .bad, .bad, .bad, .bad, .sc (.int .i64 (Ops.std.iadd .i64 t8 1)), .bad, .bad, .bad, .bad, .bad, .bad, .bad, .bad, .bad, .bad, .bad, .bad, .bad, .bad, .bad, .bad, .bad, .bad, .bad, .bad, .bad, .bad, .bad, .bad, .bad, .bad, .bad, .bad, .bad, .bad, .bad, .bad, .bad, .bad, .bad, .bad, .bad, .bad, .bad, .bad, .bad, .bad, .bad, .bad, .bad, .bad, .bad, .bad, .bad, .bad, .bad, .bad, .bad, .bad, .bad, .bad, .bad, .bad, .bad, .bad, .bad, .bad, .bad, .bad, .bad, .bad, .bad, .bad, .bad, .bad, .bad, .bad, .bad, .bad], [.box 32 [.sc (.int .i64 x0_kind), .sc (.int .i64 x0_n), .sc (.string x0_s), .lit 9 false x0_keys, .lit 32 false x0_kids]]⟩ :=
  r37_1_0_0 (iadd := Ops.std.iadd) (isub := Ops.std.isub) (imul := Ops.std.imul) (iquo := Ops.std.iquo) (irem := Ops.std.irem) (ibit := Ops.std.ibit) (ishl := Ops.std.ishl) (ishr := Ops.std.ishr) (iwrap := Ops.std.iwrap) (ieq := Ops.std.ieq) (ilt := Ops.std.ilt) (ile := Ops.std.ile) (beq := Ops.std.beq) (seq := Ops.std.seq) (slt := Ops.std.slt) (sapp := Ops.std.sapp) (slen := Ops.std.slen) (sget := Ops.std.sget) (ssub := Ops.std.ssub) (llen := Ops.std.llen) (lget := Ops.std.lget) (lset := Ops.std.lset) (lapp := Ops.std.lapp) (lsub := Ops.std.lsub) (room := Ops.std.room) (call := (lim F pr).call) (loop := (lim F pr).loop) (prim := pr)  x0_kind x0_n x0_s x0_keys x0_kids x1 t8 x_kind x_n x_s x_keys x_kids r1 rfl h1 h2 h3 h4

theorem r37_1_0_1L (x0_kind : Int) (x0_n : Int) (x0_s : ByteArray) (x0_keys : List AV) (x0_kids : List AV) (x1 : Int) (t8 : Int) (x_kind : Int) (x_n : Int) (x_s : ByteArray) (x_keys : List AV) (x_kids : List AV) (r1 : Int) (h1 : Ops.std.ilt t8 (Ops.std.llen x0_kids) = true) (h2 : Ops.std.lget x0_kids t8 = some (.agg [.sc (.int .i64 x_kind), .sc (.int .i64 x_n), .sc (.string x_s), .lit 9 false x_keys, .lit 32 false x_kids])) (h3 : (lim F pr).call 37 [.agg [.sc (.int .i64 x_kind), .sc (.int .i64 x_n), .sc (.string x_s), .lit 9 false x_keys, .lit 32 false x_kids], .sc (.int .i64 (Ops.std.iadd .i64 x1 1))] [] = some (.sc (.int .i64 r1), [])) (h4 : Ops.std.ieq r1 0 = false) : Ifc.round (lim F pr) [2, 1, 8] 1 b37_1 ⟨[.bad, .sc (.int .i64 x1), .bptr 0 0, .bad, .bad, .bad, .bad, .bad, .sc (.int .i64 t8), .bad, .bad, .bad, .bad, .bad, .bad, .bad, .bad, .bad, .bad, .bad, .bad, .bad, .bad, .bad, .bad, .bad, .bad, .bad, .bad, .bad, .bad, .bad, .bad, .bad, .bad, .bad, .bad, .bad, .bad, .bad, .bad, .bad, .bad, .bad, .bad, .bad, .bad, .bad, .bad, .bad, .bad, .bad, .bad, .bad, .bad, .bad, .bad, .bad, .bad, .bad, .bad, .bad, .bad, .bad, .bad, .bad, .bad, .bad, .bad, .bad, .bad, .bad, .bad, .bad, .bad, .bad, .bad, .bad, .bad, .bad, .bad, .bad, .bad], [.box 32 [.sc (.int .i64 x0_kind), .sc (.int .i64 x0_n), .sc (.string x0_s), .lit 9 false x0_keys, .lit 32 false x0_kids]]⟩ = some (.ret, ⟨[.bad, .bad, .bad, .bad, .sc (.int .i64 r1), .bad, .bad, .bad, .bad, .bad, .bad, .bad, .bad, .bad, .bad, .bad, .bad, .bad, .bad, .bad, .bad, .bad, .bad, .bad, .bad, .bad, .bad, .bad, .bad, .bad, .bad, .bad, .bad, .bad, .bad, .bad, .bad, .bad, .bad, .bad, .bad, .bad, .bad, .bad, .bad, .bad, .bad, .bad, .bad, .bad, .bad, .bad, .bad, .bad, .bad, .bad, .bad, .bad, .bad, .bad, .bad, .bad, .bad, .bad, .bad, .bad, .bad, .bad, .bad, .bad, .bad, .bad, .bad, .bad, .bad, .bad, .bad, .bad, .bad, .bad, .bad, .bad, .bad], [.box 32 [.sc (.int .i64 x0_kind), .sc (.int .i64 x0_n), .sc (.string x0_s), .lit 9 false x0_keys, .lit 32 false x0_kids]]⟩) :=
  r37_1_0_1 (iadd := Ops.std.iadd) (isub := Ops.std.isub) (imul := Ops.std.imul) (iquo := Ops.std.iquo) (irem := Ops.std.irem) (ibit := Ops.std.ibit) (ishl := Ops.std.ishl) (ishr := Ops.std.ishr) (iwrap := Ops.std.iwrap) (ieq := Ops.std.ieq) (ilt := Ops.std.ilt) (ile := Ops.std.ile) (beq := Ops.std.beq) (seq := Ops.std.seq) (slt := Ops.std.slt) (sapp := Ops.std.sapp) (slen := Ops.std.slen) (sget := Ops.std.sget) (ssub := Ops.std.ssub) (llen := Ops.std.llen) (lget := Ops.std.lget) (lset := Ops.std.lset) (lapp := Ops.std.lapp) (lsub := Ops.std.lsub) (room := Ops.std.room) (call := (lim F pr).call) (loop := (lim F pr).loop) (prim := pr)  x0_kind x0_n x0_s x0_keys x0_kids x1 t8 x_kind x_n x_s x_keys x_kids r1 rfl h1 h2 h3 h4

theorem r37_1_0_2L (x0_kind : Int) (x0_n : Int) (x0_s : ByteArray) (x0_keys : List AV) (x0_kids : List AV) (x1 : Int) (t8 : Int) (h1 : Ops.std.ilt t8 (Ops.std.llen x0_kids) = false) : Ifc.round (lim F pr) [2, 1, 8] 1 b37_1 ⟨[.bad, .sc (.int .i64 x1), .bptr 0 0, .bad, .bad, .bad, .bad, .bad, .sc (.int .i64 t8), .bad, .bad, .bad, .bad, .bad, .bad, .bad, .bad, .bad, .bad, .bad, .bad, .bad, .bad, .bad, .bad, .bad, .bad, .bad, .bad, .bad, .bad, .bad, .bad, .bad, .bad, .bad, .bad, .bad, .bad, .bad, .bad, .bad, .bad, .bad, .bad, .bad, .bad, .bad, .bad, .bad, .bad, .bad, .bad, .bad, .bad, .bad, .bad, .bad, .bad, .bad, .bad, .bad, .bad, .bad, .bad, .bad, .bad, .bad, .bad, .bad, .bad, .bad, .bad, .bad, .bad, .bad, .bad, .bad, .bad, .bad, .bad, .bad, .bad], [.box 32 [.sc (.int .i64 x0_kind), .sc (.int .i64 x0_n), .sc (.string x0_s), .lit 9 false x0_keys, .lit 32 false x0_kids]]⟩ = some (.brk 2, ⟨[.bad, .bad, .bad, .bad, .bad, .bad, .bad, .bad, .bad, .bad, .bad, .bad, .bad, .bad, .bad, .bad, .bad, .bad, .bad, .bad, .bad, .bad, .bad, .bad, .bad, .bad, .bad, .bad, .bad, .bad, .bad, .bad, .bad, .bad, .bad, .bad, .bad, .bad, .bad, .bad, .bad, .bad, .bad, .bad, .bad, .bad, .bad, .bad, .bad, .bad, .bad, .bad, .bad, .bad, .bad, .bad, .bad, .bad, .bad, .bad, .bad, .bad, .bad, .bad, .bad, .bad, .bad, .bad, .bad, .bad, .bad, .bad, .bad, .bad, .bad, .bad, .bad, .bad, .bad, .bad, .bad, .bad, .bad], [.box 32 [.sc (.int .i64 x0_kind), .sc (.int .i64 x0_n), .sc (.string x0_s), .lit 9 false x0_keys, .lit 32 false x0_kids]]⟩) :=
  r37_1_0_2 (iadd := Ops.std.iadd) (isub := Ops.std.isub) (imul := Ops.std.imul) (iquo := Ops.std.iquo) (irem := Ops.std.irem) (ibit := Ops.std.ibit) (ishl := Ops.std.ishl) (ishr := Ops.std.ishr) (iwrap := Ops.std.iwrap) (ieq := Ops.std.ieq) (ilt := Ops.std.ilt) (ile := Ops.std.ile) (beq := Ops.std.beq) (seq := Ops.std.seq) (slt := Ops.std.slt) (sapp := Ops.std.sapp) (slen := Ops.std.slen) (sget := Ops.std.sget) (ssub := Ops.std.ssub) (llen := Ops.std.llen) (lget := Ops.std.lget) (lset := Ops.std.lset) (lapp := Ops.std.lapp) (lsub := Ops.std.lsub) (room := Ops.std.room) (call := (lim F pr).call) (loop := (lim F pr).loop) (prim := pr)  x0_kind x0_n x0_s x0_keys x0_kids x1 t8  h1

theorem p47_0L (x0_kind : Int) (x0_n : Int) (x0_s : ByteArray) (x0_keys : List AV) (x0_kids : List AV) (x1 : Int) (h1 : Ops.std.ilt 8 x1 = true) : runFn (lim F pr) g47 [.agg [.sc (.int .i64 x0_kind), .sc (.int .i64 x0_n), .sc (.string x0_s), .lit 9 false x0_keys, .lit 32 false x0_kids], .sc (.int .i64 x1)] [] = some (.sc (.int .i64 6), []) :=
  p47_0 (iadd := Ops.std.iadd) (isub := Ops.std.isub) (imul := Ops.std.imul) (iquo := Ops.std.iquo) (irem := Ops.std.irem) (ibit := Ops.std.ibit) (ishl := Ops.std.ishl) (ishr := Ops.std.ishr) (iwrap := Ops.std.iwrap) (ieq := Ops.std.ieq) (ilt := Ops.std.ilt) (ile := Ops.std.ile) (beq := Ops.std.beq) (seq := Ops.std.seq) (slt := Ops.std.slt) (sapp := Ops.std.sapp) (slen := Ops.std.slen) (sget := Ops.std.sget) (ssub := Ops.std.ssub) (llen := Ops.std.llen) (lget := Ops.std.lget) (lset := Ops.std.lset) (lapp := Ops.std.lapp) (lsub := Ops.std.lsub) (room := Ops.std.room) (call := (lim F pr).call) (loop := (lim F pr).loop) (prim := pr) b47_0 x0_kind x0_n x0_s x0_keys x0_kids x1  h1

theorem p47_1L (x0_kind : Int) (x0_n : Int) (x0_s : ByteArray) (x0_keys : List AV) (x0_kids : List AV) (x1 : Int) (h1 : Ops.std.ilt 8 x1 = false) (h2 : Ops.std.ilt x0_kind 1 = true) : runFn (lim F pr) g47 [.agg [.sc (.int .i64 x0_kind), .sc (.int .i64 x0_n), .sc (.string x0_s), .lit 9 false x0_keys, .lit 32 false x0_kids], .sc (.int .i64 x1)] [] = some (.sc (.int .i64 9), []) :=
  p47_1 (iadd := Ops.std.iadd) (isub := Ops.std.isub) (imul := Ops.std.imul) (iquo := Ops.std.iquo) (irem := Ops.std.irem) (ibit := Ops.std.ibit) (ishl := Ops.std.ishl) (ishr := Ops.std.ishr) (iwrap := Ops.std.iwrap) (ieq := Ops.std.ieq) (ilt := Ops.std.ilt) (ile := Ops.std.ile) (beq := Ops.std.beq) (seq := Ops.std.seq) (slt := Ops.std.slt) (sapp := Ops.std.sapp) (slen := Ops.std.slen) (sget := Ops.std.sget) (ssub := Ops.std.ssub) (llen := Ops.std.llen) (lget := Ops.std.lget) (lset := Ops.std.lset) (lapp := Ops.std.lapp) (lsub := Ops.std.lsub) (room := Ops.std.room) (call := (lim F pr).call) (loop := (lim F pr).loop) (prim := pr) b47_0 x0_kind x0_n x0_s x0_keys x0_kids x1  h1 h2

theorem p47_2L (x0_kind : Int) (x0_n : Int) (x0_s : ByteArray) (x0_keys : List AV) (x0_kids : List AV) (x1 : Int) (h1 : Ops.std.ilt 8 x1 = false) (h2 : Ops.std.ilt x0_kind 1 = false) (h3 : Ops.std.ilt 4 x0_kind = true) : runFn (lim F pr) g47 [.agg [.sc (.int .i64 x0_kind), .sc (.int .i64 x0_n), .sc (.string x0_s), .lit 9 false x0_keys, .lit 32 false x0_kids], .sc (.int .i64 x1)] [] = some (.sc (.int .i64 9), []) :=
  p47_2 (iadd := Ops.std.iadd) (isub := Ops.std.isub) (imul := Ops.std.imul) (iquo := Ops.std.iquo) (irem := Ops.std.irem) (ibit := Ops.std.ibit) (ishl := Ops.std.ishl) (ishr := Ops.std.ishr) (iwrap := Ops.std.iwrap) (ieq := Ops.std.ieq) (ilt := Ops.std.ilt) (ile := Ops.std.ile) (beq := Ops.std.beq) (seq := Ops.std.seq) (slt := Ops.std.slt) (sapp := Ops.std.sapp) (slen := Ops.std.slen) (sget := Ops.std.sget) (ssub := Ops.std.ssub) (llen := Ops.std.llen) (lget := Ops.std.lget) (lset := Ops.std.lset) (lapp := Ops.std.lapp) (lsub := Ops.std.lsub) (room := Ops.std.room) (call := (lim F pr).call) (loop := (lim F pr).loop) (prim := pr) b47_0 x0_kind x0_n x0_s x0_keys x0_kids x1  h1 h2 h3

theorem p47_3L (x0_kind : Int) (x0_n : Int) (x0_s : ByteArray) (x0_keys : List AV) (x0_kids : List AV) (x1 : Int) (r : Bool) (r1 : Bool) (h1 : Ops.std.ilt 8 x1 = false) (h2 : Ops.std.ilt x0_kind 1 = false) (h3 : Ops.std.ilt 4 x0_kind = false) (h4 : (lim F pr).call 55 [.agg [.sc (.int .i64 x0_kind), .sc (.int .i64 x0_n), .sc (.string x0_s), .lit 9 false x0_keys, .lit 32 false x0_kids]] [] = some (.sc (.bool r), [])) (h5 : r = true) (h6 : (lim F pr).call 56 [.sc (.string x0_s)] [] = some (.sc (.bool r1), [])) (h7 : r1 = true) : runFn (lim F pr) g47 [.agg [.sc (.int .i64 x0_kind), .sc (.int .i64 x0_n), .sc (.string x0_s), .lit 9 false x0_keys, .lit 32 false x0_kids], .sc (.int .i64 x1)] [] = some (.sc (.int .i64 5), []) :=
  p47_3 (iadd := Ops.std.iadd) (isub := Ops.std.isub) (imul := Ops.std.imul) (iquo := Ops.std.iquo) (irem := Ops.std.irem) (ibit := Ops.std.ibit) (ishl := Ops.std.ishl) (ishr := Ops.std.ishr) (iwrap := Ops.std.iwrap) (ieq := Ops.std.ieq) (ilt := Ops.std.ilt) (ile := Ops.std.ile) (beq := Ops.std.beq) (seq := Ops.std.seq) (slt := Ops.std.slt) (sapp := Ops.std.sapp) (slen := Ops.std.slen) (sget := Ops.std.sget) (ssub := Ops.std.ssub) (llen := Ops.std.llen) (lget := Ops.std.lget) (lset := Ops.std.lset) (lapp := Ops.std.lapp) (lsub := Ops.std.lsub) (room := Ops.std.room) (call := (lim F pr).call) (loop := (lim F pr).loop) (prim := pr) b47_0 x0_kind x0_n x0_s x0_keys x0_kids x1 r r1 rfl rfl h1 h2 h3 h4 h5 h6 h7

theorem p47_4L (x0_kind : Int) (x0_n : Int) (x0_s : ByteArray) (x0_keys : List AV) (x0_kids : List AV) (x1 : Int) (r : Bool) (r1 : Bool) (r2 : Bool) (h1 : Ops.std.ilt 8 x1 = false) (h2 : Ops.std.ilt x0_kind 1 = false) (h3 : Ops.std.ilt 4 x0_kind = false) (h4 : (lim F pr).call 55 [.agg [.sc (.int .i64 x0_kind), .sc (.int .i64 x0_n), .sc (.string x0_s), .lit 9 false x0_keys, .lit 32 false x0_kids]] [] = some (.sc (.bool r), [])) (h5 : r = true) (h6 : (lim F pr).call 56 [.sc (.string x0_s)] [] = some (.sc (.bool r1), [])) (h7 : r1 = false) (h8 : (lim F pr).call 57 [.lit 9 false x0_keys, .fn 56 []] [] = some (.sc (.bool r2), [])) (h9 : r2 = true) : runFn (lim F pr) g47 [.agg [.sc (.int .i64 x0_kind), .sc (.int .i64 x0_n), .sc (.string x0_s), .lit 9 false x0_keys, .lit 32 false x0_kids], .sc (.int .i64 x1)] [] = some (.sc (.int .i64 5), []) :=
  p47_4 (iadd := Ops.std.iadd) (isub := Ops.std.isub) (imul := Ops.std.imul) (iquo := Ops.std.iquo) (irem := Ops.std.irem) (ibit := Ops.std.ibit) (ishl := Ops.std.ishl) (ishr := Ops.std.ishr) (iwrap := Ops.std.iwrap) (ieq := Ops.std.ieq) (ilt := Ops.std.ilt) (ile := Ops.std.ile) (beq := Ops.std.beq) (seq := Ops.std.seq) (slt := Ops.std.slt) (sapp := Ops.std.sapp) (slen := Ops.std.slen) (sget := Ops.std.sget) (ssub := Ops.std.ssub) (llen := Ops.std.llen) (lget := Ops.std.lget) (lset := Ops.std.lset) (lapp := Ops.std.lapp) (lsub := Ops.std.lsub) (room := Ops.std.room) (call := (lim F pr).call) (loop := (lim F pr).loop) (prim := pr) b47_0 x0_kind x0_n x0_s x0_keys x0_kids x1 r r1 r2 rfl rfl rfl h1 h2 h3 h4 h5 h6 h7 h8 h9

theorem p47_5L (x0_kind : Int) (x0_n : Int) (x0_s : ByteArray) (x0_keys : List AV) (x0_kids : List AV) (x1 : Int) (r : Bool) (r1 : Bool) (r2 : Bool) (h1 : Ops.std.ilt 8 x1 = false) (h2 : Ops.std.ilt x0_kind 1 = false) (h3 : Ops.std.ilt 4 x0_kind = false) (h4 : (lim F pr).call 55 [.agg [.sc (.int .i64 x0_kind), .sc (.int .i64 x0_n), .sc (.string x0_s), .lit 9 false x0_keys, .lit 32 false x0_kids]] [] = some (.sc (.bool r), [])) (h5 : r = true) (h6 : (lim F pr).call 56 [.sc (.string x0_s)] [] = some (.sc (.bool r1), [])) (h7 : r1 = false) (h8 : (lim F pr).call 57 [.lit 9 false x0_keys, .fn 56 []] [] = some (.sc (.bool r2), [])) (h9 : r2 = false) (h10 : (lim F pr).loop [2, 5] 1 b47_0 ⟨[.bad, .bad, .bptr 0 0, .bad, .bad, .sc (.int .i64 1), .bad, .bad, .bad, .bad, .bad, .bad, .bad, .bad, .bad, .bad, .bad, .bad, .bad, .bad, .bad, .bad, .bad, .bad, .bad, .bad, .bad, .bad, .bad, .bad, .bad, .bad, .bad, .bad, .bad, .bad, .bad, .bad, .bad, .bad, .bad, .bad, .bad, .bad, .bad, .bad, .bad, .bad, .bad, .bad], [.box 32 [.sc (.int .i64 x0_kind), .sc (.int .i64 x0_n), .sc (.string x0_s), .lit 9 false x0_keys, .lit 32 false x0_kids]]⟩ = some (.ret, ⟨[.bad, .bad, .bad, .bad, .sc (.int .i64 3), .bad, .bad, .bad, .bad, .bad, .bad, .bad, .bad, .bad, .bad, .bad, .bad, .bad, .bad, .bad, .bad, .bad, .bad, .bad, .bad, .bad, .bad, .bad, .bad, .bad, .bad, .bad, .bad, .bad, .bad, .bad, .bad, .bad, .bad, .bad, .bad, .bad, .bad, .bad, .bad, .bad, .bad, .bad, .bad, .bad], [.box 32 [.sc (.int .i64 x0_kind), .sc (.int .i64 x0_n), .sc (.string x0_s), .lit 9 false x0_keys, .lit 32 false x0_kids]]⟩)) : runFn (lim F pr) g47 [.agg [.sc (.int .i64 x0_kind), .sc (.int .i64 x0_n), .sc (.string x0_s), .lit 9 false x0_keys, .lit 32 false x0_kids], .sc (.int .i64 x1)] [] = some (.sc (.int .i64 3), []) :=
  p47_5 (iadd := Ops.std.iadd) (isub := Ops.std.isub) (imul := Ops.std.imul) (iquo := Ops.std.iquo) (irem := Ops.std.irem) (ibit := Ops.std.ibit) (ishl := Ops.std.ishl) (ishr := Ops.std.ishr) (iwrap := Ops.std.iwrap) (ieq := Ops.std.ieq) (ilt := Ops.std.ilt) (ile := Ops.std.ile) (beq := Ops.std.beq) (seq := Ops.std.seq) (slt := Ops.std.slt) (sapp := Ops.std.sapp) (slen := Ops.std.slen) (sget := Ops.std.sget) (ssub := Ops.std.ssub) (llen := Ops.std.llen) (lget := Ops.std.lget) (lset := Ops.std.lset) (lapp := Ops.std.lapp) (lsub := Ops.std.lsub) (room := Ops.std.room) (call := (lim F pr).call) (loop := (lim F pr).loop) (prim := pr) b47_0 x0_kind x0_n x0_s x0_keys x0_kids x1 r r1 r2 rfl rfl rfl h1 h2 h3 h4 h5 h6 h7 h8 h9 h10

theorem p47_6L (x0_kind : Int) (x0_n : Int) (x0_s : ByteArray) (x0_keys : List AV) (x0_kids : List AV) (x1 : Int) (r : Bool) (r1 : Bool) (r2 : Bool) (h1 : Ops.std.ilt 8 x1 = false) (h2 : Ops.std.ilt x0_kind 1 = false) (h3 : Ops.std.ilt 4 x0_kind = false) (h4 : (lim F pr).call 55 [.agg [.sc (.int .i64 x0_kind), .sc (.int .i64 x0_n), .sc (.string x0_s), .lit 9 false x0_keys, .lit 32 false x0_kids]] [] = some (.sc (.bool r), [])) (h5 : r = true) (h6 : (lim F pr).call 56 [.sc (.string x0_s)] [] = some (.sc (.bool r1), [])) (h7 : r1 = false) (h8 : (lim F pr).call 57 [.lit 9 false x0_keys, .fn 56 []] [] = some (.sc (.bool r2), [])) (h9 : r2 = false) (h10 : (lim F pr).loop [2, 5] 1 b47_0 ⟨[.bad, .bad, .bptr 0 0, .bad, .bad, .sc (.int .i64 1), .bad, .bad, .bad, .bad, .bad, .bad, .bad, .bad, .bad, .bad, .bad, .bad, .bad, .bad, .bad, .bad, .bad, .bad, .bad, .bad, .bad, .bad, .bad, .bad, .bad, .bad, .bad, .bad, .bad, .bad, .bad, .bad, .bad, .bad, .bad, .bad, .bad, .bad, .bad, .bad, .bad, .bad, .bad, .bad], [.box 32 [.sc (.int .i64 x0_kind), .sc (.int .i64 x0_n), .sc (.string x0_s), .lit 9 false x0_keys, .lit 32 false x0_kids]]⟩ = some (.brk 1, ⟨[.bad, .bad, .bad, .bad, .bad, .bad, .bad, .bad, .bad, .bad, .bad, .bad, .bad, .bad, .bad, .bad, .bad, .bad, .bad, .bad, .bad, .bad, .bad, .bad, .bad, .bad, .bad, .bad, .bad, .bad, .bad, .bad, .bad, .bad, .bad, .bad, .bad, .bad, .bad, .bad, .bad, .bad, .bad, .bad, .bad, .bad, .bad, .bad, .bad, .bad], [.box 32 [.sc (.int .i64 x0_kind), .sc (.int .i64 x0_n), .sc (.string x0_s), .lit 9 false x0_keys, .lit 32 false x0_kids]]⟩)) : runFn (lim F pr) g47 [.agg [.sc (.int .i64 x0_kind), .sc (.int .i64 x0_n), .sc (.string x0_s), .lit 9 false x0_keys, .lit 32 false x0_kids], .sc (.int .i64 x1)] [] = some (.sc (.int .i64 0), []) :=
  p47_6 (iadd := Ops.std.iadd) (isub := Ops.std.isub) (imul := Ops.std.imul) (iquo := Ops.std.iquo) (irem := Ops.std.irem) (ibit := Ops.std.ibit) (ishl := Ops.std.ishl) (ishr := Ops.std.ishr) (iwrap := Ops.std.iwrap) (ieq := Ops.std.ieq) (ilt := Ops.std.ilt) (ile := Ops.std.ile) (beq := Ops.std.beq) (seq := Ops.std.seq) (slt := Ops.std.slt) (sapp := Ops.std.sapp) (slen := Ops.std.slen) (sget := Ops.std.sget) (ssub := Ops.std.ssub) (llen := Ops.std.llen) (lget := Ops.std.lget) (lset := Ops.std.lset) (lapp := Ops.std.lapp) (lsub := Ops.std.lsub) (room := Ops.std.room) (call := (lim F pr).call) (loop := (lim F pr).loop) (prim := pr) b47_0 x0_kind x0_n x0_s x0_keys x0_kids x1 r r1 r2 rfl rfl rfl h1 h2 h3 h4 h5 h6 h7 h8 h9 h10

theorem p47_7L (x0_kind : Int) (x0_n : Int) (x0_s : ByteArray) (x0_keys : List AV) (x0_kids : List AV) (x1 : Int) (r : Bool) (h1 : Ops.std.ilt 8 x1 = false) (h2 : Ops.std.ilt x0_kind 1 = false) (h3 : Ops.std.ilt 4 x0_kind = false) (h4 : (lim F pr).call 55 [.agg [.sc (.int .i64 x0_kind), .sc (.int .i64 x0_n), .sc (.string x0_s), .lit 9 false x0_keys, .lit 32 false x0_kids]] [] = some (.sc (.bool r), [])) (h5 : r = false) : runFn (lim F pr) g47 [.agg [.sc (.int .i64 x0_kind), .sc (.int .i64 x0_n), .sc (.string x0_s), .lit 9 false x0_keys, .lit 32 false x0_kids], .sc (.int .i64 x1)] [] = some (.sc (.int .i64 1), []) :=
  p47_7 (iadd := Ops.std.iadd) (isub := Ops.std.isub) (imul := Ops.std.imul) (iquo := Ops.std.iquo) (irem := Ops.std.irem) (ibit := Ops.std.ibit) (ishl := Ops.std.ishl) (ishr := Ops.std.ishr) (iwrap := Ops.std.iwrap) (ieq := Ops.std.ieq) (ilt := Ops.std.ilt) (ile := Ops.std.ile) (beq := Ops.std.beq) (seq := Ops.std.seq) (slt := Ops.std.slt) (sapp := Ops.std.sapp) (slen := Ops.std.slen) (sget := Ops.std.sget) (ssub := Ops.std.ssub) (llen := Ops.std.llen) (lget := Ops.std.lget) (lset := Ops.std.lset) (lapp := Ops.std.lapp) (lsub := Ops.std.lsub) (room := Ops.std.room) (call := (lim F pr).call) (loop := (lim F pr).loop) (prim := pr) b47_0 x0_kind x0_n x0_s x0_keys x0_kids x1 r rfl h1 h2 h3 h4 h5

abbrev W47_0_0 (x0_kind : Int) (x0_n : Int) (x0_s : ByteArray) (x0_keys : List AV) (x0_kids : List AV) : X × St := (.ret, ⟨[.bad, .bad, .bad, .bad, .sc (.int .i64 3), .bad, .bad, .bad, .bad, .bad, .bad, .bad, .bad, .bad, .bad, .bad, .bad, .bad, .bad, .bad, .bad, .bad, .bad, .bad, .bad, .bad, .bad, .bad, .bad, .bad, .bad, .bad, .bad, .bad, .bad, .bad, .bad, .bad, .bad, .bad, .bad, .bad, .bad, .bad, .bad, .bad, .bad, .bad, .bad, .bad], [.box 32 [.sc (.int .i64 x0_kind), .sc (.int .i64 x0_n), .sc (.string x0_s), .lit 9 false x0_keys, .lit 32 false x0_kids]]⟩)

abbrev W47_0_1 (x0_kind : Int) (x0_n : Int) (x0_s : ByteArray) (x0_keys : List AV) (x0_kids : List AV) : X × St := (.brk 1, ⟨[.bad, .bad, .bad, .bad, .bad, .bad, .bad, .bad, .bad, .bad, .bad, .bad, .bad, .bad, .bad, .bad, .bad, .bad, .bad, .bad, .bad, .bad, .bad, .bad, .bad, .bad, .bad, .bad, .bad, .bad, .bad, .bad, .bad, .bad, .bad, .bad, .bad, .bad, .bad, .bad, .bad, .bad, .bad, .bad, .bad, .bad, .bad, .bad, .bad, .bad], [.box 32 [.sc (.int .i64 x0_kind), .sc (.int .i64 x0_n), .sc (.string x0_s), .lit 9 false x0_keys, .lit 32 false x0_kids]]⟩)

abbrev H47_0_0 (x0_kind : Int) (x0_n : Int) (x0_s : ByteArray) (x0_keys : List AV) (x0_kids : List AV) (t5 : Int) : St := ⟨[.bad, .bad, .bptr 0 0, .bad, .bad, .sc (.int .i64 t5), .bad, .bad, .bad, .bad, .bad, .bad, .bad, .bad, .bad, .bad, .bad, .bad, .bad, .bad, .bad, .bad, .bad, .bad, .bad, .bad, .bad, .bad, .bad, .bad, .bad, .bad, .bad, .bad, .bad, .bad, .bad, .bad, .bad, .bad, .bad, .bad, .bad, .bad, .bad, .bad, .bad, .bad, .bad, .bad], [.box 32 [.sc (.int .i64 x0_kind), .sc (.int .i64 x0_n), .sc (.string x0_s), .lit 9 false x0_keys, .lit 32 false x0_kids]]⟩

theorem r47_0_0_0L (x0_kind : Int) (x0_n : Int) (x0_s : ByteArray) (x0_keys : List AV) (x0_kids : List AV) (t5 : Int) (x : ByteArray) (x2 : ByteArray) (h1 : Ops.std.ilt t5 (Ops.std.llen x0_keys) = true) (h2 : Ops.std.lget x0_keys (Ops.std.isub .i64 t5 1) = some (.sc (.string x))) (h3 : Ops.std.lget x0_keys t5 = some (.sc (.string x2))) (h4 : Ops.std.slt x x2 = true) : Ifc.round (lim F pr) [2, 5] 1 b47_0 ⟨[.bad, .bad, .bptr 0 0, .bad, .bad, .sc (.int .i64 t5), .bad, .bad, .bad, .bad, .bad, .bad, .bad, .bad, .bad, .bad, .bad, .bad, .bad, .bad, .bad, .bad, .bad, .bad, .bad, .bad, .bad, .bad, .bad, .bad, .bad, .bad, .bad, .bad, .bad, .bad, .bad, .bad, .bad, .bad, .bad, .bad, .bad, .bad, .bad, .bad, .bad, .bad, .bad, .bad], [.box 32 [.sc (.int .i64 x0_kind), .sc (.int .i64 x0_n), .sc (.string x0_s), .lit 9 false x0_keys, .lit 32 false x0_kids]]⟩ = (lim F pr).loop [2, 5] 1 b47_0 ⟨[.bad, .bad, .bptr 0 0, .bad, .bad, .sc (.int .i64 (Ops.std.iadd .i64 t5 1)), .bad, .bad, .bad, .bad, .bad, .bad, .bad, .bad, .bad, .bad, .bad, .bad, .bad, .bad, .bad, .bad, .bad, .bad, .bad, .bad, .bad, .bad, .bad, .bad, .bad, .bad, .bad, .bad, .bad, .bad, .bad, .bad, .bad, .bad, .bad, .bad, .bad, .bad, .bad, .bad, .bad, .bad, .bad, .bad], [.box 32 [.sc (.int .i64 x0_kind), .sc (.int .i64 x0_n), .sc (.string x0_s), .lit 9 false x0_keys, .lit 32 false x0_kids]]⟩ :=
  r47_0_0_0 (iadd := Ops.std.iadd) (isub := Ops.std.isub) (imul := Ops.std.imul) (iquo := Ops.std.iquo) (irem := Ops.std.irem) (ibit := Ops.std.ibit) (ishl := Ops.std.ishl) (ishr := Ops.std.ishr) (iwrap := Ops.std.iwrap) (ieq := Ops.std.ieq) (ilt := Ops.std.ilt) (ile := Ops.std.ile) (beq := Ops.std.beq) (seq := Ops.std.seq) (slt := Ops.std.slt) (sapp := Ops.std.sapp) (slen := Ops.std.slen) (sget := Ops.std.sget) (ssub := Ops.std.ssub) (llen := Ops.std.llen) (lget := Ops.std.lget) (lset := Ops.std.lset) (lapp := Ops.std.lapp) (lsub := Ops.std.lsub) (room := Ops.std.room) (call := (lim F pr).call) (loop := (lim F pr).loop) (prim := pr)  x0_kind x0_n x0_s x0_keys x0_kids t5 x x2  h1 h2 h3 h4

theorem r47_0_0_1L (x0_kind : Int) (x0_n : Int) (x0_s : ByteArray) (x0_keys : List AV) (x0_kids : List AV) (t5 : Int) (x : ByteArray) (x2 : ByteArray) (h1 : Ops.std.ilt t5 (Ops.std.llen x0_keys) = true) (h2 : Ops.std.lget x0_keys (Ops.std.isub .i64 t5 1) = some (.sc (.string x))) (h3 : Ops.std.lget x0_keys t5 = some (.sc (.string x2))) (h4 : Ops.std.slt x x2 = false) : Ifc.round (lim F pr) [2, 5] 1 b47_0 ⟨[.bad, .bad, .bptr 0 0, .bad, .bad, .sc (.int .i64 t5), .bad, .bad, .bad, .bad, .bad, .bad, .bad, .bad, .bad, .bad, .bad, .bad, .bad, .bad, .bad, .bad, .bad, .bad, .bad, .bad, .bad, .bad, .bad, .bad, .bad, .bad, .bad, .bad, .bad, .bad, .bad, .bad, .bad, .bad, .bad, .bad, .bad, .bad, .bad, .bad, .bad, .bad, .bad, .bad], [.box 32 [.sc (.int .i64 x0_kind), .sc (.int .i64 x0_n), .sc (.string x0_s), .lit 9 false x0_keys, .lit 32 false x0_kids]]⟩ = some (.ret, ⟨[.bad, .bad, .bad, .bad, .sc (.int .i64 3), .bad, .bad, .bad, .bad, .bad, .bad, .bad, .bad, .bad, .bad, .bad, .bad, .bad, .bad, .bad, .bad, .bad, .bad, .bad, .bad, .bad, .bad, .bad, .bad, .bad, .bad, .bad, .bad, .bad, .bad, .bad, .bad, .bad, .bad, .bad, .bad, .bad, .bad, .bad, .bad, .bad, .bad, .bad, .bad, .bad], [.box 32 [.sc (.int .i64 x0_kind), .sc (.int .i64 x0_n), .sc (.string x0_s), .lit 9 false x0_keys, .lit 32 false x0_kids]]⟩) :=
  r47_0_0_1 (iadd := Ops.std.iadd) (isub := Ops.std.isub) (imul := Ops.std.imul) (iquo := Ops.std.iquo) (irem := Ops.std.irem) (ibit := Ops.std.ibit) (ishl := Ops.std.ishl) (ishr := Ops.std.ishr) (iwrap := Ops.std.iwrap) (ieq := Ops.std.ieq) (ilt := Ops.std.ilt) (ile := Ops.std.ile) (beq := Ops.std.beq) (seq := Ops.std.seq) (slt := Ops.std.slt) (sapp := Ops.std.sapp) (slen := Ops.std.slen) (sget := Ops.std.sget) (ssub := Ops.std.ssub) (llen := Ops.std.llen) (lget := Ops.std.lget) (lset := Ops.std.lset) (lapp := Ops.std.lapp) (lsub := Ops.std.lsub) (room := Ops.std.room) (call := (lim F pr).call) (loop := (lim F pr).loop) (prim := pr)  x0_kind x0_n x0_s x0_keys x0_kids t5 x x2  h1 h2 h3 h4

theorem r47_0_0_2L (x0_kind : Int) (x0_n : Int) (x0_s : ByteArray) (x0_keys : List AV) (x0_kids : List AV) (t5 : Int) (h1 : Ops.std.ilt t5 (Ops.std.llen x0_keys) = false) : Ifc.round (lim F pr) [2, 5] 1 b47_0 ⟨[.bad, .bad, .bptr 0 0, .bad, .bad, .sc (.int .i64 t5), .bad, .bad, .bad, .bad, .bad, .bad, .bad, .bad, .bad, .bad, .bad, .bad, .bad, .bad, .bad, .bad, .bad, .bad, .bad, .bad, .bad, .bad, .bad, .bad, .bad, .bad, .bad, .bad, .bad, .bad, .bad, .bad, .bad, .bad, .bad, .bad, .bad, .bad, .bad, .bad, .bad, .bad, .bad, .bad], [.box 32 [.sc (.int .i64 x0_kind), .sc (.int .i64 x0_n), .sc (.string x0_s), .lit 9 false x0_keys, .lit 32 false x0_kids]]⟩ = some (.brk 1, ⟨[.bad, .bad, .bad, .bad, .bad, .bad, .bad, .bad, .bad, .bad, .bad, .bad, .bad, .bad, .bad, .bad, .bad, .bad, .bad, .bad, .bad, .bad, .bad, .bad, .bad, .bad, .bad, .bad, .bad, .bad, .bad, .bad, .bad, .bad, .bad, .bad, .bad, .bad, .bad, .bad, .bad, .bad, .bad, .bad, .bad, .bad, .bad, .bad, .bad, .bad], [.box 32 [.sc (.int .i64 x0_kind), .sc (.int .i64 x0_n), .sc (.string x0_s), .lit 9 false x0_keys, .lit 32 false x0_kids]]⟩) :=
  r47_0_0_2 (iadd := Ops.std.iadd) (isub := Ops.std.isub) (imul := Ops.std.imul) (iquo := Ops.std.iquo) (irem := Ops.std.irem) (ibit := Ops.std.ibit) (ishl := Ops.std.ishl) (ishr := Ops.std.ishr) (iwrap := Ops.std.iwrap) (ieq := Ops.std.ieq) (ilt := Ops.std.ilt) (ile := Ops.std.ile) (beq := Ops.std.beq) (seq := Ops.std.seq) (slt := Ops.std.slt) (sapp := Ops.std.sapp) (slen := Ops.std.slen) (sget := Ops.std.sget) (ssub := Ops.std.ssub) (llen := Ops.std.llen) (lget := Ops.std.lget) (lset := Ops.std.lset) (lapp := Ops.std.lapp) (lsub := Ops.std.lsub) (room := Ops.std.room) (call := (lim F pr).call) (loop := (lim F pr).loop) (prim := pr)  x0_kind x0_n x0_s x0_keys x0_kids t5  h1

theorem p48_0L (x0_kind : Int) (x0_n : Int) (x0_s : ByteArray) (x0_keys : List AV) (x0_kids : List AV) (h1 : Ops.std.ieq x0_kind 1 = true) (h2 : Ops.std.ieq x0_kind 2 = true) (h3 : Ops.std.ieq x0_kind 4 = true) (h4 : Ops.std.ilt x0_kind 3 = true) : runFn (lim F pr) g48 [.agg [.sc (.int .i64 x0_kind), .sc (.int .i64 x0_n), .sc (.string x0_s), .lit 9 false x0_keys, .lit 32 false x0_kids]] [] = some (.sc (.bool (Ops.std.ilt 0 (Ops.std.llen x0_kids))), []) :=
  p48_0 (iadd := Ops.std.iadd) (isub := Ops.std.isub) (imul := Ops.std.imul) (iquo := Ops.std.iquo) (irem := Ops.std.irem) (ibit := Ops.std.ibit) (ishl := Ops.std.ishl) (ishr := Ops.std.ishr) (iwrap := Ops.std.iwrap) (ieq := Ops.std.ieq) (ilt := Ops.std.ilt) (ile := Ops.std.ile) (beq := Ops.std.beq) (seq := Ops.std.seq) (slt := Ops.std.slt) (sapp := Ops.std.sapp) (slen := Ops.std.slen) (sget := Ops.std.sget) (ssub := Ops.std.ssub) (llen := Ops.std.llen) (lget := Ops.std.lget) (lset := Ops.std.lset) (lapp := Ops.std.lapp) (lsub := Ops.std.lsub) (room := Ops.std.room) (call := (lim F pr).call) (loop := (lim F pr).loop) (prim := pr)  x0_kind x0_n x0_s x0_keys x0_kids  h1 h2 h3 h4

theorem p48_1L (x0_kind : Int) (x0_n : Int) (x0_s : ByteArray) (x0_keys : List AV) (x0_kids : List AV) (h1 : Ops.std.ieq x0_kind 1 = true) (h2 : Ops.std.ieq x0_kind 2 = true) (h3 : Ops.std.ieq x0_kind 4 = true) (h4 : Ops.std.ilt x0_kind 3 = false) : runFn (lim F pr) g48 [.agg [.sc (.int .i64 x0_kind), .sc (.int .i64 x0_n), .sc (.string x0_s), .lit 9 false x0_keys, .lit 32 false x0_kids]] [] = some (.sc (.bool ((!(Ops.std.ieq (Ops.std.llen x0_keys) (Ops.std.llen x0_kids))))), []) :=
  p48_1 (iadd := Ops.std.iadd) (isub := Ops.std.isub) (imul := Ops.std.imul) (iquo := Ops.std.iquo) (irem := Ops.std.irem) (ibit := Ops.std.ibit) (ishl := Ops.std.ishl) (ishr := Ops.std.ishr) (iwrap := Ops.std.iwrap) (ieq := Ops.std.ieq) (ilt := Ops.std.ilt) (ile := Ops.std.ile) (beq := Ops.std.beq) (seq := Ops.std.seq) (slt := Ops.std.slt) (sapp := Ops.std.sapp) (slen := Ops.std.slen) (sget := Ops.std.sget) (ssub := Ops.std.ssub) (llen := Ops.std.llen) (lget := Ops.std.lget) (lset := Ops.std.lset) (lapp := Ops.std.lapp) (lsub := Ops.std.lsub) (room := Ops.std.room) (call := (lim F pr).call) (loop := (lim F pr).loop) (prim := pr)  x0_kind x0_n x0_s x0_keys x0_kids  h1 h2 h3 h4

theorem p48_2L (x0_kind : Int) (x0_n : Int) (x0_s : ByteArray) (x0_keys : List AV) (x0_kids : List AV) (h1 : Ops.std.ieq x0_kind 1 = true) (h2 : Ops.std.ieq x0_kind 2 = true) (h3 : Ops.std.ieq x0_kind 4 = false) (h4 : Ops.std.ilt 0 (Ops.std.llen x0_keys) = true) : runFn (lim F pr) g48 [.agg [.sc (.int .i64 x0_kind), .sc (.int .i64 x0_n), .sc (.string x0_s), .lit 9 false x0_keys, .lit 32 false x0_kids]] [] = some (.sc (.bool true), []) :=
  p48_2 (iadd := Ops.std.iadd) (isub := Ops.std.isub) (imul := Ops.std.imul) (iquo := Ops.std.iquo) (irem := Ops.std.irem) (ibit := Ops.std.ibit) (ishl := Ops.std.ishl) (ishr := Ops.std.ishr) (iwrap := Ops.std.iwrap) (ieq := Ops.std.ieq) (ilt := Ops.std.ilt) (ile := Ops.std.ile) (beq := Ops.std.beq) (seq := Ops.std.seq) (slt := Ops.std.slt) (sapp := Ops.std.sapp) (slen := Ops.std.slen) (sget := Ops.std.sget) (ssub := Ops.std.ssub) (llen := Ops.std.llen) (lget := Ops.std.lget) (lset := Ops.std.lset) (lapp := Ops.std.lapp) (lsub := Ops.std.lsub) (room := Ops.std.room) (call := (lim F pr).call) (loop := (lim F pr).loop) (prim := pr)  x0_kind x0_n x0_s x0_keys x0_kids  h1 h2 h3 h4

theorem p48_3L (x0_kind : Int) (x0_n : Int) (x0_s : ByteArray) (x0_keys : List AV) (x0_kids : List AV) (h1 : Ops.std.ieq x0_kind 1 = true) (h2 : Ops.std.ieq x0_kind 2 = true) (h3 : Ops.std.ieq x0_kind 4 = false) (h4 : Ops.std.ilt 0 (Ops.std.llen x0_keys) = false) (h5 : Ops.std.ilt x0_kind 3 = true) : runFn (lim F pr) g48 [.agg [.sc (.int .i64 x0_kind), .sc (.int .i64 x0_n), .sc (.string x0_s), .lit 9 false x0_keys, .lit 32 false x0_kids]] [] = some (.sc (.bool (Ops.std.ilt 0 (Ops.std.llen x0_kids))), []) :=
  p48_3 (iadd := Ops.std.iadd) (isub := Ops.std.isub) (imul := Ops.std.imul) (iquo := Ops.std.iquo) (irem := Ops.std.irem) (ibit := Ops.std.ibit) (ishl := Ops.std.ishl) (ishr := Ops.std.ishr) (iwrap := Ops.std.iwrap) (ieq := Ops.std.ieq) (ilt := Ops.std.ilt) (ile := Ops.std.ile) (beq := Ops.std.beq) (seq := Ops.std.seq) (slt := Ops.std.slt) (sapp := Ops.std.sapp) (slen := Ops.std.slen) (sget := Ops.std.sget) (ssub := Ops.std.ssub) (llen := Ops.std.llen) (lget := Ops.std.lget) (lset := Ops.std.lset) (lapp := Ops.std.lapp) (lsub := Ops.std.lsub) (room := Ops.std.room) (call := (lim F pr).call) (loop := (lim F pr).loop) (prim := pr)  x0_kind x0_n x0_s x0_keys x0_kids  h1 h2 h3 h4 h5

theorem p48_4L (x0_kind : Int) (x0_n : Int) (x0_s : ByteArray) (x0_keys : List AV) (x0_kids : List AV) (h1 : Ops.std.ieq x0_kind 1 = true) (h2 : Ops.std.ieq x0_kind 2 = true) (h3 : Ops.std.ieq x0_kind 4 = false) (h4 : Ops.std.ilt 0 (Ops.std.llen x0_keys) = false) (h5 : Ops.std.ilt x0_kind 3 = false) : runFn (lim F pr) g48 [.agg [.sc (.int .i64 x0_kind), .sc (.int .i64 x0_n), .sc (.string x0_s), .lit 9 false x0_keys, .lit 32 false x0_kids]] [] = some (.sc (.bool false), []) :=
  p48_4 (iadd := Ops.std.iadd) (isub := Ops.std.isub) (imul := Ops.std.imul) (iquo := Ops.std.iquo) (irem := Ops.std.irem) (ibit := Ops.std.ibit) (ishl := Ops.std.ishl) (ishr := Ops.std.ishr) (iwrap := Ops.std.iwrap) (ieq := Ops.std.ieq) (ilt := Ops.std.ilt) (ile := Ops.std.ile) (beq := Ops.std.beq) (seq := Ops.std.seq) (slt := Ops.std.slt) (sapp := Ops.std.sapp) (slen := Ops.std.slen) (sget := Ops.std.sget) (ssub := Ops.std.ssub) (llen := Ops.std.llen) (lget := Ops.std.lget) (lset := Ops.std.lset) (lapp := Ops.std.lapp) (lsub := Ops.std.lsub) (room := Ops.std.room) (call := (lim F pr).call) (loop := (lim F pr).loop) (prim := pr)  x0_kind x0_n x0_s x0_keys x0_kids  h1 h2 h3 h4 h5

theorem p48_5L (x0_kind : Int) (x0_n : Int) (x0_s : ByteArray) (x0_keys : List AV) (x0_kids : List AV) (h1 : Ops.std.ieq x0_kind 1 = true) (h2 : Ops.std.ieq x0_kind 2 = false) (h3 : Ops.std.seq x0_s ⟨#[]⟩ = true) (h4 : Ops.std.ieq x0_kind 4 = true) (h5 : Ops.std.ilt x0_kind 3 = true) : runFn (lim F pr) g48 [.agg [.sc (.int .i64 x0_kind), .sc (.int .i64 x0_n), .sc (.string x0_s), .lit 9 false x0_keys, .lit 32 false x0_kids]] [] = some (.sc (.bool (Ops.std.ilt 0 (Ops.std.llen x0_kids))), []) :=
  p48_5 (iadd := Ops.std.iadd) (isub := Ops.std.isub) (imul := Ops.std.imul) (iquo := Ops.std.iquo) (irem := Ops.std.irem) (ibit := Ops.std.ibit) (ishl := Ops.std.ishl) (ishr := Ops.std.ishr) (iwrap := Ops.std.iwrap) (ieq := Ops.std.ieq) (ilt := Ops.std.ilt) (ile := Ops.std.ile) (beq := Ops.std.beq) (seq := Ops.std.seq) (slt := Ops.std.slt) (sapp := Ops.std.sapp) (slen := Ops.std.slen) (sget := Ops.std.sget) (ssub := Ops.std.ssub) (llen := Ops.std.llen) (lget := Ops.std.lget) (lset := Ops.std.lset) (lapp := Ops.std.lapp) (lsub := Ops.std.lsub) (room := Ops.std.room) (call := (lim F pr).call) (loop := (lim F pr).loop) (prim := pr)  x0_kind x0_n x0_s x0_keys x0_kids  h1 h2 h3 h4 h5

theorem p48_6L (x0_kind : Int) (x0_n : Int) (x0_s : ByteArray) (x0_keys : List AV) (x0_kids : List AV) (h1 : Ops.std.ieq x0_kind 1 = true) (h2 : Ops.std.ieq x0_kind 2 = false) (h3 : Ops.std.seq x0_s ⟨#[]⟩ = true) (h4 : Ops.std.ieq x0_kind 4 = true) (h5 : Ops.std.ilt x0_kind 3 = false) : runFn (lim F pr) g48 [.agg [.sc (.int .i64 x0_kind), .sc (.int .i64 x0_n), .sc (.string x0_s), .lit 9 false x0_keys, .lit 32 false x0_kids]] [] = some (.sc (.bool ((!(Ops.std.ieq (Ops.std.llen x0_keys) (Ops.std.llen x0_kids))))), []) :=
  p48_6 (iadd := Ops.std.iadd) (isub := Ops.std.isub) (imul := Ops.std.imul) (iquo := Ops.std.iquo) (irem := Ops.std.irem) (ibit := Ops.std.ibit) (ishl := Ops.std.ishl) (ishr := Ops.std.ishr) (iwrap := Ops.std.iwrap) (ieq := Ops.std.ieq) (ilt := Ops.std.ilt) (ile := Ops.std.ile) (beq := Ops.std.beq) (seq := Ops.std.seq) (slt := Ops.std.slt) (sapp := Ops.std.sapp) (slen := Ops.std.slen) (sget := Ops.std.sget) (ssub := Ops.std.ssub) (llen := Ops.std.llen) (lget := Ops.std.lget) (lset := Ops.std.lset) (lapp := Ops.std.lapp) (lsub := Ops.std.lsub) (room := Ops.std.room) (call := (lim F pr).call) (loop := (lim F pr).loop) (prim := pr)  x0_kind x0_n x0_s x0_keys x0_kids  h1 h2 h3 h4 h5

theorem p48_7L (x0_kind : Int) (x0_n : Int) (x0_s : ByteArray) (x0_keys : List AV) (x0_kids : List AV) (h1 : Ops.std.ieq x0_kind 1 = true) (h2 : Ops.std.ieq x0_kind 2 = false) (h3 : Ops.std.seq x0_s ⟨#[]⟩ = true) (h4 : Ops.std.ieq x0_kind 4 = false) (h5 : Ops.std.ilt 0 (Ops.std.llen x0_keys) = true) : runFn (lim F pr) g48 [.agg [.sc (.int .i64 x0_kind), .sc (.int .i64 x0_n), .sc (.string x0_s), .lit 9 false x0_keys, .lit 32 false x0_kids]] [] = some (.sc (.bool true), []) :=
  p48_7 (iadd := Ops.std.iadd) (isub := Ops.std.isub) (imul := Ops.std.imul) (iquo := Ops.std.iquo) (irem := Ops.std.irem) (ibit := Ops.std.ibit) (ishl := Ops.std.ishl) (ishr := Ops.std.ishr) (iwrap := Ops.std.iwrap) (ieq := Ops.std.ieq) (ilt := Ops.std.ilt) (ile := Ops.std.ile) (beq := Ops.std.beq) (seq := Ops.std.seq) (slt := Ops.std.slt) (sapp := Ops.std.sapp) (slen := Ops.std.slen) (sget := Ops.std.sget) (ssub := Ops.std.ssub) (llen := Ops.std.llen) (lget := Ops.std.lget) (lset := Ops.std.lset) (lapp := Ops.std.lapp) (lsub := Ops.std.lsub) (room := Ops.std.room) (call := (lim F pr).call) (loop := (lim F pr).loop) (prim := pr)  x0_kind x0_n x0_s x0_keys x0_kids  h1 h2 h3 h4 h5

theorem p48_8L (x0_kind : Int) (x0_n : Int) (x0_s : ByteArray) (x0_keys : List AV) (x0_kids : List AV) (h1 : Ops.std.ieq x0_kind 1 = true) (h2 : Ops.std.ieq x0_kind 2 = false) (h3 : Ops.std.seq x0_s ⟨#[]⟩ = true) (h4 : Ops.std.ieq x0_kind 4 = false) (h5 : Ops.std.ilt 0 (Ops.std.llen x0_keys) = false) (h6 : Ops.std.ilt x0_kind 3 = true) : runFn (lim F pr) g48 [.agg [.sc (.int .i64 x0_kind), .sc (.int .i64 x0_n), .sc (.string x0_s), .lit 9 false x0_keys, .lit 32 false x0_kids]] [] = some (.sc (.bool (Ops.std.ilt 0 (Ops.std.llen x0_kids))), []) :=
  p48_8 (iadd := Ops.std.iadd) (isub := Ops.std.isub) (imul := Ops.std.imul) (iquo := Ops.std.iquo) (irem := Ops.std.irem) (ibit := Ops.std.ibit) (ishl := Ops.std.ishl) (ishr := Ops.std.ishr) (iwrap := Ops.std.iwrap) (ieq := Ops.std.ieq) (ilt := Ops.std.ilt) (ile := Ops.std.ile) (beq := Ops.std.beq) (seq := Ops.std.seq) (slt := Ops.std.slt) (sapp := Ops.std.sapp) (slen := Ops.std.slen) (sget := Ops.std.sget) (ssub := Ops.std.ssub) (llen := Ops.std.llen) (lget := Ops.std.lget) (lset := Ops.std.lset) (lapp := Ops.std.lapp) (lsub := Ops.std.lsub) (room := Ops.std.room) (call := (lim F pr).call) (loop := (lim F pr).loop) (prim := pr)  x0_kind x0_n x0_s x0_keys x0_kids  h1 h2 h3 h4 h5 h6

theorem p48_9L (x0_kind : Int) (x0_n : Int) (x0_s : ByteArray) (x0_keys : List AV) (x0_kids : List AV) (h1 : Ops.std.ieq x0_kind 1 = true) (h2 : Ops.std.ieq x0_kind 2 = false) (h3 : Ops.std.seq x0_s ⟨#[]⟩ = true) (h4 : Ops.std.ieq x0_kind 4 = false) (h5 : Ops.std.ilt 0 (Ops.std.llen x0_keys) = false) (h6 : Ops.std.ilt x0_kind 3 = false) : runFn (lim F pr) g48 [.agg [.sc (.int .i64 x0_kind), .sc (.int .i64 x0_n), .sc (.string x0_s), .lit 9 false x0_keys, .lit 32 false x0_kids]] [] = some (.sc (.bool false), []) :=
  p48_9 (iadd := Ops.std.iadd) (isub := Ops.std.isub) (imul := Ops.std.imul) (iquo := Ops.std.iquo) (irem := Ops.std.irem) (ibit := Ops.std.ibit) (ishl := Ops.std.ishl) (ishr := Ops.std.ishr) (iwrap := Ops.std.iwrap) (ieq := Ops.std.ieq) (ilt := Ops.std.ilt) (ile := Ops.std.ile) (beq := Ops.std.beq) (seq := Ops.std.seq) (slt := Ops.std.slt) (sapp := Ops.std.sapp) (slen := Ops.std.slen) (sget := Ops.std.sget) (ssub := Ops.std.ssub) (llen := Ops.std.llen) (lget := Ops.std.lget) (lset := Ops.std.lset) (lapp := Ops.std.lapp) (lsub := Ops.std.lsub) (room := Ops.std.room) (call := (lim F pr).call) (loop := (lim F pr).loop) (prim := pr)  x0_kind x0_n x0_s x0_keys x0_kids  h1 h2 h3 h4 h5 h6

theorem p48_10L (x0_kind : Int) (x0_n : Int) (x0_s : ByteArray) (x0_keys : List AV) (x0_kids : List AV) (h1 : Ops.std.ieq x0_kind 1 = true) (h2 : Ops.std.ieq x0_kind 2 = false) (h3 : Ops.std.seq x0_s ⟨#[]⟩ = false) : runFn (lim F pr) g48 [.agg [.sc (.int .i64 x0_kind), .sc (.int .i64 x0_n), .sc (.string x0_s), .lit 9 false x0_keys, .lit 32 false x0_kids]] [] = some (.sc (.bool true), []) :=
  p48_10 (iadd := Ops.std.iadd) (isub := Ops.std.isub) (imul := Ops.std.imul) (iquo := Ops.std.iquo) (irem := Ops.std.irem) (ibit := Ops.std.ibit) (ishl := Ops.std.ishl) (ishr := Ops.std.ishr) (iwrap := Ops.std.iwrap) (ieq := Ops.std.ieq) (ilt := Ops.std.ilt) (ile := Ops.std.ile) (beq := Ops.std.beq) (seq := Ops.std.seq) (slt := Ops.std.slt) (sapp := Ops.std.sapp) (slen := Ops.std.slen) (sget := Ops.std.sget) (ssub := Ops.std.ssub) (llen := Ops.std.llen) (lget := Ops.std.lget) (lset := Ops.std.lset) (lapp := Ops.std.lapp) (lsub := Ops.std.lsub) (room := Ops.std.room) (call := (lim F pr).call) (loop := (lim F pr).loop) (prim := pr)  x0_kind x0_n x0_s x0_keys x0_kids  h1 h2 h3

theorem p48_11L (x0_kind : Int) (x0_n : Int) (x0_s : ByteArray) (x0_keys : List AV) (x0_kids : List AV) (h1 : Ops.std.ieq x0_kind 1 = false) (h2 : Ops.std.ieq x0_n 0 = true) (h3 : Ops.std.ieq x0_kind 2 = true) (h4 : Ops.std.ieq x0_kind 4 = true) (h5 : Ops.std.ilt x0_kind 3 = true) : runFn (lim F pr) g48 [.agg [.sc (.int .i64 x0_kind), .sc (.int .i64 x0_n), .sc (.string x0_s), .lit 9 false x0_keys, .lit 32 false x0_kids]] [] = some (.sc (.bool (Ops.std.ilt 0 (Ops.std.llen x0_kids))), []) :=
  p48_11 (iadd := Ops.std.iadd) (isub := Ops.std.isub) (imul := Ops.std.imul) (iquo := Ops.std.iquo) (irem := Ops.std.irem) (ibit := Ops.std.ibit) (ishl := Ops.std.ishl) (ishr := Ops.std.ishr) (iwrap := Ops.std.iwrap) (ieq := Ops.std.ieq) (ilt := Ops.std.ilt) (ile := Ops.std.ile) (beq := Ops.std.beq) (seq := Ops.std.seq) (slt := Ops.std.slt) (sapp := Ops.std.sapp) (slen := Ops.std.slen) (sget := Ops.std.sget) (ssub := Ops.std.ssub) (llen := Ops.std.llen) (lget := Ops.std.lget) (lset := Ops.std.lset) (lapp := Ops.std.lapp) (lsub := Ops.std.lsub) (room := Ops.std.room) (call := (lim F pr).call) (loop := (lim F pr).loop) (prim := pr)  x0_kind x0_n x0_s x0_keys x0_kids  h1 h2 h3 h4 h5

theorem p48_12L (x0_kind : Int) (x0_n : Int) (x0_s : ByteArray) (x0_keys : List AV) (x0_kids : List AV) (h1 : Ops.std.ieq x0_kind 1 = false) (h2 : Ops.std.ieq x0_n 0 = true) (h3 : Ops.std.ieq x0_kind 2 = true) (h4 : Ops.std.ieq x0_kind 4 = true) (h5 : Ops.std.ilt x0_kind 3 = false) : runFn (lim F pr) g48 [.agg [.sc (.int .i64 x0_kind), .sc (.int .i64 x0_n), .sc (.string x0_s), .lit 9 false x0_keys, .lit 32 false x0_kids]] [] = some (.sc (.bool ((!(Ops.std.ieq (Ops.std.llen x0_keys) (Ops.std.llen x0_kids))))), []) :=
  p48_12 (iadd := Ops.std.iadd) (isub := Ops.std.isub) (imul := Ops.std.imul) (iquo := Ops.std.iquo) (irem := Ops.std.irem) (ibit := Ops.std.ibit) (ishl := Ops.std.ishl) (ishr := Ops.std.ishr) (iwrap := Ops.std.iwrap) (ieq := Ops.std.ieq) (ilt := Ops.std.ilt) (ile := Ops.std.ile) (beq := Ops.std.beq) (seq := Ops.std.seq) (slt := Ops.std.slt) (sapp := Ops.std.sapp) (slen := Ops.std.slen) (sget := Ops.std.sget) (ssub := Ops.std.ssub) (llen := Ops.std.llen) (lget := Ops.std.lget) (lset := Ops.std.lset) (lapp := Ops.std.lapp) (lsub := Ops.std.lsub) (room := Ops.std.room) (call := (lim F pr).call) (loop := (lim F pr).loop) (prim := pr)  x0_kind x0_n x0_s x0_keys x0_kids  h1 h2 h3 h4 h5

theorem p48_13L (x0_kind : Int) (x0_n : Int) (x0_s : ByteArray) (x0_keys : List AV) (x0_kids : List AV) (h1 : Ops.std.ieq x0_kind 1 = false) (h2 : Ops.std.ieq x0_n 0 = true) (h3 : Ops.std.ieq x0_kind 2 = true) (h4 : Ops.std.ieq x0_kind 4 = false) (h5 : Ops.std.ilt 0 (Ops.std.llen x0_keys) = true) : runFn (lim F pr) g48 [.agg [.sc (.int .i64 x0_kind), .sc (.int .i64 x0_n), .sc (.string x0_s), .lit 9 false x0_keys, .lit 32 false x0_kids]] [] = some (.sc (.bool true), []) :=
  p48_13 (iadd := Ops.std.iadd) (isub := Ops.std.isub) (imul := Ops.std.imul) (iquo := Ops.std.iquo) (irem := Ops.std.irem) (ibit := Ops.std.ibit) (ishl := Ops.std.ishl) (ishr := Ops.std.ishr) (iwrap := Ops.std.iwrap) (ieq := Ops.std.ieq) (ilt := Ops.std.ilt) (ile := Ops.std.ile) (beq := Ops.std.beq) (seq := Ops.std.seq) (slt := Ops.std.slt) (sapp := Ops.std.sapp) (slen := Ops.std.slen) (sget := Ops.std.sget) (ssub := Ops.std.ssub) (llen := Ops.std.llen) (lget := Ops.std.lget) (lset := Ops.std.lset) (lapp := Ops.std.lapp) (lsub := Ops.std.lsub) (room := Ops.std.room) (call := (lim F pr).call) (loop := (lim F pr).loop) (prim := pr)  x0_kind x0_n x0_s x0_keys x0_kids  h1 h2 h3 h4 h5

theorem p48_14L (x0_kind : Int) (x0_n : Int) (x0_s : ByteArray) (x0_keys : List AV) (x0_kids : List AV) (h1 : Ops.std.ieq x0_kind 1 = false) (h2 : Ops.std.ieq x0_n 0 = true) (h3 : Ops.std.ieq x0_kind 2 = true) (h4 : Ops.std.ieq x0_kind 4 = false) (h5 : Ops.std.ilt 0 (Ops.std.llen x0_keys) = false) (h6 : Ops.std.ilt x0_kind 3 = true) : runFn (lim F pr) g48 [.agg [.sc (.int .i64 x0_kind), .sc (.int .i64 x0_n), .sc (.string x0_s), .lit 9 false x0_keys, .lit 32 false x0_kids]] [] = some (.sc (.bool (Ops.std.ilt 0 (Ops.std.llen x0_kids))), []) :=
  p48_14 (iadd := Ops.std.iadd) (isub := Ops.std.isub) (imul := Ops.std.imul) (iquo := Ops.std.iquo) (irem := Ops.std.irem) (ibit := Ops.std.ibit) (ishl := Ops.std.ishl) (ishr := Ops.std.ishr) (iwrap := Ops.std.iwrap) (ieq := Ops.std.ieq) (ilt := Ops.std.ilt) (ile := Ops.std.ile) (beq := Ops.std.beq) (seq := Ops.std.seq) (slt := Ops.std.slt) (sapp := Ops.std.sapp) (slen := Ops.std.slen) (sget := Ops.std.sget) (ssub := Ops.std.ssub) (llen := Ops.std.llen) (lget := Ops.std.lget) (lset := Ops.std.lset) (lapp := Ops.std.lapp) (lsub := Ops.std.lsub) (room := Ops.std.room) (call := (lim F pr).call) (loop := (lim F pr).loop) (prim := pr)  x0_kind x0_n x0_s x0_keys x0_kids  h1 h2 h3 h4 h5 h6

theorem p48_15L (x0_kind : Int) (x0_n : Int) (x0_s : ByteArray) (x0_keys : List AV) (x0_kids : List AV) (h1 : Ops.std.ieq x0_kind 1 = false) (h2 : Ops.std.ieq x0_n 0 = true) (h3 : Ops.std.ieq x0_kind 2 = true) (h4 : Ops.std.ieq x0_kind 4 = false) (h5 : Ops.std.ilt 0 (Ops.std.llen x0_keys) = false) (h6 : Ops.std.ilt x0_kind 3 = false) : runFn (lim F pr) g48 [.agg [.sc (.int .i64 x0_kind), .sc (.int .i64 x0_n), .sc (.string x0_s), .lit 9 false x0_keys, .lit 32 false x0_kids]] [] = some (.sc (.bool false), []) :=
  p48_15 (iadd := Ops.std.iadd) (isub := Ops.std.isub) (imul := Ops.std.imul) (iquo := Ops.std.iquo) (irem := Ops.std.irem) (ibit := Ops.std.ibit) (ishl := Ops.std.ishl) (ishr := Ops.std.ishr) (iwrap := Ops.std.iwrap) (ieq := Ops.std.ieq) (ilt := Ops.std.ilt) (ile := Ops.std.ile) (beq := Ops.std.beq) (seq := Ops.std.seq) (slt := Ops.std.slt) (sapp := Ops.std.sapp) (slen := Ops.std.slen) (sget := Ops.std.sget) (ssub := Ops.std.ssub) (llen := Ops.std.llen) (lget := Ops.std.lget) (lset := Ops.std.lset) (lapp := Ops.std.lapp) (lsub := Ops.std.lsub) (room := Ops.std.room) (call := (lim F pr).call) (loop := (lim F pr).loop) (prim := pr)  x0_kind x0_n x0_s x0_keys x0_kids  h1 h2 h3 h4 h5 h6

theorem p48_16L (x0_kind : Int) (x0_n : Int) (x0_s : ByteArray) (x0_keys : List AV) (x0_kids : List AV) (h1 : Ops.std.ieq x0_kind 1 = false) (h2 : Ops.std.ieq x0_n 0 = true) (h3 : Ops.std.ieq x0_kind 2 = false) (h4 : Ops.std.seq x0_s ⟨#[]⟩ = true) (h5 : Ops.std.ieq x0_kind 4 = true) (h6 : Ops.std.ilt x0_kind 3 = true) : runFn (lim F pr) g48 [.agg [.sc (.int .i64 x0_kind), .sc (.int .i64 x0_n), .sc (.string x0_s), .lit 9 false x0_keys, .lit 32 false x0_kids]] [] = some (.sc (.bool (Ops.std.ilt 0 (Ops.std.llen x0_kids))), []) :=
  p48_16 (iadd := Ops.std.iadd) (isub := Ops.std.isub) (imul := Ops.std.imul) (iquo := Ops.std.iquo) (irem := Ops.std.irem) (ibit := Ops.std.ibit) (ishl := Ops.std.ishl) (ishr := Ops.std.ishr) (iwrap := Ops.std.iwrap) (ieq := Ops.std.ieq) (ilt := Ops.std.ilt) (ile := Ops.std.ile) (beq := Ops.std.beq) (seq := Ops.std.seq) (slt := Ops.std.slt) (sapp := Ops.std.sapp) (slen := Ops.std.slen) (sget := Ops.std.sget) (ssub := Ops.std.ssub) (llen := Ops.std.llen) (lget := Ops.std.lget) (lset := Ops.std.lset) (lapp := Ops.std.lapp) (lsub := Ops.std.lsub) (room := Ops.std.room) (call := (lim F pr).call) (loop := (lim F pr).loop) (prim := pr)  x0_kind x0_n x0_s x0_keys x0_kids  h1 h2 h3 h4 h5 h6

theorem p48_17L (x0_kind : Int) (x0_n : Int) (x0_s : ByteArray) (x0_keys : List AV) (x0_kids : List AV) (h1 : Ops.std.ieq x0_kind 1 = false) (h2 : Ops.std.ieq x0_n 0 = true) (h3 : Ops.std.ieq x0_kind 2 = false) (h4 : Ops.std.seq x0_s ⟨#[]⟩ = true) (h5 : Ops.std.ieq x0_kind 4 = true) (h6 : Ops.std.ilt x0_kind 3 = false) : runFn (lim F pr) g48 [.agg [.sc (.int .i64 x0_kind), .sc (.int .i64 x0_n), .sc (.string x0_s), .lit 9 false x0_keys, .lit 32 false x0_kids]] [] = some (.sc (.bool ((!(Ops.std.ieq (Ops.std.llen x0_keys) (Ops.std.llen x0_kids))))), []) :=
  p48_17 (iadd := Ops.std.iadd) (isub := Ops.std.isub) (imul := Ops.std.imul) (iquo := Ops.std.iquo) (irem := Ops.std.irem) (ibit := Ops.std.ibit) (ishl := Ops.std.ishl) (ishr := Ops.std.ishr) (iwrap := Ops.std.iwrap) (ieq := Ops.std.ieq) (ilt := Ops.std.ilt) (ile := Ops.std.ile) (beq := Ops.std.beq) (seq := Ops.std.seq) (slt := Ops.std.slt) (sapp := Ops.std.sapp) (slen := Ops.std.slen) (sget := Ops.std.sget) (ssub := Ops.std.ssub) (llen := Ops.std.llen) (lget := Ops.std.lget) (lset := Ops.std.lset) (lapp := Ops.std.lapp) (lsub := Ops.std.lsub) (room := Ops.std.room) (call := (lim F pr).call) (loop := (lim F pr).loop) (prim := pr)  x0_kind x0_n x0_s x0_keys x0_kids  h1 h2 h3 h4 h5 h6

theorem p48_18L (x0_kind : Int) (x0_n : Int) (x0_s : ByteArray) (x0_keys : List AV) (x0_kids : List AV) (h1 : Ops.std.ieq x0_kind 1 = false) (h2 : Ops.std.ieq x0_n 0 = true) (h3 : Ops.std.ieq x0_kind 2 = false) (h4 : Ops.std.seq x0_s ⟨#[]⟩ = true) (h5 : Ops.std.ieq x0_kind 4 = false) (h6 : Ops.std.ilt 0 (Ops.std.llen x0_keys) = true) : runFn (lim F pr) g48 [.agg [.sc (.int .i64 x0_kind), .sc (.int .i64 x0_n), .sc (.string x0_s), .lit 9 false x0_keys, .lit 32 false x0_kids]] [] = some (.sc (.bool true), []) :=
  p48_18 (iadd := Ops.std.iadd) (isub := Ops.std.isub) (imul := Ops.std.imul) (iquo := Ops.std.iquo) (irem := Ops.std.irem) (ibit := Ops.std.ibit) (ishl := Ops.std.ishl) (ishr := Ops.std.ishr) (iwrap := Ops.std.iwrap) (ieq := Ops.std.ieq) (ilt := Ops.std.ilt) (ile := Ops.std.ile) (beq := Ops.std.beq) (seq := Ops.std.seq) (slt := Ops.std.slt) (sapp := Ops.std.sapp) (slen := Ops.std.slen) (sget := Ops.std.sget) (ssub := Ops.std.ssub) (llen := Ops.std.llen) (lget := Ops.std.lget) (lset := Ops.std.lset) (lapp := Ops.std.lapp) (lsub := Ops.std.lsub) (room := Ops.std.room) (call := (lim F pr).call) (loop := (lim F pr).loop) (prim := pr)  x0_kind x0_n x0_s x0_keys x0_kids  h1 h2 h3 h4 h5 h6

theorem p48_19L (x0_kind : Int) (x0_n : Int) (x0_s : ByteArray) (x0_keys : List AV) (x0_kids : List AV) (h1 : Ops.std.ieq x0_kind 1 = false) (h2 : Ops.std.ieq x0_n 0 = true) (h3 : Ops.std.ieq x0_kind 2 = false) (h4 : Ops.std.seq x0_s ⟨#[]⟩ = true) (h5 : Ops.std.ieq x0_kind 4 = false) (h6 : Ops.std.ilt 0 (Ops.std.llen x0_keys) = false) (h7 : Ops.std.ilt x0_kind 3 = true) : runFn (lim F pr) g48 [.agg [.sc (.int .i64 x0_kind), .sc (.int .i64 x0_n), .sc (.string x0_s), .lit 9 false x0_keys, .lit 32 false x0_kids]] [] = some (.sc (.bool (Ops.std.ilt 0 (Ops.std.llen x0_kids))), []) :=
  p48_19 (iadd := Ops.std.iadd) (isub := Ops.std.isub) (imul := Ops.std.imul) (iquo := Ops.std.iquo) (irem := Ops.std.irem) (ibit := Ops.std.ibit) (ishl := Ops.std.ishl) (ishr := Ops.std.ishr) (iwrap := Ops.std.iwrap) (ieq := Ops.std.ieq) (ilt := Ops.std.ilt) (ile := Ops.std.ile) (beq := Ops.std.beq) (seq := Ops.std.seq) (slt := Ops.std.slt) (sapp := Ops.std.sapp) (slen := Ops.std.slen) (sget := Ops.std.sget) (ssub := Ops.std.ssub) (llen := Ops.std.llen) (lget := Ops.std.lget) (lset := Ops.std.lset) (lapp := Ops.std.lapp) (lsub := Ops.std.lsub) (room := Ops.std.room) (call := (lim F pr).call) (loop := (lim F pr).loop) (prim := pr)  x0_kind x0_n x0_s x0_keys x0_kids  h1 h2 h3 h4 h5 h6 h7

theorem p48_20L (x0_kind : Int) (x0_n : Int) (x0_s : ByteArray) (x0_keys : List AV) (x0_kids : List AV) (h1 : Ops.std.ieq x0_kind 1 = false) (h2 : Ops.std.ieq x0_n 0 = true) (h3 : Ops.std.ieq x0_kind 2 = false) (h4 : Ops.std.seq x0_s ⟨#[]⟩ = true) (h5 : Ops.std.ieq x0_kind 4 = false) (h6 : Ops.std.ilt 0 (Ops.std.llen x0_keys) = false) (h7 : Ops.std.ilt x0_kind 3 = false) : runFn (lim F pr) g48 [.agg [.sc (.int .i64 x0_kind), .sc (.int .i64 x0_n), .sc (.string x0_s), .lit 9 false x0_keys, .lit 32 false x0_kids]] [] = some (.sc (.bool false), []) :=
  p48_20 (iadd := Ops.std.iadd) (isub := Ops.std.isub) (imul := Ops.std.imul) (iquo := Ops.std.iquo) (irem := Ops.std.irem) (ibit := Ops.std.ibit) (ishl := Ops.std.ishl) (ishr := Ops.std.ishr) (iwrap := Ops.std.iwrap) (ieq := Ops.std.ieq) (ilt := Ops.std.ilt) (ile := Ops.std.ile) (beq := Ops.std.beq) (seq := Ops.std.seq) (slt := Ops.std.slt) (sapp := Ops.std.sapp) (slen := Ops.std.slen) (sget := Ops.std.sget) (ssub := Ops.std.ssub) (llen := Ops.std.llen) (lget := Ops.std.lget) (lset := Ops.std.lset) (lapp := Ops.std.lapp) (lsub := Ops.std.lsub) (room := Ops.std.room) (call := (lim F pr).call) (loop := (lim F pr).loop) (prim := pr)  x0_kind x0_n x0_s x0_keys x0_kids  h1 h2 h3 h4 h5 h6 h7

theorem p48_21L (x0_kind : Int) (x0_n : Int) (x0_s : ByteArray) (x0_keys : List AV) (x0_kids : List AV) (h1 : Ops.std.ieq x0_kind 1 = false) (h2 : Ops.std.ieq x0_n 0 = true) (h3 : Ops.std.ieq x0_kind 2 = false) (h4 : Ops.std.seq x0_s ⟨#[]⟩ = false) : runFn (lim F pr) g48 [.agg [.sc (.int .i64 x0_kind), .sc (.int .i64 x0_n), .sc (.string x0_s), .lit 9 false x0_keys, .lit 32 false x0_kids]] [] = some (.sc (.bool true), []) :=
  p48_21 (iadd := Ops.std.iadd) (isub := Ops.std.isub) (imul := Ops.std.imul) (iquo := Ops.std.iquo) (irem := Ops.std.irem) (ibit := Ops.std.ibit) (ishl := Ops.std.ishl) (ishr := Ops.std.ishr) (iwrap := Ops.std.iwrap) (ieq := Ops.std.ieq) (ilt := Ops.std.ilt) (ile := Ops.std.ile) (beq := Ops.std.beq) (seq := Ops.std.seq) (slt := Ops.std.slt) (sapp := Ops.std.sapp) (slen := Ops.std.slen) (sget := Ops.std.sget) (ssub := Ops.std.ssub) (llen := Ops.std.llen) (lget := Ops.std.lget) (lset := Ops.std.lset) (lapp := Ops.std.lapp) (lsub := Ops.std.lsub) (room := Ops.std.room) (call := (lim F pr).call) (loop := (lim F pr).loop) (prim := pr)  x0_kind x0_n x0_s x0_keys x0_kids  h1 h2 h3 h4

theorem p48_22L (x0_kind : Int) (x0_n : Int) (x0_s : ByteArray) (x0_keys : List AV) (x0_kids : List AV) (h1 : Ops.std.ieq x0_kind 1 = false) (h2 : Ops.std.ieq x0_n 0 = false) : runFn (lim F pr) g48 [.agg [.sc (.int .i64 x0_kind), .sc (.int .i64 x0_n), .sc (.string x0_s), .lit 9 false x0_keys, .lit 32 false x0_kids]] [] = some (.sc (.bool true), []) :=
  p48_22 (iadd := Ops.std.iadd) (isub := Ops.std.isub) (imul := Ops.std.imul) (iquo := Ops.std.iquo) (irem := Ops.std.irem) (ibit := Ops.std.ibit) (ishl := Ops.std.ishl) (ishr := Ops.std.ishr) (iwrap := Ops.std.iwrap) (ieq := Ops.std.ieq) (ilt := Ops.std.ilt) (ile := Ops.std.ile) (beq := Ops.std.beq) (seq := Ops.std.seq) (slt := Ops.std.slt) (sapp := Ops.std.sapp) (slen := Ops.std.slen) (sget := Ops.std.sget) (ssub := Ops.std.ssub) (llen := Ops.std.llen) (lget := Ops.std.lget) (lset := Ops.std.lset) (lapp := Ops.std.lapp) (lsub := Ops.std.lsub) (room := Ops.std.room) (call := (lim F pr).call) (loop := (lim F pr).loop) (prim := pr)  x0_kind x0_n x0_s x0_keys x0_kids  h1 h2

def f48 (x0_kind : Int) (x0_n : Int) (x0_s : ByteArray) (x0_keys : List AV) (x0_kids : List AV) : AV := (bif Ops.std.ieq x0_kind 1 then (bif Ops.std.ieq x0_kind 2 then (bif Ops.std.ieq x0_kind 4 then (bif Ops.std.ilt x0_kind 3 then (.sc (.bool (Ops.std.ilt 0 (Ops.std.llen x0_kids)))) else (.sc (.bool ((!(Ops.std.ieq (Ops.std.llen x0_keys) (Ops.std.llen x0_kids))))))) else (bif Ops.std.ilt 0 (Ops.std.llen x0_keys) then (.sc (.bool true)) else (bif Ops.std.ilt x0_kind 3 then (.sc (.bool (Ops.std.ilt 0 (Ops.std.llen x0_kids)))) else (.sc (.bool false))))) else (bif Ops.std.seq x0_s ⟨#[]⟩ then (bif Ops.std.ieq x0_kind 4 then (bif Ops.std.ilt x0_kind 3 then (.sc (.bool (Ops.std.ilt 0 (Ops.std.llen x0_kids)))) else (.sc (.bool ((!(Ops.std.ieq (Ops.std.llen x0_keys) (Ops.std.llen x0_kids))))))) else (bif Ops.std.ilt 0 (Ops.std.llen x0_keys) then (.sc (.bool true)) else (bif Ops.std.ilt x0_kind 3 then (.sc (.bool (Ops.std.ilt 0 (Ops.std.llen x0_kids)))) else (.sc (.bool false))))) else (.sc (.bool true)))) else (bif Ops.std.ieq x0_n 0 then (bif Ops.std.ieq x0_kind 2 then (bif Ops.std.ieq x0_kind 4 then (bif Ops.std.ilt x0_kind 3 then (.sc (.bool (Ops.std.ilt 0 (Ops.std.llen x0_kids)))) else (.sc (.bool ((!(Ops.std.ieq (Ops.std.llen x0_keys) (Ops.std.llen x0_kids))))))) else (bif Ops.std.ilt 0 (Ops.std.llen x0_keys) then (.sc (.bool true)) else (bif Ops.std.ilt x0_kind 3 then (.sc (.bool (Ops.std.ilt 0 (Ops.std.llen x0_kids)))) else (.sc (.bool false))))) else (bif Ops.std.seq x0_s ⟨#[]⟩ then (bif Ops.std.ieq x0_kind 4 then (bif Ops.std.ilt x0_kind 3 then (.sc (.bool (Ops.std.ilt 0 (Ops.std.llen x0_kids)))) else (.sc (.bool ((!(Ops.std.ieq (Ops.std.llen x0_keys) (Ops.std.llen x0_kids))))))) else (bif Ops.std.ilt 0 (Ops.std.llen x0_keys) then (.sc (.bool true)) else (bif Ops.std.ilt x0_kind 3 then (.sc (.bool (Ops.std.ilt 0 (Ops.std.llen x0_kids)))) else (.sc (.bool false))))) else (.sc (.bool true)))) else (.sc (.bool true))))
theorem c48 (x0_kind : Int) (x0_n : Int) (x0_s : ByteArray) (x0_keys : List AV) (x0_kids : List AV) : runFn (lim F pr) g48 [.agg [.sc (.int .i64 x0_kind), .sc (.int .i64 x0_n), .sc (.string x0_s), .lit 9 false x0_keys, .lit 32 false x0_kids]] [] = some (f48 x0_kind x0_n x0_s x0_keys x0_kids, []) := by
  unfold f48
  cases e1 : Ops.std.ieq x0_kind 1
  · cases e2 : Ops.std.ieq x0_n 0
    · exact p48_22L x0_kind x0_n x0_s x0_keys x0_kids e1 e2
    · cases e3 : Ops.std.ieq x0_kind 2
      · cases e4 : Ops.std.seq x0_s ⟨#[]⟩
        · exact p48_21L x0_kind x0_n x0_s x0_keys x0_kids e1 e2 e3 e4
        · cases e5 : Ops.std.ieq x0_kind 4
          · cases e6 : Ops.std.ilt 0 (Ops.std.llen x0_keys)
            · cases e7 : Ops.std.ilt x0_kind 3
              · exact p48_20L x0_kind x0_n x0_s x0_keys x0_kids e1 e2 e3 e4 e5 e6 e7
              · exact p48_19L x0_kind x0_n x0_s x0_keys x0_kids e1 e2 e3 e4 e5 e6 e7
            · exact p48_18L x0_kind x0_n x0_s x0_keys x0_kids e1 e2 e3 e4 e5 e6
          · cases e6 : Ops.std.ilt x0_kind 3
            · exact p48_17L x0_kind x0_n x0_s x0_keys x0_kids e1 e2 e3 e4 e5 e6
            · exact p48_16L x0_kind x0_n x0_s x0_keys x0_kids e1 e2 e3 e4 e5 e6
      · cases e4 : Ops.std.ieq x0_kind 4
        · cases e5 : Ops.std.ilt 0 (Ops.std.llen x0_keys)
          · cases e6 : Ops.std.ilt x0_kind 3
            · exact p48_15L x0_kind x0_n x0_s x0_keys x0_kids e1 e2 e3 e4 e5 e6
            · exact p48_14L x0_kind x0_n x0_s x0_keys x0_kids e1 e2 e3 e4 e5 e6
          · exact p48_13L x0_kind x0_n x0_s x0_keys x0_kids e1 e2 e3 e4 e5
        · cases e5 : Ops.std.ilt x0_kind 3
          · exact p48_12L x0_kind x0_n x0_s x0_keys x0_kids e1 e2 e3 e4 e5
          · exact p48_11L x0_kind x0_n x0_s x0_keys x0_kids e1 e2 e3 e4 e5
  · cases e2 : Ops.std.ieq x0_kind 2
    · cases e3 : Ops.std.seq x0_s ⟨#[]⟩
      · exact p48_10L x0_kind x0_n x0_s x0_keys x0_kids e1 e2 e3
      · cases e4 : Ops.std.ieq x0_kind 4
        · cases e5 : Ops.std.ilt 0 (Ops.std.llen x0_keys)
          · cases e6 : Ops.std.ilt x0_kind 3
            · exact p48_9L x0_kind x0_n x0_s x0_keys x0_kids e1 e2 e3 e4 e5 e6
            · exact p48_8L x0_kind x0_n x0_s x0_keys x0_kids e1 e2 e3 e4 e5 e6
          · exact p48_7L x0_kind x0_n x0_s x0_keys x0_kids e1 e2 e3 e4 e5
        · cases e5 : Ops.std.ilt x0_kind 3
          · exact p48_6L x0_kind x0_n x0_s x0_keys x0_kids e1 e2 e3 e4 e5
          · exact p48_5L x0_kind x0_n x0_s x0_keys x0_kids e1 e2 e3 e4 e5
    · cases e3 : Ops.std.ieq x0_kind 4
      · cases e4 : Ops.std.ilt 0 (Ops.std.llen x0_keys)
        · cases e5 : Ops.std.ilt x0_kind 3
          · exact p48_4L x0_kind x0_n x0_s x0_keys x0_kids e1 e2 e3 e4 e5
          · exact p48_3L x0_kind x0_n x0_s x0_keys x0_kids e1 e2 e3 e4 e5
        · exact p48_2L x0_kind x0_n x0_s x0_keys x0_kids e1 e2 e3 e4
      · cases e4 : Ops.std.ilt x0_kind 3
        · exact p48_1L x0_kind x0_n x0_s x0_keys x0_kids e1 e2 e3 e4
        · exact p48_0L x0_kind x0_n x0_s x0_keys x0_kids e1 e2 e3 e4

theorem p46_0L (x0 : ByteArray) (x1 : ByteArray) (t4o : Bool) (h1 : (lim F pr).loop [5, 0, 1] 0 b46_0 ⟨[.sc (.string x0), .sc (.string x1), .bad, .bad, .bad, .sc (.int .i64 0), .bad, .bad, .bad, .bad, .bad, .bad, .bad, .bad, .bad, .bad, .bad, .bad, .bad, .bad, .bad, .bad, .bad, .bad, .bad, .bad, .bad, .bad, .bad, .bad, .bad, .bad, .bad, .bad, .bad, .bad, .bad], []⟩ = some (.ret, ⟨[.bad, .bad, .bad, .bad, .sc (.bool t4o), .bad, .bad, .bad, .bad, .bad, .bad, .bad, .bad, .bad, .bad, .bad, .bad, .bad, .bad, .bad, .bad, .bad, .bad, .bad, .bad, .bad, .bad, .bad, .bad, .bad, .bad, .bad, .bad, .bad, .bad, .bad, .bad], []⟩)) : runFn (lim F pr) g46 [.sc (.string x0), .sc (.string x1)] [] = some (.sc (.bool t4o), []) :=
  p46_0 (iadd := Ops.std.iadd) (isub := Ops.std.isub) (imul := Ops.std.imul) (iquo := Ops.std.iquo) (irem := Ops.std.irem) (ibit := Ops.std.ibit) (ishl := Ops.std.ishl) (ishr := Ops.std.ishr) (iwrap := Ops.std.iwrap) (ieq := Ops.std.ieq) (ilt := Ops.std.ilt) (ile := Ops.std.ile) (beq := Ops.std.beq) (seq := Ops.std.seq) (slt := Ops.std.slt) (sapp := Ops.std.sapp) (slen := Ops.std.slen) (sget := Ops.std.sget) (ssub := Ops.std.ssub) (llen := Ops.std.llen) (lget := Ops.std.lget) (lset := Ops.std.lset) (lapp := Ops.std.lapp) (lsub := Ops.std.lsub) (room := Ops.std.room) (call := (lim F pr).call) (loop := (lim F pr).loop) (prim := pr) b46_0 x0 x1 t4o  h1

theorem p46_1L (x0 : ByteArray) (x1 : ByteArray) (h1 : (lim F pr).loop [5, 0, 1] 0 b46_0 ⟨[.sc (.string x0), .sc (.string x1), .bad, .bad, .bad, .sc (.int .i64 0), .bad, .bad, .bad, .bad, .bad, .bad, .bad, .bad, .bad, .bad, .bad, .bad, .bad, .bad, .bad, .bad, .bad, .bad, .bad, .bad, .bad, .bad, .bad, .bad, .bad, .bad, .bad, .bad, .bad, .bad, .bad], []⟩ = some (.brk 0, ⟨[.sc (.string x0), .sc (.string x1), .bad, .bad, .bad, .bad, .bad, .bad, .bad, .bad, .bad, .bad, .bad, .bad, .bad, .bad, .bad, .bad, .bad, .bad, .bad, .bad, .bad, .bad, .bad, .bad, .bad, .bad, .bad, .bad, .bad, .bad, .bad, .bad, .bad, .bad, .bad], []⟩)) : runFn (lim F pr) g46 [.sc (.string x0), .sc (.string x1)] [] = some (.sc (.bool (Ops.std.ilt (Ops.std.slen x0) (Ops.std.slen x1))), []) :=
  p46_1 (iadd := Ops.std.iadd) (isub := Ops.std.isub) (imul := Ops.std.imul) (iquo := Ops.std.iquo) (irem := Ops.std.irem) (ibit := Ops.std.ibit) (ishl := Ops.std.ishl) (ishr := Ops.std.ishr) (iwrap := Ops.std.iwrap) (ieq := Ops.std.ieq) (ilt := Ops.std.ilt) (ile := Ops.std.ile) (beq := Ops.std.beq) (seq := Ops.std.seq) (slt := Ops.std.slt) (sapp := Ops.std.sapp) (slen := Ops.std.slen) (sget := Ops.std.sget) (ssub := Ops.std.ssub) (llen := Ops.std.llen) (lget := Ops.std.lget) (lset := Ops.std.lset) (lapp := Ops.std.lapp) (lsub := Ops.std.lsub) (room := Ops.std.room) (call := (lim F pr).call) (loop := (lim F pr).loop) (prim := pr) b46_0 x0 x1  h1

abbrev W46_0_0 (t4o : Bool) : X × St := (.ret, ⟨[.bad, .bad, .bad, .bad, .sc (.bool t4o), .bad, .bad, .bad, .bad, .bad, .bad, .bad, .bad, .bad, .bad, .bad, .bad, .bad, .bad, .bad, .bad, .bad, .bad, .bad, .bad, .bad, .bad, .bad, .bad, .bad, .bad, .bad, .bad, .bad, .bad, .bad, .bad], []⟩)

abbrev W46_0_1 (x0 : ByteArray) (x1 : ByteArray) : X × St := (.brk 0, ⟨[.sc (.string x0), .sc (.string x1), .bad, .bad, .bad, .bad, .bad, .bad, .bad, .bad, .bad, .bad, .bad, .bad, .bad, .bad, .bad, .bad, .bad, .bad, .bad, .bad, .bad, .bad, .bad, .bad, .bad, .bad, .bad, .bad, .bad, .bad, .bad, .bad, .bad, .bad, .bad], []⟩)

abbrev H46_0_0 (x0 : ByteArray) (x1 : ByteArray) (t5 : Int) : St := ⟨[.sc (.string x0), .sc (.string x1), .bad, .bad, .bad, .sc (.int .i64 t5), .bad, .bad, .bad, .bad, .bad, .bad, .bad, .bad, .bad, .bad, .bad, .bad, .bad, .bad, .bad, .bad, .bad, .bad, .bad, .bad, .bad, .bad, .bad, .bad, .bad, .bad, .bad, .bad, .bad, .bad, .bad], []⟩

theorem r46_0_0_0L (x0 : ByteArray) (x1 : ByteArray) (t5 : Int) (b : Int) (b1 : Int) (h1 : Ops.std.ilt t5 (Ops.std.slen x0) = true) (h2 : Ops.std.ilt t5 (Ops.std.slen x1) = true) (h3 : Ops.std.sget x0 t5 = some b) (h4 : Ops.std.sget x1 t5 = some b1) (h5 : Ops.std.ieq b b1 = true) : Ifc.round (lim F pr) [5, 0, 1] 0 b46_0 ⟨[.sc (.string x0), .sc (.string x1), .bad, .bad, .bad, .sc (.int .i64 t5), .bad, .bad, .bad, .bad, .bad, .bad, .bad, .bad, .bad, .bad, .bad, .bad, .bad, .bad, .bad, .bad, .bad, .bad, .bad, .bad, .bad, .bad, .bad, .bad, .bad, .bad, .bad, .bad, .bad, .bad, .bad], []⟩ = (lim F pr).loop [5, 0, 1] 0 b46_0 ⟨[.sc (.string x0), .sc (.string x1), .bad, .bad, .bad, .sc (.int .i64 (Ops.std.iadd .i64 t5 1)), .bad, .bad, .bad, .bad, .bad, .bad, .bad, .bad, .bad, .bad, .bad, .bad, .bad, .bad, .bad, .bad, .bad, .bad, .bad, .bad, .bad, .bad, .bad, .bad, .bad, .bad, .bad, .bad, .bad, .bad, .bad], []⟩ :=
  r46_0_0_0 (iadd := Ops.std.iadd) (isub := Ops.std.isub) (imul := Ops.std.imul) (iquo := Ops.std.iquo) (irem := Ops.std.irem) (ibit := Ops.std.ibit) (ishl := Ops.std.ishl) (ishr := Ops.std.ishr) (iwrap := Ops.std.iwrap) (ieq := Ops.std.ieq) (ilt := Ops.std.ilt) (ile := Ops.std.ile) (beq := Ops.std.beq) (seq := Ops.std.seq) (slt := Ops.std.slt) (sapp := Ops.std.sapp) (slen := Ops.std.slen) (sget := Ops.std.sget) (ssub := Ops.std.ssub) (llen := Ops.std.llen) (lget := Ops.std.lget) (lset := Ops.std.lset) (lapp := Ops.std.lapp) (lsub := Ops.std.lsub) (room := Ops.std.room) (call := (lim F pr).call) (loop := (lim F pr).loop) (prim := pr)  x0 x1 t5 b b1  h1 h2 h3 h4 h5

theorem r46_0_0_1L (x0 : ByteArray) (x1 : ByteArray) (t5 : Int) (b : Int) (b1 : Int) (h1 : Ops.std.ilt t5 (Ops.std.slen x0) = true) (h2 : Ops.std.ilt t5 (Ops.std.slen x1) = true) (h3 : Ops.std.sget x0 t5 = some b) (h4 : Ops.std.sget x1 t5 = some b1) (h5 : Ops.std.ieq b b1 = false) : Ifc.round (lim F pr) [5, 0, 1] 0 b46_0 ⟨[.sc (.string x0), .sc (.string x1), .bad, .bad, .bad, .sc (.int .i64 t5), .bad, .bad, .bad, .bad, .bad, .bad, .bad, .bad, .bad, .bad, .bad, .bad, .bad, .bad, .bad, .bad, .bad, .bad, .bad, .bad, .bad, .bad, .bad, .bad, .bad, .bad, .bad, .bad, .bad, .bad, .bad], []⟩ = some (.ret, ⟨[.bad, .bad, .bad, .bad, .sc (.bool (Ops.std.ilt b b1)), .bad, .bad, .bad, .bad, .bad, .bad, .bad, .bad, .bad, .bad, .bad, .bad, .bad, .bad, .bad, .bad, .bad, .bad, .bad, .bad, .bad, .bad, .bad, .bad, .bad, .bad, .bad, .bad, .bad, .bad, .bad, .bad], []⟩) :=
  r46_0_0_1 (iadd := Ops.std.iadd) (isub := Ops.std.isub) (imul := Ops.std.imul) (iquo := Ops.std.iquo) (irem := Ops.std.irem) (ibit := Ops.std.ibit) (ishl := Ops.std.ishl) (ishr := Ops.std.ishr) (iwrap := Ops.std.iwrap) (ieq := Ops.std.ieq) (ilt := Ops.std.ilt) (ile := Ops.std.ile) (beq := Ops.std.beq) (seq := Ops.std.seq) (slt := Ops.std.slt) (sapp := Ops.std.sapp) (slen := Ops.std.slen) (sget := Ops.std.sget) (ssub := Ops.std.ssub) (llen := Ops.std.llen) (lget := Ops.std.lget) (lset := Ops.std.lset) (lapp := Ops.std.lapp) (lsub := Ops.std.lsub) (room := Ops.std.room) (call := (lim F pr).call) (loop := (lim F pr).loop) (prim := pr)  x0 x1 t5 b b1  h1 h2 h3 h4 h5

theorem r46_0_0_2L (x0 : ByteArray) (x1 : ByteArray) (t5 : Int) (h1 : Ops.std.ilt t5 (Ops.std.slen x0) = true) (h2 : Ops.std.ilt t5 (Ops.std.slen x1) = false) : Ifc.round (lim F pr) [5, 0, 1] 0 b46_0 ⟨[.sc (.string x0), .sc (.string x1), .bad, .bad, .bad, .sc (.int .i64 t5), .bad, .bad, .bad, .bad, .bad, .bad, .bad, .bad, .bad, .bad, .bad, .bad, .bad, .bad, .bad, .bad, .bad, .bad, .bad, .bad, .bad, .bad, .bad, .bad, .bad, .bad, .bad, .bad, .bad, .bad, .bad], []⟩ = some (.brk 0, ⟨[.sc (.string x0), .sc (.string x1), .bad, .bad, .bad, .bad, .bad, .bad, .bad, .bad, .bad, .bad, .bad, .bad, .bad, .bad, .bad, .bad, .bad, .bad, .bad, .bad, .bad, .bad, .bad, .bad, .bad, .bad, .bad, .bad, .bad, .bad, .bad, .bad, .bad, .bad, .bad], []⟩) :=
  r46_0_0_2 (iadd := Ops.std.iadd) (isub := Ops.std.isub) (imul := Ops.std.imul) (iquo := Ops.std.iquo) (irem := Ops.std.irem) (ibit := Ops.std.ibit) (ishl := Ops.std.ishl) (ishr := Ops.std.ishr) (iwrap := Ops.std.iwrap) (ieq := Ops.std.ieq) (ilt := Ops.std.ilt) (ile := Ops.std.ile) (beq := Ops.std.beq) (seq := Ops.std.seq) (slt := Ops.std.slt) (sapp := Ops.std.sapp) (slen := Ops.std.slen) (sget := Ops.std.sget) (ssub := Ops.std.ssub) (llen := Ops.std.llen) (lget := Ops.std.lget) (lset := Ops.std.lset) (lapp := Ops.std.lapp) (lsub := Ops.std.lsub) (room := Ops.std.room) (call := (lim F pr).call) (loop := (lim F pr).loop) (prim := pr)  x0 x1 t5  h1 h2

theorem r46_0_0_3L (x0 : ByteArray) (x1 : ByteArray) (t5 : Int) (h1 : Ops.std.ilt t5 (Ops.std.slen x0) = false) : Ifc.round (lim F pr) [5, 0, 1] 0 b46_0 ⟨[.sc (.string x0), .sc (.string x1), .bad, .bad, .bad, .sc (.int .i64 t5), .bad, .bad, .bad, .bad, .bad, .bad, .bad, .bad, .bad, .bad, .bad, .bad, .bad, .bad, .bad, .bad, .bad, .bad, .bad, .bad, .bad, .bad, .bad, .bad, .bad, .bad, .bad, .bad, .bad, .bad, .bad], []⟩ = some (.brk 0, ⟨[.sc (.string x0), .sc (.string x1), .bad, .bad, .bad, .bad, .bad, .bad, .bad, .bad, .bad, .bad, .bad, .bad, .bad, .bad, .bad, .bad, .bad, .bad, .bad, .bad, .bad, .bad, .bad, .bad, .bad, .bad, .bad, .bad, .bad, .bad, .bad, .bad, .bad, .bad, .bad], []⟩) :=
  r46_0_0_3 (iadd := Ops.std.iadd) (isub := Ops.std.isub) (imul := Ops.std.imul) (iquo := Ops.std.iquo) (irem := Ops.std.irem) (ibit := Ops.std.ibit) (ishl := Ops.std.ishl) (ishr := Ops.std.ishr) (iwrap := Ops.std.iwrap) (ieq := Ops.std.ieq) (ilt := Ops.std.ilt) (ile := Ops.std.ile) (beq := Ops.std.beq) (seq := Ops.std.seq) (slt := Ops.std.slt) (sapp := Ops.std.sapp) (slen := Ops.std.slen) (sget := Ops.std.sget) (ssub := Ops.std.ssub) (llen := Ops.std.llen) (lget := Ops.std.lget) (lset := Ops.std.lset) (lapp := Ops.std.lapp) (lsub := Ops.std.lsub) (room := Ops.std.room) (call := (lim F pr).call) (loop := (lim F pr).loop) (prim := pr)  x0 x1 t5  h1

theorem p55_0L (x0_kind : Int) (x0_n : Int) (x0_s : ByteArray) (x0_keys : List AV) (x0_kids : List AV) (h1 : Ops.std.ieq x0_kind 1 = true) (h2 : Ops.std.seq x0_s ⟨#[]⟩ = true) (h3 : Ops.std.ilt 0 (Ops.std.llen x0_keys) = true) : runFn (lim F pr) g55 [.agg [.sc (.int .i64 x0_kind), .sc (.int .i64 x0_n), .sc (.string x0_s), .lit 9 false x0_keys, .lit 32 false x0_kids]] [] = some (.sc (.bool false), []) :=
  p55_0 (iadd := Ops.std.iadd) (isub := Ops.std.isub) (imul := Ops.std.imul) (iquo := Ops.std.iquo) (irem := Ops.std.irem) (ibit := Ops.std.ibit) (ishl := Ops.std.ishl) (ishr := Ops.std.ishr) (iwrap := Ops.std.iwrap) (ieq := Ops.std.ieq) (ilt := Ops.std.ilt) (ile := Ops.std.ile) (beq := Ops.std.beq) (seq := Ops.std.seq) (slt := Ops.std.slt) (sapp := Ops.std.sapp) (slen := Ops.std.slen) (sget := Ops.std.sget) (ssub := Ops.std.ssub) (llen := Ops.std.llen) (lget := Ops.std.lget) (lset := Ops.std.lset) (lapp := Ops.std.lapp) (lsub := Ops.std.lsub) (room := Ops.std.room) (call := (lim F pr).call) (loop := (lim F pr).loop) (prim := pr)  x0_kind x0_n x0_s x0_keys x0_kids  h1 h2 h3

theorem p55_1L (x0_kind : Int) (x0_n : Int) (x0_s : ByteArray) (x0_keys : List AV) (x0_kids : List AV) (h1 : Ops.std.ieq x0_kind 1 = true) (h2 : Ops.std.seq x0_s ⟨#[]⟩ = true) (h3 : Ops.std.ilt 0 (Ops.std.llen x0_keys) = false) : runFn (lim F pr) g55 [.agg [.sc (.int .i64 x0_kind), .sc (.int .i64 x0_n), .sc (.string x0_s), .lit 9 false x0_keys, .lit 32 false x0_kids]] [] = some (.sc (.bool ((!(Ops.std.ilt 0 (Ops.std.llen x0_kids))))), []) :=
  p55_1 (iadd := Ops.std.iadd) (isub := Ops.std.isub) (imul := Ops.std.imul) (iquo := Ops.std.iquo) (irem := Ops.std.irem) (ibit := Ops.std.ibit) (ishl := Ops.std.ishl) (ishr := Ops.std.ishr) (iwrap := Ops.std.iwrap) (ieq := Ops.std.ieq) (ilt := Ops.std.ilt) (ile := Ops.std.ile) (beq := Ops.std.beq) (seq := Ops.std.seq) (slt := Ops.std.slt) (sapp := Ops.std.sapp) (slen := Ops.std.slen) (sget := Ops.std.sget) (ssub := Ops.std.ssub) (llen := Ops.std.llen) (lget := Ops.std.lget) (lset := Ops.std.lset) (lapp := Ops.std.lapp) (lsub := Ops.std.lsub) (room := Ops.std.room) (call := (lim F pr).call) (loop := (lim F pr).loop) (prim := pr)  x0_kind x0_n x0_s x0_keys x0_kids  h1 h2 h3

theorem p55_2L (x0_kind : Int) (x0_n : Int) (x0_s : ByteArray) (x0_keys : List AV) (x0_kids : List AV) (h1 : Ops.std.ieq x0_kind 1 = true) (h2 : Ops.std.seq x0_s ⟨#[]⟩ = false) : runFn (lim F pr) g55 [.agg [.sc (.int .i64 x0_kind), .sc (.int .i64 x0_n), .sc (.string x0_s), .lit 9 false x0_keys, .lit 32 false x0_kids]] [] = some (.sc (.bool false), []) :=
  p55_2 (iadd := Ops.std.iadd) (isub := Ops.std.isub) (imul := Ops.std.imul) (iquo := Ops.std.iquo) (irem := Ops.std.irem) (ibit := Ops.std.ibit) (ishl := Ops.std.ishl) (ishr := Ops.std.ishr) (iwrap := Ops.std.iwrap) (ieq := Ops.std.ieq) (ilt := Ops.std.ilt) (ile := Ops.std.ile) (beq := Ops.std.beq) (seq := Ops.std.seq) (slt := Ops.std.slt) (sapp := Ops.std.sapp) (slen := Ops.std.slen) (sget := Ops.std.sget) (ssub := Ops.std.ssub) (llen := Ops.std.llen) (lget := Ops.std.lget) (lset := Ops.std.lset) (lapp := Ops.std.lapp) (lsub := Ops.std.lsub) (room := Ops.std.room) (call := (lim F pr).call) (loop := (lim F pr).loop) (prim := pr)  x0_kind x0_n x0_s x0_keys x0_kids  h1 h2

theorem p55_3L (x0_kind : Int) (x0_n : Int) (x0_s : ByteArray) (x0_keys : List AV) (x0_kids : List AV) (h1 : Ops.std.ieq x0_kind 1 = false) (h2 : Ops.std.ieq x0_kind 2 = true) (h3 : Ops.std.ieq x0_n 0 = true) (h4 : Ops.std.ilt 0 (Ops.std.llen x0_keys) = true) : runFn (lim F pr) g55 [.agg [.sc (.int .i64 x0_kind), .sc (.int .i64 x0_n), .sc (.string x0_s), .lit 9 false x0_keys, .lit 32 false x0_kids]] [] = some (.sc (.bool false), []) :=
  p55_3 (iadd := Ops.std.iadd) (isub := Ops.std.isub) (imul := Ops.std.imul) (iquo := Ops.std.iquo) (irem := Ops.std.irem) (ibit := Ops.std.ibit) (ishl := Ops.std.ishl) (ishr := Ops.std.ishr) (iwrap := Ops.std.iwrap) (ieq := Ops.std.ieq) (ilt := Ops.std.ilt) (ile := Ops.std.ile) (beq := Ops.std.beq) (seq := Ops.std.seq) (slt := Ops.std.slt) (sapp := Ops.std.sapp) (slen := Ops.std.slen) (sget := Ops.std.sget) (ssub := Ops.std.ssub) (llen := Ops.std.llen) (lget := Ops.std.lget) (lset := Ops.std.lset) (lapp := Ops.std.lapp) (lsub := Ops.std.lsub) (room := Ops.std.room) (call := (lim F pr).call) (loop := (lim F pr).loop) (prim := pr)  x0_kind x0_n x0_s x0_keys x0_kids  h1 h2 h3 h4

theorem p55_4L (x0_kind : Int) (x0_n : Int) (x0_s : ByteArray) (x0_keys : List AV) (x0_kids : List AV) (h1 : Ops.std.ieq x0_kind 1 = false) (h2 : Ops.std.ieq x0_kind 2 = true) (h3 : Ops.std.ieq x0_n 0 = true) (h4 : Ops.std.ilt 0 (Ops.std.llen x0_keys) = false) : runFn (lim F pr) g55 [.agg [.sc (.int .i64 x0_kind), .sc (.int .i64 x0_n), .sc (.string x0_s), .lit 9 false x0_keys, .lit 32 false x0_kids]] [] = some (.sc (.bool ((!(Ops.std.ilt 0 (Ops.std.llen x0_kids))))), []) :=
  p55_4 (iadd := Ops.std.iadd) (isub := Ops.std.isub) (imul := Ops.std.imul) (iquo := Ops.std.iquo) (irem := Ops.std.irem) (ibit := Ops.std.ibit) (ishl := Ops.std.ishl) (ishr := Ops.std.ishr) (iwrap := Ops.std.iwrap) (ieq := Ops.std.ieq) (ilt := Ops.std.ilt) (ile := Ops.std.ile) (beq := Ops.std.beq) (seq := Ops.std.seq) (slt := Ops.std.slt) (sapp := Ops.std.sapp) (slen := Ops.std.slen) (sget := Ops.std.sget) (ssub := Ops.std.ssub) (llen := Ops.std.llen) (lget := Ops.std.lget) (lset := Ops.std.lset) (lapp := Ops.std.lapp) (lsub := Ops.std.lsub) (room := Ops.std.room) (call := (lim F pr).call) (loop := (lim F pr).loop) (prim := pr)  x0_kind x0_n x0_s x0_keys x0_kids  h1 h2 h3 h4

theorem p55_5L (x0_kind : Int) (x0_n : Int) (x0_s : ByteArray) (x0_keys : List AV) (x0_kids : List AV) (h1 : Ops.std.ieq x0_kind 1 = false) (h2 : Ops.std.ieq x0_kind 2 = true) (h3 : Ops.std.ieq x0_n 0 = false) : runFn (lim F pr) g55 [.agg [.sc (.int .i64 x0_kind), .sc (.int .i64 x0_n), .sc (.string x0_s), .lit 9 false x0_keys, .lit 32 false x0_kids]] [] = some (.sc (.bool false), []) :=
  p55_5 (iadd := Ops.std.iadd) (isub := Ops.std.isub) (imul := Ops.std.imul) (iquo := Ops.std.iquo) (irem := Ops.std.irem) (ibit := Ops.std.ibit) (ishl := Ops.std.ishl) (ishr := Ops.std.ishr) (iwrap := Ops.std.iwrap) (ieq := Ops.std.ieq) (ilt := Ops.std.ilt) (ile := Ops.std.ile) (beq := Ops.std.beq) (seq := Ops.std.seq) (slt := Ops.std.slt) (sapp := Ops.std.sapp) (slen := Ops.std.slen) (sget := Ops.std.sget) (ssub := Ops.std.ssub) (llen := Ops.std.llen) (lget := Ops.std.lget) (lset := Ops.std.lset) (lapp := Ops.std.lapp) (lsub := Ops.std.lsub) (room := Ops.std.room) (call := (lim F pr).call) (loop := (lim F pr).loop) (prim := pr)  x0_kind x0_n x0_s x0_keys x0_kids  h1 h2 h3

theorem p55_6L (x0_kind : Int) (x0_n : Int) (x0_s : ByteArray) (x0_keys : List AV) (x0_kids : List AV) (h1 : Ops.std.ieq x0_kind 1 = false) (h2 : Ops.std.ieq x0_kind 2 = false) (h3 : Ops.std.ieq x0_kind 3 = true) (h4 : Ops.std.ieq x0_n 0 = true) (h5 : Ops.std.seq x0_s ⟨#[]⟩ = true) : runFn (lim F pr) g55 [.agg [.sc (.int .i64 x0_kind), .sc (.int .i64 x0_n), .sc (.string x0_s), .lit 9 false x0_keys, .lit 32 false x0_kids]] [] = some (.sc (.bool ((!(Ops.std.ilt 0 (Ops.std.llen x0_keys))))), []) :=
  p55_6 (iadd := Ops.std.iadd) (isub := Ops.std.isub) (imul := Ops.std.imul) (iquo := Ops.std.iquo) (irem := Ops.std.irem) (ibit := Ops.std.ibit) (ishl := Ops.std.ishl) (ishr := Ops.std.ishr) (iwrap := Ops.std.iwrap) (ieq := Ops.std.ieq) (ilt := Ops.std.ilt) (ile := Ops.std.ile) (beq := Ops.std.beq) (seq := Ops.std.seq) (slt := Ops.std.slt) (sapp := Ops.std.sapp) (slen := Ops.std.slen) (sget := Ops.std.sget) (ssub := Ops.std.ssub) (llen := Ops.std.llen) (lget := Ops.std.lget) (lset := Ops.std.lset) (lapp := Ops.std.lapp) (lsub := Ops.std.lsub) (room := Ops.std.room) (call := (lim F pr).call) (loop := (lim F pr).loop) (prim := pr)  x0_kind x0_n x0_s x0_keys x0_kids  h1 h2 h3 h4 h5

theorem p55_7L (x0_kind : Int) (x0_n : Int) (x0_s : ByteArray) (x0_keys : List AV) (x0_kids : List AV) (h1 : Ops.std.ieq x0_kind 1 = false) (h2 : Ops.std.ieq x0_kind 2 = false) (h3 : Ops.std.ieq x0_kind 3 = true) (h4 : Ops.std.ieq x0_n 0 = true) (h5 : Ops.std.seq x0_s ⟨#[]⟩ = false) : runFn (lim F pr) g55 [.agg [.sc (.int .i64 x0_kind), .sc (.int .i64 x0_n), .sc (.string x0_s), .lit 9 false x0_keys, .lit 32 false x0_kids]] [] = some (.sc (.bool false), []) :=
  p55_7 (iadd := Ops.std.iadd) (isub := Ops.std.isub) (imul := Ops.std.imul) (iquo := Ops.std.iquo) (irem := Ops.std.irem) (ibit := Ops.std.ibit) (ishl := Ops.std.ishl) (ishr := Ops.std.ishr) (iwrap := Ops.std.iwrap) (ieq := Ops.std.ieq) (ilt := Ops.std.ilt) (ile := Ops.std.ile) (beq := Ops.std.beq) (seq := Ops.std.seq) (slt := Ops.std.slt) (sapp := Ops.std.sapp) (slen := Ops.std.slen) (sget := Ops.std.sget) (ssub := Ops.std.ssub) (llen := Ops.std.llen) (lget := Ops.std.lget) (lset := Ops.std.lset) (lapp := Ops.std.lapp) (lsub := Ops.std.lsub) (room := Ops.std.room) (call := (lim F pr).call) (loop := (lim F pr).loop) (prim := pr)  x0_kind x0_n x0_s x0_keys x0_kids  h1 h2 h3 h4 h5

theorem p55_8L (x0_kind : Int) (x0_n : Int) (x0_s : ByteArray) (x0_keys : List AV) (x0_kids : List AV) (h1 : Ops.std.ieq x0_kind 1 = false) (h2 : Ops.std.ieq x0_kind 2 = false) (h3 : Ops.std.ieq x0_kind 3 = true) (h4 : Ops.std.ieq x0_n 0 = false) : runFn (lim F pr) g55 [.agg [.sc (.int .i64 x0_kind), .sc (.int .i64 x0_n), .sc (.string x0_s), .lit 9 false x0_keys, .lit 32 false x0_kids]] [] = some (.sc (.bool false), []) :=
  p55_8 (iadd := Ops.std.iadd) (isub := Ops.std.isub) (imul := Ops.std.imul) (iquo := Ops.std.iquo) (irem := Ops.std.irem) (ibit := Ops.std.ibit) (ishl := Ops.std.ishl) (ishr := Ops.std.ishr) (iwrap := Ops.std.iwrap) (ieq := Ops.std.ieq) (ilt := Ops.std.ilt) (ile := Ops.std.ile) (beq := Ops.std.beq) (seq := Ops.std.seq) (slt := Ops.std.slt) (sapp := Ops.std.sapp) (slen := Ops.std.slen) (sget := Ops.std.sget) (ssub := Ops.std.ssub) (llen := Ops.std.llen) (lget := Ops.std.lget) (lset := Ops.std.lset) (lapp := Ops.std.lapp) (lsub := Ops.std.lsub) (room := Ops.std.room) (call := (lim F pr).call) (loop := (lim F pr).loop) (prim := pr)  x0_kind x0_n x0_s x0_keys x0_kids  h1 h2 h3 h4

theorem p55_9L (x0_kind : Int) (x0_n : Int) (x0_s : ByteArray) (x0_keys : List AV) (x0_kids : List AV) (h1 : Ops.std.ieq x0_kind 1 = false) (h2 : Ops.std.ieq x0_kind 2 = false) (h3 : Ops.std.ieq x0_kind 3 = false) (h4 : Ops.std.ieq x0_n 0 = true) (h5 : Ops.std.seq x0_s ⟨#[]⟩ = true) : runFn (lim F pr) g55 [.agg [.sc (.int .i64 x0_kind), .sc (.int .i64 x0_n), .sc (.string x0_s), .lit 9 false x0_keys, .lit 32 false x0_kids]] [] = some (.sc (.bool (Ops.std.ieq (Ops.std.llen x0_keys) (Ops.std.llen x0_kids))), []) :=
  p55_9 (iadd := Ops.std.iadd) (isub := Ops.std.isub) (imul := Ops.std.imul) (iquo := Ops.std.iquo) (irem := Ops.std.irem) (ibit := Ops.std.ibit) (ishl := Ops.std.ishl) (ishr := Ops.std.ishr) (iwrap := Ops.std.iwrap) (ieq := Ops.std.ieq) (ilt := Ops.std.ilt) (ile := Ops.std.ile) (beq := Ops.std.beq) (seq := Ops.std.seq) (slt := Ops.std.slt) (sapp := Ops.std.sapp) (slen := Ops.std.slen) (sget := Ops.std.sget) (ssub := Ops.std.ssub) (llen := Ops.std.llen) (lget := Ops.std.lget) (lset := Ops.std.lset) (lapp := Ops.std.lapp) (lsub := Ops.std.lsub) (room := Ops.std.room) (call := (lim F pr).call) (loop := (lim F pr).loop) (prim := pr)  x0_kind x0_n x0_s x0_keys x0_kids  h1 h2 h3 h4 h5

theorem p55_10L (x0_kind : Int) (x0_n : Int) (x0_s : ByteArray) (x0_keys : List AV) (x0_kids : List AV) (h1 : Ops.std.ieq x0_kind 1 = false) (h2 : Ops.std.ieq x0_kind 2 = false) (h3 : Ops.std.ieq x0_kind 3 = false) (h4 : Ops.std.ieq x0_n 0 = true) (h5 : Ops.std.seq x0_s ⟨#[]⟩ = false) : runFn (lim F pr) g55 [.agg [.sc (.int .i64 x0_kind), .sc (.int .i64 x0_n), .sc (.string x0_s), .lit 9 false x0_keys, .lit 32 false x0_kids]] [] = some (.sc (.bool false), []) :=
  p55_10 (iadd := Ops.std.iadd) (isub := Ops.std.isub) (imul := Ops.std.imul) (iquo := Ops.std.iquo) (irem := Ops.std.irem) (ibit := Ops.std.ibit) (ishl := Ops.std.ishl) (ishr := Ops.std.ishr) (iwrap := Ops.std.iwrap) (ieq := Ops.std.ieq) (ilt := Ops.std.ilt) (ile := Ops.std.ile) (beq := Ops.std.beq) (seq := Ops.std.seq) (slt := Ops.std.slt) (sapp := Ops.std.sapp) (slen := Ops.std.slen) (sget := Ops.std.sget) (ssub := Ops.std.ssub) (llen := Ops.std.llen) (lget := Ops.std.lget) (lset := Ops.std.lset) (lapp := Ops.std.lapp) (lsub := Ops.std.lsub) (room := Ops.std.room) (call := (lim F pr).call) (loop := (lim F pr).loop) (prim := pr)  x0_kind x0_n x0_s x0_keys x0_kids  h1 h2 h3 h4 h5

theorem p55_11L (x0_kind : Int) (x0_n : Int) (x0_s : ByteArray) (x0_keys : List AV) (x0_kids : List AV) (h1 : Ops.std.ieq x0_kind 1 = false) (h2 : Ops.std.ieq x0_kind 2 = false) (h3 : Ops.std.ieq x0_kind 3 = false) (h4 : Ops.std.ieq x0_n 0 = false) : runFn (lim F pr) g55 [.agg [.sc (.int .i64 x0_kind), .sc (.int .i64 x0_n), .sc (.string x0_s), .lit 9 false x0_keys, .lit 32 false x0_kids]] [] = some (.sc (.bool false), []) :=
  p55_11 (iadd := Ops.std.iadd) (isub := Ops.std.isub) (imul := Ops.std.imul) (iquo := Ops.std.iquo) (irem := Ops.std.irem) (ibit := Ops.std.ibit) (ishl := Ops.std.ishl) (ishr := Ops.std.ishr) (iwrap := Ops.std.iwrap) (ieq := Ops.std.ieq) (ilt := Ops.std.ilt) (ile := Ops.std.ile) (beq := Ops.std.beq) (seq := Ops.std.seq) (slt := Ops.std.slt) (sapp := Ops.std.sapp) (slen := Ops.std.slen) (sget := Ops.std.sget) (ssub := Ops.std.ssub) (llen := Ops.std.llen) (lget := Ops.std.lget) (lset := Ops.std.lset) (lapp := Ops.std.lapp) (lsub := Ops.std.lsub) (room := Ops.std.room) (call := (lim F pr).call) (loop := (lim F pr).loop) (prim := pr)  x0_kind x0_n x0_s x0_keys x0_kids  h1 h2 h3 h4

def f55 (x0_kind : Int) (x0_n : Int) (x0_s : ByteArray) (x0_keys : List AV) (x0_kids : List AV) : AV := (bif Ops.std.ieq x0_kind 1 then (bif Ops.std.seq x0_s ⟨#[]⟩ then (bif Ops.std.ilt 0 (Ops.std.llen x0_keys) then (.sc (.bool false)) else (.sc (.bool ((!(Ops.std.ilt 0 (Ops.std.llen x0_kids))))))) else (.sc (.bool false))) else (bif Ops.std.ieq x0_kind 2 then (bif Ops.std.ieq x0_n 0 then (bif Ops.std.ilt 0 (Ops.std.llen x0_keys) then (.sc (.bool false)) else (.sc (.bool ((!(Ops.std.ilt 0 (Ops.std.llen x0_kids))))))) else (.sc (.bool false))) else (bif Ops.std.ieq x0_kind 3 then (bif Ops.std.ieq x0_n 0 then (bif Ops.std.seq x0_s ⟨#[]⟩ then (.sc (.bool ((!(Ops.std.ilt 0 (Ops.std.llen x0_keys)))))) else (.sc (.bool false))) else (.sc (.bool false))) else (bif Ops.std.ieq x0_n 0 then (bif Ops.std.seq x0_s ⟨#[]⟩ then (.sc (.bool (Ops.std.ieq (Ops.std.llen x0_keys) (Ops.std.llen x0_kids)))) else (.sc (.bool false))) else (.sc (.bool false))))))
theorem c55 (x0_kind : Int) (x0_n : Int) (x0_s : ByteArray) (x0_keys : List AV) (x0_kids : List AV) : runFn (lim F pr) g55 [.agg [.sc (.int .i64 x0_kind), .sc (.int .i64 x0_n), .sc (.string x0_s), .lit 9 false x0_keys, .lit 32 false x0_kids]] [] = some (f55 x0_kind x0_n x0_s x0_keys x0_kids, []) := by
  unfold f55
  cases e1 : Ops.std.ieq x0_kind 1
  · cases e2 : Ops.std.ieq x0_kind 2
    · cases e3 : Ops.std.ieq x0_kind 3
      · cases e4 : Ops.std.ieq x0_n 0
        · exact p55_11L x0_kind x0_n x0_s x0_keys x0_kids e1 e2 e3 e4
        · cases e5 : Ops.std.seq x0_s ⟨#[]⟩
          · exact p55_10L x0_kind x0_n x0_s x0_keys x0_kids e1 e2 e3 e4 e5
          · exact p55_9L x0_kind x0_n x0_s x0_keys x0_kids e1 e2 e3 e4 e5
      · cases e4 : Ops.std.ieq x0_n 0
        · exact p55_8L x0_kind x0_n x0_s x0_keys x0_kids e1 e2 e3 e4
        · cases e5 : Ops.std.seq x0_s ⟨#[]⟩
          · exact p55_7L x0_kind x0_n x0_s x0_keys x0_kids e1 e2 e3 e4 e5
          · exact p55_6L x0_kind x0_n x0_s x0_keys x0_kids e1 e2 e3 e4 e5
    · cases e3 : Ops.std.ieq x0_n 0
      · exact p55_5L x0_kind x0_n x0_s x0_keys x0_kids e1 e2 e3
      · cases e4 : Ops.std.ilt 0 (Ops.std.llen x0_keys)
        · exact p55_4L x0_kind x0_n x0_s x0_keys x0_kids e1 e2 e3 e4
        · exact p55_3L x0_kind x0_n x0_s x0_keys x0_kids e1 e2 e3 e4
  · cases e2 : Ops.std.seq x0_s ⟨#[]⟩
    · exact p55_2L x0_kind x0_n x0_s x0_keys x0_kids e1 e2
    · cases e3 : Ops.std.ilt 0 (Ops.std.llen x0_keys)
      · exact p55_1L x0_kind x0_n x0_s x0_keys x0_kids e1 e2 e3
      · exact p55_0L x0_kind x0_n x0_s x0_keys x0_kids e1 e2 e3

theorem p56_0L (x0 : ByteArray) : runFn (lim F pr) g56 [.sc (.string x0)] [] = some (.sc (.bool (Ops.std.ilt 1048576 (Ops.std.slen x0))), []) :=
  p56_0 (iadd := Ops.std.iadd) (isub := Ops.std.isub) (imul := Ops.std.imul) (iquo := Ops.std.iquo) (irem := Ops.std.irem) (ibit := Ops.std.ibit) (ishl := Ops.std.ishl) (ishr := Ops.std.ishr) (iwrap := Ops.std.iwrap) (ieq := Ops.std.ieq) (ilt := Ops.std.ilt) (ile := Ops.std.ile) (beq := Ops.std.beq) (seq := Ops.std.seq) (slt := Ops.std.slt) (sapp := Ops.std.sapp) (slen := Ops.std.slen) (sget := Ops.std.sget) (ssub := Ops.std.ssub) (llen := Ops.std.llen) (lget := Ops.std.lget) (lset := Ops.std.lset) (lapp := Ops.std.lapp) (lsub := Ops.std.lsub) (room := Ops.std.room) (call := (lim F pr).call) (loop := (lim F pr).loop) (prim := pr)  x0  

theorem p57k_0L (x0 : List AV) (r : Int) (h1 : (lim F pr).call 42 [.lit 9 false x0, .fn 56 []] [] = some (.sc (.int .i64 r), [])) : runFn (lim F pr) g57 [.lit 9 false x0, .fn 56 []] [] = some (.sc (.bool (Ops.std.ile 0 r)), []) :=
  p57k_0 (iadd := Ops.std.iadd) (isub := Ops.std.isub) (imul := Ops.std.imul) (iquo := Ops.std.iquo) (irem := Ops.std.irem) (ibit := Ops.std.ibit) (ishl := Ops.std.ishl) (ishr := Ops.std.ishr) (iwrap := Ops.std.iwrap) (ieq := Ops.std.ieq) (ilt := Ops.std.ilt) (ile := Ops.std.ile) (beq := Ops.std.beq) (seq := Ops.std.seq) (slt := Ops.std.slt) (sapp := Ops.std.sapp) (slen := Ops.std.slen) (sget := Ops.std.sget) (ssub := Ops.std.ssub) (llen := Ops.std.llen) (lget := Ops.std.lget) (lset := Ops.std.lset) (lapp := Ops.std.lapp) (lsub := Ops.std.lsub) (room := Ops.std.room) (call := (lim F pr).call) (loop := (lim F pr).loop) (prim := pr)  x0 r rfl h1

theorem p42k_0L (x0 : List AV) (t4o : Int) (h1 : (lim F pr).loop [7, 1, 0, 8] 0 b42_0 ⟨[.lit 9 false x0, .fn 56 [], .bad, .bad, .bad, .bad, .bad, .sc (.int .i64 (Ops.std.llen x0)), .sc (.int .i64 0), .bad, .bad, .bad, .bad, .bad, .bad, .bad, .bad, .bad, .bad], []⟩ = some (.ret, ⟨[.bad, .bad, .bad, .bad, .sc (.int .i64 t4o), .bad, .bad, .bad, .bad, .bad, .bad, .bad, .bad, .bad, .bad, .bad, .bad, .bad, .bad], []⟩)) : runFn (lim F pr) g42 [.lit 9 false x0, .fn 56 []] [] = some (.sc (.int .i64 t4o), []) :=
  p42k_0 (iadd := Ops.std.iadd) (isub := Ops.std.isub) (imul := Ops.std.imul) (iquo := Ops.std.iquo) (irem := Ops.std.irem) (ibit := Ops.std.ibit) (ishl := Ops.std.ishl) (ishr := Ops.std.ishr) (iwrap := Ops.std.iwrap) (ieq := Ops.std.ieq) (ilt := Ops.std.ilt) (ile := Ops.std.ile) (beq := Ops.std.beq) (seq := Ops.std.seq) (slt := Ops.std.slt) (sapp := Ops.std.sapp) (slen := Ops.std.slen) (sget := Ops.std.sget) (ssub := Ops.std.ssub) (llen := Ops.std.llen) (lget := Ops.std.lget) (lset := Ops.std.lset) (lapp := Ops.std.lapp) (lsub := Ops.std.lsub) (room := Ops.std.room) (call := (lim F pr).call) (loop := (lim F pr).loop) (prim := pr) b42_0 x0 t4o  h1

theorem p42k_1L (x0 : List AV) (h1 : (lim F pr).loop [7, 1, 0, 8] 0 b42_0 ⟨[.lit 9 false x0, .fn 56 [], .bad, .bad, .bad, .bad, .bad, .sc (.int .i64 (Ops.std.llen x0)), .sc (.int .i64 0), .bad, .bad, .bad, .bad, .bad, .bad, .bad, .bad, .bad, .bad], []⟩ = some (.brk 0, ⟨[.bad, .bad, .bad, .bad, .bad, .bad, .bad, .bad, .bad, .bad, .bad, .bad, .bad, .bad, .bad, .bad, .bad, .bad, .bad], []⟩)) : runFn (lim F pr) g42 [.lit 9 false x0, .fn 56 []] [] = some (.sc (.int .i64 (-1)), []) :=
  p42k_1 (iadd := Ops.std.iadd) (isub := Ops.std.isub) (imul := Ops.std.imul) (iquo := Ops.std.iquo) (irem := Ops.std.irem) (ibit := Ops.std.ibit) (ishl := Ops.std.ishl) (ishr := Ops.std.ishr) (iwrap := Ops.std.iwrap) (ieq := Ops.std.ieq) (ilt := Ops.std.ilt) (ile := Ops.std.ile) (beq := Ops.std.beq) (seq := Ops.std.seq) (slt := Ops.std.slt) (sapp := Ops.std.sapp) (slen := Ops.std.slen) (sget := Ops.std.sget) (ssub := Ops.std.ssub) (llen := Ops.std.llen) (lget := Ops.std.lget) (lset := Ops.std.lset) (lapp := Ops.std.lapp) (lsub := Ops.std.lsub) (room := Ops.std.room) (call := (lim F pr).call) (loop := (lim F pr).loop) (prim := pr) b42_0 x0  h1

abbrev W42_0k_0 (t4o : Int) : X × St := (.ret, ⟨[.bad, .bad, .bad, .bad, .sc (.int .i64 t4o), .bad, .bad, .bad, .bad, .bad, .bad, .bad, .bad, .bad, .bad, .bad, .bad, .bad, .bad], []⟩)

abbrev W42_0k_1 : X × St := (.brk 0, ⟨[.bad, .bad, .bad, .bad, .bad, .bad, .bad, .bad, .bad, .bad, .bad, .bad, .bad, .bad, .bad, .bad, .bad, .bad, .bad], []⟩)

abbrev H42_0k_0 (x0 : List AV) (t8 : Int) : St := ⟨[.lit 9 false x0, .fn 56 [], .bad, .bad, .bad, .bad, .bad, .sc (.int .i64 (Ops.std.llen x0)), .sc (.int .i64 t8), .bad, .bad, .bad, .bad, .bad, .bad, .bad, .bad, .bad, .bad], []⟩

theorem r42_0k_0_0L (x0 : List AV) (t8 : Int) (x : ByteArray) (r : Bool) (h1 : Ops.std.ilt t8 (Ops.std.llen x0) = true) (h2 : Ops.std.lget x0 t8 = some (.sc (.string x))) (h3 : (lim F pr).call 56 [.sc (.string x)] [] = some (.sc (.bool r), [])) (h4 : r = true) : Ifc.round (lim F pr) [7, 1, 0, 8] 0 b42_0 ⟨[.lit 9 false x0, .fn 56 [], .bad, .bad, .bad, .bad, .bad, .sc (.int .i64 (Ops.std.llen x0)), .sc (.int .i64 t8), .bad, .bad, .bad, .bad, .bad, .bad, .bad, .bad, .bad, .bad], []⟩ = some (.ret, ⟨[.bad, .bad, .bad, .bad, .sc (.int .i64 t8), .bad, .bad, .bad, .bad, .bad, .bad, .bad, .bad, .bad, .bad, .bad, .bad, .bad, .bad], []⟩) :=
  r42_0k_0_0 (iadd := Ops.std.iadd) (isub := Ops.std.isub) (imul := Ops.std.imul) (iquo := Ops.std.iquo) (irem := Ops.std.irem) (ibit := Ops.std.ibit) (ishl := Ops.std.ishl) (ishr := Ops.std.ishr) (iwrap := Ops.std.iwrap) (ieq := Ops.std.ieq) (ilt := Ops.std.ilt) (ile := Ops.std.ile) (beq := Ops.std.beq) (seq := Ops.std.seq) (slt := Ops.std.slt) (sapp := Ops.std.sapp) (slen := Ops.std.slen) (sget := Ops.std.sget) (ssub := Ops.std.ssub) (llen := Ops.std.llen) (lget := Ops.std.lget) (lset := Ops.std.lset) (lapp := Ops.std.lapp) (lsub := Ops.std.lsub) (room := Ops.std.room) (call := (lim F pr).call) (loop := (lim F pr).loop) (prim := pr)  x0 t8 x r rfl h1 h2 h3 h4

theorem r42_0k_0_1L (x0 : List AV) (t8 : Int) (x : ByteArray) (r : Bool) (h1 : Ops.std.ilt t8 (Ops.std.llen x0) = true) (h2 : Ops.std.lget x0 t8 = some (.sc (.string x))) (h3 : (lim F pr).call 56 [.sc (.string x)] [] = some (.sc (.bool r), [])) (h4 : r = false) : Ifc.round (lim F pr) [7, 1, 0, 8] 0 b42_0 ⟨[.lit 9 false x0, .fn 56 [], .bad, .bad, .bad, .bad, .bad, .sc (.int .i64 (Ops.std.llen x0)), .sc (.int .i64 t8), .bad, .bad, .bad, .bad, .bad, .bad, .bad, .bad, .bad, .bad], []⟩ = (lim F pr).loop [7, 1, 0, 8] 0 b42_0 ⟨[.lit 9 false x0, .fn 56 [], .bad, .bad, .bad, .bad, .bad, .sc (.int .i64 (Ops.std.llen x0)), .sc (.int .i64 (Ops.std.iadd .i64 t8 1)), .bad, .bad, .bad, .bad, .bad, .bad, .bad, .bad, .bad, .bad], []⟩ :=
  r42_0k_0_1 (iadd := Ops.std.iadd) (isub := Ops.std.isub) (imul := Ops.std.imul) (iquo := Ops.std.iquo) (irem := Ops.std.irem) (ibit := Ops.std.ibit) (ishl := Ops.std.ishl) (ishr := Ops.std.ishr) (iwrap := Ops.std.iwrap) (ieq := Ops.std.ieq) (ilt := Ops.std.ilt) (ile := Ops.std.ile) (beq := Ops.std.beq) (seq := Ops.std.seq) (slt := Ops.std.slt) (sapp := Ops.std.sapp) (slen := Ops.std.slen) (sget := Ops.std.sget) (ssub := Ops.std.ssub) (llen := Ops.std.llen) (lget := Ops.std.lget) (lset := Ops.std.lset) (lapp := Ops.std.lapp) (lsub := Ops.std.lsub) (room := Ops.std.room) (call := (lim F pr).call) (loop := (lim F pr).loop) (prim := pr)  x0 t8 x r rfl h1 h2 h3 h4

theorem r42_0k_0_2L (x0 : List AV) (t8 : Int) (h1 : Ops.std.ilt t8 (Ops.std.llen x0) = false) : Ifc.round (lim F pr) [7, 1, 0, 8] 0 b42_0 ⟨[.lit 9 false x0, .fn 56 [], .bad, .bad, .bad, .bad, .bad, .sc (.int .i64 (Ops.std.llen x0)), .sc (.int .i64 t8), .bad, .bad, .bad, .bad, .bad, .bad, .bad, .bad, .bad, .bad], []⟩ = some (.brk 0, ⟨[.bad, .bad, .bad, .bad, .bad, .bad, .bad, .bad, .bad, .bad, .bad, .bad, .bad, .bad, .bad, .bad, .bad, .bad, .bad], []⟩) :=
  r42_0k_0_2 (iadd := Ops.std.iadd) (isub := Ops.std.isub) (imul := Ops.std.imul) (iquo := Ops.std.iquo) (irem := Ops.std.irem) (ibit := Ops.std.ibit) (ishl := Ops.std.ishl) (ishr := Ops.std.ishr) (iwrap := Ops.std.iwrap) (ieq := Ops.std.ieq) (ilt := Ops.std.ilt) (ile := Ops.std.ile) (beq := Ops.std.beq) (seq := Ops.std.seq) (slt := Ops.std.slt) (sapp := Ops.std.sapp) (slen := Ops.std.slen) (sget := Ops.std.sget) (ssub := Ops.std.ssub) (llen := Ops.std.llen) (lget := Ops.std.lget) (lset := Ops.std.lset) (lapp := Ops.std.lapp) (lsub := Ops.std.lsub) (room := Ops.std.room) (call := (lim F pr).call) (loop := (lim F pr).loop) (prim := pr)  x0 t8  h1

theorem p42s_0L (x0 : List AV) (key : ByteArray) (t4o : Int) (h1 : (lim F pr).loop [7, 1, 0, 8] 1 b42_0 ⟨[.lit 9 false x0, .fn 43 [.bptr 0 0], .bad, .bad, .bad, .bad, .bad, .sc (.int .i64 (Ops.std.llen x0)), .sc (.int .i64 0), .bad, .bad, .bad, .bad, .bad, .bad, .bad, .bad, .bad, .bad], [.box 9 [.sc (.string key)]]⟩ = some (.ret, ⟨[.bad, .bad, .bad, .bad, .sc (.int .i64 t4o), .bad, .bad, .bad, .bad, .bad, .bad, .bad, .bad, .bad, .bad, .bad, .bad, .bad, .bad], [.box 9 [.sc (.string key)]]⟩)) : runFn (lim F pr) g42 [.lit 9 false x0, .fn 43 [.bptr 0 0]] [.box 9 [.sc (.string key)]] = some (.sc (.int .i64 t4o), [.box 9 [.sc (.string key)]]) :=
  p42s_0 (iadd := Ops.std.iadd) (isub := Ops.std.isub) (imul := Ops.std.imul) (iquo := Ops.std.iquo) (irem := Ops.std.irem) (ibit := Ops.std.ibit) (ishl := Ops.std.ishl) (ishr := Ops.std.ishr) (iwrap := Ops.std.iwrap) (ieq := Ops.std.ieq) (ilt := Ops.std.ilt) (ile := Ops.std.ile) (beq := Ops.std.beq) (seq := Ops.std.seq) (slt := Ops.std.slt) (sapp := Ops.std.sapp) (slen := Ops.std.slen) (sget := Ops.std.sget) (ssub := Ops.std.ssub) (llen := Ops.std.llen) (lget := Ops.std.lget) (lset := Ops.std.lset) (lapp := Ops.std.lapp) (lsub := Ops.std.lsub) (room := Ops.std.room) (call := (lim F pr).call) (loop := (lim F pr).loop) (prim := pr) b42_0 x0 key t4o  h1

theorem p42s_1L (x0 : List AV) (key : ByteArray) (h1 : (lim F pr).loop [7, 1, 0, 8] 1 b42_0 ⟨[.lit 9 false x0, .fn 43 [.bptr 0 0], .bad, .bad, .bad, .bad, .bad, .sc (.int .i64 (Ops.std.llen x0)), .sc (.int .i64 0), .bad, .bad, .bad, .bad, .bad, .bad, .bad, .bad, .bad, .bad], [.box 9 [.sc (.string key)]]⟩ = some (.brk 0, ⟨[.bad, .bad, .bad, .bad, .bad, .bad, .bad, .bad, .bad, .bad, .bad, .bad, .bad, .bad, .bad, .bad, .bad, .bad, .bad], [.box 9 [.sc (.string key)]]⟩)) : runFn (lim F pr) g42 [.lit 9 false x0, .fn 43 [.bptr 0 0]] [.box 9 [.sc (.string key)]] = some (.sc (.int .i64 (-1)), [.box 9 [.sc (.string key)]]) :=
  p42s_1 (iadd := Ops.std.iadd) (isub := Ops.std.isub) (imul := Ops.std.imul) (iquo := Ops.std.iquo) (irem := Ops.std.irem) (ibit := Ops.std.ibit) (ishl := Ops.std.ishl) (ishr := Ops.std.ishr) (iwrap := Ops.std.iwrap) (ieq := Ops.std.ieq) (ilt := Ops.std.ilt) (ile := Ops.std.ile) (beq := Ops.std.beq) (seq := Ops.std.seq) (slt := Ops.std.slt) (sapp := Ops.std.sapp) (slen := Ops.std.slen) (sget := Ops.std.sget) (ssub := Ops.std.ssub) (llen := Ops.std.llen) (lget := Ops.std.lget) (lset := Ops.std.lset) (lapp := Ops.std.lapp) (lsub := Ops.std.lsub) (room := Ops.std.room) (call := (lim F pr).call) (loop := (lim F pr).loop) (prim := pr) b42_0 x0 key  h1

abbrev W42_0s_0 (key : ByteArray) (t4o : Int) : X × St := (.ret, ⟨[.bad, .bad, .bad, .bad, .sc (.int .i64 t4o), .bad, .bad, .bad, .bad, .bad, .bad, .bad, .bad, .bad, .bad, .bad, .bad, .bad, .bad], [.box 9 [.sc (.string key)]]⟩)

abbrev W42_0s_1 (key : ByteArray) : X × St := (.brk 0, ⟨[.bad, .bad, .bad, .bad, .bad, .bad, .bad, .bad, .bad, .bad, .bad, .bad, .bad, .bad, .bad, .bad, .bad, .bad, .bad], [.box 9 [.sc (.string key)]]⟩)

abbrev H42_0s_0 (x0 : List AV) (key : ByteArray) (t8 : Int) : St := ⟨[.lit 9 false x0, .fn 43 [.bptr 0 0], .bad, .bad, .bad, .bad, .bad, .sc (.int .i64 (Ops.std.llen x0)), .sc (.int .i64 t8), .bad, .bad, .bad, .bad, .bad, .bad, .bad, .bad, .bad, .bad], [.box 9 [.sc (.string key)]]⟩

theorem r42_0s_0_0L (x0 : List AV) (key : ByteArray) (t8 : Int) (x : ByteArray) (r : Bool) (h1 : Ops.std.ilt t8 (Ops.std.llen x0) = true) (h2 : Ops.std.lget x0 t8 = some (.sc (.string x))) (h3 : (lim F pr).call 43 [.sc (.string x), .bptr 0 0] [.box 9 [.sc (.string key)]] = some (.sc (.bool r), [.box 9 [.sc (.string key)]])) (h4 : r = true) : Ifc.round (lim F pr) [7, 1, 0, 8] 1 b42_0 ⟨[.lit 9 false x0, .fn 43 [.bptr 0 0], .bad, .bad, .bad, .bad, .bad, .sc (.int .i64 (Ops.std.llen x0)), .sc (.int .i64 t8), .bad, .bad, .bad, .bad, .bad, .bad, .bad, .bad, .bad, .bad], [.box 9 [.sc (.string key)]]⟩ = some (.ret, ⟨[.bad, .bad, .bad, .bad, .sc (.int .i64 t8), .bad, .bad, .bad, .bad, .bad, .bad, .bad, .bad, .bad, .bad, .bad, .bad, .bad, .bad], [.box 9 [.sc (.string key)]]⟩) :=
  r42_0s_0_0 (iadd := Ops.std.iadd) (isub := Ops.std.isub) (imul := Ops.std.imul) (iquo := Ops.std.iquo) (irem := Ops.std.irem) (ibit := Ops.std.ibit) (ishl := Ops.std.ishl) (ishr := Ops.std.ishr) (iwrap := Ops.std.iwrap) (ieq := Ops.std.ieq) (ilt := Ops.std.ilt) (ile := Ops.std.ile) (beq := Ops.std.beq) (seq := Ops.std.seq) (slt := Ops.std.slt) (sapp := Ops.std.sapp) (slen := Ops.std.slen) (sget := Ops.std.sget) (ssub := Ops.std.ssub) (llen := Ops.std.llen) (lget := Ops.std.lget) (lset := Ops.std.lset) (lapp := Ops.std.lapp) (lsub := Ops.std.lsub) (room := Ops.std.room) (call := (lim F pr).call) (loop := (lim F pr).loop) (prim := pr)  x0 key t8 x r rfl h1 h2 h3 h4

theorem r42_0s_0_1L (x0 : List AV) (key : ByteArray) (t8 : Int) (x : ByteArray) (r : Bool) (h1 : Ops.std.ilt t8 (Ops.std.llen x0) = true) (h2 : Ops.std.lget x0 t8 = some (.sc (.string x))) (h3 : (lim F pr).call 43 [.sc (.string x), .bptr 0 0] [.box 9 [.sc (.string key)]] = some (.sc (.bool r), [.box 9 [.sc (.string key)]])) (h4 : r = false) : Ifc.round (lim F pr) [7, 1, 0, 8] 1 b42_0 ⟨[.lit 9 false x0, .fn 43 [.bptr 0 0], .bad, .bad, .bad, .bad, .bad, .sc (.int .i64 (Ops.std.llen x0)), .sc (.int .i64 t8), .bad, .bad, .bad, .bad, .bad, .bad, .bad, .bad, .bad, .bad], [.box 9 [.sc (.string key)]]⟩ = (lim F pr).loop [7, 1, 0, 8] 1 b42_0 ⟨[.lit 9 false x0, .fn 43 [.bptr 0 0], .bad, .bad, .bad, .bad, .bad, .sc (.int .i64 (Ops.std.llen x0)), .sc (.int .i64 (Ops.std.iadd .i64 t8 1)), .bad, .bad, .bad, .bad, .bad, .bad, .bad, .bad, .bad, .bad], [.box 9 [.sc (.string key)]]⟩ :=
  r42_0s_0_1 (iadd := Ops.std.iadd) (isub := Ops.std.isub) (imul := Ops.std.imul) (iquo := Ops.std.iquo) (irem := Ops.std.irem) (ibit := Ops.std.ibit) (ishl := Ops.std.ishl) (ishr := Ops.std.ishr) (iwrap := Ops.std.iwrap) (ieq := Ops.std.ieq) (ilt := Ops.std.ilt) (ile := Ops.std.ile) (beq := Ops.std.beq) (seq := Ops.std.seq) (slt := Ops.std.slt) (sapp := Ops.std.sapp) (slen := Ops.std.slen) (sget := Ops.std.sget) (ssub := Ops.std.ssub) (llen := Ops.std.llen) (lget := Ops.std.lget) (lset := Ops.std.lset) (lapp := Ops.std.lapp) (lsub := Ops.std.lsub) (room := Ops.std.room) (call := (lim F pr).call) (loop := (lim F pr).loop) (prim := pr)  x0 key t8 x r rfl h1 h2 h3 h4

theorem r42_0s_0_2L (x0 : List AV) (key : ByteArray) (t8 : Int) (h1 : Ops.std.ilt t8 (Ops.std.llen x0) = false) : Ifc.round (lim F pr) [7, 1, 0, 8] 1 b42_0 ⟨[.lit 9 false x0, .fn 43 [.bptr 0 0], .bad, .bad, .bad, .bad, .bad, .sc (.int .i64 (Ops.std.llen x0)), .sc (.int .i64 t8), .bad, .bad, .bad, .bad, .bad, .bad, .bad, .bad, .bad, .bad], [.box 9 [.sc (.string key)]]⟩ = some (.brk 0, ⟨[.bad, .bad, .bad, .bad, .bad, .bad, .bad, .bad, .bad, .bad, .bad, .bad, .bad, .bad, .bad, .bad, .bad, .bad, .bad], [.box 9 [.sc (.string key)]]⟩) :=
  r42_0s_0_2 (iadd := Ops.std.iadd) (isub := Ops.std.isub) (imul := Ops.std.imul) (iquo := Ops.std.iquo) (irem := Ops.std.irem) (ibit := Ops.std.ibit) (ishl := Ops.std.ishl) (ishr := Ops.std.ishr) (iwrap := Ops.std.iwrap) (ieq := Ops.std.ieq) (ilt := Ops.std.ilt) (ile := Ops.std.ile) (beq := Ops.std.beq) (seq := Ops.std.seq) (slt := Ops.std.slt) (sapp := Ops.std.sapp) (slen := Ops.std.slen) (sget := Ops.std.sget) (ssub := Ops.std.ssub) (llen := Ops.std.llen) (lget := Ops.std.lget) (lset := Ops.std.lset) (lapp := Ops.std.lapp) (lsub := Ops.std.lsub) (room := Ops.std.room) (call := (lim F pr).call) (loop := (lim F pr).loop) (prim := pr)  x0 key t8  h1

theorem p43_0L (x0 : ByteArray) (key : ByteArray) : runFn (lim F pr) g43 [.sc (.string x0), .bptr 0 0] [.box 9 [.sc (.string key)]] = some (.sc (.bool (Ops.std.slt key x0)), [.box 9 [.sc (.string key)]]) :=
  p43_0 (iadd := Ops.std.iadd) (isub := Ops.std.isub) (imul := Ops.std.imul) (iquo := Ops.std.iquo) (irem := Ops.std.irem) (ibit := Ops.std.ibit) (ishl := Ops.std.ishl) (ishr := Ops.std.ishr) (iwrap := Ops.std.iwrap) (ieq := Ops.std.ieq) (ilt := Ops.std.ilt) (ile := Ops.std.ile) (beq := Ops.std.beq) (seq := Ops.std.seq) (slt := Ops.std.slt) (sapp := Ops.std.sapp) (slen := Ops.std.slen) (sget := Ops.std.sget) (ssub := Ops.std.ssub) (llen := Ops.std.llen) (lget := Ops.std.lget) (lset := Ops.std.lset) (lapp := Ops.std.lapp) (lsub := Ops.std.lsub) (room := Ops.std.room) (call := (lim F pr).call) (loop := (lim F pr).loop) (prim := pr)  x0 key  

end Go.Ab.Try
