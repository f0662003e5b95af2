/- What the functions come to, way by way: printed by a program. -/
import Derived.Test.YtcnohiofldkcoabTreeF
import Derived.Test.YtcnohiofldkcoabAbUse
namespace Go.Ab.Try
open Go Go.Ab Go.Proofs
set_option linter.unusedVariables false
set_option linter.unusedSimpArgs false
set_option maxRecDepth 10000
abbrev a8 (x0 : Int) (x1 : Int) (x2 : Bool) (x3 : Int) : AV := .agg [vI x0, vI x1, vF x2, vB x3]
abbrev a14 (x0 : ByteArray) (x1 : Int) : AV := .agg [vT x0, vU x1]
abbrev a25 (x0 : Int) (x1 : Int) : AV := .agg [vU x0, vH x1]
abbrev a41 (x0 : Int) (x1 : Int) (x2 : Int) : AV := .agg [vU x0, vH x1, vI x2]
abbrev a45 (x0 : Int) (x1 : Int) (x2 : ByteArray) (x3 : List AV) (x4 : List AV) : AV := .agg [vI x0, vI x1, vT x2, .lit 9 false x3, .lit 45 false x4]
section
variable {x0_kind x0_n x1 x2 t2o t7 t2 t8 x_kind x_n r : Int}
variable {x0_s x x_s : ByteArray}
variable {x0_keys x0_kids x_keys x_kids : List AV}
abbrev H50_0_0 (o : Ops) (x0_kind x0_n : Int) (x0_s : ByteArray) (x0_keys x0_kids : List AV) (x1 x2 t7 : Int) : St := ⟨[.bad, vI x1, vI (o.isub .i64 x2 1), .bptr 0 0, .bad, .bad, .bad, vI t7, .bad, .bad, .bad, .bad, .bad, .bad, .bad, .bad, .bad, .bad, .bad, .bad, .bad, .bad, .bad, .bad, .bad, .bad, .bad, .bad, .bad, .bad, .bad, .bad, .bad, .bad, .bad, .bad, .bad, .bad, .bad, .bad, .bad, .bad, .bad, .bad, .bad, .bad, .bad, .bad, .bad, .bad, .bad, .bad, .bad, .bad, .bad, .bad, .bad, .bad, .bad, .bad, .bad, .bad, .bad, .bad, .bad, .bad, .bad, .bad], [.box 45 [vI x0_kind, vI x0_n, vT x0_s, .lit 9 false x0_keys, .lit 45 false x0_kids]]⟩
abbrev W50_0_0 (x0_kind x0_n : Int) (x0_s : ByteArray) (x0_keys x0_kids : List AV) : X × St := (.ret, ⟨[.bad, .bad, .bad, .bad, .bad, .bad, vI (-1), .bad, .bad, .bad, .bad, .bad, .bad, .bad, .bad, .bad, .bad, .bad, .bad, .bad, .bad, .bad, .bad, .bad, .bad, .bad, .bad, .bad, .bad, .bad, .bad, .bad, .bad, .bad, .bad, .bad, .bad, .bad, .bad, .bad, .bad, .bad, .bad, .bad, .bad, .bad, .bad, .bad, .bad, .bad, .bad, .bad, .bad, .bad, .bad, .bad, .bad, .bad, .bad, .bad, .bad, .bad, .bad, .bad, .bad, .bad, .bad, .bad], [.box 45 [vI x0_kind, vI x0_n, vT x0_s, .lit 9 false x0_keys, .lit 45 false x0_kids]]⟩)
abbrev W50_0_1 (o : Ops) (x0_kind x0_n : Int) (x0_s : ByteArray) (x0_keys x0_kids : List AV) (x1 x2 : Int) : X × St := (.brk 0, ⟨[.bad, vI x1, vI (o.isub .i64 x2 1), .bptr 0 0, .bad, .bad, .bad, .bad, .bad, .bad, .bad, .bad, .bad, .bad, .bad, .bad, .bad, .bad, .bad, .bad, .bad, .bad, .bad, .bad, .bad, .bad, .bad, .bad, .bad, .bad, .bad, .bad, .bad, .bad, .bad, .bad, .bad, .bad, .bad, .bad, .bad, .bad, .bad, .bad, .bad, .bad, .bad, .bad, .bad, .bad, .bad, .bad, .bad, .bad, .bad, .bad, .bad, .bad, .bad, .bad, .bad, .bad, .bad, .bad, .bad, .bad, .bad, .bad], [.box 45 [vI x0_kind, vI x0_n, vT x0_s, .lit 9 false x0_keys, .lit 45 false x0_kids]]⟩)
abbrev H50_1_0 (x0_kind x0_n : Int) (x0_s : ByteArray) (x0_keys x0_kids : List AV) (x1 t2 t8 : Int) : St := ⟨[.bad, vI x1, vI t2, .bptr 0 0, .bad, .bad, .bad, .bad, vI t8, .bad, .bad, .bad, .bad, .bad, .bad, .bad, .bad, .bad, .bad, .bad, .bad, .bad, .bad, .bad, .bad, .bad, .bad, .bad, .bad, .bad, .bad, .bad, .bad, .bad, .bad, .bad, .bad, .bad, .bad, .bad, .bad, .bad, .bad, .bad, .bad, .bad, .bad, .bad, .bad, .bad, .bad, .bad, .bad, .bad, .bad, .bad, .bad, .bad, .bad, .bad, .bad, .bad, .bad, .bad, .bad, .bad, .bad, .bad], [.box 45 [vI x0_kind, vI x0_n, vT x0_s, .lit 9 false x0_keys, .lit 45 false x0_kids]]⟩
abbrev W50_1_0 (x0_kind x0_n : Int) (x0_s : ByteArray) (x0_keys x0_kids : List AV) : X × St := (.ret, ⟨[.bad, .bad, .bad, .bad, .bad, .bad, vI (-1), .bad, .bad, .bad, .bad, .bad, .bad, .bad, .bad, .bad, .bad, .bad, .bad, .bad, .bad, .bad, .bad, .bad, .bad, .bad, .bad, .bad, .bad, .bad, .bad, .bad, .bad, .bad, .bad, .bad, .bad, .bad, .bad, .bad, .bad, .bad, .bad, .bad, .bad, .bad, .bad, .bad, .bad, .bad, .bad, .bad, .bad, .bad, .bad, .bad, .bad, .bad, .bad, .bad, .bad, .bad, .bad, .bad, .bad, .bad, .bad, .bad], [.box 45 [vI x0_kind, vI x0_n, vT x0_s, .lit 9 false x0_keys, .lit 45 false x0_kids]]⟩)
abbrev W50_1_1 (x0_kind x0_n : Int) (x0_s : ByteArray) (x0_keys x0_kids : List AV) (t2o : Int) : X × St := (.brk 2, ⟨[.bad, .bad, vI t2o, .bad, .bad, .bad, .bad, .bad, .bad, .bad, .bad, .bad, .bad, .bad, .bad, .bad, .bad, .bad, .bad, .bad, .bad, .bad, .bad, .bad, .bad, .bad, .bad, .bad, .bad, .bad, .bad, .bad, .bad, .bad, .bad, .bad, .bad, .bad, .bad, .bad, .bad, .bad, .bad, .bad, .bad, .bad, .bad, .bad, .bad, .bad, .bad, .bad, .bad, .bad, .bad, .bad, .bad, .bad, .bad, .bad, .bad, .bad, .bad, .bad, .bad, .bad, .bad, .bad], [.box 45 [vI x0_kind, vI x0_n, vT x0_s, .lit 9 false x0_keys, .lit 45 false x0_kids]]⟩)
theorem p50_0 (h1 : Ops.std.ilt x2 1 = true) : runFn (lim F pr) g50 [a45 x0_kind x0_n x0_s x0_keys x0_kids, vI x1, vI x2] [] = some (vI (-1), []) := by
  show runFn ⟨Ops.std, (lim F pr).call, (lim F pr).loop, pr⟩ (g50F b50_0 b50_1) _ _ = _
  generalize (lim F pr).call = call at *; generalize (lim F pr).loop = loop at *; generalize Ops.std = o at *; generalize b50_0 = c0 at *; generalize b50_1 = c1 at *
  cases o; try dsimp only at *
  cbv
  all_goals (try rw [h1]); all_goals (try cbv)

theorem p50_1 (h1 : Ops.std.ilt x2 1 = false) (h2 : Ops.std.ilt 20 x1 = true) : runFn (lim F pr) g50 [a45 x0_kind x0_n x0_s x0_keys x0_kids, vI x1, vI x2] [] = some (vI (-1), []) := by
  show runFn ⟨Ops.std, (lim F pr).call, (lim F pr).loop, pr⟩ (g50F b50_0 b50_1) _ _ = _
  generalize (lim F pr).call = call at *; generalize (lim F pr).loop = loop at *; generalize Ops.std = o at *; generalize b50_0 = c0 at *; generalize b50_1 = c1 at *
  cases o; try dsimp only at *
  cbv
  all_goals (try rw [h1]); all_goals (try cbv)
  all_goals (try rw [h2]); all_goals (try cbv)

theorem p50_2 (h1 : Ops.std.ilt x2 1 = false) (h2 : Ops.std.ilt 20 x1 = false) (h3 : Ops.std.ilt 300 (Ops.std.slen x0_s) = true) : runFn (lim F pr) g50 [a45 x0_kind x0_n x0_s x0_keys x0_kids, vI x1, vI x2] [] = some (vI (-1), []) := by
  show runFn ⟨Ops.std, (lim F pr).call, (lim F pr).loop, pr⟩ (g50F b50_0 b50_1) _ _ = _
  generalize (lim F pr).call = call at *; generalize (lim F pr).loop = loop at *; generalize Ops.std = o at *; generalize b50_0 = c0 at *; generalize b50_1 = c1 at *
  cases o; try dsimp only at *
  cbv
  all_goals (try rw [h1]); all_goals (try cbv)
  all_goals (try rw [h2]); all_goals (try cbv)
  all_goals (try rw [h3]); all_goals (try cbv)

theorem p50_3 (h1 : Ops.std.ilt x2 1 = false) (h2 : Ops.std.ilt 20 x1 = false) (h3 : Ops.std.ilt 300 (Ops.std.slen x0_s) = false) (h4 : Ops.std.ilt 20 (Ops.std.llen x0_keys) = true) : runFn (lim F pr) g50 [a45 x0_kind x0_n x0_s x0_keys x0_kids, vI x1, vI x2] [] = some (vI (-1), []) := by
  show runFn ⟨Ops.std, (lim F pr).call, (lim F pr).loop, pr⟩ (g50F b50_0 b50_1) _ _ = _
  generalize (lim F pr).call = call at *; generalize (lim F pr).loop = loop at *; generalize Ops.std = o at *; generalize b50_0 = c0 at *; generalize b50_1 = c1 at *
  cases o; try dsimp only at *
  cbv
  all_goals (try rw [h1]); all_goals (try cbv)
  all_goals (try rw [h2]); all_goals (try cbv)
  all_goals (try rw [h3]); all_goals (try cbv)
  all_goals (try rw [h4]); all_goals (try cbv)

theorem p50_4 (h1 : Ops.std.ilt x2 1 = false) (h2 : Ops.std.ilt 20 x1 = false) (h3 : Ops.std.ilt 300 (Ops.std.slen x0_s) = false) (h4 : Ops.std.ilt 20 (Ops.std.llen x0_keys) = false) (h5 : Ops.std.ilt 20 (Ops.std.llen x0_kids) = true) : runFn (lim F pr) g50 [a45 x0_kind x0_n x0_s x0_keys x0_kids, vI x1, vI x2] [] = some (vI (-1), []) := by
  show runFn ⟨Ops.std, (lim F pr).call, (lim F pr).loop, pr⟩ (g50F b50_0 b50_1) _ _ = _
  generalize (lim F pr).call = call at *; generalize (lim F pr).loop = loop at *; generalize Ops.std = o at *; generalize b50_0 = c0 at *; generalize b50_1 = c1 at *
  cases o; try dsimp only at *
  cbv
  all_goals (try rw [h1]); all_goals (try cbv)
  all_goals (try rw [h2]); all_goals (try cbv)
  all_goals (try rw [h3]); all_goals (try cbv)
  all_goals (try rw [h4]); all_goals (try cbv)
  all_goals (try rw [h5]); all_goals (try cbv)

theorem p50_5 (h1 : Ops.std.ilt x2 1 = false) (h2 : Ops.std.ilt 20 x1 = false) (h3 : Ops.std.ilt 300 (Ops.std.slen x0_s) = false) (h4 : Ops.std.ilt 20 (Ops.std.llen x0_keys) = false) (h5 : Ops.std.ilt 20 (Ops.std.llen x0_kids) = false) (h6 : (lim F pr).loop [7, 3, 1, 2] 1 b50_0 (H50_0_0 Ops.std x0_kind x0_n x0_s x0_keys x0_kids x1 x2 0) = some (W50_0_0 x0_kind x0_n x0_s x0_keys x0_kids)) : runFn (lim F pr) g50 [a45 x0_kind x0_n x0_s x0_keys x0_kids, vI x1, vI x2] [] = some (vI (-1), []) := by
  show runFn ⟨Ops.std, (lim F pr).call, (lim F pr).loop, pr⟩ (g50F b50_0 b50_1) _ _ = _
  generalize (lim F pr).call = call at *; generalize (lim F pr).loop = loop at *; generalize Ops.std = o at *; generalize b50_0 = c0 at *; generalize b50_1 = c1 at *
  cases o; try dsimp only at *
  cbv
  all_goals (try rw [h1]); all_goals (try cbv)
  all_goals (try rw [h2]); all_goals (try cbv)
  all_goals (try rw [h3]); all_goals (try cbv)
  all_goals (try rw [h4]); all_goals (try cbv)
  all_goals (try rw [h5]); all_goals (try cbv)
  all_goals (try rw [h6]); all_goals (try cbv)

theorem p50_6 (h1 : Ops.std.ilt x2 1 = false) (h2 : Ops.std.ilt 20 x1 = false) (h3 : Ops.std.ilt 300 (Ops.std.slen x0_s) = false) (h4 : Ops.std.ilt 20 (Ops.std.llen x0_keys) = false) (h5 : Ops.std.ilt 20 (Ops.std.llen x0_kids) = false) (h6 : (lim F pr).loop [7, 3, 1, 2] 1 b50_0 (H50_0_0 Ops.std x0_kind x0_n x0_s x0_keys x0_kids x1 x2 0) = some (W50_0_1 Ops.std x0_kind x0_n x0_s x0_keys x0_kids x1 x2)) (h7 : (lim F pr).loop [3, 1, 8, 2] 1 b50_1 (H50_1_0 x0_kind x0_n x0_s x0_keys x0_kids x1 (Ops.std.isub .i64 x2 1) 0) = some (W50_1_0 x0_kind x0_n x0_s x0_keys x0_kids)) : runFn (lim F pr) g50 [a45 x0_kind x0_n x0_s x0_keys x0_kids, vI x1, vI x2] [] = some (vI (-1), []) := by
  show runFn ⟨Ops.std, (lim F pr).call, (lim F pr).loop, pr⟩ (g50F b50_0 b50_1) _ _ = _
  generalize (lim F pr).call = call at *; generalize (lim F pr).loop = loop at *; generalize Ops.std = o at *; generalize b50_0 = c0 at *; generalize b50_1 = c1 at *
  cases o; try dsimp only at *
  cbv
  all_goals (try rw [h1]); all_goals (try cbv)
  all_goals (try rw [h2]); all_goals (try cbv)
  all_goals (try rw [h3]); all_goals (try cbv)
  all_goals (try rw [h4]); all_goals (try cbv)
  all_goals (try rw [h5]); all_goals (try cbv)
  all_goals (try rw [h6]); all_goals (try cbv)
  all_goals (try rw [h7]); all_goals (try cbv)

theorem p50_7 (h1 : Ops.std.ilt x2 1 = false) (h2 : Ops.std.ilt 20 x1 = false) (h3 : Ops.std.ilt 300 (Ops.std.slen x0_s) = false) (h4 : Ops.std.ilt 20 (Ops.std.llen x0_keys) = false) (h5 : Ops.std.ilt 20 (Ops.std.llen x0_kids) = false) (h6 : (lim F pr).loop [7, 3, 1, 2] 1 b50_0 (H50_0_0 Ops.std x0_kind x0_n x0_s x0_keys x0_kids x1 x2 0) = some (W50_0_1 Ops.std x0_kind x0_n x0_s x0_keys x0_kids x1 x2)) (h7 : (lim F pr).loop [3, 1, 8, 2] 1 b50_1 (H50_1_0 x0_kind x0_n x0_s x0_keys x0_kids x1 (Ops.std.isub .i64 x2 1) 0) = some (W50_1_1 x0_kind x0_n x0_s x0_keys x0_kids t2o)) : runFn (lim F pr) g50 [a45 x0_kind x0_n x0_s x0_keys x0_kids, vI x1, vI x2] [] = some (vI t2o, []) := by
  show runFn ⟨Ops.std, (lim F pr).call, (lim F pr).loop, pr⟩ (g50F b50_0 b50_1) _ _ = _
  generalize (lim F pr).call = call at *; generalize (lim F pr).loop = loop at *; generalize Ops.std = o at *; generalize b50_0 = c0 at *; generalize b50_1 = c1 at *
  cases o; try dsimp only at *
  cbv
  all_goals (try rw [h1]); all_goals (try cbv)
  all_goals (try rw [h2]); all_goals (try cbv)
  all_goals (try rw [h3]); all_goals (try cbv)
  all_goals (try rw [h4]); all_goals (try cbv)
  all_goals (try rw [h5]); all_goals (try cbv)
  all_goals (try rw [h6]); all_goals (try cbv)
  all_goals (try rw [h7]); all_goals (try cbv)

theorem r50_0_0_0 (h1 : Ops.std.ilt t7 (Ops.std.llen x0_keys) = true) (h2 : Ops.std.lget x0_keys t7 = some (vT x)) (h3 : Ops.std.ilt 300 (Ops.std.slen x) = true) : Ifc.round (lim F pr) [7, 3, 1, 2] 1 b50_0 (H50_0_0 Ops.std x0_kind x0_n x0_s x0_keys x0_kids x1 x2 t7) = some (W50_0_0 x0_kind x0_n x0_s x0_keys x0_kids) := by
  show Ifc.round ⟨Ops.std, (lim F pr).call, (lim F pr).loop, pr⟩ _ _ (b50_0F) _ = _
  generalize (lim F pr).call = call at *; generalize (lim F pr).loop = loop at *; generalize Ops.std = o at *
  cases o; try dsimp only at *
  cbv
  all_goals (try rw [h1]); all_goals (try cbv)
  all_goals (try rw [h2]); all_goals (try cbv)
  all_goals (try rw [h2]); all_goals (try cbv)
  all_goals (try rw [h3]); all_goals (try cbv)

theorem r50_0_0_1 (h1 : Ops.std.ilt t7 (Ops.std.llen x0_keys) = true) (h2 : Ops.std.lget x0_keys t7 = some (vT x)) (h3 : Ops.std.ilt 300 (Ops.std.slen x) = false) : Ifc.round (lim F pr) [7, 3, 1, 2] 1 b50_0 (H50_0_0 Ops.std x0_kind x0_n x0_s x0_keys x0_kids x1 x2 t7) = (lim F pr).loop [7, 3, 1, 2] 1 b50_0 (H50_0_0 Ops.std x0_kind x0_n x0_s x0_keys x0_kids x1 x2 (Ops.std.iadd .i64 t7 1)) := by
  show Ifc.round ⟨Ops.std, (lim F pr).call, (lim F pr).loop, pr⟩ _ _ (b50_0F) _ = (lim F pr).loop _ _ (b50_0F) _
  generalize (lim F pr).call = call at *; generalize (lim F pr).loop = loop at *; generalize Ops.std = o at *
  cases o; try dsimp only at *
  cbv
  all_goals (try rw [h1]); all_goals (try cbv)
  all_goals (try rw [h2]); all_goals (try cbv)
  all_goals (try rw [h2]); all_goals (try cbv)
  all_goals (try rw [h3]); all_goals (try cbv)

theorem r50_0_0_2 (h1 : Ops.std.ilt t7 (Ops.std.llen x0_keys) = false) : Ifc.round (lim F pr) [7, 3, 1, 2] 1 b50_0 (H50_0_0 Ops.std x0_kind x0_n x0_s x0_keys x0_kids x1 x2 t7) = some (W50_0_1 Ops.std x0_kind x0_n x0_s x0_keys x0_kids x1 x2) := by
  show Ifc.round ⟨Ops.std, (lim F pr).call, (lim F pr).loop, pr⟩ _ _ (b50_0F) _ = _
  generalize (lim F pr).call = call at *; generalize (lim F pr).loop = loop at *; generalize Ops.std = o at *
  cases o; try dsimp only at *
  cbv
  all_goals (try rw [h1]); all_goals (try cbv)

theorem r50_1_0_0 (h1 : Ops.std.ilt t8 (Ops.std.llen x0_kids) = true) (h2 : Ops.std.lget x0_kids t8 = some (a45 x_kind x_n x_s x_keys x_kids)) (h3 : (lim F pr).call 50 [a45 x_kind x_n x_s x_keys x_kids, vI (Ops.std.iadd .i64 x1 1), vI t2] [] = some (vI r, [])) (h4 : Ops.std.ilt r 0 = true) : Ifc.round (lim F pr) [3, 1, 8, 2] 1 b50_1 (H50_1_0 x0_kind x0_n x0_s x0_keys x0_kids x1 t2 t8) = some (W50_1_0 x0_kind x0_n x0_s x0_keys x0_kids) := by
  show Ifc.round ⟨Ops.std, (lim F pr).call, (lim F pr).loop, pr⟩ _ _ (b50_1F) _ = _
  generalize (lim F pr).call = call at *; generalize (lim F pr).loop = loop at *; generalize Ops.std = o at *
  cases o; try dsimp only at *
  cbv
  all_goals (try rw [h1]); all_goals (try cbv)
  all_goals (try rw [h2]); all_goals (try cbv)
  all_goals (try rw [h2]); all_goals (try cbv)
  all_goals (try rw [h3]); all_goals (try cbv)
  all_goals (try rw [h4]); all_goals (try cbv)

theorem r50_1_0_1 (h1 : Ops.std.ilt t8 (Ops.std.llen x0_kids) = true) (h2 : Ops.std.lget x0_kids t8 = some (a45 x_kind x_n x_s x_keys x_kids)) (h3 : (lim F pr).call 50 [a45 x_kind x_n x_s x_keys x_kids, vI (Ops.std.iadd .i64 x1 1), vI t2] [] = some (vI r, [])) (h4 : Ops.std.ilt r 0 = false) : Ifc.round (lim F pr) [3, 1, 8, 2] 1 b50_1 (H50_1_0 x0_kind x0_n x0_s x0_keys x0_kids x1 t2 t8) = (lim F pr).loop [3, 1, 8, 2] 1 b50_1 (H50_1_0 x0_kind x0_n x0_s x0_keys x0_kids x1 r (Ops.std.iadd .i64 t8 1)) := by
  show Ifc.round ⟨Ops.std, (lim F pr).call, (lim F pr).loop, pr⟩ _ _ (b50_1F) _ = (lim F pr).loop _ _ (b50_1F) _
  generalize (lim F pr).call = call at *; generalize (lim F pr).loop = loop at *; generalize Ops.std = o at *
  cases o; try dsimp only at *
  cbv
  all_goals (try rw [h1]); all_goals (try cbv)
  all_goals (try rw [h2]); all_goals (try cbv)
  all_goals (try rw [h2]); all_goals (try cbv)
  all_goals (try rw [h3]); all_goals (try cbv)
  all_goals (try rw [h4]); all_goals (try cbv)

theorem r50_1_0_2 (h1 : Ops.std.ilt t8 (Ops.std.llen x0_kids) = false) : Ifc.round (lim F pr) [3, 1, 8, 2] 1 b50_1 (H50_1_0 x0_kind x0_n x0_s x0_keys x0_kids x1 t2 t8) = some (W50_1_1 x0_kind x0_n x0_s x0_keys x0_kids t2) := by
  show Ifc.round ⟨Ops.std, (lim F pr).call, (lim F pr).loop, pr⟩ _ _ (b50_1F) _ = _
  generalize (lim F pr).call = call at *; generalize (lim F pr).loop = loop at *; generalize Ops.std = o at *
  cases o; try dsimp only at *
  cbv
  all_goals (try rw [h1]); all_goals (try cbv)

end
section
variable {x0_kind x0_n x1 r : Int}
variable {x0_s : ByteArray}
variable {x0_keys x0_kids : List AV}
theorem p28_0 (h1 : (lim F pr).call 50 [a45 x0_kind x0_n x0_s x0_keys x0_kids, vI x1, vI 400] [] = some (vI r, [])) : runFn (lim F pr) g28 [a45 x0_kind x0_n x0_s x0_keys x0_kids, vI x1] [] = some (vF (Ops.std.ilt r 0), []) := by
  show runFn ⟨Ops.std, (lim F pr).call, (lim F pr).loop, pr⟩ (g28F) _ _ = _
  generalize (lim F pr).call = call at *; generalize (lim F pr).loop = loop at *; generalize Ops.std = o at *
  cases o; try dsimp only at *
  cbv
  all_goals (try rw [h1]); all_goals (try cbv)

end
section
variable {x0_kind x0_n t15 x_kind x_n r_kind r_n : Int}
variable {x0_s x_s r_s : ByteArray}
variable {x0_keys x0_kids e3ao e3a x_keys x_kids r_keys r_kids : List AV}
abbrev H34_0_0 (o : Ops) (x0_kind x0_n : Int) (x0_s : ByteArray) (x0_keys x0_kids : List AV) (t15 : Int) (e3a : List AV) : St := ⟨[.bad, .bptr 0 0, .bptr 1 0, .bad, .bad, .bad, .bad, .bad, .bad, .bad, .bad, .bad, .bad, .bad, vI (o.llen x0_kids), vI t15, .bad, .bad, .bad, .bad, .bad, .bad, .bad, .bad, .bad, .bad, .bad, .bad, .bad, .bad], [.box 45 [vI x0_kind, vI x0_n, vT x0_s, .sl 2 0, .sl 3 0], .box 45 [vI 0, vI 0, vT ⟨#[]⟩, .lit 0 true [], .lit 0 true []], .row 9 0 false x0_keys, .row 45 0 false e3a]⟩
abbrev W34_0_0 (x0_kind x0_n : Int) (x0_s : ByteArray) (x0_keys e3ao : List AV) : X × St := (.brk 0, ⟨[.bad, .bptr 0 0, .bptr 1 0, .bad, .bad, .bad, .bad, .bad, .bad, .bad, .bad, .bad, .bad, .bad, .bad, .bad, .bad, .bad, .bad, .bad, .bad, .bad, .bad, .bad, .bad, .bad, .bad, .bad, .bad, .bad], [.box 45 [vI x0_kind, vI x0_n, vT x0_s, .sl 2 0, .sl 3 0], .box 45 [vI 0, vI 0, vT ⟨#[]⟩, .lit 0 true [], .lit 0 true []], .row 9 0 false x0_keys, .row 45 0 false e3ao]⟩)
theorem p34_0 (h1 : Ops.std.room 16 [] x0_keys = true) (h2 : Ops.std.room 80 [] x0_kids = true) (h3 : (lim F pr).loop [14, 15, 1, 2] 4 b34_0 (H34_0_0 Ops.std x0_kind x0_n x0_s x0_keys x0_kids 0 x0_kids) = some (W34_0_0 x0_kind x0_n x0_s x0_keys e3ao)) : runFn (lim F pr) g34 [a45 x0_kind x0_n x0_s x0_keys x0_kids] [] = some (.agg [vI x0_kind, vI x0_n, vT x0_s, .sl 0 0, .sl 1 0], [.row 9 0 false x0_keys, .row 45 0 false e3ao]) := by
  show runFn ⟨Ops.std, (lim F pr).call, (lim F pr).loop, pr⟩ (g34F b34_0) _ _ = _
  generalize (lim F pr).call = call at *; generalize (lim F pr).loop = loop at *; generalize Ops.std = o at *; generalize b34_0 = c0 at *
  cases o; try dsimp only at *
  cbv
  all_goals (try rw [h1]); all_goals (try cbv)
  all_goals (try rw [h2]); all_goals (try cbv)
  all_goals (try rw [h3]); all_goals (try cbv)

theorem r34_0_0_0 (h1 : Ops.std.ilt t15 (Ops.std.llen x0_kids) = true) (h2 : Ops.std.lget e3a t15 = some (a45 x_kind x_n x_s x_keys x_kids)) (h3 : (lim F pr).call 34 [a45 x_kind x_n x_s x_keys x_kids] [] = some (.agg [vI r_kind, vI r_n, vT r_s, .sl 0 0, .sl 1 0], [.row 9 0 false r_keys, .row 45 0 false r_kids])) : Ifc.round (lim F pr) [14, 15, 1, 2] 4 b34_0 (H34_0_0 Ops.std x0_kind x0_n x0_s x0_keys x0_kids t15 e3a) = (lim F pr).loop [14, 15, 1, 2] 4 b34_0 (H34_0_0 Ops.std x0_kind x0_n x0_s x0_keys x0_kids (Ops.std.iadd .i64 t15 1) ((Ops.std.lset e3a t15 (a45 r_kind r_n r_s r_keys r_kids)))) := by
  show Ifc.round ⟨Ops.std, (lim F pr).call, (lim F pr).loop, pr⟩ _ _ (b34_0F) _ = (lim F pr).loop _ _ (b34_0F) _
  generalize (lim F pr).call = call at *; generalize (lim F pr).loop = loop at *; generalize Ops.std = o at *
  cases o; try dsimp only at *
  cbv
  all_goals (try rw [h1]); all_goals (try cbv)
  all_goals (try rw [h2]); all_goals (try cbv)
  all_goals (try rw [h2]); all_goals (try cbv)
  all_goals (try rw [h3]); all_goals (try cbv)
  all_goals (try rw [h2]); all_goals (try cbv)
  all_goals (try rw [h2]); all_goals (try cbv)

theorem r34_0_0_1 (h1 : Ops.std.ilt t15 (Ops.std.llen x0_kids) = false) : Ifc.round (lim F pr) [14, 15, 1, 2] 4 b34_0 (H34_0_0 Ops.std x0_kind x0_n x0_s x0_keys x0_kids t15 e3a) = some (W34_0_0 x0_kind x0_n x0_s x0_keys e3a) := by
  show Ifc.round ⟨Ops.std, (lim F pr).call, (lim F pr).loop, pr⟩ _ _ (b34_0F) _ = _
  generalize (lim F pr).call = call at *; generalize (lim F pr).loop = loop at *; generalize Ops.std = o at *
  cases o; try dsimp only at *
  cbv
  all_goals (try rw [h1]); all_goals (try cbv)

end
section
variable {x0 x1 : List AV}
variable {t5 : Int}
variable {x x2 : ByteArray}
abbrev H57_0_0 (x0 x1 : List AV) (t5 : Int) : St := ⟨[.lit 9 false x0, .lit 9 false x1, .bad, .bad, .bad, vI t5, .bad, .bad, .bad, .bad, .bad, .bad, .bad, .bad, .bad, .bad, .bad, .bad, .bad, .bad, .bad, .bad, .bad, .bad, .bad, .bad], []⟩
abbrev W57_0_0 : X × St := (.ret, ⟨[.bad, .bad, .bad, .bad, vF false, .bad, .bad, .bad, .bad, .bad, .bad, .bad, .bad, .bad, .bad, .bad, .bad, .bad, .bad, .bad, .bad, .bad, .bad, .bad, .bad, .bad], []⟩)
abbrev W57_0_1 : X × St := (.brk 0, ⟨[.bad, .bad, .bad, .bad, .bad, .bad, .bad, .bad, .bad, .bad, .bad, .bad, .bad, .bad, .bad, .bad, .bad, .bad, .bad, .bad, .bad, .bad, .bad, .bad, .bad, .bad], []⟩)
theorem p57_0 (h1 : Ops.std.ieq (Ops.std.llen x0) (Ops.std.llen x1) = true) (h2 : (lim F pr).loop [0, 1, 5] 0 b57_0 (H57_0_0 x0 x1 0) = some (W57_0_0)) : runFn (lim F pr) g57 [.lit 9 false x0, .lit 9 false x1] [] = some (vF false, []) := by
  show runFn ⟨Ops.std, (lim F pr).call, (lim F pr).loop, pr⟩ (g57F b57_0) _ _ = _
  generalize (lim F pr).call = call at *; generalize (lim F pr).loop = loop at *; generalize Ops.std = o at *; generalize b57_0 = c0 at *
  cases o; try dsimp only at *
  cbv
  all_goals (try rw [h1]); all_goals (try cbv)
  all_goals (try rw [h2]); all_goals (try cbv)

theorem p57_1 (h1 : Ops.std.ieq (Ops.std.llen x0) (Ops.std.llen x1) = true) (h2 : (lim F pr).loop [0, 1, 5] 0 b57_0 (H57_0_0 x0 x1 0) = some (W57_0_1)) : runFn (lim F pr) g57 [.lit 9 false x0, .lit 9 false x1] [] = some (vF true, []) := by
  show runFn ⟨Ops.std, (lim F pr).call, (lim F pr).loop, pr⟩ (g57F b57_0) _ _ = _
  generalize (lim F pr).call = call at *; generalize (lim F pr).loop = loop at *; generalize Ops.std = o at *; generalize b57_0 = c0 at *
  cases o; try dsimp only at *
  cbv
  all_goals (try rw [h1]); all_goals (try cbv)
  all_goals (try rw [h2]); all_goals (try cbv)

theorem p57_2 (h1 : Ops.std.ieq (Ops.std.llen x0) (Ops.std.llen x1) = false) : runFn (lim F pr) g57 [.lit 9 false x0, .lit 9 false x1] [] = some (vF false, []) := by
  show runFn ⟨Ops.std, (lim F pr).call, (lim F pr).loop, pr⟩ (g57F b57_0) _ _ = _
  generalize (lim F pr).call = call at *; generalize (lim F pr).loop = loop at *; generalize Ops.std = o at *; generalize b57_0 = c0 at *
  cases o; try dsimp only at *
  cbv
  all_goals (try rw [h1]); all_goals (try cbv)

theorem r57_0_0_0 (h1 : Ops.std.ilt t5 (Ops.std.llen x0) = true) (h2 : Ops.std.lget x0 t5 = some (vT x)) (h3 : Ops.std.lget x1 t5 = some (vT x2)) (h4 : Ops.std.seq x x2 = true) : Ifc.round (lim F pr) [0, 1, 5] 0 b57_0 (H57_0_0 x0 x1 t5) = (lim F pr).loop [0, 1, 5] 0 b57_0 (H57_0_0 x0 x1 (Ops.std.iadd .i64 t5 1)) := by
  show Ifc.round ⟨Ops.std, (lim F pr).call, (lim F pr).loop, pr⟩ _ _ (b57_0F) _ = (lim F pr).loop _ _ (b57_0F) _
  generalize (lim F pr).call = call at *; generalize (lim F pr).loop = loop at *; generalize Ops.std = o at *
  cases o; try dsimp only at *
  cbv
  all_goals (try rw [h1]); all_goals (try cbv)
  all_goals (try rw [h2]); all_goals (try cbv)
  all_goals (try rw [h2]); all_goals (try cbv)
  all_goals (try rw [h3]); all_goals (try cbv)
  all_goals (try rw [h3]); all_goals (try cbv)
  all_goals (try rw [h4]); all_goals (try cbv)

theorem r57_0_0_1 (h1 : Ops.std.ilt t5 (Ops.std.llen x0) = true) (h2 : Ops.std.lget x0 t5 = some (vT x)) (h3 : Ops.std.lget x1 t5 = some (vT x2)) (h4 : Ops.std.seq x x2 = false) : Ifc.round (lim F pr) [0, 1, 5] 0 b57_0 (H57_0_0 x0 x1 t5) = some (W57_0_0) := by
  show Ifc.round ⟨Ops.std, (lim F pr).call, (lim F pr).loop, pr⟩ _ _ (b57_0F) _ = _
  generalize (lim F pr).call = call at *; generalize (lim F pr).loop = loop at *; generalize Ops.std = o at *
  cases o; try dsimp only at *
  cbv
  all_goals (try rw [h1]); all_goals (try cbv)
  all_goals (try rw [h2]); all_goals (try cbv)
  all_goals (try rw [h2]); all_goals (try cbv)
  all_goals (try rw [h3]); all_goals (try cbv)
  all_goals (try rw [h3]); all_goals (try cbv)
  all_goals (try rw [h4]); all_goals (try cbv)

theorem r57_0_0_2 (h1 : Ops.std.ilt t5 (Ops.std.llen x0) = false) : Ifc.round (lim F pr) [0, 1, 5] 0 b57_0 (H57_0_0 x0 x1 t5) = some (W57_0_1) := by
  show Ifc.round ⟨Ops.std, (lim F pr).call, (lim F pr).loop, pr⟩ _ _ (b57_0F) _ = _
  generalize (lim F pr).call = call at *; generalize (lim F pr).loop = loop at *; generalize Ops.std = o at *
  cases o; try dsimp only at *
  cbv
  all_goals (try rw [h1]); all_goals (try cbv)

end
section
variable {x0_kind x0_n x1_kind x1_n t5 x_kind x_n x_kind1 x_n1 : Int}
variable {x0_s x1_s x_s x_s1 : ByteArray}
variable {x0_keys x0_kids x1_keys x1_kids x_keys x_kids x_keys1 x_kids1 : List AV}
variable {r r1 : Bool}
abbrev H35_0_0 (x0_kind x0_n : Int) (x0_s : ByteArray) (x0_keys x0_kids : List AV) (x1_kind x1_n : Int) (x1_s : ByteArray) (x1_keys x1_kids : List AV) (t5 : Int) : St := ⟨[.bad, .bad, .bptr 0 0, .bptr 1 0, .bad, vI t5, .bad, .bad, .bad, .bad, .bad, .bad, .bad, .bad, .bad, .bad, .bad, .bad, .bad, .bad, .bad, .bad, .bad, .bad, .bad, .bad, .bad, .bad, .bad, .bad, .bad, .bad, .bad, .bad, .bad, .bad, .bad, .bad, .bad, .bad, .bad, .bad, .bad, .bad, .bad, .bad, .bad, .bad, .bad, .bad, .bad, .bad, .bad, .bad, .bad, .bad, .bad, .bad, .bad, .bad, .bad], [.box 45 [vI x0_kind, vI x0_n, vT x0_s, .lit 9 false x0_keys, .lit 45 false x0_kids], .box 45 [vI x1_kind, vI x1_n, vT x1_s, .lit 9 false x1_keys, .lit 45 false x1_kids]]⟩
abbrev W35_0_0 (x0_kind x0_n : Int) (x0_s : ByteArray) (x0_keys x0_kids : List AV) (x1_kind x1_n : Int) (x1_s : ByteArray) (x1_keys x1_kids : List AV) : X × St := (.ret, ⟨[.bad, .bad, .bad, .bad, vF false, .bad, .bad, .bad, .bad, .bad, .bad, .bad, .bad, .bad, .bad, .bad, .bad, .bad, .bad, .bad, .bad, .bad, .bad, .bad, .bad, .bad, .bad, .bad, .bad, .bad, .bad, .bad, .bad, .bad, .bad, .bad, .bad, .bad, .bad, .bad, .bad, .bad, .bad, .bad, .bad, .bad, .bad, .bad, .bad, .bad, .bad, .bad, .bad, .bad, .bad, .bad, .bad, .bad, .bad, .bad, .bad], [.box 45 [vI x0_kind, vI x0_n, vT x0_s, .lit 9 false x0_keys, .lit 45 false x0_kids], .box 45 [vI x1_kind, vI x1_n, vT x1_s, .lit 9 false x1_keys, .lit 45 false x1_kids]]⟩)
abbrev W35_0_1 (x0_kind x0_n : Int) (x0_s : ByteArray) (x0_keys x0_kids : List AV) (x1_kind x1_n : Int) (x1_s : ByteArray) (x1_keys x1_kids : List AV) : X × St := (.brk 0, ⟨[.bad, .bad, .bad, .bad, .bad, .bad, .bad, .bad, .bad, .bad, .bad, .bad, .bad, .bad, .bad, .bad, .bad, .bad, .bad, .bad, .bad, .bad, .bad, .bad, .bad, .bad, .bad, .bad, .bad, .bad, .bad, .bad, .bad, .bad, .bad, .bad, .bad, .bad, .bad, .bad, .bad, .bad, .bad, .bad, .bad, .bad, .bad, .bad, .bad, .bad, .bad, .bad, .bad, .bad, .bad, .bad, .bad, .bad, .bad, .bad, .bad], [.box 45 [vI x0_kind, vI x0_n, vT x0_s, .lit 9 false x0_keys, .lit 45 false x0_kids], .box 45 [vI x1_kind, vI x1_n, vT x1_s, .lit 9 false x1_keys, .lit 45 false x1_kids]]⟩)
theorem p35_0 (h1 : Ops.std.ieq x0_kind x1_kind = true) (h2 : Ops.std.ieq x0_n x1_n = true) (h3 : Ops.std.seq x0_s x1_s = true) (h4 : (lim F pr).call 57 [.lit 9 false x0_keys, .lit 9 false x1_keys] [] = some (vF r, [])) (h5 : r = true) (h6 : Ops.std.ieq (Ops.std.llen x0_kids) (Ops.std.llen x1_kids) = true) (h7 : (lim F pr).loop [2, 3, 5] 2 b35_0 (H35_0_0 x0_kind x0_n x0_s x0_keys x0_kids x1_kind x1_n x1_s x1_keys x1_kids 0) = some (W35_0_0 x0_kind x0_n x0_s x0_keys x0_kids x1_kind x1_n x1_s x1_keys x1_kids)) : runFn (lim F pr) g35 [a45 x0_kind x0_n x0_s x0_keys x0_kids, a45 x1_kind x1_n x1_s x1_keys x1_kids] [] = some (vF false, []) := by
  show runFn ⟨Ops.std, (lim F pr).call, (lim F pr).loop, pr⟩ (g35F b35_0) _ _ = _
  generalize (lim F pr).call = call at *; generalize (lim F pr).loop = loop at *; generalize Ops.std = o at *; generalize b35_0 = c0 at *
  cases o; try dsimp only at *
  cbv
  all_goals (try rw [h1]); all_goals (try cbv)
  all_goals (try rw [h2]); all_goals (try cbv)
  all_goals (try rw [h3]); all_goals (try cbv)
  all_goals (try rw [h4]); all_goals (try cbv)
  all_goals (try rw [h5]); all_goals (try cbv)
  all_goals (try rw [h6]); all_goals (try cbv)
  all_goals (try rw [h7]); all_goals (try cbv)

theorem p35_1 (h1 : Ops.std.ieq x0_kind x1_kind = true) (h2 : Ops.std.ieq x0_n x1_n = true) (h3 : Ops.std.seq x0_s x1_s = true) (h4 : (lim F pr).call 57 [.lit 9 false x0_keys, .lit 9 false x1_keys] [] = some (vF r, [])) (h5 : r = true) (h6 : Ops.std.ieq (Ops.std.llen x0_kids) (Ops.std.llen x1_kids) = true) (h7 : (lim F pr).loop [2, 3, 5] 2 b35_0 (H35_0_0 x0_kind x0_n x0_s x0_keys x0_kids x1_kind x1_n x1_s x1_keys x1_kids 0) = some (W35_0_1 x0_kind x0_n x0_s x0_keys x0_kids x1_kind x1_n x1_s x1_keys x1_kids)) : runFn (lim F pr) g35 [a45 x0_kind x0_n x0_s x0_keys x0_kids, a45 x1_kind x1_n x1_s x1_keys x1_kids] [] = some (vF true, []) := by
  show runFn ⟨Ops.std, (lim F pr).call, (lim F pr).loop, pr⟩ (g35F b35_0) _ _ = _
  generalize (lim F pr).call = call at *; generalize (lim F pr).loop = loop at *; generalize Ops.std = o at *; generalize b35_0 = c0 at *
  cases o; try dsimp only at *
  cbv
  all_goals (try rw [h1]); all_goals (try cbv)
  all_goals (try rw [h2]); all_goals (try cbv)
  all_goals (try rw [h3]); all_goals (try cbv)
  all_goals (try rw [h4]); all_goals (try cbv)
  all_goals (try rw [h5]); all_goals (try cbv)
  all_goals (try rw [h6]); all_goals (try cbv)
  all_goals (try rw [h7]); all_goals (try cbv)

theorem p35_2 (h1 : Ops.std.ieq x0_kind x1_kind = true) (h2 : Ops.std.ieq x0_n x1_n = true) (h3 : Ops.std.seq x0_s x1_s = true) (h4 : (lim F pr).call 57 [.lit 9 false x0_keys, .lit 9 false x1_keys] [] = some (vF r, [])) (h5 : r = true) (h6 : Ops.std.ieq (Ops.std.llen x0_kids) (Ops.std.llen x1_kids) = false) : runFn (lim F pr) g35 [a45 x0_kind x0_n x0_s x0_keys x0_kids, a45 x1_kind x1_n x1_s x1_keys x1_kids] [] = some (vF false, []) := by
  show runFn ⟨Ops.std, (lim F pr).call, (lim F pr).loop, pr⟩ (g35F b35_0) _ _ = _
  generalize (lim F pr).call = call at *; generalize (lim F pr).loop = loop at *; generalize Ops.std = o at *; generalize b35_0 = c0 at *
  cases o; try dsimp only at *
  cbv
  all_goals (try rw [h1]); all_goals (try cbv)
  all_goals (try rw [h2]); all_goals (try cbv)
  all_goals (try rw [h3]); all_goals (try cbv)
  all_goals (try rw [h4]); all_goals (try cbv)
  all_goals (try rw [h5]); all_goals (try cbv)
  all_goals (try rw [h6]); all_goals (try cbv)

theorem p35_3 (h1 : Ops.std.ieq x0_kind x1_kind = true) (h2 : Ops.std.ieq x0_n x1_n = true) (h3 : Ops.std.seq x0_s x1_s = true) (h4 : (lim F pr).call 57 [.lit 9 false x0_keys, .lit 9 false x1_keys] [] = some (vF r, [])) (h5 : r = false) : runFn (lim F pr) g35 [a45 x0_kind x0_n x0_s x0_keys x0_kids, a45 x1_kind x1_n x1_s x1_keys x1_kids] [] = some (vF false, []) := by
  show runFn ⟨Ops.std, (lim F pr).call, (lim F pr).loop, pr⟩ (g35F b35_0) _ _ = _
  generalize (lim F pr).call = call at *; generalize (lim F pr).loop = loop at *; generalize Ops.std = o at *; generalize b35_0 = c0 at *
  cases o; try dsimp only at *
  cbv
  all_goals (try rw [h1]); all_goals (try cbv)
  all_goals (try rw [h2]); all_goals (try cbv)
  all_goals (try rw [h3]); all_goals (try cbv)
  all_goals (try rw [h4]); all_goals (try cbv)
  all_goals (try rw [h5]); all_goals (try cbv)

theorem p35_4 (h1 : Ops.std.ieq x0_kind x1_kind = true) (h2 : Ops.std.ieq x0_n x1_n = true) (h3 : Ops.std.seq x0_s x1_s = false) : runFn (lim F pr) g35 [a45 x0_kind x0_n x0_s x0_keys x0_kids, a45 x1_kind x1_n x1_s x1_keys x1_kids] [] = some (vF false, []) := by
  show runFn ⟨Ops.std, (lim F pr).call, (lim F pr).loop, pr⟩ (g35F b35_0) _ _ = _
  generalize (lim F pr).call = call at *; generalize (lim F pr).loop = loop at *; generalize Ops.std = o at *; generalize b35_0 = c0 at *
  cases o; try dsimp only at *
  cbv
  all_goals (try rw [h1]); all_goals (try cbv)
  all_goals (try rw [h2]); all_goals (try cbv)
  all_goals (try rw [h3]); all_goals (try cbv)

theorem p35_5 (h1 : Ops.std.ieq x0_kind x1_kind = true) (h2 : Ops.std.ieq x0_n x1_n = false) : runFn (lim F pr) g35 [a45 x0_kind x0_n x0_s x0_keys x0_kids, a45 x1_kind x1_n x1_s x1_keys x1_kids] [] = some (vF false, []) := by
  show runFn ⟨Ops.std, (lim F pr).call, (lim F pr).loop, pr⟩ (g35F b35_0) _ _ = _
  generalize (lim F pr).call = call at *; generalize (lim F pr).loop = loop at *; generalize Ops.std = o at *; generalize b35_0 = c0 at *
  cases o; try dsimp only at *
  cbv
  all_goals (try rw [h1]); all_goals (try cbv)
  all_goals (try rw [h2]); all_goals (try cbv)

theorem p35_6 (h1 : Ops.std.ieq x0_kind x1_kind = false) : runFn (lim F pr) g35 [a45 x0_kind x0_n x0_s x0_keys x0_kids, a45 x1_kind x1_n x1_s x1_keys x1_kids] [] = some (vF false, []) := by
  show runFn ⟨Ops.std, (lim F pr).call, (lim F pr).loop, pr⟩ (g35F b35_0) _ _ = _
  generalize (lim F pr).call = call at *; generalize (lim F pr).loop = loop at *; generalize Ops.std = o at *; generalize b35_0 = c0 at *
  cases o; try dsimp only at *
  cbv
  all_goals (try rw [h1]); all_goals (try cbv)

theorem r35_0_0_0 (h1 : Ops.std.ilt t5 (Ops.std.llen x0_kids) = true) (h2 : Ops.std.lget x0_kids t5 = some (a45 x_kind x_n x_s x_keys x_kids)) (h3 : Ops.std.lget x1_kids t5 = some (a45 x_kind1 x_n1 x_s1 x_keys1 x_kids1)) (h4 : (lim F pr).call 35 [a45 x_kind x_n x_s x_keys x_kids, a45 x_kind1 x_n1 x_s1 x_keys1 x_kids1] [] = some (vF r1, [])) (h5 : r1 = true) : Ifc.round (lim F pr) [2, 3, 5] 2 b35_0 (H35_0_0 x0_kind x0_n x0_s x0_keys x0_kids x1_kind x1_n x1_s x1_keys x1_kids t5) = (lim F pr).loop [2, 3, 5] 2 b35_0 (H35_0_0 x0_kind x0_n x0_s x0_keys x0_kids x1_kind x1_n x1_s x1_keys x1_kids (Ops.std.iadd .i64 t5 1)) := by
  show Ifc.round ⟨Ops.std, (lim F pr).call, (lim F pr).loop, pr⟩ _ _ (b35_0F) _ = (lim F pr).loop _ _ (b35_0F) _
  generalize (lim F pr).call = call at *; generalize (lim F pr).loop = loop at *; generalize Ops.std = o at *
  cases o; try dsimp only at *
  cbv
  all_goals (try rw [h1]); all_goals (try cbv)
  all_goals (try rw [h2]); all_goals (try cbv)
  all_goals (try rw [h2]); all_goals (try cbv)
  all_goals (try rw [h3]); all_goals (try cbv)
  all_goals (try rw [h3]); all_goals (try cbv)
  all_goals (try rw [h4]); all_goals (try cbv)
  all_goals (try rw [h5]); all_goals (try cbv)

theorem r35_0_0_1 (h1 : Ops.std.ilt t5 (Ops.std.llen x0_kids) = true) (h2 : Ops.std.lget x0_kids t5 = some (a45 x_kind x_n x_s x_keys x_kids)) (h3 : Ops.std.lget x1_kids t5 = some (a45 x_kind1 x_n1 x_s1 x_keys1 x_kids1)) (h4 : (lim F pr).call 35 [a45 x_kind x_n x_s x_keys x_kids, a45 x_kind1 x_n1 x_s1 x_keys1 x_kids1] [] = some (vF r1, [])) (h5 : r1 = false) : Ifc.round (lim F pr) [2, 3, 5] 2 b35_0 (H35_0_0 x0_kind x0_n x0_s x0_keys x0_kids x1_kind x1_n x1_s x1_keys x1_kids t5) = some (W35_0_0 x0_kind x0_n x0_s x0_keys x0_kids x1_kind x1_n x1_s x1_keys x1_kids) := by
  show Ifc.round ⟨Ops.std, (lim F pr).call, (lim F pr).loop, pr⟩ _ _ (b35_0F) _ = _
  generalize (lim F pr).call = call at *; generalize (lim F pr).loop = loop at *; generalize Ops.std = o at *
  cases o; try dsimp only at *
  cbv
  all_goals (try rw [h1]); all_goals (try cbv)
  all_goals (try rw [h2]); all_goals (try cbv)
  all_goals (try rw [h2]); all_goals (try cbv)
  all_goals (try rw [h3]); all_goals (try cbv)
  all_goals (try rw [h3]); all_goals (try cbv)
  all_goals (try rw [h4]); all_goals (try cbv)
  all_goals (try rw [h5]); all_goals (try cbv)

theorem r35_0_0_2 (h1 : Ops.std.ilt t5 (Ops.std.llen x0_kids) = false) : Ifc.round (lim F pr) [2, 3, 5] 2 b35_0 (H35_0_0 x0_kind x0_n x0_s x0_keys x0_kids x1_kind x1_n x1_s x1_keys x1_kids t5) = some (W35_0_1 x0_kind x0_n x0_s x0_keys x0_kids x1_kind x1_n x1_s x1_keys x1_kids) := by
  show Ifc.round ⟨Ops.std, (lim F pr).call, (lim F pr).loop, pr⟩ _ _ (b35_0F) _ = _
  generalize (lim F pr).call = call at *; generalize (lim F pr).loop = loop at *; generalize Ops.std = o at *
  cases o; try dsimp only at *
  cbv
  all_goals (try rw [h1]); all_goals (try cbv)

end
section
variable {x0 x1 : List AV}
variable {t13 : Int}
variable {x x2 : ByteArray}
abbrev H58_0_0 (o : Ops) (x0 x1 : List AV) (t13 : Int) : St := ⟨[.lit 9 false x0, .lit 9 false x1, .bad, .bad, .bad, .bad, .bad, .bad, .bad, .bad, .bad, .bad, vI (o.llen x0), vI t13, .bad, .bad, .bad, .bad, .bad, .bad, .bad, .bad, .bad, .bad, .bad, .bad], []⟩
abbrev W58_0_0 : X × St := (.ret, ⟨[.bad, .bad, .bad, .bad, vF false, .bad, .bad, .bad, .bad, .bad, .bad, .bad, .bad, .bad, .bad, .bad, .bad, .bad, .bad, .bad, .bad, .bad, .bad, .bad, .bad, .bad], []⟩)
abbrev W58_0_1 : X × St := (.brk 0, ⟨[.bad, .bad, .bad, .bad, .bad, .bad, .bad, .bad, .bad, .bad, .bad, .bad, .bad, .bad, .bad, .bad, .bad, .bad, .bad, .bad, .bad, .bad, .bad, .bad, .bad, .bad], []⟩)
theorem p58_0 (h1 : Ops.std.ieq (Ops.std.llen x0) (Ops.std.llen x1) = true) (h2 : (lim F pr).loop [12, 0, 1, 13] 0 b58_0 (H58_0_0 Ops.std x0 x1 0) = some (W58_0_0)) : runFn (lim F pr) g58 [.lit 9 false x0, .lit 9 false x1] [] = some (vF false, []) := by
  show runFn ⟨Ops.std, (lim F pr).call, (lim F pr).loop, pr⟩ (g58F b58_0) _ _ = _
  generalize (lim F pr).call = call at *; generalize (lim F pr).loop = loop at *; generalize Ops.std = o at *; generalize b58_0 = c0 at *
  cases o; try dsimp only at *
  cbv
  all_goals (try rw [h1]); all_goals (try cbv)
  all_goals (try rw [h2]); all_goals (try cbv)

theorem p58_1 (h1 : Ops.std.ieq (Ops.std.llen x0) (Ops.std.llen x1) = true) (h2 : (lim F pr).loop [12, 0, 1, 13] 0 b58_0 (H58_0_0 Ops.std x0 x1 0) = some (W58_0_1)) : runFn (lim F pr) g58 [.lit 9 false x0, .lit 9 false x1] [] = some (vF true, []) := by
  show runFn ⟨Ops.std, (lim F pr).call, (lim F pr).loop, pr⟩ (g58F b58_0) _ _ = _
  generalize (lim F pr).call = call at *; generalize (lim F pr).loop = loop at *; generalize Ops.std = o at *; generalize b58_0 = c0 at *
  cases o; try dsimp only at *
  cbv
  all_goals (try rw [h1]); all_goals (try cbv)
  all_goals (try rw [h2]); all_goals (try cbv)

theorem p58_2 (h1 : Ops.std.ieq (Ops.std.llen x0) (Ops.std.llen x1) = false) : runFn (lim F pr) g58 [.lit 9 false x0, .lit 9 false x1] [] = some (vF false, []) := by
  show runFn ⟨Ops.std, (lim F pr).call, (lim F pr).loop, pr⟩ (g58F b58_0) _ _ = _
  generalize (lim F pr).call = call at *; generalize (lim F pr).loop = loop at *; generalize Ops.std = o at *; generalize b58_0 = c0 at *
  cases o; try dsimp only at *
  cbv
  all_goals (try rw [h1]); all_goals (try cbv)

theorem r58_0_0_0 (h1 : Ops.std.ilt t13 (Ops.std.llen x0) = true) (h2 : Ops.std.lget x0 t13 = some (vT x)) (h3 : Ops.std.lget x1 t13 = some (vT x2)) (h4 : Ops.std.seq x x2 = true) : Ifc.round (lim F pr) [12, 0, 1, 13] 0 b58_0 (H58_0_0 Ops.std x0 x1 t13) = (lim F pr).loop [12, 0, 1, 13] 0 b58_0 (H58_0_0 Ops.std x0 x1 (Ops.std.iadd .i64 t13 1)) := by
  show Ifc.round ⟨Ops.std, (lim F pr).call, (lim F pr).loop, pr⟩ _ _ (b58_0F) _ = (lim F pr).loop _ _ (b58_0F) _
  generalize (lim F pr).call = call at *; generalize (lim F pr).loop = loop at *; generalize Ops.std = o at *
  cases o; try dsimp only at *
  cbv
  all_goals (try rw [h1]); all_goals (try cbv)
  all_goals (try rw [h2]); all_goals (try cbv)
  all_goals (try rw [h2]); all_goals (try cbv)
  all_goals (try rw [h3]); all_goals (try cbv)
  all_goals (try rw [h3]); all_goals (try cbv)
  all_goals (try rw [h4]); all_goals (try cbv)

theorem r58_0_0_1 (h1 : Ops.std.ilt t13 (Ops.std.llen x0) = true) (h2 : Ops.std.lget x0 t13 = some (vT x)) (h3 : Ops.std.lget x1 t13 = some (vT x2)) (h4 : Ops.std.seq x x2 = false) : Ifc.round (lim F pr) [12, 0, 1, 13] 0 b58_0 (H58_0_0 Ops.std x0 x1 t13) = some (W58_0_0) := by
  show Ifc.round ⟨Ops.std, (lim F pr).call, (lim F pr).loop, pr⟩ _ _ (b58_0F) _ = _
  generalize (lim F pr).call = call at *; generalize (lim F pr).loop = loop at *; generalize Ops.std = o at *
  cases o; try dsimp only at *
  cbv
  all_goals (try rw [h1]); all_goals (try cbv)
  all_goals (try rw [h2]); all_goals (try cbv)
  all_goals (try rw [h2]); all_goals (try cbv)
  all_goals (try rw [h3]); all_goals (try cbv)
  all_goals (try rw [h3]); all_goals (try cbv)
  all_goals (try rw [h4]); all_goals (try cbv)

theorem r58_0_0_2 (h1 : Ops.std.ilt t13 (Ops.std.llen x0) = false) : Ifc.round (lim F pr) [12, 0, 1, 13] 0 b58_0 (H58_0_0 Ops.std x0 x1 t13) = some (W58_0_1) := by
  show Ifc.round ⟨Ops.std, (lim F pr).call, (lim F pr).loop, pr⟩ _ _ (b58_0F) _ = _
  generalize (lim F pr).call = call at *; generalize (lim F pr).loop = loop at *; generalize Ops.std = o at *
  cases o; try dsimp only at *
  cbv
  all_goals (try rw [h1]); all_goals (try cbv)

end
section
variable {x0 x1 x_keys x_kids x_keys1 x_kids1 : List AV}
variable {t17 x_kind x_n x_kind1 x_n1 : Int}
variable {x_s x_s1 : ByteArray}
variable {r : Bool}
abbrev H59_0k_0 (o : Ops) (x0 x1 : List AV) (t17 : Int) : St := ⟨[.bad, .lit 45 false x1, .fn 36 [], .bad, .bad, .bad, .bad, .bad, .bad, .bad, .bad, .bad, .bad, .bad, .bad, .lit 45 false x0, vI (o.llen x0), vI t17, .bad, .bad, .bad, .bad, .bad, .bad, .bad, .bad, .bad, .bad, .bad, .bad, .bad, .bad], []⟩
abbrev W59_0k_0 : X × St := (.ret, ⟨[.bad, .bad, .bad, .bad, .bad, .bad, vF false, .bad, .bad, .bad, .bad, .bad, .bad, .bad, .bad, .bad, .bad, .bad, .bad, .bad, .bad, .bad, .bad, .bad, .bad, .bad, .bad, .bad, .bad, .bad, .bad, .bad], []⟩)
abbrev W59_0k_1 : X × St := (.brk 0, ⟨[.bad, .bad, .bad, .bad, .bad, .bad, .bad, .bad, .bad, .bad, .bad, .bad, .bad, .bad, .bad, .bad, .bad, .bad, .bad, .bad, .bad, .bad, .bad, .bad, .bad, .bad, .bad, .bad, .bad, .bad, .bad, .bad], []⟩)
theorem p59k_0 (h1 : Ops.std.ieq (Ops.std.llen x0) (Ops.std.llen x1) = true) (h2 : (lim F pr).loop [16, 15, 1, 2, 17] 0 b59_0 (H59_0k_0 Ops.std x0 x1 0) = some (W59_0k_0)) : runFn (lim F pr) g59 [.lit 45 false x0, .lit 45 false x1, .fn 36 []] [] = some (vF false, []) := by
  show runFn ⟨Ops.std, (lim F pr).call, (lim F pr).loop, pr⟩ (g59F b59_0) _ _ = _
  generalize (lim F pr).call = call at *; generalize (lim F pr).loop = loop at *; generalize Ops.std = o at *; generalize b59_0 = c0 at *
  cases o; try dsimp only at *
  cbv
  all_goals (try rw [h1]); all_goals (try cbv)
  all_goals (try rw [h2]); all_goals (try cbv)

theorem p59k_1 (h1 : Ops.std.ieq (Ops.std.llen x0) (Ops.std.llen x1) = true) (h2 : (lim F pr).loop [16, 15, 1, 2, 17] 0 b59_0 (H59_0k_0 Ops.std x0 x1 0) = some (W59_0k_1)) : runFn (lim F pr) g59 [.lit 45 false x0, .lit 45 false x1, .fn 36 []] [] = some (vF true, []) := by
  show runFn ⟨Ops.std, (lim F pr).call, (lim F pr).loop, pr⟩ (g59F b59_0) _ _ = _
  generalize (lim F pr).call = call at *; generalize (lim F pr).loop = loop at *; generalize Ops.std = o at *; generalize b59_0 = c0 at *
  cases o; try dsimp only at *
  cbv
  all_goals (try rw [h1]); all_goals (try cbv)
  all_goals (try rw [h2]); all_goals (try cbv)

theorem p59k_2 (h1 : Ops.std.ieq (Ops.std.llen x0) (Ops.std.llen x1) = false) : runFn (lim F pr) g59 [.lit 45 false x0, .lit 45 false x1, .fn 36 []] [] = some (vF false, []) := by
  show runFn ⟨Ops.std, (lim F pr).call, (lim F pr).loop, pr⟩ (g59F b59_0) _ _ = _
  generalize (lim F pr).call = call at *; generalize (lim F pr).loop = loop at *; generalize Ops.std = o at *; generalize b59_0 = c0 at *
  cases o; try dsimp only at *
  cbv
  all_goals (try rw [h1]); all_goals (try cbv)

theorem r59_0k_0_0 (h1 : Ops.std.ilt t17 (Ops.std.llen x0) = true) (h2 : Ops.std.lget x0 t17 = some (a45 x_kind x_n x_s x_keys x_kids)) (h3 : Ops.std.lget x1 t17 = some (a45 x_kind1 x_n1 x_s1 x_keys1 x_kids1)) (h4 : (lim F pr).call 36 [a45 x_kind x_n x_s x_keys x_kids, a45 x_kind1 x_n1 x_s1 x_keys1 x_kids1] [] = some (vF r, [])) (h5 : r = true) : Ifc.round (lim F pr) [16, 15, 1, 2, 17] 0 b59_0 (H59_0k_0 Ops.std x0 x1 t17) = (lim F pr).loop [16, 15, 1, 2, 17] 0 b59_0 (H59_0k_0 Ops.std x0 x1 (Ops.std.iadd .i64 t17 1)) := by
  show Ifc.round ⟨Ops.std, (lim F pr).call, (lim F pr).loop, pr⟩ _ _ (b59_0F) _ = (lim F pr).loop _ _ (b59_0F) _
  generalize (lim F pr).call = call at *; generalize (lim F pr).loop = loop at *; generalize Ops.std = o at *
  cases o; try dsimp only at *
  cbv
  all_goals (try rw [h1]); all_goals (try cbv)
  all_goals (try rw [h2]); all_goals (try cbv)
  all_goals (try rw [h2]); all_goals (try cbv)
  all_goals (try rw [h3]); all_goals (try cbv)
  all_goals (try rw [h3]); all_goals (try cbv)
  all_goals (try rw [h4]); all_goals (try cbv)
  all_goals (try rw [h5]); all_goals (try cbv)

theorem r59_0k_0_1 (h1 : Ops.std.ilt t17 (Ops.std.llen x0) = true) (h2 : Ops.std.lget x0 t17 = some (a45 x_kind x_n x_s x_keys x_kids)) (h3 : Ops.std.lget x1 t17 = some (a45 x_kind1 x_n1 x_s1 x_keys1 x_kids1)) (h4 : (lim F pr).call 36 [a45 x_kind x_n x_s x_keys x_kids, a45 x_kind1 x_n1 x_s1 x_keys1 x_kids1] [] = some (vF r, [])) (h5 : r = false) : Ifc.round (lim F pr) [16, 15, 1, 2, 17] 0 b59_0 (H59_0k_0 Ops.std x0 x1 t17) = some (W59_0k_0) := by
  show Ifc.round ⟨Ops.std, (lim F pr).call, (lim F pr).loop, pr⟩ _ _ (b59_0F) _ = _
  generalize (lim F pr).call = call at *; generalize (lim F pr).loop = loop at *; generalize Ops.std = o at *
  cases o; try dsimp only at *
  cbv
  all_goals (try rw [h1]); all_goals (try cbv)
  all_goals (try rw [h2]); all_goals (try cbv)
  all_goals (try rw [h2]); all_goals (try cbv)
  all_goals (try rw [h3]); all_goals (try cbv)
  all_goals (try rw [h3]); all_goals (try cbv)
  all_goals (try rw [h4]); all_goals (try cbv)
  all_goals (try rw [h5]); all_goals (try cbv)

theorem r59_0k_0_2 (h1 : Ops.std.ilt t17 (Ops.std.llen x0) = false) : Ifc.round (lim F pr) [16, 15, 1, 2, 17] 0 b59_0 (H59_0k_0 Ops.std x0 x1 t17) = some (W59_0k_1) := by
  show Ifc.round ⟨Ops.std, (lim F pr).call, (lim F pr).loop, pr⟩ _ _ (b59_0F) _ = _
  generalize (lim F pr).call = call at *; generalize (lim F pr).loop = loop at *; generalize Ops.std = o at *
  cases o; try dsimp only at *
  cbv
  all_goals (try rw [h1]); all_goals (try cbv)

end
section
variable {x0_kind x0_n x1_kind x1_n : Int}
variable {x0_s x1_s : ByteArray}
variable {x0_keys x0_kids x1_keys x1_kids : List AV}
variable {r r1 : Bool}
theorem p36_0 (h1 : Ops.std.ieq x0_kind x1_kind = true) (h2 : Ops.std.ieq x0_n x1_n = true) (h3 : Ops.std.seq x0_s x1_s = true) (h4 : (lim F pr).call 58 [.lit 9 false x0_keys, .lit 9 false x1_keys] [] = some (vF r, [])) (h5 : r = true) (h6 : (lim F pr).call 59 [.lit 45 false x0_kids, .lit 45 false x1_kids, .fn 36 []] [] = some (vF r1, [])) : runFn (lim F pr) g36 [a45 x0_kind x0_n x0_s x0_keys x0_kids, a45 x1_kind x1_n x1_s x1_keys x1_kids] [] = some (vF r1, []) := by
  show runFn ⟨Ops.std, (lim F pr).call, (lim F pr).loop, pr⟩ (g36F) _ _ = _
  generalize (lim F pr).call = call at *; generalize (lim F pr).loop = loop at *; generalize Ops.std = o at *
  cases o; try dsimp only at *
  cbv
  all_goals (try rw [h1]); all_goals (try cbv)
  all_goals (try rw [h2]); all_goals (try cbv)
  all_goals (try rw [h3]); all_goals (try cbv)
  all_goals (try rw [h4]); all_goals (try cbv)
  all_goals (try rw [h5]); all_goals (try cbv)
  all_goals (try rw [h6]); all_goals (try cbv)

theorem p36_1 (h1 : Ops.std.ieq x0_kind x1_kind = true) (h2 : Ops.std.ieq x0_n x1_n = true) (h3 : Ops.std.seq x0_s x1_s = true) (h4 : (lim F pr).call 58 [.lit 9 false x0_keys, .lit 9 false x1_keys] [] = some (vF r, [])) (h5 : r = false) : runFn (lim F pr) g36 [a45 x0_kind x0_n x0_s x0_keys x0_kids, a45 x1_kind x1_n x1_s x1_keys x1_kids] [] = some (vF false, []) := by
  show runFn ⟨Ops.std, (lim F pr).call, (lim F pr).loop, pr⟩ (g36F) _ _ = _
  generalize (lim F pr).call = call at *; generalize (lim F pr).loop = loop at *; generalize Ops.std = o at *
  cases o; try dsimp only at *
  cbv
  all_goals (try rw [h1]); all_goals (try cbv)
  all_goals (try rw [h2]); all_goals (try cbv)
  all_goals (try rw [h3]); all_goals (try cbv)
  all_goals (try rw [h4]); all_goals (try cbv)
  all_goals (try rw [h5]); all_goals (try cbv)

theorem p36_2 (h1 : Ops.std.ieq x0_kind x1_kind = true) (h2 : Ops.std.ieq x0_n x1_n = true) (h3 : Ops.std.seq x0_s x1_s = false) : runFn (lim F pr) g36 [a45 x0_kind x0_n x0_s x0_keys x0_kids, a45 x1_kind x1_n x1_s x1_keys x1_kids] [] = some (vF false, []) := by
  show runFn ⟨Ops.std, (lim F pr).call, (lim F pr).loop, pr⟩ (g36F) _ _ = _
  generalize (lim F pr).call = call at *; generalize (lim F pr).loop = loop at *; generalize Ops.std = o at *
  cases o; try dsimp only at *
  cbv
  all_goals (try rw [h1]); all_goals (try cbv)
  all_goals (try rw [h2]); all_goals (try cbv)
  all_goals (try rw [h3]); all_goals (try cbv)

theorem p36_3 (h1 : Ops.std.ieq x0_kind x1_kind = true) (h2 : Ops.std.ieq x0_n x1_n = false) : runFn (lim F pr) g36 [a45 x0_kind x0_n x0_s x0_keys x0_kids, a45 x1_kind x1_n x1_s x1_keys x1_kids] [] = some (vF false, []) := by
  show runFn ⟨Ops.std, (lim F pr).call, (lim F pr).loop, pr⟩ (g36F) _ _ = _
  generalize (lim F pr).call = call at *; generalize (lim F pr).loop = loop at *; generalize Ops.std = o at *
  cases o; try dsimp only at *
  cbv
  all_goals (try rw [h1]); all_goals (try cbv)
  all_goals (try rw [h2]); all_goals (try cbv)

theorem p36_4 (h1 : Ops.std.ieq x0_kind x1_kind = false) : runFn (lim F pr) g36 [a45 x0_kind x0_n x0_s x0_keys x0_kids, a45 x1_kind x1_n x1_s x1_keys x1_kids] [] = some (vF false, []) := by
  show runFn ⟨Ops.std, (lim F pr).call, (lim F pr).loop, pr⟩ (g36F) _ _ = _
  generalize (lim F pr).call = call at *; generalize (lim F pr).loop = loop at *; generalize Ops.std = o at *
  cases o; try dsimp only at *
  cbv
  all_goals (try rw [h1]); all_goals (try cbv)

end
end Go.Ab.Try
