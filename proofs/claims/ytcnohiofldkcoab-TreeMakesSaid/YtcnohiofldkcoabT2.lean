/- What the functions come to, way by way: printed by a program. -/
import Derived.Test.YtcnohiofldkcoabT1
namespace Go.Ab.Try
open Go Go.Ab Go.Proofs
set_option linter.unusedVariables false
set_option linter.unusedSimpArgs false
set_option maxRecDepth 10000
section
variable {x0 r_keys r_kids : List AV}
variable {r_kind r_n : Int}
variable {r_s : ByteArray}
theorem p30_0 (h1 : (lim F pr).call 34 [a45 3 0 ⟨#[]⟩ [] x0] [] = some (.agg [vI r_kind, vI r_n, vT r_s, .sl 0 0, .sl 1 0], [.row 9 0 false r_keys, .row 45 0 false r_kids])) : runFn (lim F pr) g30 [.lit 45 false x0] [] = some (a45 r_kind r_n r_s r_keys r_kids, []) := by
  show runFn ⟨Ops.std, (lim F pr).call, (lim F pr).loop, pr⟩ (g30F) _ _ = _
  generalize (lim F pr).call = call at *; generalize (lim F pr).loop = loop at *; generalize Ops.std = o at *
  cases o; try dsimp only at *
  cbv
  all_goals (try rw [h1]); all_goals (try cbv)

end
section
variable {x0 : Int}
theorem p31_0 : runFn (lim F pr) g31 [vI x0] [] = some (a45 1 x0 ⟨#[]⟩ [] [], []) := by
  show runFn ⟨Ops.std, (lim F pr).call, (lim F pr).loop, pr⟩ (g31F) _ _ = _
  generalize (lim F pr).call = call at *; generalize (lim F pr).loop = loop at *; generalize Ops.std = o at *
  cases o; try dsimp only at *
  cbv

end
section
variable {x0 : ByteArray}
theorem p32_0 : runFn (lim F pr) g32 [vT x0] [] = some (a45 2 0 x0 [] [], []) := by
  show runFn ⟨Ops.std, (lim F pr).call, (lim F pr).loop, pr⟩ (g32F) _ _ = _
  generalize (lim F pr).call = call at *; generalize (lim F pr).loop = loop at *; generalize Ops.std = o at *
  cases o; try dsimp only at *
  cbv

end
section
theorem p33_0 : runFn (lim F pr) g33 [] [] = some (a45 4 0 ⟨#[]⟩ [] [], []) := by
  show runFn ⟨Ops.std, (lim F pr).call, (lim F pr).loop, pr⟩ (g33F) _ _ = _
  generalize (lim F pr).call = call at *; generalize (lim F pr).loop = loop at *; generalize Ops.std = o at *
  cases o; try dsimp only at *
  cbv

end
section
variable {x0 x3_kind x3_n r_kind r_n r_kind1 r_n1 r_kind2 r_n2 r_kind3 r_n3 r_kind4 r_n4 r_kind5 r_n5 t13 x_kind x_n : Int}
variable {x1 x3_s r_s r_s1 r_s2 r_s3 r_s4 r_s5 x_s : ByteArray}
variable {x2 x3_keys x3_kids r_keys r_kids r_keys1 r_kids1 r_keys2 r_kids2 r_keys3 r_kids3 r_keys4 r_kids4 r_keys5 r_kids5 e1co e4ao e1c e4a x_keys x_kids : List AV}
variable {r r1 r2 r3 r4 r5 r6 r7 r8 t12o t12 : Bool}
abbrev H6_0_0 (x3_kind x3_n : Int) (x3_s : ByteArray) (x3_keys x3_kids : List AV) (r_kind4 r_n4 : Int) (r_s4 : ByteArray) (r_keys4 r_kids4 : List AV) (r_kind5 r_n5 : Int) (r_s5 : ByteArray) (r_keys5 : List AV) (t12 : Bool) (t13 : Int) (e1c e4a : List AV) : St := ⟨[.bad, .bad, .bad, .bad, .bad, .bad, .bad, .bptr 0 0, .bad, .bad, .bad, .bptr 5 0, vF t12, vI t13, .bad, .bad, .bad, .bad, .bad, .bad, .bad, .bad, .bad, .bad, .bad, .bad, .bad, .bad, .bad, .bad, .bad, .bad, .bad, .bad, .bad, .bad, .bad, .bad, .bad, .bad, .bad, .bad, .bad, .bad, .bad, .bad, .bad, .bad, .bad, .bad, .bad, .bad, .bad, .bad, .bad, .bad, .bad, .bad, .bad, .bad, .bad, .bad, .bad, .bad, .bad, .bad, .bad, .bad, .bad, .bad, .bad, .bad, .bad, .bad, .bad, .bad, .bad, .bad, .bad, .bad, .bad, .bad, .bad, .bad, .bad, .bad, .bad, .bad, .bad, .bad, .bad, .bad, .bad, .bad, .bad, .bad, .bad, .bad, .bad, .bad, .bad, .bad], [.box 45 [vI x3_kind, vI x3_n, vT x3_s, .lit 9 false x3_keys, .lit 45 false x3_kids], .box 45 [vI 3, vI 0, vT ⟨#[]⟩, .lit 0 true [], .lit 45 true e1c], .box 45 [vI r_kind4, vI r_n4, vT r_s4, .lit 9 false r_keys4, .lit 45 false r_kids4], .row 9 0 false r_keys5, .row 45 0 false e4a, .box 45 [vI r_kind5, vI r_n5, vT r_s5, .sl 3 0, .sl 4 0]]⟩
abbrev W6_0_0 (x3_kind x3_n : Int) (x3_s : ByteArray) (x3_keys x3_kids : List AV) (r_kind4 r_n4 : Int) (r_s4 : ByteArray) (r_keys4 r_kids4 : List AV) (r_kind5 r_n5 : Int) (r_s5 : ByteArray) (r_keys5 : List AV) (t12o : Bool) (e1co e4ao : List AV) : X × St := (.brk 0, ⟨[.bad, .bad, .bad, .bad, .bad, .bad, .bad, .bptr 0 0, .bad, .bad, .bad, .bptr 5 0, vF t12o, .bad, .bad, .bad, .bad, .bad, .bad, .bad, .bad, .bad, .bad, .bad, .bad, .bad, .bad, .bad, .bad, .bad, .bad, .bad, .bad, .bad, .bad, .bad, .bad, .bad, .bad, .bad, .bad, .bad, .bad, .bad, .bad, .bad, .bad, .bad, .bad, .bad, .bad, .bad, .bad, .bad, .bad, .bad, .bad, .bad, .bad, .bad, .bad, .bad, .bad, .bad, .bad, .bad, .bad, .bad, .bad, .bad, .bad, .bad, .bad, .bad, .bad, .bad, .bad, .bad, .bad, .bad, .bad, .bad, .bad, .bad, .bad, .bad, .bad, .bad, .bad, .bad, .bad, .bad, .bad, .bad, .bad, .bad, .bad, .bad, .bad, .bad, .bad, .bad], [.box 45 [vI x3_kind, vI x3_n, vT x3_s, .lit 9 false x3_keys, .lit 45 false x3_kids], .box 45 [vI 3, vI 0, vT ⟨#[]⟩, .lit 0 true [], .lit 45 true e1co], .box 45 [vI r_kind4, vI r_n4, vT r_s4, .lit 9 false r_keys4, .lit 45 false r_kids4], .row 9 0 false r_keys5, .row 45 0 false e4ao, .box 45 [vI r_kind5, vI r_n5, vT r_s5, .sl 3 0, .sl 4 0]]⟩)
theorem p6_0 (h1 : Ops.std.ilt 300 (Ops.std.slen x1) = true) (h2 : (lim F pr).call 29 [] [] = some (vF r, [])) : runFn (lim F pr) g6 [vI x0, vT x1, .lit 45 false x2, a45 x3_kind x3_n x3_s x3_keys x3_kids] [] = some (vF r, []) := by
  show runFn ⟨Ops.std, (lim F pr).call, (lim F pr).loop, pr⟩ (g6F b6_0) _ _ = _
  generalize (lim F pr).call = call at *; generalize (lim F pr).loop = loop at *; generalize Ops.std = o at *; generalize b6_0 = c0 at *
  cases o; try dsimp only at *
  cbv
  all_goals (try rw [h1]); all_goals (try cbv)
  all_goals (try rw [h2]); all_goals (try cbv)

theorem p6_1 (h1 : Ops.std.ilt 300 (Ops.std.slen x1) = false) (h2 : (lim F pr).call 28 [a45 0 0 ⟨#[]⟩ [] x2, vI 1] [] = some (vF r, [])) (h3 : r = true) (h4 : (lim F pr).call 29 [] [] = some (vF r1, [])) : runFn (lim F pr) g6 [vI x0, vT x1, .lit 45 false x2, a45 x3_kind x3_n x3_s x3_keys x3_kids] [] = some (vF r1, []) := by
  show runFn ⟨Ops.std, (lim F pr).call, (lim F pr).loop, pr⟩ (g6F b6_0) _ _ = _
  generalize (lim F pr).call = call at *; generalize (lim F pr).loop = loop at *; generalize Ops.std = o at *; generalize b6_0 = c0 at *
  cases o; try dsimp only at *
  cbv
  all_goals (try rw [h1]); all_goals (try cbv)
  all_goals (try rw [h2]); all_goals (try cbv)
  all_goals (try rw [h3]); all_goals (try cbv)
  all_goals (try rw [h4]); all_goals (try cbv)

theorem p6_2 (h1 : Ops.std.ilt 300 (Ops.std.slen x1) = false) (h2 : (lim F pr).call 28 [a45 0 0 ⟨#[]⟩ [] x2, vI 1] [] = some (vF r, [])) (h3 : r = false) (h4 : (lim F pr).call 28 [a45 x3_kind x3_n x3_s x3_keys x3_kids, vI 1] [] = some (vF r1, [])) (h5 : r1 = true) (h6 : (lim F pr).call 29 [] [] = some (vF r2, [])) : runFn (lim F pr) g6 [vI x0, vT x1, .lit 45 false x2, a45 x3_kind x3_n x3_s x3_keys x3_kids] [] = some (vF r2, []) := by
  show runFn ⟨Ops.std, (lim F pr).call, (lim F pr).loop, pr⟩ (g6F b6_0) _ _ = _
  generalize (lim F pr).call = call at *; generalize (lim F pr).loop = loop at *; generalize Ops.std = o at *; generalize b6_0 = c0 at *
  cases o; try dsimp only at *
  cbv
  all_goals (try rw [h1]); all_goals (try cbv)
  all_goals (try rw [h2]); all_goals (try cbv)
  all_goals (try rw [h3]); all_goals (try cbv)
  all_goals (try rw [h4]); all_goals (try cbv)
  all_goals (try rw [h5]); all_goals (try cbv)
  all_goals (try rw [h6]); all_goals (try cbv)

theorem p6_3 (h1 : Ops.std.ilt 300 (Ops.std.slen x1) = false) (h2 : (lim F pr).call 28 [a45 0 0 ⟨#[]⟩ [] x2, vI 1] [] = some (vF r, [])) (h3 : r = false) (h4 : (lim F pr).call 28 [a45 x3_kind x3_n x3_s x3_keys x3_kids, vI 1] [] = some (vF r1, [])) (h5 : r1 = false) (h6 : (lim F pr).call 31 [vI x0] [] = some (a45 r_kind r_n r_s r_keys r_kids, [])) (h7 : (lim F pr).call 32 [vT x1] [] = some (a45 r_kind1 r_n1 r_s1 r_keys1 r_kids1, [])) (h8 : (lim F pr).call 30 [.lit 45 false x2] [] = some (a45 r_kind2 r_n2 r_s2 r_keys2 r_kids2, [])) (h9 : (lim F pr).call 33 [] [] = some (a45 r_kind3 r_n3 r_s3 r_keys3 r_kids3, [])) (h10 : (lim F pr).call 30 [.lit 45 false [a45 r_kind r_n r_s r_keys r_kids, a45 r_kind1 r_n1 r_s1 r_keys1 r_kids1, a45 r_kind2 r_n2 r_s2 r_keys2 r_kids2, a45 r_kind3 r_n3 r_s3 r_keys3 r_kids3]] [] = some (a45 r_kind4 r_n4 r_s4 r_keys4 r_kids4, [])) (h11 : (lim F pr).call 34 [a45 x3_kind x3_n x3_s x3_keys x3_kids] [] = some (.agg [vI r_kind5, vI r_n5, vT r_s5, .sl 0 0, .sl 1 0], [.row 9 0 false r_keys5, .row 45 0 false r_kids5])) (h12 : (lim F pr).call 35 [a45 r_kind5 r_n5 r_s5 r_keys5 r_kids5, a45 x3_kind x3_n x3_s x3_keys x3_kids] [] = some (vF r2, [])) (h13 : r2 = true) (h14 : (lim F pr).call 35 [a45 3 0 ⟨#[]⟩ [] [a45 1 x0 ⟨#[]⟩ [] [], a45 2 0 x1 [] [], a45 3 0 ⟨#[]⟩ [] x2, a45 4 0 ⟨#[]⟩ [] []], a45 r_kind4 r_n4 r_s4 r_keys4 r_kids4] [] = some (vF r3, [])) (h15 : r3 = true) (h16 : (lim F pr).call 36 [a45 3 0 ⟨#[]⟩ [] [a45 1 x0 ⟨#[]⟩ [] [], a45 2 0 x1 [] [], a45 3 0 ⟨#[]⟩ [] x2, a45 4 0 ⟨#[]⟩ [] []], a45 x3_kind x3_n x3_s x3_keys x3_kids] [] = some (vF r4, [])) (h17 : (lim F pr).call 35 [a45 3 0 ⟨#[]⟩ [] [a45 1 x0 ⟨#[]⟩ [] [], a45 2 0 x1 [] [], a45 3 0 ⟨#[]⟩ [] x2, a45 4 0 ⟨#[]⟩ [] []], a45 x3_kind x3_n x3_s x3_keys x3_kids] [] = some (vF r5, [])) (h18 : Ops.std.beq r4 r5 = true) (h19 : (lim F pr).call 36 [a45 r_kind5 r_n5 r_s5 r_keys5 r_kids5, a45 x3_kind x3_n x3_s x3_keys x3_kids] [] = some (vF r6, [])) (h20 : (lim F pr).loop [13, 12, 11, 7] 6 b6_0 (H6_0_0 x3_kind x3_n x3_s x3_keys x3_kids r_kind4 r_n4 r_s4 r_keys4 r_kids4 r_kind5 r_n5 r_s5 r_keys5 r6 0 [a45 1 x0 ⟨#[]⟩ [] [], a45 2 0 x1 [] [], a45 3 0 ⟨#[]⟩ [] x2, a45 4 0 ⟨#[]⟩ [] []] r_kids5) = some (W6_0_0 x3_kind x3_n x3_s x3_keys x3_kids r_kind4 r_n4 r_s4 r_keys4 r_kids4 r_kind5 r_n5 r_s5 r_keys5 r6 e1co e4ao)) (h21 : r6 = true) (h22 : (lim F pr).call 36 [a45 r_kind5 r_n5 r_s5 r_keys5 e4ao, a45 x3_kind x3_n x3_s x3_keys x3_kids] [] = some (vF r7, [])) (h23 : Ops.std.beq r7 (Ops.std.ieq (Ops.std.llen x3_kids) 0) = true) (h24 : (lim F pr).call 29 [] [] = some (vF r8, [])) : runFn (lim F pr) g6 [vI x0, vT x1, .lit 45 false x2, a45 x3_kind x3_n x3_s x3_keys x3_kids] [] = some (vF r8, []) := by
  show runFn ⟨Ops.std, (lim F pr).call, (lim F pr).loop, pr⟩ (g6F b6_0) _ _ = _
  generalize (lim F pr).call = call at *; generalize (lim F pr).loop = loop at *; generalize Ops.std = o at *; generalize b6_0 = c0 at *
  cases o; try dsimp only at *
  cbv
  all_goals (try rw [h1]); all_goals (try cbv)
  all_goals (try rw [h2]); all_goals (try cbv)
  all_goals (try rw [h3]); all_goals (try cbv)
  all_goals (try rw [h4]); all_goals (try cbv)
  all_goals (try rw [h5]); all_goals (try cbv)
  all_goals (try rw [h6]); all_goals (try cbv)
  all_goals (try rw [h7]); all_goals (try cbv)
  all_goals (try rw [h8]); all_goals (try cbv)
  all_goals (try rw [h9]); all_goals (try cbv)
  all_goals (try rw [h10]); all_goals (try cbv)
  all_goals (try rw [h11]); all_goals (try cbv)
  all_goals (try rw [h12]); all_goals (try cbv)
  all_goals (try rw [h13]); all_goals (try cbv)
  all_goals (try rw [h14]); all_goals (try cbv)
  all_goals (try rw [h15]); all_goals (try cbv)
  all_goals (try rw [h16]); all_goals (try cbv)
  all_goals (try rw [h17]); all_goals (try cbv)
  all_goals (try rw [h18]); all_goals (try cbv)
  all_goals (try rw [h19]); all_goals (try cbv)
  all_goals (try rw [h20]); all_goals (try cbv)
  all_goals (try rw [h21]); all_goals (try cbv)
  all_goals (try rw [h22]); all_goals (try cbv)
  all_goals (try rw [h23]); all_goals (try cbv)
  all_goals (try rw [h24]); all_goals (try cbv)

theorem p6_4 (h1 : Ops.std.ilt 300 (Ops.std.slen x1) = false) (h2 : (lim F pr).call 28 [a45 0 0 ⟨#[]⟩ [] x2, vI 1] [] = some (vF r, [])) (h3 : r = false) (h4 : (lim F pr).call 28 [a45 x3_kind x3_n x3_s x3_keys x3_kids, vI 1] [] = some (vF r1, [])) (h5 : r1 = false) (h6 : (lim F pr).call 31 [vI x0] [] = some (a45 r_kind r_n r_s r_keys r_kids, [])) (h7 : (lim F pr).call 32 [vT x1] [] = some (a45 r_kind1 r_n1 r_s1 r_keys1 r_kids1, [])) (h8 : (lim F pr).call 30 [.lit 45 false x2] [] = some (a45 r_kind2 r_n2 r_s2 r_keys2 r_kids2, [])) (h9 : (lim F pr).call 33 [] [] = some (a45 r_kind3 r_n3 r_s3 r_keys3 r_kids3, [])) (h10 : (lim F pr).call 30 [.lit 45 false [a45 r_kind r_n r_s r_keys r_kids, a45 r_kind1 r_n1 r_s1 r_keys1 r_kids1, a45 r_kind2 r_n2 r_s2 r_keys2 r_kids2, a45 r_kind3 r_n3 r_s3 r_keys3 r_kids3]] [] = some (a45 r_kind4 r_n4 r_s4 r_keys4 r_kids4, [])) (h11 : (lim F pr).call 34 [a45 x3_kind x3_n x3_s x3_keys x3_kids] [] = some (.agg [vI r_kind5, vI r_n5, vT r_s5, .sl 0 0, .sl 1 0], [.row 9 0 false r_keys5, .row 45 0 false r_kids5])) (h12 : (lim F pr).call 35 [a45 r_kind5 r_n5 r_s5 r_keys5 r_kids5, a45 x3_kind x3_n x3_s x3_keys x3_kids] [] = some (vF r2, [])) (h13 : r2 = true) (h14 : (lim F pr).call 35 [a45 3 0 ⟨#[]⟩ [] [a45 1 x0 ⟨#[]⟩ [] [], a45 2 0 x1 [] [], a45 3 0 ⟨#[]⟩ [] x2, a45 4 0 ⟨#[]⟩ [] []], a45 r_kind4 r_n4 r_s4 r_keys4 r_kids4] [] = some (vF r3, [])) (h15 : r3 = true) (h16 : (lim F pr).call 36 [a45 3 0 ⟨#[]⟩ [] [a45 1 x0 ⟨#[]⟩ [] [], a45 2 0 x1 [] [], a45 3 0 ⟨#[]⟩ [] x2, a45 4 0 ⟨#[]⟩ [] []], a45 x3_kind x3_n x3_s x3_keys x3_kids] [] = some (vF r4, [])) (h17 : (lim F pr).call 35 [a45 3 0 ⟨#[]⟩ [] [a45 1 x0 ⟨#[]⟩ [] [], a45 2 0 x1 [] [], a45 3 0 ⟨#[]⟩ [] x2, a45 4 0 ⟨#[]⟩ [] []], a45 x3_kind x3_n x3_s x3_keys x3_kids] [] = some (vF r5, [])) (h18 : Ops.std.beq r4 r5 = true) (h19 : (lim F pr).call 36 [a45 r_kind5 r_n5 r_s5 r_keys5 r_kids5, a45 x3_kind x3_n x3_s x3_keys x3_kids] [] = some (vF r6, [])) (h20 : (lim F pr).loop [13, 12, 11, 7] 6 b6_0 (H6_0_0 x3_kind x3_n x3_s x3_keys x3_kids r_kind4 r_n4 r_s4 r_keys4 r_kids4 r_kind5 r_n5 r_s5 r_keys5 r6 0 [a45 1 x0 ⟨#[]⟩ [] [], a45 2 0 x1 [] [], a45 3 0 ⟨#[]⟩ [] x2, a45 4 0 ⟨#[]⟩ [] []] r_kids5) = some (W6_0_0 x3_kind x3_n x3_s x3_keys x3_kids r_kind4 r_n4 r_s4 r_keys4 r_kids4 r_kind5 r_n5 r_s5 r_keys5 r6 e1co e4ao)) (h21 : r6 = true) (h22 : (lim F pr).call 36 [a45 r_kind5 r_n5 r_s5 r_keys5 e4ao, a45 x3_kind x3_n x3_s x3_keys x3_kids] [] = some (vF r7, [])) (h23 : Ops.std.beq r7 (Ops.std.ieq (Ops.std.llen x3_kids) 0) = false) : runFn (lim F pr) g6 [vI x0, vT x1, .lit 45 false x2, a45 x3_kind x3_n x3_s x3_keys x3_kids] [] = some (vF false, []) := by
  show runFn ⟨Ops.std, (lim F pr).call, (lim F pr).loop, pr⟩ (g6F b6_0) _ _ = _
  generalize (lim F pr).call = call at *; generalize (lim F pr).loop = loop at *; generalize Ops.std = o at *; generalize b6_0 = c0 at *
  cases o; try dsimp only at *
  cbv
  all_goals (try rw [h1]); all_goals (try cbv)
  all_goals (try rw [h2]); all_goals (try cbv)
  all_goals (try rw [h3]); all_goals (try cbv)
  all_goals (try rw [h4]); all_goals (try cbv)
  all_goals (try rw [h5]); all_goals (try cbv)
  all_goals (try rw [h6]); all_goals (try cbv)
  all_goals (try rw [h7]); all_goals (try cbv)
  all_goals (try rw [h8]); all_goals (try cbv)
  all_goals (try rw [h9]); all_goals (try cbv)
  all_goals (try rw [h10]); all_goals (try cbv)
  all_goals (try rw [h11]); all_goals (try cbv)
  all_goals (try rw [h12]); all_goals (try cbv)
  all_goals (try rw [h13]); all_goals (try cbv)
  all_goals (try rw [h14]); all_goals (try cbv)
  all_goals (try rw [h15]); all_goals (try cbv)
  all_goals (try rw [h16]); all_goals (try cbv)
  all_goals (try rw [h17]); all_goals (try cbv)
  all_goals (try rw [h18]); all_goals (try cbv)
  all_goals (try rw [h19]); all_goals (try cbv)
  all_goals (try rw [h20]); all_goals (try cbv)
  all_goals (try rw [h21]); all_goals (try cbv)
  all_goals (try rw [h22]); all_goals (try cbv)
  all_goals (try rw [h23]); all_goals (try cbv)

theorem p6_5 (h1 : Ops.std.ilt 300 (Ops.std.slen x1) = false) (h2 : (lim F pr).call 28 [a45 0 0 ⟨#[]⟩ [] x2, vI 1] [] = some (vF r, [])) (h3 : r = false) (h4 : (lim F pr).call 28 [a45 x3_kind x3_n x3_s x3_keys x3_kids, vI 1] [] = some (vF r1, [])) (h5 : r1 = false) (h6 : (lim F pr).call 31 [vI x0] [] = some (a45 r_kind r_n r_s r_keys r_kids, [])) (h7 : (lim F pr).call 32 [vT x1] [] = some (a45 r_kind1 r_n1 r_s1 r_keys1 r_kids1, [])) (h8 : (lim F pr).call 30 [.lit 45 false x2] [] = some (a45 r_kind2 r_n2 r_s2 r_keys2 r_kids2, [])) (h9 : (lim F pr).call 33 [] [] = some (a45 r_kind3 r_n3 r_s3 r_keys3 r_kids3, [])) (h10 : (lim F pr).call 30 [.lit 45 false [a45 r_kind r_n r_s r_keys r_kids, a45 r_kind1 r_n1 r_s1 r_keys1 r_kids1, a45 r_kind2 r_n2 r_s2 r_keys2 r_kids2, a45 r_kind3 r_n3 r_s3 r_keys3 r_kids3]] [] = some (a45 r_kind4 r_n4 r_s4 r_keys4 r_kids4, [])) (h11 : (lim F pr).call 34 [a45 x3_kind x3_n x3_s x3_keys x3_kids] [] = some (.agg [vI r_kind5, vI r_n5, vT r_s5, .sl 0 0, .sl 1 0], [.row 9 0 false r_keys5, .row 45 0 false r_kids5])) (h12 : (lim F pr).call 35 [a45 r_kind5 r_n5 r_s5 r_keys5 r_kids5, a45 x3_kind x3_n x3_s x3_keys x3_kids] [] = some (vF r2, [])) (h13 : r2 = true) (h14 : (lim F pr).call 35 [a45 3 0 ⟨#[]⟩ [] [a45 1 x0 ⟨#[]⟩ [] [], a45 2 0 x1 [] [], a45 3 0 ⟨#[]⟩ [] x2, a45 4 0 ⟨#[]⟩ [] []], a45 r_kind4 r_n4 r_s4 r_keys4 r_kids4] [] = some (vF r3, [])) (h15 : r3 = true) (h16 : (lim F pr).call 36 [a45 3 0 ⟨#[]⟩ [] [a45 1 x0 ⟨#[]⟩ [] [], a45 2 0 x1 [] [], a45 3 0 ⟨#[]⟩ [] x2, a45 4 0 ⟨#[]⟩ [] []], a45 x3_kind x3_n x3_s x3_keys x3_kids] [] = some (vF r4, [])) (h17 : (lim F pr).call 35 [a45 3 0 ⟨#[]⟩ [] [a45 1 x0 ⟨#[]⟩ [] [], a45 2 0 x1 [] [], a45 3 0 ⟨#[]⟩ [] x2, a45 4 0 ⟨#[]⟩ [] []], a45 x3_kind x3_n x3_s x3_keys x3_kids] [] = some (vF r5, [])) (h18 : Ops.std.beq r4 r5 = true) (h19 : (lim F pr).call 36 [a45 r_kind5 r_n5 r_s5 r_keys5 r_kids5, a45 x3_kind x3_n x3_s x3_keys x3_kids] [] = some (vF r6, [])) (h20 : (lim F pr).loop [13, 12, 11, 7] 6 b6_0 (H6_0_0 x3_kind x3_n x3_s x3_keys x3_kids r_kind4 r_n4 r_s4 r_keys4 r_kids4 r_kind5 r_n5 r_s5 r_keys5 r6 0 [a45 1 x0 ⟨#[]⟩ [] [], a45 2 0 x1 [] [], a45 3 0 ⟨#[]⟩ [] x2, a45 4 0 ⟨#[]⟩ [] []] r_kids5) = some (W6_0_0 x3_kind x3_n x3_s x3_keys x3_kids r_kind4 r_n4 r_s4 r_keys4 r_kids4 r_kind5 r_n5 r_s5 r_keys5 r6 e1co e4ao)) (h21 : r6 = false) : runFn (lim F pr) g6 [vI x0, vT x1, .lit 45 false x2, a45 x3_kind x3_n x3_s x3_keys x3_kids] [] = some (vF false, []) := by
  show runFn ⟨Ops.std, (lim F pr).call, (lim F pr).loop, pr⟩ (g6F b6_0) _ _ = _
  generalize (lim F pr).call = call at *; generalize (lim F pr).loop = loop at *; generalize Ops.std = o at *; generalize b6_0 = c0 at *
  cases o; try dsimp only at *
  cbv
  all_goals (try rw [h1]); all_goals (try cbv)
  all_goals (try rw [h2]); all_goals (try cbv)
  all_goals (try rw [h3]); all_goals (try cbv)
  all_goals (try rw [h4]); all_goals (try cbv)
  all_goals (try rw [h5]); all_goals (try cbv)
  all_goals (try rw [h6]); all_goals (try cbv)
  all_goals (try rw [h7]); all_goals (try cbv)
  all_goals (try rw [h8]); all_goals (try cbv)
  all_goals (try rw [h9]); all_goals (try cbv)
  all_goals (try rw [h10]); all_goals (try cbv)
  all_goals (try rw [h11]); all_goals (try cbv)
  all_goals (try rw [h12]); all_goals (try cbv)
  all_goals (try rw [h13]); all_goals (try cbv)
  all_goals (try rw [h14]); all_goals (try cbv)
  all_goals (try rw [h15]); all_goals (try cbv)
  all_goals (try rw [h16]); all_goals (try cbv)
  all_goals (try rw [h17]); all_goals (try cbv)
  all_goals (try rw [h18]); all_goals (try cbv)
  all_goals (try rw [h19]); all_goals (try cbv)
  all_goals (try rw [h20]); all_goals (try cbv)
  all_goals (try rw [h21]); all_goals (try cbv)

theorem p6_6 (h1 : Ops.std.ilt 300 (Ops.std.slen x1) = false) (h2 : (lim F pr).call 28 [a45 0 0 ⟨#[]⟩ [] x2, vI 1] [] = some (vF r, [])) (h3 : r = false) (h4 : (lim F pr).call 28 [a45 x3_kind x3_n x3_s x3_keys x3_kids, vI 1] [] = some (vF r1, [])) (h5 : r1 = false) (h6 : (lim F pr).call 31 [vI x0] [] = some (a45 r_kind r_n r_s r_keys r_kids, [])) (h7 : (lim F pr).call 32 [vT x1] [] = some (a45 r_kind1 r_n1 r_s1 r_keys1 r_kids1, [])) (h8 : (lim F pr).call 30 [.lit 45 false x2] [] = some (a45 r_kind2 r_n2 r_s2 r_keys2 r_kids2, [])) (h9 : (lim F pr).call 33 [] [] = some (a45 r_kind3 r_n3 r_s3 r_keys3 r_kids3, [])) (h10 : (lim F pr).call 30 [.lit 45 false [a45 r_kind r_n r_s r_keys r_kids, a45 r_kind1 r_n1 r_s1 r_keys1 r_kids1, a45 r_kind2 r_n2 r_s2 r_keys2 r_kids2, a45 r_kind3 r_n3 r_s3 r_keys3 r_kids3]] [] = some (a45 r_kind4 r_n4 r_s4 r_keys4 r_kids4, [])) (h11 : (lim F pr).call 34 [a45 x3_kind x3_n x3_s x3_keys x3_kids] [] = some (.agg [vI r_kind5, vI r_n5, vT r_s5, .sl 0 0, .sl 1 0], [.row 9 0 false r_keys5, .row 45 0 false r_kids5])) (h12 : (lim F pr).call 35 [a45 r_kind5 r_n5 r_s5 r_keys5 r_kids5, a45 x3_kind x3_n x3_s x3_keys x3_kids] [] = some (vF r2, [])) (h13 : r2 = true) (h14 : (lim F pr).call 35 [a45 3 0 ⟨#[]⟩ [] [a45 1 x0 ⟨#[]⟩ [] [], a45 2 0 x1 [] [], a45 3 0 ⟨#[]⟩ [] x2, a45 4 0 ⟨#[]⟩ [] []], a45 r_kind4 r_n4 r_s4 r_keys4 r_kids4] [] = some (vF r3, [])) (h15 : r3 = true) (h16 : (lim F pr).call 36 [a45 3 0 ⟨#[]⟩ [] [a45 1 x0 ⟨#[]⟩ [] [], a45 2 0 x1 [] [], a45 3 0 ⟨#[]⟩ [] x2, a45 4 0 ⟨#[]⟩ [] []], a45 x3_kind x3_n x3_s x3_keys x3_kids] [] = some (vF r4, [])) (h17 : (lim F pr).call 35 [a45 3 0 ⟨#[]⟩ [] [a45 1 x0 ⟨#[]⟩ [] [], a45 2 0 x1 [] [], a45 3 0 ⟨#[]⟩ [] x2, a45 4 0 ⟨#[]⟩ [] []], a45 x3_kind x3_n x3_s x3_keys x3_kids] [] = some (vF r5, [])) (h18 : Ops.std.beq r4 r5 = false) (h19 : (lim F pr).loop [13, 12, 11, 7] 6 b6_0 (H6_0_0 x3_kind x3_n x3_s x3_keys x3_kids r_kind4 r_n4 r_s4 r_keys4 r_kids4 r_kind5 r_n5 r_s5 r_keys5 false 0 [a45 1 x0 ⟨#[]⟩ [] [], a45 2 0 x1 [] [], a45 3 0 ⟨#[]⟩ [] x2, a45 4 0 ⟨#[]⟩ [] []] r_kids5) = some (W6_0_0 x3_kind x3_n x3_s x3_keys x3_kids r_kind4 r_n4 r_s4 r_keys4 r_kids4 r_kind5 r_n5 r_s5 r_keys5 t12o e1co e4ao)) (h20 : t12o = true) (h21 : (lim F pr).call 36 [a45 r_kind5 r_n5 r_s5 r_keys5 e4ao, a45 x3_kind x3_n x3_s x3_keys x3_kids] [] = some (vF r6, [])) (h22 : Ops.std.beq r6 (Ops.std.ieq (Ops.std.llen x3_kids) 0) = true) (h23 : (lim F pr).call 29 [] [] = some (vF r7, [])) : runFn (lim F pr) g6 [vI x0, vT x1, .lit 45 false x2, a45 x3_kind x3_n x3_s x3_keys x3_kids] [] = some (vF r7, []) := by
  show runFn ⟨Ops.std, (lim F pr).call, (lim F pr).loop, pr⟩ (g6F b6_0) _ _ = _
  generalize (lim F pr).call = call at *; generalize (lim F pr).loop = loop at *; generalize Ops.std = o at *; generalize b6_0 = c0 at *
  cases o; try dsimp only at *
  cbv
  all_goals (try rw [h1]); all_goals (try cbv)
  all_goals (try rw [h2]); all_goals (try cbv)
  all_goals (try rw [h3]); all_goals (try cbv)
  all_goals (try rw [h4]); all_goals (try cbv)
  all_goals (try rw [h5]); all_goals (try cbv)
  all_goals (try rw [h6]); all_goals (try cbv)
  all_goals (try rw [h7]); all_goals (try cbv)
  all_goals (try rw [h8]); all_goals (try cbv)
  all_goals (try rw [h9]); all_goals (try cbv)
  all_goals (try rw [h10]); all_goals (try cbv)
  all_goals (try rw [h11]); all_goals (try cbv)
  all_goals (try rw [h12]); all_goals (try cbv)
  all_goals (try rw [h13]); all_goals (try cbv)
  all_goals (try rw [h14]); all_goals (try cbv)
  all_goals (try rw [h15]); all_goals (try cbv)
  all_goals (try rw [h16]); all_goals (try cbv)
  all_goals (try rw [h17]); all_goals (try cbv)
  all_goals (try rw [h18]); all_goals (try cbv)
  all_goals (try rw [h19]); all_goals (try cbv)
  all_goals (try rw [h20]); all_goals (try cbv)
  all_goals (try rw [h21]); all_goals (try cbv)
  all_goals (try rw [h22]); all_goals (try cbv)
  all_goals (try rw [h23]); all_goals (try cbv)

theorem p6_7 (h1 : Ops.std.ilt 300 (Ops.std.slen x1) = false) (h2 : (lim F pr).call 28 [a45 0 0 ⟨#[]⟩ [] x2, vI 1] [] = some (vF r, [])) (h3 : r = false) (h4 : (lim F pr).call 28 [a45 x3_kind x3_n x3_s x3_keys x3_kids, vI 1] [] = some (vF r1, [])) (h5 : r1 = false) (h6 : (lim F pr).call 31 [vI x0] [] = some (a45 r_kind r_n r_s r_keys r_kids, [])) (h7 : (lim F pr).call 32 [vT x1] [] = some (a45 r_kind1 r_n1 r_s1 r_keys1 r_kids1, [])) (h8 : (lim F pr).call 30 [.lit 45 false x2] [] = some (a45 r_kind2 r_n2 r_s2 r_keys2 r_kids2, [])) (h9 : (lim F pr).call 33 [] [] = some (a45 r_kind3 r_n3 r_s3 r_keys3 r_kids3, [])) (h10 : (lim F pr).call 30 [.lit 45 false [a45 r_kind r_n r_s r_keys r_kids, a45 r_kind1 r_n1 r_s1 r_keys1 r_kids1, a45 r_kind2 r_n2 r_s2 r_keys2 r_kids2, a45 r_kind3 r_n3 r_s3 r_keys3 r_kids3]] [] = some (a45 r_kind4 r_n4 r_s4 r_keys4 r_kids4, [])) (h11 : (lim F pr).call 34 [a45 x3_kind x3_n x3_s x3_keys x3_kids] [] = some (.agg [vI r_kind5, vI r_n5, vT r_s5, .sl 0 0, .sl 1 0], [.row 9 0 false r_keys5, .row 45 0 false r_kids5])) (h12 : (lim F pr).call 35 [a45 r_kind5 r_n5 r_s5 r_keys5 r_kids5, a45 x3_kind x3_n x3_s x3_keys x3_kids] [] = some (vF r2, [])) (h13 : r2 = true) (h14 : (lim F pr).call 35 [a45 3 0 ⟨#[]⟩ [] [a45 1 x0 ⟨#[]⟩ [] [], a45 2 0 x1 [] [], a45 3 0 ⟨#[]⟩ [] x2, a45 4 0 ⟨#[]⟩ [] []], a45 r_kind4 r_n4 r_s4 r_keys4 r_kids4] [] = some (vF r3, [])) (h15 : r3 = true) (h16 : (lim F pr).call 36 [a45 3 0 ⟨#[]⟩ [] [a45 1 x0 ⟨#[]⟩ [] [], a45 2 0 x1 [] [], a45 3 0 ⟨#[]⟩ [] x2, a45 4 0 ⟨#[]⟩ [] []], a45 x3_kind x3_n x3_s x3_keys x3_kids] [] = some (vF r4, [])) (h17 : (lim F pr).call 35 [a45 3 0 ⟨#[]⟩ [] [a45 1 x0 ⟨#[]⟩ [] [], a45 2 0 x1 [] [], a45 3 0 ⟨#[]⟩ [] x2, a45 4 0 ⟨#[]⟩ [] []], a45 x3_kind x3_n x3_s x3_keys x3_kids] [] = some (vF r5, [])) (h18 : Ops.std.beq r4 r5 = false) (h19 : (lim F pr).loop [13, 12, 11, 7] 6 b6_0 (H6_0_0 x3_kind x3_n x3_s x3_keys x3_kids r_kind4 r_n4 r_s4 r_keys4 r_kids4 r_kind5 r_n5 r_s5 r_keys5 false 0 [a45 1 x0 ⟨#[]⟩ [] [], a45 2 0 x1 [] [], a45 3 0 ⟨#[]⟩ [] x2, a45 4 0 ⟨#[]⟩ [] []] r_kids5) = some (W6_0_0 x3_kind x3_n x3_s x3_keys x3_kids r_kind4 r_n4 r_s4 r_keys4 r_kids4 r_kind5 r_n5 r_s5 r_keys5 t12o e1co e4ao)) (h20 : t12o = true) (h21 : (lim F pr).call 36 [a45 r_kind5 r_n5 r_s5 r_keys5 e4ao, a45 x3_kind x3_n x3_s x3_keys x3_kids] [] = some (vF r6, [])) (h22 : Ops.std.beq r6 (Ops.std.ieq (Ops.std.llen x3_kids) 0) = false) : runFn (lim F pr) g6 [vI x0, vT x1, .lit 45 false x2, a45 x3_kind x3_n x3_s x3_keys x3_kids] [] = some (vF false, []) := by
  show runFn ⟨Ops.std, (lim F pr).call, (lim F pr).loop, pr⟩ (g6F b6_0) _ _ = _
  generalize (lim F pr).call = call at *; generalize (lim F pr).loop = loop at *; generalize Ops.std = o at *; generalize b6_0 = c0 at *
  cases o; try dsimp only at *
  cbv
  all_goals (try rw [h1]); all_goals (try cbv)
  all_goals (try rw [h2]); all_goals (try cbv)
  all_goals (try rw [h3]); all_goals (try cbv)
  all_goals (try rw [h4]); all_goals (try cbv)
  all_goals (try rw [h5]); all_goals (try cbv)
  all_goals (try rw [h6]); all_goals (try cbv)
  all_goals (try rw [h7]); all_goals (try cbv)
  all_goals (try rw [h8]); all_goals (try cbv)
  all_goals (try rw [h9]); all_goals (try cbv)
  all_goals (try rw [h10]); all_goals (try cbv)
  all_goals (try rw [h11]); all_goals (try cbv)
  all_goals (try rw [h12]); all_goals (try cbv)
  all_goals (try rw [h13]); all_goals (try cbv)
  all_goals (try rw [h14]); all_goals (try cbv)
  all_goals (try rw [h15]); all_goals (try cbv)
  all_goals (try rw [h16]); all_goals (try cbv)
  all_goals (try rw [h17]); all_goals (try cbv)
  all_goals (try rw [h18]); all_goals (try cbv)
  all_goals (try rw [h19]); all_goals (try cbv)
  all_goals (try rw [h20]); all_goals (try cbv)
  all_goals (try rw [h21]); all_goals (try cbv)
  all_goals (try rw [h22]); all_goals (try cbv)

theorem p6_8 (h1 : Ops.std.ilt 300 (Ops.std.slen x1) = false) (h2 : (lim F pr).call 28 [a45 0 0 ⟨#[]⟩ [] x2, vI 1] [] = some (vF r, [])) (h3 : r = false) (h4 : (lim F pr).call 28 [a45 x3_kind x3_n x3_s x3_keys x3_kids, vI 1] [] = some (vF r1, [])) (h5 : r1 = false) (h6 : (lim F pr).call 31 [vI x0] [] = some (a45 r_kind r_n r_s r_keys r_kids, [])) (h7 : (lim F pr).call 32 [vT x1] [] = some (a45 r_kind1 r_n1 r_s1 r_keys1 r_kids1, [])) (h8 : (lim F pr).call 30 [.lit 45 false x2] [] = some (a45 r_kind2 r_n2 r_s2 r_keys2 r_kids2, [])) (h9 : (lim F pr).call 33 [] [] = some (a45 r_kind3 r_n3 r_s3 r_keys3 r_kids3, [])) (h10 : (lim F pr).call 30 [.lit 45 false [a45 r_kind r_n r_s r_keys r_kids, a45 r_kind1 r_n1 r_s1 r_keys1 r_kids1, a45 r_kind2 r_n2 r_s2 r_keys2 r_kids2, a45 r_kind3 r_n3 r_s3 r_keys3 r_kids3]] [] = some (a45 r_kind4 r_n4 r_s4 r_keys4 r_kids4, [])) (h11 : (lim F pr).call 34 [a45 x3_kind x3_n x3_s x3_keys x3_kids] [] = some (.agg [vI r_kind5, vI r_n5, vT r_s5, .sl 0 0, .sl 1 0], [.row 9 0 false r_keys5, .row 45 0 false r_kids5])) (h12 : (lim F pr).call 35 [a45 r_kind5 r_n5 r_s5 r_keys5 r_kids5, a45 x3_kind x3_n x3_s x3_keys x3_kids] [] = some (vF r2, [])) (h13 : r2 = true) (h14 : (lim F pr).call 35 [a45 3 0 ⟨#[]⟩ [] [a45 1 x0 ⟨#[]⟩ [] [], a45 2 0 x1 [] [], a45 3 0 ⟨#[]⟩ [] x2, a45 4 0 ⟨#[]⟩ [] []], a45 r_kind4 r_n4 r_s4 r_keys4 r_kids4] [] = some (vF r3, [])) (h15 : r3 = true) (h16 : (lim F pr).call 36 [a45 3 0 ⟨#[]⟩ [] [a45 1 x0 ⟨#[]⟩ [] [], a45 2 0 x1 [] [], a45 3 0 ⟨#[]⟩ [] x2, a45 4 0 ⟨#[]⟩ [] []], a45 x3_kind x3_n x3_s x3_keys x3_kids] [] = some (vF r4, [])) (h17 : (lim F pr).call 35 [a45 3 0 ⟨#[]⟩ [] [a45 1 x0 ⟨#[]⟩ [] [], a45 2 0 x1 [] [], a45 3 0 ⟨#[]⟩ [] x2, a45 4 0 ⟨#[]⟩ [] []], a45 x3_kind x3_n x3_s x3_keys x3_kids] [] = some (vF r5, [])) (h18 : Ops.std.beq r4 r5 = false) (h19 : (lim F pr).loop [13, 12, 11, 7] 6 b6_0 (H6_0_0 x3_kind x3_n x3_s x3_keys x3_kids r_kind4 r_n4 r_s4 r_keys4 r_kids4 r_kind5 r_n5 r_s5 r_keys5 false 0 [a45 1 x0 ⟨#[]⟩ [] [], a45 2 0 x1 [] [], a45 3 0 ⟨#[]⟩ [] x2, a45 4 0 ⟨#[]⟩ [] []] r_kids5) = some (W6_0_0 x3_kind x3_n x3_s x3_keys x3_kids r_kind4 r_n4 r_s4 r_keys4 r_kids4 r_kind5 r_n5 r_s5 r_keys5 t12o e1co e4ao)) (h20 : t12o = false) : runFn (lim F pr) g6 [vI x0, vT x1, .lit 45 false x2, a45 x3_kind x3_n x3_s x3_keys x3_kids] [] = some (vF false, []) := by
  show runFn ⟨Ops.std, (lim F pr).call, (lim F pr).loop, pr⟩ (g6F b6_0) _ _ = _
  generalize (lim F pr).call = call at *; generalize (lim F pr).loop = loop at *; generalize Ops.std = o at *; generalize b6_0 = c0 at *
  cases o; try dsimp only at *
  cbv
  all_goals (try rw [h1]); all_goals (try cbv)
  all_goals (try rw [h2]); all_goals (try cbv)
  all_goals (try rw [h3]); all_goals (try cbv)
  all_goals (try rw [h4]); all_goals (try cbv)
  all_goals (try rw [h5]); all_goals (try cbv)
  all_goals (try rw [h6]); all_goals (try cbv)
  all_goals (try rw [h7]); all_goals (try cbv)
  all_goals (try rw [h8]); all_goals (try cbv)
  all_goals (try rw [h9]); all_goals (try cbv)
  all_goals (try rw [h10]); all_goals (try cbv)
  all_goals (try rw [h11]); all_goals (try cbv)
  all_goals (try rw [h12]); all_goals (try cbv)
  all_goals (try rw [h13]); all_goals (try cbv)
  all_goals (try rw [h14]); all_goals (try cbv)
  all_goals (try rw [h15]); all_goals (try cbv)
  all_goals (try rw [h16]); all_goals (try cbv)
  all_goals (try rw [h17]); all_goals (try cbv)
  all_goals (try rw [h18]); all_goals (try cbv)
  all_goals (try rw [h19]); all_goals (try cbv)
  all_goals (try rw [h20]); all_goals (try cbv)

theorem p6_9 (h1 : Ops.std.ilt 300 (Ops.std.slen x1) = false) (h2 : (lim F pr).call 28 [a45 0 0 ⟨#[]⟩ [] x2, vI 1] [] = some (vF r, [])) (h3 : r = false) (h4 : (lim F pr).call 28 [a45 x3_kind x3_n x3_s x3_keys x3_kids, vI 1] [] = some (vF r1, [])) (h5 : r1 = false) (h6 : (lim F pr).call 31 [vI x0] [] = some (a45 r_kind r_n r_s r_keys r_kids, [])) (h7 : (lim F pr).call 32 [vT x1] [] = some (a45 r_kind1 r_n1 r_s1 r_keys1 r_kids1, [])) (h8 : (lim F pr).call 30 [.lit 45 false x2] [] = some (a45 r_kind2 r_n2 r_s2 r_keys2 r_kids2, [])) (h9 : (lim F pr).call 33 [] [] = some (a45 r_kind3 r_n3 r_s3 r_keys3 r_kids3, [])) (h10 : (lim F pr).call 30 [.lit 45 false [a45 r_kind r_n r_s r_keys r_kids, a45 r_kind1 r_n1 r_s1 r_keys1 r_kids1, a45 r_kind2 r_n2 r_s2 r_keys2 r_kids2, a45 r_kind3 r_n3 r_s3 r_keys3 r_kids3]] [] = some (a45 r_kind4 r_n4 r_s4 r_keys4 r_kids4, [])) (h11 : (lim F pr).call 34 [a45 x3_kind x3_n x3_s x3_keys x3_kids] [] = some (.agg [vI r_kind5, vI r_n5, vT r_s5, .sl 0 0, .sl 1 0], [.row 9 0 false r_keys5, .row 45 0 false r_kids5])) (h12 : (lim F pr).call 35 [a45 r_kind5 r_n5 r_s5 r_keys5 r_kids5, a45 x3_kind x3_n x3_s x3_keys x3_kids] [] = some (vF r2, [])) (h13 : r2 = true) (h14 : (lim F pr).call 35 [a45 3 0 ⟨#[]⟩ [] [a45 1 x0 ⟨#[]⟩ [] [], a45 2 0 x1 [] [], a45 3 0 ⟨#[]⟩ [] x2, a45 4 0 ⟨#[]⟩ [] []], a45 r_kind4 r_n4 r_s4 r_keys4 r_kids4] [] = some (vF r3, [])) (h15 : r3 = false) (h16 : (lim F pr).loop [13, 12, 11, 7] 6 b6_0 (H6_0_0 x3_kind x3_n x3_s x3_keys x3_kids r_kind4 r_n4 r_s4 r_keys4 r_kids4 r_kind5 r_n5 r_s5 r_keys5 false 0 [a45 1 x0 ⟨#[]⟩ [] [], a45 2 0 x1 [] [], a45 3 0 ⟨#[]⟩ [] x2, a45 4 0 ⟨#[]⟩ [] []] r_kids5) = some (W6_0_0 x3_kind x3_n x3_s x3_keys x3_kids r_kind4 r_n4 r_s4 r_keys4 r_kids4 r_kind5 r_n5 r_s5 r_keys5 t12o e1co e4ao)) (h17 : t12o = true) (h18 : (lim F pr).call 36 [a45 r_kind5 r_n5 r_s5 r_keys5 e4ao, a45 x3_kind x3_n x3_s x3_keys x3_kids] [] = some (vF r4, [])) (h19 : Ops.std.beq r4 (Ops.std.ieq (Ops.std.llen x3_kids) 0) = true) (h20 : (lim F pr).call 29 [] [] = some (vF r5, [])) : runFn (lim F pr) g6 [vI x0, vT x1, .lit 45 false x2, a45 x3_kind x3_n x3_s x3_keys x3_kids] [] = some (vF r5, []) := by
  show runFn ⟨Ops.std, (lim F pr).call, (lim F pr).loop, pr⟩ (g6F b6_0) _ _ = _
  generalize (lim F pr).call = call at *; generalize (lim F pr).loop = loop at *; generalize Ops.std = o at *; generalize b6_0 = c0 at *
  cases o; try dsimp only at *
  cbv
  all_goals (try rw [h1]); all_goals (try cbv)
  all_goals (try rw [h2]); all_goals (try cbv)
  all_goals (try rw [h3]); all_goals (try cbv)
  all_goals (try rw [h4]); all_goals (try cbv)
  all_goals (try rw [h5]); all_goals (try cbv)
  all_goals (try rw [h6]); all_goals (try cbv)
  all_goals (try rw [h7]); all_goals (try cbv)
  all_goals (try rw [h8]); all_goals (try cbv)
  all_goals (try rw [h9]); all_goals (try cbv)
  all_goals (try rw [h10]); all_goals (try cbv)
  all_goals (try rw [h11]); all_goals (try cbv)
  all_goals (try rw [h12]); all_goals (try cbv)
  all_goals (try rw [h13]); all_goals (try cbv)
  all_goals (try rw [h14]); all_goals (try cbv)
  all_goals (try rw [h15]); all_goals (try cbv)
  all_goals (try rw [h16]); all_goals (try cbv)
  all_goals (try rw [h17]); all_goals (try cbv)
  all_goals (try rw [h18]); all_goals (try cbv)
  all_goals (try rw [h19]); all_goals (try cbv)
  all_goals (try rw [h20]); all_goals (try cbv)

theorem p6_10 (h1 : Ops.std.ilt 300 (Ops.std.slen x1) = false) (h2 : (lim F pr).call 28 [a45 0 0 ⟨#[]⟩ [] x2, vI 1] [] = some (vF r, [])) (h3 : r = false) (h4 : (lim F pr).call 28 [a45 x3_kind x3_n x3_s x3_keys x3_kids, vI 1] [] = some (vF r1, [])) (h5 : r1 = false) (h6 : (lim F pr).call 31 [vI x0] [] = some (a45 r_kind r_n r_s r_keys r_kids, [])) (h7 : (lim F pr).call 32 [vT x1] [] = some (a45 r_kind1 r_n1 r_s1 r_keys1 r_kids1, [])) (h8 : (lim F pr).call 30 [.lit 45 false x2] [] = some (a45 r_kind2 r_n2 r_s2 r_keys2 r_kids2, [])) (h9 : (lim F pr).call 33 [] [] = some (a45 r_kind3 r_n3 r_s3 r_keys3 r_kids3, [])) (h10 : (lim F pr).call 30 [.lit 45 false [a45 r_kind r_n r_s r_keys r_kids, a45 r_kind1 r_n1 r_s1 r_keys1 r_kids1, a45 r_kind2 r_n2 r_s2 r_keys2 r_kids2, a45 r_kind3 r_n3 r_s3 r_keys3 r_kids3]] [] = some (a45 r_kind4 r_n4 r_s4 r_keys4 r_kids4, [])) (h11 : (lim F pr).call 34 [a45 x3_kind x3_n x3_s x3_keys x3_kids] [] = some (.agg [vI r_kind5, vI r_n5, vT r_s5, .sl 0 0, .sl 1 0], [.row 9 0 false r_keys5, .row 45 0 false r_kids5])) (h12 : (lim F pr).call 35 [a45 r_kind5 r_n5 r_s5 r_keys5 r_kids5, a45 x3_kind x3_n x3_s x3_keys x3_kids] [] = some (vF r2, [])) (h13 : r2 = true) (h14 : (lim F pr).call 35 [a45 3 0 ⟨#[]⟩ [] [a45 1 x0 ⟨#[]⟩ [] [], a45 2 0 x1 [] [], a45 3 0 ⟨#[]⟩ [] x2, a45 4 0 ⟨#[]⟩ [] []], a45 r_kind4 r_n4 r_s4 r_keys4 r_kids4] [] = some (vF r3, [])) (h15 : r3 = false) (h16 : (lim F pr).loop [13, 12, 11, 7] 6 b6_0 (H6_0_0 x3_kind x3_n x3_s x3_keys x3_kids r_kind4 r_n4 r_s4 r_keys4 r_kids4 r_kind5 r_n5 r_s5 r_keys5 false 0 [a45 1 x0 ⟨#[]⟩ [] [], a45 2 0 x1 [] [], a45 3 0 ⟨#[]⟩ [] x2, a45 4 0 ⟨#[]⟩ [] []] r_kids5) = some (W6_0_0 x3_kind x3_n x3_s x3_keys x3_kids r_kind4 r_n4 r_s4 r_keys4 r_kids4 r_kind5 r_n5 r_s5 r_keys5 t12o e1co e4ao)) (h17 : t12o = true) (h18 : (lim F pr).call 36 [a45 r_kind5 r_n5 r_s5 r_keys5 e4ao, a45 x3_kind x3_n x3_s x3_keys x3_kids] [] = some (vF r4, [])) (h19 : Ops.std.beq r4 (Ops.std.ieq (Ops.std.llen x3_kids) 0) = false) : runFn (lim F pr) g6 [vI x0, vT x1, .lit 45 false x2, a45 x3_kind x3_n x3_s x3_keys x3_kids] [] = some (vF false, []) := by
  show runFn ⟨Ops.std, (lim F pr).call, (lim F pr).loop, pr⟩ (g6F b6_0) _ _ = _
  generalize (lim F pr).call = call at *; generalize (lim F pr).loop = loop at *; generalize Ops.std = o at *; generalize b6_0 = c0 at *
  cases o; try dsimp only at *
  cbv
  all_goals (try rw [h1]); all_goals (try cbv)
  all_goals (try rw [h2]); all_goals (try cbv)
  all_goals (try rw [h3]); all_goals (try cbv)
  all_goals (try rw [h4]); all_goals (try cbv)
  all_goals (try rw [h5]); all_goals (try cbv)
  all_goals (try rw [h6]); all_goals (try cbv)
  all_goals (try rw [h7]); all_goals (try cbv)
  all_goals (try rw [h8]); all_goals (try cbv)
  all_goals (try rw [h9]); all_goals (try cbv)
  all_goals (try rw [h10]); all_goals (try cbv)
  all_goals (try rw [h11]); all_goals (try cbv)
  all_goals (try rw [h12]); all_goals (try cbv)
  all_goals (try rw [h13]); all_goals (try cbv)
  all_goals (try rw [h14]); all_goals (try cbv)
  all_goals (try rw [h15]); all_goals (try cbv)
  all_goals (try rw [h16]); all_goals (try cbv)
  all_goals (try rw [h17]); all_goals (try cbv)
  all_goals (try rw [h18]); all_goals (try cbv)
  all_goals (try rw [h19]); all_goals (try cbv)

theorem p6_11 (h1 : Ops.std.ilt 300 (Ops.std.slen x1) = false) (h2 : (lim F pr).call 28 [a45 0 0 ⟨#[]⟩ [] x2, vI 1] [] = some (vF r, [])) (h3 : r = false) (h4 : (lim F pr).call 28 [a45 x3_kind x3_n x3_s x3_keys x3_kids, vI 1] [] = some (vF r1, [])) (h5 : r1 = false) (h6 : (lim F pr).call 31 [vI x0] [] = some (a45 r_kind r_n r_s r_keys r_kids, [])) (h7 : (lim F pr).call 32 [vT x1] [] = some (a45 r_kind1 r_n1 r_s1 r_keys1 r_kids1, [])) (h8 : (lim F pr).call 30 [.lit 45 false x2] [] = some (a45 r_kind2 r_n2 r_s2 r_keys2 r_kids2, [])) (h9 : (lim F pr).call 33 [] [] = some (a45 r_kind3 r_n3 r_s3 r_keys3 r_kids3, [])) (h10 : (lim F pr).call 30 [.lit 45 false [a45 r_kind r_n r_s r_keys r_kids, a45 r_kind1 r_n1 r_s1 r_keys1 r_kids1, a45 r_kind2 r_n2 r_s2 r_keys2 r_kids2, a45 r_kind3 r_n3 r_s3 r_keys3 r_kids3]] [] = some (a45 r_kind4 r_n4 r_s4 r_keys4 r_kids4, [])) (h11 : (lim F pr).call 34 [a45 x3_kind x3_n x3_s x3_keys x3_kids] [] = some (.agg [vI r_kind5, vI r_n5, vT r_s5, .sl 0 0, .sl 1 0], [.row 9 0 false r_keys5, .row 45 0 false r_kids5])) (h12 : (lim F pr).call 35 [a45 r_kind5 r_n5 r_s5 r_keys5 r_kids5, a45 x3_kind x3_n x3_s x3_keys x3_kids] [] = some (vF r2, [])) (h13 : r2 = true) (h14 : (lim F pr).call 35 [a45 3 0 ⟨#[]⟩ [] [a45 1 x0 ⟨#[]⟩ [] [], a45 2 0 x1 [] [], a45 3 0 ⟨#[]⟩ [] x2, a45 4 0 ⟨#[]⟩ [] []], a45 r_kind4 r_n4 r_s4 r_keys4 r_kids4] [] = some (vF r3, [])) (h15 : r3 = false) (h16 : (lim F pr).loop [13, 12, 11, 7] 6 b6_0 (H6_0_0 x3_kind x3_n x3_s x3_keys x3_kids r_kind4 r_n4 r_s4 r_keys4 r_kids4 r_kind5 r_n5 r_s5 r_keys5 false 0 [a45 1 x0 ⟨#[]⟩ [] [], a45 2 0 x1 [] [], a45 3 0 ⟨#[]⟩ [] x2, a45 4 0 ⟨#[]⟩ [] []] r_kids5) = some (W6_0_0 x3_kind x3_n x3_s x3_keys x3_kids r_kind4 r_n4 r_s4 r_keys4 r_kids4 r_kind5 r_n5 r_s5 r_keys5 t12o e1co e4ao)) (h17 : t12o = false) : runFn (lim F pr) g6 [vI x0, vT x1, .lit 45 false x2, a45 x3_kind x3_n x3_s x3_keys x3_kids] [] = some (vF false, []) := by
  show runFn ⟨Ops.std, (lim F pr).call, (lim F pr).loop, pr⟩ (g6F b6_0) _ _ = _
  generalize (lim F pr).call = call at *; generalize (lim F pr).loop = loop at *; generalize Ops.std = o at *; generalize b6_0 = c0 at *
  cases o; try dsimp only at *
  cbv
  all_goals (try rw [h1]); all_goals (try cbv)
  all_goals (try rw [h2]); all_goals (try cbv)
  all_goals (try rw [h3]); all_goals (try cbv)
  all_goals (try rw [h4]); all_goals (try cbv)
  all_goals (try rw [h5]); all_goals (try cbv)
  all_goals (try rw [h6]); all_goals (try cbv)
  all_goals (try rw [h7]); all_goals (try cbv)
  all_goals (try rw [h8]); all_goals (try cbv)
  all_goals (try rw [h9]); all_goals (try cbv)
  all_goals (try rw [h10]); all_goals (try cbv)
  all_goals (try rw [h11]); all_goals (try cbv)
  all_goals (try rw [h12]); all_goals (try cbv)
  all_goals (try rw [h13]); all_goals (try cbv)
  all_goals (try rw [h14]); all_goals (try cbv)
  all_goals (try rw [h15]); all_goals (try cbv)
  all_goals (try rw [h16]); all_goals (try cbv)
  all_goals (try rw [h17]); all_goals (try cbv)

theorem p6_12 (h1 : Ops.std.ilt 300 (Ops.std.slen x1) = false) (h2 : (lim F pr).call 28 [a45 0 0 ⟨#[]⟩ [] x2, vI 1] [] = some (vF r, [])) (h3 : r = false) (h4 : (lim F pr).call 28 [a45 x3_kind x3_n x3_s x3_keys x3_kids, vI 1] [] = some (vF r1, [])) (h5 : r1 = false) (h6 : (lim F pr).call 31 [vI x0] [] = some (a45 r_kind r_n r_s r_keys r_kids, [])) (h7 : (lim F pr).call 32 [vT x1] [] = some (a45 r_kind1 r_n1 r_s1 r_keys1 r_kids1, [])) (h8 : (lim F pr).call 30 [.lit 45 false x2] [] = some (a45 r_kind2 r_n2 r_s2 r_keys2 r_kids2, [])) (h9 : (lim F pr).call 33 [] [] = some (a45 r_kind3 r_n3 r_s3 r_keys3 r_kids3, [])) (h10 : (lim F pr).call 30 [.lit 45 false [a45 r_kind r_n r_s r_keys r_kids, a45 r_kind1 r_n1 r_s1 r_keys1 r_kids1, a45 r_kind2 r_n2 r_s2 r_keys2 r_kids2, a45 r_kind3 r_n3 r_s3 r_keys3 r_kids3]] [] = some (a45 r_kind4 r_n4 r_s4 r_keys4 r_kids4, [])) (h11 : (lim F pr).call 34 [a45 x3_kind x3_n x3_s x3_keys x3_kids] [] = some (.agg [vI r_kind5, vI r_n5, vT r_s5, .sl 0 0, .sl 1 0], [.row 9 0 false r_keys5, .row 45 0 false r_kids5])) (h12 : (lim F pr).call 35 [a45 r_kind5 r_n5 r_s5 r_keys5 r_kids5, a45 x3_kind x3_n x3_s x3_keys x3_kids] [] = some (vF r2, [])) (h13 : r2 = false) (h14 : (lim F pr).loop [13, 12, 11, 7] 6 b6_0 (H6_0_0 x3_kind x3_n x3_s x3_keys x3_kids r_kind4 r_n4 r_s4 r_keys4 r_kids4 r_kind5 r_n5 r_s5 r_keys5 false 0 [a45 1 x0 ⟨#[]⟩ [] [], a45 2 0 x1 [] [], a45 3 0 ⟨#[]⟩ [] x2, a45 4 0 ⟨#[]⟩ [] []] r_kids5) = some (W6_0_0 x3_kind x3_n x3_s x3_keys x3_kids r_kind4 r_n4 r_s4 r_keys4 r_kids4 r_kind5 r_n5 r_s5 r_keys5 t12o e1co e4ao)) (h15 : t12o = true) (h16 : (lim F pr).call 36 [a45 r_kind5 r_n5 r_s5 r_keys5 e4ao, a45 x3_kind x3_n x3_s x3_keys x3_kids] [] = some (vF r3, [])) (h17 : Ops.std.beq r3 (Ops.std.ieq (Ops.std.llen x3_kids) 0) = true) (h18 : (lim F pr).call 29 [] [] = some (vF r4, [])) : runFn (lim F pr) g6 [vI x0, vT x1, .lit 45 false x2, a45 x3_kind x3_n x3_s x3_keys x3_kids] [] = some (vF r4, []) := by
  show runFn ⟨Ops.std, (lim F pr).call, (lim F pr).loop, pr⟩ (g6F b6_0) _ _ = _
  generalize (lim F pr).call = call at *; generalize (lim F pr).loop = loop at *; generalize Ops.std = o at *; generalize b6_0 = c0 at *
  cases o; try dsimp only at *
  cbv
  all_goals (try rw [h1]); all_goals (try cbv)
  all_goals (try rw [h2]); all_goals (try cbv)
  all_goals (try rw [h3]); all_goals (try cbv)
  all_goals (try rw [h4]); all_goals (try cbv)
  all_goals (try rw [h5]); all_goals (try cbv)
  all_goals (try rw [h6]); all_goals (try cbv)
  all_goals (try rw [h7]); all_goals (try cbv)
  all_goals (try rw [h8]); all_goals (try cbv)
  all_goals (try rw [h9]); all_goals (try cbv)
  all_goals (try rw [h10]); all_goals (try cbv)
  all_goals (try rw [h11]); all_goals (try cbv)
  all_goals (try rw [h12]); all_goals (try cbv)
  all_goals (try rw [h13]); all_goals (try cbv)
  all_goals (try rw [h14]); all_goals (try cbv)
  all_goals (try rw [h15]); all_goals (try cbv)
  all_goals (try rw [h16]); all_goals (try cbv)
  all_goals (try rw [h17]); all_goals (try cbv)
  all_goals (try rw [h18]); all_goals (try cbv)

theorem p6_13 (h1 : Ops.std.ilt 300 (Ops.std.slen x1) = false) (h2 : (lim F pr).call 28 [a45 0 0 ⟨#[]⟩ [] x2, vI 1] [] = some (vF r, [])) (h3 : r = false) (h4 : (lim F pr).call 28 [a45 x3_kind x3_n x3_s x3_keys x3_kids, vI 1] [] = some (vF r1, [])) (h5 : r1 = false) (h6 : (lim F pr).call 31 [vI x0] [] = some (a45 r_kind r_n r_s r_keys r_kids, [])) (h7 : (lim F pr).call 32 [vT x1] [] = some (a45 r_kind1 r_n1 r_s1 r_keys1 r_kids1, [])) (h8 : (lim F pr).call 30 [.lit 45 false x2] [] = some (a45 r_kind2 r_n2 r_s2 r_keys2 r_kids2, [])) (h9 : (lim F pr).call 33 [] [] = some (a45 r_kind3 r_n3 r_s3 r_keys3 r_kids3, [])) (h10 : (lim F pr).call 30 [.lit 45 false [a45 r_kind r_n r_s r_keys r_kids, a45 r_kind1 r_n1 r_s1 r_keys1 r_kids1, a45 r_kind2 r_n2 r_s2 r_keys2 r_kids2, a45 r_kind3 r_n3 r_s3 r_keys3 r_kids3]] [] = some (a45 r_kind4 r_n4 r_s4 r_keys4 r_kids4, [])) (h11 : (lim F pr).call 34 [a45 x3_kind x3_n x3_s x3_keys x3_kids] [] = some (.agg [vI r_kind5, vI r_n5, vT r_s5, .sl 0 0, .sl 1 0], [.row 9 0 false r_keys5, .row 45 0 false r_kids5])) (h12 : (lim F pr).call 35 [a45 r_kind5 r_n5 r_s5 r_keys5 r_kids5, a45 x3_kind x3_n x3_s x3_keys x3_kids] [] = some (vF r2, [])) (h13 : r2 = false) (h14 : (lim F pr).loop [13, 12, 11, 7] 6 b6_0 (H6_0_0 x3_kind x3_n x3_s x3_keys x3_kids r_kind4 r_n4 r_s4 r_keys4 r_kids4 r_kind5 r_n5 r_s5 r_keys5 false 0 [a45 1 x0 ⟨#[]⟩ [] [], a45 2 0 x1 [] [], a45 3 0 ⟨#[]⟩ [] x2, a45 4 0 ⟨#[]⟩ [] []] r_kids5) = some (W6_0_0 x3_kind x3_n x3_s x3_keys x3_kids r_kind4 r_n4 r_s4 r_keys4 r_kids4 r_kind5 r_n5 r_s5 r_keys5 t12o e1co e4ao)) (h15 : t12o = true) (h16 : (lim F pr).call 36 [a45 r_kind5 r_n5 r_s5 r_keys5 e4ao, a45 x3_kind x3_n x3_s x3_keys x3_kids] [] = some (vF r3, [])) (h17 : Ops.std.beq r3 (Ops.std.ieq (Ops.std.llen x3_kids) 0) = false) : runFn (lim F pr) g6 [vI x0, vT x1, .lit 45 false x2, a45 x3_kind x3_n x3_s x3_keys x3_kids] [] = some (vF false, []) := by
  show runFn ⟨Ops.std, (lim F pr).call, (lim F pr).loop, pr⟩ (g6F b6_0) _ _ = _
  generalize (lim F pr).call = call at *; generalize (lim F pr).loop = loop at *; generalize Ops.std = o at *; generalize b6_0 = c0 at *
  cases o; try dsimp only at *
  cbv
  all_goals (try rw [h1]); all_goals (try cbv)
  all_goals (try rw [h2]); all_goals (try cbv)
  all_goals (try rw [h3]); all_goals (try cbv)
  all_goals (try rw [h4]); all_goals (try cbv)
  all_goals (try rw [h5]); all_goals (try cbv)
  all_goals (try rw [h6]); all_goals (try cbv)
  all_goals (try rw [h7]); all_goals (try cbv)
  all_goals (try rw [h8]); all_goals (try cbv)
  all_goals (try rw [h9]); all_goals (try cbv)
  all_goals (try rw [h10]); all_goals (try cbv)
  all_goals (try rw [h11]); all_goals (try cbv)
  all_goals (try rw [h12]); all_goals (try cbv)
  all_goals (try rw [h13]); all_goals (try cbv)
  all_goals (try rw [h14]); all_goals (try cbv)
  all_goals (try rw [h15]); all_goals (try cbv)
  all_goals (try rw [h16]); all_goals (try cbv)
  all_goals (try rw [h17]); all_goals (try cbv)

theorem p6_14 (h1 : Ops.std.ilt 300 (Ops.std.slen x1) = false) (h2 : (lim F pr).call 28 [a45 0 0 ⟨#[]⟩ [] x2, vI 1] [] = some (vF r, [])) (h3 : r = false) (h4 : (lim F pr).call 28 [a45 x3_kind x3_n x3_s x3_keys x3_kids, vI 1] [] = some (vF r1, [])) (h5 : r1 = false) (h6 : (lim F pr).call 31 [vI x0] [] = some (a45 r_kind r_n r_s r_keys r_kids, [])) (h7 : (lim F pr).call 32 [vT x1] [] = some (a45 r_kind1 r_n1 r_s1 r_keys1 r_kids1, [])) (h8 : (lim F pr).call 30 [.lit 45 false x2] [] = some (a45 r_kind2 r_n2 r_s2 r_keys2 r_kids2, [])) (h9 : (lim F pr).call 33 [] [] = some (a45 r_kind3 r_n3 r_s3 r_keys3 r_kids3, [])) (h10 : (lim F pr).call 30 [.lit 45 false [a45 r_kind r_n r_s r_keys r_kids, a45 r_kind1 r_n1 r_s1 r_keys1 r_kids1, a45 r_kind2 r_n2 r_s2 r_keys2 r_kids2, a45 r_kind3 r_n3 r_s3 r_keys3 r_kids3]] [] = some (a45 r_kind4 r_n4 r_s4 r_keys4 r_kids4, [])) (h11 : (lim F pr).call 34 [a45 x3_kind x3_n x3_s x3_keys x3_kids] [] = some (.agg [vI r_kind5, vI r_n5, vT r_s5, .sl 0 0, .sl 1 0], [.row 9 0 false r_keys5, .row 45 0 false r_kids5])) (h12 : (lim F pr).call 35 [a45 r_kind5 r_n5 r_s5 r_keys5 r_kids5, a45 x3_kind x3_n x3_s x3_keys x3_kids] [] = some (vF r2, [])) (h13 : r2 = false) (h14 : (lim F pr).loop [13, 12, 11, 7] 6 b6_0 (H6_0_0 x3_kind x3_n x3_s x3_keys x3_kids r_kind4 r_n4 r_s4 r_keys4 r_kids4 r_kind5 r_n5 r_s5 r_keys5 false 0 [a45 1 x0 ⟨#[]⟩ [] [], a45 2 0 x1 [] [], a45 3 0 ⟨#[]⟩ [] x2, a45 4 0 ⟨#[]⟩ [] []] r_kids5) = some (W6_0_0 x3_kind x3_n x3_s x3_keys x3_kids r_kind4 r_n4 r_s4 r_keys4 r_kids4 r_kind5 r_n5 r_s5 r_keys5 t12o e1co e4ao)) (h15 : t12o = false) : runFn (lim F pr) g6 [vI x0, vT x1, .lit 45 false x2, a45 x3_kind x3_n x3_s x3_keys x3_kids] [] = some (vF false, []) := by
  show runFn ⟨Ops.std, (lim F pr).call, (lim F pr).loop, pr⟩ (g6F b6_0) _ _ = _
  generalize (lim F pr).call = call at *; generalize (lim F pr).loop = loop at *; generalize Ops.std = o at *; generalize b6_0 = c0 at *
  cases o; try dsimp only at *
  cbv
  all_goals (try rw [h1]); all_goals (try cbv)
  all_goals (try rw [h2]); all_goals (try cbv)
  all_goals (try rw [h3]); all_goals (try cbv)
  all_goals (try rw [h4]); all_goals (try cbv)
  all_goals (try rw [h5]); all_goals (try cbv)
  all_goals (try rw [h6]); all_goals (try cbv)
  all_goals (try rw [h7]); all_goals (try cbv)
  all_goals (try rw [h8]); all_goals (try cbv)
  all_goals (try rw [h9]); all_goals (try cbv)
  all_goals (try rw [h10]); all_goals (try cbv)
  all_goals (try rw [h11]); all_goals (try cbv)
  all_goals (try rw [h12]); all_goals (try cbv)
  all_goals (try rw [h13]); all_goals (try cbv)
  all_goals (try rw [h14]); all_goals (try cbv)
  all_goals (try rw [h15]); all_goals (try cbv)

theorem r6_0_0_0 (h1 : Ops.std.ilt t13 (Ops.std.llen e4a) = true) (h2 : Ops.std.lget e4a t13 = some (a45 x_kind x_n x_s x_keys x_kids)) : Ifc.round (lim F pr) [13, 12, 11, 7] 6 b6_0 (H6_0_0 x3_kind x3_n x3_s x3_keys x3_kids r_kind4 r_n4 r_s4 r_keys4 r_kids4 r_kind5 r_n5 r_s5 r_keys5 t12 t13 e1c e4a) = (lim F pr).loop [13, 12, 11, 7] 6 b6_0 (H6_0_0 x3_kind x3_n x3_s x3_keys x3_kids r_kind4 r_n4 r_s4 r_keys4 r_kids4 r_kind5 r_n5 r_s5 r_keys5 t12 (Ops.std.iadd .i64 t13 1) e1c ((Ops.std.lset e4a t13 (a45 (Ops.std.iadd .i64 x_kind 1) x_n x_s x_keys x_kids)))) := by
  show Ifc.round ⟨Ops.std, (lim F pr).call, (lim F pr).loop, pr⟩ _ _ (b6_0F) _ = (lim F pr).loop _ _ (b6_0F) _
  generalize (lim F pr).call = call at *; generalize (lim F pr).loop = loop at *; generalize Ops.std = o at *
  cases o; try dsimp only at *
  cbv
  all_goals (try rw [h1]); all_goals (try cbv)
  all_goals (try rw [h2]); all_goals (try cbv)
  all_goals (try rw [h2]); all_goals (try cbv)
  all_goals (try rw [h2]); all_goals (try cbv)
  all_goals (try rw [h2]); all_goals (try cbv)

theorem r6_0_0_1 (h1 : Ops.std.ilt t13 (Ops.std.llen e4a) = false) : Ifc.round (lim F pr) [13, 12, 11, 7] 6 b6_0 (H6_0_0 x3_kind x3_n x3_s x3_keys x3_kids r_kind4 r_n4 r_s4 r_keys4 r_kids4 r_kind5 r_n5 r_s5 r_keys5 t12 t13 e1c e4a) = some (W6_0_0 x3_kind x3_n x3_s x3_keys x3_kids r_kind4 r_n4 r_s4 r_keys4 r_kids4 r_kind5 r_n5 r_s5 r_keys5 t12 e1c e4a) := by
  show Ifc.round ⟨Ops.std, (lim F pr).call, (lim F pr).loop, pr⟩ _ _ (b6_0F) _ = _
  generalize (lim F pr).call = call at *; generalize (lim F pr).loop = loop at *; generalize Ops.std = o at *
  cases o; try dsimp only at *
  cbv
  all_goals (try rw [h1]); all_goals (try cbv)

end
end Go.Ab.Try
