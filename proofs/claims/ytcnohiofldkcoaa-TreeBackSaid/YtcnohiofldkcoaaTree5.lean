/- An argument that is a tree, as the interpreter's value. -/
import Derived.Test.YtcnohiofldkcoaaTree1
import Derived.Test.YtcnohiofldkcoaaAbData
import Derived.Test.YtcnohiofldkcoaaChecked
namespace Go.Ab.Try
open Go Go.Ab Go.Proofs
set_option linter.unusedVariables false

section
variable {H : Type} {enc : TypeId × Value → H} {w : World} {base : Nat} {spare : Nat → Bool} {held : Bool}

theorem tree_elem (fuel : Nat) : ∀ (cs : List Value) (x : DataW H × List MemPlace), DataW.trod enc Try.prog w base spare held fuel 32 cs = some x → ∃ xa, ElemAt Try.prog w 5 (fun v => ∃ t : Tr, v = encT t) cs xa := by
  induction fuel using Nat.strongRecOn with
  | ind fuel ih =>
    intro cs x h
    obtain ⟨xs, n, rfl, rfl, hl, hxl, hf⟩ := DataW.trod_struct Try.underlying32 h
    have hc5 : cs.length = 5 := hl.trans cells32
    have hx5 : xs.length = 5 := hxl
    match cs, hc5 with
    | [c0, c1, c2, c3, c4], _ =>
      match xs, hx5 with
      | [x0, x1, x2, x3, x4], _ =>
        have h0 : DataW.trod enc Try.prog w base spare held n 3 [c0] = some x0 := hf 0 _ rfl
        have h1 : DataW.trod enc Try.prog w base spare held n 2 [c1] = some x1 := hf 1 _ rfl
        have h2 : DataW.trod enc Try.prog w base spare held n 9 [c2] = some x2 := hf 2 _ rfl
        have h3 : DataW.trod enc Try.prog w base spare held n 29 [c3] = some x3 := hf 3 _ rfl
        have h4 : DataW.trod enc Try.prog w base spare held n 30 [c4] = some x4 := hf 4 _ rfl
        obtain ⟨k, e0, _⟩ := DataW.trod_int Try.underlying3 h0
        obtain ⟨nn, e1, _⟩ := DataW.trod_int Try.underlying2 h1
        obtain ⟨s, e2, _⟩ := DataW.trod_string Try.underlying9 h2
        obtain ⟨ks, v3, e3, d3, g3⟩ := slice_av (size := 1) (Good := fun v => ∃ s : ByteArray, v = .sc (.string s)) Try.underlying29 cells9 (by omega) h3 (fun m cs' y _ hy => by
          obtain ⟨xa, a1, a2, a3, s, a4, _⟩ := str_elem Try.underlying9 hy
          exact ⟨xa, a1, a2, a3, s, a4⟩)
        obtain ⟨ts, v4, e4, d4, g4⟩ := slice_av (size := 5) (Good := fun v => ∃ t : Tr, v = encT t) Try.underlying30 cells32 (by omega) h4 (fun m cs' y hm hy => ih m (by omega) cs' y hy)
        obtain ⟨keys, rfl⟩ := good_map (f := fun x : ByteArray => AV.sc (.string x)) ks g3
        obtain ⟨kids, rfl⟩ := good_map (f := encT) ts g4
        cases e0; cases e1; cases e2; cases e3; cases e4
        refine ⟨encT (.mk k nn s keys kids), ?_, ?_, ?_, _, rfl⟩
        · rw [encT_mk]
          exact DL.sc rfl (DL.sc rfl (DL.sc rfl (d3.append d4)))
        · rw [encT_mk]; rfl
        · rw [encT_mk]
          intro c hc
          simp only [AV.cells, List.mem_cons, List.mem_singleton, List.not_mem_nil, or_false] at hc
          rcases hc with rfl | rfl | rfl | rfl | rfl <;> rfl

theorem tree_arg {r : Reach} {b0 : Nat} {v : Value} {d : DataW H} {ps : List MemPlace} (hval : Value.okWide Try.prog w r b0 32 v) (h : DataW.Trod enc Try.prog w base spare held 32 v d ps) : ∃ t : Tr, DL Try.prog w (fun _ => False) [encT t] [v] := by
  unfold Value.okWide at hval
  rw [Try.underlying32] at hval
  obtain ⟨cs, rfl, _, _⟩ := hval
  obtain ⟨fuel, hf⟩ := h
  obtain ⟨xa, a1, _, _, t, rfl⟩ := tree_elem fuel _ _ hf
  refine ⟨t, ?_⟩
  obtain ⟨k, n, s, keys, kids⟩ := t
  rw [encT_mk] at a1 ⊢
  have := DL.agg a1 (r := []) (rs := []) .nil
  simpa [AV.cells, Value.cells] using this
end
end Go.Ab.Try
