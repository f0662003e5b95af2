/- Our texts for this statement, merged: what its theorem leads to. -/
import Derived.Test.YtpiabgfedgddeaaDoorChecked
import Derived.Test.YtpiabgfedgddeaaDoorQStore18
namespace Go.Ab.Tryd
open Go Go.Ab Go.Proofs
set_option linter.unusedVariables false
set_option linter.unusedSimpArgs false
set_option maxRecDepth 10000
set_option maxHeartbeats 4000000
open Go.ChangeShapes Go.WideShapes
def Pair.Ok (x : Pair) : Prop := OkT x.key ∧ OkT x.val
theorem rd41 {H : Type} {enc : TypeId × Value → H} {w : World} {base : Nat} {spare : Nat → Bool} {held : Bool} {fuel : Nat} {cs : List Value} {x : DataW H × List MemPlace} (h : DataW.trod enc Tryd.prog w base spare held fuel 41 cs = some x) : ∃ a, Rd Tryd.prog w ePair Pair.Ok cs a := by
  obtain ⟨xs, n, rfl, rfl, hl, hxl, hf⟩ := DataW.trod_struct Tryd.underlying41 h
  have hc : cs.length = 2 := hl.trans (by kernel_rfl)
  have hx : xs.length = 2 := hxl
  match cs, hc with
  | [c0, c1], _ =>
    match xs, hx with
    | [x0, x1], _ =>
      have h0 : DataW.trod enc Tryd.prog w base spare held n 9 [c0] = some x0 := hf 0 _ rfl
      obtain ⟨a0, d0, o0, k0⟩ := rd_string Tryd.underlying9 h0
      have h1 : DataW.trod enc Tryd.prog w base spare held n 9 [c1] = some x1 := hf 1 _ rfl
      obtain ⟨a1, d1, o1, k1⟩ := rd_string Tryd.underlying9 h1
      refine ⟨⟨a0, a1⟩, (d0.append d1), fun c hc => ?_, k0, k1⟩
      have hc : c ∈ (vT a0).cells ++ ((vT a1).cells) := hc
      simp only [List.mem_append] at hc
      rcases hc with hc | hc
      · exact o0 c hc
      · exact o1 c hc
theorem rd22 {H : Type} {enc : TypeId × Value → H} {w : World} {base : Nat} {spare : Nat → Bool} {held : Bool} {fuel : Nat} {cs : List Value} {x : DataW H × List MemPlace} (h : DataW.trod enc Tryd.prog w base spare held fuel 22 cs = some x) : ∃ l, Rd Tryd.prog w (eL 41 ePair) (OkL Pair.Ok) cs l :=
  rd_list (size := 2) Tryd.underlying22 (by kernel_rfl) (by omega) (fun a => rfl) h (fun n cs' y _ hy => rd41 hy)
theorem arg22 {H : Type} {enc : TypeId × Value → H} {w : World} {base : Nat} {spare : Nat → Bool} {held : Bool} {r : Reach} {b0 : Nat} {v : Value} {d : DataW H} {ps : List MemPlace} (hval : Value.okWide Tryd.prog w r b0 22 v) (h : DataW.Trod enc Tryd.prog w base spare held 22 v d ps) : ∃ l, DL Tryd.prog w (fun _ => False) [.lit 41 false (List.map ePair l)] [v] ∧ (OkL Pair.Ok) l :=
  arg_list Tryd.underlying22 hval (let ⟨_, hf⟩ := h; rd22 hf)
end Go.Ab.Tryd
