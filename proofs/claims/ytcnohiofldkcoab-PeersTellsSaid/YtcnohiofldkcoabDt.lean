/- What arguments read as, as typed data: printed by a program. -/
import Derived.Test.YtcnohiofldkcoabS0
import Derived.Test.YtcnohiofldkcoabAbData2
import Derived.Test.YtcnohiofldkcoabChecked
import Derived.KernelRfl
namespace Go.Ab.Try
open Go Go.Ab Go.Proofs
set_option linter.unusedVariables false
set_option linter.unusedSimpArgs false
set_option maxRecDepth 10000
open Go.ChangeShapes Go.WideShapes
def Peer.Ok (x : Peer) : Prop := OkU x.id ∧ OkH x.addr
theorem rd25 {H : Type} {enc : TypeId × Value → H} {w : World} {base : Nat} {spare : Nat → Bool} {held : Bool} {fuel : Nat} {cs : List Value} {x : DataW H × List MemPlace} (h : DataW.trod enc Try.prog w base spare held fuel 25 cs = some x) : ∃ a, Rd Try.prog w ePeer Peer.Ok cs a := by
  obtain ⟨xs, n, rfl, rfl, hl, hxl, hf⟩ := DataW.trod_struct Try.underlying25 h
  have hc : cs.length = 2 := hl.trans (by kernel_rfl)
  have hx : xs.length = 2 := hxl
  match cs, hc with
  | [c0, c1], _ =>
    match xs, hx with
    | [x0, x1], _ =>
      have h0 : DataW.trod enc Try.prog w base spare held n 22 [c0] = some x0 := hf 0 _ rfl
      obtain ⟨a0, d0, o0, k0⟩ := rd_u64 Try.underlying22 h0
      have h1 : DataW.trod enc Try.prog w base spare held n 23 [c1] = some x1 := hf 1 _ rfl
      obtain ⟨a1, d1, o1, k1⟩ := rd_u16 Try.underlying23 h1
      refine ⟨⟨a0, a1⟩, (d0.append d1), fun c hc => ?_, k0, k1⟩
      have hc : c ∈ (vU a0).cells ++ ((vH a1).cells) := hc
      simp only [List.mem_append] at hc
      rcases hc with hc | hc
      · exact o0 c hc
      · exact o1 c hc
theorem arg25 {H : Type} {enc : TypeId × Value → H} {w : World} {base : Nat} {spare : Nat → Bool} {held : Bool} {r : Reach} {b0 : Nat} {v : Value} {d : DataW H} {ps : List MemPlace} (hval : Value.okWide Try.prog w r b0 25 v) (h : DataW.Trod enc Try.prog w base spare held 25 v d ps) : ∃ a, DL Try.prog w (fun _ => False) [ePeer a] [v] ∧ Peer.Ok a :=
  arg_struct (fun _ => ⟨_, rfl⟩) Try.underlying25 hval (let ⟨_, hf⟩ := h; rd25 hf)
def Entry.Ok (x : Entry) : Prop := Peer.Ok x.peer ∧ OkI x.misses
theorem rd41 {H : Type} {enc : TypeId × Value → H} {w : World} {base : Nat} {spare : Nat → Bool} {held : Bool} {fuel : Nat} {cs : List Value} {x : DataW H × List MemPlace} (h : DataW.trod enc Try.prog w base spare held fuel 41 cs = some x) : ∃ a, Rd Try.prog w eEntry Entry.Ok cs a := by
  obtain ⟨xs, n, rfl, rfl, hl, hxl, hf⟩ := DataW.trod_struct Try.underlying41 h
  have hc : cs.length = 3 := hl.trans (by kernel_rfl)
  have hx : xs.length = 2 := hxl
  match cs, hc with
  | [c0, c1, c2], _ =>
    match xs, hx with
    | [x0, x1], _ =>
      have h0 : DataW.trod enc Try.prog w base spare held n 25 [c0, c1] = some x0 := hf 0 _ rfl
      obtain ⟨a0, d0, o0, k0⟩ := rd25 h0
      have h1 : DataW.trod enc Try.prog w base spare held n 3 [c2] = some x1 := hf 1 _ rfl
      obtain ⟨a1, d1, o1, k1⟩ := rd_i64 Try.underlying3 h1
      refine ⟨⟨a0, a1⟩, (d0.append d1), fun c hc => ?_, k0, k1⟩
      have hc : c ∈ (ePeer a0).cells ++ ((vI a1).cells) := hc
      simp only [List.mem_append] at hc
      rcases hc with hc | hc
      · exact o0 c hc
      · exact o1 c hc
theorem arg41 {H : Type} {enc : TypeId × Value → H} {w : World} {base : Nat} {spare : Nat → Bool} {held : Bool} {r : Reach} {b0 : Nat} {v : Value} {d : DataW H} {ps : List MemPlace} (hval : Value.okWide Try.prog w r b0 41 v) (h : DataW.Trod enc Try.prog w base spare held 41 v d ps) : ∃ a, DL Try.prog w (fun _ => False) [eEntry a] [v] ∧ Entry.Ok a :=
  arg_struct (fun _ => ⟨_, rfl⟩) Try.underlying41 hval (let ⟨_, hf⟩ := h; rd41 hf)
theorem rd26 {H : Type} {enc : TypeId × Value → H} {w : World} {base : Nat} {spare : Nat → Bool} {held : Bool} {fuel : Nat} {cs : List Value} {x : DataW H × List MemPlace} (h : DataW.trod enc Try.prog w base spare held fuel 26 cs = some x) : ∃ l, Rd Try.prog w (eL 41 eEntry) (OkL Entry.Ok) cs l :=
  rd_list (size := 3) Try.underlying26 (by kernel_rfl) (by omega) (fun a => rfl) h (fun n cs' y _ hy => rd41 hy)
theorem arg26 {H : Type} {enc : TypeId × Value → H} {w : World} {base : Nat} {spare : Nat → Bool} {held : Bool} {r : Reach} {b0 : Nat} {v : Value} {d : DataW H} {ps : List MemPlace} (hval : Value.okWide Try.prog w r b0 26 v) (h : DataW.Trod enc Try.prog w base spare held 26 v d ps) : ∃ l, DL Try.prog w (fun _ => False) [.lit 41 false (List.map eEntry l)] [v] ∧ (OkL Entry.Ok) l :=
  arg_list Try.underlying26 hval (let ⟨_, hf⟩ := h; rd26 hf)
end Go.Ab.Try
