/- Our texts for this statement, merged: what its theorem leads to. -/
import Derived.Test.YtpiabgfedgddeaaDoorChecked
import Derived.Test.YtpiabgfedgddeaaDoorQFixedBack13
namespace Go.Ab.Tryd
open Go Go.Ab Go.Proofs
set_option linter.unusedVariables false
set_option linter.unusedSimpArgs false
set_option maxRecDepth 10000
set_option maxHeartbeats 4000000
open Go.ChangeShapes Go.WideShapes
def Peer.Ok (x : Peer) : Prop := OkU x.id ∧ OkH x.addr
theorem rd46 {H : Type} {enc : TypeId × Value → H} {w : World} {base : Nat} {spare : Nat → Bool} {held : Bool} {fuel : Nat} {cs : List Value} {x : DataW H × List MemPlace} (h : DataW.trod enc Tryd.prog w base spare held fuel 46 cs = some x) : ∃ a, Rd Tryd.prog w ePeer Peer.Ok cs a := by
  obtain ⟨xs, n, rfl, rfl, hl, hxl, hf⟩ := DataW.trod_struct Tryd.underlying46 h
  have hc : cs.length = 2 := hl.trans (by kernel_rfl)
  have hx : xs.length = 2 := hxl
  match cs, hc with
  | [c0, c1], _ =>
    match xs, hx with
    | [x0, x1], _ =>
      have h0 : DataW.trod enc Tryd.prog w base spare held n 32 [c0] = some x0 := hf 0 _ rfl
      obtain ⟨a0, d0, o0, k0⟩ := rd_u64 Tryd.underlying32 h0
      have h1 : DataW.trod enc Tryd.prog w base spare held n 44 [c1] = some x1 := hf 1 _ rfl
      obtain ⟨a1, d1, o1, k1⟩ := rd_u16 Tryd.underlying44 h1
      refine ⟨⟨a0, a1⟩, (d0.append d1), fun c hc => ?_, k0, k1⟩
      have hc : c ∈ (vU a0).cells ++ ((vH a1).cells) := hc
      simp only [List.mem_append] at hc
      rcases hc with hc | hc
      · exact o0 c hc
      · exact o1 c hc
def Pair.Ok (x : Pair) : Prop := OkT x.key ∧ OkT x.val
theorem rd41 {H : Type} {enc : TypeId × Value → H} {w : World} {base : Nat} {spare : Nat → Bool} {held : Bool} {fuel : Nat} {cs : List Value} {x : DataW H × List MemPlace} (h : DataW.trod enc Tryd.prog w base spare held fuel 41 cs = some x) : ∃ a, Rd Tryd.prog w ePair Pair.Ok cs a := by
  obtain ⟨xs, n, rfl, rfl, hl, hxl, hf⟩ := DataW.trod_struct Tryd.underlying41 h
  have hc : cs.length = 2 := hl.trans (by kernel_rfl)
  have hx : xs.length = 2 := hxl
  match cs, hc with
  | [c0, c1], _ =>
    match xs, hx with
    | [x0, x1], _ =>
      have h0 : DataW.trod enc Tryd.prog w base spare held n 9 [c0] = some x0 := hf 0 _ rfl
      obtain ⟨a0, d0, o0, k0⟩ := rd_string Tryd.underlying9 h0
      have h1 : DataW.trod enc Tryd.prog w base spare held n 9 [c1] = some x1 := hf 1 _ rfl
      obtain ⟨a1, d1, o1, k1⟩ := rd_string Tryd.underlying9 h1
      refine ⟨⟨a0, a1⟩, (d0.append d1), fun c hc => ?_, k0, k1⟩
      have hc : c ∈ (vT a0).cells ++ ((vT a1).cells) := hc
      simp only [List.mem_append] at hc
      rcases hc with hc | hc
      · exact o0 c hc
      · exact o1 c hc
theorem rd47 {H : Type} {enc : TypeId × Value → H} {w : World} {base : Nat} {spare : Nat → Bool} {held : Bool} {fuel : Nat} {cs : List Value} {x : DataW H × List MemPlace} (h : DataW.trod enc Tryd.prog w base spare held fuel 47 cs = some x) : ∃ l, Rd Tryd.prog w (eL 46 ePeer) (OkL Peer.Ok) cs l :=
  rd_list (size := 2) Tryd.underlying47 (by kernel_rfl) (by omega) (fun a => rfl) h (fun n cs' y _ hy => rd46 hy)
theorem rd22 {H : Type} {enc : TypeId × Value → H} {w : World} {base : Nat} {spare : Nat → Bool} {held : Bool} {fuel : Nat} {cs : List Value} {x : DataW H × List MemPlace} (h : DataW.trod enc Tryd.prog w base spare held fuel 22 cs = some x) : ∃ l, Rd Tryd.prog w (eL 41 ePair) (OkL Pair.Ok) cs l :=
  rd_list (size := 2) Tryd.underlying22 (by kernel_rfl) (by omega) (fun a => rfl) h (fun n cs' y _ hy => rd41 hy)
def Msg.Ok (x : Msg) : Prop := OkI x.kind ∧ OkW x.rid ∧ OkB x.code ∧ OkF x.has ∧ OkU x.id ∧ OkT x.key ∧ OkT x.val ∧ Peer.Ok x.peer ∧ (OkL Peer.Ok) x.peers ∧ (OkL Pair.Ok) x.pairs
theorem rd49 {H : Type} {enc : TypeId × Value → H} {w : World} {base : Nat} {spare : Nat → Bool} {held : Bool} {fuel : Nat} {cs : List Value} {x : DataW H × List MemPlace} (h : DataW.trod enc Tryd.prog w base spare held fuel 49 cs = some x) : ∃ a, Rd Tryd.prog w eMsg Msg.Ok cs a := by
  obtain ⟨xs, n, rfl, rfl, hl, hxl, hf⟩ := DataW.trod_struct Tryd.underlying49 h
  have hc : cs.length = 11 := hl.trans (by kernel_rfl)
  have hx : xs.length = 10 := hxl
  match cs, hc with
  | [c0, c1, c2, c3, c4, c5, c6, c7, c8, c9, c10], _ =>
    match xs, hx with
    | [x0, x1, x2, x3, x4, x5, x6, x7, x8, x9], _ =>
      have h0 : DataW.trod enc Tryd.prog w base spare held n 3 [c0] = some x0 := hf 0 _ rfl
      obtain ⟨a0, d0, o0, k0⟩ := rd_i64 Tryd.underlying3 h0
      have h1 : DataW.trod enc Tryd.prog w base spare held n 43 [c1] = some x1 := hf 1 _ rfl
      obtain ⟨a1, d1, o1, k1⟩ := rd_u32 Tryd.underlying43 h1
      have h2 : DataW.trod enc Tryd.prog w base spare held n 5 [c2] = some x2 := hf 2 _ rfl
      obtain ⟨a2, d2, o2, k2⟩ := rd_u8 Tryd.underlying5 h2
      have h3 : DataW.trod enc Tryd.prog w base spare held n 4 [c3] = some x3 := hf 3 _ rfl
      obtain ⟨a3, d3, o3, k3⟩ := rd_bool Tryd.underlying4 h3
      have h4 : DataW.trod enc Tryd.prog w base spare held n 32 [c4] = some x4 := hf 4 _ rfl
      obtain ⟨a4, d4, o4, k4⟩ := rd_u64 Tryd.underlying32 h4
      have h5 : DataW.trod enc Tryd.prog w base spare held n 9 [c5] = some x5 := hf 5 _ rfl
      obtain ⟨a5, d5, o5, k5⟩ := rd_string Tryd.underlying9 h5
      have h6 : DataW.trod enc Tryd.prog w base spare held n 9 [c6] = some x6 := hf 6 _ rfl
      obtain ⟨a6, d6, o6, k6⟩ := rd_string Tryd.underlying9 h6
      have h7 : DataW.trod enc Tryd.prog w base spare held n 46 [c7, c8] = some x7 := hf 7 _ rfl
      obtain ⟨a7, d7, o7, k7⟩ := rd46 h7
      have h8 : DataW.trod enc Tryd.prog w base spare held n 47 [c9] = some x8 := hf 8 _ rfl
      obtain ⟨a8, d8, o8, k8⟩ := rd47 h8
      have h9 : DataW.trod enc Tryd.prog w base spare held n 22 [c10] = some x9 := hf 9 _ rfl
      obtain ⟨a9, d9, o9, k9⟩ := rd22 h9
      refine ⟨⟨a0, a1, a2, a3, a4, a5, a6, a7, a8, a9⟩, (d0.append (d1.append (d2.append (d3.append (d4.append (d5.append (d6.append (d7.append (d8.append d9))))))))), fun c hc => ?_, k0, k1, k2, k3, k4, k5, k6, k7, k8, k9⟩
      have hc : c ∈ (vI a0).cells ++ ((vW a1).cells ++ ((vB a2).cells ++ ((vF a3).cells ++ ((vU a4).cells ++ ((vT a5).cells ++ ((vT a6).cells ++ ((ePeer a7).cells ++ (((eL 46 ePeer) a8).cells ++ (((eL 41 ePair) a9).cells))))))))) := hc
      simp only [List.mem_append] at hc
      rcases hc with hc | hc | hc | hc | hc | hc | hc | hc | hc | hc
      · exact o0 c hc
      · exact o1 c hc
      · exact o2 c hc
      · exact o3 c hc
      · exact o4 c hc
      · exact o5 c hc
      · exact o6 c hc
      · exact o7 c hc
      · exact o8 c hc
      · exact o9 c hc
theorem arg49 {H : Type} {enc : TypeId × Value → H} {w : World} {base : Nat} {spare : Nat → Bool} {held : Bool} {r : Reach} {b0 : Nat} {v : Value} {d : DataW H} {ps : List MemPlace} (hval : Value.okWide Tryd.prog w r b0 49 v) (h : DataW.Trod enc Tryd.prog w base spare held 49 v d ps) : ∃ a, DL Tryd.prog w (fun _ => False) [eMsg a] [v] ∧ Msg.Ok a :=
  arg_struct (fun _ => ⟨_, rfl⟩) Tryd.underlying49 hval (let ⟨_, hf⟩ := h; rd49 hf)
theorem rd51 {H : Type} {enc : TypeId × Value → H} {w : World} {base : Nat} {spare : Nat → Bool} {held : Bool} {fuel : Nat} {cs : List Value} {x : DataW H × List MemPlace} (h : DataW.trod enc Tryd.prog w base spare held fuel 51 cs = some x) : ∃ l, Rd Tryd.prog w (eL 5 vB) (OkL OkB) cs l :=
  rd_list (size := 1) Tryd.underlying51 (by kernel_rfl) (by omega) (fun a => rfl) h (fun n cs' y _ hy => rd_u8 Tryd.underlying5 hy)
theorem arg51 {H : Type} {enc : TypeId × Value → H} {w : World} {base : Nat} {spare : Nat → Bool} {held : Bool} {r : Reach} {b0 : Nat} {v : Value} {d : DataW H} {ps : List MemPlace} (hval : Value.okWide Tryd.prog w r b0 51 v) (h : DataW.Trod enc Tryd.prog w base spare held 51 v d ps) : ∃ l, DL Tryd.prog w (fun _ => False) [.lit 5 false (List.map vB l)] [v] ∧ (OkL OkB) l :=
  arg_list Tryd.underlying51 hval (let ⟨_, hf⟩ := h; rd51 hf)
end Go.Ab.Tryd
