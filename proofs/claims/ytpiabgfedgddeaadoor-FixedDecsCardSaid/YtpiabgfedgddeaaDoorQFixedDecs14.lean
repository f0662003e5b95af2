/- Our texts for this statement, merged: what its theorem leads to. -/
import Derived.Test.YtpiabgfedgddeaaDoorChecked
import Derived.Test.YtpiabgfedgddeaaDoorQFixedDecs13
namespace Go.Ab.Tryd
open Go Go.Ab Go.Proofs
set_option linter.unusedVariables false
set_option linter.unusedSimpArgs false
set_option maxRecDepth 10000
set_option maxHeartbeats 4000000
open Go.ChangeShapes Go.WideShapes
def Peer.Ok (x : Peer) : Prop := OkU x.id ∧ OkH x.addr
def Pair.Ok (x : Pair) : Prop := OkT x.key ∧ OkT x.val
def Msg.Ok (x : Msg) : Prop := OkI x.kind ∧ OkW x.rid ∧ OkB x.code ∧ OkF x.has ∧ OkU x.id ∧ OkT x.key ∧ OkT x.val ∧ Peer.Ok x.peer ∧ (OkL Peer.Ok) x.peers ∧ (OkL Pair.Ok) x.pairs
theorem rd51 {H : Type} {enc : TypeId × Value → H} {w : World} {base : Nat} {spare : Nat → Bool} {held : Bool} {fuel : Nat} {cs : List Value} {x : DataW H × List MemPlace} (h : DataW.trod enc Tryd.prog w base spare held fuel 51 cs = some x) : ∃ l, Rd Tryd.prog w (eL 5 vB) (OkL OkB) cs l :=
  rd_list (size := 1) Tryd.underlying51 (by kernel_rfl) (by omega) (fun a => rfl) h (fun n cs' y _ hy => rd_u8 Tryd.underlying5 hy)
theorem arg51 {H : Type} {enc : TypeId × Value → H} {w : World} {base : Nat} {spare : Nat → Bool} {held : Bool} {r : Reach} {b0 : Nat} {v : Value} {d : DataW H} {ps : List MemPlace} (hval : Value.okWide Tryd.prog w r b0 51 v) (h : DataW.Trod enc Tryd.prog w base spare held 51 v d ps) : ∃ l, DL Tryd.prog w (fun _ => False) [.lit 5 false (List.map vB l)] [v] ∧ (OkL OkB) l :=
  arg_list Tryd.underlying51 hval (let ⟨_, hf⟩ := h; rd51 hf)
end Go.Ab.Tryd
