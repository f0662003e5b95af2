/- A law that the interpreter answers with true is answered with true by a call, and nothing that was there has turned. -/
import Derived.Test.YtcnohiofldkcoabAbLim
import Derived.Below
namespace Go.Ab
open Go Go.RowKit

def startEnv (P : Program) (W : World) : Env where
  P := P
  w := W
  n := 0
  gen _ := none
  top _ := 0
  esz _ := 0
  row _ := undef
  box _ := 0
  own _ := False

theorem start_rel (P : Program) (W : World) : Rel W.heap.size [] (startEnv P W) where
  n := rfl
  le := Nat.le_refl _
  ent k e h := by simp at h
  nogen _ _ := rfl
  own k b h := by simp [blkOf] at h
  inj k j b h _ := by simp [blkOf] at h
  lt b h := h.elim

theorem calls_sc {P : Program} {F : FuncId → Option Fn} {pr : FuncId → Option Prim} (hm : P.follows .mixedOrders = true) (hF : ∀ f fn, F f = some fn → ∃ kmd fz, cmpFn P kmd fz f = some fn) (hPr : ∀ base f p, pr f = some p → PrimOk P base f p) {f : FuncId} {args : List AV} {h2 : Store} {u : Value} (h : (lim F pr).call f args [] = some (.sc u, h2)) (W : World) {vs : List Value} (hv : DL P W (fun _ => False) args vs) :
    Calls P f vs.toArray W fun e w' => e = .returned u ∧ Below W.heap.size W w' := by
  refine (lim_ok (base := W.heap.size) hm hF (hPr _) f args [] (.sc u) h2 h (startEnv P W) vs rfl (start_rel P W) (DL.vl hv)).mono fun e w' ⟨v, E', he, hw, R, S, V⟩ => ?_
  subst hw
  refine ⟨by rw [he, V.sc_inv.1], S.os, S.tape, S.output, S.size, fun k hk => S.heap k hk fun j hj => by simp [blkOf] at hj⟩
end Go.Ab
