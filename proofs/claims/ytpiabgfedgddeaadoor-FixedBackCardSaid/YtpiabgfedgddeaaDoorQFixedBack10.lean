/- Our texts for this statement, merged: what its theorem leads to. -/
import Derived.Shelf.Unicode.DecodeAny
import Derived.Test.YtpiabgfedgddeaaDoorQFixedBack9
namespace Go.Ab
open Go Go.RowKit Go.Shelf Go.Proofs Go.Lib
set_option linter.unusedSimpArgs false
set_option linter.unusedVariables false
section
variable {P : Program} {base : Base} {h : Store} {E : Env} {ρ : Ren}
theorem below_same (R : Rel base h E) {w' : World} (bel : Below E.w.heap.size E.w w') : Rel base h { E with w := w' } ∧ Step h E h { E with w := w' } := by
  have hheap : ∀ b, b < E.w.heap.size → w'.heap[b]? = E.w.heap[b]? := bel.block
  have hx : Ext E { E with w := w' } := ⟨rfl, Nat.le_refl _, fun _ _ => Nat.le_refl _, fun _ _ _ _ hc => ⟨hc, rfl, rfl⟩, fun _ _ => rfl, keep_of R (fun b hb _ => hheap b hb) (fun b hb => .inl hb)⟩
  have S : Step h E h { E with w := w' } := ⟨hx, bel.os, bel.tape, bel.output, bel.size, fun b hb _ => hheap b hb, fun b hb => .inl hb, fun b hb _ => hb, fun k b hk => .inl ⟨k, hk⟩⟩
  have hb : ∀ j, blkOf { E with w := w' } h j = blkOf E h j := fun j => by
    unfold blkOf
    cases h[j]? with
    | none => rfl
    | some e => exact entBlk_same rfl rfl e
  refine ⟨⟨R.n, R.step_lo S, fun k e hk => ?_, R.nogen, fun k b hk => R.own k b (by rw [← hb]; exact hk), fun k j b hk hj => R.inj k j b (by rw [← hb]; exact hk) (by rw [← hb]; exact hj), fun b hb => Nat.lt_of_lt_of_le (R.lt b hb) bel.size⟩, S⟩
  exact (R.ent k e hk).step hx ⟨rfl, rfl, rfl, rfl, rfl⟩ (fun b hbk => hheap b (R.lt b (R.own k b (by rw [blkOf_of hk]; exact hbk))))
theorem tabs_lo {g3 g4 : Nat} (h3 : g3 < base.n) (h4 : g4 < base.n) {w : World} (L : Lo base w) (T : Utf8Tabs g3 g4 base.w0) : Utf8Tabs g3 g4 w := by
  have e : ∀ b, b < base.n → ∀ c, w.cell? ⟨b, c, none⟩ = base.w0.cell? ⟨b, c, none⟩ := fun b hb c => World.cell?_of_block (L.low b hb)
  exact ⟨fun c hc => by rw [e g3 h3]; exact T.1 c hc, fun i hi => by rw [e g4 h4, e g4 h4]; exact T.2 i hi⟩
def decP (o : Ops) (_ : Store) (args : List AV) : Option AV :=
  match args with
  | [.sc (.string s)] => match o.sdec s 0 with
    | some (c, n) => some (.tup [.sc (.int .i32 c), .sc (.int .i64 n)])
    | none => some (.tup [.sc (.int .i32 65533), .sc (.int .i64 0)])
  | _ => none
theorem dec_ok (L : Lays.n197 P ρ) {fn : Func} (hf : P.funcs[ρ.f 197]? = some fn) (hb : fn.body.isSome = true) (hn : fn.name ≠ "runtime.NumGoroutine") (h3 : ρ.g 3 < base.n) (h4 : ρ.g 4 < base.n) (T : Utf8Tabs (ρ.g 3) (ρ.g 4) base.w0) : PrimOk P base (ρ.f 197) (.look decP) := by
  refine ⟨⟨fn, hf, hb, hn⟩, fun args h v h3' m he E vs hP R V => ?_⟩
  simp only [primOp, Option.map_eq_some_iff] at he
  obtain ⟨v', he, hx⟩ := he
  cases hx
  unfold decP at he
  split at he
  case h_2 => cases he
  rename_i s
  obtain ⟨xv, us, rfl, hx, hnil⟩ := V.uncons
  cases hnil
  obtain rfl := hx.sc_inv.1
  refine (Any.utf8_DecodeRuneInString L s E.w (tabs_lo h3 h4 R.lo T)).mono fun e w' ⟨he', bel⟩ => ?_
  obtain ⟨R', S⟩ := below_same R bel
  refine ⟨_, { E with w := w' }, he', rfl, R', S, ?_⟩
  split at he
  · rename_i c n hd
    cases he
    obtain ⟨_, hlt, rfl, rfl⟩ := sdec_some hd
    have h0 : s.size ≠ 0 := by have : (0 : Int).toNat = 0 := rfl; omega
    have e0 : decodeGo s = Utf8.decode s 0 := by unfold decodeGo; rw [if_neg h0]
    rw [e0]
    have ez : (0 : Int) + (((Utf8.decode s (0 : Int).toNat).2 : Nat) : Int) = (((Utf8.decode s 0).2 : Nat) : Int) := by simp
    rw [ez]
    exact .tup (.data (.sc rfl .nil) (.data (.sc rfl .nil) .nil)) .nil
  · rename_i hd
    cases he
    have h0 : s.size = 0 := by have := sdec_none hd (by omega); have : (0 : Int).toNat = 0 := rfl; omega
    have e0 : decodeGo s = (65533, 0) := by unfold decodeGo; rw [if_pos h0]
    rw [e0]
    exact .tup (.data (.sc rfl .nil) (.data (.sc rfl .nil) .nil)) .nil
end
end Go.Ab
