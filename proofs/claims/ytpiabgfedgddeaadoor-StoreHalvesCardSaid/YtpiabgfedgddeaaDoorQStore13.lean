/- Our texts for this statement, merged: what its theorem leads to. -/
import Derived.Deep.AppendLies
import Derived.Deep.RegionHeld3
import Derived.LoopTactic
import Derived.OwnWalk
import Derived.StillTactics
import Derived.Tactics
import Derived.Tactics2
import Derived.WalkKit
import Derived.WalkSpells
import Derived.Test.YtpiabgfedgddeaaDoorQStore12
set_option linter.unusedVariables false
set_option linter.unusedSimpArgs false
namespace Go.Proofs
open Go.RowKit Go.Shelf
theorem dinfo22 : (Tryd.prog.info? 22).map (fun i => (i.zero, i.size, i.bytes)) = some (some (.slice none 0 0), 1, 24) := by kernel_rfl
theorem dinfo41 : (Tryd.prog.info? 41).map (fun i => (i.zero, i.size, i.bytes)) = some (some (.agg #[.string ⟨#[]⟩, .string ⟨#[]⟩]), 2, 32) := by kernel_rfl
def onlyN (K : Act → World → Prop) : Exit → Act → World → Prop
  | .normal, a, w => K a w
  | _, _, _ => False
def reg7 : Code := (Code.region 7 #[{ dst := some 17, op := Op.move (Operand.tmp 3), type := 34, pos := "ref.go:100", after := #[], guard := none }, { dst := some 18, op := Op.move (Operand.tmp 4), type := 3, pos := "ref.go:100", after := #[], guard := none }, { dst := some 19, op := Op.binOp BinOp.quo 3 (Operand.tmp 18) (Operand.const (Value.int IntKind.i64 8)) 3, type := 3, pos := "ref.go:100", after := #[{ on := 1, ground := Ground.data }], guard := none }, { dst := some 20, op := Op.move (Operand.tmp 3), type := 34, pos := "ref.go:100", after := #[], guard := none }, { dst := some 21, op := Op.move (Operand.tmp 4), type := 3, pos := "ref.go:100", after := #[], guard := none }, { dst := some 22, op := Op.binOp BinOp.quo 3 (Operand.tmp 21) (Operand.const (Value.int IntKind.i64 8)) 3, type := 3, pos := "ref.go:100", after := #[{ on := 4, ground := Ground.data }], guard := none }, { dst := some 23, op := Op.indexAddr 34 (Operand.tmp 20) (Operand.tmp 22), type := 0, pos := "ref.go:100", after := #[{ on := 3, ground := Ground.data }, { on := 5, ground := Ground.data }], guard := none }, { dst := some 24, op := Op.load 22 (Operand.tmp 23), type := 22, pos := "ref.go:100", after := #[{ on := 6, ground := Ground.data }], guard := none }, { dst := some 25, op := Op.move (Operand.tmp 0), type := 22, pos := "ref.go:100", after := #[], guard := none }, { dst := some 26, op := Op.move (Operand.tmp 4), type := 3, pos := "ref.go:100", after := #[], guard := none }, { dst := some 27, op := Op.indexAddr 22 (Operand.tmp 25) (Operand.tmp 26), type := 0, pos := "ref.go:100", after := #[{ on := 8, ground := Ground.data }, { on := 9, ground := Ground.data }], guard := none }, { dst := some 28, op := Op.load 41 (Operand.tmp 27), type := 41, pos := "ref.go:100", after := #[{ on := 10, ground := Ground.data }], guard := none }, { dst := some 29, op := Op.buildSlice 22 1 #[(0, Operand.tmp 28)], type := 22, pos := "ref.go:100", after := #[{ on := 11, ground := Ground.data }], guard := none }, { dst := some 30, op := Op.call { callee := Callee.builtin Builtin.append, args := #[Operand.tmp 24, Operand.tmp 29], argTypes := #[22, 22] }, type := 22, pos := "ref.go:100", after := #[{ on := 7, ground := Ground.data }, { on := 12, ground := Ground.data }], guard := none }, { dst := some 31, op := Op.indexAddr 34 (Operand.tmp 17) (Operand.tmp 19), type := 0, pos := "ref.go:100", after := #[{ on := 0, ground := Ground.data }, { on := 2, ground := Ground.data }, { on := 0, ground := Ground.phase }, { on := 1, ground := Ground.phase }, { on := 2, ground := Ground.phase }, { on := 3, ground := Ground.phase }, { on := 4, ground := Ground.phase }, { on := 5, ground := Ground.phase }, { on := 6, ground := Ground.phase }, { on := 7, ground := Ground.phase }, { on := 8, ground := Ground.phase }, { on := 9, ground := Ground.phase }, { on := 10, ground := Ground.phase }, { on := 11, ground := Ground.phase }, { on := 12, ground := Ground.phase }, { on := 13, ground := Ground.phase }], guard := none }, { dst := none, op := Op.store 22 (Operand.tmp 31) (Operand.tmp 30), type := 0, pos := "ref.go:100", after := #[{ on := 14, ground := Ground.data }, { on := 13, ground := Ground.data }, { on := 13, ground := Ground.chain }, { on := 0, ground := Ground.phase }, { on := 1, ground := Ground.phase }, { on := 2, ground := Ground.phase }, { on := 3, ground := Ground.phase }, { on := 4, ground := Ground.phase }, { on := 5, ground := Ground.phase }, { on := 6, ground := Ground.phase }, { on := 7, ground := Ground.phase }, { on := 8, ground := Ground.phase }, { on := 9, ground := Ground.phase }, { on := 10, ground := Ground.phase }, { on := 11, ground := Ground.phase }, { on := 12, ground := Ground.phase }, { on := 13, ground := Ground.phase }], guard := none }] true)
set_option maxRecDepth 100000 in
set_option maxHeartbeats 3200000 in
theorem reg7_wp (base b off len cap go co m n c : Nat) (svs : List Value) (sl p0 p1 : Value) (xs : List Value) (u5 u6 u7 u8 u9 u10 u11 u12 u13 u14 u15 u16 u17 u18 u19 u20 u21 u22 u23 u24 u25 u26 u27 u28 u29 u30 u31 : Value) (W : World) (K : Act → World → Prop)
    (hn : n < len) (hlen : len ≤ 1000000) (hm : svs.length = m) (hnm : n / 8 < m) (hbase : base ≤ W.heap.size)
    (hrow : W.ownsRow base 22 1 (.slice (some ⟨go, 0, none⟩) m co) m svs) (hsl : svs[n / 8]? = some sl) (hl : W.ownsRow base 41 2 sl c xs) (hc8 : c < 8) (hgo : sl.ownBlock ≠ some go)
    (h0 : W.cell? ⟨b, off + n * 2, none⟩ = some p0) (h1 : W.cell? ⟨b, off + n * 2 + 1, none⟩ = some p1) (o0 : p0.oneCell' = true) (o1 : p1.oneCell' = true) (hb : sl.ownBlock ≠ some b)
    (hQ : ∀ (x17 x18 x19 x20 x21 x22 x23 x24 x25 x26 x27 x28 x29 x30 x31 : Value) (g cp : Nat) (W1 : World), W1.ownsRow base 41 2 (.slice (some ⟨g, 0, none⟩) (c + 1) cp) (c + 1) (xs ++ [p0, p1]) → (W.alloc (.cells #[p0, p1] 41)).drew.grownBy W1 sl.ownBlock → (sl.ownBlock = some g ∨ g = W.heap.size + 1) → g < W1.heap.size →
      K { tmps := #[.slice (some ⟨b, off, none⟩) len cap, undef, .slice none 0 0, .slice (some ⟨go, 0, none⟩) m co, .int .i64 (n : Int), u5, u6, u7, u8, u9, u10, u11, u12, u13, u14, u15, u16, x17, x18, x19, x20, x21, x22, x23, x24, x25, x26, x27, x28, x29, x30, x31, undef], defers := [] } (W1.setCell ⟨go, n / 8, none⟩ (.slice (some ⟨g, 0, none⟩) (c + 1) cp))) :
    reg7.wp Tryd.prog (onlyN K) { tmps := #[.slice (some ⟨b, off, none⟩) len cap, undef, .slice none 0 0, .slice (some ⟨go, 0, none⟩) m co, .int .i64 (n : Int), u5, u6, u7, u8, u9, u10, u11, u12, u13, u14, u15, u16, u17, u18, u19, u20, u21, u22, u23, u24, u25, u26, u27, u28, u29, u30, u31, undef], defers := [] } W := by
  obtain ⟨i0, hi0, hz0, hz1, hz2⟩ := info_parts dinfo41
  have hN : ((n : Int) / 8).toNat = n / 8 := by omega
  have hgoc : ∃ cur, W.heap[go]? = some (.cells cur 22 (0, 0)) ∧ cur.toList.take (m * 1) = svs := by
    rcases hrow.2 with ⟨h, _⟩ | ⟨g', cap', cur', h, _, hgb, _, _, _, ht⟩
    · cases h
    · cases h; exact ⟨cur', hgb, ht⟩
  obtain ⟨cur, hgob, htake⟩ := hgoc
  have hgolt : go < W.heap.size := (Array.getElem?_eq_some_iff.1 hgob).1
  have hblt : b < W.heap.size := World.block_lt_of_cell? _ _ h0
  have hcell : W.cell? ⟨go, ((n : Int) / 8).toNat, none⟩ = some sl := by
    rw [hN, cell_of_row W go (n / 8) cur 22 (0, 0) hgob, ← Array.getElem?_toList]
    rw [← htake, List.getElem?_take] at hsl
    split at hsl
    · exact hsl
    · cases hsl
  have hfrz : W.frozen? ⟨go, ((n : Int) / 8).toNat, none⟩ = false := by simp [World.frozen?, hgob]
  clear hN
  have hfz : ∀ (o : Obj) (x : Nat), (W.alloc o).drew.frozen? ⟨go, x, none⟩ = false := fun o x => by
    have : (W.alloc o).drew.heap[go]? = some (.cells cur 22 (0, 0)) := (Below.heap_alloc W o go hgolt).trans hgob
    simp [World.frozen?, this]
  have hne1 := World.new_ne W _ hcell
  have hne2 := World.new_ne W _ h0
  have hw : IntKind.i64.wrap ((n : Int) / 8) = (n : Int) / 8 := by rw [IntKind.wrap_i64]; omega
  have hk0 : (0 : Int) ≤ (n : Int) / 8 := by omega
  have hk1 : (n : Int) / 8 < (m : Int) := by omega
  have hj0 : (0 : Int) ≤ (n : Int) := Int.natCast_nonneg _
  have hj1 : (n : Int) < (len : Int) := by omega
  unfold reg7
  have hc' : ∀ (o : Obj), (W.alloc o).drew.cell? ⟨go, ((n : Int) / 8).toNat, none⟩ = some sl := fun o => (World.cell?_alloc_lt _ _ _ hgolt).trans hcell
  have hd1 : W.drew.cell? ⟨go, ((n : Int) / 8).toNat, none⟩ = some sl := hcell
  have hd2 : W.drew.cell? ⟨b, off + n * 2, none⟩ = some p0 := h0
  have hd3 : W.drew.cell? ⟨b, off + n * 2 + 1, none⟩ = some p1 := h1
  go_region_law
    ((refine step_append_lies _ (by rfl) _ _ _ (by rfl) base 41 i0 _ 2 32 Tryd.underlying22 hi0 hz0 hz1 hz2 rfl (by omega) sl c xs (by rfl) ((hl.alloc _).drew)
        ⟨W.heap.size, 0, none⟩ 1 1 [p0, p1] (by rfl) (by rfl) (World.news_of_block (cs := #[p0, p1]) (t := 41) (fr := (0, 0)) (heap_alloc_new W _)) (by simp [o0, o1])
        (by omega) (by unfold maxLen; omega) (by omega) (by simp; omega) (W.heap.size + 1) (by simp) ?_; intro gg cp w1 hown1 hgrow hat hlt;
      (have hq1 : w1.cell? ⟨go, ((n : Int) / 8).toNat, none⟩ = some sl := (hgrow.cell_far _ (by simp; omega) (Ne.symm hgo)).trans (hc' _)); (have hq2 : w1.frozen? ⟨go, ((n : Int) / 8).toNat, none⟩ = false := (hgrow.frozen_far _ (by simp; omega) (Ne.symm hgo)).trans (hfz _ _))))
  all_goals
    (have hN : ((n : Int) / 8).toNat = n / 8 := by omega
     rw [hN]
     exact hQ _ _ _ _ _ _ _ _ _ _ _ _ _ _ _ gg cp w1 hown1 hgrow hat hlt)
end Go.Proofs
