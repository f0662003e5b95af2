/- Our texts for this statement, merged: what its theorem leads to. -/
import Derived.LoopIn
import Derived.LoopNIn
import Derived.OwnWalkIn
import Derived.RangeFuncCalls
import Derived.RangeFuncLeaves
import Derived.RegionIn
import Derived.Shelf.Abstract
import Derived.Shelf.RegionOpen
import Derived.TacticsInMore
import Derived.Test.YtpiabgfedgddeaaDoorQStore15
set_option linter.unusedVariables false
set_option linter.unusedSimpArgs false
namespace Go.Proofs
open Go.RowKit Go.Shelf
attribute [local go_sem] Oper.semAt_some
def chVal (b off len k : Nat) : Value := .slice (some ⟨b, off + 8 * k * 2, none⟩) (min 8 (len - 8 * k)) (min 8 (len - 8 * k))
structure Kpc (base Bs Bn : Nat) (W W' : World) : Prop where
  below : Below base W W'
  s : W'.heap[Bs]? = W.heap[Bs]?
  n : W'.heap[Bn]? = W.heap[Bn]?
theorem Kpc.refl (base Bs Bn : Nat) (W : World) : Kpc base Bs Bn W W := ⟨Below.refl _ _, rfl, rfl⟩
theorem Kpc.trans {base Bs Bn : Nat} {A B C : World} (h : Kpc base Bs Bn A B) (k : Kpc base Bs Bn B C) : Kpc base Bs Bn A C := ⟨h.below.trans k.below, k.s.trans h.s, k.n.trans h.n⟩
theorem Kpc.drew (base Bs Bn : Nat) (W : World) : Kpc base Bs Bn W W.drew := ⟨⟨rfl, rfl, rfl, Nat.le_refl _, fun _ _ => rfl⟩, rfl, rfl⟩
def chN (len : Nat) : Nat := (len + 7) / 8
set_option maxRecDepth 100000 in
set_option maxHeartbeats 2000000 in
theorem chunk1_in (F : Fence) (n : Nat) (hf : F.fn 80) (hro : F.round = none) (hn : 1 ≤ n) (l Bs Bn base b off len cap : Nat) (hlc : len ≤ cap) (hreach : len ≤ 1000000) (J Jx : List Nat → World → Prop)
    (hJd : ∀ s W, J s W → J s W.drew)
    (hY : ∀ k W, J (List.range k) W → k < chN len → YieldAt F (n - 1) Tryd.prog l #[chVal b off len k] W fun e W' =>
      (e = .returned (.bool true) ∧ J (List.range (k + 1)) W' ∧ Kpc base Bs Bn W W') ∨ (e = .returned (.bool false) ∧ Jx (List.range (k + 1)) W'))
    (W : World) (hBs : W.cell? ⟨Bs, 0, none⟩ = some (.slice (some ⟨b, off, none⟩) len cap)) (hBn : W.cell? ⟨Bn, 0, none⟩ = some (.int .i64 8)) (h0 : J [] W) :
    CallsIn F n Tryd.prog 80 #[.func (.yield l) #[] #[], .pointer (some ⟨Bs, 0, none⟩), .pointer (some ⟨Bn, 0, none⟩)] W fun e W' => (∃ v, e = .returned v) ∧
      (J (List.range (chN len)) W' ∨ (∃ k, k ≤ chN len ∧ Jx (List.range k) W')) := by
  refine callsIn_of_wp Tryd.func80 rfl hf ?_ hro
  simp only [Tryd.ntmps80, List.size_toArray, List.length_cons, List.length_nil, Nat.reduceAdd, Nat.reduceSub, Array.replicate_succ, Array.replicate_zero, List.push_toArray, List.append_toArray, List.nil_append, List.cons_append]
  gi_wp2
  gi_loopw [4] (fun i wr => ∃ k : Nat, k ≤ chN len ∧ i = .int .i64 ((8 * k : Nat) : Int) ∧ J (List.range k) wr ∧ Kpc base Bs Bn W wr)
    (fun i _ => len + 8 - (intOf i).toNat)
  case atStart => exact ⟨0, Nat.zero_le _, rfl, h0, Kpc.refl _ _ _ _⟩
  case round =>
    obtain ⟨k, hk, rfl, hJs, hnx⟩ := hrel
    have hcs : wr.cell? ⟨Bs, 0, none⟩ = some (.slice (some ⟨b, off, none⟩) len cap) := (World.cell?_of_block hnx.s).trans hBs
    have hcn : wr.cell? ⟨Bn, 0, none⟩ = some (.int .i64 8) := (World.cell?_of_block hnx.n).trans hBn
    by_cases hlt : 8 * k < len
    · have hkc : k < chN len := by unfold chN; omega
      obtain ⟨fn, tmps, assign, body, hy, hR⟩ := hY k wr.drew (hJd _ _ hJs) hkc
      dsimp only [chVal] at hy
      have hmx : Tryd.prog.follows .mixedOrders = true := by kernel_rfl
      have hcs2 : wr.drew.cell? ⟨Bs, 0, none⟩ = some (.slice (some ⟨b, off, none⟩) len cap) := hcs
      have hnx2 : Kpc base Bs Bn W wr.drew := hnx.trans (Kpc.drew _ _ _ _)
      gi_wp2
      gi_region_with_o (fail)
      all_goals rw [show (min 8 ((len - 8 * k : Nat) : Int)) = ((min 8 (len - 8 * k) : Nat) : Int) by omega]
      all_goals obtain ⟨e, he⟩ : ∃ e, e = min 8 (len - 8 * k) := ⟨_, rfl⟩
      all_goals rw [← he]
      all_goals gi_wp2
      all_goals refine hR.mono ?_
      all_goals rintro e W3 (⟨rfl, hJ3, hk3⟩ | ⟨rfl, hJx3⟩)
      all_goals first
        | (have hcn3 : W3.cell? ⟨Bn, 0, none⟩ = some (.int .i64 8) := (World.cell?_of_block hk3.n).trans hcn
           gi_wp2
           go_roundw
           case rel => exact ⟨k + 1, by omega, by simp; omega, hJ3, hnx2.trans hk3⟩
           case measure => simp [intOf]; omega)
        | (gi_wp2
           refine bodyPost_ret (results_none rfl _ _ _) rfl ?_
           exact ⟨⟨_, rfl⟩, .inr ⟨k + 1, by omega, hJx3⟩⟩)
    · obtain rfl : k = chN len := by unfold chN at *; omega
      gi_wp2
      go_end0
      exact ⟨⟨_, rfl⟩, .inl hJs⟩
end Go.Proofs
set_option linter.unusedVariables false
set_option linter.unusedSimpArgs false
namespace Go.Proofs
open Go.RowKit Go.Shelf
attribute [local go_sem] Oper.semAt_some
set_option maxHeartbeats 1000000 in
theorem chunk1_none (F : Fence) (n : Nat) (hf : F.fn 80) (hro : F.round = none) (l Bs Bn : Nat) (a : Option Addr) (cap : Nat) (J : List Nat → World → Prop)
    (W : World) (hBs : W.cell? ⟨Bs, 0, none⟩ = some (.slice a 0 cap)) (h0 : J [] W) :
    CallsIn F n Tryd.prog 80 #[.func (.yield l) #[] #[], .pointer (some ⟨Bs, 0, none⟩), .pointer (some ⟨Bn, 0, none⟩)] W fun e W' => (∃ v, e = .returned v) ∧ J [] W' := by
  refine callsIn_of_wp Tryd.func80 rfl hf ?_ hro
  simp only [Tryd.ntmps80, List.size_toArray, List.length_cons, List.length_nil, Nat.reduceAdd, Nat.reduceSub, Array.replicate_succ, Array.replicate_zero, List.push_toArray, List.append_toArray, List.nil_append, List.cons_append]
  gi_wp2
  gi_loopw [4] (fun i wr => i = .int .i64 0 ∧ J [] wr ∧ wr = W) (fun _ _ => 0)
  case atStart => exact ⟨rfl, h0, rfl⟩
  case round =>
    obtain ⟨rfl, hJs, rfl⟩ := hrel
    gi_wp2
    go_end0
    exact ⟨⟨_, rfl⟩, hJs⟩
set_option maxHeartbeats 1000000 in
theorem chunk_in (F : Fence) (n : Nat) (hf : F.fn 42) (hro : F.round = none) (a : Option Addr) (len cap : Nat) (w : World) :
    CallsIn F n Tryd.prog 42 #[.slice a len cap, .int .i64 8] w fun e w' => e = .returned (.func (.func 80) #[] #[.pointer (some ⟨w.heap.size, 0, none⟩), .pointer (some ⟨w.heap.size + 1, 0, none⟩)]) ∧ w' = (w.alloc (.cells #[.slice a len cap] 22)).alloc (.cells #[.int .i64 8] 3) := by
  refine callsIn_of_wp Tryd.func42 rfl hf ?_ hro
  simp only [Tryd.ntmps42, List.size_toArray, List.length_cons, List.length_nil, Nat.reduceAdd, Nat.reduceSub, Array.replicate_succ, Array.replicate_zero, List.push_toArray, List.append_toArray, List.nil_append, List.cons_append]
  gi_wp2
  go_ret
  exact ⟨rfl, rfl⟩
theorem chunk_stops (F : Fence) (n : Nat) (hf : F.fn 80) (hro : F.round = none) (hn : 1 ≤ n) (Bs Bn base b off len cap : Nat) (a : Option Addr) (hlc : len ≤ cap) (hreach : len ≤ 1000000) (w : World) (h1 : Bs < w.heap.size) (h2 : Bn < w.heap.size)
    (ha : 0 < len → a = some ⟨b, off, none⟩) (hBs : w.cell? ⟨Bs, 0, none⟩ = some (.slice a len cap)) (hBn : w.cell? ⟨Bn, 0, none⟩ = some (.int .i64 8)) :
    SeqStopsK F n Tryd.prog 80 #[.pointer (some ⟨Bs, 0, none⟩), .pointer (some ⟨Bn, 0, none⟩)] (fun k : Nat => #[chVal b off len k]) (Kpc base Bs Bn) (fun ys => ys = List.range (chN len)) (fun _ => True) (chN len) w := fun l J Jx W hW hA _ hY h0 => by
  have hc1 := (hW.cell (p := ⟨Bs, 0, none⟩) h1).trans hBs
  have hc2 := (hW.cell (p := ⟨Bn, 0, none⟩) h2).trans hBn
  by_cases h : len = 0
  · subst h
    exact (chunk1_none F n hf hro l Bs Bn a cap J W hc1 h0).mono fun e W' ⟨he, hj⟩ => ⟨he, .inl ⟨[], rfl, hj⟩⟩
  · rw [ha (by omega)] at hc1
    refine (chunk1_in F n hf hro hn l Bs Bn base b off len cap hlc hreach J (fun s W => Jx s W) (fun s W' hh => hA s W' W'.drew none hh ⟨rfl, rfl, rfl, Nat.le_refl _, fun _ _ _ => rfl⟩ (fun r e => by cases e)) (fun k W1 hJ hk => ?_) W hc1 hc2 h0).mono fun e W' ⟨he, hj⟩ => ⟨he, ?_⟩
    · have := hY (List.range k) k W1 hJ (by rw [List.length_range]; exact hk)
      rwa [← List.range_succ] at this
    · rcases hj with hj | ⟨k, _, hj⟩
      · exact .inl ⟨_, rfl, hj⟩
      · exact .inr ⟨_, trivial, hj⟩
end Go.Proofs
