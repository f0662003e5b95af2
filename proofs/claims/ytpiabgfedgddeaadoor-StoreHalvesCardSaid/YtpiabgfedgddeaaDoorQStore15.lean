/- Our texts for this statement, merged: what its theorem leads to. -/
import Derived.Maps.AppendAt
import Derived.Test.YtpiabgfedgddeaaDoorQStore14
set_option linter.unusedVariables false
set_option linter.unusedSimpArgs false
namespace Go.Proofs
open Go.RowKit Go.Shelf
set_option maxRecDepth 100000 in
theorem reg7_gath (base b off len cap n : Nat) (vals : List Value) (u5 u6 u7 u8 u9 u10 u11 u12 u13 u14 u15 u16 u17 u18 u19 u20 u21 u22 u23 u24 u25 u26 u27 u28 u29 u30 u31 : Value) (w0 W : World) (v : Value) (svs : List Value) (K : Act → World → Prop)
    (hn : n < len) (hlen : len ≤ 1000000) (hbase : base ≤ W.heap.size) (hl : vals.length = 2 * len) (hbb : b < base)
    (hc : ∀ j u, vals[j]? = some u → W.cell? ⟨b, off + j, none⟩ = some u) (h1 : ∀ u ∈ vals, u.oneCell' = true)
    (hG : Gath base vals n (n / 8 + 1) v svs W) (hB : Below base w0 W)
    (hQ : ∀ (x17 x18 x19 x20 x21 x22 x23 x24 x25 x26 x27 x28 x29 x30 x31 v' : Value) (svs' : List Value) (W' : World), Gath base vals (n + 1) (n / 8 + 1) v' svs' W' → Below base w0 W' →
      K { tmps := #[.slice (some ⟨b, off, none⟩) len cap, undef, .slice none 0 0, v', .int .i64 (n : Int), u5, u6, u7, u8, u9, u10, u11, u12, u13, u14, u15, u16, x17, x18, x19, x20, x21, x22, x23, x24, x25, x26, x27, x28, x29, x30, x31, undef], defers := [] } W') :
    reg7.wp Tryd.prog (onlyN K) { tmps := #[.slice (some ⟨b, off, none⟩) len cap, undef, .slice none 0 0, v, .int .i64 (n : Int), u5, u6, u7, u8, u9, u10, u11, u12, u13, u14, u15, u16, u17, u18, u19, u20, u21, u22, u23, u24, u25, u26, u27, u28, u29, u30, u31, undef], defers := [] } W := by
  have hm := hG.len
  obtain ⟨sl, hsl⟩ : ∃ sl, svs[n / 8]? = some sl := ⟨_, List.getElem?_eq_getElem (by omega)⟩
  obtain ⟨p0, hp0⟩ : ∃ p, vals[2 * n]? = some p := ⟨_, List.getElem?_eq_getElem (by omega)⟩
  obtain ⟨p1, hp1⟩ : ∃ p, vals[2 * n + 1]? = some p := ⟨_, List.getElem?_eq_getElem (by omega)⟩
  have hrow := hG.row
  have hsr := hG.each _ _ hsl
  have hv : ∃ go co, v = .slice (some ⟨go, 0, none⟩) (n / 8 + 1) co ∧ base ≤ go := by
    rcases hrow.2 with ⟨_, h⟩ | ⟨g, cp, cur, h, hb, _⟩
    · exact absurd h (by omega)
    · exact ⟨g, cp, h, hb⟩
  obtain ⟨go, co, rfl, hgob⟩ := hv
  have hno : ∀ x, sl.ownBlock = some x → base ≤ x := fun x hx => (hsr.lt x hx).1
  refine reg7_wp base b off len cap go co (n / 8 + 1) n (cntN n (n / 8)) svs sl p0 p1 (newsN vals n (n / 8)) u5 u6 u7 u8 u9 u10 u11 u12 u13 u14 u15 u16 u17 u18 u19 u20 u21 u22 u23 u24 u25 u26 u27 u28 u29 u30 u31 W K hn hlen hm (by omega) hbase hrow hsl hsr (by unfold cntN; omega) ?_
    (by have := hc _ _ hp0; rwa [Nat.mul_comm] at this) (by have := hc _ _ hp1; rw [Nat.mul_comm] at this; rw [Nat.add_assoc]; exact this) (h1 _ (List.mem_of_getElem? hp0)) (h1 _ (List.mem_of_getElem? hp1)) ?_ ?_
  · intro e
    rcases wrow_ne hsr hrow (by decide) with h | h
    · rw [h] at e; cases e
    · exact h (e.trans rfl)
  · intro e
    have := hno _ e
    omega
  · intro x17 x18 x19 x20 x21 x22 x23 x24 x25 x26 x27 x28 x29 x30 x31 g cp W1 hown hg hat hlt
    have hA : ∀ {e s u k xs}, W.ownsRow base e s u k xs → (W.alloc (.cells #[p0, p1] 41)).drew.ownsRow base e s u k xs := fun h => (h.alloc _).drew
    refine hQ _ _ _ _ _ _ _ _ _ _ _ _ _ _ _ _ (svs.set (n / 8) (.slice (some ⟨g, 0, none⟩) (cntN n (n / 8) + 1) cp)) _ (Gath.pair hG hsl hp0 hp1 hA hown hg hat) ?_
    have hB1 : Below base w0 W1 := by
      have h0 : Below base w0 (W.alloc (.cells #[p0, p1] 41)).drew := (hB.alloc hbase _).drew
      refine h0.grown hg (by simp; omega) (fun k e => hno _ e)
    exact hB1.setCell hgob _
theorem cell_kept {B : Nat} {w W : World} (hB : Below B w W) {b off : Nat} {vals : List Value} (hb : b < B) (hc : ∀ j u, vals[j]? = some u → w.cell? ⟨b, off + j, none⟩ = some u) :
    ∀ j u, vals[j]? = some u → W.cell? ⟨b, off + j, none⟩ = some u := fun j u h => (hB.cell (p := ⟨b, off + j, none⟩) hb).trans (hc j u h)
set_option maxRecDepth 100000 in
set_option maxHeartbeats 3200000 in
theorem gather_calls (b off len cap : Nat) (a : Option Addr) (vals : List Value) (hlen : len ≤ 1000000) (w : World)
    (ha : 0 < len → a = some ⟨b, off, none⟩) (hl : vals.length = 2 * len) (hc : ∀ j u, vals[j]? = some u → w.cell? ⟨b, off + j, none⟩ = some u) (h1 : ∀ u ∈ vals, u.oneCell' = true) :
    Calls Tryd.prog 22 #[.slice a len cap] w fun e W' => ∃ v svs, e = .returned v ∧ Gath w.heap.size vals len ((len + 7) / 8) v svs W' ∧ Below w.heap.size w W' := by
  obtain ⟨i0, hi0, hz0, hz1, hz2⟩ := info_parts dinfo22
  go_enter Tryd.func22, Tryd.ntmps22
  go_wp2
  go_loopw [3, 4] (fun v i wr => ∃ (n : Nat) (svs : List Value), n ≤ len ∧ i = .int .i64 (n : Int) ∧ Gath w.heap.size vals n ((n + 7) / 8) v svs wr ∧ Below w.heap.size w wr) (fun _ i _ => len + 1 - (intOf i).toNat)
  case atStart =>
    exact ⟨0, [], by omega, rfl, ⟨⟨by simp, .inl ⟨rfl, rfl⟩⟩, rfl, (fun k sv h => by cases h), (fun j k sv sv' h => by cases h)⟩, Below.refl _ _⟩
  case round =>
    obtain ⟨n, svs, hn, rfl, hG, hB⟩ := hrel
    have hsz := hB.size
    have hm := hG.len
    by_cases hnl : n < len
    · obtain rfl := ha (by omega)
      have hbb : b < w.heap.size := World.block_lt_of_cell? _ _ (hc 0 _ (List.getElem?_eq_getElem (by omega)))
      go_wp2_with (at_builtin; refine wpList_append_own _ rfl _ _ 34 rfl w.heap.size 22 i0 (.slice none 0 0) 1 24 Tryd.underlying34 hi0 hz0 hz1 hz2 rfl (by omega) _ svs.length svs rfl (by rw [hm]; exact hG.row.alloc _) ⟨wr.heap.size, 0, none⟩ 1 1 [.slice none 0 0] rfl rfl (cell_one_new _ _ _) (by simp [Value.oneCell']) (by unfold maxLen; omega) (by omega) (by simp; omega) ?_; intro v2 w2 hown2 hg2 hnil2)
      · rename_i hK hr
        have hr8 : n % 8 = 0 := by simp at hr; omega
        have em : (n + 7) / 8 = n / 8 := by omega
        rw [em] at hG
        have hA : ∀ {e s u k xs}, wr.ownsRow w.heap.size e s u k xs → (wr.alloc (.cells #[.slice none 0 0] 22)).ownsRow w.heap.size e s u k xs := fun h => h.alloc _
        have hG2 : Gath w.heap.size vals n (n / 8 + 1) v2 (svs ++ [.slice none 0 0]) w2 := Gath.nil hG (by omega) hA hg2 (by rw [← hG.len]; exact hown2)
        have hB2 : Below w.heap.size w w2 := (hB.alloc hsz _).grown hg2 (by simp; omega) (fun k e => (hG.row.lt k e).1)
        refine wp_of_onlyN (reg7_gath w.heap.size b off len cap n vals _ _ _ _ _ _ _ _ _ _ _ _ _ _ _ _ _ _ _ _ _ _ _ _ _ _ _ w w2 v2 _ _ hnl hlen hB2.size hl hbb (cell_kept hB2 hbb hc) h1 hG2 hB2 ?_)
        intro x17 x18 x19 x20 x21 x22 x23 x24 x25 x26 x27 x28 x29 x30 x31 v' svs' W' hG' hB'
        refine hK _ _ ?_
        go_wp2
        go_roundw
        case rel => exact ⟨n + 1, svs', by omega, by simp, by rw [show (n + 1 + 7) / 8 = n / 8 + 1 by omega]; exact hG', hB'⟩
        case measure => simp [intOf]; omega
      · rename_i hK hr
        have hr8 : n % 8 ≠ 0 := by simp at hr; omega
        have em : (n + 7) / 8 = n / 8 + 1 := by omega
        rw [em] at hG
        refine wp_of_onlyN (reg7_gath w.heap.size b off len cap n vals _ _ _ _ _ _ _ _ _ _ _ _ _ _ _ _ _ _ _ _ _ _ _ _ _ _ _ w wr _ svs _ hnl hlen hsz hl hbb (cell_kept hB hbb hc) h1 hG hB ?_)
        intro x17 x18 x19 x20 x21 x22 x23 x24 x25 x26 x27 x28 x29 x30 x31 v' svs' W' hG' hB'
        refine hK _ _ ?_
        go_wp2
        go_roundw
        case rel => exact ⟨n + 1, svs', by omega, by simp, by rw [show (n + 1 + 7) / 8 = n / 8 + 1 by omega]; exact hG', hB'⟩
        case measure => simp [intOf]; omega
    · have hnn : n = len := by omega
      subst hnn
      go_wp2
      go_ret
      exact ⟨_, svs, rfl, hG, hB⟩
end Go.Proofs
