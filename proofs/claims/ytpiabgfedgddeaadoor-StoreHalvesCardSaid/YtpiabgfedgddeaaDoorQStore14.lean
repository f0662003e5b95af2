/- Our texts for this statement, merged: what its theorem leads to. -/
import Derived.RangeFuncBox
import Derived.Test.YtpiabgfedgddeaaDoorQStore13
set_option linter.unusedVariables false
set_option linter.unusedSimpArgs false
namespace Go.Proofs
open Go.RowKit Go.Shelf
theorem wp_of_onlyN {P : Program} {c : Code} {Q : Exit → Act → World → Prop} {a : Act} {w : World} (h : c.wp P (onlyN fun a w => Q .normal a w) a w) : c.wp P Q a w :=
  Code.wp_mono (fun e a w h => by cases e <;> first | exact h | exact h.elim) h
theorem wrow_ne {W : World} {base base' : Nat} {e e' : TypeId} {size size' : Nat} {v v' : Value} {k k' : Nat} {xs xs' : List Value} (h : W.ownsRow base e size v k xs) (h' : W.ownsRow base' e' size' v' k' xs') (hne : e ≠ e') : v.ownBlock = none ∨ v.ownBlock ≠ v'.ownBlock := by
  rcases h.2 with ⟨rfl, _⟩ | ⟨g, cap, cur, rfl, _, hgb, _⟩
  · exact .inl rfl
  · refine .inr fun e'' => ?_
    rcases h'.2 with ⟨rfl, _⟩ | ⟨g', cap', cur', rfl, _, hgb', _⟩
    · cases e''
    · have : g = g' := by simpa [Value.ownBlock] using e''
      subst this
      rw [hgb] at hgb'; cases hgb'; exact hne rfl
theorem wrow_lt {W : World} {base : Nat} {e : TypeId} {size : Nat} {v : Value} {k : Nat} {xs : List Value} (h : W.ownsRow base e size v k xs) {g : Nat} (hg : v.ownBlock = some g) : g < W.heap.size := (h.lt g hg).2
def cntN (n k : Nat) : Nat := min 8 (n - 8 * k)
def newsN (vals : List Value) (n k : Nat) : List Value := (vals.drop (16 * k)).take (2 * cntN n k)
structure Gath (base : Nat) (vals : List Value) (n m : Nat) (v : Value) (svs : List Value) (W : World) : Prop where
  row : W.ownsRow base 22 1 v m svs
  len : svs.length = m
  each : ∀ (k : Nat) (sv : Value), svs[k]? = some sv → W.ownsRow base 41 2 sv (cntN n k) (newsN vals n k)
  apart : ∀ (j k : Nat) (sv sv' : Value), svs[j]? = some sv → svs[k]? = some sv' → j ≠ k → sv.ownBlock = none ∨ sv.ownBlock ≠ sv'.ownBlock
theorem Gath.nil {base : Nat} {vals : List Value} {n m : Nat} {v v2 : Value} {svs : List Value} {W A W2 : World} (h : Gath base vals n m v svs W) (hm : n ≤ 8 * m) (hA : ∀ {e s u k xs}, W.ownsRow base e s u k xs → A.ownsRow base e s u k xs) (hg : A.grownBy W2 v.ownBlock) (hown : W2.ownsRow base 22 1 v2 (m + 1) (svs ++ [.slice none 0 0])) :
    Gath base vals n (m + 1) v2 (svs ++ [.slice none 0 0]) W2 := by
  refine ⟨hown, by simp [h.len], fun k sv hk => ?_, fun j k sv sv' hj hk hne => ?_⟩
  · by_cases hkl : k < svs.length
    · rw [List.getElem?_append_left hkl] at hk
      have h1 := hA (h.each k sv hk)
      exact h1.kept hg (wrow_ne h1 (hA h.row) (by decide))
    · rw [List.getElem?_append_right (by omega)] at hk
      have hk0 : k - svs.length = 0 := by have := (List.getElem?_eq_some_iff.1 hk).1; simp at this; omega
      rw [hk0] at hk; simp at hk; subst hk
      have hl := h.len
      have e0 : cntN n k = 0 := by unfold cntN; omega
      unfold newsN
      rw [e0]
      exact ⟨by simp, .inl ⟨rfl, rfl⟩⟩
  · by_cases hjl : j < svs.length
    · rw [List.getElem?_append_left hjl] at hj
      by_cases hkl : k < svs.length
      · rw [List.getElem?_append_left hkl] at hk
        exact h.apart j k sv sv' hj hk hne
      · rw [List.getElem?_append_right (by omega)] at hk
        have hk0 : k - svs.length = 0 := by have := (List.getElem?_eq_some_iff.1 hk).1; simp at this; omega
        rw [hk0] at hk; simp at hk; subst hk
        cases sv.ownBlock with
        | none => exact .inl rfl
        | some x => exact .inr (by intro e; cases e)
    · rw [List.getElem?_append_right (by omega)] at hj
      have hj0 : j - svs.length = 0 := by have := (List.getElem?_eq_some_iff.1 hj).1; simp at this; omega
      rw [hj0] at hj; simp at hj; subst hj
      exact .inl rfl
theorem wrow_set {W : World} {base g cap k j : Nat} {e : TypeId} {svs : List Value} {u : Value} (h : W.ownsRow base e 1 (.slice (some ⟨g, 0, none⟩) k cap) k svs) (hj : j < k) : (W.setCell ⟨g, j, none⟩ u).ownsRow base e 1 (.slice (some ⟨g, 0, none⟩) k cap) k (svs.set j u) := by
  refine ⟨by rw [List.length_set]; exact h.1, ?_⟩
  rcases h.2 with ⟨h', _⟩ | ⟨g', cap', cur, h', hb, hgb, h1, h2, h3, h4⟩
  · cases h'
  · cases h'
    obtain ⟨hlt, hk⟩ := Array.getElem?_eq_some_iff.1 hgb
    refine .inr ⟨g, cap, cur.setIfInBounds j u, rfl, hb, ?_, h1, h2, by rw [Array.size_setIfInBounds]; exact h3, ?_⟩
    · show (W.heap.modify g _)[g]? = _
      rw [Array.getElem?_eq_getElem (by rw [Array.size_modify]; exact hlt), Array.getElem_modify_self, hk]
      rfl
    · rw [← h4, Array.toList_setIfInBounds, List.take_set]
theorem Gath.pair {base : Nat} {vals : List Value} {n : Nat} {go co g cp : Nat} {svs : List Value} {sl p0 p1 : Value} {W A W1 : World} (h : Gath base vals n (n / 8 + 1) (.slice (some ⟨go, 0, none⟩) (n / 8 + 1) co) svs W)
    (hsl : svs[n / 8]? = some sl) (hp0 : vals[2 * n]? = some p0) (hp1 : vals[2 * n + 1]? = some p1)
    (hA : ∀ {e s u k xs}, W.ownsRow base e s u k xs → A.ownsRow base e s u k xs) (hown : W1.ownsRow base 41 2 (.slice (some ⟨g, 0, none⟩) (cntN n (n / 8) + 1) cp) (cntN n (n / 8) + 1) (newsN vals n (n / 8) ++ [p0, p1]))
    (hg : A.grownBy W1 sl.ownBlock) (hat : sl.ownBlock = some g ∨ g = W.heap.size + 1) :
    Gath base vals (n + 1) (n / 8 + 1) (.slice (some ⟨go, 0, none⟩) (n / 8 + 1) co) (svs.set (n / 8) (.slice (some ⟨g, 0, none⟩) (cntN n (n / 8) + 1) cp)) (W1.setCell ⟨go, n / 8, none⟩ (.slice (some ⟨g, 0, none⟩) (cntN n (n / 8) + 1) cp)) := by
  have hl := h.len
  have hrow1 : W1.ownsRow base 22 1 (.slice (some ⟨go, 0, none⟩) (n / 8 + 1) co) (n / 8 + 1) svs := by
    have h1 := hA h.row
    exact h1.kept hg (wrow_ne h1 (hA (h.each _ _ hsl)) (by decide))
  have hset := grownBy_setCell' W1 go (.slice (some ⟨g, 0, none⟩) (cntN n (n / 8) + 1) cp)
  have hgs : W1.grownBy (W1.setCell ⟨go, n / 8, none⟩ (.slice (some ⟨g, 0, none⟩) (cntN n (n / 8) + 1) cp)) (some go) :=
    ⟨rfl, rfl, rfl, by show W1.heap.size ≤ (W1.heap.modify _ _).size; rw [Array.size_modify]; exact Nat.le_refl _, fun k _ hk => Below.heap_setCell _ _ _ k (fun e => hk (by rw [e]))⟩
  have c41 : ∀ {u : Value} {k : Nat} {xs : List Value}, W1.ownsRow base 41 2 u k xs → (W1.setCell ⟨go, n / 8, none⟩ (.slice (some ⟨g, 0, none⟩) (cntN n (n / 8) + 1) cp)).ownsRow base 41 2 u k xs := fun hu => hu.kept hgs (wrow_ne hu hrow1 (by decide))
  refine ⟨wrow_set hrow1 (by omega), by rw [List.length_set]; exact hl, fun k sv hk => ?_, fun j k sv sv' hj hk hne => ?_⟩
  · rw [List.getElem?_set] at hk
    split at hk
    · rename_i e
      subst e
      split at hk
      · cases hk
        have e1 : cntN (n + 1) (n / 8) = cntN n (n / 8) + 1 := by unfold cntN; omega
        have e2 : newsN vals (n + 1) (n / 8) = newsN vals n (n / 8) ++ [p0, p1] := by
          unfold newsN
          rw [e1, show 2 * (cntN n (n / 8) + 1) = 2 * cntN n (n / 8) + 2 by omega, List.take_add, List.drop_drop]
          congr 1
          have e3 : 16 * (n / 8) + 2 * cntN n (n / 8) = 2 * n := by unfold cntN; omega
          rw [e3]
          obtain ⟨l0, h0⟩ := List.getElem?_eq_some_iff.1 hp0
          obtain ⟨l1, h1⟩ := List.getElem?_eq_some_iff.1 hp1
          rw [List.drop_eq_getElem_cons l0, List.drop_eq_getElem_cons l1, h0, h1]
          rfl
        rw [e1, e2]
        exact c41 hown
      · cases hk
    · rename_i e
      have hkl := (List.getElem?_eq_some_iff.1 hk).1
      have e1 : cntN (n + 1) k = cntN n k := by unfold cntN; omega
      have h1 := hA (h.each k sv hk)
      have h2 := c41 (h1.kept hg (h.apart k (n / 8) sv sl hk hsl (fun e' => e e'.symm)))
      unfold newsN at h2 ⊢
      rw [e1]; exact h2
  · have hnew : ∀ (i : Nat) (u : Value), svs[i]? = some u → i ≠ n / 8 → u.ownBlock = none ∨ u.ownBlock ≠ some g := fun i u hi hin => by
      rcases hat with e | e
      · rw [← e]; exact h.apart i (n / 8) u sl hi hsl hin
      · cases hu : u.ownBlock with
        | none => exact .inl rfl
        | some x =>
          refine .inr fun e' => ?_
          have := wrow_lt (h.each i u hi) hu
          cases e'; omega
    rw [List.getElem?_set] at hj hk
    split at hj
    · rename_i ej
      split at hj
      · cases hj
        split at hk
        · rename_i ek; omega
        · rename_i ek
          rcases hnew k sv' hk (fun e' => ek e'.symm) with e | e
          · exact .inr (by rw [e]; simp [Value.ownBlock])
          · exact .inr (fun e' => e (e'.symm.trans rfl))
      · cases hj
    · rename_i ej
      split at hk
      · rename_i ek
        split at hk
        · cases hk
          exact hnew j sv hj (fun e' => ej e'.symm)
        · cases hk
      · exact h.apart j k sv sv' hj hk hne
end Go.Proofs
