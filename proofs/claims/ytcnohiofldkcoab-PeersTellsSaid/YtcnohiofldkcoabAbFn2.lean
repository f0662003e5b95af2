/- A function's results and its store, for its caller. -/
import Derived.Test.YtcnohiofldkcoabAbFn
namespace Go.Ab
open Go
set_option linter.unusedSimpArgs false
set_option linter.unusedVariables false

section
variable {base : Nat} {s h : Store} {E0 E : Env} {ks : List Nat}

theorem out_own {n : Nat} {b : Nat} (hb : (outEnv E h n ks).own b) : E.own b := hb.1

mutual
theorem lay1_vl (R : Rel base h E) {n : Nat} {keep : Bool} {fin : List Nat} (hbox : ∀ k, k < n → ∃ t cs, h[k]? = some (Ent.box t cs)) : ∀ (x : AV) {v : Value} {ks : List Nat} {x' : AV} {ks' : List Nat}, lay1 Ops.std n h keep x ks = some (x', ks') → KsOk h n ks → VL E [x] [v] → (∃ m, fin = ks' ++ m) → (keep = false → fin = []) → VL (outEnv E h n fin) [x'] [v] := by
  intro x v ks x' ks' hl hks hv hfin hk0
  have hnot : ∀ {k g e ro xs}, rowOf h k g = some (e, ro, xs) → n ≤ k := fun {k g e ro xs} hr => by
    refine Nat.le_of_not_lt fun hlt => ?_
    obtain ⟨t, cs, hb⟩ := hbox k hlt
    rw [rowOf_some hr] at hb; cases hb
  have hless : keep = false → ∀ b, (outEnv E h n fin).own b → E.own b ∧ ¬ ∃ k, n ≤ k ∧ blkOf E h k = some b := fun hf b hb => ⟨hb.1, fun ⟨k, hnk, hkb⟩ => by
    rcases hb.2 k hkb with h1 | h1
    · omega
    · rw [hk0 hf] at h1; simp at h1⟩
  cases x with
  | sl k g =>
    simp only [lay1, layRow] at hl
    split at hl
    · rename_i e ro xs hr
      obtain ⟨hgen, _⟩ := row_reads R hr
      obtain ⟨hkn, hg, h1, hrow⟩ := hv.sl_inv
      have hrow := hrow hgen
      split at hl
      · rename_i hc
        cases hl
        obtain ⟨m, hm⟩ := hfin
        have hlt : ks.length < fin.length := by rw [hm]; simp
        have hget : fin.getD ks.length 0 = k := by rw [hm]; simp [List.getD]
        refine .sl (by show n + ks.length < n + fin.length; omega) (by simp [outEnv]) h1 (fun _ => ?_) .nil
        simp only [outEnv]
        rw [if_neg (by omega), Nat.add_sub_cancel_left, hget]; exact hrow
      · split at hl
        · cases hl
        · cases hl
          rename_i hf
          have hf' : false = false := rfl
          rw [hrow]
          exact .data ((row_lit (L := fun b => ∃ k, n ≤ k ∧ blkOf E h k = some b) R hr (fun b hb => ⟨k, hnot hr, hb⟩)).less (hless hf')) .nil
    · cases hl
  | sub k g lo hi =>
    simp only [lay1, laySub] at hl
    split at hl
    · rename_i e ro xs hr
      split at hl
      · cases hl
      · rename_i hf
        split at hl
        · rename_i ys hys
          cases hl
          exact .data ((sub_lit (L := fun b => ∃ k, n ≤ k ∧ blkOf E h k = some b) R hv hr hys (fun b hb => ⟨k, hnot hr, hb⟩)).less (hless rfl)) .nil
        · cases hl
    · cases hl
  | agg cs =>
    simp only [lay1] at hl
    split at hl
    · rename_i hl'
      cases hl
      obtain ⟨us, rfl, h2⟩ := hv.agg_inv
      exact .agg (lay_vl R hbox cs hl' hks h2 hfin hk0) .nil
    · cases hl
  | tup cs =>
    simp only [lay1] at hl
    split at hl
    · rename_i hl'
      cases hl
      obtain ⟨us, rfl, h2⟩ := hv.tup_inv
      exact .tup (lay_vl R hbox cs hl' hks h2 hfin hk0) .nil
    · cases hl
  | sc u =>
    simp only [lay1] at hl; cases hl
    obtain ⟨e1, e2⟩ := hv.sc_inv
    subst e1
    exact .data (.sc e2 .nil) .nil
  | lit e f xs =>
    simp only [lay1] at hl; cases hl
    exact .data (hv.lit_inv.less fun b hb => hb.1) .nil
  | _ => simp only [lay1] at hl; cases hl
theorem lay_vl (R : Rel base h E) {n : Nat} {keep : Bool} {fin : List Nat} (hbox : ∀ k, k < n → ∃ t cs, h[k]? = some (Ent.box t cs)) : ∀ (l : List AV) {vs : List Value} {ks : List Nat} {l' : List AV} {ks' : List Nat}, lay Ops.std n h keep l ks = some (l', ks') → KsOk h n ks → VL E l vs → (∃ m, fin = ks' ++ m) → (keep = false → fin = []) → VL (outEnv E h n fin) l' vs := by
  intro l vs ks l' ks' hl hks hv hfin hk0
  cases l with
  | nil => simp only [lay] at hl; cases hl; cases hv; exact .nil
  | cons x r =>
    simp only [lay] at hl
    split at hl
    · rename_i x' ks1 hx
      split at hl
      · rename_i hr
        cases hl
        obtain ⟨v, us, rfl, h1, h2⟩ := hv.uncons
        obtain ⟨k1, _, _⟩ := lay1_ks n h keep x hx hks
        obtain ⟨_, ⟨m2, hm2⟩, _⟩ := lay_ks n h keep r hr k1
        refine VL.cons (lay1_vl R hbox x hx hks h1 ?_ hk0) (lay_vl R hbox r hr k1 h2 hfin hk0)
        obtain ⟨m, hm⟩ := hfin
        exact ⟨m2 ++ m, by rw [hm, hm2]; simp⟩
      · cases hl
    · cases hl
end

theorem out_rel {n : Nat} (R : Rel base h E) {a b : Store} (ha : outer n h = some a) (hb : kept h ks = some b) (hk : KsOk h n ks) : Rel base (a ++ b) (outEnv E h n ks) := by
  obtain ⟨a1, a2, a3⟩ := outer_some n ha
  obtain ⟨b1, b2⟩ := kept_some ks hb
  have hget : ∀ k e, (a ++ b)[k]? = some e → (k < n ∧ h[k]? = some e ∧ ∃ t cs, e = Ent.box t cs ∧ cs.all isSc = true) ∨ (n ≤ k ∧ ∃ e' g xs, k - n < ks.length ∧ h[ks.getD (k - n) 0]? = some (Ent.row e' g false xs) ∧ e = Ent.row e' 0 false xs) := by
    intro k e he
    by_cases hlt : k < n
    · left
      rw [List.getElem?_append_left (by omega)] at he
      obtain ⟨h1, t, cs, h2, h3⟩ := a3 k hlt
      rw [h1] at he
      refine ⟨hlt, he, t, cs, ?_, h3⟩
      rw [h2] at he; cases he; rfl
    · right
      rw [List.getElem?_append_right (by omega), a1] at he
      have hlt2 : k - n < ks.length := by
        have := (List.getElem?_eq_some_iff.1 he).1; omega
      obtain ⟨e', g, xs, h1, h2⟩ := b2 (k - n) _ (List.getElem?_eq_getElem hlt2)
      refine ⟨by omega, e', g, xs, hlt2, ?_, ?_⟩
      · rw [show ks.getD (k - n) 0 = ks[k - n] by simp [hlt2]]; exact h1
      · rw [h2] at he; cases he; rfl
  -- the blocks
  have hblk : ∀ k g, blkOf (outEnv E h n ks) (a ++ b) k = some g → ∃ k', blkOf E h k' = some g ∧ ((k < n ∧ k' = k) ∨ (n ≤ k ∧ k - n < ks.length ∧ k' = ks.getD (k - n) 0)) := by
    intro k g hg
    obtain ⟨e, he, hee⟩ := blkOf_some hg
    rcases hget k e he with ⟨hlt, h1, t, cs, rfl, _⟩ | ⟨hge, e', g', xs, hlt, h1, rfl⟩
    · exact ⟨k, by rw [blkOf_of h1]; exact hee, .inl ⟨hlt, rfl⟩⟩
    · refine ⟨ks.getD (k - n) 0, ?_, .inr ⟨hge, hlt, rfl⟩⟩
      rw [blkOf_of h1]
      simp only [entBlk, outEnv] at hee ⊢
      rw [if_neg (by omega)] at hee; exact hee
  refine ⟨?_, R.le, fun k e he => ?_, fun k hk' => ?_, fun k g hg => ?_, fun k j g hkg hjg => ?_, fun g hg => R.lt g hg.1⟩
  · show n + ks.length = (a ++ b).length
    simp [a1, b1]
  · rcases hget k e he with ⟨hlt, h1, t, cs, rfl, hsc⟩ | ⟨hge, e', g', xs, hlt, h1, rfl⟩
    · obtain ⟨e1, e2, e3, e4, vals, e5, e6⟩ := R.ent k _ h1
      refine ⟨by simp only [outEnv]; rw [if_pos hlt]; exact e1, by simp only [outEnv]; rw [if_pos hlt]; exact e2, e3, e4, vals, e5, sc_vl e6 hsc⟩
    · obtain ⟨e1, e2, e3, e4, vals, e5, e6, e7⟩ := R.ent _ _ h1
      refine ⟨by simp only [outEnv]; rw [if_neg (by omega), if_pos (by omega)], by simp only [outEnv]; rw [if_neg (by omega)], by simp only [outEnv]; rw [if_neg (by omega)]; exact e3, e4, vals, ?_, e6.less fun g hg => hg.1, e7⟩
      simp only [outEnv]; rw [if_neg (by omega)]; exact e5
  · have hk2 : n + ks.length ≤ k := by simp [a1, b1] at hk'; omega
    simp only [outEnv]
    rw [if_neg (by omega), if_neg (by omega)]
  · obtain ⟨k', h1, h2⟩ := hblk k g hg
    refine ⟨R.own k' g h1, fun k2 hk2 => ?_⟩
    have := R.inj k2 k' g hk2 h1
    subst this
    rcases h2 with ⟨h3, rfl⟩ | ⟨_, h3, h4⟩
    · exact .inl h3
    · right; rw [h4]; simp [h3]
  · obtain ⟨k', h1, h2⟩ := hblk k g hkg
    obtain ⟨j', h3, h4⟩ := hblk j g hjg
    have := R.inj k' j' g h1 h3
    subst this
    have big : ∀ i, i < ks.length → n ≤ ks.getD i 0 := fun i hi => hk.2 _ (by simp [hi])
    rcases h2 with ⟨a1, a2⟩ | ⟨a0, a1, a2⟩ <;> rcases h4 with ⟨b1, b2⟩ | ⟨b0, b1, b2⟩
    · omega
    · have := big _ b1; omega
    · have := big _ a1; omega
    · rw [a2] at b2
      have h5 : ks[k - n]'a1 = ks[j - n]'b1 := by
        simpa [a1, b1] using b2
      have hnd := List.pairwise_iff_getElem.1 hk.1
      rcases Nat.lt_trichotomy (k - n) (j - n) with h6 | h6 | h6
      · exact absurd h5 (hnd _ _ a1 b1 h6)
      · omega
      · exact absurd h5.symm (hnd _ _ b1 a1 h6)

theorem out_step {n : Nat} (R0 : Rel base s E0) (hn : s.length = n) (S : Step s E0 h E) {a b : Store} (ha : outer n h = some a) (hb : kept h ks = some b) (R : Rel base h E) : Step s E0 (a ++ b) (outEnv E h n ks) := by
  have hsn : E0.n = n := by rw [R0.n, hn]
  obtain ⟨a1, a2, a3⟩ := outer_some n ha
  obtain ⟨b1, b2⟩ := kept_some ks hb
  refine ⟨⟨S.ext.P, by show E0.n ≤ n + ks.length; omega, fun k hk => ?_, fun k g hk hg hgen => ?_, fun k hk => S.ext.box k hk, fun A v h1 h2 => ?_⟩, S.os, S.tape, S.output, S.size, S.heap, fun g hg => S.fresh g hg.1, fun g h1 h2 => ⟨S.held g h1 h2, fun k hk => ?_⟩, fun k g hg => ?_⟩
  · simp only [outEnv]; rw [if_pos (by omega)]; exact S.ext.top k hk
  · simp only [outEnv] at hgen ⊢
    rw [if_pos (by omega)] at hgen
    rw [if_pos (by omega), if_pos (by omega)]
    exact S.ext.gen k g hk hg hgen
  · obtain ⟨h3, h4⟩ := S.ext.keep A v h1 h2
    exact ⟨fun hh => h3 hh.1, h4⟩
  · exfalso
    rcases S.blk k g hk with ⟨j, hj⟩ | hge
    · exact h2 j hj
    · have := R0.lt g h1; omega
  · obtain ⟨e, he, hee⟩ := blkOf_some hg
    by_cases hlt : k < n
    · rw [List.getElem?_append_left (by omega)] at he
      obtain ⟨h1, t, cs, h2, h3⟩ := a3 k hlt
      rw [h1, h2] at he; cases he
      exact S.blk k g (by rw [blkOf_of h2]; exact hee)
    · rw [List.getElem?_append_right (by omega), a1] at he
      have hlt2 : k - n < ks.length := by
        have := (List.getElem?_eq_some_iff.1 he).1; omega
      obtain ⟨e', g', xs, h1, h2⟩ := b2 (k - n) _ (List.getElem?_eq_getElem hlt2)
      rw [h2] at he; cases he
      refine S.blk (ks[k - n]) g ?_
      rw [blkOf_of h1]
      simp only [entBlk, outEnv] at hee ⊢
      rw [if_neg (by omega), show ks.getD (k - n) 0 = ks[k - n] by simp [hlt2]] at hee; exact hee
end
end Go.Ab
