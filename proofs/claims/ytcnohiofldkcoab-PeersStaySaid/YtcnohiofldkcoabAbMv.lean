/- Calls by reference: what is handed over goes along as it is, and comes back. -/
import Derived.Test.YtcnohiofldkcoabAbCall
namespace Go.Ab
open Go
set_option linter.unusedSimpArgs false
set_option linter.unusedVariables false

section
variable {P : Program} {base : Nat} {h : Store} {E : Env}

/-- Some of an environment's places, in an order of their own. -/
def subEnv2 (E : Env) (ix : List Nat) : Env :=
  { P := E.P, w := E.w, n := ix.length,
    gen := fun j => match ix[j]? with | some k => E.gen k | none => none
    top := fun j => match ix[j]? with | some k => E.top k | none => 0
    esz := fun j => match ix[j]? with | some k => E.esz k | none => 0
    row := fun j => match ix[j]? with | some k => E.row k | none => undef
    box := fun j => match ix[j]? with | some k => E.box k | none => 0
    own := E.own }

theorem idxOf_some {ix : List Nat} {k j : Nat} (h : ix.idxOf? k = some j) : ix[j]? = some k := by
  obtain ⟨hl, he, _⟩ := List.idxOf?_eq_some_iff.1 h
  rw [List.getElem?_eq_getElem hl]
  simpa using he
theorem idxOf_none {ix : List Nat} {k : Nat} (h : ix.idxOf? k = none) : k ∉ ix := fun hc => List.idxOf?_eq_none_iff.1 h hc
theorem getElem?_lt {ix : List Nat} {k j : Nat} (h : ix[j]? = some k) : j < ix.length := (List.getElem?_eq_some_iff.1 h).1

mutual
theorem relM_vl {ix : List Nat} : ∀ (x : AV) {x' : AV} {v : Value}, relM ix x = some x' → VL E [x] [v] → VL (subEnv2 E ix) [x'] [v] := by
  intro x x' v hl hv
  cases x with
  | sl k g =>
    simp only [relM] at hl
    split at hl
    · rename_i j hj
      cases hl
      have hj := idxOf_some hj
      obtain ⟨_, h2, h3, h4⟩ := hv.sl_inv
      exact .sl (getElem?_lt hj) (by simp only [subEnv2, hj]; exact h2) h3 (fun hg => by simp only [subEnv2, hj] at hg ⊢; exact h4 hg) .nil
    · cases hl
  | sub k g lo hi =>
    simp only [relM] at hl
    split at hl
    · rename_i j hj
      cases hl
      have hj := idxOf_some hj
      obtain ⟨_, h2, h3, h4⟩ := hv.sub_inv
      exact .sub (getElem?_lt hj) (by simp only [subEnv2, hj]; exact h2) h3 (fun hg => by simp only [subEnv2, hj] at hg ⊢; exact h4 hg) .nil
    · cases hl
  | bptr k off =>
    simp only [relM] at hl
    split at hl
    · rename_i j hj
      cases hl
      have hj := idxOf_some hj
      obtain ⟨_, rfl⟩ := hv.bptr_inv
      have hb : (subEnv2 E ix).box j = E.box k := by simp only [subEnv2, hj]
      rw [← hb]
      exact .bptr (getElem?_lt hj) .nil
    · cases hl
  | rptr k g i off =>
    simp only [relM] at hl
    split at hl
    · rename_i j hj
      cases hl
      have hj := idxOf_some hj
      cases hv with
      | data h t => cases h
      | rptr hk hg h1 h2 t => exact .rptr (getElem?_lt hj) (by simp only [subEnv2, hj]; exact hg) h1 (fun hg => by simp only [subEnv2, hj] at hg ⊢; exact h2 hg) .nil
    · cases hl
  | agg cs =>
    simp only [relM] at hl
    split at hl
    · rename_i l hl'
      cases hl
      obtain ⟨us, rfl, h2⟩ := hv.agg_inv
      exact .agg (relMs_vl cs hl' h2) .nil
    · cases hl
  | tup cs =>
    simp only [relM] at hl
    split at hl
    · rename_i l hl'
      cases hl
      obtain ⟨us, rfl, h2⟩ := hv.tup_inv
      exact .tup (relMs_vl cs hl' h2) .nil
    · cases hl
  | fn f cs =>
    simp only [relM] at hl
    split at hl
    · rename_i l hl'
      cases hl
      obtain ⟨us, rfl, h2⟩ := hv.fn_inv
      exact .fn (relMs_vl cs hl' h2) .nil
    · cases hl
  | sc u =>
    simp only [relM] at hl; cases hl
    obtain ⟨rfl, h2⟩ := hv.sc_inv
    exact .data (.sc h2 .nil) .nil
  | lit e f xs =>
    simp only [relM] at hl; cases hl
    exact .data hv.lit_inv .nil
  | lptr e xs i off =>
    simp only [relM] at hl; cases hl
    cases hv with
    | data h t => cases h
    | lptr hs h hr t => exact VL.lptr (E := subEnv2 E ix) hs h hr .nil
  | bad =>
    simp only [relM] at hl; cases hl
    exact .bad .nil
theorem relMs_vl {ix : List Nat} : ∀ (l : List AV) {l' : List AV} {vs : List Value}, relMs ix l = some l' → VL E l vs → VL (subEnv2 E ix) l' vs := by
  intro l l' vs hl hv
  cases l with
  | nil => simp only [relMs] at hl; cases hl; cases hv; exact .nil
  | cons x r =>
    simp only [relMs] at hl
    split at hl
    · rename_i x' hx
      split at hl
      · rename_i r' hr
        cases hl
        obtain ⟨v, us, rfl, h1, h2⟩ := hv.uncons
        exact (relM_vl x hx h1).cons (relMs_vl r hr h2)
      · cases hl
    · cases hl
end

theorem relM_one {ix : List Nat} {x x' : AV} (h : relM ix x = some x') (h1 : x.one = true) : x'.one = true := by
  cases x <;> simp only [relM] at h <;> first
    | (simp [AV.one] at h1; done)
    | (split at h <;> first | (cases h; rfl) | (cases h))
    | (cases h; first | rfl | exact h1)
theorem relMs_one {ix : List Nat} : ∀ {l l' : List AV}, relMs ix l = some l' → (∀ c, c ∈ l → c.one = true) → ∀ c, c ∈ l' → c.one = true := by
  intro l
  induction l with
  | nil => intro l' h _ c hc; simp only [relMs] at h; cases h; cases hc
  | cons x r ih =>
    intro l' h h1 c hc
    simp only [relMs] at h
    split at h
    · rename_i x' hx
      split at h
      · rename_i r' hr
        cases h
        rcases List.mem_cons.1 hc with rfl | hc
        · exact relM_one hx (h1 x (by simp))
        · exact ih hr (fun y hy => h1 y (by simp [hy])) c hc
      · cases h
    · cases h

theorem subM_some {ix : List Nat} : ∀ (l : List Nat) {s : Store}, subM ix h l = some s → s.length = l.length ∧ ∀ (j k : Nat), l[j]? = some k → ∃ e e', h[k]? = some e ∧ entM ix e = some e' ∧ s[j]? = some e' := by
  intro l
  induction l with
  | nil => intro s hs; simp only [subM] at hs; cases hs; exact ⟨rfl, fun j k hj => by cases hj⟩
  | cons k0 l ih =>
    intro s hs
    unfold subM at hs
    split at hs
    · rename_i e he
      split at hs
      · rename_i e' he'
        split at hs
        · rename_i s' hs'
          cases hs
          obtain ⟨h1, h2⟩ := ih hs'
          refine ⟨by simp [h1], fun j k hj => ?_⟩
          cases j with
          | zero => simp at hj; subst hj; exact ⟨e, e', he, he', rfl⟩
          | succ j => simpa using h2 j k (by simpa using hj)
        · cases hs
      · cases hs
    · cases hs

theorem nodupB_iff : ∀ {l : List Nat}, nodupB l = true → l.Nodup := by
  intro l
  induction l with
  | nil => intro _; exact List.nodup_nil
  | cons x r ih =>
    intro h
    unfold nodupB at h
    split at h
    · cases h
    · rename_i hc
      refine List.nodup_cons.2 ⟨?_, ih h⟩
      simpa using hc

/-- Its entries say of it what they say of the whole. -/
theorem entM_ok {ix : List Nat} {j k : Nat} (hj : ix[j]? = some k) {e e' : Ent} (he : EntOk base E k e) (hm : entM ix e = some e') : EntOk base (subEnv2 E ix) j e' := by
  cases e with
  | box t cs =>
    simp only [entM] at hm
    split at hm
    · rename_i cs' hcs
      cases hm
      obtain ⟨h1, h2, h3, h4, vals, h5, h6⟩ := he
      exact ⟨by simp only [subEnv2, hj]; exact h1, by simp only [subEnv2, hj]; exact h2, by simp only [subEnv2, hj]; exact h3, relMs_one hcs h4, vals, by simp only [subEnv2, hj]; exact h5, relMs_vl cs hcs h6⟩
    · cases hm
  | row e g ro xs =>
    simp only [entM] at hm
    cases hm
    cases ro with
    | false =>
      obtain ⟨h1, h2, h3, h4, vals, h5, h6, h7⟩ := he
      exact ⟨by simp only [subEnv2, hj]; exact h1, by simp only [subEnv2, hj]; exact h2, by simp only [subEnv2, hj]; exact h3, h4, vals, by simp only [subEnv2, hj]; exact h5, h6, h7⟩
    | true =>
      obtain ⟨h1, h2, h3, h4, h5⟩ := he
      exact ⟨by simp only [subEnv2, hj]; exact h1, by simp only [subEnv2, hj]; exact h2, by simp only [subEnv2, hj]; exact h3, by simp only [subEnv2, hj]; exact h4, by simp only [subEnv2, hj]; exact h5⟩
theorem entM_blk {ix : List Nat} {j k : Nat} (hj : ix[j]? = some k) {e e' : Ent} (hm : entM ix e = some e') : entBlk (subEnv2 E ix) j e' = entBlk E k e := by
  cases e with
  | box t cs =>
    simp only [entM] at hm
    split at hm
    · cases hm; simp only [entBlk, subEnv2, hj]
    · cases hm
  | row e g ro xs =>
    simp only [entM] at hm
    cases hm
    cases ro <;> simp only [entBlk, subEnv2, hj]

theorem sub2_blk {ix : List Nat} {s : Store} (hs : subM ix h ix = some s) (j : Nat) : blkOf (subEnv2 E ix) s j = match ix[j]? with | some k => blkOf E h k | none => none := by
  obtain ⟨h1, h2⟩ := subM_some ix hs
  cases hj : ix[j]? with
  | none =>
    have : s[j]? = none := by rw [List.getElem?_eq_none_iff] at hj ⊢; omega
    unfold blkOf; rw [this]; rfl
  | some k =>
    obtain ⟨e, e', h3, h4, h5⟩ := h2 j k hj
    rw [blkOf_of h5, entM_blk hj h4]
    exact (blkOf_of h3).symm

theorem nodup_idx {ix : List Nat} (hnd : ix.Nodup) {i j k : Nat} (hi : ix[i]? = some k) (hj : ix[j]? = some k) : i = j := by
  have hi' := getElem?_lt hi
  have hj' := getElem?_lt hj
  rw [List.getElem?_eq_getElem hi'] at hi
  rw [List.getElem?_eq_getElem hj'] at hj
  have heq : ix[i] = ix[j] := by injection hi with hi; injection hj with hj; rw [hi, hj]
  rcases Nat.lt_trichotomy i j with hlt | hlt | hlt
  · exact absurd heq (List.pairwise_iff_getElem.1 hnd i j hi' hj' hlt)
  · exact hlt
  · exact absurd heq.symm (List.pairwise_iff_getElem.1 hnd j i hj' hi' hlt)

theorem sub2_rel (R : Rel base h E) {ix : List Nat} (hnd : ix.Nodup) {s : Store} (hs : subM ix h ix = some s) : Rel base s (subEnv2 E ix) := by
  obtain ⟨h1, h2⟩ := subM_some ix hs
  have blk : ∀ j b, blkOf (subEnv2 E ix) s j = some b → ∃ k, ix[j]? = some k ∧ blkOf E h k = some b := fun j b hb => by
    rw [sub2_blk hs] at hb
    split at hb
    · rename_i k hk; exact ⟨k, hk, hb⟩
    · cases hb
  refine ⟨h1.symm, R.le, fun j e hj => ?_, fun j hj => ?_, fun j b hb => ?_, fun i j b hi hj => ?_, R.lt⟩
  · have hjl : j < ix.length := by rw [← h1]; exact (List.getElem?_eq_some_iff.1 hj).1
    obtain ⟨e0, e', h3, h4, h5⟩ := h2 j _ (List.getElem?_eq_getElem hjl)
    rw [hj] at h5; cases h5
    exact entM_ok (List.getElem?_eq_getElem hjl) (R.ent _ _ h3) h4
  · have : ix[j]? = none := by rw [List.getElem?_eq_none_iff]; omega
    simp only [subEnv2, this]
  · obtain ⟨k, _, hb⟩ := blk j b hb
    exact R.own k b hb
  · obtain ⟨k, hk, hb⟩ := blk i b hi
    obtain ⟨k', hk', hb'⟩ := blk j b hj
    have := R.inj k k' b hb hb'
    subst this
    exact nodup_idx hnd hk hk'

/-! ### What comes back -/

theorem backM_some {f : Nat → Nat} : ∀ (ix : List Nat) {h2 h h' : Store}, backM f ix h2 h = some h' → ix.Nodup → (∀ k, k ∈ ix → k < h.length) →
    ix.length ≤ h2.length ∧ h'.length = h.length + (h2.length - ix.length) ∧ (∀ (k : Nat), k < h.length → k ∉ ix → h'[k]? = h[k]?) ∧ (∀ (j k : Nat), ix[j]? = some k → h'[k]? = (h2[j]?).map (entR f)) ∧ ∀ (k : Nat), h.length ≤ k → h'[k]? = (h2[k - h.length + ix.length]?).map (entR f) := by
  intro ix
  induction ix with
  | nil =>
    intro h2 h h' hb _ _
    simp only [backM] at hb; cases hb
    refine ⟨Nat.zero_le _, by simp, fun k hk _ => List.getElem?_append_left hk, (fun j k hj => by cases hj), fun k hk => ?_⟩
    rw [List.getElem?_append_right hk, List.getElem?_map]
    simp
  | cons k0 ix ih =>
    intro h2 h h' hb hnd hlt
    cases h2 with
    | nil => simp only [backM] at hb; cases hb
    | cons e h2 =>
      simp only [backM] at hb
      rw [List.nodup_cons] at hnd
      obtain ⟨h1, h3, h4, h5, h6⟩ := ih hb hnd.2 (fun k hk => by simpa using hlt k (by simp [hk]))
      simp only [List.length_set] at h3 h4 h6
      refine ⟨by simp; omega, by simp; omega, fun k hk hn => ?_, fun j k hj => ?_, fun k hk => ?_⟩
      · rw [h4 k hk (fun hc => hn (by simp [hc])), List.getElem?_set_ne (fun e => hn (by simp [e]))]
      · cases j with
        | zero =>
          simp at hj; subst hj
          rw [h4 _ (hlt _ (by simp)) hnd.1, List.getElem?_set_self (hlt _ (by simp))]; rfl
        | succ j => simpa using h5 j k (by simpa using hj)
      · rw [h6 k hk]
        simp only [List.length_cons]
        rw [show k - h.length + (ix.length + 1) = (k - h.length + ix.length) + 1 by omega]
        simp

theorem reloc_one {f : Nat → Nat} {x : AV} (h : x.one = true) : (reloc f x).one = true := by cases x <;> first | rfl | (simp [AV.one] at h)
theorem relocs_one {f : Nat → Nat} : ∀ {l : List AV}, (∀ c, c ∈ l → c.one = true) → ∀ c, c ∈ reloc.go f l → c.one = true := by
  intro l
  induction l with
  | nil => intro _ c hc; simp [reloc.go] at hc
  | cons x r ih =>
    intro h c hc
    simp only [reloc.go, List.mem_cons] at hc
    rcases hc with rfl | hc
    · exact reloc_one (h x (by simp))
    · exact ih (fun y hy => h y (by simp [hy])) c hc

/-- The caller's environment, behind a call by reference. -/
def backEnv2 (E : Env) (n m : Nat) (ix : List Nat) (Ec : Env) : Env :=
  let at_ := fun {α : Type} (old new : Nat → α) (k : Nat) => if k < n then (match ix.idxOf? k with | some j => new j | none => old k) else new (k - n + ix.length)
  { P := E.P, w := Ec.w, n := m, gen := at_ E.gen Ec.gen, top := at_ E.top Ec.top, esz := at_ E.esz Ec.esz, row := at_ E.row Ec.row, box := at_ E.box Ec.box, own := Ec.own }

theorem back_at {α : Type} {n : Nat} {ix : List Nat} {old new : Nat → α} {k : Nat} :
    (k < n → ix.idxOf? k = none → (if k < n then (match ix.idxOf? k with | some j => new j | none => old k) else new (k - n + ix.length)) = old k) ∧
    (∀ j, k < n → ix.idxOf? k = some j → (if k < n then (match ix.idxOf? k with | some j => new j | none => old k) else new (k - n + ix.length)) = new j) ∧
    (n ≤ k → (if k < n then (match ix.idxOf? k with | some j => new j | none => old k) else new (k - n + ix.length)) = new (k - n + ix.length)) :=
  ⟨fun h1 h2 => by rw [if_pos h1, h2], fun j h1 h2 => by rw [if_pos h1, h2], fun h1 => by rw [if_neg (by omega)]⟩

/-- The caller's view, behind a call by reference. -/
theorem after_mv (R : Rel base h E) {ix : List Nat} (hnd : ix.Nodup) {s : Store} (hs : subM ix h ix = some s) {h2 h' : Store} (hb : backM (backTo ix h.length) ix h2 h = some h') {Ec : Env} (hPc : Ec.P = E.P) (Rc : Rel base h2 Ec) (Sc : Step s (subEnv2 E ix) h2 Ec) :
    ∃ E', E'.w = Ec.w ∧ Rel base h' E' ∧ Step h E h' E' ∧ ∀ {l : List AV} {vs : List Value}, VL Ec l vs → VL E' (reloc.go (backTo ix h.length) l) vs := by
  obtain ⟨hsl, hsx⟩ := subM_some ix hs
  have hlt : ∀ k, k ∈ ix → k < h.length := fun k hk => by
    obtain ⟨j, hj, rfl⟩ := List.getElem_of_mem hk
    obtain ⟨e, _, h1, _⟩ := hsx j _ (List.getElem?_eq_getElem hj)
    exact (List.getElem?_eq_some_iff.1 h1).1
  obtain ⟨hl2, hlen, hout, hin, hnew⟩ := backM_some ix hb hnd hlt
  have hnE : E.n = h.length := R.n
  have idx_of : ∀ j k, ix[j]? = some k → ix.idxOf? k = some j := fun j k hj => by
    cases hk : ix.idxOf? k with
    | none => exact absurd (List.mem_of_getElem? hj) (idxOf_none hk)
    | some i => rw [nodup_idx hnd (idxOf_some hk) hj]
  generalize hE' : backEnv2 E h.length h'.length ix Ec = E'
  have eP : E'.P = E.P := by rw [← hE']; rfl
  have ew : E'.w = Ec.w := by rw [← hE']; rfl
  have en : E'.n = h'.length := by rw [← hE']; rfl
  have eown : E'.own = Ec.own := by rw [← hE']; rfl
  -- its parts
  have pOld : ∀ k, k < h.length → ix.idxOf? k = none → E'.gen k = E.gen k ∧ E'.top k = E.top k ∧ E'.esz k = E.esz k ∧ E'.row k = E.row k ∧ E'.box k = E.box k := fun k h1 h2 => by
    rw [← hE']
    exact ⟨back_at.1 h1 h2, back_at.1 h1 h2, back_at.1 h1 h2, back_at.1 h1 h2, back_at.1 h1 h2⟩
  have pIn : ∀ k j, k < h.length → ix.idxOf? k = some j → E'.gen k = Ec.gen j ∧ E'.top k = Ec.top j ∧ E'.esz k = Ec.esz j ∧ E'.row k = Ec.row j ∧ E'.box k = Ec.box j := fun k j h1 h2 => by
    rw [← hE']
    exact ⟨back_at.2.1 j h1 h2, back_at.2.1 j h1 h2, back_at.2.1 j h1 h2, back_at.2.1 j h1 h2, back_at.2.1 j h1 h2⟩
  have pNew : ∀ k, h.length ≤ k → E'.gen k = Ec.gen (k - h.length + ix.length) ∧ E'.top k = Ec.top (k - h.length + ix.length) ∧ E'.esz k = Ec.esz (k - h.length + ix.length) ∧ E'.row k = Ec.row (k - h.length + ix.length) ∧ E'.box k = Ec.box (k - h.length + ix.length) := fun k h1 => by
    rw [← hE']
    exact ⟨back_at.2.2 h1, back_at.2.2 h1, back_at.2.2 h1, back_at.2.2 h1, back_at.2.2 h1⟩
  have subj : ∀ j k, ix[j]? = some k → (subEnv2 E ix).gen j = E.gen k ∧ (subEnv2 E ix).top j = E.top k ∧ (subEnv2 E ix).esz j = E.esz k ∧ (subEnv2 E ix).row j = E.row k ∧ (subEnv2 E ix).box j = E.box k := fun j k hj => by
    simp only [subEnv2, hj]; exact ⟨trivial, trivial, trivial, trivial, trivial⟩
  have hsubn : (subEnv2 E ix).n = ix.length := rfl
  -- values
  have hrel : ∀ {l : List AV} {vs : List Value}, VL Ec l vs → VL E' (reloc.go (backTo ix h.length) l) vs := fun {l vs} hv => by
    have place : ∀ k, k < Ec.n → backTo ix h.length k < E'.n ∧ E'.gen (backTo ix h.length k) = Ec.gen k ∧ E'.top (backTo ix h.length k) = Ec.top k ∧ E'.esz (backTo ix h.length k) = Ec.esz k ∧ E'.row (backTo ix h.length k) = Ec.row k ∧ E'.box (backTo ix h.length k) = Ec.box k := fun k hk => by
      rw [Rc.n] at hk
      by_cases hki : k < ix.length
      · have hb : backTo ix h.length k = ix[k] := by unfold backTo; rw [if_pos hki, getD_of (List.getElem?_eq_getElem hki)]
        have hbl : ix[k] < h.length := hlt _ (List.getElem_mem hki)
        rw [hb]
        refine ⟨by rw [en]; omega, ?_⟩
        exact pIn _ _ hbl (idx_of k _ (List.getElem?_eq_getElem hki))
      · have hb : backTo ix h.length k = h.length + (k - ix.length) := by unfold backTo; rw [if_neg hki]
        rw [hb]
        refine ⟨by rw [en]; omega, ?_⟩
        have := pNew (h.length + (k - ix.length)) (by omega)
        rw [show h.length + (k - ix.length) - h.length + ix.length = k by omega] at this
        exact this
    refine reloc_vl (E := Ec) (E' := E') (backTo ix h.length) (by rw [eP, hPc]) ew (fun b hb => by rw [eown] at hb; exact hb) (fun k hk => (place k hk).1) (fun k hk => ?_) hv
    obtain ⟨_, p1, p2, p3, p4, p5⟩ := place k hk
    exact ⟨p1, p2, fun g hg => ⟨p3, p4⟩, p5⟩
  -- entries
  have ent : ∀ k e, h'[k]? = some e → (k < h.length ∧ ix.idxOf? k = none ∧ h[k]? = some e) ∨ ∃ j e0, h2[j]? = some e0 ∧ e = entR (backTo ix h.length) e0 ∧ (E'.gen k = Ec.gen j ∧ E'.top k = Ec.top j ∧ E'.esz k = Ec.esz j ∧ E'.row k = Ec.row j ∧ E'.box k = Ec.box j) ∧ ((k < h.length ∧ ix[j]? = some k) ∨ (h.length ≤ k ∧ j = k - h.length + ix.length)) := fun k e he => by
    by_cases hk : k < h.length
    · cases hi : ix.idxOf? k with
      | none => exact .inl ⟨hk, rfl, by rw [← hout k hk (idxOf_none hi)]; exact he⟩
      | some j =>
        have hj := idxOf_some hi
        rw [hin j k hj] at he
        obtain ⟨e0, h3, rfl⟩ := Option.map_eq_some_iff.1 he
        exact .inr ⟨j, e0, h3, rfl, pIn k j hk hi, .inl ⟨hk, hj⟩⟩
    · rw [hnew k (by omega)] at he
      obtain ⟨e0, h3, rfl⟩ := Option.map_eq_some_iff.1 he
      exact .inr ⟨_, e0, h3, rfl, pNew k (by omega), .inr ⟨by omega, rfl⟩⟩
  have entR_blk : ∀ k j e0, E'.row k = Ec.row j → E'.box k = Ec.box j → entBlk E' k (entR (backTo ix h.length) e0) = entBlk Ec j e0 := fun k j e0 h4 h5 => by
    cases e0 with
    | box t cs => simp only [entR, entBlk, h5]
    | row e g ro xs => cases ro <;> simp only [entR, entBlk, h4]
  -- blocks
  have subblk : ∀ j b, blkOf (subEnv2 E ix) s j = some b → ∃ k, ix[j]? = some k ∧ blkOf E h k = some b := fun j b hb => by
    rw [sub2_blk hs] at hb
    split at hb
    · rename_i k hk; exact ⟨k, hk, hb⟩
    · cases hb
  have blk : ∀ k b, blkOf E' h' k = some b → (k < h.length ∧ ix.idxOf? k = none ∧ blkOf E h k = some b) ∨ ∃ j, blkOf Ec h2 j = some b ∧ ((k < h.length ∧ ix[j]? = some k) ∨ (h.length ≤ k ∧ j = k - h.length + ix.length)) := fun k b hkb => by
    obtain ⟨e, he, hbe⟩ := blkOf_some hkb
    rcases ent k e he with ⟨h1, h3, h4⟩ | ⟨j, e0, h1, rfl, ⟨_, _, _, p4, p5⟩, h4⟩
    · obtain ⟨_, _, _, p4, p5⟩ := pOld k h1 h3
      rw [entBlk_same p4 p5] at hbe
      exact .inl ⟨h1, h3, by rw [blkOf_of h4]; exact hbe⟩
    · rw [entR_blk k j e0 p4 p5] at hbe
      exact .inr ⟨j, by rw [blkOf_of h1]; exact hbe, h4⟩
  have notSub : ∀ k b, k < h.length → ix.idxOf? k = none → blkOf E h k = some b → ∀ j, blkOf (subEnv2 E ix) s j ≠ some b := fun k b hk hi hkb j hj => by
    obtain ⟨k', h1, h3⟩ := subblk j b hj
    have := R.inj k k' b hkb h3
    subst this
    exact idxOf_none hi (List.mem_of_getElem? h1)
  have blkBack : ∀ j b, blkOf Ec h2 j = some b → (∃ k, k ∈ ix ∧ blkOf E h k = some b) ∨ E.w.heap.size ≤ b := fun j b hjb => by
    rcases Sc.blk j b hjb with ⟨i, hi⟩ | h1
    · obtain ⟨k, h3, h4⟩ := subblk i b hi
      exact .inl ⟨k, List.mem_of_getElem? h3, h4⟩
    · exact .inr h1
  have heapN : ∀ b, b < E.w.heap.size → (∀ k, blkOf E h k ≠ some b) → E'.w.heap[b]? = E.w.heap[b]? := fun b hb hn => by
    rw [ew]
    exact Sc.heap b hb (fun j hj => by obtain ⟨k, _, h3⟩ := subblk j b hj; exact hn k h3)
  have hx : Ext E E' := by
    refine ⟨eP, by rw [en, hnE, hlen]; omega, fun k hk => ?_, fun k g hk hg hc => ?_, fun k hk => ?_, fun a v ho hc => ?_⟩
    · rw [hnE] at hk
      cases hi : ix.idxOf? k with
      | none => rw [(pOld k hk hi).2.1]; exact Nat.le_refl _
      | some j =>
        have hj := idxOf_some hi
        rw [(pIn k j hk hi).2.1, ← (subj j k hj).2.1]
        exact Sc.ext.top j (getElem?_lt hj)
    · rw [hnE] at hk
      cases hi : ix.idxOf? k with
      | none =>
        obtain ⟨p1, p2, p3, p4, p5⟩ := pOld k hk hi
        rw [p1] at hc
        exact ⟨hc, p4, p3⟩
      | some j =>
        have hj := idxOf_some hi
        obtain ⟨p1, p2, p3, p4, p5⟩ := pIn k j hk hi
        obtain ⟨q1, q2, q3, q4, q5⟩ := subj j k hj
        rw [p1] at hc
        obtain ⟨r1, r2, r3⟩ := Sc.ext.gen j g (getElem?_lt hj) (by rw [q2]; exact hg) hc
        exact ⟨by rw [← q1]; exact r1, by rw [p4, r2, q4], by rw [p3, r3, q3]⟩
    · rw [hnE] at hk
      cases hi : ix.idxOf? k with
      | none => exact (pOld k hk hi).2.2.2.2
      | some j =>
        have hj := idxOf_some hi
        rw [(pIn k j hk hi).2.2.2.2, Sc.ext.box j (getElem?_lt hj)]
        exact (subj j k hj).2.2.2.2
    · rw [eown, ew]
      exact Sc.ext.keep a v ho hc
  have S : Step h E h' E' := ⟨hx, by rw [ew]; exact Sc.os, by rw [ew]; exact Sc.tape, by rw [ew]; exact Sc.output, by rw [ew]; exact Sc.size, heapN, fun b hb => by rw [eown] at hb; exact Sc.fresh b hb, fun b hb hn => by
      rw [eown]
      exact Sc.held b hb (fun j hj => by obtain ⟨k, _, h3⟩ := subblk j b hj; exact hn k h3), fun k b hkb => by
      rcases blk k b hkb with ⟨_, _, h3⟩ | ⟨j, h3, _⟩
      · exact .inl ⟨k, h3⟩
      · rcases blkBack j b h3 with ⟨k', _, h4⟩ | h4
        · exact .inl ⟨k', h4⟩
        · exact .inr h4⟩
  refine ⟨E', ew, ⟨en, by rw [ew]; exact Nat.le_trans R.le Sc.size, fun k e he => ?_, fun k hk => ?_, fun k b hkb => ?_, fun i j b hi hj => ?_, fun b hb => by rw [eown] at hb; rw [ew]; exact Rc.lt b hb⟩, S, hrel⟩
  · rcases ent k e he with ⟨h1, h3, h4⟩ | ⟨j, e0, h1, rfl, ⟨p1, p2, p3, p4, p5⟩, _⟩
    · refine (R.ent k e h4).step hx (pOld k h1 h3) (fun b hbe => ?_)
      have hkb : blkOf E h k = some b := by rw [blkOf_of h4]; exact hbe
      rw [ew]
      exact Sc.heap b (R.lt b (R.own k b hkb)) (notSub k b h1 h3 hkb)
    · have hro := Rc.ent j e0 h1
      cases e0 with
      | box t cs =>
        obtain ⟨g1, g2, g3, g4, vals, g5, g6⟩ := hro
        exact ⟨by rw [p1]; exact g1, by rw [p2]; exact g2, by rw [p5]; exact g3, relocs_one g4, vals, by rw [ew, p5]; exact g5, hrel g6⟩
      | row e g ro xs =>
        cases ro with
        | false =>
          obtain ⟨g1, g2, g3, g4, vals, g5, g6, g7⟩ := hro
          rw [hPc] at g3 g4 g5 g6
          exact ⟨by rw [p1]; exact g1, by rw [p2]; exact g2, by rw [p3, eP]; exact g3, by rw [eP]; exact g4, vals, by rw [ew, eP, p4]; exact g5, by rw [eP, ew, eown]; exact g6, g7⟩
        | true =>
          obtain ⟨g1, g2, g3, g4, g5⟩ := hro
          rw [hPc] at g3 g4
          exact ⟨by rw [p1]; exact g1, by rw [p2]; exact g2, by rw [p3, eP]; exact g3, by rw [eP, ew, eown, p4]; exact g4, by rw [p4]; exact g5⟩
  · rw [hlen] at hk
    rw [(pNew k (by omega)).1]
    exact Rc.nogen _ (by omega)
  · rw [eown]
    rcases blk k b hkb with ⟨h1, h3, h4⟩ | ⟨j, h3, _⟩
    · exact Sc.held b (R.own k b h4) (notSub k b h1 h3 h4)
    · exact Rc.own j b h3
  · have mixed : ∀ k b, k < h.length → ix.idxOf? k = none → blkOf E h k = some b → ∀ j, blkOf Ec h2 j ≠ some b := fun k b h1 h3 h4 j hj => by
      rcases blkBack j b hj with ⟨k', h5, h6⟩ | h5
      · have := R.inj k k' b h4 h6
        subst this
        exact idxOf_none h3 h5
      · have := R.lt b (R.own k b h4); omega
    rcases blk i b hi with ⟨a1, a2, a3⟩ | ⟨a1, a2, a3⟩ <;> rcases blk j b hj with ⟨c1, c2, c3⟩ | ⟨c1, c2, c3⟩
    · exact R.inj i j b a3 c3
    · exact absurd c2 (mixed i b a1 a2 a3 c1)
    · exact absurd a2 (mixed j b c1 c2 c3 a1)
    · have := Rc.inj a1 c1 b a2 c2
      subst this
      rcases a3 with ⟨d1, d2⟩ | ⟨d1, d2⟩ <;> rcases c3 with ⟨f1, f2⟩ | ⟨f1, f2⟩
      · rw [d2] at f2; injection f2
      · have := getElem?_lt d2; omega
      · have := getElem?_lt f2; omega
      · omega

/-- A call by reference comes to what the interpreter says. -/
theorem callMv_sound {I : Ifc} (IH : CallOk P base I) (R : Rel base h E) (hP : E.P = P) {args : List AV} {vs : List Value} (hv : VL E args vs) {f : FuncId} {v : AV} {h3 : Store} {m : Nat} (he : callMv I f args h = some (v, h3, m)) :
    Calls P f vs.toArray E.w fun e w' => ∃ v' E', e = .returned v' ∧ E'.w = w' ∧ Rel base h3 E' ∧ Step h E h3 E' ∧ VL E' [v] [v'] := by
  unfold callMv callMv1 at he
  generalize reach h 64 (rfs args) [] = ix at he
  split at he
  · cases he
  · rename_i args' ha
    split at he
    · cases he
    · rename_i s hs
      split at he
      · cases he
      · rename_i hnd
        have hnd := nodupB_iff hnd
        split at he
        · cases he
        · rename_i r h2 hc
          split at he
          · cases he
          · rename_i h' hb
            cases he
            refine (IH f args' s r h2 hc (subEnv2 E ix) vs hP (sub2_rel R hnd hs) (relMs_vl args ha hv)).mono fun e w' ⟨v', Ec, hev, hw, Rc, Sc, hr⟩ => ?_
            obtain ⟨E', e1, e2, e3, e4⟩ := after_mv R hnd hs hb Sc.ext.P Rc Sc
            refine ⟨v', E', hev, e1.trans hw, e2, e3, ?_⟩
            have := e4 hr
            simpa [reloc.go] using this

/-! ### A function's end -/

/-- The front of a row, as a row of its own. -/
theorem trim_ok (R : Rel base h E) {rs rs1 : List AV} {h1 : Store} {us : List Value} (V : VL E rs us) (he : trim Ops.std rs h = some (rs1, h1)) : ∃ E', E'.w = E.w ∧ Rel base h1 E' ∧ Step h E h1 E' ∧ VL E' rs1 us := by
  have same : some (rs, h) = some (rs1, h1) → ∃ E', E'.w = E.w ∧ Rel base h1 E' ∧ Step h E h1 E' ∧ VL E' rs1 us := fun e => by
    injection e with e
    injection e with e1 e2
    subst e1 e2
    exact ⟨E, rfl, R, Step.refl h E, V⟩
  unfold trim at he
  split at he
  · rename_i k g lo hi
    split at he
    · rename_i h0
      split at he
      · rename_i e xs hr
        split at he
        · rename_i ys hys
          injection he with he
          injection he with he1 he2
          subst he1 he2
          obtain ⟨u, rfl, hv⟩ := V.one_inv
          have h0' : lo = 0 := by simpa [Ops.std] using h0
          subst h0'
          have hk := rowOf_some hr
          obtain ⟨hgen, htop, hesz, hsx, olds, hrow, hdx, honex⟩ := R.ent k _ hk
          obtain ⟨hkn, hg, hu1, hsub⟩ := hv.sub_inv
          obtain ⟨_, h01, a, cap, hve, hc, hm, _, hz⟩ := hsub hgen
          obtain ⟨n0, hrk⟩ := hz rfl
          simp only [Ops.std] at hys
          split at hys
          · rename_i hbd
            cases hys
            have hn : (hi - 0).toNat = hi.toNat := by congr 1; omega
            rw [hn] at hve hc
            have hle : hi.toNat ≤ xs.length := by omega
            have hlen : ((xs.take hi.toNat).drop (0 : Int).toNat).length = hi.toNat := by simp; omega
            have htk : (xs.take hi.toNat).drop (0 : Int).toNat = xs.take hi.toNat := by simp
            rw [htk] at hlen ⊢
            have hblk : ∀ b, rowBlk u = some b → rowBlk (E.row k) = some b := fun b hb => by
              rw [hve] at hb
              rw [hrk]
              cases cap with
              | zero => cases a <;> simp [rowBlk] at hb
              | succ c => cases a <;> simp [rowBlk] at hb ⊢; exact hb
            obtain ⟨E', e1, e2, e3, e4⟩ := row_new (base := base) R hk (w' := E.w) (v' := u) (xs' := xs.take hi.toNat) (vals' := olds.take (hi.toNat * E.P.cellsOf e)) rfl rfl rfl (Nat.le_refl _) (fun _ _ _ => rfl)
              (fun b hb => ⟨.inl (hblk b hb), R.lt b (R.own k b (by rw [blkOf_of hk]; exact hblk b hb))⟩)
              (by
                rw [hlen, hve]
                refine ⟨by rw [List.length_take, hrow.1]; exact Nat.min_eq_left (Nat.mul_le_mul_right _ hle), ?_⟩
                rcases hrow.2 with ⟨hn0, a', ha'⟩ | ⟨b0, cap', cur, hc0, ha', hbb, hh, hlec, hmx, hcs, htk2⟩
                · rw [hrk] at ha'
                  injection ha' with e1 _ e3
                  refine .inl ⟨by omega, a, ?_⟩
                  rw [e3, show hi.toNat = 0 by omega]
                · rw [hrk] at ha'
                  injection ha' with e1 _ e3
                  subst e1 e3
                  refine .inr ⟨b0, cap, cur, hc0, rfl, hbb, hh, hc, hmx, hcs, ?_⟩
                  rw [← htk2, List.take_take, Nat.min_eq_left (Nat.mul_le_mul_right _ hle)])
              hu1 (fun x hx => hsx x (List.mem_of_mem_take hx)) (fun v hv => honex v (List.mem_of_mem_take hv)) (by rw [flat_take hsx]; exact hdx.take _)
            exact ⟨E', e1, e2, e3, e4⟩
          · cases hys
        · cases he
      · exact same he
    · exact same he
  · exact same he

/-- What goes back as it is. -/
theorem gc_ok {s h : Store} {E0 E : Env} (R0 : Rel base s E0) (S : Step s E0 h E) (R : Rel base h E) {rs rs' : List AV} {us : List Value} (V : VL E rs us) {s' : Store} (he : gcOut s.length rs h = some (rs', s')) :
    ∃ E', E'.w = E.w ∧ Rel base s' E' ∧ Step s E0 s' E' ∧ VL E' rs' us := by
  unfold gcOut at he
  generalize (reach h 64 (rfs rs ++ outerRefs s.length h) (List.range s.length)).drop s.length = ks at he
  unfold gcOut1 at he
  split at he
  · cases he
  · rename_i r1 hr1
    split at he
    · cases he
    · rename_i s1 hs1
      split at he
      · cases he
      · rename_i hnd
        cases he
        have hnd := nodupB_iff hnd
        have R' := sub2_rel R hnd hs1
        have hrange : ∀ k, k < s.length → (List.range s.length ++ ks)[k]? = some k := fun k hk => by
          rw [List.getElem?_append_left (by simpa using hk)]; simp [hk]
        have sub : ∀ k, k < s.length → (subEnv2 E (List.range s.length ++ ks)).gen k = E.gen k ∧ (subEnv2 E (List.range s.length ++ ks)).top k = E.top k ∧ (subEnv2 E (List.range s.length ++ ks)).esz k = E.esz k ∧ (subEnv2 E (List.range s.length ++ ks)).row k = E.row k ∧ (subEnv2 E (List.range s.length ++ ks)).box k = E.box k := fun k hk => by
          simp only [subEnv2, hrange k hk]; exact ⟨trivial, trivial, trivial, trivial, trivial⟩
        have hn0 : E0.n = s.length := R0.n
        refine ⟨subEnv2 E (List.range s.length ++ ks), rfl, R', ⟨⟨S.ext.P, ?_, fun k hk => ?_, fun k g hk hg hc => ?_, fun k hk => ?_, S.ext.keep⟩, S.os, S.tape, S.output, S.size, S.heap, S.fresh, S.held, fun k b hb => ?_⟩, relMs_vl rs hr1 V⟩
        · show E0.n ≤ (List.range s.length ++ ks).length
          rw [hn0]; simp
        · rw [(sub k (by omega)).2.1]; exact S.ext.top k hk
        · obtain ⟨q1, q2, q3, q4, q5⟩ := sub k (by omega)
          rw [q1] at hc
          rw [q3, q4]
          exact S.ext.gen k g hk hg hc
        · rw [(sub k (by omega)).2.2.2.2]; exact S.ext.box k hk
        · rw [sub2_blk hs1] at hb
          split at hb
          · exact S.blk _ b hb
          · cases hb
end
end Go.Ab
