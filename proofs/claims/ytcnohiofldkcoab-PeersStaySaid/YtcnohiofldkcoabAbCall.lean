/- Calls: what is handed over, and what comes back. -/
import Derived.Test.YtcnohiofldkcoabAbRow2
namespace Go.Ab
open Go
set_option linter.unusedSimpArgs false
set_option linter.unusedVariables false

section
variable {P : Program} {base : Nat} {h : Store} {E : Env}

/-- The environment of a call. -/
def subEnv (E : Env) (L : Nat → Prop) (ix : List Nat) : Env :=
  { P := E.P, w := E.w, n := ix.length, gen := fun _ => none, top := fun _ => 0, esz := fun _ => 0, row := fun _ => undef, box := fun j => E.box (ix.getD j 0), own := fun b => E.own b ∧ ¬ L b }

theorem DL.less {w : World} {own own' : Nat → Prop} (hle : ∀ b, own' b → own b) {l : List AV} {vs : List Value} (h : DL P w own l vs) : DL P w own' l vs :=
  h.ext (fun a v ho hc => ⟨fun h => ho (hle _ h), hc⟩)

theorem sc_vl {E E' : Env} {cs : List AV} {vs : List Value} (h : VL E cs vs) (hs : cs.all isSc = true) : VL E' cs vs := by
  induction cs generalizing vs with
  | nil => cases h; exact .nil
  | cons c cs ih =>
    obtain ⟨v, us, rfl, h1, h2⟩ := h.uncons
    simp only [List.all_cons, Bool.and_eq_true] at hs
    cases c with
    | sc u => obtain ⟨rfl, hp⟩ := h1.sc_inv; exact .data (.sc hp .nil) (ih h2 hs.2)
    | _ => simp [isSc] at hs

theorem lendCaps_vl (R : Rel base h E) {L : Nat → Prop} (caps : List AV) : ∀ {ix : List Nat} {caps' : List AV} {ix' : List Nat} {vs : List Value}, lendCaps caps ix = some (caps', ix') → VL E caps vs → ix.Nodup →
    ix'.Nodup ∧ (∃ m, ix' = ix ++ m) ∧ ∀ m, VL (subEnv E L (ix' ++ m)) caps' vs := by
  induction caps with
  | nil =>
    intro ix caps' ix' vs hl hv hnd
    simp only [lendCaps] at hl; cases hl; cases hv
    exact ⟨hnd, ⟨[], by simp⟩, fun m => .nil⟩
  | cons c caps ih =>
    intro ix caps' ix' vs hl hv hnd
    obtain ⟨v, us, rfl, h1, h2⟩ := hv.uncons
    cases c with
    | bptr b off =>
      obtain ⟨hb, rfl⟩ := h1.bptr_inv
      simp only [lendCaps] at hl
      split at hl
      · rename_i j hj
        split at hl
        · cases hl
          rename_i r' hr
          obtain ⟨h3, ⟨m0, hm0⟩, h4⟩ := ih hr h2 hnd
          refine ⟨h3, ⟨m0, hm0⟩, fun m => ?_⟩
          have hjs := List.idxOf?_eq_some_iff.1 hj
          obtain ⟨hjl, hje, _⟩ := hjs
          have hbox : (subEnv E L (ix' ++ m)).box j = E.box b := by
            show E.box ((ix' ++ m).getD j 0) = _
            have : (ix' ++ m)[j]? = some b := by
              rw [hm0, List.append_assoc, List.getElem?_append_left hjl, List.getElem?_eq_getElem hjl]
              simpa using hje
            simp [List.getD, this]
          rw [← hbox]
          exact .bptr (by show j < (ix' ++ m).length; rw [hm0]; simp; omega) (h4 m)
        · cases hl
      · rename_i hj
        split at hl
        · cases hl
          rename_i r' hr
          have hni : b ∉ ix := by
            intro hc
            have := List.idxOf?_eq_none_iff.1 hj
            exact this hc
          obtain ⟨h3, ⟨m0, hm0⟩, h4⟩ := ih hr h2 (by
            rw [List.nodup_append]
            refine ⟨hnd, by simp, fun x hx y hy hxy => ?_⟩
            rw [List.mem_singleton] at hy
            rw [← hy, ← hxy] at hni
            exact hni hx)
          refine ⟨h3, ⟨[b] ++ m0, by rw [hm0, List.append_assoc]⟩, fun m => ?_⟩
          have hbox : (subEnv E L (ix' ++ m)).box ix.length = E.box b := by
            show E.box ((ix' ++ m).getD ix.length 0) = _
            have : (ix' ++ m)[ix.length]? = some b := by
              rw [hm0]; simp
            simp [List.getD, this]
          rw [← hbox]
          exact .bptr (by show ix.length < (ix' ++ m).length; rw [hm0]; simp) (h4 m)
        · cases hl
    | _ => simp [lendCaps] at hl

/-- A row's list, where its block may be read. -/
theorem row_lit (R : Rel base h E) {L : Nat → Prop} {k g : Nat} {e : TypeId} {ro : Bool} {xs : List AV} (hr : rowOf h k g = some (e, ro, xs)) (hL : ∀ b, blkOf E h k = some b → L b) : DL E.P E.w (fun b => E.own b ∧ ¬ L b) [.lit e false xs] [E.row k] := by
  have hk := rowOf_some hr
  obtain ⟨hgen, hesz, hs, a, cap, vals, hv, hc, hm, hd, hone, hrd⟩ := row_reads R hr
  have ho := R.ent k _ hk
  cases ro with
  | true =>
    obtain ⟨_, _, _, h4, _⟩ := ho
    exact h4.less (fun b hb => hb.1)
  | false =>
    obtain ⟨_, _, _, _, vals2, hrow, hd2, hone2⟩ := ho
    rw [hv]
    refine .lit hc hm (by intro h; cases h) hs (hd.less (fun b hb => hb.1)) hone (fun j u hu => ?_) .nil
    obtain ⟨b, hab, hcell⟩ := hrd j u hu
    refine ⟨b, 0, hab, fun hb => hb.2 (hL b ?_), by rw [Nat.zero_add]; exact hcell⟩
    rw [blkOf_of hk]
    show rowBlk (E.row k) = some b
    rcases hrow.2 with ⟨hn0, a', ha⟩ | ⟨b0, cap', cur, hc0, ha, _⟩
    · have h1 := hd.length
      rw [List.eq_nil_of_length_eq_zero hn0] at h1
      simp [flat] at h1
      rw [h1] at hu; cases hu
    · rw [hv, hab] at ha
      injection ha with hab' _ hcc
      injection hab' with hab'
      injection hab' with hbb _ _
      subst hbb hcc
      rw [hv, hab]
      cases cap with
      | zero => omega
      | succ c => rfl

/-- A part of a row. -/
theorem sub_lit (R : Rel base h E) {L : Nat → Prop} {k g : Nat} {lo hi : Int} {v : Value} (hv : VL E [.sub k g lo hi] [v]) {e : TypeId} {ro : Bool} {xs ys : List AV} (hr : rowOf h k g = some (e, ro, xs)) (hy : Ops.std.lsub xs lo hi = some ys) (hL : ∀ b, blkOf E h k = some b → L b) :
    DL E.P E.w (fun b => E.own b ∧ ¬ L b) [.lit e false ys] [v] := by
  have hel : elemsOf Ops.std h (.sub k g lo hi) = some ys := by simp only [elemsOf, hr]; exact hy
  have hea : elemsAt Ops.std h e (.sub k g lo hi) = some ys := by simp only [elemsAt, hr, if_true]; exact hy
  obtain ⟨ad, cap, vals, hve, hc, hm, hd, hone, _, hrd⟩ := elems_vl R hv hel
  obtain ⟨_, hs⟩ := elemsAt_some R hv hea
  obtain ⟨a0, cap0, vals0, hv0, _, _, _, hs0, hd0, hone0, hrd0⟩ := (row_lit R hr hL).lit_inv
  rw [hve]
  refine .lit hc hm (by intro h; cases h) hs (hd.less (fun b hb => hb.1)) hone (fun j u hu => ?_) .nil
  obtain ⟨b, o, hab, hcell⟩ := hrd j u hu
  refine ⟨b, o, hab, ?_, hcell⟩
  -- the part lies in the row's own block
  obtain ⟨_, _, _, hsub⟩ := hv.sub_inv
  obtain ⟨h0, h01, ad2, cap2, hv2, hc2, hm2, hb2, _⟩ := hsub (row_reads R hr).1
  have hne : ys ≠ [] := by
    rintro rfl
    have h1 := hd.length
    simp [flat] at h1
    rw [h1] at hu; cases hu
  simp only [Ops.std] at hy
  split at hy
  · rename_i hbd
    cases hy
    have hlt : lo < hi := by
      rcases Int.lt_or_eq_of_le h01 with h | h
      · exact h
      · subst h; exfalso; apply hne; rw [List.drop_eq_nil_of_le]; simp; omega
    obtain ⟨b', hh, hab2⟩ := hb2 hlt
    rw [hve] at hv2
    injection hv2 with e1 _ _
    rw [← e1, hab] at hab2
    injection hab2 with hab2
    injection hab2 with hbb _ _
    subst hbb
    -- a cell of the row itself
    have hvl : vals0 ≠ [] := by
      intro hn
      have h1 := hd0.length
      rw [hn, flat_len hs0] at h1
      have h2 := hd.length
      rw [flat_len (s := E.P.cellsOf e) (fun x hx => hs0 x (List.mem_of_mem_take (List.mem_of_mem_drop hx)))] at h2
      have h3 : vals.length ≠ 0 := by intro h; rw [List.eq_nil_of_length_eq_zero h] at hu; cases hu
      rcases Nat.mul_eq_zero.1 h1.symm with h | h
      · have := hbd.2.2; rw [h] at this; omega
      · rw [h] at h2; omega
    obtain ⟨u0, hu0⟩ : ∃ u, vals0[0]? = some u := by
      cases vals0 with
      | nil => exact absurd rfl hvl
      | cons u us => exact ⟨u, rfl⟩
    obtain ⟨b1, o1, hab1, hno1, _⟩ := hrd0 0 u0 hu0
    obtain ⟨n', c', hrow'⟩ := hh
    rw [hv0, hab1] at hrow'
    injection hrow' with hab' _ _
    injection hab' with hab'
    injection hab' with hbb _ _
    subst hbb
    exact hno1
  · cases hy

/-- The blocks of the rows that are lent. -/
def LentK (E : Env) (h : Store) (ks : List Nat) (b : Nat) : Prop := ∃ k, k ∈ ks ∧ (∃ e g ro xs, h[k]? = some (.row e g ro xs)) ∧ blkOf E h k = some b
def Lent (E : Env) (h : Store) (args : List AV) (b : Nat) : Prop := LentK E h (refs args) b

theorem LentK.mono {ks ks' : List Nat} (hs : ∀ k, k ∈ ks → k ∈ ks') {b : Nat} (h1 : LentK E h ks b) : LentK E h ks' b := by
  obtain ⟨k, h2, h3⟩ := h1
  exact ⟨k, hs k h2, h3⟩

mutual
theorem lendV_dl (R : Rel base h E) {L : Nat → Prop} : ∀ (x : AV) {x' : AV} {v : Value}, lendV Ops.std h x = some x' → VL E [x] [v] → (∀ b, LentK E h (refs1 x) b → L b) → DL E.P E.w (fun b => E.own b ∧ ¬ L b) [x'] [v] := by
  intro x x' v hl hv hL
  cases x with
  | sl k g =>
    simp only [lendV] at hl
    split at hl
    · rename_i e ro xs hrow
      cases hl
      have hv' := hv.sl_inv.2.2.2 (row_reads R hrow).1
      subst hv'
      exact row_lit R hrow (fun b hb => hL b ⟨k, by simp [refs1], ⟨_, _, _, _, rowOf_some hrow⟩, hb⟩)
    · cases hl
  | sub k g lo hi =>
    simp only [lendV] at hl
    split at hl
    · rename_i e ro xs hrow
      split at hl
      · rename_i ys hys
        cases hl
        exact sub_lit R hv hrow hys (fun b hb => hL b ⟨k, by simp [refs1], ⟨_, _, _, _, rowOf_some hrow⟩, hb⟩)
      · cases hl
    · cases hl
  | agg cs =>
    simp only [lendV] at hl
    split at hl
    · rename_i cs' hcs
      cases hl
      obtain ⟨us, rfl, h2⟩ := hv.agg_inv
      exact .agg (lendVs_dl R cs hcs h2 (fun b hb => hL b (by simpa only [refs1] using hb))) .nil
    · cases hl
  | sc u =>
    simp only [lendV] at hl
    cases hl
    obtain ⟨rfl, h2⟩ := hv.sc_inv
    exact .sc h2 .nil
  | lit e f xs =>
    simp only [lendV] at hl
    cases hl
    exact hv.lit_inv.less (fun b hb => hb.1)
  | _ => simp only [lendV] at hl; cases hl
theorem lendVs_dl (R : Rel base h E) {L : Nat → Prop} : ∀ (l : List AV) {l' : List AV} {vs : List Value}, lendVs Ops.std h l = some l' → VL E l vs → (∀ b, LentK E h (refs l) b → L b) → DL E.P E.w (fun b => E.own b ∧ ¬ L b) l' vs := by
  intro l l' vs hl hv hL
  cases l with
  | nil => simp only [lendVs] at hl; cases hl; cases hv; exact .nil
  | cons x r =>
    simp only [lendVs] at hl
    split at hl
    · rename_i x' hx
      split at hl
      · rename_i r' hr
        cases hl
        obtain ⟨v, us, rfl, h1, h2⟩ := hv.uncons
        have a := lendV_dl R x hx h1 (fun b hb => hL b (hb.mono (fun k hk => by simp only [refs]; exact List.mem_append_left _ hk)))
        have b := lendVs_dl R r hr h2 (fun b hb => hL b (hb.mono (fun k hk => by simp only [refs]; exact List.mem_append_right _ hk)))
        exact a.append b
      · cases hl
    · cases hl
end

theorem lend_vl (R : Rel base h E) {L : Nat → Prop} (args : List AV) : ∀ {ix : List Nat} {args' : List AV} {ix' : List Nat} {vs : List Value}, lend Ops.std h args ix = some (args', ix') → VL E args vs → ix.Nodup → (∀ b, Lent E h args b → L b) →
    ix'.Nodup ∧ (∃ m, ix' = ix ++ m) ∧ ∀ m, VL (subEnv E L (ix' ++ m)) args' vs := by
  induction args with
  | nil =>
    intro ix args' ix' vs hl hv hnd _
    simp only [lend] at hl; cases hl; cases hv
    exact ⟨hnd, ⟨[], by simp⟩, fun m => .nil⟩
  | cons x args ih =>
    intro ix args' ix' vs hl hv hnd hL
    obtain ⟨v, us, rfl, h1, h2⟩ := hv.uncons
    have hL' : ∀ b, Lent E h args b → L b := fun b hb => hL b (LentK.mono (fun k hk => by simp only [refs]; exact List.mem_append_right _ hk) hb)
    have hL1 : ∀ b, LentK E h (refs1 x) b → L b := fun b hb => hL b (LentK.mono (fun k hk => by simp only [refs]; exact List.mem_append_left _ hk) hb)
    have fin : ∀ {x' : AV} {ix1 : List Nat} {r' : List AV} , lend Ops.std h args ix1 = some (r', ix') → ix1.Nodup → (∃ m, ix1 = ix ++ m) → (∀ m, VL (subEnv E L (ix1 ++ m)) [x'] [v]) →
        ix'.Nodup ∧ (∃ m, ix' = ix ++ m) ∧ ∀ m, VL (subEnv E L (ix' ++ m)) (x' :: r') (v :: us) := fun {x' ix1 r'} hr hnd1 hm1 hx => by
      obtain ⟨h3, ⟨m0, hm0⟩, h4⟩ := ih hr h2 hnd1 hL'
      obtain ⟨m1, hm1⟩ := hm1
      exact ⟨h3, ⟨m1 ++ m0, by rw [hm0, hm1, List.append_assoc]⟩, fun m => VL.cons (by rw [hm0, List.append_assoc]; exact hx _) (h4 m)⟩
    cases x with
    | fn f caps =>
      simp only [lend] at hl
      split at hl
      · rename_i caps' ix1 hc
        split at hl
        · cases hl
          rename_i r' hr
          obtain ⟨vs', rfl, hv'⟩ := h1.fn_inv
          obtain ⟨h3, hm, h4⟩ := lendCaps_vl (L := L) R caps hc hv' hnd
          exact fin hr h3 hm (fun m => .fn (h4 m) .nil)
        · cases hl
      · cases hl
    | bptr b off =>
      simp only [lend] at hl
      split at hl
      · rename_i x' ix1 hc
        split at hl
        · cases hl
          rename_i r' hr
          obtain ⟨h3, ⟨m1, hm1⟩, h4⟩ := lendCaps_vl (L := L) R [.bptr b off] hc h1 hnd
          obtain ⟨h5, ⟨m0, hm0⟩, h6⟩ := ih hr h2 h3 hL'
          refine ⟨h5, ⟨m1 ++ m0, by rw [hm0, hm1, List.append_assoc]⟩, fun m => ?_⟩
          have hx := h4 (m0 ++ m)
          rw [← List.append_assoc, ← hm0] at hx
          exact hx.append (h6 m)
        · cases hl
      · cases hl
    | _ =>
      simp only [lend] at hl
      split at hl
      · rename_i x' hx
        split at hl
        · cases hl
          rename_i r' hr
          exact fin hr hnd ⟨[], by simp⟩ (fun m => .data (lendV_dl R _ hx h1 hL1) .nil)
        · cases hl
      · cases hl

theorem subStore_some (ix : List Nat) : ∀ {s : Store}, subStore h ix = some s → s.length = ix.length ∧ ∀ (j b : Nat), ix[j]? = some b → ∃ (t : TypeId) (cs : List AV), h[b]? = some (Ent.box t cs) ∧ cs.all isSc = true ∧ s[j]? = some (Ent.box t cs) := by
  induction ix with
  | nil => intro s hs; simp only [subStore] at hs; cases hs; exact ⟨rfl, fun j b hj => by cases hj⟩
  | cons b0 ix ih =>
    intro s hs
    unfold subStore at hs
    split at hs
    · rename_i t cs hb
      split at hs
      · rename_i hall
        split at hs
        · cases hs
          rename_i s' hs'
          obtain ⟨h1, h2⟩ := ih hs'
          refine ⟨by simp [h1], fun j b hj => ?_⟩
          cases j with
          | zero => simp at hj; subst hj; exact ⟨t, cs, hb, hall, rfl⟩
          | succ j => obtain ⟨t', cs', h3, h4, h5⟩ := h2 j b (by simpa using hj); exact ⟨t', cs', h3, h4, by simpa using h5⟩
        · cases hs
      · cases hs
    · cases hs

theorem isSc_one {cs : List AV} (h : cs.all isSc = true) : ∀ c, c ∈ cs → c.one = true := fun c hc => by
  have := List.all_eq_true.1 h c hc
  cases c <;> first | rfl | (simp [isSc] at this)

theorem getD_of {ix : List Nat} {j b : Nat} (h : ix[j]? = some b) : ix.getD j 0 = b := by simp [List.getD, h]

/-- The store of a call. -/
theorem sub_rel (R : Rel base h E) {ix : List Nat} (hnd : ix.Nodup) {s : Store} (hs : subStore h ix = some s) (args : List AV) : Rel base s (subEnv E (Lent E h args) ix) := by
  obtain ⟨hlen, hix⟩ := subStore_some ix hs
  have ent : ∀ (j : Nat) (e : Ent), s[j]? = some e → ∃ (b : Nat) (t : TypeId) (cs : List AV), ix[j]? = some b ∧ e = Ent.box t cs ∧ h[b]? = some (.box t cs) ∧ cs.all isSc = true := fun j e hj => by
    have hlt : j < ix.length := by rw [← hlen]; exact (List.getElem?_eq_some_iff.1 hj).1
    obtain ⟨t, cs, h1, h2, h3⟩ := hix j ix[j] (List.getElem?_eq_getElem hlt)
    rw [hj] at h3; cases h3
    exact ⟨_, t, cs, List.getElem?_eq_getElem hlt, rfl, h1, h2⟩
  have blk : ∀ j b, blkOf (subEnv E (Lent E h args) ix) s j = some b → ∃ (b0 : Nat) (t : TypeId) (cs : List AV), ix[j]? = some b0 ∧ h[b0]? = some (Ent.box t cs) ∧ b = E.box b0 := fun j b hj => by
    obtain ⟨e, he, hb⟩ := blkOf_some hj
    obtain ⟨b0, t, cs, h1, rfl, h2, _⟩ := ent j e he
    have hb : some (E.box (ix.getD j 0)) = some b := hb
    cases hb
    exact ⟨b0, t, cs, h1, h2, by rw [getD_of h1]⟩
  refine ⟨hlen.symm, R.le, fun j e hj => ?_, fun _ _ => rfl, fun j b hj => ?_, fun i j b hi hj => ?_, fun b hb => R.lt b hb.1⟩
  · obtain ⟨b0, t, cs, h1, rfl, h2, h3⟩ := ent j e hj
    obtain ⟨_, _, h4, h5, vals, h6, h7⟩ := R.ent b0 _ h2
    have hbx : (subEnv E (Lent E h args) ix).box j = E.box b0 := by show E.box (ix.getD j 0) = _; rw [getD_of h1]
    exact ⟨rfl, rfl, by rw [hbx]; exact h4, h5, vals, by rw [hbx]; exact h6, sc_vl h7 h3⟩
  · obtain ⟨b0, t, cs, h1, h2, rfl⟩ := blk j b hj
    have hb0 : blkOf E h b0 = some (E.box b0) := blkOf_of h2
    refine ⟨R.own b0 _ hb0, fun hlen => ?_⟩
    obtain ⟨k, _, ⟨e, g, ro, xs, hk⟩, hkb⟩ : LentK E h (refs args) _ := hlen
    have := R.inj k b0 _ hkb hb0
    subst this
    rw [hk] at h2; cases h2
  · obtain ⟨b1, t1, cs1, h1, h2, rfl⟩ := blk i b hi
    obtain ⟨b2, t2, cs2, h3, h4, h5⟩ := blk j _ hj
    have := R.inj b1 b2 (E.box b1) (blkOf_of h2) (by rw [h5]; exact blkOf_of h4)
    subst this
    have hi' : i < ix.length := (List.getElem?_eq_some_iff.1 h1).1
    have hj' : j < ix.length := (List.getElem?_eq_some_iff.1 h3).1
    rw [List.getElem?_eq_getElem hi'] at h1
    rw [List.getElem?_eq_getElem hj'] at h3
    have heq : ix[i] = ix[j] := by injection h1 with h1; injection h3 with h3; rw [h1, h3]
    rcases Nat.lt_trichotomy i j with hlt | hlt | hlt
    · exact absurd heq (List.pairwise_iff_getElem.1 hnd i j hi' hj' hlt)
    · exact hlt
    · exact absurd heq.symm (List.pairwise_iff_getElem.1 hnd j i hj' hi' hlt)

/-- What comes back. -/
theorem writeBack_some (ix : List Nat) : ∀ {h2 : Store} {h h' new : Store}, writeBack ix h2 h = some (h', new) → ix.Nodup → (∀ (b : Nat), b ∈ ix → b < h.length) →
    ∃ pre : Store, h2 = pre ++ new ∧ pre.length = ix.length ∧ h'.length = h.length ∧ (∀ (j : Nat), j ∉ ix → h'[j]? = h[j]?) ∧ ∀ (j b : Nat), ix[j]? = some b → ∃ (t : TypeId) (cs : List AV), h'[b]? = some (Ent.box t cs) ∧ cs.all isSc = true ∧ pre[j]? = some (Ent.box t cs) := by
  induction ix with
  | nil =>
    intro h2 h h' new hw _ _
    simp only [writeBack] at hw; cases hw
    exact ⟨[], rfl, rfl, rfl, fun _ _ => rfl, fun j b hj => by cases hj⟩
  | cons b0 ix ih =>
    intro h2 h h' new hw hnd hlt
    unfold writeBack at hw
    split at hw
    · rename_i e; cases e
    · rename_i b ix' t cs h2' e1
      cases e1
      split at hw
      · rename_i hall
        rw [List.nodup_cons] at hnd
        obtain ⟨pre, rfl, h3, h4, h5, h6⟩ := ih hw hnd.2 (fun b hb => by simpa using hlt b (List.mem_cons_of_mem _ hb))
        refine ⟨.box t cs :: pre, rfl, by simp [h3], by rw [h4]; simp, fun j hj => ?_, fun j b hj => ?_⟩
        · rw [h5 j (fun hc => hj (List.mem_cons_of_mem _ hc)), List.getElem?_set_ne (fun e => hj (by rw [e]; exact List.mem_cons_self ..))]
        · cases j with
          | zero =>
            simp at hj; subst hj
            refine ⟨t, cs, ?_, hall, rfl⟩
            rw [h5 _ hnd.1, List.getElem?_set_self (hlt _ (List.mem_cons_self ..))]
          | succ j =>
            obtain ⟨t', cs', h7, h8, h9⟩ := h6 j b (by simpa using hj)
            exact ⟨t', cs', h7, h8, by simpa using h9⟩
      · cases hw
    · cases hw

theorem shut1_spec (k : Nat) (h : Store) : (shut1 k h).length = h.length ∧ ∀ (j : Nat), (shut1 k h)[j]? = h[j]? ∨ ∃ (e : TypeId) (g : Nat) (ro : Bool) (xs : List AV), h[j]? = some (Ent.row e g ro xs) ∧ (shut1 k h)[j]? = some (Ent.row e g true xs) ∧ j = k := by
  unfold shut1
  split
  · rename_i e g ro xs hk
    have hkl : k < h.length := (List.getElem?_eq_some_iff.1 hk).1
    refine ⟨by simp, fun j => ?_⟩
    by_cases hj : j = k
    · subst hj
      exact .inr ⟨e, g, ro, xs, hk, List.getElem?_set_self hkl, rfl⟩
    · exact .inl (List.getElem?_set_ne (Ne.symm hj))
  · exact ⟨rfl, fun j => .inl rfl⟩

theorem shut_spec (ks : List Nat) : ∀ (h : Store), (shut ks h).length = h.length ∧ ∀ (j : Nat), (shut ks h)[j]? = h[j]? ∨ ∃ (e : TypeId) (g : Nat) (ro : Bool) (xs : List AV), h[j]? = some (Ent.row e g ro xs) ∧ (shut ks h)[j]? = some (Ent.row e g true xs) ∧ j ∈ ks := by
  induction ks with
  | nil => intro h; exact ⟨rfl, fun j => .inl rfl⟩
  | cons k ks ih =>
    intro h
    obtain ⟨l1, s1⟩ := shut1_spec k h
    obtain ⟨l2, s2⟩ := ih (shut1 k h)
    refine ⟨l2.trans l1, fun j => ?_⟩
    show (shut ks (shut1 k h))[j]? = _ ∨ _
    rcases s2 j with h3 | ⟨e', g', ro', xs', h3, h4, h5⟩
    · rcases s1 j with h6 | ⟨e, g, ro, xs, h6, h7, h8⟩
      · exact .inl (h3.trans h6)
      · exact .inr ⟨e, g, ro, xs, h6, h3.trans h7, by simp [h8]⟩
    · rcases s1 j with h6 | ⟨e, g, ro, xs, h6, h7, h8⟩
      · exact .inr ⟨e', g', ro', xs', h6.symm.trans h3, h4, by simp [h5]⟩
      · rw [h7] at h3; cases h3
        exact .inr ⟨_, _, ro, _, h6, h4, by simp [h5]⟩

theorem shut_keeps (ks : List Nat) {h : Store} {k : Nat} {e : TypeId} {g : Nat} {xs : List AV} (hk : h[k]? = some (Ent.row e g true xs)) : (shut ks h)[k]? = some (Ent.row e g true xs) := by
  rcases (shut_spec ks h).2 k with h1 | ⟨e', g', ro', xs', h1, h2, _⟩
  · rw [h1, hk]
  · rw [hk] at h1; cases h1; exact h2
theorem shut_row (ks : List Nat) : ∀ {h : Store} {k : Nat} {e : TypeId} {g : Nat} {ro : Bool} {xs : List AV}, k ∈ ks → h[k]? = some (Ent.row e g ro xs) → (shut ks h)[k]? = some (Ent.row e g true xs) := by
  induction ks with
  | nil => intro h k e g ro xs hk; cases hk
  | cons k0 ks ih =>
    intro h k e g ro xs hk hrow
    show (shut ks (shut1 k0 h))[k]? = _
    by_cases hkk : k = k0
    · subst hkk
      refine shut_keeps ks ?_
      unfold shut1
      rw [hrow]
      exact List.getElem?_set_self (List.getElem?_eq_some_iff.1 hrow).1
    · refine ih (by simpa [hkk] using hk) (ro := ro) ?_
      rcases (shut1_spec k0 h).2 k with h1 | ⟨_, _, _, _, _, _, h1⟩
      · rw [h1, hrow]
      · exact absurd h1 hkk

/-- Data has no places. -/
theorem reloc_data (f : Nat → Nat) {w : World} {own : Nat → Prop} {l : List AV} {vs : List Value} (h : DL P w own l vs) : reloc.go f l = l := by
  induction h with
  | nil => rfl
  | sc h t it => simp only [reloc.go, reloc, it]
  | agg h t ih it => simp only [reloc.go, reloc, ih, it]
  | lit _ _ _ _ _ _ _ _ _ it => simp only [reloc.go, reloc, it]

theorem reloc_vl {E E' : Env} (f : Nat → Nat) (hP : E'.P = E.P) (hw : E'.w = E.w) (ho : ∀ b, E'.own b → E.own b) (hn : ∀ k, k < E.n → f k < E'.n) (hg : ∀ k, k < E.n → E'.gen (f k) = E.gen k ∧ E'.top (f k) = E.top k ∧ (∀ g, E.gen k = some g → E'.esz (f k) = E.esz k ∧ E'.row (f k) = E.row k) ∧ E'.box (f k) = E.box k)
    {l : List AV} {vs : List Value} (h : VL E l vs) : VL E' (reloc.go f l) vs := by
  induction h with
  | nil => exact .nil
  | @data x v r rs h t it =>
    have e1 : reloc f x = x := by
      have := reloc_data f h
      simpa [reloc.go] using this
    simp only [reloc.go, e1]
    refine .data ?_ it
    rw [hP, hw]; exact h.less ho
  | agg h t ih it => simp only [reloc.go, reloc]; exact .agg ih it
  | tup h t ih it => simp only [reloc.go, reloc]; exact .tup ih it
  | sl hk hgt h1 h t it =>
    obtain ⟨e1, e2, e3, e5⟩ := hg _ hk
    simp only [reloc.go, reloc]; exact .sl (hn _ hk) (by rw [e2]; exact hgt) h1 (fun hc => by rw [e1] at hc; rw [(e3 _ hc).2]; exact h hc) it
  | sub hk hgt h1 h t it =>
    obtain ⟨e1, e2, e3, e5⟩ := hg _ hk
    simp only [reloc.go, reloc]; exact .sub (hn _ hk) (by rw [e2]; exact hgt) h1 (fun hc => by rw [e1] at hc; rw [(e3 _ hc).1, (e3 _ hc).2]; exact h hc) it
  | bptr hk t it =>
    obtain ⟨e1, e2, e3, e5⟩ := hg _ hk
    simp only [reloc.go, reloc]; rw [← e5]; exact .bptr (hn _ hk) it
  | rptr hk hgt h1 h t it =>
    obtain ⟨e1, e2, e3, e5⟩ := hg _ hk
    simp only [reloc.go, reloc]; exact .rptr (hn _ hk) (by rw [e2]; exact hgt) h1 (fun hc => by rw [e1] at hc; rw [(e3 _ hc).1, (e3 _ hc).2]; exact h hc) it
  | @lptr e xs i off b o vals r rs hs h hr t it =>
    simp only [reloc.go, reloc]
    have := VL.lptr (E := E') (e := e) (xs := xs) (i := i) (off := off) (b := b) (o := o) (vals := vals) (by rw [hP]; exact hs) (by rw [hP, hw]; exact h.less ho) (fun j u hu => by
      obtain ⟨h1, h2⟩ := hr j u hu
      exact ⟨fun h => h1 (ho _ h), by rw [hw]; exact h2⟩) it
    rw [hP] at this; exact this
  | fn h t ih it => simp only [reloc.go, reloc]; exact .fn ih it
  | bad t it => simp only [reloc.go, reloc]; exact .bad it

/-- What the interpreter may take of the calls. -/
def CallOk (P : Program) (base : Nat) (I : Ifc) : Prop :=
  ∀ (f : FuncId) (args : List AV) (s : Store) (r : AV) (h2 : Store), I.call f args s = some (r, h2) → ∀ (E : Env) (vs : List Value), E.P = P → Rel base s E → VL E args vs →
    Calls P f vs.toArray E.w fun e w' => ∃ v E', e = .returned v ∧ E'.w = w' ∧ Rel base h2 E' ∧ Step s E h2 E' ∧ VL E' [r] [v]

theorem sole_vl {E E' : Env} {r : AV} {v : Value} (hr : sole r = true) (h : VL E [r] [v]) : VL E' [r] [v] := by
  cases r with
  | sc u => obtain ⟨rfl, hp⟩ := h.sc_inv; exact .data (.sc hp .nil) .nil
  | tup vs => obtain ⟨us, rfl, h1⟩ := h.tup_inv; exact .tup (sc_vl h1 (by simpa [sole] using hr)) .nil
  | _ => simp [sole] at hr

/-- The caller's environment, behind a call. -/
def backEnv (E : Env) (h : Store) (ix : List Nat) (new : Store) (Ec : Env) (sh : Bool) : Env := { E with w := Ec.w, n := h.length + new.length, gen := fun k => if k < h.length then E.gen k else Ec.gen (k - h.length + ix.length), top := fun k => if k < h.length then E.top k else Ec.top (k - h.length + ix.length), esz := fun k => if k < h.length then E.esz k else Ec.esz (k - h.length + ix.length), row := fun k => if k < h.length then E.row k else Ec.row (k - h.length + ix.length), box := fun k => if k < h.length then E.box k else Ec.box (k - h.length + ix.length), own := fun b => if sh then Ec.own b else Ec.own b ∨ E.own b }

/-- The caller's view, behind a call: 'keep' tells which blocks remain its own. -/
theorem after_call (R : Rel base h E) {ix : List Nat} (hnd : ix.Nodup) {s : Store} (hs : subStore h ix = some s) {args : List AV} {h2 h' new : Store} (hwb : writeBack ix h2 h = some (h', new)) {Ec : Env} (hPc : Ec.P = E.P) (Rc : Rel base h2 Ec) (Sc : Step s (subEnv E (Lent E h args) ix) h2 Ec) (sh : Bool) (hnew : sh = false → new = []) (hrows : new.all isRow = true) :
    let E' : Env := backEnv E h ix new Ec sh
    let h'' : Store := (if sh then shut (refs args) h' else h') ++ new
    Rel base h'' E' ∧ Step h E h'' E' := by
  intro E' h''
  obtain ⟨hsl, hsx⟩ := subStore_some ix hs
  have hlt : ∀ b, b ∈ ix → b < h.length := fun b hb => by
    obtain ⟨j, hj, rfl⟩ := List.getElem_of_mem hb
    obtain ⟨t, cs, h1, _⟩ := hsx j _ (List.getElem?_eq_getElem hj)
    exact (List.getElem?_eq_some_iff.1 h1).1
  obtain ⟨pre, hpre, hplen, hh'len, hout, hin⟩ := writeBack_some ix hwb hnd hlt
  have hlen'' : h''.length = h.length + new.length := by
    show ((if sh then shut (refs args) h' else h') ++ new).length = _
    rw [List.length_append]
    cases sh with
    | false => simp [hh'len]
    | true => simp [(shut_spec (refs args) h').1, hh'len]
  -- a call's block, in the caller's words
  have subblk : ∀ j b, blkOf (subEnv E (Lent E h args) ix) s j = some b → ∃ b0, ix[j]? = some b0 ∧ blkOf E h b0 = some b ∧ b = E.box b0 := fun j b hj => by
    obtain ⟨e, he, hb⟩ := blkOf_some hj
    have hjl : j < ix.length := by rw [← hsl]; exact (List.getElem?_eq_some_iff.1 he).1
    obtain ⟨t, cs, h1, h2, h3⟩ := hsx j _ (List.getElem?_eq_getElem hjl)
    rw [he] at h3; cases h3
    have hb : some (E.box (ix.getD j 0)) = some b := hb
    rw [getD_of (List.getElem?_eq_getElem hjl)] at hb
    cases hb
    exact ⟨_, List.getElem?_eq_getElem hjl, blkOf_of h1, rfl⟩
  have boxc : ∀ j b0, ix[j]? = some b0 → Ec.box j = E.box b0 := fun j b0 hj => by
    have hjl : j < ix.length := (List.getElem?_eq_some_iff.1 hj).1
    rw [Sc.ext.box j hjl]
    show E.box (ix.getD j 0) = _
    rw [getD_of hj]
  have keepHeap : ∀ b, b < E.w.heap.size → (∀ k, blkOf E h k ≠ some b) → Ec.w.heap[b]? = E.w.heap[b]? := fun b hb hn => Sc.heap b hb (fun j hj => by
    obtain ⟨b0, _, h1, _⟩ := subblk j b hj
    exact hn b0 h1)
  have otherHeap : ∀ k, k ∉ ix → ∀ b, blkOf E h k = some b → Ec.w.heap[b]? = E.w.heap[b]? := fun k hk b hb => Sc.heap b (R.lt b (R.own k b hb)) (fun j hj => by
    obtain ⟨b0, h0, h1, _⟩ := subblk j b hj
    have := R.inj k b0 b hb h1
    subst this
    exact hk (List.mem_of_getElem? h0))
  have cfresh : ∀ b, Ec.own b → E.own b ∧ ¬ Lent E h args b ∨ E.w.heap.size ≤ b := fun b hb => Sc.fresh b hb
  have hfresh : ∀ b, E'.own b → E.own b ∨ E.w.heap.size ≤ b := fun b hb => by
    have hb : (if sh then Ec.own b else Ec.own b ∨ E.own b) := hb
    cases sh with
    | true => exact (cfresh b hb).imp (fun h => h.1) id
    | false =>
      rcases hb with hb | hb
      · exact (cfresh b hb).imp (fun h => h.1) id
      · exact .inl hb
  have hx : Ext E E' := ⟨rfl, by show E.n ≤ h.length + new.length; rw [R.n]; omega, fun k hk => by
      show E.top k ≤ if k < h.length then E.top k else _
      rw [if_pos (by rw [← R.n]; exact hk)]; exact Nat.le_refl _, fun k g hk hg hc => by
      have hk' : k < h.length := by rw [← R.n]; exact hk
      have hc' : (if k < h.length then E.gen k else _) = some g := hc
      rw [if_pos hk'] at hc'
      exact ⟨hc', if_pos hk', if_pos hk'⟩, fun k hk => if_pos (by rw [← R.n]; exact hk), keep_of R keepHeap hfresh⟩
  -- entries that were there
  have old : ∀ k, k < h.length → ∀ e, h''[k]? = some e → (k ∈ ix ∧ ∃ j t cs, ix[j]? = some k ∧ e = Ent.box t cs ∧ cs.all isSc = true ∧ h2[j]? = some (Ent.box t cs)) ∨ (k ∉ ix ∧ h[k]? = some e ∧ (sh = true → k ∈ refs args → ∀ e' g ro xs, e = Ent.row e' g ro xs → ro = true)) ∨ (k ∉ ix ∧ sh = true ∧ k ∈ refs args ∧ ∃ e' g ro xs, h[k]? = some (Ent.row e' g ro xs) ∧ e = Ent.row e' g true xs) := fun k hk e he => by
    have he1 : (if sh then shut (refs args) h' else h')[k]? = some e := by
      have : h''[k]? = (if sh then shut (refs args) h' else h')[k]? := by
        show ((if sh then shut (refs args) h' else h') ++ new)[k]? = _
        rw [List.getElem?_append_left]
        cases sh with
        | false => simpa [hh'len] using hk
        | true => simpa [(shut_spec (refs args) h').1, hh'len] using hk
      rw [← this]; exact he
    by_cases hki : k ∈ ix
    · obtain ⟨j, hj, rfl⟩ := List.getElem_of_mem hki
      have hj' := List.getElem?_eq_getElem hj
      obtain ⟨t, cs, h1, h2', h3⟩ := hin j _ hj'
      have hbox : (if sh then shut (refs args) h' else h')[ix[j]]? = some (Ent.box t cs) := by
        cases sh with
        | false => exact h1
        | true =>
          rcases (shut_spec (refs args) h').2 ix[j] with h4 | ⟨e', g', ro', xs', h4, h5, _⟩
          · exact h4.trans h1
          · rw [h1] at h4; cases h4
      rw [hbox] at he1; cases he1
      refine .inl ⟨hki, j, t, cs, hj', rfl, h2', ?_⟩
      rw [hpre, List.getElem?_append_left (by omega)]; exact h3
    · have hk1 := hout k hki
      cases hsh : sh with
      | false =>
        rw [hsh] at he1
        exact .inr (.inl ⟨hki, by rw [← hk1]; exact he1, fun h => by cases h⟩)
      | true =>
        rw [hsh] at he1
        have he1 : (shut (refs args) h')[k]? = some e := he1
        rcases (shut_spec (refs args) h').2 k with h4 | ⟨e', g', ro', xs', h4, h5, h6⟩
        · refine .inr (.inl ⟨hki, by rw [← hk1, ← h4]; exact he1, fun _ hkr e' g ro xs hee => ?_⟩)
          subst hee
          have h7 : h'[k]? = some (Ent.row e' g ro xs) := by rw [← h4]; exact he1
          have h8 := shut_row (refs args) hkr h7
          rw [he1] at h8; cases h8; rfl
        · rw [h5] at he1; cases he1
          exact .inr (.inr ⟨hki, rfl, h6, e', g', ro', xs', by rw [← hk1]; exact h4, rfl⟩)
  -- entries that are new
  have fresh2 : ∀ k, h.length ≤ k → h''[k]? = h2[k - h.length + ix.length]? := fun k hk => by
    have hl : (if sh then shut (refs args) h' else h').length = h.length := by
      cases sh with
      | false => simp [hh'len]
      | true => simp [(shut_spec (refs args) h').1, hh'len]
    show ((if sh then shut (refs args) h' else h') ++ new)[k]? = _
    rw [List.getElem?_append_right (by rw [hl]; exact hk), hl, hpre, List.getElem?_append_right (by omega)]
    congr 1; omega
  have shnew : ∀ k, h.length ≤ k → ∀ e, h''[k]? = some e → sh = true ∧ ∃ e' g ro xs, e = Ent.row e' g ro xs := fun k hk e he => by
    have hl : (if sh then shut (refs args) h' else h').length = h.length := by
      cases sh with
      | false => simp [hh'len]
      | true => simp [(shut_spec (refs args) h').1, hh'len]
    have he1 : new[k - h.length]? = some e := by
      have : h''[k]? = new[k - h.length]? := by
        show ((if sh then shut (refs args) h' else h') ++ new)[k]? = _
        rw [List.getElem?_append_right (by rw [hl]; exact hk), hl]
      rw [← this]; exact he
    refine ⟨?_, ?_⟩
    · cases hsh : sh with
      | true => rfl
      | false => rw [hnew hsh] at he1; cases he1
    · have h1 := List.all_eq_true.1 hrows e (List.mem_of_getElem? he1)
      cases e with
      | box => simp [isRow] at h1
      | row e' g ro xs => exact ⟨_, _, _, _, rfl⟩
  have ownsh : ∀ b, sh = true → (E'.own b ↔ Ec.own b) := fun b hsh => by
    show (if sh then Ec.own b else Ec.own b ∨ E.own b) ↔ _
    rw [hsh]; rfl
  -- blocks, in the caller's words
  have oldblk : ∀ k, k < h.length → ∀ b, blkOf E' h'' k = some b → blkOf E h k = some b ∧ ((∃ j, ix[j]? = some k ∧ blkOf Ec h2 j = some b) ∨ (k ∉ ix ∧ ¬ (sh = true ∧ k ∈ refs args ∧ ∃ e g ro xs, h[k]? = some (Ent.row e g ro xs)))) := fun k hk b hb => by
    obtain ⟨e, he, hbe⟩ := blkOf_some hb
    have hrow : E'.row k = E.row k := if_pos hk
    have hbox : E'.box k = E.box k := if_pos hk
    rw [entBlk_same hrow hbox] at hbe
    rcases old k hk e he with ⟨hki, j, t, cs, hj, rfl, hsc, hj2⟩ | ⟨hki, hhk, hro⟩ | ⟨hki, hsh, hkr, e', g, ro, xs, hhk, rfl⟩
    · obtain ⟨t', cs', h1, _, _⟩ := hsx j k hj
      have hbe : some (E.box k) = some b := hbe
      refine ⟨by rw [blkOf_of h1]; exact hbe, .inl ⟨j, hj, ?_⟩⟩
      rw [blkOf_of hj2]
      show some (Ec.box j) = _
      rw [boxc j k hj]; exact hbe
    · refine ⟨by rw [blkOf_of hhk]; exact hbe, .inr ⟨hki, fun ⟨hsh, hkr, e', g, ro, xs, hr⟩ => ?_⟩⟩
      rw [hhk] at hr; cases hr
      have := hro hsh hkr _ _ _ _ rfl
      subst this
      cases hbe
    · cases hbe
  have newblk : ∀ k, h.length ≤ k → ∀ b, blkOf E' h'' k = some b → sh = true ∧ blkOf Ec h2 (k - h.length + ix.length) = some b := fun k hk b hb => by
    obtain ⟨e, he, hbe⟩ := blkOf_some hb
    obtain ⟨hsh, e', g, ro, xs, rfl⟩ := shnew k hk e he
    refine ⟨hsh, ?_⟩
    rw [fresh2 k hk] at he
    rw [blkOf_of he]
    have hrow : E'.row k = Ec.row (k - h.length + ix.length) := if_neg (by omega)
    cases ro with
    | true => cases hbe
    | false =>
      have hbe : rowBlk (E'.row k) = some b := hbe
      rw [hrow] at hbe; exact hbe
  have newlow : ∀ k, h.length ≤ k → ∀ b, blkOf E' h'' k = some b → E.w.heap.size ≤ b := fun k hk b hb => by
    obtain ⟨_, h1⟩ := newblk k hk b hb
    rcases Sc.blk _ b h1 with ⟨i, hi⟩ | h3
    · obtain ⟨b0, h4, _, h6⟩ := subblk i b hi
      obtain ⟨t, cs, _, _, h8⟩ := hin i b0 h4
      have hil : i < ix.length := (List.getElem?_eq_some_iff.1 h4).1
      have h9 : blkOf Ec h2 i = some b := by
        rw [blkOf_of (e := Ent.box t cs) (by rw [hpre, List.getElem?_append_left (by omega)]; exact h8)]
        show some (Ec.box i) = _
        rw [boxc i b0 h4, h6]
      have := Rc.inj _ _ b h9 h1
      omega
    · exact h3
  have hwE : E'.w = Ec.w := rfl
  have oldown : ∀ k, k < h.length → ∀ b, blkOf E' h'' k = some b → E'.own b := fun k hk b hb => by
    obtain ⟨h1, h2'⟩ := oldblk k hk b hb
    cases hsh : sh with
    | false =>
      show if sh then Ec.own b else Ec.own b ∨ E.own b
      rw [hsh]; exact .inr (R.own k b h1)
    | true =>
      rw [ownsh b hsh]
      rcases h2' with ⟨j, hj, hb2⟩ | ⟨hki, hnr⟩
      · exact Rc.own j b hb2
      · refine Sc.held b ⟨R.own k b h1, fun ⟨k', hk', hr', hb'⟩ => ?_⟩ (fun j hj => ?_)
        · have := R.inj k' k b hb' h1
          subst this
          exact hnr ⟨hsh, hk', hr'⟩
        · obtain ⟨b0, h0, h3, _⟩ := subblk j b hj
          have := R.inj k b0 b h1 h3
          subst this
          exact hki (List.mem_of_getElem? h0)
  have S : Step h E h'' E' := ⟨hx, Sc.os, Sc.tape, Sc.output, Sc.size, keepHeap, hfresh, fun b hb hn => by
      cases hsh : sh with
      | false =>
        show if sh then Ec.own b else Ec.own b ∨ E.own b
        rw [hsh]; exact .inr hb
      | true =>
        rw [ownsh b hsh]
        refine Sc.held b ⟨hb, fun ⟨k', _, _, hb'⟩ => hn k' hb'⟩ (fun j hj => ?_)
        obtain ⟨b0, _, h3, _⟩ := subblk j b hj
        exact hn b0 h3, fun k b hb => by
      by_cases hk : k < h.length
      · exact .inl ⟨k, (oldblk k hk b hb).1⟩
      · exact .inr (newlow k (by omega) b hb)⟩
  refine ⟨⟨hlen''.symm, Nat.le_trans R.le Sc.size, fun k e he => ?_, fun k hk => ?_, fun k b hb => ?_, fun i j b hi hj => ?_, fun b hb => ?_⟩, S⟩
  · by_cases hk : k < h.length
    · have henv : E'.gen k = E.gen k ∧ E'.top k = E.top k ∧ E'.esz k = E.esz k ∧ E'.row k = E.row k ∧ E'.box k = E.box k := ⟨if_pos hk, if_pos hk, if_pos hk, if_pos hk, if_pos hk⟩
      rcases old k hk e he with ⟨hki, j, t, cs, hj, rfl, hsc, hj2⟩ | ⟨hki, hhk, _⟩ | ⟨hki, hsh, hkr, e', g, ro, xs, hhk, rfl⟩
      · obtain ⟨t', cs', h1, _, _⟩ := hsx j k hj
        obtain ⟨hg, htp, hb, _, _⟩ := R.ent k _ h1
        obtain ⟨_, _, _, _, vals, hh, hv⟩ := Rc.ent j _ hj2
        refine ⟨by rw [henv.1]; exact hg, by rw [henv.2.1]; exact htp, by rw [henv.2.2.2.2]; exact hb, isSc_one hsc, vals, ?_, sc_vl hv hsc⟩
        rw [henv.2.2.2.2, ← boxc j k hj]; exact hh
      · exact (R.ent k e hhk).step hx henv (fun b hb => otherHeap k hki b (by rw [blkOf_of hhk]; exact hb))
      · have hro := R.ent k _ hhk
        have hr : rowOf h k g = some (e', ro, xs) := by simp only [rowOf, hhk, if_true]
        obtain ⟨hgen, hesz, _⟩ := row_reads R hr
        have htop : E.top k = g := by cases ro with
          | true => exact hro.2.1
          | false => exact hro.2.1
        have hd := row_lit (L := Lent E h args) R hr (fun b hb => ⟨k, hkr, ⟨_, _, _, _, hhk⟩, hb⟩)
        refine ⟨by rw [henv.1]; exact hgen, by rw [henv.2.1]; exact htop, by rw [henv.2.2.1]; exact hesz, ?_, fun hne => ?_⟩
        · rw [henv.2.2.2.1]
          show DL E.P Ec.w E'.own _ _
          exact hd.ext (fun a v ho hc => by
            obtain ⟨h1, h2⟩ := Sc.ext.keep a v ho hc
            exact ⟨fun h => h1 ((ownsh _ hsh).1 h), h2⟩)
        · rw [henv.2.2.2.1]
          cases ro with
          | true => exact hro.2.2.2.2 hne
          | false =>
            obtain ⟨_, _, _, _, vals, hrow, _⟩ := hro
            rcases hrow.2 with ⟨hn, _⟩ | ⟨b0, cap, cur, _, ha, _⟩
            · exact absurd (List.eq_nil_of_length_eq_zero hn) hne
            · exact ⟨b0, _, _, ha⟩
    · obtain ⟨hsh, e', g, ro, xs, rfl⟩ := shnew k (by omega) e he
      rw [fresh2 k (by omega)] at he
      have hro := Rc.ent _ _ he
      have e1 : E'.gen k = Ec.gen (k - h.length + ix.length) := if_neg hk
      have e2 : E'.top k = Ec.top (k - h.length + ix.length) := if_neg hk
      have e3 : E'.esz k = Ec.esz (k - h.length + ix.length) := if_neg hk
      have e4 : E'.row k = Ec.row (k - h.length + ix.length) := if_neg hk
      have hdl : ∀ {l vs}, DL Ec.P Ec.w Ec.own l vs → DL E'.P E'.w E'.own l vs := fun {l vs} hd => by
        show DL E.P Ec.w E'.own l vs
        rw [← hPc]
        exact hd.less (fun b hb => (ownsh b hsh).1 hb)
      cases ro with
      | true =>
        obtain ⟨h1, h2', h3, h4, h5⟩ := hro
        exact ⟨by rw [e1]; exact h1, by rw [e2]; exact h2', by rw [e3, h3, hPc]; rfl, by rw [e4]; exact hdl h4, by rw [e4]; exact h5⟩
      | false =>
        obtain ⟨h1, h2', h3, h4, vals, h5, h6, h7⟩ := hro
        rw [hPc] at h3 h4 h5
        exact ⟨by rw [e1]; exact h1, by rw [e2]; exact h2', by rw [e3]; exact h3, h4, vals, by rw [e4]; exact h5, hdl h6, h7⟩
  · rw [hlen''] at hk
    have : E'.gen k = Ec.gen (k - h.length + ix.length) := if_neg (by omega)
    rw [this]
    refine Rc.nogen _ ?_
    rw [hpre, List.length_append, hplen]; omega
  · by_cases hk : k < h.length
    · exact oldown k hk b hb
    · obtain ⟨hsh, h1⟩ := newblk k (by omega) b hb
      exact (ownsh b hsh).2 (Rc.own _ b h1)
  · by_cases hi' : i < h.length
    · by_cases hj' : j < h.length
      · exact R.inj i j b (oldblk i hi' b hi).1 (oldblk j hj' b hj).1
      · have := newlow j (by omega) b hj
        have := R.lt b (R.own i b (oldblk i hi' b hi).1)
        omega
    · by_cases hj' : j < h.length
      · have := newlow i (by omega) b hi
        have := R.lt b (R.own j b (oldblk j hj' b hj).1)
        omega
      · have h1 := (newblk i (by omega) b hi).2
        have h2' := (newblk j (by omega) b hj).2
        have := Rc.inj _ _ b h1 h2'
        omega
  · have hb : (if sh then Ec.own b else Ec.own b ∨ E.own b) := hb
    show b < Ec.w.heap.size
    cases sh with
    | true => exact Rc.lt b hb
    | false =>
      rcases hb with hb | hb
      · exact Rc.lt b hb
      · exact Nat.lt_of_lt_of_le (R.lt b hb) Sc.size

/-- A call comes to what the interpreter says. -/
theorem callFn_sound {I : Ifc} (hI : I.o = Ops.std) (IH : CallOk P base I) (R : Rel base h E) (hP : E.P = P) {args : List AV} {vs : List Value} (hv : VL E args vs) {f : FuncId} {v : AV} {h3 : Store} {m : Nat} (he : callFn I f args h = some (v, h3, m)) :
    Calls P f vs.toArray E.w fun e w' => ∃ v' E', e = .returned v' ∧ E'.w = w' ∧ Rel base h3 E' ∧ Step h E h3 E' ∧ VL E' [v] [v'] := by
  unfold callFn at he
  rw [hI] at he
  split at he
  · cases he
  · rename_i args' ix hl
    split at he
    · cases he
    · rename_i s hs
      split at he
      · cases he
      · rename_i r h2 hc
        split at he
        · cases he
        · rename_i h' new hwb
          obtain ⟨hnd, _, hva⟩ := lend_vl (L := Lent E h args) R args hl hv List.nodup_nil (fun b hb => hb)
          have hva := hva []
          rw [List.append_nil] at hva
          have Rs := sub_rel R hnd hs args
          refine (IH f args' s r h2 hc (subEnv E (Lent E h args) ix) vs hP Rs hva).mono fun e w' ⟨v', Ec, hev, hw, Rc, Sc, hr⟩ => ?_
          have hPc : Ec.P = E.P := Sc.ext.P
          obtain ⟨hsl, hsx⟩ := subStore_some ix hs
          split at he
          · rename_i hso
            split at he
            · cases he
              obtain ⟨R', S'⟩ := after_call R hnd hs hwb hPc Rc Sc false (fun _ => rfl) rfl
              simp only [Bool.false_eq_true, if_false, List.append_nil] at R' S'
              exact ⟨v', backEnv E h ix [] Ec false, hev, hw, R', S', sole_vl hso hr⟩
            · cases he
          · split at he
            · rename_i hrows
              cases he
              obtain ⟨R', S'⟩ := after_call R hnd hs hwb hPc Rc Sc true (fun h => by cases h) hrows
              refine ⟨v', backEnv E h ix new Ec true, hev, hw, R', S', ?_⟩
              have hlt : ∀ b, b ∈ ix → b < h.length := fun b hb => by
                obtain ⟨j, hj, rfl⟩ := List.getElem_of_mem hb
                obtain ⟨t, cs, h1, _⟩ := hsx j _ (List.getElem?_eq_getElem hj)
                exact (List.getElem?_eq_some_iff.1 h1).1
              obtain ⟨pre, hpre, hplen, hh'len, hout, hin⟩ := writeBack_some ix hwb hnd hlt
              have hnc : Ec.n = ix.length + new.length := by rw [Rc.n, hpre, List.length_append, hplen]
              have hrel := reloc_vl (E := Ec) (E' := backEnv E h ix new Ec true) (backTo ix h.length) hPc.symm rfl (fun b hb => by have hb : (if true = true then Ec.own b else Ec.own b ∨ E.own b) := hb; simpa using hb)
                (fun k hk => by
                  rw [hnc] at hk
                  show backTo ix h.length k < h.length + new.length
                  unfold backTo
                  split
                  · rename_i hki
                    have := hlt (ix.getD k 0) (by rw [getD_of (List.getElem?_eq_getElem hki)]; exact List.getElem_mem hki)
                    omega
                  · omega)
                (fun k hk => by
                  rw [hnc] at hk
                  by_cases hki : k < ix.length
                  · have hb : backTo ix h.length k = ix[k] := by unfold backTo; rw [if_pos hki, getD_of (List.getElem?_eq_getElem hki)]
                    have hbl : ix[k] < h.length := hlt _ (List.getElem_mem hki)
                    obtain ⟨t, cs, h1, _, _⟩ := hsx k _ (List.getElem?_eq_getElem hki)
                    obtain ⟨t2, cs2, _, _, h5⟩ := hin k _ (List.getElem?_eq_getElem hki)
                    have h6 : h2[k]? = some (Ent.box t2 cs2) := by rw [hpre, List.getElem?_append_left (by omega)]; exact h5
                    obtain ⟨g1, g2, _⟩ := R.ent _ _ h1
                    obtain ⟨g3, g4, _⟩ := Rc.ent _ _ h6
                    rw [hb]
                    refine ⟨by show (if _ then _ else _) = _; rw [if_pos hbl, g1, g3], by show (if _ then _ else _) = _; rw [if_pos hbl, g2, g4], (fun g hg => by rw [g3] at hg; cases hg), ?_⟩
                    show (if _ then _ else _) = _
                    rw [if_pos hbl, Sc.ext.box k hki]
                    show _ = E.box (ix.getD k 0)
                    rw [getD_of (List.getElem?_eq_getElem hki)]
                  · have hb : backTo ix h.length k = h.length + (k - ix.length) := by unfold backTo; rw [if_neg hki]
                    have hnl : ¬ (h.length + (k - ix.length) < h.length) := by omega
                    have hidx : h.length + (k - ix.length) - h.length + ix.length = k := by omega
                    rw [hb]
                    refine ⟨?_, ?_, fun g _ => ⟨?_, ?_⟩, ?_⟩ <;> (show (if _ then _ else _) = _; rw [if_neg hnl, hidx])) hr
              simpa [reloc.go] using hrel
            · cases he
end
end Go.Ab
