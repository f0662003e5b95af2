/- What an operation of the loaded code does, where the interpreter's instruction comes to a value: operands, what values look like, loads. -/
import Derived.Test.YtcnohiofldkcoabAbRel
namespace Go.Ab
open Go

/-! ### What a value looks like -/
theorem VL.one_inv {E : Env} {x : AV} {us : List Value} (h : VL E [x] us) : ∃ u, us = [u] ∧ VL E [x] [u] := by
  obtain ⟨v, us', rfl, h1, h2⟩ := h.uncons
  cases h2; exact ⟨v, rfl, h1⟩
theorem DL.sc_inv {P : Program} {w : World} {own : Nat → Prop} {v u : Value} (h : DL P w own [.sc v] [u]) : u = v ∧ plainSc v = true := by cases h with | sc h t => exact ⟨rfl, h⟩
theorem VL.sc_inv {E : Env} {v u : Value} (h : VL E [.sc v] [u]) : u = v ∧ plainSc v = true := by cases h with | data h t => exact h.sc_inv
theorem VL.agg_inv {E : Env} {cs : List AV} {u : Value} (h : VL E [.agg cs] [u]) : ∃ vs, u = .agg vs.toArray ∧ VL E cs vs := by
  cases h with
  | data h t => cases h with | agg h t => exact ⟨_, rfl, h.vl⟩
  | agg h t => exact ⟨_, rfl, h⟩
theorem VL.tup_inv {E : Env} {cs : List AV} {u : Value} (h : VL E [.tup cs] [u]) : ∃ vs, u = .tuple vs.toArray ∧ VL E cs vs := by
  cases h with
  | data h t => cases h
  | tup h t => exact ⟨_, rfl, h⟩
theorem VL.fn_inv {E : Env} {f : FuncId} {cs : List AV} {u : Value} (h : VL E [.fn f cs] [u]) : ∃ vs, u = .func (.func f) #[] vs.toArray ∧ VL E cs vs := by
  cases h with
  | data h t => cases h
  | fn h t => exact ⟨_, rfl, h⟩
theorem VL.lit_inv {E : Env} {e : TypeId} {f : Bool} {xs : List AV} {u : Value} (h : VL E [.lit e f xs] [u]) : DL E.P E.w E.own [.lit e f xs] [u] := by
  cases h with | data h t => exact h
theorem VL.sl_inv {E : Env} {k g : Nat} {u : Value} (h : VL E [.sl k g] [u]) : k < E.n ∧ g ≤ E.top k ∧ u.oneCell' = true ∧ (E.gen k = some g → u = E.row k) := by
  cases h with
  | data h t => cases h
  | sl hk hg h1 h t => exact ⟨hk, hg, h1, h⟩
theorem VL.sub_inv {E : Env} {k g : Nat} {lo hi : Int} {u : Value} (h : VL E [.sub k g lo hi] [u]) : k < E.n ∧ g ≤ E.top k ∧ u.oneCell' = true ∧
    (E.gen k = some g → 0 ≤ lo ∧ lo ≤ hi ∧ ∃ a cap, u = .slice a (hi - lo).toNat cap ∧ (hi - lo).toNat ≤ cap ∧ cap ≤ maxLen ∧ (lo < hi → ∃ b, HeadAt (E.row k) b ∧ a = some ⟨b, lo.toNat * E.esz k, none⟩) ∧ (lo = 0 → ∃ n, E.row k = .slice a n cap)) := by
  cases h with
  | data h t => cases h
  | sub hk hg h1 h t => exact ⟨hk, hg, h1, h⟩
theorem VL.bptr_inv {E : Env} {b off : Nat} {u : Value} (h : VL E [.bptr b off] [u]) : b < E.n ∧ u = .pointer (some ⟨E.box b, off, none⟩) := by
  cases h with
  | data h t => cases h
  | bptr hk t => exact ⟨hk, rfl⟩
theorem VL.rptr_inv {E : Env} {k g : Nat} {i : Int} {off : Nat} {u : Value} (h : VL E [.rptr k g i off] [u]) : k < E.n ∧ g ≤ E.top k ∧ (E.gen k = some g → ∃ b, HeadAt (E.row k) b ∧ u = .pointer (some ⟨b, i.toNat * E.esz k + off, none⟩)) := by
  cases h with
  | data h t => cases h
  | rptr hk hg h1 h t => exact ⟨hk, hg, h⟩
theorem VL.lptr_inv {E : Env} {e : TypeId} {xs : List AV} {i : Int} {off : Nat} {u : Value} (h : VL E [.lptr e xs i off] [u]) : ∃ b o vals, (∀ x, x ∈ xs → x.cells.length = E.P.cellsOf e) ∧ DL E.P E.w E.own (flat xs) vals ∧
    (∀ j u, vals[j]? = some u → ¬ E.own b ∧ E.w.cell? ⟨b, o + j, none⟩ = some u) ∧ u = .pointer (some ⟨b, o + i.toNat * E.P.cellsOf e + off, none⟩) := by
  cases h with
  | data h t => cases h
  | lptr hs h hr t => exact ⟨_, _, _, hs, h, hr, rfl⟩
theorem DL.lit_inv {P : Program} {w : World} {own : Nat → Prop} {e : TypeId} {f : Bool} {xs : List AV} {u : Value} (h : DL P w own [.lit e f xs] [u]) : ∃ a cap vals, u = .slice a xs.length cap ∧ xs.length ≤ cap ∧ cap ≤ maxLen ∧ (f = true → cap = xs.length) ∧
    (∀ x, x ∈ xs → x.cells.length = P.cellsOf e) ∧ DL P w own (flat xs) vals ∧ (∀ u, u ∈ vals → u.oneCell' = true) ∧ (∀ j u, vals[j]? = some u → ∃ b o, a = some ⟨b, o, none⟩ ∧ ¬ own b ∧ w.cell? ⟨b, o + j, none⟩ = some u) := by
  cases h with | lit hc hm hf hs h h1 hr t => exact ⟨_, _, _, rfl, hc, hm, hf, hs, h, h1, hr⟩

/-- The values of cells that are values of one cell are so, too. -/
theorem VL.one_cells {E : Env} {cs : List AV} {vs : List Value} (h : VL E cs vs) (h1 : ∀ c, c ∈ cs → c.one = true) : ∀ u, u ∈ vs → u.oneCell' = true := by
  induction cs generalizing vs with
  | nil => cases h; intro u hu; cases hu
  | cons c cs ih =>
    obtain ⟨v, us, rfl, h2, h3⟩ := h.uncons
    intro u hu
    rcases List.mem_cons.1 hu with rfl | hu
    · have hc := h1 c (List.mem_cons_self ..)
      cases c with
      | sc v => obtain ⟨rfl, hp⟩ := h2.sc_inv; exact plainSc_one hp
      | agg => simp [AV.one] at hc
      | tup => simp [AV.one] at hc
      | lit => obtain ⟨_, _, _, rfl, _⟩ := h2.lit_inv.lit_inv; rfl
      | sl => exact h2.sl_inv.2.2.1
      | sub => exact h2.sub_inv.2.2.1
      | bptr => obtain ⟨_, rfl⟩ := h2.bptr_inv; rfl
      | rptr => cases h2 with
        | data h t => cases h
        | rptr _ _ h1 _ _ => exact h1
      | lptr => obtain ⟨_, _, _, _, _, _, rfl⟩ := h2.lptr_inv; rfl
      | fn => obtain ⟨_, rfl, _⟩ := h2.fn_inv; rfl
      | bad => simp [AV.one] at hc
    · exact ih h3 (fun c hc => h1 c (List.mem_cons_of_mem _ hc)) u hu

/-! ### Operands -/
theorem cmpVal_vl {E : Env} {v : Value} {a : AV} (h : cmpVal v = some a) : DL E.P E.w E.own [a] [v] := by
  unfold cmpVal at h
  split at h
  · cases h
    exact DL.lit (a := none) (cap := 0) (vals := []) (xs := []) (Nat.le_refl _) (by simp [maxLen]) (fun _ => rfl) (fun x hx => by cases hx) .nil (fun u hu => by cases hu) (fun j u hu => by cases hu) .nil
  · split at h
    · cases h; exact .sc (by assumption) .nil
    · cases h
theorem cmpVals_dl {E : Env} {vs : List Value} : ∀ {l : List AV}, cmpVals vs = some l → DL E.P E.w E.own l vs := by
  induction vs with
  | nil => intro l h; simp [cmpVals] at h; subst h; exact .nil
  | cons v vs ih =>
    intro l h
    simp only [cmpVals] at h
    split at h
    · cases h
      rename_i a l' h1 h2
      exact DL.append (cmpVal_vl h1) (ih h2)
    · cases h
theorem VL.of_getD {E : Env} {t : List AV} {tmps : Array Value} (h : VL E t tmps.toList) (n : Nat) : VL E [t.getD n .bad] [tmps.getD n undef] := by
  have hl := h.length
  by_cases hn : n < t.length
  · obtain ⟨v, hv, h1⟩ := h.get n hn
    have e1 : t.getD n .bad = t[n] := by simp [List.getD, hn]
    have e2 : tmps.getD n undef = v := by
      have : tmps[n]? = some v := by simpa using hv
      simp [this]
    rw [e1, e2]; exact h1
  · have e1 : t.getD n .bad = .bad := by simp [List.getD, hn]
    rw [e1]; exact .bad .nil
theorem od_vl {E : Env} {t : List AV} {a : Act} (h : VL E t a.tmps.toList) {x : Operand} {y : Od} (hx : cmpOd x = some y) : VL E [od t y] [a.eval x] := by
  cases x with
  | tmp n => simp only [cmpOd] at hx; cases hx; exact h.of_getD n
  | const v =>
    simp only [cmpOd, Option.map_eq_some_iff] at hx
    obtain ⟨b, hb, rfl⟩ := hx
    exact .data (cmpVal_vl hb) .nil
  | global g => cases hx
  | func f => simp only [cmpOd] at hx; cases hx; exact .fn .nil .nil
theorem ods_vl {E : Env} {t : List AV} {a : Act} (h : VL E t a.tmps.toList) {xs : List Operand} : ∀ {ys : List Od}, cmpOds xs = some ys → VL E (ys.map (od t)) (xs.map a.eval) := by
  induction xs with
  | nil => intro ys h; simp [cmpOds] at h; subst h; exact .nil
  | cons x xs ih =>
    intro ys hy
    simp only [cmpOds] at hy
    split at hy
    · cases hy
      rename_i a' l' h1 h2
      exact (od_vl h h1).cons (ih h2)
    · cases hy

/-! ### Cells of elements -/
theorem flat_at {xs : List AV} {s : Nat} (hs : ∀ x, x ∈ xs → x.cells.length = s) : ∀ (i : Nat) (x : AV), xs[i]? = some x → ((flat xs).drop (i * s)).take s = x.cells := by
  induction xs with
  | nil => intro i x h; cases h
  | cons y ys ih =>
    intro i x h
    have hy := hs y (List.mem_cons_self ..)
    cases i with
    | zero =>
      simp at h; subst h
      simp only [flat, List.flatMap_cons, Nat.zero_mul, List.drop_zero]
      rw [← hy]; exact List.take_left ..
    | succ i =>
      have := ih (fun x hx => hs x (List.mem_cons_of_mem _ hx)) i x (by simpa using h)
      simp only [flat, List.flatMap_cons] at this ⊢
      rw [Nat.add_mul, Nat.one_mul, List.drop_append, List.drop_eq_nil_of_le (by omega), List.nil_append, show i * s + s - y.cells.length = i * s by omega]
      exact this
theorem DL.drop {P : Program} {w : World} {own : Nat → Prop} {l : List AV} {vs : List Value} (h : DL P w own l vs) (n : Nat) : DL P w own (l.drop n) (vs.drop n) := by
  by_cases hn : n ≤ l.length
  · obtain ⟨us, us', rfl, h1, h2⟩ := DL.split (l.take n) (by rw [List.take_append_drop]; exact h)
    have : us.length = n := by rw [h1.length]; simp [hn]
    rw [List.drop_left' this]; exact h2
  · have := h.length
    rw [List.drop_eq_nil_of_le (by omega), List.drop_eq_nil_of_le (by omega)]; exact .nil
theorem DL.take {P : Program} {w : World} {own : Nat → Prop} {l : List AV} {vs : List Value} (h : DL P w own l vs) (n : Nat) : DL P w own (l.take n) (vs.take n) := by
  by_cases hn : n ≤ l.length
  · obtain ⟨us, us', rfl, h1, h2⟩ := DL.split (l.take n) (by rw [List.take_append_drop]; exact h)
    have : us.length = n := by rw [h1.length]; simp [hn]
    rw [List.take_left' this]; exact h1
  · have := h.length
    rw [List.take_of_length_le (by omega), List.take_of_length_le (by omega)]; exact h
theorem VL.drop {E : Env} {l : List AV} {vs : List Value} (h : VL E l vs) (n : Nat) : VL E (l.drop n) (vs.drop n) := by
  by_cases hn : n ≤ l.length
  · obtain ⟨us, us', rfl, h1, h2⟩ := VL.split (l.take n) (by rw [List.take_append_drop]; exact h)
    have : us.length = n := by rw [h1.length]; simp [hn]
    rw [List.drop_left' this]; exact h2
  · have := h.length
    rw [List.drop_eq_nil_of_le (by omega), List.drop_eq_nil_of_le (by omega)]; exact .nil
theorem VL.take {E : Env} {l : List AV} {vs : List Value} (h : VL E l vs) (n : Nat) : VL E (l.take n) (vs.take n) := by
  by_cases hn : n ≤ l.length
  · obtain ⟨us, us', rfl, h1, h2⟩ := VL.split (l.take n) (by rw [List.take_append_drop]; exact h)
    have : us.length = n := by rw [h1.length]; simp [hn]
    rw [List.take_left' this]; exact h1
  · have := h.length
    rw [List.take_of_length_le (by omega), List.take_of_length_le (by omega)]; exact h

/-! ### Loads -/
theorem add_none (b o j : Nat) : (⟨b, o, none⟩ : Addr).add j = ⟨b, o + j, none⟩ := by unfold Addr.add; split <;> simp_all
theorem run_isAgg {P : Program} {w : World} {t : TypeId} {ag : Bool} (h : isAggT P t = some ag) : (isAgg t).run P w = .ok ag w := by
  unfold isAggT at h
  unfold isAgg
  cases hu : P.underlying t with
  | none => rw [hu] at h; cases h
  | some d =>
    rw [hu] at h
    simp only [Sem.run_bind, run_underlying hu, Result.andThen_ok]
    cases d <;> simp_all
theorem cellsOf_info {P : Program} {t : TypeId} (h : (P.info? t).isSome = true) : ∃ i, P.info? t = some i ∧ P.cellsOf t = i.size ∧ P.bytesOf t = i.bytes := by
  cases hi : P.info? t with
  | none => rw [hi] at h; cases h
  | some i => exact ⟨i, rfl, by simp [Program.cellsOf, hi], by simp [Program.bytesOf, hi]⟩
theorem run_sizeOf {P : Program} {w : World} {t : TypeId} (h : (P.info? t).isSome = true) : (sizeOf t).run P w = .ok (P.cellsOf t) w := by
  obtain ⟨i, h1, h2, _⟩ := cellsOf_info h
  simp [sizeOf, typeInfo, h1, h2]
theorem run_loadVar {P : Program} {w : World} {t : TypeId} {ag : Bool} (hag : isAggT P t = some ag) (hi : (P.info? t).isSome = true) (A : Addr) (us : List Value) (hlen : us.length = P.cellsOf t)
    (hc : ∀ j u, us[j]? = some u → w.cell? (A.add j) = some u) : (ag = true → (loadVar t A).run P w = .ok (.agg us.toArray) w) ∧ (ag = false → ∀ u, us = [u] → (loadVar t A).run P w = .ok u w) := by
  refine ⟨fun h => ?_, fun h u hu => ?_⟩
  · subst h
    have h1 := run_loadCells_list (P := P) w A us hc
    rw [hlen] at h1
    simp [loadVar, run_isAgg hag, run_sizeOf hi, h1]
  · subst h hu
    have h1 := hc 0 u rfl
    have h2 : A.add 0 = A := by simp [Addr.add]
    rw [h2] at h1
    simp [loadVar, run_isAgg hag, h1]

/-- Cells that are read, as the value of their type. -/
theorem load_cells {P : Program} {E : Env} {t : TypeId} {ag : Bool} (hag : isAggT P t = some ag) (hi : (P.info? t).isSome = true) (A : Addr) {c : List AV} {us : List Value} (h : VL E c us) (hlen : c.length = P.cellsOf t)
    (hc : ∀ j u, us[j]? = some u → E.w.cell? (A.add j) = some u) {v : AV} (hv : mkV ag c = some v) : ∃ v', (loadVar t A).run P E.w = .ok v' E.w ∧ VL E [v] [v'] := by
  obtain ⟨h1, h2⟩ := run_loadVar (P := P) (w := E.w) hag hi A us (by rw [h.length, hlen]) hc
  cases ag with
  | true => simp only [mkV] at hv; cases hv; exact ⟨_, h1 rfl, .agg h .nil⟩
  | false =>
    simp only [mkV] at hv
    split at hv
    · cases hv
      obtain ⟨u, rfl, h3⟩ := h.one_inv
      exact ⟨u, h2 rfl u rfl, h3⟩
    · cases hv
theorem cut_some {cs c : List AV} {off n : Nat} (h : cut cs off n = some c) : off + n ≤ cs.length ∧ c = (cs.drop off).take n := by
  unfold cut at h
  split at h
  · cases h; exact ⟨by assumption, rfl⟩
  · cases h
theorem rowOf_some {h : Store} {k g : Nat} {e : TypeId} {ro : Bool} {xs : List AV} (hr : rowOf h k g = some (e, ro, xs)) : h[k]? = some (.row e g ro xs) := by
  unfold rowOf at hr
  split at hr
  · split at hr
    · cases hr; subst_vars; assumption
    · cases hr
  · cases hr

/-- What a row of the store says of its memory, whether it may still be written or not. -/
theorem row_reads {base : Nat} {h : Store} {E : Env} (R : Rel base h E) {k g : Nat} {e : TypeId} {ro : Bool} {xs : List AV} (hr : rowOf h k g = some (e, ro, xs)) :
    E.gen k = some g ∧ E.esz k = E.P.cellsOf e ∧ (∀ x, x ∈ xs → x.cells.length = E.P.cellsOf e) ∧ ∃ a cap vals, E.row k = .slice a xs.length cap ∧ xs.length ≤ cap ∧ cap ≤ maxLen ∧ DL E.P E.w E.own (flat xs) vals ∧ (∀ u, u ∈ vals → u.oneCell' = true) ∧
      (∀ j u, vals[j]? = some u → ∃ b, a = some ⟨b, 0, none⟩ ∧ E.w.cell? ⟨b, j, none⟩ = some u) := by
  have hk := rowOf_some hr
  have ho := R.ent k _ hk
  cases ro with
  | false =>
    obtain ⟨h1, _, h3, h4, vals, h5, h6, h7⟩ := ho
    obtain ⟨hl, h8⟩ := h5
    rcases h8 with ⟨hn, a, ha⟩ | ⟨b, cap, cur, h0, hv, hb, hh, hn, hm, hsz, htk⟩
    · refine ⟨h1, h3, h4, a, 0, vals, by rw [ha, hn], by omega, by simp [maxLen], h6, h7, fun j u hu => ?_⟩
      rw [hn, Nat.zero_mul] at hl
      have : vals = [] := List.eq_nil_of_length_eq_zero hl
      rw [this] at hu; cases hu
    · refine ⟨h1, h3, h4, _, cap, vals, hv, hn, hm, h6, h7, fun j u hu => ⟨b, rfl, ?_⟩⟩
      rw [cell_of_row E.w b j cur e (0, 0) hh]
      rw [← htk, List.getElem?_take] at hu
      split at hu
      · simpa using hu
      · cases hu
  | true =>
    obtain ⟨h1, _, h3, h4, hd⟩ := ho
    obtain ⟨a, cap, vals, ha, hc, hm, _, hs, hdl, h7, hrd⟩ := h4.lit_inv
    refine ⟨h1, h3, hs, a, cap, vals, ha, hc, hm, hdl, h7, fun j u hu => ?_⟩
    obtain ⟨b, o, hab, hno, hcell⟩ := hrd j u hu
    have hne : xs ≠ [] := by
      rintro rfl
      have hl := hdl.length
      simp [flat] at hl
      rw [hl] at hu; cases hu
    obtain ⟨b', n', c', hv'⟩ := hd hne
    rw [ha, hab] at hv'
    injection hv' with hv' _ _
    injection hv' with hv'
    injection hv' with hb' ho' _
    subst ho'
    exact ⟨b, hab, by rw [Nat.zero_add] at hcell; exact hcell⟩

theorem getElem?_drop_take {α : Type} {l : List α} {p n j : Nat} {u : α} (h : ((l.drop p).take n)[j]? = some u) : l[p + j]? = some u := by
  rw [List.getElem?_take] at h
  split at h
  · rw [List.getElem?_drop] at h; exact h
  · cases h
theorem lget_some {xs : List AV} {i : Int} {x : AV} (h : Ops.std.lget xs i = some x) : 0 ≤ i ∧ xs[i.toNat]? = some x := by
  simp only [Ops.std] at h
  split at h
  · exact ⟨by assumption, h⟩
  · cases h

theorem load_sound {P : Program} {base : Nat} {h : Store} {E : Env} (R : Rel base h E) (hP : E.P = P) {t : TypeId} {ag : Bool} (hag : isAggT P t = some ag) (hi : (P.info? t).isSome = true) {p v : AV} {pv : Value} (hp : VL E [p] [pv])
    (hl : loadAt Ops.std h ag (P.cellsOf t) p = some v) : ∃ v', (Instr.loadAt t pv).run P E.w = .ok v' E.w ∧ VL E [v] [v'] := by
  have sure : ∀ A : Addr, (Instr.loadAt t (.pointer (some A))).run P E.w = (loadVar t A).run P E.w := fun A => by simp [Instr.loadAt, Instr.sureAddr]
  subst hP
  cases p with
  | bptr b off =>
    simp only [loadAt] at hl
    obtain ⟨hb, rfl⟩ := hp.bptr_inv
    split at hl
    · rename_i t' cs hcs
      split at hl
      · rename_i c hc
        obtain ⟨hle, rfl⟩ := cut_some hc
        obtain ⟨_, _, _, _, vals, hh, hvl⟩ := R.ent b _ hcs
        rw [sure]
        refine load_cells hag hi _ ((hvl.drop off).take _) (by simp; omega) (fun j u hu => ?_) hl
        rw [add_none, cell_of_row E.w (E.box b) (off + j) _ _ _ hh]
        simpa using getElem?_drop_take hu
      · cases hl
    · cases hl
  | rptr k g i off =>
    simp only [loadAt] at hl
    obtain ⟨hk, hg, hv⟩ := hp.rptr_inv
    split at hl
    · rename_i e ro xs hr
      obtain ⟨hgen, hesz, hs, a, cap, vals, hrow, hc, hm, hdl, _, hrd⟩ := row_reads R hr
      obtain ⟨b, hb, rfl⟩ := hv hgen
      split at hl
      · rename_i x hx
        obtain ⟨hi0, hxi⟩ := lget_some hx
        split at hl
        · rename_i c hcut
          obtain ⟨hle, rfl⟩ := cut_some hcut
          have hx1 : x ∈ xs := List.mem_of_getElem? hxi
          have hfl := flat_at hs i.toNat x hxi
          have hd : DL E.P E.w E.own x.cells ((vals.drop (i.toNat * E.P.cellsOf e)).take (E.P.cellsOf e)) := by
            rw [← hfl]; exact (hdl.drop _).take _
          rw [sure]
          refine load_cells hag hi _ ((hd.vl.drop off).take _) (by simp; omega) (fun j u hu => ?_) hl
          have hu1 := getElem?_drop_take hu
          rw [List.getElem?_take] at hu1
          split at hu1
          · rw [List.getElem?_drop] at hu1
            obtain ⟨b', hab, hcell⟩ := hrd _ u hu1
            obtain ⟨n', c', hrow'⟩ := hb
            rw [hrow, hab] at hrow'
            injection hrow' with hab' _ _
            injection hab' with hab'
            injection hab' with hbb _ _
            subst hbb
            rw [add_none, hesz, Nat.add_assoc]; exact hcell
          · cases hu1
        · cases hl
      · cases hl
    · cases hl
  | lptr e xs i off =>
    simp only [loadAt] at hl
    obtain ⟨b, o, vals, hs, hdl, hrd, rfl⟩ := hp.lptr_inv
    split at hl
    · rename_i x hx
      obtain ⟨hi0, hxi⟩ := lget_some hx
      split at hl
      · rename_i c hcut
        obtain ⟨hle, rfl⟩ := cut_some hcut
        have hfl := flat_at hs i.toNat x hxi
        have hd : DL E.P E.w E.own x.cells ((vals.drop (i.toNat * E.P.cellsOf e)).take (E.P.cellsOf e)) := by
          rw [← hfl]; exact (hdl.drop _).take _
        rw [sure]
        refine load_cells hag hi _ ((hd.vl.drop off).take _) (by simp; omega) (fun j u hu => ?_) hl
        have hu1 := getElem?_drop_take hu
        rw [List.getElem?_take] at hu1
        split at hu1
        · rw [List.getElem?_drop] at hu1
          have := (hrd _ u hu1).2
          rw [add_none]
          rw [show o + i.toNat * E.P.cellsOf e + off + j = o + (i.toNat * E.P.cellsOf e + (off + j)) by omega]; exact this
        · cases hu1
      · cases hl
    · cases hl
  | _ => simp [loadAt] at hl
end Go.Ab
