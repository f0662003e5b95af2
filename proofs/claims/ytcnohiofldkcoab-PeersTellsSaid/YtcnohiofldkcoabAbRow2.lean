/- Parts of rows: slices of them, what is appended to the front of a row within it, what is cleared. -/
import Derived.Test.YtcnohiofldkcoabAbRow
import Derived.Lib.SliceRun
namespace Go.Ab
open Go
set_option linter.unusedSimpArgs false
set_option linter.unusedVariables false

section
variable {P : Program} {base : Nat} {h : Store} {E : Env} {t : List AV} {a : Act}

theorem run_bounds2 {w : World} {len cap : Nat} {lo hi : Option Value} {i j : Int} (hlo : (lo = none ∧ i = 0) ∨ lo = some (.int .i64 i)) (hhi : (hi = none ∧ j = len) ∨ hi = some (.int .i64 j)) (h0 : 0 ≤ i) (h1 : i ≤ j) (h2 : j ≤ cap) :
    (Instr.sliceBounds true len cap lo hi none).run P w = .ok (i.toNat, j.toNat, cap) w := by
  rcases hlo with ⟨rfl, rfl⟩ | rfl
  · rcases hhi with ⟨rfl, rfl⟩ | rfl
    · simp [Instr.sliceBounds]
    · have e1 := fun code => run_sliceBound (P := P) (w := w) (k := .i64) (i := j) (y := cap) (code := code) (by omega) (by omega)
      simp [Instr.sliceBounds, e1]
  · rcases hhi with ⟨rfl, rfl⟩ | rfl
    · have e2 := fun code => run_sliceBound (P := P) (w := w) (k := .i64) (i := i) (y := len) (code := code) h0 (by omega)
      simp [Instr.sliceBounds, e2]
    · have e1 := fun code => run_sliceBound (P := P) (w := w) (k := .i64) (i := j) (y := cap) (code := code) (by omega) (by omega)
      have e2 := fun code => run_sliceBound (P := P) (w := w) (k := .i64) (i := i) (y := j.toNat) (code := code) h0 (by omega)
      simp [Instr.sliceBounds, e1, e2]

theorem run_bounds3 {w : World} {len cap : Nat} {lo : Option Value} {i j m : Int} (hlo : (lo = none ∧ i = 0) ∨ lo = some (.int .i64 i)) (h0 : 0 ≤ i) (h1 : i ≤ j) (h2 : j ≤ m) (h3 : m ≤ cap) :
    (Instr.sliceBounds true len cap lo (some (.int .i64 j)) (some (.int .i64 m))).run P w = .ok (i.toNat, j.toNat, m.toNat) w := by
  have e0 := fun code => run_sliceBound (P := P) (w := w) (k := .i64) (i := m) (y := cap) (code := code) (by omega) (by omega)
  have e1 := fun code => run_sliceBound (P := P) (w := w) (k := .i64) (i := j) (y := m.toNat) (code := code) (by omega) (by omega)
  rcases hlo with ⟨rfl, rfl⟩ | rfl
  · simp [Instr.sliceBounds, e0, e1]
  · have e2 := fun code => run_sliceBound (P := P) (w := w) (k := .i64) (i := i) (y := j.toNat) (code := code) h0 (by omega)
    simp [Instr.sliceBounds, e0, e1, e2]

theorem lsub_some {xs ys : List AV} {i j : Int} (h : Ops.std.lsub xs i j = some ys) : 0 ≤ i ∧ i ≤ j ∧ j ≤ xs.length ∧ ys = (xs.take j.toNat).drop i.toNat := by
  simp only [Ops.std] at h
  split at h
  · rename_i hb; cases h; exact ⟨hb.1, hb.2.1, hb.2.2, rfl⟩
  · cases h

/-- A part of a part of a row. -/
theorem op_slsSub (R : Rel base h E) (hP : E.P = P) {e0 : TypeId} (hz : 0 < P.cellsOf e0) (ht : VL E t a.tmps.toList) {o : Oper} {ty : TypeId} {x : Operand} {lo hi : Option Operand} (ho : o.op = .slice ty x lo hi none) (hs : P.underlying ty = some (.slice e0)) (hinfo : (P.info? e0).isSome = true) {x' : Od} (hx : cmpOd x = some x') {lo' hi' : Option Od}
    (hl : cmpBnd lo = some lo') (hh : cmpBnd hi = some hi') {k g : Nat} {l0 h0 : Int} (hxs : od t x' = .sub k g l0 h0) {v : AV} (he : slsSub Ops.std h t e0 k g l0 h0 lo' hi' = some v) : Comes1 P base o a h E v h := by
  have hv := od_vl ht hx
  rw [hxs] at hv
  obtain ⟨hkn, hg, h1, hsub⟩ := hv.sub_inv
  unfold slsSub at he
  split at he
  · rename_i e' ro xs hr
    split at he
    · rename_i hee; subst hee
      split at he
      · rename_i ys hys
        split at he
        · rename_i i j hi1 hj1
          obtain ⟨hgen, hesz, hs', ad0, cap0, vals0, hv0, hc0, hm0, hd0, hone0, hrd0⟩ := row_reads R hr
          obtain ⟨_, h01, ad, cap, hve, hc, hm, hb, hz0⟩ := hsub hgen
          obtain ⟨q0, q1, q2, q3⟩ := lsub_some hys
          have hylen : ys.length = (h0 - l0).toNat := by rw [q3]; simp; omega
          have hlo := bound_od ht hl hi1
          have hhi := bound_od ht hh hj1
          have run : 0 ≤ i → i ≤ j → j ≤ cap → (execOp a.eval o).run P E.w = .ok (.value (.slice (if cap = i.toNat then ad else ad.map (·.add (i.toNat * P.cellsOf e0))) (j.toNat - i.toNat) (cap - i.toNat))) E.w := fun b1 b2 b3 => by
            have hb' := run_bounds2 (P := P) (w := E.w) (len := (h0 - l0).toNat) (cap := cap) (lo := lo.map a.eval) (hi := hi.map a.eval) (i := i) (j := j) (by rcases hlo with ⟨rfl, rfl⟩ | ⟨y, rfl, hy⟩; exact .inl ⟨rfl, rfl⟩; exact .inr (by simp [hy]))
              (by rcases hhi with ⟨rfl, hj⟩ | ⟨y, rfl, hy⟩; exact .inl ⟨rfl, by rw [hj, ← hylen]; rfl⟩; exact .inr (by simp [hy])) b1 b2 b3
            simp only [execOp, ho, hve, Instr.sliceAt, Sem.run_bind, run_underlying hs, Result.andThen_ok, Instr.slice, Option.map_none]
            simp [hb', run_sizeOf hinfo]
          subst hP
          -- the row's own address
          have hadr : ∀ {u}, u < xs.length → ∃ b, ad0 = some ⟨b, 0, none⟩ := fun {u} hu => by
            obtain ⟨c, hcell⟩ := elem_cell hs' hz hd0.length hu
            obtain ⟨b, hab, _⟩ := hrd0 _ c hcell
            exact ⟨b, hab⟩
          split at he
          · rename_i hl0
            have hl0 : l0 = 0 := by simpa [Ops.std] using hl0
            subst hl0
            split at he
            · rename_i zs hzs
              cases he
              obtain ⟨b1, b2, b3, _⟩ := lsub_some hzs
              obtain ⟨n0, hrk⟩ := hz0 rfl
              rw [hv0] at hrk
              injection hrk with e1 _ e3
              subst e1 e3
              refine Comes1.same R (run b1 b2 (by omega)) (.sub hkn hg rfl (fun _ => ⟨b1, b2, _, _, by rw [show (j - i).toNat = j.toNat - i.toNat by omega], by omega, by omega, fun hij => ?_, fun hi0 => ⟨xs.length, ?_⟩⟩) .nil)
              · have hne : cap0 ≠ i.toNat := by omega
                obtain ⟨b, hab⟩ := hadr (u := 0) (by omega)
                exact ⟨b, headAt_of hv0 hab, by rw [if_neg hne, hab, hesz]; simp [add_none]⟩
              · subst hi0
                rw [hv0]
                by_cases hce : cap0 = 0
                · subst hce; simp
                · rw [if_neg (by simpa using hce)]
                  cases ad0 with
                  | none => simp
                  | some A => simp [Addr.add]
            · cases he
          · rename_i hl0
            split at he
            · rename_i zs hzs
              cases he
              have hl0 : l0 ≠ 0 := by simpa [Ops.std] using hl0
              obtain ⟨b1, b2, b3, _⟩ := lsub_some hzs
              have hA : Ops.std.iadd .i64 l0 i = l0 + i := by
                show IntKind.i64.wrap _ = _
                rw [IntKind.wrap_i64]
                have : maxLen = 9223372036854775807 := by unfold maxLen; rfl
                omega
              have hB : Ops.std.iadd .i64 l0 j = l0 + j := by
                show IntKind.i64.wrap _ = _
                rw [IntKind.wrap_i64]
                have : maxLen = 9223372036854775807 := by unfold maxLen; rfl
                omega
              rw [hA, hB]
              refine Comes1.same R (run b1 b2 (by omega)) (.sub hkn hg rfl (fun _ => ⟨by omega, by omega, _, _, by rw [show (l0 + j - (l0 + i)).toNat = j.toNat - i.toNat by omega], by omega, by omega, fun hij => ?_, fun hi0 => absurd hi0 (by omega)⟩) .nil)
              have hne : cap ≠ i.toNat := by omega
              obtain ⟨b, hh1, hab⟩ := hb (by omega)
              refine ⟨b, hh1, ?_⟩
              rw [if_neg hne, hab, hesz]
              simp only [Option.map_some, add_none]
              rw [show (l0 + i).toNat = l0.toNat + i.toNat by omega, Nat.add_mul]
            · cases he
        · cases he
      · cases he
    · cases he
  · cases he

/-- A slice of three bounds: that it may be. -/
theorem op_sls3 (R : Rel base h E) (hP : E.P = P) {e0 : TypeId} (ht : VL E t a.tmps.toList) {o : Oper} {ty : TypeId} {x y z : Operand} {lo : Option Operand} (ho : o.op = .slice ty x lo (some y) (some z)) (hs : P.underlying ty = some (.slice e0)) (hinfo : (P.info? e0).isSome = true) {x' y' z' : Od} (hx : cmpOd x = some x') (hy : cmpOd y = some y') (hz : cmpOd z = some z') {lo' : Option Od}
    (hl : cmpBnd lo = some lo') {xs ys zs : List AV} (hxs : elemsOf Ops.std h (od t x') = some xs) {i j m : Int}
    (hi1 : bnd t 0 lo' = some i) (hj1 : asInt (od t y') = some j) (hm1 : asInt (od t z') = some m) (hr : Ops.std.lsub xs i j = some ys) (hr2 : Ops.std.lsub xs j m = some zs) : Comes1 P base o a h E .bad h := by
  obtain ⟨ad, cap, vals, hv, hc, hm, hd, hone, _, hrd⟩ := elems_vl R (od_vl ht hx) hxs
  obtain ⟨b1, b2, _, _⟩ := lsub_some hr
  obtain ⟨b3, b4, b5, _⟩ := lsub_some hr2
  have hlo := bound_od ht hl hi1
  have val : ∀ {q : Od} {qo : Operand} {n : Int}, cmpOd qo = some q → asInt (od t q) = some n → a.eval qo = .int .i64 n := fun {q qo n} h1 h2 => by
    have h3 := od_vl ht h1
    cases hq : od t q with
    | sc u =>
      rw [hq] at h2 h3
      have h4 := h3.sc_inv.1
      cases u with
      | int k c => cases k <;> simp [asInt] at h2; subst h2; exact h4
      | _ => simp [asInt] at h2
    | _ => rw [hq] at h2; simp [asInt] at h2
  have hb' := run_bounds3 (P := P) (w := E.w) (len := xs.length) (cap := cap) (lo := lo.map a.eval) (i := i) (j := j) (m := m) (by rcases hlo with ⟨rfl, rfl⟩ | ⟨y, rfl, hy⟩; exact .inl ⟨rfl, rfl⟩; exact .inr (by simp [hy])) b1 b2 b4 (by omega)
  refine Comes1.same R (v' := .slice (if m.toNat = i.toNat then ad else ad.map (·.add (i.toNat * P.cellsOf e0))) (j.toNat - i.toNat) (m.toNat - i.toNat)) ?_ (.bad .nil)
  simp only [execOp, ho, hv, Instr.sliceAt, Sem.run_bind, run_underlying hs, Result.andThen_ok, Instr.slice, Option.map_some, val hy hj1, val hz hm1]
  simp [hb', run_sizeOf hinfo]

/-- A piece of a row is written over. -/
theorem row_piece (R : Rel base h E) {k g : Nat} {e : TypeId} {xs : List AV} (hr : rowOf h k g = some (e, false, xs)) {p : Nat} {ys : List AV} {news : List Value} (hp : p + ys.length ≤ xs.length) (hsy : ∀ y, y ∈ ys → y.cells.length = E.P.cellsOf e) (hd : DL E.P E.w E.own (flat ys) news) (h1 : ∀ u, u ∈ news → u.oneCell' = true)
    {b0 cap : Nat} {cur : Array Value} (ha : E.row k = .slice (some ⟨b0, 0, none⟩) xs.length cap) (hh : E.w.heap[b0]? = some (.cells cur e (0, 0))) (hc0 : 0 < cap) :
    Rel base (h.set k (.row e g false (xs.take p ++ ys ++ xs.drop (p + ys.length)))) { E with w := E.w.setRow b0 (cur.toList.take (p * E.P.cellsOf e) ++ news ++ cur.toList.drop (p * E.P.cellsOf e + news.length)).toArray } ∧
    Step h E (h.set k (.row e g false (xs.take p ++ ys ++ xs.drop (p + ys.length)))) { E with w := E.w.setRow b0 (cur.toList.take (p * E.P.cellsOf e) ++ news ++ cur.toList.drop (p * E.P.cellsOf e + news.length)).toArray } := by
  have hk := rowOf_some hr
  obtain ⟨hgen, htop, hesz, hsx, olds, hrow, hdx, honex⟩ := R.ent k _ hk
  have hblk0 : rowBlk (E.row k) = some b0 := by
    rw [ha]
    cases cap with
    | zero => omega
    | succ c' => rfl
  have hbk : blkOf E h k = some b0 := (blkOf_of hk).trans hblk0
  have hnl : news.length = ys.length * E.P.cellsOf e := by rw [hd.length, flat_len hsy]
  rcases hrow.2 with ⟨hn0, a', ha'⟩ | ⟨b0', cap', cur', hc0', ha', hbb, hh', hlec, hmx, hcs, htk⟩
  · rw [ha] at ha'
    injection ha' with _ _ e3
    omega
  · rw [ha] at ha'
    injection ha' with e1 _ e3
    injection e1 with e1
    injection e1 with e1 _ _
    subst e1 e3
    rw [hh] at hh'
    injection hh' with hh'
    injection hh' with hh' _ _
    subst hh'
    have hcl : cur.toList.length = cap * E.P.cellsOf e := by simpa using hcs
    have hpos : p * E.P.cellsOf e + ys.length * E.P.cellsOf e ≤ xs.length * E.P.cellsOf e := by rw [← Nat.add_mul]; exact Nat.mul_le_mul_right _ hp
    have hcap : xs.length * E.P.cellsOf e ≤ cap * E.P.cellsOf e := Nat.mul_le_mul_right _ hlec
    have hlen : (xs.take p ++ ys ++ xs.drop (p + ys.length)).length = xs.length := by simp; omega
    have hol := hrow.1
    have hsz' : ∀ z, z ∈ xs.take p ++ ys ++ xs.drop (p + ys.length) → z.cells.length = E.P.cellsOf e := fun z hz => by
      rcases List.mem_append.1 hz with hz | hz
      · rcases List.mem_append.1 hz with hz | hz
        · exact hsx z (List.mem_of_mem_take hz)
        · exact hsy z hz
      · exact hsx z (List.mem_of_mem_drop hz)
    have hdl' : DL E.P E.w E.own (flat (xs.take p ++ ys ++ xs.drop (p + ys.length))) (olds.take (p * E.P.cellsOf e) ++ news ++ olds.drop (p * E.P.cellsOf e + news.length)) := by
      rw [flat_append, flat_append, flat_take hsx, flat_drop hsx, hnl, ← Nat.add_mul]
      exact ((hdx.take _).append hd).append (hdx.drop _)
    refine rel_write R hbk _ (.row e g false (xs.take p ++ ys ++ xs.drop (p + ys.length))) hblk0 ⟨hgen, htop, hesz, hsz', olds.take (p * E.P.cellsOf e) ++ news ++ olds.drop (p * E.P.cellsOf e + news.length), ?_, hdl'.step (ext_write R hbk _), fun u hu => ?_⟩
    · refine ⟨by rw [hlen]; simp only [List.length_append, List.length_take, List.length_drop, hol, hnl]; omega, .inr ⟨b0, cap, _, hc0, by rw [hlen]; exact ha, hbb, setRow_heap E.w b0 cur _ e (0, 0) hh, by rw [hlen]; exact hlec, hmx, ?_, ?_⟩⟩
      · simp only [List.size_toArray, List.length_append, List.length_take, List.length_drop, hcl, hnl]; omega
      · rw [hlen, ← htk]
        exact take_splice cur.toList news (p * E.P.cellsOf e) news.length (xs.length * E.P.cellsOf e) (by rw [hnl]; exact hpos) (by rw [hcl]; exact hcap) rfl
    · rcases List.mem_append.1 hu with hu | hu
      · rcases List.mem_append.1 hu with hu | hu
        · exact honex u (List.mem_of_mem_take hu)
        · exact h1 u hu
      · exact honex u (List.mem_of_mem_drop hu)

section
variable {o : Oper} {ty e : TypeId} {x y : Operand} {args : Array Operand} {tys : Array TypeId} {x' y' : Od} {z : AV} {ys : List AV}

/-- append to the front of a row, within it. -/
theorem op_app3 (R : Rel base h E) (hP : E.P = P) (ht : VL E t a.tmps.toList) (ho : o.op = .call { callee := .builtin .append, args, argTypes := tys }) (hargs : args.toList = [x, y]) (htys : tys.toList = [ty, ty]) (hs : P.underlying ty = some (.slice e)) (hz : zeroOf P e = some z) (h0 : 0 < P.cellsOf e)
    (hx : cmpOd x = some x') (hy : cmpOd y = some y') (hys : elemsOf Ops.std h (od t y') = some ys) (hsize : ∀ x, x ∈ ys → x.cells.length = P.cellsOf e) {k g : Nat} {lo hi : Int} (hsl : od t x' = .sub k g lo hi) {r : AV × Store} (he : appSub Ops.std h e k g lo hi ys = some r) :
    Comes1 P base o a h E r.1 r.2 := by
  have hxv := od_vl ht hx
  rw [hsl] at hxv
  unfold appSub at he
  split at he
  · rename_i xs hr
    split at he
    · rename_i hee
      subst hee
      split at he
      case h_1 => cases he
      rename_i hlo
      split at he
      case h_1 => cases he
      rename_i hle
      split at he
      · cases he
      · rename_i zs hzs
        cases he
        have hlo : lo = 0 := by simpa [Ops.std] using hlo
        subst hlo
        have hk := rowOf_some hr
        obtain ⟨hgen, hesz, hs', ad0, cap0, vals0, hv0, hc0, hm0, hd0, hone0, hrd0⟩ := row_reads R hr
        obtain ⟨hkn, hg, h1, hsub⟩ := hxv.sub_inv
        obtain ⟨_, h01, ad, cap, hve, hc, hm, _, hz0⟩ := hsub hgen
        obtain ⟨n0, hrk⟩ := hz0 rfl
        rw [hv0] at hrk
        injection hrk with e1 _ e3
        subst e1 e3
        obtain ⟨b1, b2, b3, _⟩ := lsub_some hzs
        have hmx : maxLen = 9223372036854775807 := by unfold maxLen; rfl
        have hle : (ys.length : Int) ≤ xs.length - hi := by
          have h2 : Ops.std.isub .i64 (xs.length : Int) hi = xs.length - hi := by
            show IntKind.i64.wrap _ = _
            rw [IntKind.wrap_i64]; omega
          have h3 : Ops.std.ile (ys.length : Int) (Ops.std.isub .i64 (xs.length : Int) hi) = true := hle
          rw [h2] at h3
          simpa [Ops.std] using h3
        have hadd : Ops.std.iadd .i64 hi (Ops.std.llen ys) = hi + ys.length := by
          show IntKind.i64.wrap (hi + (ys.length : Int)) = _
          rw [IntKind.wrap_i64]; omega
        rw [hadd]
        have hn : (hi - 0).toNat = hi.toNat := by congr 1; omega
        rw [hn] at hve hc
        obtain ⟨bd, c, news, hyv, hcy, hmy, hd, hone, _, hrd⟩ := elems_vl R (od_vl ht hy) hys
        have hinfo : (P.info? e).isSome = true := by obtain ⟨i, _, hi, _⟩ := zeroOf_some (E := E) hz; rw [hi]; rfl
        subst hP
        have hnl : news.length = ys.length * E.P.cellsOf e := by rw [hd.length, flat_len hsize]
        have hput : Ops.std.lput xs hi ys = xs.take hi.toNat ++ ys ++ xs.drop (hi.toNat + ys.length) := rfl
        rw [hput]
        by_cases hyz : ys.length = 0
        · have hyn : ys = [] := List.eq_nil_of_length_eq_zero hyz
          subst hyn
          have hr0 := run_append_zero (w := E.w) (rt := o.type) hs hinfo ad0 bd hi.toNat cap0 c (by omega)
          have hset : h.set k (.row e g false (xs.take hi.toNat ++ [] ++ xs.drop (hi.toNat + ([] : List AV).length))) = h := by
            have : xs.take hi.toNat ++ [] ++ xs.drop (hi.toNat + ([] : List AV).length) = xs := by simp
            rw [this]
            obtain ⟨hkl, hke⟩ := List.getElem?_eq_some_iff.1 hk
            rw [← hke]; exact List.set_getElem_self hkl
          rw [hset]
          refine Comes1.same R (v' := .slice ad0 hi.toNat cap0) (app_run ho hargs htys (by rw [hve, hyv]; exact hr0)) ?_
          rw [hve] at hxv
          simpa using hxv
        · obtain ⟨u0, hu0⟩ := elem_cell hs' h0 hd0.length (i := 0) (by omega)
          obtain ⟨b0, rfl, _⟩ := hrd0 _ u0 hu0
          -- the block itself
          obtain ⟨_, _, _, _, olds, hrow, _⟩ := R.ent k _ hk
          rcases hrow.2 with ⟨hn0, _⟩ | ⟨b0', cap', cur, hcp, ha', hbb, hh, hlec, hmxc, hcs, htk⟩
          · omega
          · have ha'' := ha'
            rw [hv0] at ha'
            injection ha' with e1 _ e3
            injection e1 with e1
            injection e1 with e1 _ _
            subst e1 e3
            obtain ⟨i, zv, hi', hzv, hzs', _, _⟩ := zeroOf_some (E := E) hz
            have his : E.P.cellsOf e = i.size := by simp [Program.cellsOf, hi']
            have hne : ∃ u, news[0]? = some u := ⟨news[0]'(by rw [hnl]; exact Nat.mul_pos (by omega) h0), List.getElem?_eq_getElem _⟩
            obtain ⟨v0, hv0'⟩ := hne
            obtain ⟨b1', o1, rfl, _⟩ := hrd 0 v0 hv0'
            have hnews : ∀ j v, news[j]? = some v → E.w.cell? ((⟨b1', o1, none⟩ : Addr).add j) = some v := fun j v hj => by
              obtain ⟨b', o', hab, hc'⟩ := hrd j v hj
              injection hab with hab
              injection hab with e1 e2 _
              subst e1 e2
              rw [add_none]; exact hc'
            have hfit : hi.toNat * i.size + news.length ≤ cur.size := by
              rw [hcs, hnl, ← his, ← Nat.add_mul]; exact Nat.mul_le_mul_right _ (by omega)
            have hra := run_append_room (P := E.P) E.w ty o.type e i hs hi' b0 hi.toNat cap0 cur hh ⟨b1', o1, none⟩ ys.length c news (by rw [hnl, his]) hnews hone (by omega) hfit
            obtain ⟨R', S'⟩ := row_piece R hr (p := hi.toNat) (ys := ys) (news := news) (by omega) hsize hd hone hv0 hh hcp
            rw [← his] at hra
            refine ⟨_, _, .inl (app_run ho hargs htys (by rw [hve, hyv]; exact hra)), R', S', ?_⟩
            refine .sub hkn hg rfl (fun _ => ⟨by omega, by omega, some ⟨b0, 0, none⟩, cap0, ?_, ?_, hm0, fun _ => ⟨b0, ?_, ?_⟩, fun _ => ⟨xs.length, hv0⟩⟩) .nil
            · congr 1; omega
            · omega
            · exact ⟨_, _, hv0⟩
            · simp
    · cases he
  · cases he

/-- So many zero values, one behind the other. -/
theorem zeros_dl {w : World} {own : Nat → Prop} {zs : List AV} {us : List Value} (hd : DL P w own zs us) : ∀ n, DL P w own ((List.replicate n zs).flatten) ((List.replicate n us).flatten) := by
  intro n
  induction n with
  | zero => exact .nil
  | succ n ih => simp only [List.replicate_succ, List.flatten_cons]; exact hd.append ih
theorem cmpVal_one {v : Value} {x : AV} (h : cmpVal v = some x) : x.one = true := by
  unfold cmpVal at h
  split at h
  · cases h; rfl
  · split at h
    · cases h; rfl
    · cases h
theorem cmpVals_one : ∀ {vs : List Value} {l : List AV}, cmpVals vs = some l → ∀ c, c ∈ l → c.one = true := by
  intro vs
  induction vs with
  | nil => intro l h c hc; simp only [cmpVals] at h; cases h; cases hc
  | cons v vs ih =>
    intro l h c hc
    simp only [cmpVals] at h
    split at h
    · rename_i a b ha hb
      cases h
      rcases List.mem_cons.1 hc with rfl | hc
      · exact cmpVal_one ha
      · exact ih hb c hc
    · cases h
/-- A type's zero value: data, of values of one cell. -/
theorem zero_data {P : Program} {E : Env} {t : TypeId} {z : AV} (h : zeroOf P t = some z) : ∃ i zv, P.info? t = some i ∧ i.zero = some zv ∧ zv.cells.size = P.cellsOf t ∧ DL E.P E.w E.own z.cells zv.cells.toList ∧ ∀ c, c ∈ z.cells → c.one = true := by
  unfold zeroOf at h
  split at h
  · rename_i i hi
    split at h
    · rename_i zv hz
      split at h
      · rename_i hsz
        have hc : P.cellsOf t = i.size := by simp [Program.cellsOf, hi]
        split at h
        · rename_i cs
          obtain ⟨l, hl, rfl⟩ := mapped h
          exact ⟨i, _, hi, hz, by rw [hc]; exact hsz, by simpa [AV.cells, Value.cells] using cmpVals_dl (E := E) hl, cmpVals_one hl⟩
        · rename_i hne
          have hd := cmpVal_vl (E := E) h
          have h1 := cmpVal_one h
          refine ⟨i, zv, hi, hz, by rw [hc]; exact hsz, data_cells hd, fun c hcc => ?_⟩
          rw [cells_of_one h1] at hcc
          rw [List.mem_singleton.1 hcc]; exact h1
      · cases h
    · cases h
  · cases h
theorem zeroCells_list {zc : Array Value} (hpos : 0 < zc.size) : ∀ n, (Builtin.zeroCells zc n).toList = (List.replicate n zc.toList).flatten := by
  intro n
  induction n with
  | zero => simp [Builtin.zeroCells]
  | succ n ih =>
    have h1 : (Builtin.zeroCells zc (n + 1)).toList = (Builtin.zeroCells zc n).toList ++ zc.toList := by
      apply List.ext_getElem
      · simp [Builtin.zeroCells, Nat.add_mul]
      · intro i hi1 hi2
        simp only [Builtin.zeroCells, Array.toList_map, Array.toList_range, List.length_append, List.length_map, List.length_range, Array.length_toList] at hi1 hi2
        simp only [Builtin.zeroCells, Array.toList_map, Array.toList_range, List.getElem_map, List.getElem_range]
        by_cases hlt : i < n * zc.size
        · rw [List.getElem_append_left (by simpa using hlt)]
          simp
        · rw [List.getElem_append_right (by simpa using hlt)]
          have hlt2 : i - n * zc.size < zc.size := by
            rw [Nat.add_mul, Nat.one_mul] at hi1; omega
          have hmod : i % zc.size = i - n * zc.size := by
            rw [show i = (i - n * zc.size) + n * zc.size by omega, Nat.add_mul_mod_self_right, Nat.mod_eq_of_lt hlt2]; omega
          simp only [List.length_map, List.length_range, hmod]
          rw [getElem!_pos zc _ hlt2]; simp
    rw [h1, ih, List.replicate_succ', List.flatten_append]
    simp

/-- clear of a part of a row. -/
theorem op_clr (R : Rel base h E) (hP : E.P = P) (ht : VL E t a.tmps.toList) (ho : o.op = .call { callee := .builtin .clear, args, argTypes := tys }) (hargs : args.toList = [x]) (htys : tys.toList = [ty]) (hs : P.underlying ty = some (.slice e)) (hz : zeroOf P e = some z) (h0 : 0 < P.cellsOf e)
    (hx : cmpOd x = some x') {k g : Nat} {lo hi : Int} (hsl : od t x' = .sub k g lo hi) {xs zs : List AV} (hr : rowOf h k g = some (e, false, xs)) (hzs : Ops.std.lsub xs lo hi = some zs) :
    Comes1 P base o a h E (.tup []) (h.set k (.row e g false (Ops.std.lfil xs lo hi z))) := by
  have ea : args = #[x] := Array.ext' hargs
  have et : tys = #[ty] := Array.ext' htys
  subst ea et
  have hxv := od_vl ht hx
  rw [hsl] at hxv
  have hk := rowOf_some hr
  obtain ⟨hgen, hesz, hs', ad0, cap0, vals0, hv0, hc0, hm0, hd0, hone0, hrd0⟩ := row_reads R hr
  obtain ⟨hkn, hg, h1, hsub⟩ := hxv.sub_inv
  obtain ⟨_, h01, ad, cap, hve, hc, hm, hb, _⟩ := hsub hgen
  obtain ⟨b1, b2, b3, _⟩ := lsub_some hzs
  obtain ⟨i, zv, hi', hzv, hzs', hzdl, hzone⟩ := zero_data (E := E) hz
  have hfil : Ops.std.lfil xs lo hi z = xs.take lo.toNat ++ List.replicate (hi.toNat - lo.toNat) z ++ xs.drop hi.toNat := rfl
  rw [hfil]
  by_cases hlt : lo < hi
  · obtain ⟨b0, ⟨n1, c1, hhead⟩, hab⟩ := hb hlt
    obtain ⟨_, _, _, _, olds, hrow, _⟩ := R.ent k _ hk
    rcases hrow.2 with ⟨hn0, _⟩ | ⟨b0', cap', cur, hcp, ha', hbb, hh, hlec, hmxc, hcs, htk⟩
    · omega
    · have ha'' := ha'
      rw [hhead] at ha'
      injection ha' with e1 _ e3
      injection e1 with e1
      injection e1 with e1 _ _
      subst e1
      subst hP
      rw [hesz] at hab
      have hn : (hi - lo).toNat = hi.toNat - lo.toNat := by omega
      have hz1 : ∀ u, u ∈ zv.cells.toList → u.oneCell' = true := hzdl.vl.one_cells hzone
      have hzpos : 0 < zv.cells.size := by rw [hzs']; exact h0
      have hlist := zeroCells_list hzpos (hi.toNat - lo.toNat)
      have hnews := zeros_dl hzdl (hi.toNat - lo.toNat)
      have hflat : flat (List.replicate (hi.toNat - lo.toNat) z) = (List.replicate (hi.toNat - lo.toNat) z.cells).flatten := by
        simp [flat, List.flatMap_def]
      have hzl : z.cells.length = E.P.cellsOf e := by rw [← hzs', ← hzdl.length]; simp
      have hone : ∀ u, u ∈ (List.replicate (hi.toNat - lo.toNat) zv.cells.toList).flatten → u.oneCell' = true := fun u hu => by
        obtain ⟨l, hl, hul⟩ := List.mem_flatten.1 hu
        rw [List.eq_of_mem_replicate hl] at hul
        exact hz1 u hul
      have hnl : ((List.replicate (hi.toNat - lo.toNat) zv.cells.toList).flatten).length = (hi.toNat - lo.toNat) * E.P.cellsOf e := by
        simp [hzs']
      have hfit : lo.toNat * E.P.cellsOf e + 0 + ((List.replicate (hi.toNat - lo.toNat) zv.cells.toList).flatten).length ≤ cur.size := by
        rw [hcs, hnl, Nat.add_zero, ← Nat.add_mul]; exact Nat.mul_le_mul_right _ (by omega)
      have hst := run_storeCells_at E.P b0 (lo.toNat * E.P.cellsOf e) e _ 0 cur E.w hh hfit hone
      simp only [Nat.add_zero] at hst
      obtain ⟨R', S'⟩ := row_piece R hr (p := lo.toNat) (ys := List.replicate (hi.toNat - lo.toNat) z) (by simp; omega) (fun y hy => by rw [List.eq_of_mem_replicate hy]; exact hzl) (by rw [hflat]; exact hnews) hone ha'' hh hcp
      have hidx : lo.toNat + (List.replicate (hi.toNat - lo.toNat) z).length = hi.toNat := by simp; omega
      rw [hidx] at R' S'
      refine ⟨_, _, .inl ?_, R', S', .tup .nil .nil⟩
      obtain ⟨m, hm'⟩ : ∃ m, hi.toNat - lo.toNat = m + 1 := ⟨hi.toNat - lo.toNat - 1, by omega⟩
      have hzr : (zeroValue e).run E.P E.w = .ok zv E.w := by simp [zeroValue, typeInfo, hi', hzv]
      rw [← hlist] at hst ⊢
      rw [hab, hn, hm'] at hve
      rw [hm'] at hst ⊢
      simp [execOp, ho, resolve, invoke, builtin, hve, Builtin.clear_, run_underlying hs, hzr, hst]
  · have hlo : lo = hi := by omega
    subst hlo
    have hset : h.set k (.row e g false (xs.take lo.toNat ++ List.replicate (lo.toNat - lo.toNat) z ++ xs.drop lo.toNat)) = h := by
      have : xs.take lo.toNat ++ List.replicate (lo.toNat - lo.toNat) z ++ xs.drop lo.toNat = xs := by simp
      rw [this]
      obtain ⟨hkl, hke⟩ := List.getElem?_eq_some_iff.1 hk
      rw [← hke]; exact List.set_getElem_self hkl
    rw [hset]
    have hn : (lo - lo).toNat = 0 := by omega
    rw [hn] at hve
    refine Comes1.same R (v' := .tuple #[]) ?_ (.tup .nil .nil)
    cases ad with
    | none => simp [execOp, ho, resolve, invoke, builtin, hve, Builtin.clear_, run_underlying hs]
    | some A => simp [execOp, ho, resolve, invoke, builtin, hve, Builtin.clear_, run_underlying hs]
end
end
end Go.Ab
