/- Our texts for this statement, merged: what its theorem leads to. -/
import Derived.Lib.SliceRun
import Derived.Test.YtpiabgfedgddeaaDoorQStore4
namespace Go.Ab
open Go
set_option linter.unusedSimpArgs false
set_option linter.unusedVariables false
section
variable {P : Program} {base : Base} {h : Store} {E : Env} {t : List AV} {a : Act}
theorem run_bounds2 {w : World} {len cap : Nat} {lo hi : Option Value} {i j : Int} (hlo : (lo = none ∧ i = 0) ∨ lo = some (.int .i64 i)) (hhi : (hi = none ∧ j = len) ∨ hi = some (.int .i64 j)) (h0 : 0 ≤ i) (h1 : i ≤ j) (h2 : j ≤ cap) :
    (Instr.sliceBounds true len cap lo hi none).run P w = .ok (i.toNat, j.toNat, cap) w := by
  rcases hlo with ⟨rfl, rfl⟩ | rfl
  · rcases hhi with ⟨rfl, rfl⟩ | rfl
    · simp [Instr.sliceBounds]
    · have e1 := fun code => run_sliceBound (P := P) (w := w) (k := .i64) (i := j) (y := cap) (code := code) (by omega) (by omega)
      simp [Instr.sliceBounds, e1]
  · rcases hhi with ⟨rfl, rfl⟩ | rfl
    · have e2 := fun code => run_sliceBound (P := P) (w := w) (k := .i64) (i := i) (y := len) (code := code) h0 (by omega)
      simp [Instr.sliceBounds, e2]
    · have e1 := fun code => run_sliceBound (P := P) (w := w) (k := .i64) (i := j) (y := cap) (code := code) (by omega) (by omega)
      have e2 := fun code => run_sliceBound (P := P) (w := w) (k := .i64) (i := i) (y := j.toNat) (code := code) h0 (by omega)
      simp [Instr.sliceBounds, e1, e2]
theorem run_bounds3 {w : World} {len cap : Nat} {lo : Option Value} {i j m : Int} (hlo : (lo = none ∧ i = 0) ∨ lo = some (.int .i64 i)) (h0 : 0 ≤ i) (h1 : i ≤ j) (h2 : j ≤ m) (h3 : m ≤ cap) :
    (Instr.sliceBounds true len cap lo (some (.int .i64 j)) (some (.int .i64 m))).run P w = .ok (i.toNat, j.toNat, m.toNat) w := by
  have e0 := fun code => run_sliceBound (P := P) (w := w) (k := .i64) (i := m) (y := cap) (code := code) (by omega) (by omega)
  have e1 := fun code => run_sliceBound (P := P) (w := w) (k := .i64) (i := j) (y := m.toNat) (code := code) (by omega) (by omega)
  rcases hlo with ⟨rfl, rfl⟩ | rfl
  · simp [Instr.sliceBounds, e0, e1]
  · have e2 := fun code => run_sliceBound (P := P) (w := w) (k := .i64) (i := i) (y := j.toNat) (code := code) h0 (by omega)
    simp [Instr.sliceBounds, e0, e1, e2]
theorem lsub_some {xs ys : List AV} {i j : Int} (h : Ops.std.lsub xs i j = some ys) : 0 ≤ i ∧ i ≤ j ∧ j ≤ xs.length ∧ ys = (xs.take j.toNat).drop i.toNat := by
  simp only [Ops.std] at h
  split at h
  · rename_i hb; cases h; exact ⟨hb.1, hb.2.1, hb.2.2, rfl⟩
  · cases h
theorem op_slsSub (R : Rel base h E) (hP : E.P = P) {e0 : TypeId} (hz : 0 < P.cellsOf e0) (ht : VL E t a.tmps.toList) {o : Oper} {ty : TypeId} {x : Operand} {lo hi : Option Operand} (ho : o.op = .slice ty x lo hi none) (hs : P.underlying ty = some (.slice e0)) (hinfo : (P.info? e0).isSome = true) {x' : Od} (hx : cmpOd x = some x') {lo' hi' : Option Od}
    (hl : cmpBnd lo = some lo') (hh : cmpBnd hi = some hi') {k g : Nat} {l0 h0 : Int} (hxs : od t x' = .sub k g l0 h0) {v : AV} (he : slsSub Ops.std h t e0 k g l0 h0 lo' hi' = some v) : Comes1 P base o a h E v h := by
  have hv := od_vl ht hx
  rw [hxs] at hv
  obtain ⟨hkn, hg, h1, hsub⟩ := hv.sub_inv
  unfold slsSub at he
  split at he
  · rename_i e' ro xs hr
    split at he
    · rename_i hee; subst hee
      split at he
      · rename_i ys hys
        split at he
        · rename_i i j hi1 hj1
          obtain ⟨hgen, hesz, hs', ad0, cap0, vals0, hv0, hc0, hm0, hd0, hone0, hrd0⟩ := row_reads R hr
          obtain ⟨_, h01, ad, cap, hve, hc, hm, hb, hz0⟩ := hsub hgen
          obtain ⟨q0, q1, q2, q3⟩ := lsub_some hys
          have hylen : ys.length = (h0 - l0).toNat := by rw [q3]; simp; omega
          have hlo := bound_od ht hl hi1
          have hhi := bound_od ht hh hj1
          have run : 0 ≤ i → i ≤ j → j ≤ cap → (execOp a.eval o).run P E.w = .ok (.value (.slice (if cap = i.toNat then ad else ad.map (·.add (i.toNat * P.cellsOf e0))) (j.toNat - i.toNat) (cap - i.toNat))) E.w := fun b1 b2 b3 => by
            have hb' := run_bounds2 (P := P) (w := E.w) (len := (h0 - l0).toNat) (cap := cap) (lo := lo.map a.eval) (hi := hi.map a.eval) (i := i) (j := j) (by rcases hlo with ⟨rfl, rfl⟩ | ⟨y, rfl, hy⟩; exact .inl ⟨rfl, rfl⟩; exact .inr (by simp [hy]))
              (by rcases hhi with ⟨rfl, hj⟩ | ⟨y, rfl, hy⟩; exact .inl ⟨rfl, by rw [hj, ← hylen]; rfl⟩; exact .inr (by simp [hy])) b1 b2 b3
            simp only [execOp, ho, hve, Instr.sliceAt, Sem.run_bind, run_underlying hs, Result.andThen_ok, Instr.slice, Option.map_none]
            simp [hb', run_sizeOf hinfo]
          subst hP
          have hadr : ∀ {u}, u < xs.length → ∃ b, ad0 = some ⟨b, 0, none⟩ := fun {u} hu => by
            obtain ⟨c, hcell⟩ := elem_cell hs' hz hd0.length hu
            obtain ⟨b, hab, _⟩ := hrd0 _ c hcell
            exact ⟨b, hab⟩
          split at he
          · rename_i hl0
            have hl0 : l0 = 0 := by simpa [Ops.std] using hl0
            subst hl0
            split at he
            · rename_i zs hzs
              cases he
              obtain ⟨b1, b2, b3, _⟩ := lsub_some hzs
              obtain ⟨n0, hrk⟩ := hz0 rfl
              rw [hv0] at hrk
              injection hrk with e1 _ e3
              subst e1 e3
              refine Comes1.same R (run b1 b2 (by omega)) (.sub hkn hg rfl (fun _ => ⟨b1, b2, _, _, by rw [show (j - i).toNat = j.toNat - i.toNat by omega], by omega, by omega, fun hij => ?_, fun hi0 => ⟨xs.length, ?_⟩⟩) .nil)
              · have hne : cap0 ≠ i.toNat := by omega
                obtain ⟨b, hab⟩ := hadr (u := 0) (by omega)
                exact ⟨b, headAt_of hv0 hab, by rw [if_neg hne, hab, hesz]; simp [add_none]⟩
              · subst hi0
                rw [hv0]
                by_cases hce : cap0 = 0
                · subst hce; simp
                · rw [if_neg (by simpa using hce)]
                  cases ad0 with
                  | none => simp
                  | some A => simp [Addr.add]
            · cases he
          · rename_i hl0
            split at he
            · rename_i zs hzs
              cases he
              have hl0 : l0 ≠ 0 := by simpa [Ops.std] using hl0
              obtain ⟨b1, b2, b3, _⟩ := lsub_some hzs
              have hA : Ops.std.iadd .i64 l0 i = l0 + i := by
                show IntKind.i64.wrap _ = _
                rw [IntKind.wrap_i64]
                have : maxLen = 9223372036854775807 := by unfold maxLen; rfl
                omega
              have hB : Ops.std.iadd .i64 l0 j = l0 + j := by
                show IntKind.i64.wrap _ = _
                rw [IntKind.wrap_i64]
                have : maxLen = 9223372036854775807 := by unfold maxLen; rfl
                omega
              rw [hA, hB]
              refine Comes1.same R (run b1 b2 (by omega)) (.sub hkn hg rfl (fun _ => ⟨by omega, by omega, _, _, by rw [show (l0 + j - (l0 + i)).toNat = j.toNat - i.toNat by omega], by omega, by omega, fun hij => ?_, fun hi0 => absurd hi0 (by omega)⟩) .nil)
              have hne : cap ≠ i.toNat := by omega
              obtain ⟨b, hh1, hab⟩ := hb (by omega)
              refine ⟨b, hh1, ?_⟩
              rw [if_neg hne, hab, hesz]
              simp only [Option.map_some, add_none]
              rw [show (l0 + i).toNat = l0.toNat + i.toNat by omega, Nat.add_mul]
            · cases he
        · cases he
      · cases he
    · cases he
  · cases he
theorem op_sls3 (R : Rel base h E) (hP : E.P = P) {e0 : TypeId} (ht : VL E t a.tmps.toList) {o : Oper} {ty : TypeId} {x y z : Operand} {lo : Option Operand} (ho : o.op = .slice ty x lo (some y) (some z)) (hs : P.underlying ty = some (.slice e0)) (hinfo : (P.info? e0).isSome = true) {x' y' z' : Od} (hx : cmpOd x = some x') (hy : cmpOd y = some y') (hz : cmpOd z = some z') {lo' : Option Od}
    (hl : cmpBnd lo = some lo') {xs ys zs : List AV} (hxs : elemsOf Ops.std h (od t x') = some xs) {i j m : Int}
    (hi1 : bnd t 0 lo' = some i) (hj1 : asInt (od t y') = some j) (hm1 : asInt (od t z') = some m) (hr : Ops.std.lsub xs i j = some ys) (hr2 : Ops.std.lsub xs j m = some zs) : Comes1 P base o a h E .bad h := by
  obtain ⟨ad, cap, vals, hv, hc, hm, hd, hone, _, hrd⟩ := elems_vl R (od_vl ht hx) hxs
  obtain ⟨b1, b2, _, _⟩ := lsub_some hr
  obtain ⟨b3, b4, b5, _⟩ := lsub_some hr2
  have hlo := bound_od ht hl hi1
  have val : ∀ {q : Od} {qo : Operand} {n : Int}, cmpOd qo = some q → asInt (od t q) = some n → a.eval qo = .int .i64 n := fun {q qo n} h1 h2 => by
    have h3 := od_vl ht h1
    cases hq : od t q with
    | sc u =>
      rw [hq] at h2 h3
      have h4 := h3.sc_inv.1
      cases u with
      | int k c => cases k <;> simp [asInt] at h2; subst h2; exact h4
      | _ => simp [asInt] at h2
    | _ => rw [hq] at h2; simp [asInt] at h2
  have hb' := run_bounds3 (P := P) (w := E.w) (len := xs.length) (cap := cap) (lo := lo.map a.eval) (i := i) (j := j) (m := m) (by rcases hlo with ⟨rfl, rfl⟩ | ⟨y, rfl, hy⟩; exact .inl ⟨rfl, rfl⟩; exact .inr (by simp [hy])) b1 b2 b4 (by omega)
  refine Comes1.same R (v' := .slice (if m.toNat = i.toNat then ad else ad.map (·.add (i.toNat * P.cellsOf e0))) (j.toNat - i.toNat) (m.toNat - i.toNat)) ?_ (.bad .nil)
  simp only [execOp, ho, hv, Instr.sliceAt, Sem.run_bind, run_underlying hs, Result.andThen_ok, Instr.slice, Option.map_some, val hy hj1, val hz hm1]
  simp [hb', run_sizeOf hinfo]
theorem row_piece (R : Rel base h E) {k g : Nat} {e : TypeId} {xs : List AV} (hr : rowOf h k g = some (e, false, xs)) {p : Nat} {ys : List AV} {news : List Value} (hp : p + ys.length ≤ xs.length) (hsy : ∀ y, y ∈ ys → y.cells.length = E.P.cellsOf e) (hd : DL E.P E.w E.own (flat ys) news) (h1 : ∀ u, u ∈ news → u.oneCell' = true)
    {b0 cap : Nat} {cur : Array Value} (ha : E.row k = .slice (some ⟨b0, 0, none⟩) xs.length cap) (hh : E.w.heap[b0]? = some (.cells cur e (0, 0))) (hc0 : 0 < cap) :
    Rel base (h.set k (.row e g false (xs.take p ++ ys ++ xs.drop (p + ys.length)))) { E with w := E.w.setRow b0 (cur.toList.take (p * E.P.cellsOf e) ++ news ++ cur.toList.drop (p * E.P.cellsOf e + news.length)).toArray } ∧
    Step h E (h.set k (.row e g false (xs.take p ++ ys ++ xs.drop (p + ys.length)))) { E with w := E.w.setRow b0 (cur.toList.take (p * E.P.cellsOf e) ++ news ++ cur.toList.drop (p * E.P.cellsOf e + news.length)).toArray } := by
  have hk := rowOf_some hr
  obtain ⟨hgen, htop, hesz, hsx, olds, hrow, hdx, honex⟩ := R.ent k _ hk
  have hblk0 : rowBlk (E.row k) = some b0 := by
    rw [ha]
    cases cap with
    | zero => omega
    | succ c' => rfl
  have hbk : blkOf E h k = some b0 := (blkOf_of hk).trans hblk0
  have hnl : news.length = ys.length * E.P.cellsOf e := by rw [hd.length, flat_len hsy]
  rcases hrow.2 with ⟨hn0, a', ha'⟩ | ⟨b0', cap', cur', hc0', ha', hbb, hh', hlec, hmx, hcs, htk⟩
  · rw [ha] at ha'
    injection ha' with _ _ e3
    omega
  · rw [ha] at ha'
    injection ha' with e1 _ e3
    injection e1 with e1
    injection e1 with e1 _ _
    subst e1 e3
    rw [hh] at hh'
    injection hh' with hh'
    injection hh' with hh' _ _
    subst hh'
    have hcl : cur.toList.length = cap * E.P.cellsOf e := by simpa using hcs
    have hpos : p * E.P.cellsOf e + ys.length * E.P.cellsOf e ≤ xs.length * E.P.cellsOf e := by rw [← Nat.add_mul]; exact Nat.mul_le_mul_right _ hp
    have hcap : xs.length * E.P.cellsOf e ≤ cap * E.P.cellsOf e := Nat.mul_le_mul_right _ hlec
    have hlen : (xs.take p ++ ys ++ xs.drop (p + ys.length)).length = xs.length := by simp; omega
    have hol := hrow.1
    have hsz' : ∀ z, z ∈ xs.take p ++ ys ++ xs.drop (p + ys.length) → z.cells.length = E.P.cellsOf e := fun z hz => by
      rcases List.mem_append.1 hz with hz | hz
      · rcases List.mem_append.1 hz with hz | hz
        · exact hsx z (List.mem_of_mem_take hz)
        · exact hsy z hz
      · exact hsx z (List.mem_of_mem_drop hz)
    have hdl' : DL E.P E.w E.own (flat (xs.take p ++ ys ++ xs.drop (p + ys.length))) (olds.take (p * E.P.cellsOf e) ++ news ++ olds.drop (p * E.P.cellsOf e + news.length)) := by
      rw [flat_append, flat_append, flat_take hsx, flat_drop hsx, hnl, ← Nat.add_mul]
      exact ((hdx.take _).append hd).append (hdx.drop _)
    refine rel_write R hbk _ (.row e g false (xs.take p ++ ys ++ xs.drop (p + ys.length))) hblk0 ⟨hgen, htop, hesz, hsz', olds.take (p * E.P.cellsOf e) ++ news ++ olds.drop (p * E.P.cellsOf e + news.length), ?_, hdl'.step (ext_write R hbk _), fun u hu => ?_⟩
    · refine ⟨by rw [hlen]; simp only [List.length_append, List.length_take, List.length_drop, hol, hnl]; omega, .inr ⟨b0, cap, _, hc0, by rw [hlen]; exact ha, hbb, setRow_heap E.w b0 cur _ e (0, 0) hh, by rw [hlen]; exact hlec, hmx, ?_, ?_⟩⟩
      · simp only [List.size_toArray, List.length_append, List.length_take, List.length_drop, hcl, hnl]; omega
      · rw [hlen, ← htk]
        exact take_splice cur.toList news (p * E.P.cellsOf e) news.length (xs.length * E.P.cellsOf e) (by rw [hnl]; exact hpos) (by rw [hcl]; exact hcap) rfl
    · rcases List.mem_append.1 hu with hu | hu
      · rcases List.mem_append.1 hu with hu | hu
        · exact honex u (List.mem_of_mem_take hu)
        · exact h1 u hu
      · exact honex u (List.mem_of_mem_drop hu)
section
variable {o : Oper} {ty e : TypeId} {x y : Operand} {args : Array Operand} {tys : Array TypeId} {x' y' : Od} {z : AV} {ys : List AV}
theorem op_app3 (R : Rel base h E) (hP : E.P = P) (ht : VL E t a.tmps.toList) (ho : o.op = .call { callee := .builtin .append, args, argTypes := tys }) (hargs : args.toList = [x, y]) (htys : tys.toList = [ty, ty]) (hs : P.underlying ty = some (.slice e)) (hz : zeroOf P e = some z) (h0 : 0 < P.cellsOf e)
    (hx : cmpOd x = some x') (hy : cmpOd y = some y') (hys : elemsOf Ops.std h (od t y') = some ys) (hsize : ∀ x, x ∈ ys → x.cells.length = P.cellsOf e) {k g : Nat} {lo hi : Int} (hsl : od t x' = .sub k g lo hi) {r : AV × Store} (he : appSub Ops.std h e k g lo hi ys = some r) :
    Comes1 P base o a h E r.1 r.2 := by
  have hxv := od_vl ht hx
  rw [hsl] at hxv
  unfold appSub at he
  split at he
  · rename_i xs hr
    split at he
    · rename_i hee
      subst hee
      split at he
      case h_1 => cases he
      rename_i hlo
      split at he
      case h_1 => cases he
      rename_i hle
      split at he
      · cases he
      · rename_i zs hzs
        cases he
        have hlo : lo = 0 := by simpa [Ops.std] using hlo
        subst hlo
        have hk := rowOf_some hr
        obtain ⟨hgen, hesz, hs', ad0, cap0, vals0, hv0, hc0, hm0, hd0, hone0, hrd0⟩ := row_reads R hr
        obtain ⟨hkn, hg, h1, hsub⟩ := hxv.sub_inv
        obtain ⟨_, h01, ad, cap, hve, hc, hm, _, hz0⟩ := hsub hgen
        obtain ⟨n0, hrk⟩ := hz0 rfl
        rw [hv0] at hrk
        injection hrk with e1 _ e3
        subst e1 e3
        obtain ⟨b1, b2, b3, _⟩ := lsub_some hzs
        have hmx : maxLen = 9223372036854775807 := by unfold maxLen; rfl
        have hle : (ys.length : Int) ≤ xs.length - hi := by
          have h2 : Ops.std.isub .i64 (xs.length : Int) hi = xs.length - hi := by
            show IntKind.i64.wrap _ = _
            rw [IntKind.wrap_i64]; omega
          have h3 : Ops.std.ile (ys.length : Int) (Ops.std.isub .i64 (xs.length : Int) hi) = true := hle
          rw [h2] at h3
          simpa [Ops.std] using h3
        have hadd : Ops.std.iadd .i64 hi (Ops.std.llen ys) = hi + ys.length := by
          show IntKind.i64.wrap (hi + (ys.length : Int)) = _
          rw [IntKind.wrap_i64]; omega
        rw [hadd]
        have hn : (hi - 0).toNat = hi.toNat := by congr 1; omega
        rw [hn] at hve hc
        obtain ⟨bd, c, news, hyv, hcy, hmy, hd, hone, _, hrd⟩ := elems_vl R (od_vl ht hy) hys
        have hinfo : (P.info? e).isSome = true := by obtain ⟨i, _, hi, _⟩ := zeroOf_some (E := E) hz; rw [hi]; rfl
        subst hP
        have hnl : news.length = ys.length * E.P.cellsOf e := by rw [hd.length, flat_len hsize]
        have hput : Ops.std.lput xs hi ys = xs.take hi.toNat ++ ys ++ xs.drop (hi.toNat + ys.length) := rfl
        rw [hput]
        by_cases hyz : ys.length = 0
        · have hyn : ys = [] := List.eq_nil_of_length_eq_zero hyz
          subst hyn
          have hr0 := run_append_zero (w := E.w) (rt := o.type) hs hinfo ad0 bd hi.toNat cap0 c (by omega)
          have hset : h.set k (.row e g false (xs.take hi.toNat ++ [] ++ xs.drop (hi.toNat + ([] : List AV).length))) = h := by
            have : xs.take hi.toNat ++ [] ++ xs.drop (hi.toNat + ([] : List AV).length) = xs := by simp
            rw [this]
            obtain ⟨hkl, hke⟩ := List.getElem?_eq_some_iff.1 hk
            rw [← hke]; exact List.set_getElem_self hkl
          rw [hset]
          refine Comes1.same R (v' := .slice ad0 hi.toNat cap0) (app_run ho hargs htys (by rw [hve, hyv]; exact hr0)) ?_
          rw [hve] at hxv
          simpa using hxv
        · obtain ⟨u0, hu0⟩ := elem_cell hs' h0 hd0.length (i := 0) (by omega)
          obtain ⟨b0, rfl, _⟩ := hrd0 _ u0 hu0
          obtain ⟨_, _, _, _, olds, hrow, _⟩ := R.ent k _ hk
          rcases hrow.2 with ⟨hn0, _⟩ | ⟨b0', cap', cur, hcp, ha', hbb, hh, hlec, hmxc, hcs, htk⟩
          · omega
          · have ha'' := ha'
            rw [hv0] at ha'
            injection ha' with e1 _ e3
            injection e1 with e1
            injection e1 with e1 _ _
            subst e1 e3
            obtain ⟨i, zv, hi', hzv, hzs', _, _⟩ := zeroOf_some (E := E) hz
            have his : E.P.cellsOf e = i.size := by simp [Program.cellsOf, hi']
            have hne : ∃ u, news[0]? = some u := ⟨news[0]'(by rw [hnl]; exact Nat.mul_pos (by omega) h0), List.getElem?_eq_getElem _⟩
            obtain ⟨v0, hv0'⟩ := hne
            obtain ⟨b1', o1, rfl, _⟩ := hrd 0 v0 hv0'
            have hnews : ∀ j v, news[j]? = some v → E.w.cell? ((⟨b1', o1, none⟩ : Addr).add j) = some v := fun j v hj => by
              obtain ⟨b', o', hab, hc'⟩ := hrd j v hj
              injection hab with hab
              injection hab with e1 e2 _
              subst e1 e2
              rw [add_none]; exact hc'
            have hfit : hi.toNat * i.size + news.length ≤ cur.size := by
              rw [hcs, hnl, ← his, ← Nat.add_mul]; exact Nat.mul_le_mul_right _ (by omega)
            have hra := run_append_room (P := E.P) E.w ty o.type e i hs hi' b0 hi.toNat cap0 cur hh ⟨b1', o1, none⟩ ys.length c news (by rw [hnl, his]) hnews hone (by omega) hfit
            obtain ⟨R', S'⟩ := row_piece R hr (p := hi.toNat) (ys := ys) (news := news) (by omega) hsize hd hone hv0 hh hcp
            rw [← his] at hra
            refine ⟨_, _, .inl (app_run ho hargs htys (by rw [hve, hyv]; exact hra)), R', S', ?_⟩
            refine .sub hkn hg rfl (fun _ => ⟨by omega, by omega, some ⟨b0, 0, none⟩, cap0, ?_, ?_, hm0, fun _ => ⟨b0, ?_, ?_⟩, fun _ => ⟨xs.length, hv0⟩⟩) .nil
            · congr 1; omega
            · omega
            · exact ⟨_, _, hv0⟩
            · simp
    · cases he
  · cases he
theorem zeros_dl {w : World} {own : Nat → Prop} {zs : List AV} {us : List Value} (hd : DL P w own zs us) : ∀ n, DL P w own ((List.replicate n zs).flatten) ((List.replicate n us).flatten) := by
  intro n
  induction n with
  | zero => exact .nil
  | succ n ih => simp only [List.replicate_succ, List.flatten_cons]; exact hd.append ih
theorem cmpVal_one {v : Value} {x : AV} (h : cmpVal v = some x) : x.one = true := by
  unfold cmpVal at h
  split at h
  · cases h; rfl
  · split at h
    · cases h; rfl
    · cases h
theorem cmpVals_one : ∀ {vs : List Value} {l : List AV}, cmpVals vs = some l → ∀ c, c ∈ l → c.one = true := by
  intro vs
  induction vs with
  | nil => intro l h c hc; simp only [cmpVals] at h; cases h; cases hc
  | cons v vs ih =>
    intro l h c hc
    simp only [cmpVals] at h
    split at h
    · rename_i a b ha hb
      cases h
      rcases List.mem_cons.1 hc with rfl | hc
      · exact cmpVal_one ha
      · exact ih hb c hc
    · cases h
theorem zero_data {P : Program} {E : Env} {t : TypeId} {z : AV} (h : zeroOf P t = some z) : ∃ i zv, P.info? t = some i ∧ i.zero = some zv ∧ zv.cells.size = P.cellsOf t ∧ DL E.P E.w E.own z.cells zv.cells.toList ∧ ∀ c, c ∈ z.cells → c.one = true := by
  unfold zeroOf at h
  split at h
  · rename_i i hi
    split at h
    · rename_i zv hz
      split at h
      · rename_i hsz
        have hc : P.cellsOf t = i.size := by simp [Program.cellsOf, hi]
        split at h
        · rename_i cs
          obtain ⟨l, hl, rfl⟩ := mapped h
          exact ⟨i, _, hi, hz, by rw [hc]; exact hsz, by simpa [AV.cells, Value.cells] using cmpVals_dl (E := E) hl, cmpVals_one hl⟩
        · rename_i hne
          have hd := cmpVal_vl (E := E) h
          have h1 := cmpVal_one h
          refine ⟨i, zv, hi, hz, by rw [hc]; exact hsz, data_cells hd, fun c hcc => ?_⟩
          rw [cells_of_one h1] at hcc
          rw [List.mem_singleton.1 hcc]; exact h1
      · cases h
    · cases h
  · cases h
theorem zeroCells_list {zc : Array Value} (hpos : 0 < zc.size) : ∀ n, (Builtin.zeroCells zc n).toList = (List.replicate n zc.toList).flatten := by
  intro n
  induction n with
  | zero => simp [Builtin.zeroCells]
  | succ n ih =>
    have h1 : (Builtin.zeroCells zc (n + 1)).toList = (Builtin.zeroCells zc n).toList ++ zc.toList := by
      apply List.ext_getElem
      · simp [Builtin.zeroCells, Nat.add_mul]
      · intro i hi1 hi2
        simp only [Builtin.zeroCells, Array.toList_map, Array.toList_range, List.length_append, List.length_map, List.length_range, Array.length_toList] at hi1 hi2
        simp only [Builtin.zeroCells, Array.toList_map, Array.toList_range, List.getElem_map, List.getElem_range]
        by_cases hlt : i < n * zc.size
        · rw [List.getElem_append_left (by simpa using hlt)]
          simp
        · rw [List.getElem_append_right (by simpa using hlt)]
          have hlt2 : i - n * zc.size < zc.size := by
            rw [Nat.add_mul, Nat.one_mul] at hi1; omega
          have hmod : i % zc.size = i - n * zc.size := by
            rw [show i = (i - n * zc.size) + n * zc.size by omega, Nat.add_mul_mod_self_right, Nat.mod_eq_of_lt hlt2]; omega
          simp only [List.length_map, List.length_range, hmod]
          rw [getElem!_pos zc _ hlt2]; simp
    rw [h1, ih, List.replicate_succ', List.flatten_append]
    simp
theorem op_clr (R : Rel base h E) (hP : E.P = P) (ht : VL E t a.tmps.toList) (ho : o.op = .call { callee := .builtin .clear, args, argTypes := tys }) (hargs : args.toList = [x]) (htys : tys.toList = [ty]) (hs : P.underlying ty = some (.slice e)) (hz : zeroOf P e = some z) (h0 : 0 < P.cellsOf e)
    (hx : cmpOd x = some x') {k g : Nat} {lo hi : Int} (hsl : od t x' = .sub k g lo hi) {xs zs : List AV} (hr : rowOf h k g = some (e, false, xs)) (hzs : Ops.std.lsub xs lo hi = some zs) :
    Comes1 P base o a h E (.tup []) (h.set k (.row e g false (Ops.std.lfil xs lo hi z))) := by
  have ea : args = #[x] := Array.ext' hargs
  have et : tys = #[ty] := Array.ext' htys
  subst ea et
  have hxv := od_vl ht hx
  rw [hsl] at hxv
  have hk := rowOf_some hr
  obtain ⟨hgen, hesz, hs', ad0, cap0, vals0, hv0, hc0, hm0, hd0, hone0, hrd0⟩ := row_reads R hr
  obtain ⟨hkn, hg, h1, hsub⟩ := hxv.sub_inv
  obtain ⟨_, h01, ad, cap, hve, hc, hm, hb, _⟩ := hsub hgen
  obtain ⟨b1, b2, b3, _⟩ := lsub_some hzs
  obtain ⟨i, zv, hi', hzv, hzs', hzdl, hzone⟩ := zero_data (E := E) hz
  have hfil : Ops.std.lfil xs lo hi z = xs.take lo.toNat ++ List.replicate (hi.toNat - lo.toNat) z ++ xs.drop hi.toNat := rfl
  rw [hfil]
  by_cases hlt : lo < hi
  · obtain ⟨b0, ⟨n1, c1, hhead⟩, hab⟩ := hb hlt
    obtain ⟨_, _, _, _, olds, hrow, _⟩ := R.ent k _ hk
    rcases hrow.2 with ⟨hn0, _⟩ | ⟨b0', cap', cur, hcp, ha', hbb, hh, hlec, hmxc, hcs, htk⟩
    · omega
    · have ha'' := ha'
      rw [hhead] at ha'
      injection ha' with e1 _ e3
      injection e1 with e1
      injection e1 with e1 _ _
      subst e1
      subst hP
      rw [hesz] at hab
      have hn : (hi - lo).toNat = hi.toNat - lo.toNat := by omega
      have hz1 : ∀ u, u ∈ zv.cells.toList → u.oneCell' = true := hzdl.vl.one_cells hzone
      have hzpos : 0 < zv.cells.size := by rw [hzs']; exact h0
      have hlist := zeroCells_list hzpos (hi.toNat - lo.toNat)
      have hnews := zeros_dl hzdl (hi.toNat - lo.toNat)
      have hflat : flat (List.replicate (hi.toNat - lo.toNat) z) = (List.replicate (hi.toNat - lo.toNat) z.cells).flatten := by
        simp [flat, List.flatMap_def]
      have hzl : z.cells.length = E.P.cellsOf e := by rw [← hzs', ← hzdl.length]; simp
      have hone : ∀ u, u ∈ (List.replicate (hi.toNat - lo.toNat) zv.cells.toList).flatten → u.oneCell' = true := fun u hu => by
        obtain ⟨l, hl, hul⟩ := List.mem_flatten.1 hu
        rw [List.eq_of_mem_replicate hl] at hul
        exact hz1 u hul
      have hnl : ((List.replicate (hi.toNat - lo.toNat) zv.cells.toList).flatten).length = (hi.toNat - lo.toNat) * E.P.cellsOf e := by
        simp [hzs']
      have hfit : lo.toNat * E.P.cellsOf e + 0 + ((List.replicate (hi.toNat - lo.toNat) zv.cells.toList).flatten).length ≤ cur.size := by
        rw [hcs, hnl, Nat.add_zero, ← Nat.add_mul]; exact Nat.mul_le_mul_right _ (by omega)
      have hst := run_storeCells_at E.P b0 (lo.toNat * E.P.cellsOf e) e _ 0 cur E.w hh hfit hone
      simp only [Nat.add_zero] at hst
      obtain ⟨R', S'⟩ := row_piece R hr (p := lo.toNat) (ys := List.replicate (hi.toNat - lo.toNat) z) (by simp; omega) (fun y hy => by rw [List.eq_of_mem_replicate hy]; exact hzl) (by rw [hflat]; exact hnews) hone ha'' hh hcp
      have hidx : lo.toNat + (List.replicate (hi.toNat - lo.toNat) z).length = hi.toNat := by simp; omega
      rw [hidx] at R' S'
      refine ⟨_, _, .inl ?_, R', S', .tup .nil .nil⟩
      obtain ⟨m, hm'⟩ : ∃ m, hi.toNat - lo.toNat = m + 1 := ⟨hi.toNat - lo.toNat - 1, by omega⟩
      have hzr : (zeroValue e).run E.P E.w = .ok zv E.w := by simp [zeroValue, typeInfo, hi', hzv]
      rw [← hlist] at hst ⊢
      rw [hab, hn, hm'] at hve
      rw [hm'] at hst ⊢
      simp [execOp, ho, resolve, invoke, builtin, hve, Builtin.clear_, run_underlying hs, hzr, hst]
  · have hlo : lo = hi := by omega
    subst hlo
    have hset : h.set k (.row e g false (xs.take lo.toNat ++ List.replicate (lo.toNat - lo.toNat) z ++ xs.drop lo.toNat)) = h := by
      have : xs.take lo.toNat ++ List.replicate (lo.toNat - lo.toNat) z ++ xs.drop lo.toNat = xs := by simp
      rw [this]
      obtain ⟨hkl, hke⟩ := List.getElem?_eq_some_iff.1 hk
      rw [← hke]; exact List.set_getElem_self hkl
    rw [hset]
    have hn : (lo - lo).toNat = 0 := by omega
    rw [hn] at hve
    refine Comes1.same R (v' := .tuple #[]) ?_ (.tup .nil .nil)
    cases ad with
    | none => simp [execOp, ho, resolve, invoke, builtin, hve, Builtin.clear_, run_underlying hs]
    | some A => simp [execOp, ho, resolve, invoke, builtin, hve, Builtin.clear_, run_underlying hs]
end
end
end Go.Ab
namespace Go.Ab
open Go
set_option linter.unusedSimpArgs false
set_option linter.unusedVariables false
section
variable {P : Program} {base : Base} {h : Store} {E : Env}
def subEnv (E : Env) (L : Nat → Prop) (ix : List Nat) : Env :=
  { P := E.P, w := E.w, n := ix.length, gen := fun _ => none, top := fun _ => 0, esz := fun _ => 0, row := fun _ => undef, box := fun j => E.box (ix.getD j 0), own := fun b => E.own b ∧ ¬ L b }
theorem DL.less {w : World} {own own' : Nat → Prop} (hle : ∀ b, own' b → own b) {l : List AV} {vs : List Value} (h : DL P w own l vs) : DL P w own' l vs :=
  h.ext (fun a v ho hc => ⟨fun h => ho (hle _ h), hc⟩)
theorem sc_vl {E E' : Env} {cs : List AV} {vs : List Value} (h : VL E cs vs) (hs : cs.all isSc = true) : VL E' cs vs := by
  induction cs generalizing vs with
  | nil => cases h; exact .nil
  | cons c cs ih =>
    obtain ⟨v, us, rfl, h1, h2⟩ := h.uncons
    simp only [List.all_cons, Bool.and_eq_true] at hs
    cases c with
    | sc u => obtain ⟨rfl, hp⟩ := h1.sc_inv; exact .data (.sc hp .nil) (ih h2 hs.2)
    | _ => simp [isSc] at hs
theorem lendCaps_vl (R : Rel base h E) {L : Nat → Prop} (caps : List AV) : ∀ {ix : List Nat} {caps' : List AV} {ix' : List Nat} {vs : List Value}, lendCaps caps ix = some (caps', ix') → VL E caps vs → ix.Nodup →
    ix'.Nodup ∧ (∃ m, ix' = ix ++ m) ∧ ∀ m, VL (subEnv E L (ix' ++ m)) caps' vs := by
  induction caps with
  | nil =>
    intro ix caps' ix' vs hl hv hnd
    simp only [lendCaps] at hl; cases hl; cases hv
    exact ⟨hnd, ⟨[], by simp⟩, fun m => .nil⟩
  | cons c caps ih =>
    intro ix caps' ix' vs hl hv hnd
    obtain ⟨v, us, rfl, h1, h2⟩ := hv.uncons
    cases c with
    | bptr b off =>
      obtain ⟨hb, rfl⟩ := h1.bptr_inv
      simp only [lendCaps] at hl
      split at hl
      · rename_i j hj
        split at hl
        · cases hl
          rename_i r' hr
          obtain ⟨h3, ⟨m0, hm0⟩, h4⟩ := ih hr h2 hnd
          refine ⟨h3, ⟨m0, hm0⟩, fun m => ?_⟩
          have hjs := List.idxOf?_eq_some_iff.1 hj
          obtain ⟨hjl, hje, _⟩ := hjs
          have hbox : (subEnv E L (ix' ++ m)).box j = E.box b := by
            show E.box ((ix' ++ m).getD j 0) = _
            have : (ix' ++ m)[j]? = some b := by
              rw [hm0, List.append_assoc, List.getElem?_append_left hjl, List.getElem?_eq_getElem hjl]
              simpa using hje
            simp [List.getD, this]
          rw [← hbox]
          exact .bptr (by show j < (ix' ++ m).length; rw [hm0]; simp; omega) (h4 m)
        · cases hl
      · rename_i hj
        split at hl
        · cases hl
          rename_i r' hr
          have hni : b ∉ ix := by
            intro hc
            have := List.idxOf?_eq_none_iff.1 hj
            exact this hc
          obtain ⟨h3, ⟨m0, hm0⟩, h4⟩ := ih hr h2 (by
            rw [List.nodup_append]
            refine ⟨hnd, by simp, fun x hx y hy hxy => ?_⟩
            rw [List.mem_singleton] at hy
            rw [← hy, ← hxy] at hni
            exact hni hx)
          refine ⟨h3, ⟨[b] ++ m0, by rw [hm0, List.append_assoc]⟩, fun m => ?_⟩
          have hbox : (subEnv E L (ix' ++ m)).box ix.length = E.box b := by
            show E.box ((ix' ++ m).getD ix.length 0) = _
            have : (ix' ++ m)[ix.length]? = some b := by
              rw [hm0]; simp
            simp [List.getD, this]
          rw [← hbox]
          exact .bptr (by show ix.length < (ix' ++ m).length; rw [hm0]; simp) (h4 m)
        · cases hl
    | _ => simp [lendCaps] at hl
theorem row_lit (R : Rel base h E) {L : Nat → Prop} {k g : Nat} {e : TypeId} {ro : Bool} {xs : List AV} (hr : rowOf h k g = some (e, ro, xs)) (hL : ∀ b, blkOf E h k = some b → L b) : DL E.P E.w (fun b => E.own b ∧ ¬ L b) [.lit e false xs] [E.row k] := by
  have hk := rowOf_some hr
  obtain ⟨hgen, hesz, hs, a, cap, vals, hv, hc, hm, hd, hone, hrd⟩ := row_reads R hr
  have ho := R.ent k _ hk
  cases ro with
  | true =>
    obtain ⟨_, _, _, h4, _⟩ := ho
    exact h4.less (fun b hb => hb.1)
  | false =>
    obtain ⟨_, _, _, _, vals2, hrow, hd2, hone2⟩ := ho
    rw [hv]
    refine .lit hc hm (by intro h; cases h) hs (hd.less (fun b hb => hb.1)) hone (fun j u hu => ?_) .nil
    obtain ⟨b, hab, hcell⟩ := hrd j u hu
    refine ⟨b, 0, hab, fun hb => hb.2 (hL b ?_), by rw [Nat.zero_add]; exact hcell⟩
    rw [blkOf_of hk]
    show rowBlk (E.row k) = some b
    rcases hrow.2 with ⟨hn0, a', ha⟩ | ⟨b0, cap', cur, hc0, ha, _⟩
    · have h1 := hd.length
      rw [List.eq_nil_of_length_eq_zero hn0] at h1
      simp [flat] at h1
      rw [h1] at hu; cases hu
    · rw [hv, hab] at ha
      injection ha with hab' _ hcc
      injection hab' with hab'
      injection hab' with hbb _ _
      subst hbb hcc
      rw [hv, hab]
      cases cap with
      | zero => omega
      | succ c => rfl
theorem sub_lit (R : Rel base h E) {L : Nat → Prop} {k g : Nat} {lo hi : Int} {v : Value} (hv : VL E [.sub k g lo hi] [v]) {e : TypeId} {ro : Bool} {xs ys : List AV} (hr : rowOf h k g = some (e, ro, xs)) (hy : Ops.std.lsub xs lo hi = some ys) (hL : ∀ b, blkOf E h k = some b → L b) :
    DL E.P E.w (fun b => E.own b ∧ ¬ L b) [.lit e false ys] [v] := by
  have hel : elemsOf Ops.std h (.sub k g lo hi) = some ys := by simp only [elemsOf, hr]; exact hy
  have hea : elemsAt Ops.std h e (.sub k g lo hi) = some ys := by simp only [elemsAt, hr, if_true]; exact hy
  obtain ⟨ad, cap, vals, hve, hc, hm, hd, hone, _, hrd⟩ := elems_vl R hv hel
  obtain ⟨_, hs⟩ := elemsAt_some R hv hea
  obtain ⟨a0, cap0, vals0, hv0, _, _, _, hs0, hd0, hone0, hrd0⟩ := (row_lit R hr hL).lit_inv
  rw [hve]
  refine .lit hc hm (by intro h; cases h) hs (hd.less (fun b hb => hb.1)) hone (fun j u hu => ?_) .nil
  obtain ⟨b, o, hab, hcell⟩ := hrd j u hu
  refine ⟨b, o, hab, ?_, hcell⟩
  obtain ⟨_, _, _, hsub⟩ := hv.sub_inv
  obtain ⟨h0, h01, ad2, cap2, hv2, hc2, hm2, hb2, _⟩ := hsub (row_reads R hr).1
  have hne : ys ≠ [] := by
    rintro rfl
    have h1 := hd.length
    simp [flat] at h1
    rw [h1] at hu; cases hu
  simp only [Ops.std] at hy
  split at hy
  · rename_i hbd
    cases hy
    have hlt : lo < hi := by
      rcases Int.lt_or_eq_of_le h01 with h | h
      · exact h
      · subst h; exfalso; apply hne; rw [List.drop_eq_nil_of_le]; simp; omega
    obtain ⟨b', hh, hab2⟩ := hb2 hlt
    rw [hve] at hv2
    injection hv2 with e1 _ _
    rw [← e1, hab] at hab2
    injection hab2 with hab2
    injection hab2 with hbb _ _
    subst hbb
    have hvl : vals0 ≠ [] := by
      intro hn
      have h1 := hd0.length
      rw [hn, flat_len hs0] at h1
      have h2 := hd.length
      rw [flat_len (s := E.P.cellsOf e) (fun x hx => hs0 x (List.mem_of_mem_take (List.mem_of_mem_drop hx)))] at h2
      have h3 : vals.length ≠ 0 := by intro h; rw [List.eq_nil_of_length_eq_zero h] at hu; cases hu
      rcases Nat.mul_eq_zero.1 h1.symm with h | h
      · have := hbd.2.2; rw [h] at this; omega
      · rw [h] at h2; omega
    obtain ⟨u0, hu0⟩ : ∃ u, vals0[0]? = some u := by
      cases vals0 with
      | nil => exact absurd rfl hvl
      | cons u us => exact ⟨u, rfl⟩
    obtain ⟨b1, o1, hab1, hno1, _⟩ := hrd0 0 u0 hu0
    obtain ⟨n', c', hrow'⟩ := hh
    rw [hv0, hab1] at hrow'
    injection hrow' with hab' _ _
    injection hab' with hab'
    injection hab' with hbb _ _
    subst hbb
    exact hno1
  · cases hy
def LentK (E : Env) (h : Store) (ks : List Nat) (b : Nat) : Prop := ∃ k, k ∈ ks ∧ (∃ e g ro xs, h[k]? = some (.row e g ro xs)) ∧ blkOf E h k = some b
def Lent (E : Env) (h : Store) (args : List AV) (b : Nat) : Prop := LentK E h (refs args) b
theorem LentK.mono {ks ks' : List Nat} (hs : ∀ k, k ∈ ks → k ∈ ks') {b : Nat} (h1 : LentK E h ks b) : LentK E h ks' b := by
  obtain ⟨k, h2, h3⟩ := h1
  exact ⟨k, hs k h2, h3⟩
mutual
theorem lendV_dl (R : Rel base h E) {L : Nat → Prop} : ∀ (x : AV) {x' : AV} {v : Value}, lendV Ops.std h x = some x' → VL E [x] [v] → (∀ b, LentK E h (refs1 x) b → L b) → DL E.P E.w (fun b => E.own b ∧ ¬ L b) [x'] [v] := by
  intro x x' v hl hv hL
  cases x with
  | sl k g =>
    simp only [lendV] at hl
    split at hl
    · rename_i e ro xs hrow
      cases hl
      have hv' := hv.sl_inv.2.2.2 (row_reads R hrow).1
      subst hv'
      exact row_lit R hrow (fun b hb => hL b ⟨k, by simp [refs1], ⟨_, _, _, _, rowOf_some hrow⟩, hb⟩)
    · cases hl
  | sub k g lo hi =>
    simp only [lendV] at hl
    split at hl
    · rename_i e ro xs hrow
      split at hl
      · rename_i ys hys
        cases hl
        exact sub_lit R hv hrow hys (fun b hb => hL b ⟨k, by simp [refs1], ⟨_, _, _, _, rowOf_some hrow⟩, hb⟩)
      · cases hl
    · cases hl
  | agg cs =>
    simp only [lendV] at hl
    split at hl
    · rename_i cs' hcs
      cases hl
      obtain ⟨us, rfl, h2⟩ := hv.agg_inv
      exact .agg (lendVs_dl R cs hcs h2 (fun b hb => hL b (by simpa only [refs1] using hb))) .nil
    · cases hl
  | sc u =>
    simp only [lendV] at hl
    cases hl
    obtain ⟨rfl, h2⟩ := hv.sc_inv
    exact .sc h2 .nil
  | lit e f xs =>
    simp only [lendV] at hl
    cases hl
    exact hv.lit_inv.less (fun b hb => hb.1)
  | _ => simp only [lendV] at hl; cases hl
theorem lendVs_dl (R : Rel base h E) {L : Nat → Prop} : ∀ (l : List AV) {l' : List AV} {vs : List Value}, lendVs Ops.std h l = some l' → VL E l vs → (∀ b, LentK E h (refs l) b → L b) → DL E.P E.w (fun b => E.own b ∧ ¬ L b) l' vs := by
  intro l l' vs hl hv hL
  cases l with
  | nil => simp only [lendVs] at hl; cases hl; cases hv; exact .nil
  | cons x r =>
    simp only [lendVs] at hl
    split at hl
    · rename_i x' hx
      split at hl
      · rename_i r' hr
        cases hl
        obtain ⟨v, us, rfl, h1, h2⟩ := hv.uncons
        have a := lendV_dl R x hx h1 (fun b hb => hL b (hb.mono (fun k hk => by simp only [refs]; exact List.mem_append_left _ hk)))
        have b := lendVs_dl R r hr h2 (fun b hb => hL b (hb.mono (fun k hk => by simp only [refs]; exact List.mem_append_right _ hk)))
        exact a.append b
      · cases hl
    · cases hl
end
theorem lend_vl (R : Rel base h E) {L : Nat → Prop} (args : List AV) : ∀ {ix : List Nat} {args' : List AV} {ix' : List Nat} {vs : List Value}, lend Ops.std h args ix = some (args', ix') → VL E args vs → ix.Nodup → (∀ b, Lent E h args b → L b) →
    ix'.Nodup ∧ (∃ m, ix' = ix ++ m) ∧ ∀ m, VL (subEnv E L (ix' ++ m)) args' vs := by
  induction args with
  | nil =>
    intro ix args' ix' vs hl hv hnd _
    simp only [lend] at hl; cases hl; cases hv
    exact ⟨hnd, ⟨[], by simp⟩, fun m => .nil⟩
  | cons x args ih =>
    intro ix args' ix' vs hl hv hnd hL
    obtain ⟨v, us, rfl, h1, h2⟩ := hv.uncons
    have hL' : ∀ b, Lent E h args b → L b := fun b hb => hL b (LentK.mono (fun k hk => by simp only [refs]; exact List.mem_append_right _ hk) hb)
    have hL1 : ∀ b, LentK E h (refs1 x) b → L b := fun b hb => hL b (LentK.mono (fun k hk => by simp only [refs]; exact List.mem_append_left _ hk) hb)
    have fin : ∀ {x' : AV} {ix1 : List Nat} {r' : List AV} , lend Ops.std h args ix1 = some (r', ix') → ix1.Nodup → (∃ m, ix1 = ix ++ m) → (∀ m, VL (subEnv E L (ix1 ++ m)) [x'] [v]) →
        ix'.Nodup ∧ (∃ m, ix' = ix ++ m) ∧ ∀ m, VL (subEnv E L (ix' ++ m)) (x' :: r') (v :: us) := fun {x' ix1 r'} hr hnd1 hm1 hx => by
      obtain ⟨h3, ⟨m0, hm0⟩, h4⟩ := ih hr h2 hnd1 hL'
      obtain ⟨m1, hm1⟩ := hm1
      exact ⟨h3, ⟨m1 ++ m0, by rw [hm0, hm1, List.append_assoc]⟩, fun m => VL.cons (by rw [hm0, List.append_assoc]; exact hx _) (h4 m)⟩
    cases x with
    | fn f caps =>
      simp only [lend] at hl
      split at hl
      · rename_i caps' ix1 hc
        split at hl
        · cases hl
          rename_i r' hr
          obtain ⟨vs', rfl, hv'⟩ := h1.fn_inv
          obtain ⟨h3, hm, h4⟩ := lendCaps_vl (L := L) R caps hc hv' hnd
          exact fin hr h3 hm (fun m => .fn (h4 m) .nil)
        · cases hl
      · cases hl
    | bptr b off =>
      simp only [lend] at hl
      split at hl
      · rename_i x' ix1 hc
        split at hl
        · cases hl
          rename_i r' hr
          obtain ⟨h3, ⟨m1, hm1⟩, h4⟩ := lendCaps_vl (L := L) R [.bptr b off] hc h1 hnd
          obtain ⟨h5, ⟨m0, hm0⟩, h6⟩ := ih hr h2 h3 hL'
          refine ⟨h5, ⟨m1 ++ m0, by rw [hm0, hm1, List.append_assoc]⟩, fun m => ?_⟩
          have hx := h4 (m0 ++ m)
          rw [← List.append_assoc, ← hm0] at hx
          exact hx.append (h6 m)
        · cases hl
      · cases hl
    | _ =>
      simp only [lend] at hl
      split at hl
      · rename_i x' hx
        split at hl
        · cases hl
          rename_i r' hr
          exact fin hr hnd ⟨[], by simp⟩ (fun m => .data (lendV_dl R _ hx h1 hL1) .nil)
        · cases hl
      · cases hl
theorem subStore_some (ix : List Nat) : ∀ {s : Store}, subStore h ix = some s → s.length = ix.length ∧ ∀ (j b : Nat), ix[j]? = some b → ∃ (t : TypeId) (cs : List AV), h[b]? = some (Ent.box t cs) ∧ cs.all isSc = true ∧ s[j]? = some (Ent.box t cs) := by
  induction ix with
  | nil => intro s hs; simp only [subStore] at hs; cases hs; exact ⟨rfl, fun j b hj => by cases hj⟩
  | cons b0 ix ih =>
    intro s hs
    unfold subStore at hs
    split at hs
    · rename_i t cs hb
      split at hs
      · rename_i hall
        split at hs
        · cases hs
          rename_i s' hs'
          obtain ⟨h1, h2⟩ := ih hs'
          refine ⟨by simp [h1], fun j b hj => ?_⟩
          cases j with
          | zero => simp at hj; subst hj; exact ⟨t, cs, hb, hall, rfl⟩
          | succ j => obtain ⟨t', cs', h3, h4, h5⟩ := h2 j b (by simpa using hj); exact ⟨t', cs', h3, h4, by simpa using h5⟩
        · cases hs
      · cases hs
    · cases hs
theorem isSc_one {cs : List AV} (h : cs.all isSc = true) : ∀ c, c ∈ cs → c.one = true := fun c hc => by
  have := List.all_eq_true.1 h c hc
  cases c <;> first | rfl | (simp [isSc] at this)
theorem getD_of {ix : List Nat} {j b : Nat} (h : ix[j]? = some b) : ix.getD j 0 = b := by simp [List.getD, h]
theorem sub_rel (R : Rel base h E) {ix : List Nat} (hnd : ix.Nodup) {s : Store} (hs : subStore h ix = some s) (args : List AV) : Rel base s (subEnv E (Lent E h args) ix) := by
  obtain ⟨hlen, hix⟩ := subStore_some ix hs
  have ent : ∀ (j : Nat) (e : Ent), s[j]? = some e → ∃ (b : Nat) (t : TypeId) (cs : List AV), ix[j]? = some b ∧ e = Ent.box t cs ∧ h[b]? = some (.box t cs) ∧ cs.all isSc = true := fun j e hj => by
    have hlt : j < ix.length := by rw [← hlen]; exact (List.getElem?_eq_some_iff.1 hj).1
    obtain ⟨t, cs, h1, h2, h3⟩ := hix j ix[j] (List.getElem?_eq_getElem hlt)
    rw [hj] at h3; cases h3
    exact ⟨_, t, cs, List.getElem?_eq_getElem hlt, rfl, h1, h2⟩
  have blk : ∀ j b, blkOf (subEnv E (Lent E h args) ix) s j = some b → ∃ (b0 : Nat) (t : TypeId) (cs : List AV), ix[j]? = some b0 ∧ h[b0]? = some (Ent.box t cs) ∧ b = E.box b0 := fun j b hj => by
    obtain ⟨e, he, hb⟩ := blkOf_some hj
    obtain ⟨b0, t, cs, h1, rfl, h2, _⟩ := ent j e he
    have hb : some (E.box (ix.getD j 0)) = some b := hb
    cases hb
    exact ⟨b0, t, cs, h1, h2, by rw [getD_of h1]⟩
  refine ⟨hlen.symm, R.lo, fun j e hj => ?_, fun _ _ => rfl, fun j b hj => ?_, fun i j b hi hj => ?_, fun b hb => R.lt b hb.1⟩
  · obtain ⟨b0, t, cs, h1, rfl, h2, h3⟩ := ent j e hj
    obtain ⟨_, _, h4, h5, vals, h6, h7⟩ := R.ent b0 _ h2
    have hbx : (subEnv E (Lent E h args) ix).box j = E.box b0 := by show E.box (ix.getD j 0) = _; rw [getD_of h1]
    exact ⟨rfl, rfl, by rw [hbx]; exact h4, h5, vals, by rw [hbx]; exact h6, sc_vl h7 h3⟩
  · obtain ⟨b0, t, cs, h1, h2, rfl⟩ := blk j b hj
    have hb0 : blkOf E h b0 = some (E.box b0) := blkOf_of h2
    refine ⟨R.own b0 _ hb0, fun hlen => ?_⟩
    obtain ⟨k, _, ⟨e, g, ro, xs, hk⟩, hkb⟩ : LentK E h (refs args) _ := hlen
    have := R.inj k b0 _ hkb hb0
    subst this
    rw [hk] at h2; cases h2
  · obtain ⟨b1, t1, cs1, h1, h2, rfl⟩ := blk i b hi
    obtain ⟨b2, t2, cs2, h3, h4, h5⟩ := blk j _ hj
    have := R.inj b1 b2 (E.box b1) (blkOf_of h2) (by rw [h5]; exact blkOf_of h4)
    subst this
    have hi' : i < ix.length := (List.getElem?_eq_some_iff.1 h1).1
    have hj' : j < ix.length := (List.getElem?_eq_some_iff.1 h3).1
    rw [List.getElem?_eq_getElem hi'] at h1
    rw [List.getElem?_eq_getElem hj'] at h3
    have heq : ix[i] = ix[j] := by injection h1 with h1; injection h3 with h3; rw [h1, h3]
    rcases Nat.lt_trichotomy i j with hlt | hlt | hlt
    · exact absurd heq (List.pairwise_iff_getElem.1 hnd i j hi' hj' hlt)
    · exact hlt
    · exact absurd heq.symm (List.pairwise_iff_getElem.1 hnd j i hj' hi' hlt)
theorem writeBack_some (ix : List Nat) : ∀ {h2 : Store} {h h' new : Store}, writeBack ix h2 h = some (h', new) → ix.Nodup → (∀ (b : Nat), b ∈ ix → b < h.length) →
    ∃ pre : Store, h2 = pre ++ new ∧ pre.length = ix.length ∧ h'.length = h.length ∧ (∀ (j : Nat), j ∉ ix → h'[j]? = h[j]?) ∧ ∀ (j b : Nat), ix[j]? = some b → ∃ (t : TypeId) (cs : List AV), h'[b]? = some (Ent.box t cs) ∧ cs.all isSc = true ∧ pre[j]? = some (Ent.box t cs) := by
  induction ix with
  | nil =>
    intro h2 h h' new hw _ _
    simp only [writeBack] at hw; cases hw
    exact ⟨[], rfl, rfl, rfl, fun _ _ => rfl, fun j b hj => by cases hj⟩
  | cons b0 ix ih =>
    intro h2 h h' new hw hnd hlt
    unfold writeBack at hw
    split at hw
    · rename_i e; cases e
    · rename_i b ix' t cs h2' e1
      cases e1
      split at hw
      · rename_i hall
        rw [List.nodup_cons] at hnd
        obtain ⟨pre, rfl, h3, h4, h5, h6⟩ := ih hw hnd.2 (fun b hb => by simpa using hlt b (List.mem_cons_of_mem _ hb))
        refine ⟨.box t cs :: pre, rfl, by simp [h3], by rw [h4]; simp, fun j hj => ?_, fun j b hj => ?_⟩
        · rw [h5 j (fun hc => hj (List.mem_cons_of_mem _ hc)), List.getElem?_set_ne (fun e => hj (by rw [e]; exact List.mem_cons_self ..))]
        · cases j with
          | zero =>
            simp at hj; subst hj
            refine ⟨t, cs, ?_, hall, rfl⟩
            rw [h5 _ hnd.1, List.getElem?_set_self (hlt _ (List.mem_cons_self ..))]
          | succ j =>
            obtain ⟨t', cs', h7, h8, h9⟩ := h6 j b (by simpa using hj)
            exact ⟨t', cs', h7, h8, by simpa using h9⟩
      · cases hw
    · cases hw
theorem shut1_spec (k : Nat) (h : Store) : (shut1 k h).length = h.length ∧ ∀ (j : Nat), (shut1 k h)[j]? = h[j]? ∨ ∃ (e : TypeId) (g : Nat) (ro : Bool) (xs : List AV), h[j]? = some (Ent.row e g ro xs) ∧ (shut1 k h)[j]? = some (Ent.row e g true xs) ∧ j = k := by
  unfold shut1
  split
  · rename_i e g ro xs hk
    have hkl : k < h.length := (List.getElem?_eq_some_iff.1 hk).1
    refine ⟨by simp, fun j => ?_⟩
    by_cases hj : j = k
    · subst hj
      exact .inr ⟨e, g, ro, xs, hk, List.getElem?_set_self hkl, rfl⟩
    · exact .inl (List.getElem?_set_ne (Ne.symm hj))
  · exact ⟨rfl, fun j => .inl rfl⟩
theorem shut_spec (ks : List Nat) : ∀ (h : Store), (shut ks h).length = h.length ∧ ∀ (j : Nat), (shut ks h)[j]? = h[j]? ∨ ∃ (e : TypeId) (g : Nat) (ro : Bool) (xs : List AV), h[j]? = some (Ent.row e g ro xs) ∧ (shut ks h)[j]? = some (Ent.row e g true xs) ∧ j ∈ ks := by
  induction ks with
  | nil => intro h; exact ⟨rfl, fun j => .inl rfl⟩
  | cons k ks ih =>
    intro h
    obtain ⟨l1, s1⟩ := shut1_spec k h
    obtain ⟨l2, s2⟩ := ih (shut1 k h)
    refine ⟨l2.trans l1, fun j => ?_⟩
    show (shut ks (shut1 k h))[j]? = _ ∨ _
    rcases s2 j with h3 | ⟨e', g', ro', xs', h3, h4, h5⟩
    · rcases s1 j with h6 | ⟨e, g, ro, xs, h6, h7, h8⟩
      · exact .inl (h3.trans h6)
      · exact .inr ⟨e, g, ro, xs, h6, h3.trans h7, by simp [h8]⟩
    · rcases s1 j with h6 | ⟨e, g, ro, xs, h6, h7, h8⟩
      · exact .inr ⟨e', g', ro', xs', h6.symm.trans h3, h4, by simp [h5]⟩
      · rw [h7] at h3; cases h3
        exact .inr ⟨_, _, ro, _, h6, h4, by simp [h5]⟩
theorem shut_keeps (ks : List Nat) {h : Store} {k : Nat} {e : TypeId} {g : Nat} {xs : List AV} (hk : h[k]? = some (Ent.row e g true xs)) : (shut ks h)[k]? = some (Ent.row e g true xs) := by
  rcases (shut_spec ks h).2 k with h1 | ⟨e', g', ro', xs', h1, h2, _⟩
  · rw [h1, hk]
  · rw [hk] at h1; cases h1; exact h2
theorem shut_row (ks : List Nat) : ∀ {h : Store} {k : Nat} {e : TypeId} {g : Nat} {ro : Bool} {xs : List AV}, k ∈ ks → h[k]? = some (Ent.row e g ro xs) → (shut ks h)[k]? = some (Ent.row e g true xs) := by
  induction ks with
  | nil => intro h k e g ro xs hk; cases hk
  | cons k0 ks ih =>
    intro h k e g ro xs hk hrow
    show (shut ks (shut1 k0 h))[k]? = _
    by_cases hkk : k = k0
    · subst hkk
      refine shut_keeps ks ?_
      unfold shut1
      rw [hrow]
      exact List.getElem?_set_self (List.getElem?_eq_some_iff.1 hrow).1
    · refine ih (by simpa [hkk] using hk) (ro := ro) ?_
      rcases (shut1_spec k0 h).2 k with h1 | ⟨_, _, _, _, _, _, h1⟩
      · rw [h1, hrow]
      · exact absurd h1 hkk
theorem reloc_data (f : Nat → Nat) {w : World} {own : Nat → Prop} {l : List AV} {vs : List Value} (h : DL P w own l vs) : reloc.go f l = l := by
  induction h with
  | nil => rfl
  | sc h t it => simp only [reloc.go, reloc, it]
  | agg h t ih it => simp only [reloc.go, reloc, ih, it]
  | lit _ _ _ _ _ _ _ _ _ it => simp only [reloc.go, reloc, it]
theorem reloc_vl {E E' : Env} (f : Nat → Nat) (hP : E'.P = E.P) (hw : E'.w = E.w) (ho : ∀ b, E'.own b → E.own b) (hn : ∀ k, k < E.n → f k < E'.n) (hg : ∀ k, k < E.n → E'.gen (f k) = E.gen k ∧ E'.top (f k) = E.top k ∧ (∀ g, E.gen k = some g → E'.esz (f k) = E.esz k ∧ E'.row (f k) = E.row k) ∧ E'.box (f k) = E.box k)
    {l : List AV} {vs : List Value} (h : VL E l vs) : VL E' (reloc.go f l) vs := by
  induction h with
  | nil => exact .nil
  | @data x v r rs h t it =>
    have e1 : reloc f x = x := by
      have := reloc_data f h
      simpa [reloc.go] using this
    simp only [reloc.go, e1]
    refine .data ?_ it
    rw [hP, hw]; exact h.less ho
  | agg h t ih it => simp only [reloc.go, reloc]; exact .agg ih it
  | tup h t ih it => simp only [reloc.go, reloc]; exact .tup ih it
  | sl hk hgt h1 h t it =>
    obtain ⟨e1, e2, e3, e5⟩ := hg _ hk
    simp only [reloc.go, reloc]; exact .sl (hn _ hk) (by rw [e2]; exact hgt) h1 (fun hc => by rw [e1] at hc; rw [(e3 _ hc).2]; exact h hc) it
  | sub hk hgt h1 h t it =>
    obtain ⟨e1, e2, e3, e5⟩ := hg _ hk
    simp only [reloc.go, reloc]; exact .sub (hn _ hk) (by rw [e2]; exact hgt) h1 (fun hc => by rw [e1] at hc; rw [(e3 _ hc).1, (e3 _ hc).2]; exact h hc) it
  | bptr hk t it =>
    obtain ⟨e1, e2, e3, e5⟩ := hg _ hk
    simp only [reloc.go, reloc]; rw [← e5]; exact .bptr (hn _ hk) it
  | rptr hk hgt h1 h t it =>
    obtain ⟨e1, e2, e3, e5⟩ := hg _ hk
    simp only [reloc.go, reloc]; exact .rptr (hn _ hk) (by rw [e2]; exact hgt) h1 (fun hc => by rw [e1] at hc; rw [(e3 _ hc).1, (e3 _ hc).2]; exact h hc) it
  | @lptr e xs i off b o vals r rs hs h hr t it =>
    simp only [reloc.go, reloc]
    have := VL.lptr (E := E') (e := e) (xs := xs) (i := i) (off := off) (b := b) (o := o) (vals := vals) (by rw [hP]; exact hs) (by rw [hP, hw]; exact h.less ho) (fun j u hu => by
      obtain ⟨h1, h2⟩ := hr j u hu
      exact ⟨fun h => h1 (ho _ h), by rw [hw]; exact h2⟩) it
    rw [hP] at this; exact this
  | fn h t ih it => simp only [reloc.go, reloc]; exact .fn ih it
  | bad t it => simp only [reloc.go, reloc]; exact .bad it
def CallOk (P : Program) (base : Base) (I : Ifc) : Prop :=
  ∀ (f : FuncId) (args : List AV) (s : Store) (r : AV) (h2 : Store), I.call f args s = some (r, h2) → ∀ (E : Env) (vs : List Value), E.P = P → Rel base s E → VL E args vs →
    Calls P f vs.toArray E.w fun e w' => ∃ v E', e = .returned v ∧ E'.w = w' ∧ Rel base h2 E' ∧ Step s E h2 E' ∧ VL E' [r] [v]
theorem sole_vl {E E' : Env} {r : AV} {v : Value} (hr : sole r = true) (h : VL E [r] [v]) : VL E' [r] [v] := by
  cases r with
  | sc u => obtain ⟨rfl, hp⟩ := h.sc_inv; exact .data (.sc hp .nil) .nil
  | tup vs => obtain ⟨us, rfl, h1⟩ := h.tup_inv; exact .tup (sc_vl h1 (by simpa [sole] using hr)) .nil
  | _ => simp [sole] at hr
def backEnv (E : Env) (h : Store) (ix : List Nat) (new : Store) (Ec : Env) (sh : Bool) : Env := { E with w := Ec.w, n := h.length + new.length, gen := fun k => if k < h.length then E.gen k else Ec.gen (k - h.length + ix.length), top := fun k => if k < h.length then E.top k else Ec.top (k - h.length + ix.length), esz := fun k => if k < h.length then E.esz k else Ec.esz (k - h.length + ix.length), row := fun k => if k < h.length then E.row k else Ec.row (k - h.length + ix.length), box := fun k => if k < h.length then E.box k else Ec.box (k - h.length + ix.length), own := fun b => if sh then Ec.own b else Ec.own b ∨ E.own b }
theorem after_call (R : Rel base h E) {ix : List Nat} (hnd : ix.Nodup) {s : Store} (hs : subStore h ix = some s) {args : List AV} {h2 h' new : Store} (hwb : writeBack ix h2 h = some (h', new)) {Ec : Env} (hPc : Ec.P = E.P) (Rc : Rel base h2 Ec) (Sc : Step s (subEnv E (Lent E h args) ix) h2 Ec) (sh : Bool) (hnew : sh = false → new = []) (hrows : new.all isRow = true) :
    let E' : Env := backEnv E h ix new Ec sh
    let h'' : Store := (if sh then shut (refs args) h' else h') ++ new
    Rel base h'' E' ∧ Step h E h'' E' := by
  intro E' h''
  obtain ⟨hsl, hsx⟩ := subStore_some ix hs
  have hlt : ∀ b, b ∈ ix → b < h.length := fun b hb => by
    obtain ⟨j, hj, rfl⟩ := List.getElem_of_mem hb
    obtain ⟨t, cs, h1, _⟩ := hsx j _ (List.getElem?_eq_getElem hj)
    exact (List.getElem?_eq_some_iff.1 h1).1
  obtain ⟨pre, hpre, hplen, hh'len, hout, hin⟩ := writeBack_some ix hwb hnd hlt
  have hlen'' : h''.length = h.length + new.length := by
    show ((if sh then shut (refs args) h' else h') ++ new).length = _
    rw [List.length_append]
    cases sh with
    | false => simp [hh'len]
    | true => simp [(shut_spec (refs args) h').1, hh'len]
  have subblk : ∀ j b, blkOf (subEnv E (Lent E h args) ix) s j = some b → ∃ b0, ix[j]? = some b0 ∧ blkOf E h b0 = some b ∧ b = E.box b0 := fun j b hj => by
    obtain ⟨e, he, hb⟩ := blkOf_some hj
    have hjl : j < ix.length := by rw [← hsl]; exact (List.getElem?_eq_some_iff.1 he).1
    obtain ⟨t, cs, h1, h2, h3⟩ := hsx j _ (List.getElem?_eq_getElem hjl)
    rw [he] at h3; cases h3
    have hb : some (E.box (ix.getD j 0)) = some b := hb
    rw [getD_of (List.getElem?_eq_getElem hjl)] at hb
    cases hb
    exact ⟨_, List.getElem?_eq_getElem hjl, blkOf_of h1, rfl⟩
  have boxc : ∀ j b0, ix[j]? = some b0 → Ec.box j = E.box b0 := fun j b0 hj => by
    have hjl : j < ix.length := (List.getElem?_eq_some_iff.1 hj).1
    rw [Sc.ext.box j hjl]
    show E.box (ix.getD j 0) = _
    rw [getD_of hj]
  have keepHeap : ∀ b, b < E.w.heap.size → (∀ k, blkOf E h k ≠ some b) → Ec.w.heap[b]? = E.w.heap[b]? := fun b hb hn => Sc.heap b hb (fun j hj => by
    obtain ⟨b0, _, h1, _⟩ := subblk j b hj
    exact hn b0 h1)
  have otherHeap : ∀ k, k ∉ ix → ∀ b, blkOf E h k = some b → Ec.w.heap[b]? = E.w.heap[b]? := fun k hk b hb => Sc.heap b (R.lt b (R.own k b hb)) (fun j hj => by
    obtain ⟨b0, h0, h1, _⟩ := subblk j b hj
    have := R.inj k b0 b hb h1
    subst this
    exact hk (List.mem_of_getElem? h0))
  have cfresh : ∀ b, Ec.own b → E.own b ∧ ¬ Lent E h args b ∨ E.w.heap.size ≤ b := fun b hb => Sc.fresh b hb
  have hfresh : ∀ b, E'.own b → E.own b ∨ E.w.heap.size ≤ b := fun b hb => by
    have hb : (if sh then Ec.own b else Ec.own b ∨ E.own b) := hb
    cases sh with
    | true => exact (cfresh b hb).imp (fun h => h.1) id
    | false =>
      rcases hb with hb | hb
      · exact (cfresh b hb).imp (fun h => h.1) id
      · exact .inl hb
  have hx : Ext E E' := ⟨rfl, by show E.n ≤ h.length + new.length; rw [R.n]; omega, fun k hk => by
      show E.top k ≤ if k < h.length then E.top k else _
      rw [if_pos (by rw [← R.n]; exact hk)]; exact Nat.le_refl _, fun k g hk hg hc => by
      have hk' : k < h.length := by rw [← R.n]; exact hk
      have hc' : (if k < h.length then E.gen k else _) = some g := hc
      rw [if_pos hk'] at hc'
      exact ⟨hc', if_pos hk', if_pos hk'⟩, fun k hk => if_pos (by rw [← R.n]; exact hk), keep_of R keepHeap hfresh⟩
  have old : ∀ k, k < h.length → ∀ e, h''[k]? = some e → (k ∈ ix ∧ ∃ j t cs, ix[j]? = some k ∧ e = Ent.box t cs ∧ cs.all isSc = true ∧ h2[j]? = some (Ent.box t cs)) ∨ (k ∉ ix ∧ h[k]? = some e ∧ (sh = true → k ∈ refs args → ∀ e' g ro xs, e = Ent.row e' g ro xs → ro = true)) ∨ (k ∉ ix ∧ sh = true ∧ k ∈ refs args ∧ ∃ e' g ro xs, h[k]? = some (Ent.row e' g ro xs) ∧ e = Ent.row e' g true xs) := fun k hk e he => by
    have he1 : (if sh then shut (refs args) h' else h')[k]? = some e := by
      have : h''[k]? = (if sh then shut (refs args) h' else h')[k]? := by
        show ((if sh then shut (refs args) h' else h') ++ new)[k]? = _
        rw [List.getElem?_append_left]
        cases sh with
        | false => simpa [hh'len] using hk
        | true => simpa [(shut_spec (refs args) h').1, hh'len] using hk
      rw [← this]; exact he
    by_cases hki : k ∈ ix
    · obtain ⟨j, hj, rfl⟩ := List.getElem_of_mem hki
      have hj' := List.getElem?_eq_getElem hj
      obtain ⟨t, cs, h1, h2', h3⟩ := hin j _ hj'
      have hbox : (if sh then shut (refs args) h' else h')[ix[j]]? = some (Ent.box t cs) := by
        cases sh with
        | false => exact h1
        | true =>
          rcases (shut_spec (refs args) h').2 ix[j] with h4 | ⟨e', g', ro', xs', h4, h5, _⟩
          · exact h4.trans h1
          · rw [h1] at h4; cases h4
      rw [hbox] at he1; cases he1
      refine .inl ⟨hki, j, t, cs, hj', rfl, h2', ?_⟩
      rw [hpre, List.getElem?_append_left (by omega)]; exact h3
    · have hk1 := hout k hki
      cases hsh : sh with
      | false =>
        rw [hsh] at he1
        exact .inr (.inl ⟨hki, by rw [← hk1]; exact he1, fun h => by cases h⟩)
      | true =>
        rw [hsh] at he1
        have he1 : (shut (refs args) h')[k]? = some e := he1
        rcases (shut_spec (refs args) h').2 k with h4 | ⟨e', g', ro', xs', h4, h5, h6⟩
        · refine .inr (.inl ⟨hki, by rw [← hk1, ← h4]; exact he1, fun _ hkr e' g ro xs hee => ?_⟩)
          subst hee
          have h7 : h'[k]? = some (Ent.row e' g ro xs) := by rw [← h4]; exact he1
          have h8 := shut_row (refs args) hkr h7
          rw [he1] at h8; cases h8; rfl
        · rw [h5] at he1; cases he1
          exact .inr (.inr ⟨hki, rfl, h6, e', g', ro', xs', by rw [← hk1]; exact h4, rfl⟩)
  have fresh2 : ∀ k, h.length ≤ k → h''[k]? = h2[k - h.length + ix.length]? := fun k hk => by
    have hl : (if sh then shut (refs args) h' else h').length = h.length := by
      cases sh with
      | false => simp [hh'len]
      | true => simp [(shut_spec (refs args) h').1, hh'len]
    show ((if sh then shut (refs args) h' else h') ++ new)[k]? = _
    rw [List.getElem?_append_right (by rw [hl]; exact hk), hl, hpre, List.getElem?_append_right (by omega)]
    congr 1; omega
  have shnew : ∀ k, h.length ≤ k → ∀ e, h''[k]? = some e → sh = true ∧ ∃ e' g ro xs, e = Ent.row e' g ro xs := fun k hk e he => by
    have hl : (if sh then shut (refs args) h' else h').length = h.length := by
      cases sh with
      | false => simp [hh'len]
      | true => simp [(shut_spec (refs args) h').1, hh'len]
    have he1 : new[k - h.length]? = some e := by
      have : h''[k]? = new[k - h.length]? := by
        show ((if sh then shut (refs args) h' else h') ++ new)[k]? = _
        rw [List.getElem?_append_right (by rw [hl]; exact hk), hl]
      rw [← this]; exact he
    refine ⟨?_, ?_⟩
    · cases hsh : sh with
      | true => rfl
      | false => rw [hnew hsh] at he1; cases he1
    · have h1 := List.all_eq_true.1 hrows e (List.mem_of_getElem? he1)
      cases e with
      | box => simp [isRow] at h1
      | it => simp [isRow] at h1
      | row e' g ro xs => exact ⟨_, _, _, _, rfl⟩
  have ownsh : ∀ b, sh = true → (E'.own b ↔ Ec.own b) := fun b hsh => by
    show (if sh then Ec.own b else Ec.own b ∨ E.own b) ↔ _
    rw [hsh]; rfl
  have oldblk : ∀ k, k < h.length → ∀ b, blkOf E' h'' k = some b → blkOf E h k = some b ∧ ((∃ j, ix[j]? = some k ∧ blkOf Ec h2 j = some b) ∨ (k ∉ ix ∧ ¬ (sh = true ∧ k ∈ refs args ∧ ∃ e g ro xs, h[k]? = some (Ent.row e g ro xs)))) := fun k hk b hb => by
    obtain ⟨e, he, hbe⟩ := blkOf_some hb
    have hrow : E'.row k = E.row k := if_pos hk
    have hbox : E'.box k = E.box k := if_pos hk
    rw [entBlk_same hrow hbox] at hbe
    rcases old k hk e he with ⟨hki, j, t, cs, hj, rfl, hsc, hj2⟩ | ⟨hki, hhk, hro⟩ | ⟨hki, hsh, hkr, e', g, ro, xs, hhk, rfl⟩
    · obtain ⟨t', cs', h1, _, _⟩ := hsx j k hj
      have hbe : some (E.box k) = some b := hbe
      refine ⟨by rw [blkOf_of h1]; exact hbe, .inl ⟨j, hj, ?_⟩⟩
      rw [blkOf_of hj2]
      show some (Ec.box j) = _
      rw [boxc j k hj]; exact hbe
    · refine ⟨by rw [blkOf_of hhk]; exact hbe, .inr ⟨hki, fun ⟨hsh, hkr, e', g, ro, xs, hr⟩ => ?_⟩⟩
      rw [hhk] at hr; cases hr
      have := hro hsh hkr _ _ _ _ rfl
      subst this
      cases hbe
    · cases hbe
  have newblk : ∀ k, h.length ≤ k → ∀ b, blkOf E' h'' k = some b → sh = true ∧ blkOf Ec h2 (k - h.length + ix.length) = some b := fun k hk b hb => by
    obtain ⟨e, he, hbe⟩ := blkOf_some hb
    obtain ⟨hsh, e', g, ro, xs, rfl⟩ := shnew k hk e he
    refine ⟨hsh, ?_⟩
    rw [fresh2 k hk] at he
    rw [blkOf_of he]
    have hrow : E'.row k = Ec.row (k - h.length + ix.length) := if_neg (by omega)
    cases ro with
    | true => cases hbe
    | false =>
      have hbe : rowBlk (E'.row k) = some b := hbe
      rw [hrow] at hbe; exact hbe
  have newlow : ∀ k, h.length ≤ k → ∀ b, blkOf E' h'' k = some b → E.w.heap.size ≤ b := fun k hk b hb => by
    obtain ⟨_, h1⟩ := newblk k hk b hb
    rcases Sc.blk _ b h1 with ⟨i, hi⟩ | h3
    · obtain ⟨b0, h4, _, h6⟩ := subblk i b hi
      obtain ⟨t, cs, _, _, h8⟩ := hin i b0 h4
      have hil : i < ix.length := (List.getElem?_eq_some_iff.1 h4).1
      have h9 : blkOf Ec h2 i = some b := by
        rw [blkOf_of (e := Ent.box t cs) (by rw [hpre, List.getElem?_append_left (by omega)]; exact h8)]
        show some (Ec.box i) = _
        rw [boxc i b0 h4, h6]
      have := Rc.inj _ _ b h9 h1
      omega
    · exact h3
  have hwE : E'.w = Ec.w := rfl
  have oldown : ∀ k, k < h.length → ∀ b, blkOf E' h'' k = some b → E'.own b := fun k hk b hb => by
    obtain ⟨h1, h2'⟩ := oldblk k hk b hb
    cases hsh : sh with
    | false =>
      show if sh then Ec.own b else Ec.own b ∨ E.own b
      rw [hsh]; exact .inr (R.own k b h1)
    | true =>
      rw [ownsh b hsh]
      rcases h2' with ⟨j, hj, hb2⟩ | ⟨hki, hnr⟩
      · exact Rc.own j b hb2
      · refine Sc.held b ⟨R.own k b h1, fun ⟨k', hk', hr', hb'⟩ => ?_⟩ (fun j hj => ?_)
        · have := R.inj k' k b hb' h1
          subst this
          exact hnr ⟨hsh, hk', hr'⟩
        · obtain ⟨b0, h0, h3, _⟩ := subblk j b hj
          have := R.inj k b0 b h1 h3
          subst this
          exact hki (List.mem_of_getElem? h0)
  have S : Step h E h'' E' := ⟨hx, Sc.os, Sc.tape, Sc.output, Sc.size, keepHeap, hfresh, fun b hb hn => by
      cases hsh : sh with
      | false =>
        show if sh then Ec.own b else Ec.own b ∨ E.own b
        rw [hsh]; exact .inr hb
      | true =>
        rw [ownsh b hsh]
        refine Sc.held b ⟨hb, fun ⟨k', _, _, hb'⟩ => hn k' hb'⟩ (fun j hj => ?_)
        obtain ⟨b0, _, h3, _⟩ := subblk j b hj
        exact hn b0 h3, fun k b hb => by
      by_cases hk : k < h.length
      · exact .inl ⟨k, (oldblk k hk b hb).1⟩
      · exact .inr (newlow k (by omega) b hb)⟩
  refine ⟨⟨hlen''.symm, R.step_lo S, fun k e he => ?_, fun k hk => ?_, fun k b hb => ?_, fun i j b hi hj => ?_, fun b hb => ?_⟩, S⟩
  · by_cases hk : k < h.length
    · have henv : E'.gen k = E.gen k ∧ E'.top k = E.top k ∧ E'.esz k = E.esz k ∧ E'.row k = E.row k ∧ E'.box k = E.box k := ⟨if_pos hk, if_pos hk, if_pos hk, if_pos hk, if_pos hk⟩
      rcases old k hk e he with ⟨hki, j, t, cs, hj, rfl, hsc, hj2⟩ | ⟨hki, hhk, _⟩ | ⟨hki, hsh, hkr, e', g, ro, xs, hhk, rfl⟩
      · obtain ⟨t', cs', h1, _, _⟩ := hsx j k hj
        obtain ⟨hg, htp, hb, _, _⟩ := R.ent k _ h1
        obtain ⟨_, _, _, _, vals, hh, hv⟩ := Rc.ent j _ hj2
        refine ⟨by rw [henv.1]; exact hg, by rw [henv.2.1]; exact htp, by rw [henv.2.2.2.2]; exact hb, isSc_one hsc, vals, ?_, sc_vl hv hsc⟩
        rw [henv.2.2.2.2, ← boxc j k hj]; exact hh
      · exact (R.ent k e hhk).step hx henv (fun b hb => otherHeap k hki b (by rw [blkOf_of hhk]; exact hb))
      · have hro := R.ent k _ hhk
        have hr : rowOf h k g = some (e', ro, xs) := by simp only [rowOf, hhk, if_true]
        obtain ⟨hgen, hesz, _⟩ := row_reads R hr
        have htop : E.top k = g := by cases ro with
          | true => exact hro.2.1
          | false => exact hro.2.1
        have hd := row_lit (L := Lent E h args) R hr (fun b hb => ⟨k, hkr, ⟨_, _, _, _, hhk⟩, hb⟩)
        refine ⟨by rw [henv.1]; exact hgen, by rw [henv.2.1]; exact htop, by rw [henv.2.2.1]; exact hesz, ?_, fun hne => ?_⟩
        · rw [henv.2.2.2.1]
          show DL E.P Ec.w E'.own _ _
          exact hd.ext (fun a v ho hc => by
            obtain ⟨h1, h2⟩ := Sc.ext.keep a v ho hc
            exact ⟨fun h => h1 ((ownsh _ hsh).1 h), h2⟩)
        · rw [henv.2.2.2.1]
          cases ro with
          | true => exact hro.2.2.2.2 hne
          | false =>
            obtain ⟨_, _, _, _, vals, hrow, _⟩ := hro
            rcases hrow.2 with ⟨hn, _⟩ | ⟨b0, cap, cur, _, ha, _⟩
            · exact absurd (List.eq_nil_of_length_eq_zero hn) hne
            · exact ⟨b0, _, _, ha⟩
    · obtain ⟨hsh, e', g, ro, xs, rfl⟩ := shnew k (by omega) e he
      rw [fresh2 k (by omega)] at he
      have hro := Rc.ent _ _ he
      have e1 : E'.gen k = Ec.gen (k - h.length + ix.length) := if_neg hk
      have e2 : E'.top k = Ec.top (k - h.length + ix.length) := if_neg hk
      have e3 : E'.esz k = Ec.esz (k - h.length + ix.length) := if_neg hk
      have e4 : E'.row k = Ec.row (k - h.length + ix.length) := if_neg hk
      have hdl : ∀ {l vs}, DL Ec.P Ec.w Ec.own l vs → DL E'.P E'.w E'.own l vs := fun {l vs} hd => by
        show DL E.P Ec.w E'.own l vs
        rw [← hPc]
        exact hd.less (fun b hb => (ownsh b hsh).1 hb)
      cases ro with
      | true =>
        obtain ⟨h1, h2', h3, h4, h5⟩ := hro
        exact ⟨by rw [e1]; exact h1, by rw [e2]; exact h2', by rw [e3, h3, hPc]; rfl, by rw [e4]; exact hdl h4, by rw [e4]; exact h5⟩
      | false =>
        obtain ⟨h1, h2', h3, h4, vals, h5, h6, h7⟩ := hro
        rw [hPc] at h3 h4 h5
        exact ⟨by rw [e1]; exact h1, by rw [e2]; exact h2', by rw [e3]; exact h3, h4, vals, by rw [e4]; exact h5, hdl h6, h7⟩
  · rw [hlen''] at hk
    have : E'.gen k = Ec.gen (k - h.length + ix.length) := if_neg (by omega)
    rw [this]
    refine Rc.nogen _ ?_
    rw [hpre, List.length_append, hplen]; omega
  · by_cases hk : k < h.length
    · exact oldown k hk b hb
    · obtain ⟨hsh, h1⟩ := newblk k (by omega) b hb
      exact (ownsh b hsh).2 (Rc.own _ b h1)
  · by_cases hi' : i < h.length
    · by_cases hj' : j < h.length
      · exact R.inj i j b (oldblk i hi' b hi).1 (oldblk j hj' b hj).1
      · have := newlow j (by omega) b hj
        have := R.lt b (R.own i b (oldblk i hi' b hi).1)
        omega
    · by_cases hj' : j < h.length
      · have := newlow i (by omega) b hi
        have := R.lt b (R.own j b (oldblk j hj' b hj).1)
        omega
      · have h1 := (newblk i (by omega) b hi).2
        have h2' := (newblk j (by omega) b hj).2
        have := Rc.inj _ _ b h1 h2'
        omega
  · have hb : (if sh then Ec.own b else Ec.own b ∨ E.own b) := hb
    show b < Ec.w.heap.size
    cases sh with
    | true => exact Rc.lt b hb
    | false =>
      rcases hb with hb | hb
      · exact Rc.lt b hb
      · exact Nat.lt_of_lt_of_le (R.lt b hb) Sc.size
theorem callFn_sound {I : Ifc} (hI : I.o = Ops.std) (IH : CallOk P base I) (R : Rel base h E) (hP : E.P = P) {args : List AV} {vs : List Value} (hv : VL E args vs) {f : FuncId} {v : AV} {h3 : Store} {m : Nat} (he : callFn I f args h = some (v, h3, m)) :
    Calls P f vs.toArray E.w fun e w' => ∃ v' E', e = .returned v' ∧ E'.w = w' ∧ Rel base h3 E' ∧ Step h E h3 E' ∧ VL E' [v] [v'] := by
  unfold callFn at he
  rw [hI] at he
  split at he
  · cases he
  · rename_i args' ix hl
    split at he
    · cases he
    · rename_i s hs
      split at he
      · cases he
      · rename_i r h2 hc
        split at he
        · cases he
        · rename_i h' new hwb
          obtain ⟨hnd, _, hva⟩ := lend_vl (L := Lent E h args) R args hl hv List.nodup_nil (fun b hb => hb)
          have hva := hva []
          rw [List.append_nil] at hva
          have Rs := sub_rel R hnd hs args
          refine (IH f args' s r h2 hc (subEnv E (Lent E h args) ix) vs hP Rs hva).mono fun e w' ⟨v', Ec, hev, hw, Rc, Sc, hr⟩ => ?_
          have hPc : Ec.P = E.P := Sc.ext.P
          obtain ⟨hsl, hsx⟩ := subStore_some ix hs
          split at he
          · rename_i hso
            split at he
            · cases he
              obtain ⟨R', S'⟩ := after_call R hnd hs hwb hPc Rc Sc false (fun _ => rfl) rfl
              simp only [Bool.false_eq_true, if_false, List.append_nil] at R' S'
              exact ⟨v', backEnv E h ix [] Ec false, hev, hw, R', S', sole_vl hso hr⟩
            · cases he
          · split at he
            · rename_i hrows
              cases he
              obtain ⟨R', S'⟩ := after_call R hnd hs hwb hPc Rc Sc true (fun h => by cases h) hrows
              refine ⟨v', backEnv E h ix new Ec true, hev, hw, R', S', ?_⟩
              have hlt : ∀ b, b ∈ ix → b < h.length := fun b hb => by
                obtain ⟨j, hj, rfl⟩ := List.getElem_of_mem hb
                obtain ⟨t, cs, h1, _⟩ := hsx j _ (List.getElem?_eq_getElem hj)
                exact (List.getElem?_eq_some_iff.1 h1).1
              obtain ⟨pre, hpre, hplen, hh'len, hout, hin⟩ := writeBack_some ix hwb hnd hlt
              have hnc : Ec.n = ix.length + new.length := by rw [Rc.n, hpre, List.length_append, hplen]
              have hrel := reloc_vl (E := Ec) (E' := backEnv E h ix new Ec true) (backTo ix h.length) hPc.symm rfl (fun b hb => by have hb : (if true = true then Ec.own b else Ec.own b ∨ E.own b) := hb; simpa using hb)
                (fun k hk => by
                  rw [hnc] at hk
                  show backTo ix h.length k < h.length + new.length
                  unfold backTo
                  split
                  · rename_i hki
                    have := hlt (ix.getD k 0) (by rw [getD_of (List.getElem?_eq_getElem hki)]; exact List.getElem_mem hki)
                    omega
                  · omega)
                (fun k hk => by
                  rw [hnc] at hk
                  by_cases hki : k < ix.length
                  · have hb : backTo ix h.length k = ix[k] := by unfold backTo; rw [if_pos hki, getD_of (List.getElem?_eq_getElem hki)]
                    have hbl : ix[k] < h.length := hlt _ (List.getElem_mem hki)
                    obtain ⟨t, cs, h1, _, _⟩ := hsx k _ (List.getElem?_eq_getElem hki)
                    obtain ⟨t2, cs2, _, _, h5⟩ := hin k _ (List.getElem?_eq_getElem hki)
                    have h6 : h2[k]? = some (Ent.box t2 cs2) := by rw [hpre, List.getElem?_append_left (by omega)]; exact h5
                    obtain ⟨g1, g2, _⟩ := R.ent _ _ h1
                    obtain ⟨g3, g4, _⟩ := Rc.ent _ _ h6
                    rw [hb]
                    refine ⟨by show (if _ then _ else _) = _; rw [if_pos hbl, g1, g3], by show (if _ then _ else _) = _; rw [if_pos hbl, g2, g4], (fun g hg => by rw [g3] at hg; cases hg), ?_⟩
                    show (if _ then _ else _) = _
                    rw [if_pos hbl, Sc.ext.box k hki]
                    show _ = E.box (ix.getD k 0)
                    rw [getD_of (List.getElem?_eq_getElem hki)]
                  · have hb : backTo ix h.length k = h.length + (k - ix.length) := by unfold backTo; rw [if_neg hki]
                    have hnl : ¬ (h.length + (k - ix.length) < h.length) := by omega
                    have hidx : h.length + (k - ix.length) - h.length + ix.length = k := by omega
                    rw [hb]
                    refine ⟨?_, ?_, fun g _ => ⟨?_, ?_⟩, ?_⟩ <;> (show (if _ then _ else _) = _; rw [if_neg hnl, hidx])) hr
              simpa [reloc.go] using hrel
            · cases he
end
end Go.Ab
namespace Go.Ab
open Go
set_option linter.unusedSimpArgs false
set_option linter.unusedVariables false
section
variable {P : Program} {base : Base} {h : Store} {E : Env} {t : List AV} {a : Act}
def shutEnv (E : Env) (h : Store) (ks : List Nat) : Env := { E with own := fun b => E.own b ∧ ¬ LentK E h ks b }
theorem shut_rel (R : Rel base h E) (ks : List Nat) : Rel base (shut ks h) (shutEnv E h ks) ∧ Step h E (shut ks h) (shutEnv E h ks) := by
  obtain ⟨hlen, hsp⟩ := shut_spec ks h
  have hx : Ext E (shutEnv E h ks) := ⟨rfl, Nat.le_refl _, fun _ _ => Nat.le_refl _, fun _ _ _ _ h => ⟨h, rfl, rfl⟩, fun _ _ => rfl, fun a v ho hc => ⟨fun hh => ho hh.1, hc⟩⟩
  have hblk : ∀ k b, blkOf (shutEnv E h ks) (shut ks h) k = some b → blkOf E h k = some b ∧ ¬ (k ∈ ks ∧ ∃ e g ro xs, h[k]? = some (Ent.row e g ro xs)) := fun k b hb => by
    obtain ⟨e, he, hbe⟩ := blkOf_some hb
    rw [entBlk_same (E := E) (E' := shutEnv E h ks) rfl rfl] at hbe
    have hno : ¬ (k ∈ ks ∧ ∃ e g ro xs, h[k]? = some (Ent.row e g ro xs)) := fun ⟨hk, e', g, ro, xs, hr⟩ => by
      rw [shut_row ks hk hr] at he
      cases he
      cases hbe
    rcases hsp k with h1 | ⟨e', g, ro, xs, h1, h2, h3⟩
    · exact ⟨by rw [blkOf_of (h1.symm.trans he)]; exact hbe, hno⟩
    · exact absurd ⟨h3, e', g, ro, xs, h1⟩ hno
  refine ⟨⟨R.n.trans hlen.symm, R.lo, fun k e he => ?_, fun k hk => R.nogen k (by rw [← hlen]; exact hk), fun k b hb => ?_, fun i j b hi hj => R.inj i j b (hblk i b hi).1 (hblk j b hj).1, fun b hb => R.lt b hb.1⟩,
    ⟨hx, rfl, rfl, rfl, Nat.le_refl _, fun _ _ _ => rfl, fun _ hb => .inl hb.1, fun b hb hn => ⟨hb, fun ⟨k, _, _, hk⟩ => hn k hk⟩, fun k b hb => .inl ⟨k, (hblk k b hb).1⟩⟩⟩
  · rcases hsp k with h1 | ⟨e', g, ro, xs, h1, h2, h3⟩
    · exact (R.ent k e (h1.symm.trans he)).step hx ⟨rfl, rfl, rfl, rfl, rfl⟩ (fun b hb => rfl)
    · rw [h2] at he; cases he
      have hro := R.ent k _ h1
      have hr : rowOf h k g = some (e', ro, xs) := by simp only [rowOf, h1, if_true]
      obtain ⟨hgen, hesz, _⟩ := row_reads R hr
      have htop : E.top k = g := by cases ro with
        | true => exact hro.2.1
        | false => exact hro.2.1
      have hd := row_lit (L := LentK E h ks) R hr (fun b hb => ⟨k, h3, ⟨_, _, _, _, h1⟩, hb⟩)
      refine ⟨hgen, htop, hesz, hd, fun hne => ?_⟩
      cases ro with
      | true => exact hro.2.2.2.2 hne
      | false =>
        obtain ⟨_, _, _, _, vals, hrow, _⟩ := hro
        rcases hrow.2 with ⟨hn, _⟩ | ⟨b0, cap, cur, _, ha, _⟩
        · exact absurd (List.eq_nil_of_length_eq_zero hn) hne
        · exact ⟨b0, _, _, ha⟩
  · obtain ⟨h1, h2⟩ := hblk k b hb
    refine ⟨R.own k b h1, fun ⟨k', hk', hr', hb'⟩ => ?_⟩
    have := R.inj k' k b hb' h1
    subst this
    exact h2 ⟨hk', hr'⟩
theorem sized_one {n : Nat} {x : AV} (hs : sized n [x] = true) : x.cells.length = n ∧ x.cells.all AV.one = true := by
  simpa [sized] using hs
theorem op_storeF (R : Rel base h E) (hP : E.P = P) (ht : VL E t a.tmps.toList) {o : Oper} {ty : TypeId} {p x : Operand} (ho : o.op = .store ty p x) (hi : (P.info? ty).isSome = true) {p' x' : Od} (hp : cmpOd p = some p') (hx : cmpOd x = some x')
    {xa : AV} (hxa : lendV Ops.std h (od t x') = some xa) (hsz : sized (P.cellsOf ty) [xa] = true) (hxd : xa.data = true) {k g : Nat} {i : Int} {off : Nat} (hb : od t p' = .rptr k g i off) {e : TypeId} {xs : List AV} (hr : rowOf (shut (refs1 (od t x')) h) k g = some (e, false, xs)) {y : AV} (hy : Ops.std.lget xs i = some y) (hle : off + P.cellsOf ty ≤ y.cells.length) :
    Comes1 P base o a h E .bad ((shut (refs1 (od t x')) h).set k (.row e g false (Ops.std.lset xs i (reElem y off xa.cells)))) := by
  obtain ⟨R1, S1⟩ := shut_rel R (refs1 (od t x'))
  have hpv := od_vl ht hp
  rw [hb] at hpv
  have hxv := lendV_dl (L := LentK E h (refs1 (od t x'))) R _ hxa (od_vl ht hx) (fun b hb => hb)
  obtain ⟨hn, h1⟩ := sized_one hsz
  obtain ⟨v', E', hrun, R', S', V'⟩ := op_storeR (P := P) (a := a) R1 hP ho hi (xa := xa) (.data hxv .nil) hn h1 (hpv.ext S1.ext) hr hy hxd hle
  exact ⟨v', E', hrun, R', S1.trans S' R.lt, V'⟩
end
end Go.Ab
namespace Go.Ab
open Go
set_option linter.unusedSimpArgs false
set_option linter.unusedVariables false
section
variable {P : Program} {base : Base} {h : Store} {E : Env}
def subEnv2 (E : Env) (ix : List Nat) : Env :=
  { P := E.P, w := E.w, n := ix.length,
    gen := fun j => match ix[j]? with | some k => E.gen k | none => none
    top := fun j => match ix[j]? with | some k => E.top k | none => 0
    esz := fun j => match ix[j]? with | some k => E.esz k | none => 0
    row := fun j => match ix[j]? with | some k => E.row k | none => undef
    box := fun j => match ix[j]? with | some k => E.box k | none => 0
    own := E.own }
theorem idxOf_some {ix : List Nat} {k j : Nat} (h : ix.idxOf? k = some j) : ix[j]? = some k := by
  obtain ⟨hl, he, _⟩ := List.idxOf?_eq_some_iff.1 h
  rw [List.getElem?_eq_getElem hl]
  simpa using he
theorem idxOf_none {ix : List Nat} {k : Nat} (h : ix.idxOf? k = none) : k ∉ ix := fun hc => List.idxOf?_eq_none_iff.1 h hc
theorem getElem?_lt {ix : List Nat} {k j : Nat} (h : ix[j]? = some k) : j < ix.length := (List.getElem?_eq_some_iff.1 h).1
mutual
theorem relM_vl {ix : List Nat} : ∀ (x : AV) {x' : AV} {v : Value}, relM ix x = some x' → VL E [x] [v] → VL (subEnv2 E ix) [x'] [v] := by
  intro x x' v hl hv
  cases x with
  | sl k g =>
    simp only [relM] at hl
    split at hl
    · rename_i j hj
      cases hl
      have hj := idxOf_some hj
      obtain ⟨_, h2, h3, h4⟩ := hv.sl_inv
      exact .sl (getElem?_lt hj) (by simp only [subEnv2, hj]; exact h2) h3 (fun hg => by simp only [subEnv2, hj] at hg ⊢; exact h4 hg) .nil
    · cases hl
  | sub k g lo hi =>
    simp only [relM] at hl
    split at hl
    · rename_i j hj
      cases hl
      have hj := idxOf_some hj
      obtain ⟨_, h2, h3, h4⟩ := hv.sub_inv
      exact .sub (getElem?_lt hj) (by simp only [subEnv2, hj]; exact h2) h3 (fun hg => by simp only [subEnv2, hj] at hg ⊢; exact h4 hg) .nil
    · cases hl
  | bptr k off =>
    simp only [relM] at hl
    split at hl
    · rename_i j hj
      cases hl
      have hj := idxOf_some hj
      obtain ⟨_, rfl⟩ := hv.bptr_inv
      have hb : (subEnv2 E ix).box j = E.box k := by simp only [subEnv2, hj]
      rw [← hb]
      exact .bptr (getElem?_lt hj) .nil
    · cases hl
  | rptr k g i off =>
    simp only [relM] at hl
    split at hl
    · rename_i j hj
      cases hl
      have hj := idxOf_some hj
      cases hv with
      | data h t => cases h
      | rptr hk hg h1 h2 t => exact .rptr (getElem?_lt hj) (by simp only [subEnv2, hj]; exact hg) h1 (fun hg => by simp only [subEnv2, hj] at hg ⊢; exact h2 hg) .nil
    · cases hl
  | agg cs =>
    simp only [relM] at hl
    split at hl
    · rename_i l hl'
      cases hl
      obtain ⟨us, rfl, h2⟩ := hv.agg_inv
      exact .agg (relMs_vl cs hl' h2) .nil
    · cases hl
  | tup cs =>
    simp only [relM] at hl
    split at hl
    · rename_i l hl'
      cases hl
      obtain ⟨us, rfl, h2⟩ := hv.tup_inv
      exact .tup (relMs_vl cs hl' h2) .nil
    · cases hl
  | fn f cs =>
    simp only [relM] at hl
    split at hl
    · rename_i l hl'
      cases hl
      obtain ⟨us, rfl, h2⟩ := hv.fn_inv
      exact .fn (relMs_vl cs hl' h2) .nil
    · cases hl
  | sc u =>
    simp only [relM] at hl; cases hl
    obtain ⟨rfl, h2⟩ := hv.sc_inv
    exact .data (.sc h2 .nil) .nil
  | lit e f xs =>
    simp only [relM] at hl; cases hl
    exact .data hv.lit_inv .nil
  | lptr e xs i off =>
    simp only [relM] at hl; cases hl
    cases hv with
    | data h t => cases h
    | lptr hs h hr t => exact VL.lptr (E := subEnv2 E ix) hs h hr .nil
  | bad =>
    simp only [relM] at hl; cases hl
    exact .bad .nil
theorem relMs_vl {ix : List Nat} : ∀ (l : List AV) {l' : List AV} {vs : List Value}, relMs ix l = some l' → VL E l vs → VL (subEnv2 E ix) l' vs := by
  intro l l' vs hl hv
  cases l with
  | nil => simp only [relMs] at hl; cases hl; cases hv; exact .nil
  | cons x r =>
    simp only [relMs] at hl
    split at hl
    · rename_i x' hx
      split at hl
      · rename_i r' hr
        cases hl
        obtain ⟨v, us, rfl, h1, h2⟩ := hv.uncons
        exact (relM_vl x hx h1).cons (relMs_vl r hr h2)
      · cases hl
    · cases hl
end
theorem relM_one {ix : List Nat} {x x' : AV} (h : relM ix x = some x') (h1 : x.one = true) : x'.one = true := by
  cases x <;> simp only [relM] at h <;> first
    | (simp [AV.one] at h1; done)
    | (split at h <;> first | (cases h; rfl) | (cases h))
    | (cases h; first | rfl | exact h1)
theorem relMs_one {ix : List Nat} : ∀ {l l' : List AV}, relMs ix l = some l' → (∀ c, c ∈ l → c.one = true) → ∀ c, c ∈ l' → c.one = true := by
  intro l
  induction l with
  | nil => intro l' h _ c hc; simp only [relMs] at h; cases h; cases hc
  | cons x r ih =>
    intro l' h h1 c hc
    simp only [relMs] at h
    split at h
    · rename_i x' hx
      split at h
      · rename_i r' hr
        cases h
        rcases List.mem_cons.1 hc with rfl | hc
        · exact relM_one hx (h1 x (by simp))
        · exact ih hr (fun y hy => h1 y (by simp [hy])) c hc
      · cases h
    · cases h
theorem subM_some {ix : List Nat} : ∀ (l : List Nat) {s : Store}, subM ix h l = some s → s.length = l.length ∧ ∀ (j k : Nat), l[j]? = some k → ∃ e e', h[k]? = some e ∧ entM ix e = some e' ∧ s[j]? = some e' := by
  intro l
  induction l with
  | nil => intro s hs; simp only [subM] at hs; cases hs; exact ⟨rfl, fun j k hj => by cases hj⟩
  | cons k0 l ih =>
    intro s hs
    unfold subM at hs
    split at hs
    · rename_i e he
      split at hs
      · rename_i e' he'
        split at hs
        · rename_i s' hs'
          cases hs
          obtain ⟨h1, h2⟩ := ih hs'
          refine ⟨by simp [h1], fun j k hj => ?_⟩
          cases j with
          | zero => simp at hj; subst hj; exact ⟨e, e', he, he', rfl⟩
          | succ j => simpa using h2 j k (by simpa using hj)
        · cases hs
      · cases hs
    · cases hs
theorem nodupB_iff : ∀ {l : List Nat}, nodupB l = true → l.Nodup := by
  intro l
  induction l with
  | nil => intro _; exact List.nodup_nil
  | cons x r ih =>
    intro h
    unfold nodupB at h
    split at h
    · cases h
    · rename_i hc
      refine List.nodup_cons.2 ⟨?_, ih h⟩
      simpa using hc
theorem entM_ok {ix : List Nat} {j k : Nat} (hj : ix[j]? = some k) {e e' : Ent} (he : EntOk base E k e) (hm : entM ix e = some e') : EntOk base (subEnv2 E ix) j e' := by
  cases e with
  | box t cs =>
    simp only [entM] at hm
    split at hm
    · rename_i cs' hcs
      cases hm
      obtain ⟨h1, h2, h3, h4, vals, h5, h6⟩ := he
      exact ⟨by simp only [subEnv2, hj]; exact h1, by simp only [subEnv2, hj]; exact h2, by simp only [subEnv2, hj]; exact h3, relMs_one hcs h4, vals, by simp only [subEnv2, hj]; exact h5, relMs_vl cs hcs h6⟩
    · cases hm
  | row e g ro xs =>
    simp only [entM] at hm
    cases hm
    cases ro with
    | false =>
      obtain ⟨h1, h2, h3, h4, vals, h5, h6, h7⟩ := he
      exact ⟨by simp only [subEnv2, hj]; exact h1, by simp only [subEnv2, hj]; exact h2, by simp only [subEnv2, hj]; exact h3, h4, vals, by simp only [subEnv2, hj]; exact h5, h6, h7⟩
    | true =>
      obtain ⟨h1, h2, h3, h4, h5⟩ := he
      exact ⟨by simp only [subEnv2, hj]; exact h1, by simp only [subEnv2, hj]; exact h2, by simp only [subEnv2, hj]; exact h3, by simp only [subEnv2, hj]; exact h4, by simp only [subEnv2, hj]; exact h5⟩
  | it s pos =>
    simp only [entM] at hm
    cases hm
    obtain ⟨h1, h2, h3, h4, h5⟩ := he
    exact ⟨by simp only [subEnv2, hj]; exact h1, by simp only [subEnv2, hj]; exact h2, by simp only [subEnv2, hj]; exact h3, h4, by simp only [subEnv2, hj]; exact h5⟩
theorem entM_blk {ix : List Nat} {j k : Nat} (hj : ix[j]? = some k) {e e' : Ent} (hm : entM ix e = some e') : entBlk (subEnv2 E ix) j e' = entBlk E k e := by
  cases e with
  | box t cs =>
    simp only [entM] at hm
    split at hm
    · cases hm; simp only [entBlk, subEnv2, hj]
    · cases hm
  | row e g ro xs =>
    simp only [entM] at hm
    cases hm
    cases ro <;> simp only [entBlk, subEnv2, hj]
  | it s pos =>
    simp only [entM] at hm
    cases hm; simp only [entBlk, subEnv2, hj]
theorem sub2_blk {ix : List Nat} {s : Store} (hs : subM ix h ix = some s) (j : Nat) : blkOf (subEnv2 E ix) s j = match ix[j]? with | some k => blkOf E h k | none => none := by
  obtain ⟨h1, h2⟩ := subM_some ix hs
  cases hj : ix[j]? with
  | none =>
    have : s[j]? = none := by rw [List.getElem?_eq_none_iff] at hj ⊢; omega
    unfold blkOf; rw [this]; rfl
  | some k =>
    obtain ⟨e, e', h3, h4, h5⟩ := h2 j k hj
    rw [blkOf_of h5, entM_blk hj h4]
    exact (blkOf_of h3).symm
theorem nodup_idx {ix : List Nat} (hnd : ix.Nodup) {i j k : Nat} (hi : ix[i]? = some k) (hj : ix[j]? = some k) : i = j := by
  have hi' := getElem?_lt hi
  have hj' := getElem?_lt hj
  rw [List.getElem?_eq_getElem hi'] at hi
  rw [List.getElem?_eq_getElem hj'] at hj
  have heq : ix[i] = ix[j] := by injection hi with hi; injection hj with hj; rw [hi, hj]
  rcases Nat.lt_trichotomy i j with hlt | hlt | hlt
  · exact absurd heq (List.pairwise_iff_getElem.1 hnd i j hi' hj' hlt)
  · exact hlt
  · exact absurd heq.symm (List.pairwise_iff_getElem.1 hnd j i hj' hi' hlt)
theorem sub2_rel (R : Rel base h E) {ix : List Nat} (hnd : ix.Nodup) {s : Store} (hs : subM ix h ix = some s) : Rel base s (subEnv2 E ix) := by
  obtain ⟨h1, h2⟩ := subM_some ix hs
  have blk : ∀ j b, blkOf (subEnv2 E ix) s j = some b → ∃ k, ix[j]? = some k ∧ blkOf E h k = some b := fun j b hb => by
    rw [sub2_blk hs] at hb
    split at hb
    · rename_i k hk; exact ⟨k, hk, hb⟩
    · cases hb
  refine ⟨h1.symm, R.lo, fun j e hj => ?_, fun j hj => ?_, fun j b hb => ?_, fun i j b hi hj => ?_, R.lt⟩
  · have hjl : j < ix.length := by rw [← h1]; exact (List.getElem?_eq_some_iff.1 hj).1
    obtain ⟨e0, e', h3, h4, h5⟩ := h2 j _ (List.getElem?_eq_getElem hjl)
    rw [hj] at h5; cases h5
    exact entM_ok (List.getElem?_eq_getElem hjl) (R.ent _ _ h3) h4
  · have : ix[j]? = none := by rw [List.getElem?_eq_none_iff]; omega
    simp only [subEnv2, this]
  · obtain ⟨k, _, hb⟩ := blk j b hb
    exact R.own k b hb
  · obtain ⟨k, hk, hb⟩ := blk i b hi
    obtain ⟨k', hk', hb'⟩ := blk j b hj
    have := R.inj k k' b hb hb'
    subst this
    exact nodup_idx hnd hk hk'
theorem backM_some {f : Nat → Nat} : ∀ (ix : List Nat) {h2 h h' : Store}, backM f ix h2 h = some h' → ix.Nodup → (∀ k, k ∈ ix → k < h.length) →
    ix.length ≤ h2.length ∧ h'.length = h.length + (h2.length - ix.length) ∧ (∀ (k : Nat), k < h.length → k ∉ ix → h'[k]? = h[k]?) ∧ (∀ (j k : Nat), ix[j]? = some k → h'[k]? = (h2[j]?).map (entR f)) ∧ ∀ (k : Nat), h.length ≤ k → h'[k]? = (h2[k - h.length + ix.length]?).map (entR f) := by
  intro ix
  induction ix with
  | nil =>
    intro h2 h h' hb _ _
    simp only [backM] at hb; cases hb
    refine ⟨Nat.zero_le _, by simp, fun k hk _ => List.getElem?_append_left hk, (fun j k hj => by cases hj), fun k hk => ?_⟩
    rw [List.getElem?_append_right hk, List.getElem?_map]
    simp
  | cons k0 ix ih =>
    intro h2 h h' hb hnd hlt
    cases h2 with
    | nil => simp only [backM] at hb; cases hb
    | cons e h2 =>
      simp only [backM] at hb
      rw [List.nodup_cons] at hnd
      obtain ⟨h1, h3, h4, h5, h6⟩ := ih hb hnd.2 (fun k hk => by simpa using hlt k (by simp [hk]))
      simp only [List.length_set] at h3 h4 h6
      refine ⟨by simp; omega, by simp; omega, fun k hk hn => ?_, fun j k hj => ?_, fun k hk => ?_⟩
      · rw [h4 k hk (fun hc => hn (by simp [hc])), List.getElem?_set_ne (fun e => hn (by simp [e]))]
      · cases j with
        | zero =>
          simp at hj; subst hj
          rw [h4 _ (hlt _ (by simp)) hnd.1, List.getElem?_set_self (hlt _ (by simp))]; rfl
        | succ j => simpa using h5 j k (by simpa using hj)
      · rw [h6 k hk]
        simp only [List.length_cons]
        rw [show k - h.length + (ix.length + 1) = (k - h.length + ix.length) + 1 by omega]
        simp
theorem reloc_one {f : Nat → Nat} {x : AV} (h : x.one = true) : (reloc f x).one = true := by cases x <;> first | rfl | (simp [AV.one] at h)
theorem relocs_one {f : Nat → Nat} : ∀ {l : List AV}, (∀ c, c ∈ l → c.one = true) → ∀ c, c ∈ reloc.go f l → c.one = true := by
  intro l
  induction l with
  | nil => intro _ c hc; simp [reloc.go] at hc
  | cons x r ih =>
    intro h c hc
    simp only [reloc.go, List.mem_cons] at hc
    rcases hc with rfl | hc
    · exact reloc_one (h x (by simp))
    · exact ih (fun y hy => h y (by simp [hy])) c hc
def backEnv2 (E : Env) (n m : Nat) (ix : List Nat) (Ec : Env) : Env :=
  let at_ := fun {α : Type} (old new : Nat → α) (k : Nat) => if k < n then (match ix.idxOf? k with | some j => new j | none => old k) else new (k - n + ix.length)
  { P := E.P, w := Ec.w, n := m, gen := at_ E.gen Ec.gen, top := at_ E.top Ec.top, esz := at_ E.esz Ec.esz, row := at_ E.row Ec.row, box := at_ E.box Ec.box, own := Ec.own }
theorem back_at {α : Type} {n : Nat} {ix : List Nat} {old new : Nat → α} {k : Nat} :
    (k < n → ix.idxOf? k = none → (if k < n then (match ix.idxOf? k with | some j => new j | none => old k) else new (k - n + ix.length)) = old k) ∧
    (∀ j, k < n → ix.idxOf? k = some j → (if k < n then (match ix.idxOf? k with | some j => new j | none => old k) else new (k - n + ix.length)) = new j) ∧
    (n ≤ k → (if k < n then (match ix.idxOf? k with | some j => new j | none => old k) else new (k - n + ix.length)) = new (k - n + ix.length)) :=
  ⟨fun h1 h2 => by rw [if_pos h1, h2], fun j h1 h2 => by rw [if_pos h1, h2], fun h1 => by rw [if_neg (by omega)]⟩
theorem after_mv (R : Rel base h E) {ix : List Nat} (hnd : ix.Nodup) {s : Store} (hs : subM ix h ix = some s) {h2 h' : Store} (hb : backM (backTo ix h.length) ix h2 h = some h') {Ec : Env} (hPc : Ec.P = E.P) (Rc : Rel base h2 Ec) (Sc : Step s (subEnv2 E ix) h2 Ec) :
    ∃ E', E'.w = Ec.w ∧ Rel base h' E' ∧ Step h E h' E' ∧ ∀ {l : List AV} {vs : List Value}, VL Ec l vs → VL E' (reloc.go (backTo ix h.length) l) vs := by
  obtain ⟨hsl, hsx⟩ := subM_some ix hs
  have hlt : ∀ k, k ∈ ix → k < h.length := fun k hk => by
    obtain ⟨j, hj, rfl⟩ := List.getElem_of_mem hk
    obtain ⟨e, _, h1, _⟩ := hsx j _ (List.getElem?_eq_getElem hj)
    exact (List.getElem?_eq_some_iff.1 h1).1
  obtain ⟨hl2, hlen, hout, hin, hnew⟩ := backM_some ix hb hnd hlt
  have hnE : E.n = h.length := R.n
  have idx_of : ∀ j k, ix[j]? = some k → ix.idxOf? k = some j := fun j k hj => by
    cases hk : ix.idxOf? k with
    | none => exact absurd (List.mem_of_getElem? hj) (idxOf_none hk)
    | some i => rw [nodup_idx hnd (idxOf_some hk) hj]
  generalize hE' : backEnv2 E h.length h'.length ix Ec = E'
  have eP : E'.P = E.P := by rw [← hE']; rfl
  have ew : E'.w = Ec.w := by rw [← hE']; rfl
  have en : E'.n = h'.length := by rw [← hE']; rfl
  have eown : E'.own = Ec.own := by rw [← hE']; rfl
  have pOld : ∀ k, k < h.length → ix.idxOf? k = none → E'.gen k = E.gen k ∧ E'.top k = E.top k ∧ E'.esz k = E.esz k ∧ E'.row k = E.row k ∧ E'.box k = E.box k := fun k h1 h2 => by
    rw [← hE']
    exact ⟨back_at.1 h1 h2, back_at.1 h1 h2, back_at.1 h1 h2, back_at.1 h1 h2, back_at.1 h1 h2⟩
  have pIn : ∀ k j, k < h.length → ix.idxOf? k = some j → E'.gen k = Ec.gen j ∧ E'.top k = Ec.top j ∧ E'.esz k = Ec.esz j ∧ E'.row k = Ec.row j ∧ E'.box k = Ec.box j := fun k j h1 h2 => by
    rw [← hE']
    exact ⟨back_at.2.1 j h1 h2, back_at.2.1 j h1 h2, back_at.2.1 j h1 h2, back_at.2.1 j h1 h2, back_at.2.1 j h1 h2⟩
  have pNew : ∀ k, h.length ≤ k → E'.gen k = Ec.gen (k - h.length + ix.length) ∧ E'.top k = Ec.top (k - h.length + ix.length) ∧ E'.esz k = Ec.esz (k - h.length + ix.length) ∧ E'.row k = Ec.row (k - h.length + ix.length) ∧ E'.box k = Ec.box (k - h.length + ix.length) := fun k h1 => by
    rw [← hE']
    exact ⟨back_at.2.2 h1, back_at.2.2 h1, back_at.2.2 h1, back_at.2.2 h1, back_at.2.2 h1⟩
  have subj : ∀ j k, ix[j]? = some k → (subEnv2 E ix).gen j = E.gen k ∧ (subEnv2 E ix).top j = E.top k ∧ (subEnv2 E ix).esz j = E.esz k ∧ (subEnv2 E ix).row j = E.row k ∧ (subEnv2 E ix).box j = E.box k := fun j k hj => by
    simp only [subEnv2, hj]; exact ⟨trivial, trivial, trivial, trivial, trivial⟩
  have hsubn : (subEnv2 E ix).n = ix.length := rfl
  have hrel : ∀ {l : List AV} {vs : List Value}, VL Ec l vs → VL E' (reloc.go (backTo ix h.length) l) vs := fun {l vs} hv => by
    have place : ∀ k, k < Ec.n → backTo ix h.length k < E'.n ∧ E'.gen (backTo ix h.length k) = Ec.gen k ∧ E'.top (backTo ix h.length k) = Ec.top k ∧ E'.esz (backTo ix h.length k) = Ec.esz k ∧ E'.row (backTo ix h.length k) = Ec.row k ∧ E'.box (backTo ix h.length k) = Ec.box k := fun k hk => by
      rw [Rc.n] at hk
      by_cases hki : k < ix.length
      · have hb : backTo ix h.length k = ix[k] := by unfold backTo; rw [if_pos hki, getD_of (List.getElem?_eq_getElem hki)]
        have hbl : ix[k] < h.length := hlt _ (List.getElem_mem hki)
        rw [hb]
        refine ⟨by rw [en]; omega, ?_⟩
        exact pIn _ _ hbl (idx_of k _ (List.getElem?_eq_getElem hki))
      · have hb : backTo ix h.length k = h.length + (k - ix.length) := by unfold backTo; rw [if_neg hki]
        rw [hb]
        refine ⟨by rw [en]; omega, ?_⟩
        have := pNew (h.length + (k - ix.length)) (by omega)
        rw [show h.length + (k - ix.length) - h.length + ix.length = k by omega] at this
        exact this
    refine reloc_vl (E := Ec) (E' := E') (backTo ix h.length) (by rw [eP, hPc]) ew (fun b hb => by rw [eown] at hb; exact hb) (fun k hk => (place k hk).1) (fun k hk => ?_) hv
    obtain ⟨_, p1, p2, p3, p4, p5⟩ := place k hk
    exact ⟨p1, p2, fun g hg => ⟨p3, p4⟩, p5⟩
  have ent : ∀ k e, h'[k]? = some e → (k < h.length ∧ ix.idxOf? k = none ∧ h[k]? = some e) ∨ ∃ j e0, h2[j]? = some e0 ∧ e = entR (backTo ix h.length) e0 ∧ (E'.gen k = Ec.gen j ∧ E'.top k = Ec.top j ∧ E'.esz k = Ec.esz j ∧ E'.row k = Ec.row j ∧ E'.box k = Ec.box j) ∧ ((k < h.length ∧ ix[j]? = some k) ∨ (h.length ≤ k ∧ j = k - h.length + ix.length)) := fun k e he => by
    by_cases hk : k < h.length
    · cases hi : ix.idxOf? k with
      | none => exact .inl ⟨hk, rfl, by rw [← hout k hk (idxOf_none hi)]; exact he⟩
      | some j =>
        have hj := idxOf_some hi
        rw [hin j k hj] at he
        obtain ⟨e0, h3, rfl⟩ := Option.map_eq_some_iff.1 he
        exact .inr ⟨j, e0, h3, rfl, pIn k j hk hi, .inl ⟨hk, hj⟩⟩
    · rw [hnew k (by omega)] at he
      obtain ⟨e0, h3, rfl⟩ := Option.map_eq_some_iff.1 he
      exact .inr ⟨_, e0, h3, rfl, pNew k (by omega), .inr ⟨by omega, rfl⟩⟩
  have entR_blk : ∀ k j e0, E'.row k = Ec.row j → E'.box k = Ec.box j → entBlk E' k (entR (backTo ix h.length) e0) = entBlk Ec j e0 := fun k j e0 h4 h5 => by
    cases e0 with
    | box t cs => simp only [entR, entBlk, h5]
    | row e g ro xs => cases ro <;> simp only [entR, entBlk, h4]
    | it => simp only [entR, entBlk, h5]
  have subblk : ∀ j b, blkOf (subEnv2 E ix) s j = some b → ∃ k, ix[j]? = some k ∧ blkOf E h k = some b := fun j b hb => by
    rw [sub2_blk hs] at hb
    split at hb
    · rename_i k hk; exact ⟨k, hk, hb⟩
    · cases hb
  have blk : ∀ k b, blkOf E' h' k = some b → (k < h.length ∧ ix.idxOf? k = none ∧ blkOf E h k = some b) ∨ ∃ j, blkOf Ec h2 j = some b ∧ ((k < h.length ∧ ix[j]? = some k) ∨ (h.length ≤ k ∧ j = k - h.length + ix.length)) := fun k b hkb => by
    obtain ⟨e, he, hbe⟩ := blkOf_some hkb
    rcases ent k e he with ⟨h1, h3, h4⟩ | ⟨j, e0, h1, rfl, ⟨_, _, _, p4, p5⟩, h4⟩
    · obtain ⟨_, _, _, p4, p5⟩ := pOld k h1 h3
      rw [entBlk_same p4 p5] at hbe
      exact .inl ⟨h1, h3, by rw [blkOf_of h4]; exact hbe⟩
    · rw [entR_blk k j e0 p4 p5] at hbe
      exact .inr ⟨j, by rw [blkOf_of h1]; exact hbe, h4⟩
  have notSub : ∀ k b, k < h.length → ix.idxOf? k = none → blkOf E h k = some b → ∀ j, blkOf (subEnv2 E ix) s j ≠ some b := fun k b hk hi hkb j hj => by
    obtain ⟨k', h1, h3⟩ := subblk j b hj
    have := R.inj k k' b hkb h3
    subst this
    exact idxOf_none hi (List.mem_of_getElem? h1)
  have blkBack : ∀ j b, blkOf Ec h2 j = some b → (∃ k, k ∈ ix ∧ blkOf E h k = some b) ∨ E.w.heap.size ≤ b := fun j b hjb => by
    rcases Sc.blk j b hjb with ⟨i, hi⟩ | h1
    · obtain ⟨k, h3, h4⟩ := subblk i b hi
      exact .inl ⟨k, List.mem_of_getElem? h3, h4⟩
    · exact .inr h1
  have heapN : ∀ b, b < E.w.heap.size → (∀ k, blkOf E h k ≠ some b) → E'.w.heap[b]? = E.w.heap[b]? := fun b hb hn => by
    rw [ew]
    exact Sc.heap b hb (fun j hj => by obtain ⟨k, _, h3⟩ := subblk j b hj; exact hn k h3)
  have hx : Ext E E' := by
    refine ⟨eP, by rw [en, hnE, hlen]; omega, fun k hk => ?_, fun k g hk hg hc => ?_, fun k hk => ?_, fun a v ho hc => ?_⟩
    · rw [hnE] at hk
      cases hi : ix.idxOf? k with
      | none => rw [(pOld k hk hi).2.1]; exact Nat.le_refl _
      | some j =>
        have hj := idxOf_some hi
        rw [(pIn k j hk hi).2.1, ← (subj j k hj).2.1]
        exact Sc.ext.top j (getElem?_lt hj)
    · rw [hnE] at hk
      cases hi : ix.idxOf? k with
      | none =>
        obtain ⟨p1, p2, p3, p4, p5⟩ := pOld k hk hi
        rw [p1] at hc
        exact ⟨hc, p4, p3⟩
      | some j =>
        have hj := idxOf_some hi
        obtain ⟨p1, p2, p3, p4, p5⟩ := pIn k j hk hi
        obtain ⟨q1, q2, q3, q4, q5⟩ := subj j k hj
        rw [p1] at hc
        obtain ⟨r1, r2, r3⟩ := Sc.ext.gen j g (getElem?_lt hj) (by rw [q2]; exact hg) hc
        exact ⟨by rw [← q1]; exact r1, by rw [p4, r2, q4], by rw [p3, r3, q3]⟩
    · rw [hnE] at hk
      cases hi : ix.idxOf? k with
      | none => exact (pOld k hk hi).2.2.2.2
      | some j =>
        have hj := idxOf_some hi
        rw [(pIn k j hk hi).2.2.2.2, Sc.ext.box j (getElem?_lt hj)]
        exact (subj j k hj).2.2.2.2
    · rw [eown, ew]
      exact Sc.ext.keep a v ho hc
  have S : Step h E h' E' := ⟨hx, by rw [ew]; exact Sc.os, by rw [ew]; exact Sc.tape, by rw [ew]; exact Sc.output, by rw [ew]; exact Sc.size, heapN, fun b hb => by rw [eown] at hb; exact Sc.fresh b hb, fun b hb hn => by
      rw [eown]
      exact Sc.held b hb (fun j hj => by obtain ⟨k, _, h3⟩ := subblk j b hj; exact hn k h3), fun k b hkb => by
      rcases blk k b hkb with ⟨_, _, h3⟩ | ⟨j, h3, _⟩
      · exact .inl ⟨k, h3⟩
      · rcases blkBack j b h3 with ⟨k', _, h4⟩ | h4
        · exact .inl ⟨k', h4⟩
        · exact .inr h4⟩
  refine ⟨E', ew, ⟨en, R.step_lo S, fun k e he => ?_, fun k hk => ?_, fun k b hkb => ?_, fun i j b hi hj => ?_, fun b hb => by rw [eown] at hb; rw [ew]; exact Rc.lt b hb⟩, S, hrel⟩
  · rcases ent k e he with ⟨h1, h3, h4⟩ | ⟨j, e0, h1, rfl, ⟨p1, p2, p3, p4, p5⟩, _⟩
    · refine (R.ent k e h4).step hx (pOld k h1 h3) (fun b hbe => ?_)
      have hkb : blkOf E h k = some b := by rw [blkOf_of h4]; exact hbe
      rw [ew]
      exact Sc.heap b (R.lt b (R.own k b hkb)) (notSub k b h1 h3 hkb)
    · have hro := Rc.ent j e0 h1
      cases e0 with
      | box t cs =>
        obtain ⟨g1, g2, g3, g4, vals, g5, g6⟩ := hro
        exact ⟨by rw [p1]; exact g1, by rw [p2]; exact g2, by rw [p5]; exact g3, relocs_one g4, vals, by rw [ew, p5]; exact g5, hrel g6⟩
      | row e g ro xs =>
        cases ro with
        | false =>
          obtain ⟨g1, g2, g3, g4, vals, g5, g6, g7⟩ := hro
          rw [hPc] at g3 g4 g5 g6
          exact ⟨by rw [p1]; exact g1, by rw [p2]; exact g2, by rw [p3, eP]; exact g3, by rw [eP]; exact g4, vals, by rw [ew, eP, p4]; exact g5, by rw [eP, ew, eown]; exact g6, g7⟩
        | true =>
          obtain ⟨g1, g2, g3, g4, g5⟩ := hro
          rw [hPc] at g3 g4
          exact ⟨by rw [p1]; exact g1, by rw [p2]; exact g2, by rw [p3, eP]; exact g3, by rw [eP, ew, eown, p4]; exact g4, by rw [p4]; exact g5⟩
      | it st pos =>
        obtain ⟨g1, g2, g3, g4, g5⟩ := hro
        exact ⟨by rw [p1]; exact g1, by rw [p2]; exact g2, by rw [p5]; exact g3, g4, by rw [ew, p5]; exact g5⟩
  · rw [hlen] at hk
    rw [(pNew k (by omega)).1]
    exact Rc.nogen _ (by omega)
  · rw [eown]
    rcases blk k b hkb with ⟨h1, h3, h4⟩ | ⟨j, h3, _⟩
    · exact Sc.held b (R.own k b h4) (notSub k b h1 h3 h4)
    · exact Rc.own j b h3
  · have mixed : ∀ k b, k < h.length → ix.idxOf? k = none → blkOf E h k = some b → ∀ j, blkOf Ec h2 j ≠ some b := fun k b h1 h3 h4 j hj => by
      rcases blkBack j b hj with ⟨k', h5, h6⟩ | h5
      · have := R.inj k k' b h4 h6
        subst this
        exact idxOf_none h3 h5
      · have := R.lt b (R.own k b h4); omega
    rcases blk i b hi with ⟨a1, a2, a3⟩ | ⟨a1, a2, a3⟩ <;> rcases blk j b hj with ⟨c1, c2, c3⟩ | ⟨c1, c2, c3⟩
    · exact R.inj i j b a3 c3
    · exact absurd c2 (mixed i b a1 a2 a3 c1)
    · exact absurd a2 (mixed j b c1 c2 c3 a1)
    · have := Rc.inj a1 c1 b a2 c2
      subst this
      rcases a3 with ⟨d1, d2⟩ | ⟨d1, d2⟩ <;> rcases c3 with ⟨f1, f2⟩ | ⟨f1, f2⟩
      · rw [d2] at f2; injection f2
      · have := getElem?_lt d2; omega
      · have := getElem?_lt f2; omega
      · omega
theorem callMv_sound {I : Ifc} (IH : CallOk P base I) (R : Rel base h E) (hP : E.P = P) {args : List AV} {vs : List Value} (hv : VL E args vs) {f : FuncId} {v : AV} {h3 : Store} {m : Nat} (he : callMv I f args h = some (v, h3, m)) :
    Calls P f vs.toArray E.w fun e w' => ∃ v' E', e = .returned v' ∧ E'.w = w' ∧ Rel base h3 E' ∧ Step h E h3 E' ∧ VL E' [v] [v'] := by
  unfold callMv callMv1 at he
  generalize reach h 64 (rfs args) [] = ix at he
  split at he
  · cases he
  · rename_i args' ha
    split at he
    · cases he
    · rename_i s hs
      split at he
      · cases he
      · rename_i hnd
        have hnd := nodupB_iff hnd
        split at he
        · cases he
        · rename_i r h2 hc
          split at he
          · cases he
          · rename_i h' hb
            cases he
            refine (IH f args' s r h2 hc (subEnv2 E ix) vs hP (sub2_rel R hnd hs) (relMs_vl args ha hv)).mono fun e w' ⟨v', Ec, hev, hw, Rc, Sc, hr⟩ => ?_
            obtain ⟨E', e1, e2, e3, e4⟩ := after_mv R hnd hs hb Sc.ext.P Rc Sc
            refine ⟨v', E', hev, e1.trans hw, e2, e3, ?_⟩
            have := e4 hr
            simpa [reloc.go] using this
theorem trim_ok (R : Rel base h E) {rs rs1 : List AV} {h1 : Store} {us : List Value} (V : VL E rs us) (he : trim Ops.std rs h = some (rs1, h1)) : ∃ E', E'.w = E.w ∧ Rel base h1 E' ∧ Step h E h1 E' ∧ VL E' rs1 us := by
  have same : some (rs, h) = some (rs1, h1) → ∃ E', E'.w = E.w ∧ Rel base h1 E' ∧ Step h E h1 E' ∧ VL E' rs1 us := fun e => by
    injection e with e
    injection e with e1 e2
    subst e1 e2
    exact ⟨E, rfl, R, Step.refl h E, V⟩
  unfold trim at he
  split at he
  · rename_i k g lo hi
    split at he
    · rename_i h0
      split at he
      · rename_i e xs hr
        split at he
        · rename_i ys hys
          injection he with he
          injection he with he1 he2
          subst he1 he2
          obtain ⟨u, rfl, hv⟩ := V.one_inv
          have h0' : lo = 0 := by simpa [Ops.std] using h0
          subst h0'
          have hk := rowOf_some hr
          obtain ⟨hgen, htop, hesz, hsx, olds, hrow, hdx, honex⟩ := R.ent k _ hk
          obtain ⟨hkn, hg, hu1, hsub⟩ := hv.sub_inv
          obtain ⟨_, h01, a, cap, hve, hc, hm, _, hz⟩ := hsub hgen
          obtain ⟨n0, hrk⟩ := hz rfl
          simp only [Ops.std] at hys
          split at hys
          · rename_i hbd
            cases hys
            have hn : (hi - 0).toNat = hi.toNat := by congr 1; omega
            rw [hn] at hve hc
            have hle : hi.toNat ≤ xs.length := by omega
            have hlen : ((xs.take hi.toNat).drop (0 : Int).toNat).length = hi.toNat := by simp; omega
            have htk : (xs.take hi.toNat).drop (0 : Int).toNat = xs.take hi.toNat := by simp
            rw [htk] at hlen ⊢
            have hblk : ∀ b, rowBlk u = some b → rowBlk (E.row k) = some b := fun b hb => by
              rw [hve] at hb
              rw [hrk]
              cases cap with
              | zero => cases a <;> simp [rowBlk] at hb
              | succ c => cases a <;> simp [rowBlk] at hb ⊢; exact hb
            obtain ⟨E', e1, e2, e3, e4⟩ := row_new (base := base) R hk (w' := E.w) (v' := u) (xs' := xs.take hi.toNat) (vals' := olds.take (hi.toNat * E.P.cellsOf e)) rfl rfl rfl (Nat.le_refl _) (fun _ _ _ => rfl)
              (fun b hb => ⟨.inl (hblk b hb), R.lt b (R.own k b (by rw [blkOf_of hk]; exact hblk b hb))⟩)
              (by
                rw [hlen, hve]
                refine ⟨by rw [List.length_take, hrow.1]; exact Nat.min_eq_left (Nat.mul_le_mul_right _ hle), ?_⟩
                rcases hrow.2 with ⟨hn0, a', ha'⟩ | ⟨b0, cap', cur, hc0, ha', hbb, hh, hlec, hmx, hcs, htk2⟩
                · rw [hrk] at ha'
                  injection ha' with e1 _ e3
                  refine .inl ⟨by omega, a, ?_⟩
                  rw [e3, show hi.toNat = 0 by omega]
                · rw [hrk] at ha'
                  injection ha' with e1 _ e3
                  subst e1 e3
                  refine .inr ⟨b0, cap, cur, hc0, rfl, hbb, hh, hc, hmx, hcs, ?_⟩
                  rw [← htk2, List.take_take, Nat.min_eq_left (Nat.mul_le_mul_right _ hle)])
              hu1 (fun x hx => hsx x (List.mem_of_mem_take hx)) (fun v hv => honex v (List.mem_of_mem_take hv)) (by rw [flat_take hsx]; exact hdx.take _)
            exact ⟨E', e1, e2, e3, e4⟩
          · cases hys
        · cases he
      · exact same he
    · exact same he
  · exact same he
theorem gc_ok {s h : Store} {E0 E : Env} (R0 : Rel base s E0) (S : Step s E0 h E) (R : Rel base h E) {rs rs' : List AV} {us : List Value} (V : VL E rs us) {s' : Store} (he : gcOut s.length rs h = some (rs', s')) :
    ∃ E', E'.w = E.w ∧ Rel base s' E' ∧ Step s E0 s' E' ∧ VL E' rs' us := by
  unfold gcOut at he
  generalize (reach h 64 (rfs rs ++ outerRefs s.length h) (List.range s.length)).drop s.length = ks at he
  unfold gcOut1 at he
  split at he
  · cases he
  · rename_i r1 hr1
    split at he
    · cases he
    · rename_i s1 hs1
      split at he
      · cases he
      · rename_i hnd
        cases he
        have hnd := nodupB_iff hnd
        have R' := sub2_rel R hnd hs1
        have hrange : ∀ k, k < s.length → (List.range s.length ++ ks)[k]? = some k := fun k hk => by
          rw [List.getElem?_append_left (by simpa using hk)]; simp [hk]
        have sub : ∀ k, k < s.length → (subEnv2 E (List.range s.length ++ ks)).gen k = E.gen k ∧ (subEnv2 E (List.range s.length ++ ks)).top k = E.top k ∧ (subEnv2 E (List.range s.length ++ ks)).esz k = E.esz k ∧ (subEnv2 E (List.range s.length ++ ks)).row k = E.row k ∧ (subEnv2 E (List.range s.length ++ ks)).box k = E.box k := fun k hk => by
          simp only [subEnv2, hrange k hk]; exact ⟨trivial, trivial, trivial, trivial, trivial⟩
        have hn0 : E0.n = s.length := R0.n
        refine ⟨subEnv2 E (List.range s.length ++ ks), rfl, R', ⟨⟨S.ext.P, ?_, fun k hk => ?_, fun k g hk hg hc => ?_, fun k hk => ?_, S.ext.keep⟩, S.os, S.tape, S.output, S.size, S.heap, S.fresh, S.held, fun k b hb => ?_⟩, relMs_vl rs hr1 V⟩
        · show E0.n ≤ (List.range s.length ++ ks).length
          rw [hn0]; simp
        · rw [(sub k (by omega)).2.1]; exact S.ext.top k hk
        · obtain ⟨q1, q2, q3, q4, q5⟩ := sub k (by omega)
          rw [q1] at hc
          rw [q3, q4]
          exact S.ext.gen k g hk hg hc
        · rw [(sub k (by omega)).2.2.2.2]; exact S.ext.box k hk
        · rw [sub2_blk hs1] at hb
          split at hb
          · exact S.blk _ b hb
          · cases hb
end
end Go.Ab
