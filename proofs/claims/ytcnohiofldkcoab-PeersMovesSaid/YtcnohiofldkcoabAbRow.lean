/- Stores into rows; a slice's elements by their type. -/
import Derived.Test.YtcnohiofldkcoabAbApp
namespace Go.Ab
open Go
set_option linter.unusedSimpArgs false
set_option linter.unusedVariables false

section
variable {P : Program} {base : Nat} {h : Store} {E : Env} {t : List AV} {a : Act}

theorem elemsAt_some (R : Rel base h E) {x : AV} {xv : Value} (hx : VL E [x] [xv]) {e : TypeId} {xs : List AV} (he : elemsAt Ops.std h e x = some xs) : elemsOf Ops.std h x = some xs ∧ ∀ y, y ∈ xs → y.cells.length = E.P.cellsOf e := by
  cases x with
  | lit e' f ys =>
    obtain ⟨_, _, _, _, _, _, _, hs, _⟩ := hx.lit_inv.lit_inv
    simp only [elemsAt] at he
    split at he
    · rename_i hee; subst hee; cases he; exact ⟨rfl, hs⟩
    · split at he
      · cases he; exact ⟨rfl, fun y hy => by cases hy⟩
      · cases he
  | sl k g =>
    simp only [elemsAt] at he
    split at he
    · rename_i e' ro ys hr
      split at he
      · rename_i hee; subst hee; cases he
        exact ⟨by simp only [elemsOf, hr], (row_reads R hr).2.2.1⟩
      · cases he
    · cases he
  | sub k g lo hi =>
    simp only [elemsAt] at he
    split at he
    · rename_i e' ro ys hr
      split at he
      · rename_i hee; subst hee
        refine ⟨by simp only [elemsOf, hr]; exact he, fun y hy => ?_⟩
        simp only [Ops.std] at he
        split at he
        · cases he
          exact (row_reads R hr).2.2.1 y (List.mem_of_mem_take (List.mem_of_mem_drop hy))
        · cases he
      · cases he
    · cases he
  | _ => simp [elemsAt] at he

theorem flat_set {xs : List AV} {s : Nat} (hs : ∀ x, x ∈ xs → x.cells.length = s) : ∀ (i : Nat) (y : AV), i < xs.length → y.cells.length = s → flat (xs.set i y) = (flat xs).take (i * s) ++ y.cells ++ (flat xs).drop (i * s + s) := by
  induction xs with
  | nil => intro i y hi; cases hi
  | cons x xs ih =>
    intro i y hi hy
    have hx := hs x (List.mem_cons_self ..)
    cases i with
    | zero =>
      simp only [List.set_cons_zero, flat, List.flatMap_cons, Nat.zero_mul, List.take_zero, List.nil_append, Nat.zero_add]
      rw [List.drop_append, List.drop_eq_nil_of_le (by omega), List.nil_append, show s - x.cells.length = 0 by omega]; rfl
    | succ i =>
      have := ih (fun z hz => hs z (List.mem_cons_of_mem _ hz)) i y (by simpa using hi) hy
      simp only [flat, List.set_cons_succ, List.flatMap_cons] at this ⊢
      rw [this, Nat.add_mul, Nat.one_mul, List.take_append, List.take_of_length_le (l := x.cells) (by omega), show i * s + s - x.cells.length = i * s by omega]
      rw [List.drop_append, List.drop_eq_nil_of_le (as := x.cells) (by omega), List.nil_append, show i * s + s + s - x.cells.length = i * s + s by omega]
      simp [List.append_assoc]

theorem cells_of_one {v : AV} (h : v.one = true) : v.cells = [v] := by cases v <;> first | rfl | (simp [AV.one] at h)

theorem reElem_cells {y x : AV} {off n : Nat} (hn : x.cells.length = n) (h1 : x.cells.all AV.one = true) (hle : off + n ≤ y.cells.length) : (reElem y off x.cells).cells = splice y.cells off x.cells := by
  cases y with
  | agg cs => rfl
  | _ =>
    simp only [AV.cells, List.length_singleton] at hle
    unfold reElem
    split
    · rename_i hx; cases hx
    · rename_i hne
      match hc : x.cells, hn with
      | [], hn => simp [splice, AV.cells]
      | [v], hn =>
        have hv : v.one = true := by have := List.all_eq_true.1 h1 v (by rw [hc]; simp); exact this
        have : off = 0 := by simp at hn; omega
        subst this
        show v.cells = splice _ 0 [v]
        rw [cells_of_one hv]; rfl
      | _ :: _ :: _, hn => simp at hn; omega

theorem take_drop_join {α : Type} (M : List α) {k s : Nat} (h : k ≤ s) : (M.take s).drop k ++ M.drop s = M.drop k := by
  have h1 : M.drop k = ((M.take s) ++ M.drop s).drop k := by rw [List.take_append_drop]
  rw [h1, List.drop_append]
  by_cases hs : s ≤ M.length
  · rw [show k - (M.take s).length = 0 by rw [List.length_take]; omega]; rfl
  · rw [List.drop_eq_nil_of_le (as := M) (by omega)]; simp
theorem splice_in {α : Type} (L : List α) (p s off n : Nat) (new : List α) (h : off + n ≤ s) : L.take p ++ (((L.drop p).take s).take off ++ new ++ ((L.drop p).take s).drop (off + n)) ++ L.drop (p + s) = L.take (p + off) ++ new ++ L.drop (p + off + n) := by
  have e1 : L.drop (p + s) = (L.drop p).drop s := by rw [List.drop_drop]
  have e2 : L.drop (p + off + n) = (L.drop p).drop (off + n) := by rw [List.drop_drop, Nat.add_assoc]
  rw [List.take_take, Nat.min_eq_left (by omega), List.take_add, e1, e2, ← take_drop_join (L.drop p) h]
  simp only [List.append_assoc]
theorem take_splice {α : Type} (L new : List α) (q m N : Nat) (h : q + m ≤ N) (hN : N ≤ L.length) (hl : new.length = m) : (L.take q ++ new ++ L.drop (q + m)).take N = (L.take N).take q ++ new ++ (L.take N).drop (q + m) := by
  rw [List.take_append, List.take_of_length_le (by rw [List.length_append, List.length_take]; omega), List.take_take, Nat.min_eq_left (by omega)]
  congr 1
  rw [List.length_append, List.length_take, hl, List.take_drop]
  congr 2; omega

theorem cells_data {x : AV} (h : x.data = true) : ∀ c, c ∈ x.cells → c.data = true := by
  cases x with
  | agg cs =>
    have h' : AV.data.go cs = true := by simpa [AV.data] using h
    intro c hc
    have hc : c ∈ cs := hc
    clear h
    induction cs with
    | nil => cases hc
    | cons d ds ih =>
      unfold AV.data.go at h'
      split at h'
      · rename_i hd
        rcases List.mem_cons.1 hc with rfl | hc
        · exact hd
        · exact ih h' hc hc
      · cases h'
  | _ => intro c hc; simp only [AV.cells, List.mem_singleton] at hc; subst hc; exact h

theorem op_storeR (R : Rel base h E) (hP : E.P = P) {o : Oper} {ty : TypeId} {p x : Operand} (ho : o.op = .store ty p x) (hi : (P.info? ty).isSome = true) {xa : AV} (hxv : VL E [xa] [a.eval x])
    (hn : xa.cells.length = P.cellsOf ty) (h1 : xa.cells.all AV.one = true) {k g : Nat} {i : Int} {off : Nat} (hpv : VL E [.rptr k g i off] [a.eval p]) {e : TypeId} {xs : List AV} (hr : rowOf h k g = some (e, false, xs)) {y : AV} (hy : Ops.std.lget xs i = some y) (hxd : xa.data = true) (hle : off + P.cellsOf ty ≤ y.cells.length) :
    Comes1 P base o a h E .bad (h.set k (.row e g false (Ops.std.lset xs i (reElem y off xa.cells)))) := by
  obtain ⟨hkn, hgt, hpe⟩ := hpv.rptr_inv
  have hcv := cells_vl hxv h1
  have hcd := data_cells (data_dl hxv hxd)
  have ho1 := hcv.one_cells (fun c hc => by simpa using List.all_eq_true.1 h1 c hc)
  have hk := rowOf_some hr
  obtain ⟨hgen, htop, hesz, hsx, olds, hrow, hdx, honex⟩ := R.ent k _ hk
  obtain ⟨b, hhead, hpv'⟩ := hpe hgen
  obtain ⟨hi0, hyi⟩ := lget_some hy
  have hilt : i.toNat < xs.length := (List.getElem?_eq_some_iff.1 hyi).1
  have hys : y.cells.length = E.P.cellsOf e := hsx y (List.mem_of_getElem? hyi)
  subst hP
  rcases hrow.2 with ⟨hn0, _⟩ | ⟨b0, cap, cur, hc0, ha, hbb, hh, hlec, hmx, hcs, htk⟩
  · omega
  · obtain ⟨n', c', ha'⟩ := hhead
    rw [ha] at ha'
    injection ha' with hab _ _
    injection hab with hab
    injection hab with hbb' _ _
    subst hbb'
    have hsz : (a.eval x).cells.size = E.P.cellsOf ty := by rw [← hn, ← hcv.length]; simp
    have hblk0 : rowBlk (E.row k) = some b0 := by
      rw [ha]
      cases cap with
      | zero => omega
      | succ c' => rfl
    have hbk : blkOf E h k = some b0 := (blkOf_of hk).trans hblk0
    have hpos : i.toNat * E.P.cellsOf e + off + E.P.cellsOf ty ≤ xs.length * E.P.cellsOf e := by
      have h2 : (i.toNat + 1) * E.P.cellsOf e ≤ xs.length * E.P.cellsOf e := Nat.mul_le_mul_right _ hilt
      rw [Nat.add_mul, Nat.one_mul] at h2
      omega
    have hcl : cur.toList.length = cap * E.P.cellsOf e := by simpa using hcs
    have hcap : xs.length * E.P.cellsOf e ≤ cap * E.P.cellsOf e := Nat.mul_le_mul_right _ hlec
    generalize hpp : i.toNat * E.P.cellsOf e + off = q at *
    have run := run_storeVar (P := E.P) (w := E.w) (ty := ty) hi (b := b0) (o := q) hh (v := a.eval x) hsz (by rw [hsz, hcs]; omega) ho1
    have hnl : (a.eval x).cells.toList.length = E.P.cellsOf ty := by rw [hcv.length, hn]
    have hnew : (reElem y off xa.cells).cells.length = E.P.cellsOf e := by rw [reElem_cells hn h1 hle, splice_length (by omega), hys]
    have hfl : flat (xs.set i.toNat (reElem y off xa.cells)) = (flat xs).take q ++ xa.cells ++ (flat xs).drop (q + E.P.cellsOf ty) := by
      rw [flat_set hsx i.toNat _ hilt hnew, reElem_cells hn h1 hle]
      have hfa := flat_at hsx i.toNat y hyi
      have hfll : (flat xs).length = xs.length * E.P.cellsOf e := flat_len hsx
      rw [← hfa]
      simp only [splice, hn]
      rw [splice_in _ _ _ _ _ _ (by omega), hpp]
    have hdl' : DL E.P E.w E.own (flat (xs.set i.toNat (reElem y off xa.cells))) (olds.take q ++ (a.eval x).cells.toList ++ olds.drop (q + E.P.cellsOf ty)) := by
      rw [hfl]; exact ((hdx.take q).append hcd).append (hdx.drop _)
    have hol := hrow.1
    obtain ⟨R', S'⟩ := rel_write R hbk (cur.toList.take q ++ (a.eval x).cells.toList ++ cur.toList.drop (q + (a.eval x).cells.toList.length)).toArray (.row e g false (xs.set i.toNat (reElem y off xa.cells))) hblk0 (by
      refine ⟨hgen, htop, hesz, fun z hz => ?_, olds.take q ++ (a.eval x).cells.toList ++ olds.drop (q + E.P.cellsOf ty), ?_, hdl'.step (ext_write R hbk _), fun u hu => ?_⟩
      · rcases List.mem_or_eq_of_mem_set hz with hz | rfl
        · exact hsx z hz
        · exact hnew
      · refine ⟨by simp only [List.length_append, List.length_take, List.length_drop, List.length_set, hol, hnl]; omega, .inr ⟨b0, cap, _, hc0, by rw [List.length_set]; exact ha, hbb, setRow_heap E.w b0 cur _ e (0, 0) hh, by rw [List.length_set]; exact hlec, hmx, ?_, ?_⟩⟩
        · simp only [List.size_toArray, List.length_append, List.length_take, List.length_drop, hcl, hnl]; omega
        · rw [List.length_set, ← htk, hnl]
          exact take_splice cur.toList (a.eval x).cells.toList q (E.P.cellsOf ty) (xs.length * E.P.cellsOf e) hpos (by omega) hnl
      · rcases List.mem_append.1 hu with hu | hu
        · rcases List.mem_append.1 hu with hu | hu
          · exact honex u (List.mem_of_mem_take hu)
          · exact ho1 u hu
        · exact honex u (List.mem_of_mem_drop hu))
    refine ⟨undef, _, .inr ⟨?_, rfl⟩, R', S', .bad .nil⟩
    rw [hesz, hpp] at hpv'
    simp only [execOp, ho, hpv', Instr.storeAt, Instr.sureAddr, Sem.run_bind, Sem.run_pure, Result.andThen_ok, run]
end
end Go.Ab
