/- append, and stores into rows. -/
import Derived.Test.YtcnohiofldkcoabAbAct
namespace Go.Ab
open Go
set_option linter.unusedSimpArgs false
set_option linter.unusedVariables false

section
variable {P : Program} {w : World}

theorem run_append_zero {ty rt e : TypeId} (ht : P.underlying ty = some (.slice e)) (hi : (P.info? e).isSome = true) (bd ad : Option Addr) (n cap c : Nat) (hc : n ≤ cap) :
    (Builtin.append_ #[ty, ty] rt #[.slice bd n cap, .slice ad 0 c]).run P w = .ok (.slice bd n cap) w := by
  have h1 := run_sizeOf (P := P) (w := w) hi
  have hf : ∀ size, (Builtin.firstCells size 0 (.slice ad 0 c)).run P w = .ok #[] w := fun size => by
    cases ad with
    | none => simp [Builtin.firstCells]
    | some b => simp [Builtin.firstCells, loadCells, loadCellsFrom]
  cases bd with
  | none => simp [Builtin.append_, run_underlying ht, h1, Builtin.lenOf, hc, hf]
  | some b => simp [Builtin.append_, run_underlying ht, h1, Builtin.lenOf, hc, hf, storeCells]

theorem run_append_grows {ty rt e : TypeId} (ht : P.underlying ty = some (.slice e)) {z : AV} (hz : zeroOf P e = some z) (hsz : 0 < P.cellsOf e) {bd ad : Option Addr} {n cap m c : Nat} (hnone : bd = none → cap = 0 ∧ n = 0) {olds news : List Value} (hol : olds.length = n * P.cellsOf e) (hnl : news.length = m * P.cellsOf e)
    (ho : ∀ j u, olds[j]? = some u → ∃ b o, bd = some ⟨b, o, none⟩ ∧ w.cell? ⟨b, o + j, none⟩ = some u) (hn : ∀ j u, news[j]? = some u → ∃ b o, ad = some ⟨b, o, none⟩ ∧ w.cell? ⟨b, o + j, none⟩ = some u) (hm : 0 < m) (hg : cap < n + m)
    (hb : (n + m) * P.bytesOf e ≤ 140737488355328) (hl : n + m ≤ maxLen) :
    ∃ C cap', (Builtin.append_ #[ty, ty] rt #[.slice bd n cap, .slice ad m c]).run P w = .ok (.slice (some ⟨w.heap.size, 0, none⟩) (n + m) cap') (w.drew.alloc (.cells C e)) ∧ n + m ≤ cap' ∧ cap' ≤ maxLen ∧ C.size = cap' * P.cellsOf e ∧ C.toList.take ((n + m) * P.cellsOf e) = olds ++ news := by
  obtain ⟨i, zv, hi, hzv, hzs, _, _⟩ := zeroOf_some (E := (⟨P, w, 0, fun _ => none, fun _ => 0, fun _ => 0, fun _ => undef, fun _ => 0, fun _ => False⟩ : Env)) hz
  have his : P.cellsOf e = i.size := by simp [Program.cellsOf, hi]
  have hib : P.bytesOf e = i.bytes := by simp [Program.bytesOf, hi]
  rw [his] at hsz hol hnl hzs ⊢
  rw [hib] at hb
  have hm63 : ((n + m : Nat) : Int) ≤ 9223372036854775807 := by simp only [maxLen] at hl; omega
  have hfit : Builtin.nextslicecap (n + m) cap * i.bytes ≤ 281474976710656 := growslice_fits hg hb
  have hne : ∃ u, news[0]? = some u := ⟨news[0]'(by rw [hnl]; exact Nat.mul_pos hm hsz), List.getElem?_eq_getElem _⟩
  obtain ⟨u, hu⟩ := hne
  obtain ⟨b, o, rfl, _⟩ := hn 0 u hu
  have hnews : ∀ j v, news[j]? = some v → w.cell? ((⟨b, o, none⟩ : Addr).add j) = some v := fun j v hj => by
    obtain ⟨b', o', hab, hc⟩ := hn j v hj
    injection hab with hab
    injection hab with e1 e2 _
    subst e1 e2
    rw [add_none]; exact hc
  have hge := grownCap_ge w (n + m) cap e
  have hle := grownCap_le_maxLen w (n + m) cap e hl
  cases bd with
  | none =>
    obtain ⟨rfl, rfl⟩ := hnone rfl
    have hol0 : olds = [] := List.eq_nil_of_length_eq_zero (by simpa using hol)
    subst hol0
    simp only [Nat.zero_add] at hm63 hfit hge hle hb hl ⊢
    have hr := run_append_nil (P := P) w ty rt e i zv ht hi hzv ⟨b, o, none⟩ m c news hnl hnews hm hm63 (by omega)
    refine ⟨_, _, hr, hge, hle, ?_, ?_⟩
    · simp only [Array.size_append, List.size_toArray, size_zeroCells, hzs, hnl, ← Nat.add_mul]
      congr 1; omega
    · simp only [Array.toList_append, List.nil_append]
      rw [← hnl]; exact List.take_left
  | some bA =>
    have holds : ∀ j v, olds[j]? = some v → w.cell? (bA.add j) = some v := fun j v hj => by
      obtain ⟨b', o', hab, hc⟩ := ho j v hj
      injection hab with hab
      subst hab
      rw [add_none]; exact hc
    have hr := run_append_grow (P := P) w ty rt e i zv ht hi hzv bA n cap olds hol holds ⟨b, o, none⟩ m c news hnl hnews hg hm63 hfit
    refine ⟨_, _, hr, hge, hle, ?_, ?_⟩
    · simp only [Array.size_append, List.size_toArray, size_zeroCells, hzs, hnl, hol, ← Nat.add_mul]
      congr 1; omega
    · simp only [Array.toList_append]
      have hlen : (olds ++ news).length = (n + m) * i.size := by rw [List.length_append, hol, hnl, Nat.add_mul]
      rw [← hlen]; exact List.take_left
end

section
variable {P : Program} {base : Nat} {h : Store} {E : Env} {t : List AV} {a : Act}

theorem room_std {bytes : Nat} {xs ys : List AV} (h : Ops.std.room bytes xs ys = true) : (xs.length + ys.length) * bytes ≤ 140737488355328 ∧ xs.length + ys.length ≤ maxLen := by
  simpa [Ops.std] using h

theorem drew_free (R : Rel base h E) : Rel base h { E with w := E.w.drew } ∧ Step h E h { E with w := E.w.drew } := by
  have hx : Ext E { E with w := E.w.drew } := ⟨rfl, Nat.le_refl _, fun _ _ => Nat.le_refl _, fun _ _ _ _ h => ⟨h, rfl, rfl⟩, fun _ _ => rfl, fun a v ho hc => ⟨ho, hc⟩⟩
  refine ⟨⟨R.n, R.le, fun k e he => (R.ent k e he).step hx ⟨rfl, rfl, rfl, rfl, rfl⟩ (fun b hb => rfl), R.nogen, R.own, R.inj, R.lt⟩, ⟨hx, rfl, rfl, rfl, Nat.le_refl _, fun _ _ _ => rfl, fun _ h => .inl h, fun _ h _ => h, fun k _ h => .inl ⟨k, h⟩⟩⟩

/-- A row of the store gets a new value, in a world in which its old block, or a new one, has changed. -/
theorem row_new (R : Rel base h E) {k g : Nat} {e : TypeId} {xs : List AV} (hk : h[k]? = some (.row e g false xs)) {w' : World} {v' : Value} {xs' : List AV} {vals' : List Value} (hos : w'.os = E.w.os) (htape : w'.tape = E.w.tape) (hout : w'.output = E.w.output) (hsz : E.w.heap.size ≤ w'.heap.size)
    (hheap : ∀ b, b < E.w.heap.size → rowBlk (E.row k) ≠ some b → w'.heap[b]? = E.w.heap[b]?) (hblk : ∀ b, rowBlk v' = some b → (rowBlk (E.row k) = some b ∨ E.w.heap.size ≤ b) ∧ b < w'.heap.size)
    (hrow : RowAt base w' e (E.P.cellsOf e) v' xs'.length vals') (h1 : v'.oneCell' = true) (hs : ∀ x, x ∈ xs' → x.cells.length = E.P.cellsOf e) (hone : ∀ u, u ∈ vals' → u.oneCell' = true) (hdl : DL E.P E.w E.own (flat xs') vals') :
    ∃ E', E'.w = w' ∧ Rel base (h.set k (.row e (g + 1) false xs')) E' ∧ Step h E (h.set k (.row e (g + 1) false xs')) E' ∧ VL E' [.sl k (g + 1)] [v'] := by
  have hkl : k < h.length := (List.getElem?_eq_some_iff.1 hk).1
  obtain ⟨hgen, htop, hesz, _⟩ := R.ent k _ hk
  let E' : Env := { E with w := w', gen := fun j => if j = k then some (g + 1) else E.gen j, top := fun j => if j = k then g + 1 else E.top j, row := fun j => if j = k then v' else E.row j, own := fun b => (E.own b ∧ rowBlk (E.row k) ≠ some b) ∨ rowBlk v' = some b }
  have hbk : blkOf E h k = rowBlk (E.row k) := blkOf_of hk
  have hheap' : ∀ b, b < E.w.heap.size → (∀ j, blkOf E h j ≠ some b) → w'.heap[b]? = E.w.heap[b]? := fun b hb hn => hheap b hb (by rw [← hbk]; exact hn k)
  have hfresh : ∀ b, E'.own b → E.own b ∨ E.w.heap.size ≤ b := fun b hb => by
    rcases hb with ⟨h, _⟩ | h
    · exact .inl h
    · rcases (hblk b h).1 with h | h
      · exact .inl (R.own k b (by rw [hbk]; exact h))
      · exact .inr h
  have hx : Ext E E' := ⟨rfl, Nat.le_refl _, fun j hj => by
      show E.top j ≤ if j = k then g + 1 else E.top j
      split
      · rename_i e; subst e; rw [htop]; omega
      · exact Nat.le_refl _, fun j g' hj hg' hc => by
      have hc' : (if j = k then some (g + 1) else E.gen j) = some g' := hc
      show E.gen j = some g' ∧ (if j = k then v' else E.row j) = E.row j ∧ E.esz j = E.esz j
      by_cases e : j = k
      · subst e
        rw [if_pos rfl] at hc'
        cases hc'
        rw [htop] at hg'; omega
      · rw [if_neg e] at hc'
        exact ⟨hc', if_neg e, rfl⟩, fun _ _ => rfl, keep_of R hheap' hfresh⟩
  have hrk : E'.row k = v' := if_pos rfl
  have hro : ∀ j, j ≠ k → E'.row j = E.row j := fun j hj => if_neg hj
  have hbo : ∀ j, j ≠ k → blkOf E' (h.set k (.row e (g + 1) false xs')) j = blkOf E h j := fun j hj => by
    unfold blkOf; rw [List.getElem?_set_ne (Ne.symm hj)]
    cases h[j]? with
    | none => rfl
    | some e' => exact entBlk_same (E := E) (E' := E') (k := j) (hro j hj) rfl e'
  have hbk' : blkOf E' (h.set k (.row e (g + 1) false xs')) k = rowBlk v' := by
    rw [blkOf_of (List.getElem?_set_self hkl)]
    show rowBlk (E'.row k) = _
    rw [hrk]
  have S : Step h E (h.set k (.row e (g + 1) false xs')) E' := ⟨hx, hos, htape, hout, hsz, hheap', hfresh, fun b hb hn => .inl ⟨hb, by rw [← hbk]; exact hn k⟩, fun j b hj => by
      by_cases ej : j = k
      · subst ej; rw [hbk'] at hj
        rcases (hblk b hj).1 with h | h
        · exact .inl ⟨j, by rw [hbk]; exact h⟩
        · exact .inr h
      · rw [hbo j ej] at hj; exact .inl ⟨j, hj⟩⟩
  refine ⟨E', rfl, Rel.upd k (.row e (g + 1) false xs') R S (by simp; exact R.n) (by simp) (List.getElem?_set_self hkl) (fun j hj => List.getElem?_set_ne (Ne.symm hj)) (fun j hj => ⟨if_neg hj, if_neg hj, rfl, hro j hj, rfl⟩) (fun j hj b hjb => ?_) ?_ (fun b hb => ?_) (fun b hb => ?_), S, ?_⟩
  · have hne : rowBlk (E.row k) ≠ some b := fun hc => hj (R.inj j k b hjb (by rw [hbk]; exact hc))
    exact ⟨hheap b (blk_lt R hjb) hne, .inl ⟨R.own j b hjb, hne⟩⟩
  · exact ⟨if_pos rfl, if_pos rfl, hesz, hs, vals', by rw [hrk]; exact hrow, hdl.step hx, hone⟩
  · rw [hbk'] at hb
    refine ⟨.inr hb, fun j hj hjb => ?_⟩
    rcases (hblk b hb).1 with h | h
    · exact hj (R.inj j k b hjb (by rw [hbk]; exact h))
    · have := blk_lt R hjb; omega
  · rcases hb with ⟨hb, _⟩ | hb
    · exact Nat.lt_of_lt_of_le (R.lt b hb) hsz
    · exact (hblk b hb).2
  · refine .sl (by show k < E.n; rw [R.n]; exact hkl) ?_ h1 (fun _ => hrk.symm) .nil
    show g + 1 ≤ if k = k then g + 1 else E.top k
    rw [if_pos rfl]; exact Nat.le_refl _
/-- A row that begins. -/
theorem row_fresh (R : Rel base h E) {e : TypeId} {w' : World} {v' : Value} {xs' : List AV} {vals' : List Value} (hos : w'.os = E.w.os) (htape : w'.tape = E.w.tape) (hout : w'.output = E.w.output) (hsz : E.w.heap.size ≤ w'.heap.size)
    (hheap : ∀ b, b < E.w.heap.size → w'.heap[b]? = E.w.heap[b]?) (hblk : ∀ b, rowBlk v' = some b → E.w.heap.size ≤ b ∧ b < w'.heap.size)
    (hrow : RowAt base w' e (E.P.cellsOf e) v' xs'.length vals') (h1 : v'.oneCell' = true) (hs : ∀ x, x ∈ xs' → x.cells.length = E.P.cellsOf e) (hone : ∀ u, u ∈ vals' → u.oneCell' = true) (hdl : DL E.P E.w E.own (flat xs') vals') :
    ∃ E', E'.w = w' ∧ Rel base (h ++ [.row e 0 false xs']) E' ∧ Step h E (h ++ [.row e 0 false xs']) E' ∧ VL E' [.sl h.length 0] [v'] := by
  let E' : Env := { E with w := w', n := E.n + 1, gen := fun j => if j = h.length then some 0 else E.gen j, top := fun j => if j = h.length then 0 else E.top j, esz := fun j => if j = h.length then E.P.cellsOf e else E.esz j, row := fun j => if j = h.length then v' else E.row j, own := fun b => E.own b ∨ rowBlk v' = some b }
  have hheap' : ∀ b, b < E.w.heap.size → (∀ j, blkOf E h j ≠ some b) → w'.heap[b]? = E.w.heap[b]? := fun b hb _ => hheap b hb
  have hfresh : ∀ b, E'.own b → E.own b ∨ E.w.heap.size ≤ b := fun b hb => by
    rcases hb with h | h
    · exact .inl h
    · exact .inr (hblk b h).1
  have hx : Ext E E' := ⟨rfl, Nat.le_succ _, fun j hj => by
      show E.top j ≤ if j = h.length then 0 else E.top j
      rw [if_neg (by rw [R.n] at hj; omega)]; exact Nat.le_refl _, fun j g' hj hg' hc => by
      have hne : j ≠ h.length := by rw [R.n] at hj; omega
      have hc' : (if j = h.length then some 0 else E.gen j) = some g' := hc
      rw [if_neg hne] at hc'
      exact ⟨hc', if_neg hne, if_neg hne⟩, fun _ _ => rfl, keep_of R hheap' hfresh⟩
  have hrk : E'.row h.length = v' := if_pos rfl
  have hro : ∀ j, j ≠ h.length → E'.row j = E.row j := fun j hj => if_neg hj
  have hbo : ∀ j, j ≠ h.length → blkOf E' (h ++ [.row e 0 false xs']) j = blkOf E h j := fun j hj => by
    unfold blkOf
    by_cases hlt : j < h.length
    · rw [List.getElem?_append_left hlt]
      cases h[j]? with
      | none => rfl
      | some e' => exact entBlk_same (E := E) (E' := E') (k := j) (hro j hj) rfl e'
    · rw [List.getElem?_eq_none (by simp; omega), List.getElem?_eq_none (by omega)]; rfl
  have hnew : blkOf E' (h ++ [.row e 0 false xs']) h.length = rowBlk v' := by
    rw [blkOf_of (e := .row e 0 false xs') (by simp)]
    show rowBlk (E'.row h.length) = _
    rw [hrk]
  have S : Step h E (h ++ [.row e 0 false xs']) E' := ⟨hx, hos, htape, hout, hsz, hheap', hfresh, fun b hb _ => .inl hb, fun j b hj => by
      by_cases ej : j = h.length
      · subst ej; rw [hnew] at hj; exact .inr (hblk b hj).1
      · rw [hbo j ej] at hj; exact .inl ⟨j, hj⟩⟩
  refine ⟨E', rfl, Rel.upd h.length (.row e 0 false xs') R S (by simp [E', R.n]) (by simp) (by simp) (fun j hj => ?_) (fun j hj => ⟨if_neg hj, if_neg hj, if_neg hj, hro j hj, rfl⟩) (fun j hj b hjb => ⟨hheap b (blk_lt R hjb), .inl (R.own j b hjb)⟩) ?_ (fun b hb => ?_) (fun b hb => ?_), S, ?_⟩
  · by_cases hlt : j < h.length
    · exact List.getElem?_append_left hlt
    · rw [List.getElem?_eq_none (by simp; omega), List.getElem?_eq_none (by omega)]
  · exact ⟨if_pos rfl, if_pos rfl, if_pos rfl, hs, vals', by rw [hrk]; exact hrow, hdl.step hx, hone⟩
  · rw [hnew] at hb
    exact ⟨.inr hb, fun j hj hjb => by have := blk_lt R hjb; have := (hblk b hb).1; omega⟩
  · rcases hb with hb | hb
    · exact Nat.lt_of_lt_of_le (R.lt b hb) hsz
    · exact (hblk b hb).2
  · refine .sl (by show h.length < E.n + 1; rw [R.n]; omega) ?_ h1 (fun _ => hrk.symm) .nil
    show 0 ≤ _
    exact Nat.zero_le _

theorem flat_append (xs ys : List AV) : flat (xs ++ ys) = flat xs ++ flat ys := by simp [flat]

/-- What append does when it makes room anew: the block that it makes. -/
theorem alloc_row {base : Nat} {w : World} {C : Array Value} {e : TypeId} {size n cap : Nat} {vals : List Value} (hb : base ≤ w.heap.size) (h0 : 0 < n) (hn : n ≤ cap) (hm : cap ≤ maxLen) (hsz : C.size = cap * size) (ht : C.toList.take (n * size) = vals) (hl : vals.length = n * size) :
    RowAt base (w.drew.alloc (.cells C e)) e size (.slice (some ⟨w.heap.size, 0, none⟩) n cap) n vals :=
  ⟨hl, .inr ⟨w.heap.size, cap, C, by omega, rfl, hb, heap_alloc_new w.drew _, hn, hm, hsz, ht⟩⟩

section
variable {o : Oper} {ty e : TypeId} {x y : Operand} {args : Array Operand} {tys : Array TypeId} {x' y' : Od} {z : AV} {ys : List AV}

theorem app_run (ho : o.op = .call { callee := .builtin .append, args, argTypes := tys }) (hargs : args.toList = [x, y]) (htys : tys.toList = [ty, ty]) {v : Value} {w w' : World} (hr : (Builtin.append_ #[ty, ty] o.type #[a.eval x, a.eval y]).run P w = .ok v w') : (execOp a.eval o).run P w = .ok (.value v) w' := by
  have ea : args = #[x, y] := Array.ext' hargs
  have et : tys = #[ty, ty] := Array.ext' htys
  subst ea et
  simp [execOp, ho, resolve, invoke, builtin, hr]

/-- append to nothing. -/
theorem op_app0 (R : Rel base h E) (hP : E.P = P) (ht : VL E t a.tmps.toList) (ho : o.op = .call { callee := .builtin .append, args, argTypes := tys }) (hargs : args.toList = [x, y]) (htys : tys.toList = [ty, ty]) (hs : P.underlying ty = some (.slice e)) (hz : zeroOf P e = some z) (h0 : 0 < P.cellsOf e)
    (hx : cmpOd x = some x') (hy : cmpOd y = some y') (hys : elemsOf Ops.std h (od t y') = some ys) (hsize : ∀ x, x ∈ ys → x.cells.length = P.cellsOf e) {e' : TypeId} (hlit : od t x' = .lit e' true []) (hroom : Ops.std.room (P.bytesOf e) [] ys = true) :
    Comes1 P base o a h E (.sl h.length 0) (h ++ [.row e 0 false ys]) := by
  have hxv := od_vl ht hx
  rw [hlit] at hxv
  obtain ⟨bd, cap, _, hv, _, _, hf, _⟩ := hxv.lit_inv.lit_inv
  have hcap : cap = 0 := hf rfl
  subst hcap
  obtain ⟨ad, c, news, hyv, hc, hm, hd, hone, _, hrd⟩ := elems_vl R (od_vl ht hy) hys
  obtain ⟨hb, hl⟩ := room_std hroom
  have hinfo : (P.info? e).isSome = true := by obtain ⟨i, _, hi, _⟩ := zeroOf_some (E := E) hz; rw [hi]; rfl
  subst hP
  have hnl : news.length = ys.length * E.P.cellsOf e := by rw [hd.length, flat_len hsize]
  simp only [List.length_nil, Nat.zero_add] at hb hl
  by_cases hm0 : ys.length = 0
  · have hyn : ys = [] := List.eq_nil_of_length_eq_zero hm0
    subst hyn
    have hr := run_append_zero (w := E.w) (rt := o.type) hs hinfo bd ad 0 0 c (Nat.le_refl _)
    obtain ⟨E', hw, R', S, V⟩ := row_fresh (base := base) R (e := e) (w' := E.w) (v' := .slice bd 0 0) (xs' := []) (vals' := []) rfl rfl rfl (Nat.le_refl _) (fun _ _ => rfl) (fun b hb => by cases bd <;> simp [rowBlk] at hb)
      ⟨by simp, .inl ⟨rfl, bd, rfl⟩⟩ rfl (fun x hx => by cases hx) (fun u hu => by cases hu) .nil
    refine ⟨_, E', .inl ?_, R', S, V⟩
    rw [hw]
    exact app_run ho hargs htys (by rw [hv, hyv]; exact hr)
  · obtain ⟨C, cap', hr, hge, hle, hcs, htk⟩ := run_append_grows (w := E.w) (ty := ty) (rt := o.type) hs hz h0 (bd := bd) (ad := ad) (n := 0) (cap := 0) (m := ys.length) (c := c) (fun _ => ⟨rfl, rfl⟩) (olds := []) (news := news) (by simp) hnl (fun j u hu => by cases hu) hrd (by omega) (by omega) (by simpa using hb) (by simpa using hl)
    simp only [Nat.zero_add] at hr hge htk
    obtain ⟨E', hw, R', S, V⟩ := row_fresh (base := base) R (e := e) (w' := E.w.drew.alloc (.cells C e)) (v' := .slice (some ⟨E.w.heap.size, 0, none⟩) ys.length cap') (xs' := ys) (vals' := news) rfl rfl rfl (by simp) (fun b hb => heap_alloc_old E.w.drew _ b hb)
      (fun b hb => by
        cases cap' with
        | zero => simp [rowBlk] at hb
        | succ c' => simp [rowBlk] at hb; subst hb; simp)
      (alloc_row R.le (by omega) hge hle hcs (by simpa using htk) hnl) rfl hsize hone hd
    refine ⟨_, E', .inl ?_, R', S, V⟩
    rw [hw]
    exact app_run ho hargs htys (by rw [hv, hyv]; exact hr)

/-- append to a list that is only read, and that has no room. -/
theorem op_app1 (R : Rel base h E) (hP : E.P = P) (ht : VL E t a.tmps.toList) (ho : o.op = .call { callee := .builtin .append, args, argTypes := tys }) (hargs : args.toList = [x, y]) (htys : tys.toList = [ty, ty]) (hs : P.underlying ty = some (.slice e)) (hz : zeroOf P e = some z) (h0 : 0 < P.cellsOf e)
    (hx : cmpOd x = some x') (hy : cmpOd y = some y') (hys : elemsOf Ops.std h (od t y') = some ys) (hsize : ∀ x, x ∈ ys → x.cells.length = P.cellsOf e) {xs : List AV} (hlit : od t x' = .lit e true xs) (hroom : Ops.std.room (P.bytesOf e) xs ys = true) :
    Comes1 P base o a h E (.lit e false (xs ++ ys)) h := by
  have hxv := od_vl ht hx
  rw [hlit] at hxv
  have hlv := hxv.lit_inv
  obtain ⟨bd, cap, olds, hv, hcx, hmx, hf, hsx, hdx, honex, hrdx⟩ := hlv.lit_inv
  have hcap : cap = xs.length := hf rfl
  subst hcap
  obtain ⟨ad, c, news, hyv, hc, hm, hd, hone, _, hrd⟩ := elems_vl R (od_vl ht hy) hys
  obtain ⟨hb, hl⟩ := room_std hroom
  have hinfo : (P.info? e).isSome = true := by obtain ⟨i, _, hi, _⟩ := zeroOf_some (E := E) hz; rw [hi]; rfl
  subst hP
  have hnl : news.length = ys.length * E.P.cellsOf e := by rw [hd.length, flat_len hsize]
  have hol : olds.length = xs.length * E.P.cellsOf e := by rw [hdx.length, flat_len hsx]
  by_cases hm0 : ys.length = 0
  · have hyn : ys = [] := List.eq_nil_of_length_eq_zero hm0
    subst hyn
    have hr := run_append_zero (w := E.w) (rt := o.type) hs hinfo bd ad xs.length xs.length c (Nat.le_refl _)
    refine Comes1.same R (v' := .slice bd xs.length xs.length) (app_run ho hargs htys (by rw [hv, hyv]; exact hr)) (.data ?_ .nil)
    rw [List.append_nil]
    exact .lit (Nat.le_refl _) hmx (fun _ => rfl) hsx hdx honex hrdx .nil
  · have hnone : bd = none → xs.length = 0 ∧ xs.length = 0 := fun hbn => by
      have : xs.length = 0 := by
        rcases Nat.eq_zero_or_pos xs.length with h | h
        · exact h
        · obtain ⟨u, hu⟩ := elem_cell hsx h0 hdx.length h
          obtain ⟨_, _, hb, _⟩ := hrdx _ u hu
          rw [hbn] at hb; cases hb
      exact ⟨this, this⟩
    obtain ⟨C, cap', hr, hge, hle, hcs, htk⟩ := run_append_grows (w := E.w) (ty := ty) (rt := o.type) hs hz h0 (bd := bd) (ad := ad) (n := xs.length) (cap := xs.length) (m := ys.length) (c := c) hnone hol hnl (fun j u hu => by obtain ⟨b, o', h1, _, h2⟩ := hrdx j u hu; exact ⟨b, o', h1, h2⟩) hrd (by omega) (by omega) hb hl
    obtain ⟨R1, S1⟩ := drew_free R
    obtain ⟨R2, S2⟩ := alloc_free R1 (.cells C e)
    have S := S1.trans S2 R.lt
    refine ⟨_, _, .inl (app_run ho hargs htys (by rw [hv, hyv]; exact hr)), R2, S, .data ?_ .nil⟩
    rw [← List.length_append]
    refine .lit (by rw [List.length_append]; exact hge) hle (by intro h; cases h) (fun x hx => by
      rcases List.mem_append.1 hx with hx | hx
      · exact hsx x hx
      · exact hsize x hx) (vals := olds ++ news) (by rw [flat_append]; exact (hdx.step S.ext).append (hd.step S.ext)) (fun u hu => by
      rcases List.mem_append.1 hu with hu | hu
      · exact honex u hu
      · exact hone u hu) (fun j u hu => ⟨E.w.heap.size, 0, rfl, fun ho => by have := R.lt _ ho; omega, ?_⟩) .nil
    rw [← htk, List.getElem?_take] at hu
    split at hu
    · rw [Nat.zero_add]
      have : (E.w.drew.alloc (.cells C e)).cell? ⟨E.w.heap.size, j, none⟩ = C[j]? := cell_of_row _ _ j C e (0, 0) (heap_alloc_new E.w.drew _)
      exact this.trans (by simpa using hu)
    · cases hu

/-- append to a row. -/
theorem op_app2 (R : Rel base h E) (hP : E.P = P) (ht : VL E t a.tmps.toList) (ho : o.op = .call { callee := .builtin .append, args, argTypes := tys }) (hargs : args.toList = [x, y]) (htys : tys.toList = [ty, ty]) (hs : P.underlying ty = some (.slice e)) (hz : zeroOf P e = some z) (h0 : 0 < P.cellsOf e)
    (hx : cmpOd x = some x') (hy : cmpOd y = some y') (hys : elemsOf Ops.std h (od t y') = some ys) (hsize : ∀ x, x ∈ ys → x.cells.length = P.cellsOf e) {k g : Nat} {xs : List AV} (hsl : od t x' = .sl k g) (hr : rowOf h k g = some (e, false, xs)) (hroom : Ops.std.room (P.bytesOf e) xs ys = true) :
    Comes1 P base o a h E (.sl k (g + 1)) (h.set k (.row e (g + 1) false (xs ++ ys))) := by
  have hxv := od_vl ht hx
  rw [hsl] at hxv
  have hk := rowOf_some hr
  obtain ⟨hgen, htop, hesz, hsx, olds, hrow, hdx, honex⟩ := R.ent k _ hk
  have hv := hxv.sl_inv.2.2.2 hgen
  obtain ⟨ad, c, news, hyv, hc, hm, hd, hone, _, hrd⟩ := elems_vl R (od_vl ht hy) hys
  obtain ⟨hb, hl⟩ := room_std hroom
  have hinfo : (P.info? e).isSome = true := by obtain ⟨i, _, hi, _⟩ := zeroOf_some (E := E) hz; rw [hi]; rfl
  subst hP
  have hnl : news.length = ys.length * E.P.cellsOf e := by rw [hd.length, flat_len hsize]
  have hol := hrow.1
  have hsize' : ∀ x, x ∈ xs ++ ys → x.cells.length = E.P.cellsOf e := fun x hx => by
    rcases List.mem_append.1 hx with hx | hx
    · exact hsx x hx
    · exact hsize x hx
  have hone' : ∀ u, u ∈ olds ++ news → u.oneCell' = true := fun u hu => by
    rcases List.mem_append.1 hu with hu | hu
    · exact honex u hu
    · exact hone u hu
  have hdl' : DL E.P E.w E.own (flat (xs ++ ys)) (olds ++ news) := by rw [flat_append]; exact hdx.append hd
  have grow : ∀ bd cap, E.row k = .slice bd xs.length cap → xs.length ≤ cap → (bd = none → cap = 0 ∧ xs.length = 0) → (∀ j u, olds[j]? = some u → ∃ b o, bd = some ⟨b, o, none⟩ ∧ E.w.cell? ⟨b, o + j, none⟩ = some u) → 0 < ys.length → cap < xs.length + ys.length →
      Comes1 E.P base o a h E (.sl k (g + 1)) (h.set k (.row e (g + 1) false (xs ++ ys))) := fun bd cap he hcap hnone hro hy0 hgt => by
    obtain ⟨C, cap', hr, hge, hle, hcs, htk⟩ := run_append_grows (w := E.w) (ty := ty) (rt := o.type) hs hz h0 (bd := bd) (ad := ad) (n := xs.length) (cap := cap) (m := ys.length) (c := c) hnone hol hnl hro hrd hy0 hgt hb hl
    obtain ⟨E', hw, R', S, V⟩ := row_new (base := base) R hk (w' := E.w.drew.alloc (.cells C e)) (v' := .slice (some ⟨E.w.heap.size, 0, none⟩) (xs.length + ys.length) cap') (xs' := xs ++ ys) (vals' := olds ++ news) rfl rfl rfl (by simp) (fun b hb _ => heap_alloc_old E.w.drew _ b hb)
      (fun b hb => by
        cases cap' with
        | zero => simp [rowBlk] at hb
        | succ c' => simp [rowBlk] at hb; subst hb; exact ⟨.inr (Nat.le_refl _), by simp⟩)
      (by rw [List.length_append]; exact alloc_row R.le (by omega) hge hle hcs htk (by rw [List.length_append, hol, hnl, Nat.add_mul])) rfl hsize' hone' hdl'
    refine ⟨_, E', .inl ?_, R', S, V⟩
    rw [hw]
    exact app_run ho hargs htys (by rw [hv, he, hyv]; exact hr)
  by_cases hm0 : ys.length = 0
  · have hyn : ys = [] := List.eq_nil_of_length_eq_zero hm0
    subst hyn
    have hne : news = [] := List.eq_nil_of_length_eq_zero (by rw [hnl]; simp)
    subst hne
    have hrv : ∃ bd cap, E.row k = .slice bd xs.length cap ∧ xs.length ≤ cap := by
      rcases hrow.2 with ⟨hn, a', ha⟩ | ⟨g', cap, cur, _, ha, _, _, hle, _⟩
      · exact ⟨a', 0, by rw [ha, hn], by omega⟩
      · exact ⟨_, cap, ha, hle⟩
    obtain ⟨bd, cap, he, hle⟩ := hrv
    have hr0 := run_append_zero (w := E.w) (rt := o.type) hs hinfo bd ad xs.length cap c hle
    obtain ⟨E', hw, R', S, V⟩ := row_new (base := base) R hk (w' := E.w) (v' := E.row k) (xs' := xs ++ []) (vals' := olds ++ []) rfl rfl rfl (Nat.le_refl _) (fun _ _ _ => rfl) (fun b hb => ⟨.inl hb, blk_lt R (k := k) (by rw [blkOf_of hk]; exact hb)⟩)
      (by rw [List.append_nil, List.append_nil]; exact hrow) (by rw [he]; rfl) hsize' hone' hdl'
    refine ⟨_, E', .inl ?_, R', S, V⟩
    rw [hw]
    refine app_run ho hargs htys ?_
    rw [hv, hyv, he]; exact hr0
  · rcases hrow.2 with ⟨hn, a', ha⟩ | ⟨b0, cap, cur, hc0, ha, hbb, hh, hle, hmx, hcs, htk⟩
    · refine grow a' 0 (by rw [ha, hn]) (by omega) (fun _ => ⟨rfl, hn⟩) (fun j u hu => ?_) (by omega) (by omega)
      rw [hn, Nat.zero_mul] at hol
      rw [List.eq_nil_of_length_eq_zero hol] at hu; cases hu
    · by_cases hroomy : xs.length + ys.length ≤ cap
      · obtain ⟨i, zv, hi, hzv, hzs, _, _⟩ := zeroOf_some (E := E) hz
        have his : E.P.cellsOf e = i.size := by simp [Program.cellsOf, hi]
        have hne : ∃ u, news[0]? = some u := ⟨news[0]'(by rw [hnl]; exact Nat.mul_pos (by omega) h0), List.getElem?_eq_getElem _⟩
        obtain ⟨u0, hu0⟩ := hne
        obtain ⟨b1, o1, rfl, _⟩ := hrd 0 u0 hu0
        have hnews : ∀ j v, news[j]? = some v → E.w.cell? ((⟨b1, o1, none⟩ : Addr).add j) = some v := fun j v hj => by
          obtain ⟨b', o', hab, hc'⟩ := hrd j v hj
          injection hab with hab
          injection hab with e1 e2 _
          subst e1 e2
          rw [add_none]; exact hc'
        have hfit : xs.length * i.size + news.length ≤ cur.size := by
          rw [hcs, hnl, ← his, ← Nat.add_mul]; exact Nat.mul_le_mul_right _ hroomy
        have hra := run_append_room (P := E.P) E.w ty o.type e i hs hi b0 xs.length cap cur hh ⟨b1, o1, none⟩ ys.length c news (by rw [hnl, his]) hnews hone hroomy hfit
        have hblk0 : rowBlk (E.row k) = some b0 := by
          rw [ha]
          cases cap with
          | zero => omega
          | succ c' => rfl
        have hbk : blkOf E h k = some b0 := (blkOf_of hk).trans hblk0
        have hrv' : rowBlk (.slice (some ⟨b0, 0, none⟩) (xs.length + ys.length) cap) = some b0 := by
          cases cap with
          | zero => omega
          | succ c' => rfl
        obtain ⟨E', hw, R', S, V⟩ := row_new (base := base) R hk (w' := E.w.setRow b0 (cur.toList.take (xs.length * i.size) ++ news ++ cur.toList.drop (xs.length * i.size + news.length)).toArray) (v' := .slice (some ⟨b0, 0, none⟩) (xs.length + ys.length) cap) (xs' := xs ++ ys) (vals' := olds ++ news) rfl rfl rfl (by simp)
          (fun b _ hne => setRow_other E.w b0 b _ (fun e => hne (by rw [hblk0, e])))
          (fun b hb => by rw [hrv'] at hb; cases hb; exact ⟨.inl hblk0, by simp; exact blk_lt R hbk⟩)
          (by
            refine ⟨by rw [List.length_append, List.length_append, hol, hnl, Nat.add_mul], .inr ⟨b0, cap, _, hc0, by rw [List.length_append], hbb, setRow_heap E.w b0 cur _ e (0, 0) hh, by rw [List.length_append]; exact hroomy, hmx, ?_, ?_⟩⟩
            · have hc3 : cur.toList.length = cap * E.P.cellsOf e := by simpa using hcs
              simp only [List.size_toArray, List.length_append, List.length_take, List.length_drop, hc3]
              rw [← his] at hfit ⊢
              rw [hcs] at hfit
              omega
            · have hl1 : (cur.toList.take (xs.length * i.size)) = olds := by rw [← his]; exact htk
              simp only [List.append_assoc]
              rw [hl1, List.length_append, ← List.append_assoc]
              have hlen : (olds ++ news).length = (xs.length + ys.length) * E.P.cellsOf e := by rw [List.length_append, hol, hnl, Nat.add_mul]
              rw [← hlen]; exact List.take_left) rfl hsize' hone' hdl'
        refine ⟨_, E', .inl ?_, R', S, V⟩
        rw [hw]
        refine app_run ho hargs htys ?_
        rw [hv, hyv, ha]; exact hra
      · refine grow _ cap ha hle (fun h => by cases h) (fun j u hu => ⟨b0, 0, rfl, ?_⟩) (by omega) (by omega)
        rw [Nat.zero_add, cell_of_row E.w b0 j cur e (0, 0) hh]
        rw [← htk, List.getElem?_take] at hu
        split at hu
        · simpa using hu
        · cases hu
end
end
end Go.Ab
