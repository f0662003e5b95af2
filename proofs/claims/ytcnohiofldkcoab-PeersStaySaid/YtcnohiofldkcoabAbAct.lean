/- Operations that act on the store: new variables, stores, append. -/
import Derived.Test.YtcnohiofldkcoabAbOp3
namespace Go.Ab
open Go
set_option linter.unusedSimpArgs false
set_option linter.unusedVariables false

section
variable {P : Program} {base : Nat} {h : Store} {E : Env} {t : List AV} {a : Act}

theorem blk_lt (R : Rel base h E) {k b : Nat} (hb : blkOf E h k = some b) : b < E.w.heap.size := R.lt b (R.own k b hb)
theorem blkOf_lt {k b : Nat} (hb : blkOf E h k = some b) : k < h.length := by
  obtain ⟨e, he, _⟩ := blkOf_some hb
  exact (List.getElem?_eq_some_iff.1 he).1

theorem ext_write (R : Rel base h E) {k g : Nat} (hb : blkOf E h k = some g) (cs' : Array Value) : Ext E { E with w := E.w.setRow g cs' } :=
  ⟨rfl, Nat.le_refl _, fun _ _ => Nat.le_refl _, fun _ _ _ _ h => ⟨h, rfl, rfl⟩, fun _ _ => rfl, fun a v ho hc => ⟨ho, by
    have hne : a.block ≠ g := fun e => ho (by rw [e]; exact R.own k g hb)
    rw [← hc]; exact World.cell?_of_block (setRow_other E.w g a.block cs' hne)⟩⟩

/-- A row's or a variable's block is written. -/
theorem rel_write (R : Rel base h E) {k g : Nat} (hb : blkOf E h k = some g) (cs' : Array Value) (e' : Ent) (hbk : entBlk E k e' = some g) (ok : EntOk base { E with w := E.w.setRow g cs' } k e') :
    Rel base (h.set k e') { E with w := E.w.setRow g cs' } ∧ Step h E (h.set k e') { E with w := E.w.setRow g cs' } := by
  have hk := blkOf_lt hb
  have hbo : ∀ j, j ≠ k → blkOf { E with w := E.w.setRow g cs' } (h.set k e') j = blkOf E h j := fun j hj => by
    unfold blkOf; rw [List.getElem?_set_ne (Ne.symm hj)]
    cases h[j]? with
    | none => rfl
    | some e => exact entBlk_same rfl rfl e
  have hbk' : blkOf { E with w := E.w.setRow g cs' } (h.set k e') k = some g := by
    rw [blkOf_of (List.getElem?_set_self hk)]; exact (entBlk_same rfl rfl e').trans hbk
  have S : Step h E (h.set k e') { E with w := E.w.setRow g cs' } := ⟨ext_write R hb cs', rfl, rfl, rfl, by simp, fun b _ hn => setRow_other E.w g b cs' (fun e => hn k (by rw [e]; exact hb)), fun _ h => .inl h, fun _ h _ => h, fun j b hj => .inl (by
    by_cases e : j = k
    · subst e; rw [hbk'] at hj; cases hj; exact ⟨j, hb⟩
    · rw [hbo j e] at hj; exact ⟨j, hj⟩)⟩
  refine ⟨Rel.upd k e' R S (by simp; exact R.n) (by simp) (List.getElem?_set_self hk) (fun j hj => List.getElem?_set_ne (Ne.symm hj)) (fun _ _ => ⟨rfl, rfl, rfl, rfl, rfl⟩) (fun j hj b hjb => ⟨setRow_other E.w g b cs' (fun e => hj (R.inj j k g (by rw [← e]; exact hjb) hb)), R.own j b hjb⟩) ok
    (fun b hkb => ?_) (fun b hb => by simp; exact R.lt b hb), S⟩
  rw [hbk'] at hkb; cases hkb
  exact ⟨R.own k g hb, fun j hj hjb => hj (R.inj j k g hjb hb)⟩

/-- A new variable. -/
theorem new_box (R : Rel base h E) {cs : List AV} {vals : List Value} (hv : VL E cs vals) (h1 : ∀ c, c ∈ cs → c.one = true) (ty : TypeId) :
    ∃ E', E'.w = E.w.alloc (.cells vals.toArray ty) ∧ Rel base (h ++ [.box ty cs]) E' ∧ Step h E (h ++ [.box ty cs]) E' ∧ VL E' [.bptr h.length 0] [.pointer (some ⟨E.w.heap.size, 0, none⟩)] := by
  let E' : Env := { E with w := E.w.alloc (.cells vals.toArray ty), n := E.n + 1, top := fun k => if k = h.length then 0 else E.top k, box := fun k => if k = h.length then E.w.heap.size else E.box k, own := fun b => E.own b ∨ b = E.w.heap.size }
  have hx : Ext E E' := ⟨rfl, Nat.le_succ _, fun k hk => by
      show E.top k ≤ if k = h.length then 0 else E.top k
      rw [if_neg (by rw [R.n] at hk; omega)]; exact Nat.le_refl _, fun _ _ _ _ h => ⟨h, rfl, rfl⟩, fun k hk => by
      show (if k = h.length then _ else _) = _
      rw [if_neg (by rw [R.n] at hk; omega)], fun a v ho hc => by
      have hlt := block_lt_of_cell hc
      exact ⟨fun h => by rcases h with h | h; exact ho h; omega, by rw [← hc]; exact World.cell?_of_block (heap_alloc_old E.w _ _ hlt)⟩⟩
  have hbo : ∀ j, j ≠ h.length → blkOf E' (h ++ [.box ty cs]) j = blkOf E h j := fun j hj => by
    unfold blkOf
    by_cases hlt : j < h.length
    · rw [List.getElem?_append_left hlt]
      cases h[j]? with
      | none => rfl
      | some e => exact entBlk_same (E := E) (E' := E') (k := j) rfl (if_neg hj) e
    · rw [List.getElem?_eq_none (by simp; omega), List.getElem?_eq_none (by omega)]; rfl
  have hnew : blkOf E' (h ++ [.box ty cs]) h.length = some E.w.heap.size := by
    rw [blkOf_of (e := .box ty cs) (by simp)]
    show some (if h.length = h.length then _ else _) = _
    rw [if_pos rfl]
  have S : Step h E (h ++ [.box ty cs]) E' := ⟨hx, rfl, rfl, rfl, by simp [E'], fun b hb _ => heap_alloc_old E.w _ b hb, fun b hb => by
      rcases hb with hb | hb
      · exact .inl hb
      · exact .inr (by omega), fun b hb _ => .inl hb, fun j b hj => by
      by_cases e : j = h.length
      · subst e; rw [hnew] at hj; cases hj; exact .inr (Nat.le_refl _)
      · rw [hbo j e] at hj; exact .inl ⟨j, hj⟩⟩
  refine ⟨E', rfl, Rel.upd h.length (.box ty cs) R S (by simp [E', R.n]) (by simp) (by simp) (fun j hj => ?_) (fun j hj => ⟨rfl, if_neg hj, rfl, rfl, ?_⟩) (fun j hj b hjb => ⟨heap_alloc_old E.w _ b (blk_lt R hjb), .inl (R.own j b hjb)⟩) ?_ (fun b hb => ?_) (fun b hb => ?_), S, ?_⟩
  · by_cases hlt : j < h.length
    · exact List.getElem?_append_left hlt
    · rw [List.getElem?_eq_none (by simp; omega), List.getElem?_eq_none (by omega)]
  · show (if j = h.length then _ else _) = _
    rw [if_neg hj]
  · have hb0 : E'.box h.length = E.w.heap.size := if_pos rfl
    refine ⟨R.nogen _ (Nat.le_refl _), if_pos rfl, by rw [hb0]; exact R.le, h1, vals, ?_, hv.ext hx⟩
    rw [hb0]; exact heap_alloc_new E.w _
  · rw [hnew] at hb; cases hb
    exact ⟨.inr rfl, fun j hj hjb => by have := blk_lt R hjb; omega⟩
  · rcases hb with hb | hb
    · have := R.lt b hb; simp [E']; omega
    · simp [E', hb]
  · have : (⟨E.w.heap.size, 0, none⟩ : Addr) = ⟨E'.box h.length, 0, none⟩ := by
      have hb0 : E'.box h.length = E.w.heap.size := if_pos rfl
      rw [hb0]
    rw [this]
    exact .bptr (by show h.length < E.n + 1; rw [R.n]; omega) .nil

theorem op_box (R : Rel base h E) (ht : VL E t a.tmps.toList) {o : Oper} {ty : TypeId} {x : Operand} (ho : o.op = .box ty x) {x' : Od} (hx : cmpOd x = some x') (h1 : (od t x').cells.all AV.one = true) : Comes1 P base o a h E (.bptr h.length 0) (h ++ [.box ty (od t x').cells]) := by
  have hv := cells_vl (od_vl ht hx) h1
  obtain ⟨E', hw, R', S, V⟩ := new_box R hv (fun c hc => by simpa using List.all_eq_true.1 h1 c hc) ty
  refine ⟨_, E', .inl ?_, R', S, V⟩
  rw [hw]
  simp [execOp, ho, Instr.box, newVar, newRow]

theorem op_alloc (R : Rel base h E) {o : Oper} {ty : TypeId} (ho : o.op = .alloc ty) {z : AV} (hz : zeroOf P ty = some z) (h1 : z.cells.all AV.one = true) : Comes1 P base o a h E (.bptr h.length 0) (h ++ [.box ty z.cells]) := by
  obtain ⟨i, zv, hi, hzv, _, hvl, _⟩ := zeroOf_some (E := E) hz
  obtain ⟨E', hw, R', S, V⟩ := new_box R hvl (fun c hc => by simpa using List.all_eq_true.1 h1 c hc) ty
  refine ⟨_, E', .inl ?_, R', S, V⟩
  rw [hw]
  simp [execOp, ho, Instr.alloc, zeroValue, typeInfo, hi, hzv, newVar, newRow]

theorem run_storeVar {w : World} {ty : TypeId} (hi : (P.info? ty).isSome = true) {b o : Nat} {T : TypeId} {cur : Array Value} (hg : w.heap[b]? = some (.cells cur T (0, 0))) {v : Value} (hs : v.cells.size = P.cellsOf ty) (hle : o + v.cells.size ≤ cur.size) (h1 : ∀ u, u ∈ v.cells.toList → u.oneCell' = true) :
    (storeVar ty ⟨b, o, none⟩ v).run P w = .ok () (w.setRow b (cur.toList.take o ++ v.cells.toList ++ cur.toList.drop (o + v.cells.toList.length)).toArray) := by
  have := run_storeCells_at (P := P) b o T v.cells.toList 0 cur w hg (by simpa using hle) h1
  simp only [Nat.add_zero] at this
  simp only [storeVar, Sem.run_bind, run_sizeOf hi, Result.andThen_ok, hs, ne_eq, not_true_eq_false, if_false, this]

theorem op_storeB (R : Rel base h E) (ht : VL E t a.tmps.toList) {o : Oper} {ty : TypeId} {p x : Operand} (ho : o.op = .store ty p x) (hi : (P.info? ty).isSome = true) {p' x' : Od} (hp : cmpOd p = some p') (hx : cmpOd x = some x')
    (hn : (od t x').cells.length = P.cellsOf ty) (h1 : (od t x').cells.all AV.one = true) {b off : Nat} (hb : od t p' = .bptr b off) {T : TypeId} {cs : List AV} (hcs : h[b]? = some (.box T cs)) (hle : off + P.cellsOf ty ≤ cs.length) :
    Comes1 P base o a h E .bad (h.set b (.box T (splice cs off (od t x').cells))) := by
  have hpv := od_vl ht hp
  rw [hb] at hpv
  obtain ⟨hbn, hpe⟩ := hpv.bptr_inv
  have hcv := cells_vl (od_vl ht hx) h1
  have ho1 := hcv.one_cells (fun c hc => by simpa using List.all_eq_true.1 h1 c hc)
  obtain ⟨hg, htop, hbase, hone, vals, hh, hvl⟩ := R.ent b _ hcs
  have hsz : (a.eval x).cells.size = P.cellsOf ty := by rw [← hn, ← hcv.length]; simp
  have hbl : blkOf E h b = some (E.box b) := blkOf_of hcs
  have hlv := hvl.length
  have run := run_storeVar (P := P) (w := E.w) (ty := ty) hi (b := E.box b) (o := off) hh (v := a.eval x) hsz (by simp; omega) ho1
  obtain ⟨R', S'⟩ := rel_write R hbl (vals.toArray.toList.take off ++ (a.eval x).cells.toList ++ vals.toArray.toList.drop (off + (a.eval x).cells.toList.length)).toArray (.box T (splice cs off (od t x').cells)) rfl (by
    refine ⟨hg, htop, hbase, fun c hc => ?_, _, setRow_heap E.w (E.box b) _ _ T (0, 0) hh, ?_⟩
    · simp only [splice, List.mem_append] at hc
      rcases hc with (hc | hc) | hc
      · exact hone c (List.mem_of_mem_take hc)
      · simpa using List.all_eq_true.1 h1 c hc
      · exact hone c (List.mem_of_mem_drop hc)
    · exact (splice_vl hvl hcv off).ext (ext_write R hbl _))
  refine ⟨undef, _, .inr ⟨?_, rfl⟩, R', S', .bad .nil⟩
  simp only [execOp, ho, hpe, Instr.storeAt, Instr.sureAddr, Sem.run_bind, Sem.run_pure, Result.andThen_ok, run]
end
end Go.Ab
