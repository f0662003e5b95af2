/- Our texts for this statement, merged: what its theorem leads to. -/
import Derived.Laws.Slices
import Derived.Test.YtpiabgfedgddeaaDoorQStore2
namespace Go.Ab
open Go
set_option linter.unusedSimpArgs false
set_option linter.unusedVariables false
def Comes1 (P : Program) (base : Base) (o : Oper) (a : Act) (h : Store) (E : Env) (v : AV) (h' : Store) : Prop :=
  ∃ v' E', ((execOp a.eval o).run P E.w = .ok (.value v') E'.w ∨ ((execOp a.eval o).run P E.w = .ok .skip E'.w ∧ v' = undef)) ∧ Rel base h' E' ∧ Step h E h' E' ∧ VL E' [v] [v']
theorem Comes1.same {P : Program} {base : Base} {o : Oper} {a : Act} {h : Store} {E : Env} {v : AV} (R : Rel base h E) {v' : Value} (hr : (execOp a.eval o).run P E.w = .ok (.value v') E.w) (hv : VL E [v] [v']) : Comes1 P base o a h E v h :=
  ⟨v', E, .inl hr, R, Step.refl h E, hv⟩
theorem mapped {α β : Type} {f : α → β} {x : Option α} {b : β} (h : x.map f = some b) : ∃ a, x = some a ∧ f a = b := by simpa using h
theorem foldl_splice (new : List Value) : ∀ (cs : Array Value) (off j : Nat), off + j + new.length ≤ cs.size →
    ((new.zipIdx j).foldl (fun cs (c, j) => cs.setIfInBounds (off + j) c) cs).toList = cs.toList.take (off + j) ++ new ++ cs.toList.drop (off + j + new.length) := by
  induction new with
  | nil => intro cs off j h; simp
  | cons c new ih =>
    intro cs off j h
    simp only [List.length_cons] at h
    rw [List.zipIdx_cons, List.foldl_cons, ih _ _ _ (by simp; omega)]
    simp only [Array.toList_setIfInBounds]
    have hlt : off + j < cs.toList.length := by simp; omega
    have hl : (cs.toList.take (off + j)).length = off + j := by simp; omega
    generalize hp : off + j = p at *
    rw [show off + (j + 1) = p + 1 by omega]
    rw [show (cs.toList.set p c).take (p + 1) = cs.toList.take p ++ [c] by
      rw [List.take_add_one, List.take_set_of_le (Nat.le_refl _), List.getElem?_set_self hlt]; rfl]
    rw [List.drop_set_of_lt (by omega)]
    simp only [List.length_cons, List.append_assoc, List.cons_append, List.nil_append]
    congr 3; congr 1; omega
theorem fill_one (place : Nat → Option (Nat × Nat)) (cells : Array Value) (i off size : Nat) (v : Value) (rest : List (Nat × Value)) (hp : place i = some (off, size)) (hs : v.cells.size = size) (hle : off + size ≤ cells.size) :
    ∃ cells', cells'.size = cells.size ∧ cells'.toList = cells.toList.take off ++ v.cells.toList ++ cells.toList.drop (off + v.cells.toList.length) ∧ Instr.fill place cells ((i, v) :: rest) = Instr.fill place cells' rest := by
  refine ⟨v.cells.zipIdx.foldl (fun cs (c, j) => cs.setIfInBounds (off + j) c) cells, ?_, ?_, ?_⟩
  · rw [← Array.length_toList, ← Array.foldl_toList, Array.toList_zipIdx, foldl_splice v.cells.toList cells off 0 (by simp; omega)]
    simp; omega
  · rw [← Array.foldl_toList, Array.toList_zipIdx, foldl_splice v.cells.toList cells off 0 (by simp; omega)]
    simp
  · simp [Instr.fill, hp, hs]; omega
theorem cells_vl {E : Env} {x : AV} {v : Value} (h : VL E [x] [v]) (h1 : x.cells.all AV.one = true) : VL E x.cells v.cells.toList := by
  cases x with
  | agg cs => obtain ⟨vs, rfl, h1⟩ := h.agg_inv; simpa [AV.cells, Value.cells] using h1
  | tup => simp [AV.cells, AV.one] at h1
  | bad => simp [AV.cells, AV.one] at h1
  | sc v => obtain ⟨rfl, hp⟩ := h.sc_inv; have : (v.cells) = #[v] := by cases v <;> simp_all [plainSc, Value.cells]
            simpa [AV.cells, this] using h
  | lit => obtain ⟨_, _, _, rfl, _⟩ := h.lit_inv.lit_inv; simpa [AV.cells, Value.cells] using h
  | sl => have h1 := h.sl_inv.2.2.1; have : v.cells = #[v] := by cases v <;> simp_all [Value.oneCell', Value.cells]
          simpa [AV.cells, this] using h
  | sub => have h1 := h.sub_inv.2.2.1; have : v.cells = #[v] := by cases v <;> simp_all [Value.oneCell', Value.cells]
           simpa [AV.cells, this] using h
  | bptr => obtain ⟨_, rfl⟩ := h.bptr_inv; simpa [AV.cells, Value.cells] using h
  | rptr => have h1 : v.oneCell' = true := by cases h with
              | data h t => cases h
              | rptr _ _ h1 _ _ => exact h1
            have : v.cells = #[v] := by cases v <;> simp_all [Value.oneCell', Value.cells]
            simpa [AV.cells, this] using h
  | lptr => obtain ⟨_, _, _, _, _, _, rfl⟩ := h.lptr_inv; simpa [AV.cells, Value.cells] using h
  | fn => obtain ⟨_, rfl, _⟩ := h.fn_inv; simpa [AV.cells, Value.cells] using h
theorem splice_vl {E : Env} {cs new : List AV} {us news : List Value} (h : VL E cs us) (h' : VL E new news) (off : Nat) : VL E (splice cs off new) (us.take off ++ news ++ us.drop (off + news.length)) := by
  rw [h'.length]
  exact ((h.take off).append h').append (h.drop _)
theorem splice_length {cs new : List AV} {off : Nat} (h : off + new.length ≤ cs.length) : (splice cs off new).length = cs.length := by
  simp [splice]; omega
theorem run_places {P : Program} {w : World} (fs : List Field) : (∀ f, f ∈ fs → (P.info? f.type).isSome = true) →
    (fs.mapM (fun f => (do pure (f.offset, ← sizeOf f.type) : Sem (Nat × Nat)))).run P w = .ok (fs.map fun f => (f.offset, P.cellsOf f.type)) w := by
  induction fs with
  | nil => intro _; rfl
  | cons f fs ih =>
    intro h
    rw [List.mapM_cons]
    simp only [Sem.run_bind, run_sizeOf (h f (List.mem_cons_self ..)), Result.andThen_ok, Sem.run_pure, ih (fun g hg => h g (List.mem_cons_of_mem _ hg)), List.map_cons]
theorem zeroOf_some {P : Program} {E : Env} {t : TypeId} {z : AV} (h : zeroOf P t = some z) : ∃ i zv, P.info? t = some i ∧ i.zero = some zv ∧ zv.cells.size = P.cellsOf t ∧ VL E z.cells zv.cells.toList ∧ VL E [z] [zv] := by
  unfold zeroOf at h
  split at h
  · rename_i i hi
    split at h
    · rename_i zv hz
      split at h
      · rename_i hsz
        have hc : P.cellsOf t = i.size := by simp [Program.cellsOf, hi]
        split at h
        · rename_i cs
          obtain ⟨l, hl, rfl⟩ := mapped h
          have := (cmpVals_dl (E := E) hl).vl
          exact ⟨i, _, hi, hz, by rw [hc]; exact hsz, by simpa [AV.cells, Value.cells] using this, by simpa using VL.agg this .nil⟩
        · rename_i hne
          have hd := cmpVal_vl (E := E) h
          have hv : VL E [z] [zv] := .data hd .nil
          have h1 : z.cells.all AV.one = true := by
            unfold cmpVal at h
            split at h
            · cases h; rfl
            · split at h
              · cases h; rfl
              · cases h
          exact ⟨i, zv, hi, hz, by rw [hc]; exact hsz, cells_vl hv h1, hv⟩
      · cases h
    · cases h
  · cases h
theorem fill_sound {P : Program} {E : Env} {t : List AV} {a : Act} (ht : VL E t a.tmps.toList) {s : TypeId} {fs : Array Field} (hs : P.underlying s = some (.struct fs)) (parts : List (Nat × Operand)) :
    ∀ {l : List (Nat × Nat × Od)} {cells : List AV} {us : Array Value} {cs : List AV}, cmpParts P s parts = some l → VL E cells us.toList → fillIn t cells l = some cs →
      ∃ us', Instr.fill (fun i => (fs.map fun f => (f.offset, P.cellsOf f.type))[i]?) us (parts.map fun (i, x) => (i, a.eval x)) = some us' ∧ VL E cs us'.toList := by
  induction parts with
  | nil =>
    intro l cells us cs hl hv hf
    simp only [cmpParts] at hl; cases hl
    simp only [fillIn] at hf; cases hf
    exact ⟨us, rfl, hv⟩
  | cons p parts ih =>
    intro l cells us cs hl hv hf
    obtain ⟨i, x⟩ := p
    simp only [cmpParts] at hl
    split at hl
    · rename_i f y l' hfo hy hl'
      split at hl
      · cases hl
        simp only [fillIn] at hf
        split at hf
        · rename_i hc
          obtain ⟨h1, h2, h3⟩ := hc
          have hx := od_vl ht hy
          have hcv := cells_vl hx h2
          have hfi : fs[i]? = some f := by simpa [fieldOf, hs] using hfo
          have hsz : (a.eval x).cells.size = P.cellsOf f.type := by rw [← h1, ← hcv.length]; simp
          have hus : us.size = cells.length := by rw [← hv.length]; simp
          obtain ⟨us1, e1, e2, e3⟩ := fill_one (fun i => (fs.map fun f => (f.offset, P.cellsOf f.type))[i]?) us i f.offset (P.cellsOf f.type) (a.eval x) (parts.map fun (i, x) => (i, a.eval x)) (by simp [hfi]) hsz (by omega)
          have hv1 : VL E (splice cells f.offset (od t y).cells) us1.toList := by rw [e2]; exact splice_vl hv hcv _
          obtain ⟨us', e4, e5⟩ := ih hl' hv1 hf
          exact ⟨us', by rw [List.map_cons, e3]; exact e4, e5⟩
        · cases hf
      · cases hl
    · cases hl
theorem alloc_free {base : Base} {h : Store} {E : Env} (R : Rel base h E) (o : Obj) : Rel base h { E with w := E.w.alloc o } ∧ Step h E h { E with w := E.w.alloc o } := by
  have hx : Ext E { E with w := E.w.alloc o } := ⟨rfl, Nat.le_refl _, fun _ _ => Nat.le_refl _, fun _ _ _ _ h => ⟨h, rfl, rfl⟩, fun _ _ => rfl, fun a v ho hc => ⟨ho, by
    rw [← hc]; exact World.cell?_of_block (heap_alloc_old E.w o _ (block_lt_of_cell hc))⟩⟩
  have hs : Step h E h { E with w := E.w.alloc o } := ⟨hx, rfl, rfl, rfl, by simp, fun b hb _ => heap_alloc_old E.w o b hb, fun _ h => .inl h, fun _ h _ => h, fun k _ h => .inl ⟨k, h⟩⟩
  refine ⟨⟨R.n, R.step_lo hs, fun k e he => ?_, R.nogen, R.own, R.inj, fun b hb => by simp; exact Nat.lt_succ_of_lt (R.lt b hb)⟩, hs⟩
  exact (R.ent k e he).step hx ⟨rfl, rfl, rfl, rfl, rfl⟩ (fun b hb => heap_alloc_old E.w o b (R.lt b (R.own k b (by rw [blkOf_of he]; exact hb))))
end Go.Ab
namespace Go.Ab
open Go
set_option linter.unusedSimpArgs false
set_option linter.unusedVariables false
section
variable {P : Program} {base : Base} {h : Store} {E : Env} {t : List AV} {a : Act}
theorem asBool_some {x : AV} {b : Bool} (hx : asBool x = some b) : x = .sc (.bool b) := by
  unfold asBool at hx
  split at hx
  · cases hx; rfl
  · cases hx
theorem asInt_some {x : AV} {b : Int} (hx : asInt x = some b) : x = .sc (.int .i64 b) := by
  unfold asInt at hx
  split at hx
  · cases hx; rfl
  · cases hx
theorem op_pick (R : Rel base h E) (ht : VL E t a.tmps.toList) {o : Oper} {c x y : Operand} (ho : o.op = .pick c x y) {c' x' y' : Od} (hc : cmpOd c = some c') (hx : cmpOd x = some x') (hy : cmpOd y = some y') {b : Bool} (hb : asBool (od t c') = some b) :
    Comes1 P base o a h E (if b then od t x' else od t y') h := by
  have h1 := od_vl ht hc
  rw [asBool_some hb] at h1
  have h2 := h1.sc_inv.1
  refine Comes1.same R (v' := if b then a.eval x else a.eval y) ?_ (by cases b; exact od_vl ht hy; exact od_vl ht hx)
  simp only [execOp, ho, h2]; cases b <;> rfl
theorem op_build (R : Rel base h E) (hP : E.P = P) (ht : VL E t a.tmps.toList) {o : Oper} {ty : TypeId} {ps : Array (Nat × Operand)} (ho : o.op = .build ty ps) {fs : Array Field} (hs : P.underlying ty = some (.struct fs)) (hfs : fs.toList.all (fun f => (P.info? f.type).isSome) = true)
    {z : List AV} (hz : zeroOf P ty = some (.agg z)) {l : List (Nat × Nat × Od)} (hl : cmpParts P ty ps.toList = some l) {cs : List AV} (hf : fillIn t z l = some cs) : Comes1 P base o a h E (.agg cs) h := by
  obtain ⟨i, zv, hi, hzv, _, hvl, _⟩ := zeroOf_some (E := E) hz
  have hvl : VL E z zv.cells.toList := hvl
  obtain ⟨us, h1, h2⟩ := fill_sound ht hs ps.toList hl hvl hf
  refine Comes1.same R (v' := .agg us) ?_ (by simpa using VL.agg h2 .nil)
  have hp := run_places (P := P) (w := E.w) fs.toList (fun f hf => by simpa using List.all_eq_true.1 hfs f hf)
  have hm : (fs.mapM (fun f => (do pure (f.offset, ← sizeOf f.type) : Sem (Nat × Nat)))).run P E.w = .ok (fs.map fun f => (f.offset, P.cellsOf f.type)) E.w := by
    rw [Array.mapM_eq_mapM_toList]; simp only [Sem.run_map, hp, Result.andThen_ok]
    congr 1
    apply Array.ext'
    simp
  have hz0 : (zeroValue ty).run P E.w = .ok zv E.w := by simp [zeroValue, typeInfo, hi, hzv]
  have h1' : Instr.fill (fun i => (fs.map fun f => (f.offset, P.cellsOf f.type))[i]?) zv.cells (ps.map fun (i, x) => (i, a.eval x)).toList = some us := by
    rw [Array.toList_map]; exact h1
  simp only [execOp, ho, Instr.build, Sem.run_bind, hz0, Result.andThen_ok, run_underlying hs, hm]
  rw [h1']
  rfl
theorem op_bin (R : Rel base h E) (ht : VL E t a.tmps.toList) {o : Oper} {op : BinOp} {ty yt : TypeId} {x y : Operand} (ho : o.op = .binOp op ty x y yt) {x' y' : Od} (hx : cmpOd x = some x') (hy : cmpOd y = some y') {c : Cls} (hc : clsOf P ty = some c) {v : AV}
    (hv : scBin Ops.std op c (od t x') (od t y') = some v) : Comes1 P base o a h E v h := by
  obtain ⟨v', rfl, h1, h2⟩ := scBin_sound (w := E.w) hc (od_vl ht hx) (od_vl ht hy) hv x y
  refine Comes1.same R (v' := v') ?_ h2
  simp only [Sem.run_bind] at h1
  simp only [execOp, ho, Sem.run_bind, h1, Result.andThen_ok, Sem.run_pure]
theorem op_un (R : Rel base h E) (ht : VL E t a.tmps.toList) {o : Oper} {ty : TypeId} {x : Operand} {x' : Od} (hx : cmpOd x = some x') :
    (o.op = .unOp .not ty x → ∀ b, od t x' = .sc (.bool b) → Comes1 P base o a h E (.sc (.bool (!b))) h) ∧ (o.op = .unOp .neg ty x → ∀ k n, od t x' = .sc (.int k n) → Comes1 P base o a h E (.sc (.int k (k.wrap (0 - n)))) h) := by
  have h1 := od_vl ht hx
  refine ⟨fun ho b hb => ?_, fun ho k n hn => ?_⟩
  · rw [hb] at h1
    refine Comes1.same R (v' := .bool (!b)) ?_ (.data (.sc rfl .nil) .nil)
    simp [execOp, ho, h1.sc_inv.1, Op.unary]
  · rw [hn] at h1
    refine Comes1.same R (v' := .int k (k.wrap (0 - n))) ?_ (.data (.sc rfl .nil) .nil)
    simp [execOp, ho, h1.sc_inv.1, Op.unary, Op.intArith]
theorem op_conv (R : Rel base h E) (ht : VL E t a.tmps.toList) {o : Oper} {s d : TypeId} {x : Operand} (ho : o.op = .convert s d x) {k0 k k1 : IntKind} (hs : P.underlying s = some (.int k0)) (hd : P.underlying d = some (.int k)) {x' : Od} (hx : cmpOd x = some x') {n : Int} (hn : od t x' = .sc (.int k1 n)) :
    Comes1 P base o a h E (.sc (.int k (k.wrap n))) h := by
  have h1 := od_vl ht hx
  rw [hn] at h1
  refine Comes1.same R (v' := .int k (k.wrap n)) ?_ (.data (.sc rfl .nil) .nil)
  simp [execOp, ho, h1.sc_inv.1, convert, run_underlying hs, run_underlying hd, Conv.intToInt]
theorem op_fad (R : Rel base h E) (ht : VL E t a.tmps.toList) {o : Oper} {s : TypeId} {x : Operand} {i : Nat} (ho : o.op = .fieldAddr s x i) {f : Field} (hf : fieldOf P s i = some f) (hi : (P.info? f.type).isSome = true) (h0 : P.cellsOf f.type ≠ 0) {x' : Od} (hx : cmpOd x = some x') :
    (∀ b off, od t x' = .bptr b off → Comes1 P base o a h E (.bptr b (off + f.offset)) h) ∧ (∀ k g j off, od t x' = .rptr k g j off → rowOf h k g ≠ none → Comes1 P base o a h E (.rptr k g j (off + f.offset)) h) ∧
      (∀ e xs j off, od t x' = .lptr e xs j off → Comes1 P base o a h E (.lptr e xs j (off + f.offset)) h) := by
  have h1 := od_vl ht hx
  have hst : ∃ fs, P.underlying s = some (.struct fs) ∧ fs[i]? = some f := by
    unfold fieldOf at hf
    split at hf
    · exact ⟨_, by assumption, hf⟩
    · cases hf
  obtain ⟨fs, hs, hfi⟩ := hst
  have run : ∀ b o', a.eval x = .pointer (some ⟨b, o', none⟩) → (execOp a.eval o).run P E.w = .ok (.value (.pointer (some ⟨b, o' + f.offset, none⟩))) E.w := fun b o' he => by
    simp only [execOp, ho, he, Instr.fieldAt, Sem.run_bind, run_underlying hs, Result.andThen_ok, hfi]
    simp [Instr.sureAddr, fieldPlace, run_sizeOf hi, h0, add_none]
  refine ⟨fun b off e => ?_, fun k g j off e hne => ?_, fun e' xs j off e => ?_⟩
  · rw [e] at h1
    obtain ⟨hb, he⟩ := h1.bptr_inv
    exact Comes1.same R (run _ _ he) (.bptr hb .nil)
  · rw [e] at h1
    obtain ⟨hk, hg, hv⟩ := h1.rptr_inv
    cases hr : rowOf h k g with
    | none => exact absurd hr hne
    | some r =>
      obtain ⟨e', ro, xs⟩ := r
      obtain ⟨b, hb, he⟩ := hv (row_reads R hr).1
      exact Comes1.same R (run _ _ he) (.rptr hk hg rfl (fun _ => ⟨b, hb, by rw [Nat.add_assoc]⟩) .nil)
  · rw [e] at h1
    obtain ⟨b, o', vals, hs', hd, hr, he⟩ := h1.lptr_inv
    refine Comes1.same R (run _ _ he) ?_
    have := VL.lptr (E := E) (e := e') (xs := xs) (i := j) (off := off + f.offset) (b := b) (o := o') (vals := vals) hs' hd hr .nil
    rw [Nat.add_assoc]; exact this
theorem run_part {w : World} {ty : TypeId} {ag : Bool} (hag : isAggT P ty = some ag) (hi : (P.info? ty).isSome = true) {cs : List AV} {us : List Value} (hv : VL E cs us) {off : Nat} {c : List AV} (hc : cut cs off (P.cellsOf ty) = some c) {v : AV} (hm : mkV ag c = some v) :
    ∃ v', (part ty us.toArray off).run P w = .ok v' w ∧ VL E [v] [v'] := by
  obtain ⟨hle, rfl⟩ := cut_some hc
  have hd := (hv.drop off).take (P.cellsOf ty)
  have hl := hv.length
  unfold part
  simp only [Sem.run_bind, run_isAgg hag, Result.andThen_ok]
  cases ag with
  | true =>
    simp only [mkV] at hm; cases hm
    refine ⟨.agg ((us.drop off).take (P.cellsOf ty)).toArray, ?_, .agg hd .nil⟩
    simp [run_sizeOf hi, List.extract_eq_take_drop]
  | false =>
    simp only [mkV] at hm
    split at hm
    · cases hm
      rename_i v hcs
      rw [hcs] at hd
      obtain ⟨u, hu, h1⟩ := hd.one_inv
      refine ⟨u, ?_, h1⟩
      have : us[off]? = some u := by simpa using getElem?_drop_take (l := us) (p := off) (n := P.cellsOf ty) (j := 0) (u := u) (by rw [hu]; rfl)
      simp [this]
    · cases hm
theorem op_fld (R : Rel base h E) (ht : VL E t a.tmps.toList) {o : Oper} {s : TypeId} {x : Operand} {i : Nat} (ho : o.op = .field s x i) {f : Field} (hf : fieldOf P s i = some f) (hi : (P.info? f.type).isSome = true) {ag : Bool} (hag : isAggT P f.type = some ag) {x' : Od} (hx : cmpOd x = some x')
    {cs c : List AV} (he : od t x' = .agg cs) (hc : cut cs f.offset (P.cellsOf f.type) = some c) {v : AV} (hm : mkV ag c = some v) : Comes1 P base o a h E v h := by
  have h1 := od_vl ht hx
  rw [he] at h1
  obtain ⟨vs, hv, h2⟩ := h1.agg_inv
  obtain ⟨v', hr, hv'⟩ := run_part (w := E.w) hag hi h2 hc hm
  have hst : ∃ fs, P.underlying s = some (.struct fs) ∧ fs[i]? = some f := by
    unfold fieldOf at hf
    split at hf
    · exact ⟨_, by assumption, hf⟩
    · cases hf
  obtain ⟨fs, hs, hfi⟩ := hst
  refine Comes1.same R (v' := v') ?_ hv'
  simp only [execOp, ho, hv, Instr.field, Sem.run_bind, run_underlying hs, Result.andThen_ok, hfi]
  simp [asAgg, hr]
theorem headAt_of {v : Value} {a : Option Addr} {b n cap : Nat} (hv : v = .slice a n cap) (ha : a = some ⟨b, 0, none⟩) : HeadAt v b := ⟨n, cap, by rw [hv, ha]⟩
theorem flat_len {xs : List AV} {s : Nat} (hs : ∀ x, x ∈ xs → x.cells.length = s) : (flat xs).length = xs.length * s := by
  induction xs with
  | nil => simp [flat]
  | cons x xs ih =>
    have := ih (fun y hy => hs y (List.mem_cons_of_mem _ hy))
    have hx := hs x (List.mem_cons_self ..)
    simp only [flat, List.flatMap_cons, List.length_append, List.length_cons] at this ⊢
    rw [this, hx, Nat.add_mul, Nat.one_mul]; omega
theorem flat_take {xs : List AV} {s : Nat} (hs : ∀ x, x ∈ xs → x.cells.length = s) : ∀ n, flat (xs.take n) = (flat xs).take (n * s) := by
  induction xs with
  | nil => intro n; simp [flat]
  | cons x xs ih =>
    intro n
    have hx := hs x (List.mem_cons_self ..)
    cases n with
    | zero => simp [flat]
    | succ n =>
      have := ih (fun y hy => hs y (List.mem_cons_of_mem _ hy)) n
      simp only [flat, List.take_succ_cons, List.flatMap_cons] at this ⊢
      rw [this, Nat.add_mul, Nat.one_mul, List.take_append, List.take_of_length_le (l := x.cells) (by omega)]
      congr 2; omega
theorem flat_drop {xs : List AV} {s : Nat} (hs : ∀ x, x ∈ xs → x.cells.length = s) : ∀ n, flat (xs.drop n) = (flat xs).drop (n * s) := by
  induction xs with
  | nil => intro n; simp [flat]
  | cons x xs ih =>
    intro n
    have hx := hs x (List.mem_cons_self ..)
    cases n with
    | zero => simp [flat]
    | succ n =>
      have := ih (fun y hy => hs y (List.mem_cons_of_mem _ hy)) n
      simp only [flat, List.drop_succ_cons, List.flatMap_cons] at this ⊢
      rw [this, Nat.add_mul, Nat.one_mul, List.drop_append, List.drop_eq_nil_of_le (as := x.cells) (by omega), List.nil_append]
      congr 1; omega
theorem elem_cell {xs : List AV} {s : Nat} (hs : ∀ x, x ∈ xs → x.cells.length = s) (h0 : 0 < s) {vals : List Value} (hl : vals.length = (flat xs).length) {i : Nat} (hi : i < xs.length) : ∃ u, vals[i * s]? = some u := by
  have h1 := flat_len hs
  have : i * s < xs.length * s := Nat.mul_lt_mul_of_pos_right hi h0
  exact ⟨vals[i * s], List.getElem?_eq_getElem (by omega)⟩
theorem op_iadS (R : Rel base h E) (hP : E.P = P) (ht : VL E t a.tmps.toList) {o : Oper} {ty e : TypeId} {x i : Operand} (ho : o.op = .indexAddr ty x i) (hs : P.underlying ty = some (.slice e)) (hi : (P.info? e).isSome = true) (hz : 0 < P.cellsOf e) {x' i' : Od} (hx : cmpOd x = some x') (hic : cmpOd i = some i') {j : Int} (hj : asInt (od t i') = some j) :
    (∀ f xs y, od t x' = .lit e f xs → Ops.std.lget xs j = some y → Comes1 P base o a h E (.lptr e xs j 0) h) ∧
    (∀ k g ro xs y, od t x' = .sl k g → rowOf h k g = some (e, ro, xs) → Ops.std.lget xs j = some y → Comes1 P base o a h E (.rptr k g j 0) h) := by
  have h1 := od_vl ht hx
  have h2 := od_vl ht hic
  rw [asInt_some hj] at h2
  have hiv := h2.sc_inv.1
  have run : ∀ b o' len cap, a.eval x = .slice (some ⟨b, o', none⟩) len cap → 0 ≤ j → j < len → (execOp a.eval o).run P E.w = .ok (.value (.pointer (some ⟨b, o' + j.toNat * P.cellsOf e, none⟩))) E.w := fun b o' len cap he h0 hl => by
    simp only [execOp, ho, he, hiv, Instr.indexAt, asIntOf, Sem.run_bind, run_underlying hs, Result.andThen_ok, Sem.run_pure]
    simp [h0, hl, run_sizeOf hi, add_none]
  subst hP
  refine ⟨fun f xs y hl hy => ?_, fun k g ro xs y hl hr hy => ?_⟩
  · rw [hl] at h1
    obtain ⟨ad, cap, vals, hv, hc, hm, hf, hs', hd, hone, hrd⟩ := h1.lit_inv.lit_inv
    obtain ⟨h0, hy⟩ := lget_some hy
    have hlt : j.toNat < xs.length := (List.getElem?_eq_some_iff.1 hy).1
    obtain ⟨u, hu⟩ := elem_cell hs' hz hd.length hlt
    obtain ⟨b, o', rfl, _⟩ := hrd _ u hu
    refine Comes1.same R (run b o' _ _ hv h0 (by omega)) ?_
    have := VL.lptr (E := E) (e := e) (xs := xs) (i := j) (off := 0) (b := b) (o := o') (vals := vals) hs' hd (fun j' u' hu' => by
      obtain ⟨b2, o2, hab, hno, hcell⟩ := hrd j' u' hu'
      injection hab with hab
      injection hab with hb ho2 _
      subst hb ho2
      exact ⟨hno, hcell⟩) .nil
    simpa using this
  · rw [hl] at h1
    obtain ⟨hk, hg, h3, hrow⟩ := h1.sl_inv
    obtain ⟨hgen, hesz, hs', ad, cap, vals, hv, hc, hm, hd, hone, hrd⟩ := row_reads R hr
    obtain ⟨h0, hy⟩ := lget_some hy
    have hlt : j.toNat < xs.length := (List.getElem?_eq_some_iff.1 hy).1
    obtain ⟨u, hu⟩ := elem_cell hs' hz hd.length hlt
    obtain ⟨b, rfl, _⟩ := hrd _ u hu
    refine Comes1.same R (run b 0 _ _ ((hrow hgen).trans hv) h0 (by omega)) ?_
    exact .rptr hk hg rfl (fun _ => ⟨b, headAt_of hv rfl, by rw [hesz]; simp⟩) .nil
theorem op_sidx (R : Rel base h E) (ht : VL E t a.tmps.toList) {o : Oper} {ty : TypeId} {x i : Operand} (ho : o.op = .index ty x i) (hs : P.underlying ty = some .string) {x' i' : Od} (hx : cmpOd x = some x') (hic : cmpOd i = some i') {j : Int} (hj : asInt (od t i') = some j)
    {s : ByteArray} (hsx : od t x' = .sc (.string s)) {c : Int} (hc : Ops.std.sget s j = some c) : Comes1 P base o a h E (.sc (.int .u8 c)) h := by
  have h1 := od_vl ht hx
  have h2 := od_vl ht hic
  rw [asInt_some hj] at h2
  rw [hsx] at h1
  simp only [Ops.std] at hc
  split at hc
  · rename_i h0
    obtain ⟨b, hb, rfl⟩ := mapped hc
    refine Comes1.same R (v' := .int .u8 b.toNat) ?_ (.data (.sc rfl .nil) .nil)
    simp only [execOp, ho, h1.sc_inv.1, h2.sc_inv.1, Instr.index, asIntOf, Sem.run_bind, run_underlying hs, Result.andThen_ok, Sem.run_pure]
    simp [h0, hb]
  · cases hc
theorem elems_vl (R : Rel base h E) {x : AV} {xv : Value} (hx : VL E [x] [xv]) {xs : List AV} (he : elemsOf Ops.std h x = some xs) : ∃ ad cap vals, xv = .slice ad xs.length cap ∧ xs.length ≤ cap ∧ cap ≤ maxLen ∧ DL E.P E.w E.own (flat xs) vals ∧ (∀ u, u ∈ vals → u.oneCell' = true) ∧
    (∃ e, ∀ x, x ∈ xs → x.cells.length = E.P.cellsOf e) ∧ (∀ j u, vals[j]? = some u → ∃ b o, ad = some ⟨b, o, none⟩ ∧ E.w.cell? ⟨b, o + j, none⟩ = some u) := by
  cases x with
  | lit e f ys =>
    simp only [elemsOf] at he; cases he
    obtain ⟨ad, cap, vals, hv, hc, hm, hf, hs', hd, hone, hrd⟩ := hx.lit_inv.lit_inv
    exact ⟨ad, cap, vals, hv, hc, hm, hd, hone, ⟨e, hs'⟩, fun j u hu => by obtain ⟨b, o', h1, _, h2⟩ := hrd j u hu; exact ⟨b, o', h1, h2⟩⟩
  | sl k g =>
    simp only [elemsOf] at he
    split at he
    · cases he
      rename_i e ro hr
      obtain ⟨hk, hg, h3, hrow⟩ := hx.sl_inv
      obtain ⟨hgen, hesz, hs', ad, cap, vals, hv, hc, hm, hd, hone, hrd⟩ := row_reads R hr
      exact ⟨ad, cap, vals, (hrow hgen).trans hv, hc, hm, hd, hone, ⟨e, hs'⟩, fun j u hu => by obtain ⟨b, h1, h2⟩ := hrd j u hu; exact ⟨b, 0, h1, by rw [Nat.zero_add]; exact h2⟩⟩
    · cases he
  | sub k g lo hi =>
    simp only [elemsOf] at he
    split at he
    · rename_i e ro ys hr
      obtain ⟨hk, hg, h3, hrow⟩ := hx.sub_inv
      obtain ⟨hgen, hesz, hs', ad, cap, vals, hv, hc, hm, hd, hone, hrd⟩ := row_reads R hr
      obtain ⟨h0, h01, ad2, cap2, hv2, hc2, hm2, hb2, _⟩ := hrow hgen
      simp only [Ops.std] at he
      split at he
      · cases he
        rename_i hb
        have hlen : ((ys.take hi.toNat).drop lo.toNat).length = (hi - lo).toNat := by simp; omega
        have hfl : flat ((ys.take hi.toNat).drop lo.toNat) = ((flat ys).take (hi.toNat * E.P.cellsOf e)).drop (lo.toNat * E.P.cellsOf e) := by
          rw [flat_drop (fun x hx => hs' x (List.mem_of_mem_take hx)), flat_take hs']
        refine ⟨ad2, cap2, (vals.take (hi.toNat * E.P.cellsOf e)).drop (lo.toNat * E.P.cellsOf e), by rw [hlen]; exact hv2, by rw [hlen]; exact hc2, hm2, by rw [hfl]; exact (hd.take _).drop _,
          fun u hu => hone u (List.mem_of_mem_take (List.mem_of_mem_drop hu)), ⟨e, fun x hx => hs' x (List.mem_of_mem_take (List.mem_of_mem_drop hx))⟩, fun j u hu => ?_⟩
        rw [List.getElem?_drop, List.getElem?_take] at hu
        split at hu
        · rename_i hlt
          obtain ⟨b, h1, h2⟩ := hrd _ u hu
          have hlh : lo < hi := by
            rcases Int.lt_or_eq_of_le h01 with h | h
            · exact h
            · subst h; omega
          obtain ⟨b', hh, hab⟩ := hb2 hlh
          obtain ⟨n', c', hrow'⟩ := hh
          rw [hv, h1] at hrow'
          injection hrow' with hab' _ _
          injection hab' with hab'
          injection hab' with hbb _ _
          subst hbb
          exact ⟨b, _, hab, by rw [hesz]; exact h2⟩
        · cases hu
      · cases he
    · cases he
  | _ => simp [elemsOf] at he
theorem op_len (R : Rel base h E) (ht : VL E t a.tmps.toList) {o : Oper} {x : Operand} {ty : TypeId} {args : Array Operand} {tys : Array TypeId} (ho : o.op = .call { callee := .builtin .len, args, argTypes := tys }) (hargs : args.toList = [x]) (htys : tys.toList = [ty]) {x' : Od} (hx : cmpOd x = some x') :
    (P.underlying ty = some .string → ∀ s, od t x' = .sc (.string s) → Comes1 P base o a h E (.sc (.int .i64 (Ops.std.slen s))) h) ∧
    (∀ e, P.underlying ty = some (.slice e) → ∀ xs, elemsOf Ops.std h (od t x') = some xs → Comes1 P base o a h E (.sc (.int .i64 (Ops.std.llen xs))) h) := by
  have h1 := od_vl ht hx
  have ea : args = #[x] := Array.ext' hargs
  have et : tys = #[ty] := Array.ext' htys
  subst ea et
  refine ⟨fun hs s e => ?_, fun e hs xs hxs => ?_⟩
  · rw [e] at h1
    refine Comes1.same R (v' := .int .i64 s.size) ?_ (.data (.sc rfl .nil) .nil)
    simp [execOp, ho, resolve, invoke, builtin, Builtin.len_, run_underlying hs, h1.sc_inv.1, goInt]
  · obtain ⟨ad, cap, vals, hv, _⟩ := elems_vl R h1 hxs
    refine Comes1.same R (v' := .int .i64 xs.length) ?_ (.data (.sc rfl .nil) .nil)
    simp [execOp, ho, resolve, invoke, builtin, Builtin.len_, run_underlying hs, hv, goInt]
theorem op_ext (R : Rel base h E) (ht : VL E t a.tmps.toList) {o : Oper} {x : Operand} {i : Nat} (ho : o.op = .extract x i) {x' : Od} (hx : cmpOd x = some x') {vs : List AV} (hvs : od t x' = .tup vs) {v : AV} (hv : vs[i]? = some v) : Comes1 P base o a h E v h := by
  have h1 := od_vl ht hx
  rw [hvs] at h1
  obtain ⟨us, he, h2⟩ := h1.tup_inv
  obtain ⟨hlt, rfl⟩ := List.getElem?_eq_some_iff.1 hv
  obtain ⟨u, hu, h3⟩ := h2.get i hlt
  refine Comes1.same R (v' := u) ?_ h3
  simp [execOp, ho, he, Instr.extract, hu]
theorem op_mkfn (R : Rel base h E) (ht : VL E t a.tmps.toList) {o : Oper} {f : FuncId} {first caps : Array Operand} (ho : o.op = .makeFunc (.func f) first caps) (hf : first.size = 0) {l : List Od} (hl : cmpOds caps.toList = some l) : Comes1 P base o a h E (.fn f (l.map (od t))) h := by
  have hv := ods_vl ht hl
  have e0 : first = #[] := Array.eq_empty_of_size_eq_zero hf
  subst e0
  refine Comes1.same R (v' := .func (.func f) #[] (caps.toList.map a.eval).toArray) ?_ (.fn hv .nil)
  have e1 : caps.map a.eval = (caps.toList.map a.eval).toArray := by apply Array.ext'; simp
  simp only [execOp, ho, Instr.makeFunc, Sem.run_bind, Sem.run_pure, Result.andThen_ok, e1]
  simp
theorem op_load (R : Rel base h E) (hP : E.P = P) (ht : VL E t a.tmps.toList) {o : Oper} {ty : TypeId} {p : Operand} (ho : o.op = .load ty p) {ag : Bool} (hag : isAggT P ty = some ag) (hi : (P.info? ty).isSome = true) {p' : Od} (hp : cmpOd p = some p') {v : AV} (hv : loadAt Ops.std h ag (P.cellsOf ty) (od t p') = some v) : Comes1 P base o a h E v h := by
  obtain ⟨v', h1, h2⟩ := load_sound R hP hag hi (od_vl ht hp) hv
  exact Comes1.same R (v' := v') (by simp only [execOp, ho, Sem.run_bind, h1, Result.andThen_ok, Sem.run_pure]) h2
theorem run_sliceBound {w : World} {k : IntKind} {i : Int} {y : Nat} {code : BoundsCode} (h0 : 0 ≤ i) (h1 : i ≤ y) : (Instr.sliceBound (.int k i) y code).run P w = .ok i.toNat w := by
  simp [Instr.sliceBound, asIntOf, h0, h1]
theorem bound_od (ht : VL E t a.tmps.toList) {lo : Option Operand} {lo' : Option Od} (hl : cmpBnd lo = some lo') {d i : Int} (hi : bnd t d lo' = some i) :
    (lo = none ∧ i = d) ∨ ∃ x, lo = some x ∧ a.eval x = .int .i64 i := by
  cases lo with
  | none => simp only [cmpBnd] at hl; cases hl; simp only [bnd] at hi; cases hi; exact .inl ⟨rfl, rfl⟩
  | some x =>
    simp only [cmpBnd] at hl
    obtain ⟨y, hy, rfl⟩ := mapped hl
    simp only [bnd] at hi
    have h1 := od_vl ht hy
    rw [asInt_some hi] at h1
    exact .inr ⟨x, rfl, h1.sc_inv.1⟩
theorem run_bounds {w : World} {isSlice : Bool} {len cap : Nat} {lo hi : Option Value} {i j : Int} (hlo : (lo = none ∧ i = 0) ∨ lo = some (.int .i64 i)) (hhi : (hi = none ∧ j = len) ∨ hi = some (.int .i64 j)) (h0 : 0 ≤ i) (h1 : i ≤ j) (h2 : j ≤ len) (h3 : len ≤ cap) :
    (Instr.sliceBounds isSlice len cap lo hi none).run P w = .ok (i.toNat, j.toNat, cap) w := by
  rcases hlo with ⟨rfl, rfl⟩ | rfl
  · rcases hhi with ⟨rfl, rfl⟩ | rfl
    · simp [Instr.sliceBounds]
    · have e1 := fun code => run_sliceBound (P := P) (w := w) (k := .i64) (i := j) (y := cap) (code := code) (by omega) (by omega)
      simp [Instr.sliceBounds, e1]
  · rcases hhi with ⟨rfl, rfl⟩ | rfl
    · have e2 := fun code => run_sliceBound (P := P) (w := w) (k := .i64) (i := i) (y := len) (code := code) h0 (by omega)
      simp [Instr.sliceBounds, e2]
    · have e1 := fun code => run_sliceBound (P := P) (w := w) (k := .i64) (i := j) (y := cap) (code := code) (by omega) (by omega)
      have e2 := fun code => run_sliceBound (P := P) (w := w) (k := .i64) (i := i) (y := j.toNat) (code := code) h0 (by omega)
      simp [Instr.sliceBounds, e1, e2]
theorem op_ssl (R : Rel base h E) (ht : VL E t a.tmps.toList) {o : Oper} {ty : TypeId} {x : Operand} {lo hi : Option Operand} (ho : o.op = .slice ty x lo hi none) (hs : P.underlying ty = some .string) {x' : Od} (hx : cmpOd x = some x') {lo' hi' : Option Od}
    (hl : cmpBnd lo = some lo') (hh : cmpBnd hi = some hi') {s r : ByteArray} (hsx : od t x' = .sc (.string s)) {i j : Int}
    (hi1 : bnd t 0 lo' = some i) (hj1 : bnd t (Ops.std.slen s) hi' = some j) (hr : Ops.std.ssub s i j = some r) : Comes1 P base o a h E (.sc (.string r)) h := by
  have h1 := od_vl ht hx
  rw [hsx] at h1
  have hv := h1.sc_inv.1
  simp only [Ops.std] at hr
  split at hr
  · cases hr
    rename_i hb
    have hlo := bound_od ht hl hi1
    have hhi := bound_od ht hh hj1
    refine Comes1.same R (v' := .string (s.extract i.toNat j.toNat)) ?_ (.data (.sc rfl .nil) .nil)
    have hb' := run_bounds (P := P) (w := E.w) (isSlice := false) (len := s.size) (cap := s.size) (lo := lo.map a.eval) (hi := hi.map a.eval) (i := i) (j := j) (by rcases hlo with ⟨rfl, rfl⟩ | ⟨y, rfl, hy⟩; exact .inl ⟨rfl, rfl⟩; exact .inr (by simp [hy]))
      (by rcases hhi with ⟨rfl, rfl⟩ | ⟨y, rfl, hy⟩; exact .inl ⟨rfl, rfl⟩; exact .inr (by simp [hy])) hb.1 hb.2.1 hb.2.2 (Nat.le_refl _)
    simp only [execOp, ho, hv, Instr.sliceAt, Sem.run_bind, run_underlying hs, Result.andThen_ok, Instr.slice, Option.map_none]
    simp [hb']
  · cases hr
theorem op_sls (R : Rel base h E) (hP : E.P = P) {e0 : TypeId} (hz : 0 < P.cellsOf e0) (ht : VL E t a.tmps.toList) {o : Oper} {ty : TypeId} {x : Operand} {lo hi : Option Operand} (ho : o.op = .slice ty x lo hi none) (hs : P.underlying ty = some (.slice e0)) (hinfo : (P.info? e0).isSome = true) {x' : Od} (hx : cmpOd x = some x') {lo' hi' : Option Od}
    (hl : cmpBnd lo = some lo') (hh : cmpBnd hi = some hi') {xs ys : List AV} (hxs : elemsOf Ops.std h (od t x') = some xs) {i j : Int}
    (hi1 : bnd t 0 lo' = some i) (hj1 : bnd t (Ops.std.llen xs) hi' = some j) (hr : Ops.std.lsub xs i j = some ys) :
    (∀ f zs, od t x' = .lit e0 f zs → Comes1 P base o a h E (.lit e0 false ys) h) ∧ (∀ f e, od t x' = .lit e f [] → Comes1 P base o a h E (.lit e0 false []) h) ∧ (∀ k g ro, od t x' = .sl k g → rowOf h k g = some (e0, ro, xs) → Comes1 P base o a h E (.sub k g i j) h) := by
  have h1 := od_vl ht hx
  obtain ⟨ad, cap, vals, hv, hc, hm, hd, hone, _, hrd⟩ := elems_vl R h1 hxs
  simp only [Ops.std] at hr
  split at hr
  · cases hr
    rename_i hb
    have hlo := bound_od ht hl hi1
    have hhi := bound_od ht hh hj1
    have hb' := run_bounds (P := P) (w := E.w) (isSlice := true) (len := xs.length) (cap := cap) (lo := lo.map a.eval) (hi := hi.map a.eval) (i := i) (j := j) (by rcases hlo with ⟨rfl, rfl⟩ | ⟨y, rfl, hy⟩; exact .inl ⟨rfl, rfl⟩; exact .inr (by simp [hy]))
      (by rcases hhi with ⟨rfl, rfl⟩ | ⟨y, rfl, hy⟩; exact .inl ⟨rfl, rfl⟩; exact .inr (by simp [hy])) hb.1 hb.2.1 hb.2.2 hc
    have run : (execOp a.eval o).run P E.w = .ok (.value (.slice (if cap = i.toNat then ad else ad.map (·.add (i.toNat * P.cellsOf e0))) (j.toNat - i.toNat) (cap - i.toNat))) E.w := by
      simp only [execOp, ho, hv, Instr.sliceAt, Sem.run_bind, run_underlying hs, Result.andThen_ok, Instr.slice, Option.map_none]
      simp [hb', run_sizeOf hinfo]
    subst hP
    have hlen : ((xs.take j.toNat).drop i.toNat).length = j.toNat - i.toNat := by simp; omega
    refine ⟨fun f zs hl => ?_, fun f e hl => ?_, fun k g ro hk hr => ?_⟩
    · have hz : zs = xs := by rw [hl] at hxs; simp only [elemsOf] at hxs; cases hxs; rfl
      subst hz
      rw [hl] at h1
      obtain ⟨ad2, cap2, vals2, hv2, _, _, _, hs2, hd2, hone2, hrd2⟩ := h1.lit_inv.lit_inv
      rw [hv] at hv2
      injection hv2 with e1 _ e3
      subst e1 e3
      refine Comes1.same R run (.data ?_ .nil)
      rw [← hlen]
      refine .lit (by rw [hlen]; omega) (by omega) (by intro h; cases h) (fun x hx => hs2 x (List.mem_of_mem_take (List.mem_of_mem_drop hx)))
        (vals := (vals2.take (j.toNat * E.P.cellsOf e0)).drop (i.toNat * E.P.cellsOf e0)) (by rw [flat_drop (fun x hx => hs2 x (List.mem_of_mem_take hx)), flat_take hs2]; exact (hd2.take _).drop _)
        (fun u hu => hone2 u (List.mem_of_mem_take (List.mem_of_mem_drop hu))) (fun j' u hu => ?_) .nil
      rw [List.getElem?_drop, List.getElem?_take] at hu
      split at hu
      · rename_i hlt
        obtain ⟨b, o', hab, hno, hcell⟩ := hrd2 _ u hu
        have hne : cap ≠ i.toNat := by
          intro hce
          have h3 := (List.getElem?_eq_some_iff.1 hu).1
          rw [hd2.length, flat_len hs2] at h3
          have : (j.toNat) * E.P.cellsOf e0 ≤ i.toNat * E.P.cellsOf e0 := Nat.mul_le_mul_right _ (by omega)
          omega
        refine ⟨b, o' + i.toNat * E.P.cellsOf e0, by rw [if_neg hne, hab]; simp [add_none], hno, by rw [Nat.add_assoc]; exact hcell⟩
      · cases hu
    · have hz : xs = [] := by rw [hl] at hxs; simp only [elemsOf] at hxs; cases hxs; rfl
      subst hz
      simp at hlen
      have : j.toNat - i.toNat = 0 := by simp at hb; omega
      rw [this] at run
      exact Comes1.same R run (.data (.lit (xs := []) (Nat.zero_le _) (by omega) (by intro h; cases h) (fun x hx => by cases hx) (vals := []) .nil (fun u hu => by cases hu) (fun j u hu => by cases hu) .nil) .nil)
    · rw [hk] at h1
      obtain ⟨hkn, hg, h3, hrow⟩ := h1.sl_inv
      obtain ⟨hgen, hesz, hs', ad2, cap2, vals2, hv2, hc2, hm2, hd2, hone2, hrd2⟩ := row_reads R hr
      have hvr := hrow hgen
      rw [hv, hv2] at hvr
      injection hvr with e1 _ e3
      subst e1 e3
      refine Comes1.same R run (.sub hkn hg rfl (fun _ => ⟨hb.1, hb.2.1, _, _, by rw [show (j - i).toNat = j.toNat - i.toNat by omega], by omega, by omega, fun hij => ?_, fun hi0 => ⟨xs.length, ?_⟩⟩) .nil)
      · have hne : cap ≠ i.toNat := by omega
        obtain ⟨u, hu⟩ := elem_cell hs' hz hd2.length (i := 0) (by omega)
        obtain ⟨b, hab, _⟩ := hrd2 _ u hu
        exact ⟨b, headAt_of hv2 hab, by rw [if_neg hne, hab, hesz]; simp [add_none]⟩
      · subst hi0
        rw [hv2]
        by_cases hce : cap = 0
        · subst hce; simp
        · rw [if_neg (by simpa using hce)]
          cases ad with
          | none => simp
          | some A => simp [Addr.add]
  · cases hr
end
end Go.Ab
