/- Operations that come to a value and leave the store as it is. -/
import Derived.Test.YtcnohiofldkcoabAbPure
import Derived.Laws.Slices
namespace Go.Ab
open Go
set_option linter.unusedSimpArgs false
set_option linter.unusedVariables false

/-- The operation comes to a value that is what the interpreter says, in a world in which the store lies as it says. -/
def Comes1 (P : Program) (base : Nat) (o : Oper) (a : Act) (h : Store) (E : Env) (v : AV) (h' : Store) : Prop :=
  ∃ v' E', ((execOp a.eval o).run P E.w = .ok (.value v') E'.w ∨ ((execOp a.eval o).run P E.w = .ok .skip E'.w ∧ v' = undef)) ∧ Rel base h' E' ∧ Step h E h' E' ∧ VL E' [v] [v']

theorem Comes1.same {P : Program} {base : Nat} {o : Oper} {a : Act} {h : Store} {E : Env} {v : AV} (R : Rel base h E) {v' : Value} (hr : (execOp a.eval o).run P E.w = .ok (.value v') E.w) (hv : VL E [v] [v']) : Comes1 P base o a h E v h :=
  ⟨v', E, .inl hr, R, Step.refl h E, hv⟩

theorem mapped {α β : Type} {f : α → β} {x : Option α} {b : β} (h : x.map f = some b) : ∃ a, x = some a ∧ f a = b := by simpa using h

/-! ### Building structs -/
theorem foldl_splice (new : List Value) : ∀ (cs : Array Value) (off j : Nat), off + j + new.length ≤ cs.size →
    ((new.zipIdx j).foldl (fun cs (c, j) => cs.setIfInBounds (off + j) c) cs).toList = cs.toList.take (off + j) ++ new ++ cs.toList.drop (off + j + new.length) := by
  induction new with
  | nil => intro cs off j h; simp
  | cons c new ih =>
    intro cs off j h
    simp only [List.length_cons] at h
    rw [List.zipIdx_cons, List.foldl_cons, ih _ _ _ (by simp; omega)]
    simp only [Array.toList_setIfInBounds]
    have hlt : off + j < cs.toList.length := by simp; omega
    have hl : (cs.toList.take (off + j)).length = off + j := by simp; omega
    generalize hp : off + j = p at *
    rw [show off + (j + 1) = p + 1 by omega]
    rw [show (cs.toList.set p c).take (p + 1) = cs.toList.take p ++ [c] by
      rw [List.take_add_one, List.take_set_of_le (Nat.le_refl _), List.getElem?_set_self hlt]; rfl]
    rw [List.drop_set_of_lt (by omega)]
    simp only [List.length_cons, List.append_assoc, List.cons_append, List.nil_append]
    congr 3; congr 1; omega

theorem fill_one (place : Nat → Option (Nat × Nat)) (cells : Array Value) (i off size : Nat) (v : Value) (rest : List (Nat × Value)) (hp : place i = some (off, size)) (hs : v.cells.size = size) (hle : off + size ≤ cells.size) :
    ∃ cells', cells'.size = cells.size ∧ cells'.toList = cells.toList.take off ++ v.cells.toList ++ cells.toList.drop (off + v.cells.toList.length) ∧ Instr.fill place cells ((i, v) :: rest) = Instr.fill place cells' rest := by
  refine ⟨v.cells.zipIdx.foldl (fun cs (c, j) => cs.setIfInBounds (off + j) c) cells, ?_, ?_, ?_⟩
  · rw [← Array.length_toList, ← Array.foldl_toList, Array.toList_zipIdx, foldl_splice v.cells.toList cells off 0 (by simp; omega)]
    simp; omega
  · rw [← Array.foldl_toList, Array.toList_zipIdx, foldl_splice v.cells.toList cells off 0 (by simp; omega)]
    simp
  · simp [Instr.fill, hp, hs]; omega

theorem cells_vl {E : Env} {x : AV} {v : Value} (h : VL E [x] [v]) (h1 : x.cells.all AV.one = true) : VL E x.cells v.cells.toList := by
  cases x with
  | agg cs => obtain ⟨vs, rfl, h1⟩ := h.agg_inv; simpa [AV.cells, Value.cells] using h1
  | tup => simp [AV.cells, AV.one] at h1
  | bad => simp [AV.cells, AV.one] at h1
  | sc v => obtain ⟨rfl, hp⟩ := h.sc_inv; have : (v.cells) = #[v] := by cases v <;> simp_all [plainSc, Value.cells]
            simpa [AV.cells, this] using h
  | lit => obtain ⟨_, _, _, rfl, _⟩ := h.lit_inv.lit_inv; simpa [AV.cells, Value.cells] using h
  | sl => have h1 := h.sl_inv.2.2.1; have : v.cells = #[v] := by cases v <;> simp_all [Value.oneCell', Value.cells]
          simpa [AV.cells, this] using h
  | sub => have h1 := h.sub_inv.2.2.1; have : v.cells = #[v] := by cases v <;> simp_all [Value.oneCell', Value.cells]
           simpa [AV.cells, this] using h
  | bptr => obtain ⟨_, rfl⟩ := h.bptr_inv; simpa [AV.cells, Value.cells] using h
  | rptr => have h1 : v.oneCell' = true := by cases h with
              | data h t => cases h
              | rptr _ _ h1 _ _ => exact h1
            have : v.cells = #[v] := by cases v <;> simp_all [Value.oneCell', Value.cells]
            simpa [AV.cells, this] using h
  | lptr => obtain ⟨_, _, _, _, _, _, rfl⟩ := h.lptr_inv; simpa [AV.cells, Value.cells] using h
  | fn => obtain ⟨_, rfl, _⟩ := h.fn_inv; simpa [AV.cells, Value.cells] using h

theorem splice_vl {E : Env} {cs new : List AV} {us news : List Value} (h : VL E cs us) (h' : VL E new news) (off : Nat) : VL E (splice cs off new) (us.take off ++ news ++ us.drop (off + news.length)) := by
  rw [h'.length]
  exact ((h.take off).append h').append (h.drop _)
theorem splice_length {cs new : List AV} {off : Nat} (h : off + new.length ≤ cs.length) : (splice cs off new).length = cs.length := by
  simp [splice]; omega

theorem run_places {P : Program} {w : World} (fs : List Field) : (∀ f, f ∈ fs → (P.info? f.type).isSome = true) →
    (fs.mapM (fun f => (do pure (f.offset, ← sizeOf f.type) : Sem (Nat × Nat)))).run P w = .ok (fs.map fun f => (f.offset, P.cellsOf f.type)) w := by
  induction fs with
  | nil => intro _; rfl
  | cons f fs ih =>
    intro h
    rw [List.mapM_cons]
    simp only [Sem.run_bind, run_sizeOf (h f (List.mem_cons_self ..)), Result.andThen_ok, Sem.run_pure, ih (fun g hg => h g (List.mem_cons_of_mem _ hg)), List.map_cons]

theorem zeroOf_some {P : Program} {E : Env} {t : TypeId} {z : AV} (h : zeroOf P t = some z) : ∃ i zv, P.info? t = some i ∧ i.zero = some zv ∧ zv.cells.size = P.cellsOf t ∧ VL E z.cells zv.cells.toList ∧ VL E [z] [zv] := by
  unfold zeroOf at h
  split at h
  · rename_i i hi
    split at h
    · rename_i zv hz
      split at h
      · rename_i hsz
        have hc : P.cellsOf t = i.size := by simp [Program.cellsOf, hi]
        split at h
        · rename_i cs
          obtain ⟨l, hl, rfl⟩ := mapped h
          have := (cmpVals_dl (E := E) hl).vl
          exact ⟨i, _, hi, hz, by rw [hc]; exact hsz, by simpa [AV.cells, Value.cells] using this, by simpa using VL.agg this .nil⟩
        · rename_i hne
          have hd := cmpVal_vl (E := E) h
          have hv : VL E [z] [zv] := .data hd .nil
          have h1 : z.cells.all AV.one = true := by
            unfold cmpVal at h
            split at h
            · cases h; rfl
            · split at h
              · cases h; rfl
              · cases h
          exact ⟨i, zv, hi, hz, by rw [hc]; exact hsz, cells_vl hv h1, hv⟩
      · cases h
    · cases h
  · cases h

theorem fill_sound {P : Program} {E : Env} {t : List AV} {a : Act} (ht : VL E t a.tmps.toList) {s : TypeId} {fs : Array Field} (hs : P.underlying s = some (.struct fs)) (parts : List (Nat × Operand)) :
    ∀ {l : List (Nat × Nat × Od)} {cells : List AV} {us : Array Value} {cs : List AV}, cmpParts P s parts = some l → VL E cells us.toList → fillIn t cells l = some cs →
      ∃ us', Instr.fill (fun i => (fs.map fun f => (f.offset, P.cellsOf f.type))[i]?) us (parts.map fun (i, x) => (i, a.eval x)) = some us' ∧ VL E cs us'.toList := by
  induction parts with
  | nil =>
    intro l cells us cs hl hv hf
    simp only [cmpParts] at hl; cases hl
    simp only [fillIn] at hf; cases hf
    exact ⟨us, rfl, hv⟩
  | cons p parts ih =>
    intro l cells us cs hl hv hf
    obtain ⟨i, x⟩ := p
    simp only [cmpParts] at hl
    split at hl
    · rename_i f y l' hfo hy hl'
      split at hl
      · cases hl
        simp only [fillIn] at hf
        split at hf
        · rename_i hc
          obtain ⟨h1, h2, h3⟩ := hc
          have hx := od_vl ht hy
          have hcv := cells_vl hx h2
          have hfi : fs[i]? = some f := by simpa [fieldOf, hs] using hfo
          have hsz : (a.eval x).cells.size = P.cellsOf f.type := by rw [← h1, ← hcv.length]; simp
          have hus : us.size = cells.length := by rw [← hv.length]; simp
          obtain ⟨us1, e1, e2, e3⟩ := fill_one (fun i => (fs.map fun f => (f.offset, P.cellsOf f.type))[i]?) us i f.offset (P.cellsOf f.type) (a.eval x) (parts.map fun (i, x) => (i, a.eval x)) (by simp [hfi]) hsz (by omega)
          have hv1 : VL E (splice cells f.offset (od t y).cells) us1.toList := by rw [e2]; exact splice_vl hv hcv _
          obtain ⟨us', e4, e5⟩ := ih hl' hv1 hf
          exact ⟨us', by rw [List.map_cons, e3]; exact e4, e5⟩
        · cases hf
      · cases hl
    · cases hl

/-- A new block that is nobody's. -/
theorem alloc_free {base : Nat} {h : Store} {E : Env} (R : Rel base h E) (o : Obj) : Rel base h { E with w := E.w.alloc o } ∧ Step h E h { E with w := E.w.alloc o } := by
  have hx : Ext E { E with w := E.w.alloc o } := ⟨rfl, Nat.le_refl _, fun _ _ => Nat.le_refl _, fun _ _ _ _ h => ⟨h, rfl, rfl⟩, fun _ _ => rfl, fun a v ho hc => ⟨ho, by
    rw [← hc]; exact World.cell?_of_block (heap_alloc_old E.w o _ (block_lt_of_cell hc))⟩⟩
  have hs : Step h E h { E with w := E.w.alloc o } := ⟨hx, rfl, rfl, rfl, by simp, fun b hb _ => heap_alloc_old E.w o b hb, fun _ h => .inl h, fun _ h _ => h, fun k _ h => .inl ⟨k, h⟩⟩
  refine ⟨⟨R.n, by simp; exact Nat.le_succ_of_le R.le, fun k e he => ?_, R.nogen, R.own, R.inj, fun b hb => by simp; exact Nat.lt_succ_of_lt (R.lt b hb)⟩, hs⟩
  exact (R.ent k e he).step hx ⟨rfl, rfl, rfl, rfl, rfl⟩ (fun b hb => heap_alloc_old E.w o b (R.lt b (R.own k b (by rw [blkOf_of he]; exact hb))))
end Go.Ab
