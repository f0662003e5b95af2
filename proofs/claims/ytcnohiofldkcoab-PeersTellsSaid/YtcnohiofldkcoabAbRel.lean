/- How the interpreter's store lies in memory, and what a step may do to it: definitions and lemmas, over any program. -/
import Derived.Test.YtcnohiofldkcoabAbCmp
namespace Go.Ab
open Go

/-- A row of the interpreter's own: of no room, or at the head of a block of its own. -/
def RowAt (base : Nat) (w : World) (e : TypeId) (size : Nat) (v : Value) (n : Nat) (vals : List Value) : Prop :=
  vals.length = n * size ∧
  ((n = 0 ∧ ∃ a, v = .slice a 0 0) ∨
   ∃ g cap cur, 0 < cap ∧ v = .slice (some ⟨g, 0, none⟩) n cap ∧ base ≤ g ∧ w.heap[g]? = some (.cells cur e (0, 0)) ∧ n ≤ cap ∧ cap ≤ maxLen ∧ cur.size = cap * size ∧ cur.toList.take (n * size) = vals)

def rowBlk : Value → Option Nat
  | .slice (some a) _ (_ + 1) => some a.block
  | _ => none

def entBlk (E : Env) (k : Nat) : Ent → Option Nat
  | .box _ _ => some (E.box k)
  | .row _ _ false _ => rowBlk (E.row k)
  | .row _ _ true _ => none
def blkOf (E : Env) (h : Store) (k : Nat) : Option Nat := (h[k]?).bind (entBlk E k)

def EntOk (base : Nat) (E : Env) (k : Nat) : Ent → Prop
  | .box t cs => E.gen k = none ∧ E.top k = 0 ∧ base ≤ E.box k ∧ (∀ c, c ∈ cs → c.one = true) ∧ ∃ vals, E.w.heap[E.box k]? = some (.cells vals.toArray t (0, 0)) ∧ VL E cs vals
  | .row e g false xs => E.gen k = some g ∧ E.top k = g ∧ E.esz k = E.P.cellsOf e ∧ (∀ x, x ∈ xs → x.cells.length = E.P.cellsOf e) ∧
      ∃ vals, RowAt base E.w e (E.P.cellsOf e) (E.row k) xs.length vals ∧ DL E.P E.w E.own (flat xs) vals ∧ ∀ u, u ∈ vals → u.oneCell' = true
  | .row e g true xs => E.gen k = some g ∧ E.top k = g ∧ E.esz k = E.P.cellsOf e ∧ DL E.P E.w E.own [.lit e false xs] [E.row k] ∧ (xs ≠ [] → ∃ b, HeadAt (E.row k) b)

structure Rel (base : Nat) (h : Store) (E : Env) : Prop where
  n : E.n = h.length
  le : base ≤ E.w.heap.size
  ent : ∀ k e, h[k]? = some e → EntOk base E k e
  nogen : ∀ k, h.length ≤ k → E.gen k = none
  own : ∀ k b, blkOf E h k = some b → E.own b
  inj : ∀ k j b, blkOf E h k = some b → blkOf E h j = some b → k = j
  lt : ∀ b, E.own b → b < E.w.heap.size

/-- What a step may do. -/
structure Step (h : Store) (E : Env) (h' : Store) (E' : Env) : Prop where
  ext : Ext E E'
  os : E'.w.os = E.w.os
  tape : E'.w.tape = E.w.tape
  output : E'.w.output = E.w.output
  size : E.w.heap.size ≤ E'.w.heap.size
  heap : ∀ b, b < E.w.heap.size → (∀ k, blkOf E h k ≠ some b) → E'.w.heap[b]? = E.w.heap[b]?
  fresh : ∀ b, E'.own b → E.own b ∨ E.w.heap.size ≤ b
  held : ∀ b, E.own b → (∀ k, blkOf E h k ≠ some b) → E'.own b
  blk : ∀ k b, blkOf E' h' k = some b → (∃ j, blkOf E h j = some b) ∨ E.w.heap.size ≤ b

theorem Ext.refl (E : Env) : Ext E E := ⟨rfl, Nat.le_refl _, fun _ _ => Nat.le_refl _, fun _ _ _ _ h => ⟨h, rfl, rfl⟩, fun _ _ => rfl, fun _ _ h h' => ⟨h, h'⟩⟩
theorem Ext.trans {A B C : Env} (x : Ext A B) (y : Ext B C) : Ext A C where
  P := y.P.trans x.P
  n := Nat.le_trans x.n y.n
  top k hk := Nat.le_trans (x.top k hk) (y.top k (Nat.lt_of_lt_of_le hk x.n))
  gen k g hk hg hc := by
    obtain ⟨h1, h2, h3⟩ := y.gen k g (Nat.lt_of_lt_of_le hk x.n) (Nat.le_trans hg (x.top k hk)) hc
    obtain ⟨h4, h5, h6⟩ := x.gen k g hk hg h1
    exact ⟨h4, h2.trans h5, h3.trans h6⟩
  box k hk := (y.box k (Nat.lt_of_lt_of_le hk x.n)).trans (x.box k hk)
  keep a v h h' := by
    obtain ⟨h1, h2⟩ := x.keep a v h h'
    exact y.keep a v h1 h2
theorem Step.refl (h : Store) (E : Env) : Step h E h E := ⟨Ext.refl E, rfl, rfl, rfl, Nat.le_refl _, fun _ _ _ => rfl, fun _ h => .inl h, fun _ h _ => h, fun k _ h => .inl ⟨k, h⟩⟩
theorem Step.trans {h h' h'' : Store} {A B C : Env} (x : Step h A h' B) (y : Step h' B h'' C) (hlt : ∀ b, A.own b → b < A.w.heap.size) : Step h A h'' C where
  ext := x.ext.trans y.ext
  os := y.os.trans x.os
  tape := y.tape.trans x.tape
  output := y.output.trans x.output
  size := Nat.le_trans x.size y.size
  heap b hb hn := by
    rw [y.heap b (Nat.lt_of_lt_of_le hb x.size) (fun k hk => ?_), x.heap b hb hn]
    rcases x.blk k b hk with ⟨j, hj⟩ | hj
    · exact hn j hj
    · omega
  fresh b hb := by
    rcases y.fresh b hb with h1 | h1
    · exact x.fresh b h1
    · exact .inr (Nat.le_trans x.size h1)
  held b hb hn := by
    refine y.held b (x.held b hb hn) (fun k hk => ?_)
    rcases x.blk k b hk with ⟨j, hj⟩ | hj
    · exact hn j hj
    · have := hlt b hb; omega
  blk k b hk := by
    rcases y.blk k b hk with ⟨j, hj⟩ | hj
    · exact x.blk j b hj
    · exact .inr (Nat.le_trans x.size hj)

/-- What follows from how a step treats blocks. -/
theorem keep_of {base : Nat} {h : Store} {E E' : Env} (R : Rel base h E) (heap : ∀ b, b < E.w.heap.size → (∀ k, blkOf E h k ≠ some b) → E'.w.heap[b]? = E.w.heap[b]?)
    (fresh : ∀ b, E'.own b → E.own b ∨ E.w.heap.size ≤ b) (a : Addr) (v : Value) (ho : ¬ E.own a.block) (hc : E.w.cell? a = some v) : ¬ E'.own a.block ∧ E'.w.cell? a = some v := by
  have hlt := block_lt_of_cell hc
  refine ⟨fun h => ?_, ?_⟩
  · rcases fresh _ h with h1 | h1
    · exact ho h1
    · omega
  · exact (World.cell?_of_block (heap _ hlt (fun k hk => ho (R.own k _ hk)))).trans hc

theorem DL.step {E E' : Env} (x : Ext E E') {l : List AV} {vs : List Value} (h : DL E.P E.w E.own l vs) : DL E'.P E'.w E'.own l vs := by
  rw [x.P]; exact h.ext x.keep

theorem RowAt.step {base : Nat} {w w' : World} {e : TypeId} {size : Nat} {v : Value} {n : Nat} {vals : List Value} (h : RowAt base w e size v n vals) (hb : ∀ b, rowBlk v = some b → w'.heap[b]? = w.heap[b]?) : RowAt base w' e size v n vals := by
  refine ⟨h.1, ?_⟩
  rcases h.2 with h1 | ⟨g, cap, cur, h0, rfl, h2, h3, h4⟩
  · exact .inl h1
  · refine .inr ⟨g, cap, cur, h0, rfl, h2, ?_, h4⟩
    rw [hb g (by cases cap with | zero => omega | succ c => rfl)]
    exact h3

/-- An entry that nobody touches. -/
theorem EntOk.step {base : Nat} {E E' : Env} {k : Nat} {e : Ent} (x : Ext E E') (h : EntOk base E k e)
    (env : E'.gen k = E.gen k ∧ E'.top k = E.top k ∧ E'.esz k = E.esz k ∧ E'.row k = E.row k ∧ E'.box k = E.box k)
    (heap : ∀ b, entBlk E k e = some b → E'.w.heap[b]? = E.w.heap[b]?) : EntOk base E' k e := by
  obtain ⟨e1, e2, e3, e4, e5⟩ := env
  cases e with
  | box t cs =>
    obtain ⟨h1, h0, h2, h3, vals, h4, h5⟩ := h
    refine ⟨by rw [e1]; exact h1, by rw [e2]; exact h0, by rw [e5]; exact h2, h3, vals, ?_, h5.ext x⟩
    rw [e5, heap _ rfl]; exact h4
  | row e g ro xs =>
    cases ro with
    | false =>
      obtain ⟨h1, h2, h3, h4, vals, h5, h6, h7⟩ := h
      refine ⟨by rw [e1]; exact h1, by rw [e2]; exact h2, by rw [e3, x.P]; exact h3, fun y hy => by rw [x.P]; exact h4 y hy, vals, ?_, h6.step x, h7⟩
      rw [e4, x.P]; exact h5.step (fun b hb => heap b hb)
    | true =>
      obtain ⟨h1, h2, h3, h4, h5⟩ := h
      exact ⟨by rw [e1]; exact h1, by rw [e2]; exact h2, by rw [e3, x.P]; exact h3, by rw [e4]; exact h4.step x, by rw [e4]; exact h5⟩

theorem blkOf_some {E : Env} {h : Store} {k b : Nat} (hb : blkOf E h k = some b) : ∃ e, h[k]? = some e ∧ entBlk E k e = some b := by
  unfold blkOf at hb
  exact Option.bind_eq_some_iff.1 hb
theorem blkOf_of {E : Env} {h : Store} {k : Nat} {e : Ent} (he : h[k]? = some e) : blkOf E h k = entBlk E k e := by
  unfold blkOf; rw [he]; rfl
theorem entBlk_same {E E' : Env} {k : Nat} (h4 : E'.row k = E.row k) (h5 : E'.box k = E.box k) (e : Ent) : entBlk E' k e = entBlk E k e := by
  cases e with
  | box => simp only [entBlk, h5]
  | row _ _ ro _ => cases ro <;> simp only [entBlk, h4]

/-- One entry is new, or has changed. -/
theorem Rel.upd {base : Nat} {h h' : Store} {E E' : Env} (k : Nat) (e' : Ent) (R : Rel base h E) (S : Step h E h' E') (hlen : E'.n = h'.length) (hle : h.length ≤ h'.length) (hk : h'[k]? = some e')
    (others : ∀ j, j ≠ k → h'[j]? = h[j]?)
    (env : ∀ j, j ≠ k → E'.gen j = E.gen j ∧ E'.top j = E.top j ∧ E'.esz j = E.esz j ∧ E'.row j = E.row j ∧ E'.box j = E.box j)
    (heap : ∀ j, j ≠ k → ∀ b, blkOf E h j = some b → E'.w.heap[b]? = E.w.heap[b]? ∧ E'.own b) (ok : EntOk base E' k e')
    (kown : ∀ b, blkOf E' h' k = some b → E'.own b ∧ ∀ j, j ≠ k → blkOf E h j ≠ some b) (lt : ∀ b, E'.own b → b < E'.w.heap.size) : Rel base h' E' := by
  have same : ∀ j, j ≠ k → blkOf E' h' j = blkOf E h j := fun j hj => by
    obtain ⟨_, _, _, e4, e5⟩ := env j hj
    unfold blkOf; rw [others j hj]
    cases h[j]? with
    | none => rfl
    | some e => exact entBlk_same e4 e5 e
  refine ⟨hlen, Nat.le_trans R.le S.size, fun j e hj => ?_, fun j hj => ?_, fun j b hj => ?_, fun i j b hi hj => ?_, lt⟩
  · by_cases e0 : j = k
    · subst e0; rw [hk] at hj; cases hj; exact ok
    · have hj0 := hj
      rw [others j e0] at hj
      exact (R.ent j e hj).step S.ext (env j e0) (fun b hb => (heap j e0 b (by rw [blkOf_of hj]; exact hb)).1)
  · have e0 : j ≠ k := fun e0 => by
      subst e0
      rw [List.getElem?_eq_none hj] at hk
      cases hk
    rw [(env j e0).1]; exact R.nogen j (Nat.le_trans hle hj)
  · by_cases e0 : j = k
    · subst e0; exact (kown b hj).1
    · rw [same j e0] at hj; exact (heap j e0 b hj).2
  · by_cases e1 : i = k
    · by_cases e2 : j = k
      · rw [e1, e2]
      · subst e1; rw [same j e2] at hj; exact absurd hj ((kown b hi).2 j e2)
    · by_cases e2 : j = k
      · subst e2; rw [same i e1] at hi; exact absurd hi ((kown b hj).2 i e1)
      · rw [same i e1] at hi; rw [same j e2] at hj; exact R.inj i j b hi hj
end Go.Ab
