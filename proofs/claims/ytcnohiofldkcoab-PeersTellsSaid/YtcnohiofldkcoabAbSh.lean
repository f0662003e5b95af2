/- What functions come to as functions of Lean's own data: asking for a value by its text; the work on typed lists. -/
import Derived.Test.YtcnohiofldkcoabAbUse
namespace Go.Ab
open Go
set_option linter.unusedVariables false

/-- No two are told alike. -/
class Inj {α β : Type} (e : α → β) : Prop where
  inj : ∀ a b, e a = e b → a = b
class InjS {α β : Type} (e : (Nat → Nat) → α → β) : Prop where
  inj : ∀ γ γ' a b, e γ a = e γ' b → a = b

section
variable {α β ι : Type}
open Classical in
/-- The one of which this is the text, if it is one's. -/
noncomputable def ask (e : α → β) (y : Option β) : Option α := if h : ∃ a, y = some (e a) then some h.choose else none
theorem ask_some {e : α → β} {y : Option β} {a : α} (h : ask e y = some a) : y = some (e a) := by
  unfold ask at h
  split at h
  · rename_i hh; cases h; exact hh.choose_spec
  · cases h
theorem ask_of {e : α → β} [I : Inj e] {y : Option β} {a : α} (h : y = some (e a)) : ask e y = some a := by
  have hh : ∃ a, y = some (e a) := ⟨a, h⟩
  unfold ask
  rw [dif_pos hh]
  have := h.symm.trans hh.choose_spec
  rw [I.inj _ _ (Option.some.inj this)]
theorem ask_enc {e : α → β} [Inj e] (a : α) : ask e (some (e a)) = some a := ask_of rfl
theorem ask_none {e : α → β} : ask e none = none := by
  unfold ask
  rw [dif_neg]
  rintro ⟨a, h⟩; cases h

open Classical in
/-- As 'ask', whatever the counts of growth are. -/
noncomputable def asks (y : (Nat → Nat) → Option β) (e : (Nat → Nat) → α → β) : Option α := if h : ∃ a, ∀ γ, ∃ γ', y γ = some (e γ' a) then some h.choose else none
theorem asks_some {y : (Nat → Nat) → Option β} {e : (Nat → Nat) → α → β} {a : α} (h : asks y e = some a) (γ : Nat → Nat) : ∃ γ', y γ = some (e γ' a) := by
  unfold asks at h
  split at h
  · rename_i hh; cases h; exact hh.choose_spec γ
  · cases h
theorem asks_of {y : (Nat → Nat) → Option β} {e : (Nat → Nat) → α → β} [I : InjS e] {a : α} (h : ∀ γ, ∃ γ', y γ = some (e γ' a)) : asks y e = some a := by
  have hh : ∃ a, ∀ γ, ∃ γ', y γ = some (e γ' a) := ⟨a, h⟩
  unfold asks
  rw [dif_pos hh]
  obtain ⟨g1, h1⟩ := hh.choose_spec (fun _ => 0)
  obtain ⟨g2, h2⟩ := h (fun _ => 0)
  rw [h1] at h2
  rw [I.inj _ _ _ _ (Option.some.inj h2)]

/-- Counts, written out. -/
def gam : List Nat → Nat → Nat
  | [], _ => 0
  | x :: _, 0 => x
  | _ :: l, n + 1 => gam l n

theorem cond_some {c : Bool} {x y : Option α} {a : α} (h : (bif c then x else y) = some a) : (c = true ∧ x = some a) ∨ (c = false ∧ y = some a) := by
  cases c
  · exact .inr ⟨rfl, h⟩
  · exact .inl ⟨rfl, h⟩
theorem bind_some {x : Option α} {f : α → Option β} {b : β} (h : x.bind f = some b) : ∃ a, x = some a ∧ f a = some b := Option.bind_eq_some_iff.1 h
theorem need_some {c : Bool} {x : Option α} {a : α} (h : (bif c then x else none) = some a) : c = true ∧ x = some a := by
  cases c
  · cases h
  · exact ⟨rfl, h⟩
theorem need_some' {c : Bool} {x : Option α} {a : α} (h : (bif c then none else x) = some a) : c = false ∧ x = some a := by
  cases c
  · exact ⟨rfl, h⟩
  · cases h
end

/-- What nobody looks at, so many times. -/
def bd : Nat → List AV → List AV
  | 0, l => l
  | n + 1, l => .bad :: bd n l
theorem bd_inj {n : Nat} {l l' : List AV} : bd n l = bd n l' ↔ l = l' := by
  induction n with
  | zero => exact Iff.rfl
  | succ n ih => simp only [bd, List.cons.injEq, true_and, ih]
/-- A round whose own text stands beside it. -/
def roundAs (I : Ifc) (lv : List Nat) (m : Nat) (d c : Cd) (s : St) : Option (X × St) :=
  match exec I c s with
  | some (.nor, s') => I.loop lv m d (tidy lv m s')
  | some (.brk id, s') => some (.brk id, snip m s')
  | some (.ret, s') => some (.ret, snip m s')
  | none => none

/-! ### Typed lists -/

instance : Inj vI := ⟨fun _ _ h => by injection h with h; injection h⟩
instance : Inj vU := ⟨fun _ _ h => by injection h with h; injection h⟩
instance : Inj vW := ⟨fun _ _ h => by injection h with h; injection h⟩
instance : Inj vH := ⟨fun _ _ h => by injection h with h; injection h⟩
instance : Inj vB := ⟨fun _ _ h => by injection h with h; injection h⟩
instance : Inj vF := ⟨fun _ _ h => by injection h with h; injection h⟩
instance : Inj vT := ⟨fun _ _ h => by injection h with h; injection h⟩
theorem map_inj {α β : Type} {e : α → β} [I : Inj e] : ∀ {l l' : List α}, l.map e = l'.map e → l = l'
  | [], [], _ => rfl
  | [], _ :: _, h => by cases h
  | _ :: _, [], h => by cases h
  | x :: l, y :: l', h => by
    simp only [List.map_cons, List.cons.injEq] at h
    rw [I.inj _ _ h.1, map_inj h.2]
theorem map_iff {α β : Type} {e : α → β} [Inj e] {l l' : List α} : l.map e = l'.map e ↔ l = l' := ⟨map_inj, fun h => by rw [h]⟩
instance {α β : Type} {e : α → β} [Inj e] : Inj (List.map e) := ⟨fun _ _ h => map_inj h⟩
/-- A list as a value. -/
def eL {α : Type} (t : TypeId) (e : α → AV) (l : List α) : AV := .lit t false (l.map e)
instance {α : Type} {t : TypeId} {e : α → AV} [Inj e] : Inj (eL t e) := ⟨fun _ _ h => by injection h with _ _ h; exact map_inj h⟩

theorem eL_iff {α : Type} {t : TypeId} {e : α → AV} [Inj e] {a b : List α} : eL t e a = eL t e b ↔ a = b := ⟨Inj.inj a b, fun h => by rw [h]⟩
/-! ### What calls come to, told plainly -/
section
variable {α β γ δ : Type}
def R0 (_ : Unit) : AV × Store := (.tup [], [])
def R1 (e : α → AV) (a : α) : AV × Store := (e a, [])
def R2 (e : α → AV) (e' : β → AV) (a : α × β) : AV × Store := (.tup [e a.1, e' a.2], [])
def R3 (e : α → AV) (e' : β → AV) (e'' : γ → AV) (a : α × β × γ) : AV × Store := (.tup [e a.1, e' a.2.1, e'' a.2.2], [])
def R4 (e : α → AV) (e' : β → AV) (e'' : γ → AV) (e3 : δ → AV) (a : α × β × γ × δ) : AV × Store := (.tup [e a.1, e' a.2.1, e'' a.2.2.1, e3 a.2.2.2], [])
/-- A list of one's own. -/
def K1 (t : TypeId) (e : α → AV) (a : List α) : AV × Store := (.sl 0 0, [.row t 0 false (a.map e)])
instance : Inj R0 := ⟨fun _ _ _ => rfl⟩
instance {e : α → AV} [I : Inj e] : Inj (R1 e) := ⟨fun a b h => I.inj _ _ (Prod.mk.inj h).1⟩
instance {e : α → AV} {e' : β → AV} [I : Inj e] [J : Inj e'] : Inj (R2 e e') := ⟨fun a b h => by
  simp only [R2, Prod.mk.injEq, AV.tup.injEq, List.cons.injEq, and_true] at h
  exact Prod.ext (I.inj _ _ h.1) (J.inj _ _ h.2)⟩
instance {e : α → AV} {e' : β → AV} {e'' : γ → AV} [I : Inj e] [J : Inj e'] [K : Inj e''] : Inj (R3 e e' e'') := ⟨fun a b h => by
  simp only [R3, Prod.mk.injEq, AV.tup.injEq, List.cons.injEq, and_true] at h
  exact Prod.ext (I.inj _ _ h.1) (Prod.ext (J.inj _ _ h.2.1) (K.inj _ _ h.2.2))⟩
instance {e : α → AV} {e' : β → AV} {e'' : γ → AV} {e3 : δ → AV} [I : Inj e] [J : Inj e'] [K : Inj e''] [L : Inj e3] : Inj (R4 e e' e'' e3) := ⟨fun a b h => by
  simp only [R4, Prod.mk.injEq, AV.tup.injEq, List.cons.injEq, and_true] at h
  exact Prod.ext (I.inj _ _ h.1) (Prod.ext (J.inj _ _ h.2.1) (Prod.ext (K.inj _ _ h.2.2.1) (L.inj _ _ h.2.2.2)))⟩
instance {t : TypeId} {e : α → AV} [Inj e] : Inj (K1 t e) := ⟨fun a b h => by
  simp only [K1, Prod.mk.injEq, List.cons.injEq, Ent.row.injEq, map_iff, and_true, true_and] at h
  exact h⟩
end

section
variable {α : Type} (e : α → AV)
noncomputable def xlen (l : List α) : Int := Ops.std.llen (l.map e)
noncomputable def xget (l : List α) (i : Int) : Option α := ask e (Ops.std.lget (l.map e) i)
noncomputable def xsub (l : List α) (lo hi : Int) : Option (List α) := ask (List.map e) (Ops.std.lsub (l.map e) lo hi)
noncomputable def xroom (b : Nat) (l l' : List α) : Bool := Ops.std.room b (l.map e) (l'.map e)
def xset (l : List α) (i : Int) (x : α) : List α := l.set i.toNat x
def xput (l : List α) (i : Int) (l' : List α) : List α := l.take i.toNat ++ l' ++ l.drop (i.toNat + l'.length)
def xfil (l : List α) (lo hi : Int) (z : α) : List α := l.take lo.toNat ++ List.replicate (hi.toNat - lo.toNat) z ++ l.drop hi.toNat
noncomputable def xsget (s : ByteArray) (i : Int) : Option Int := Ops.std.sget s i
noncomputable def xssub (s : ByteArray) (i j : Int) : Option ByteArray := Ops.std.ssub s i j
noncomputable def xsapp (s t : ByteArray) : Option ByteArray := Ops.std.sapp s t
theorem map_app (l l' : List α) : (l ++ l').map e = Ops.std.lapp (l.map e) (l'.map e) := by
  show _ = _ ++ _
  simp
theorem map_set (l : List α) (i : Int) (x : α) : (xset l i x).map e = Ops.std.lset (l.map e) i (e x) := by
  show (List.set _ _ _).map e = List.set _ _ _
  simp
theorem map_put (l : List α) (i : Int) (l' : List α) : (xput l i l').map e = Ops.std.lput (l.map e) i (l'.map e) := by
  show _ = List.take _ _ ++ _ ++ List.drop _ _
  simp [xput]
theorem map_fil (l : List α) (lo hi : Int) (z : α) : (xfil l lo hi z).map e = Ops.std.lfil (l.map e) lo hi (e z) := by
  show _ = List.take _ _ ++ List.replicate _ _ ++ List.drop _ _
  simp [xfil]

theorem xlen_eq (l : List α) : xlen e l = (l.length : Int) := by
  show (((l.map e).length : Nat) : Int) = _
  simp
variable [I : Inj e]
theorem xget_eq (l : List α) (i : Int) : xget e l i = if 0 ≤ i then l[i.toNat]? else none := by
  show ask e (if 0 ≤ i then (l.map e)[i.toNat]? else none) = _
  split
  · rw [List.getElem?_map]
    cases l[i.toNat]? with
    | none => exact ask_none
    | some x => exact ask_enc x
  · exact ask_none
theorem xsub_eq (l : List α) (lo hi : Int) : xsub e l lo hi = if 0 ≤ lo ∧ lo ≤ hi ∧ hi ≤ l.length then some ((l.take hi.toNat).drop lo.toNat) else none := by
  show ask (List.map e) (if 0 ≤ lo ∧ lo ≤ hi ∧ hi ≤ (((l.map e).length : Nat) : Int) then some (((l.map e).take hi.toNat).drop lo.toNat) else none) = _
  rw [List.length_map]
  split
  · rw [← List.map_take, ← List.map_drop]; exact ask_enc _
  · exact ask_none
omit I in
theorem xroom_eq {b : Nat} {l l' : List α} (h : l.length + l'.length ≤ 1000000) (hb : b ≤ 1000000) : xroom e b l l' = true := by
  have h1 : (l.length + l'.length) * b ≤ 1000000 * 1000000 := Nat.mul_le_mul h hb
  show (decide ((((l.map e).length + (l'.map e).length) * b ≤ 140737488355328)) && decide ((l.map e).length + (l'.map e).length ≤ maxLen)) = true
  rw [List.length_map, List.length_map]
  have h2 : l.length + l'.length ≤ maxLen := by unfold maxLen; omega
  have h3 : (l.length + l'.length) * b ≤ 140737488355328 := by omega
  simp only [decide_eq_true h2, decide_eq_true h3, Bool.and_self]
end
end Go.Ab
