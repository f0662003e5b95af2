/- Loops over lists told by what they come to; the work on numbers as Lean's own. -/
import Derived.Test.YtcnohiofldkcoabAbSh
namespace Go.Ab
open Go
set_option linter.unusedVariables false

theorem ilt_dec (a b : Int) : Ops.std.ilt a b = decide (a < b) := rfl
theorem ile_dec (a b : Int) : Ops.std.ile a b = decide (a ≤ b) := rfl
theorem ieq_dec (a b : Int) : Ops.std.ieq a b = decide (a = b) := rfl
theorem beq_dec (a b : Bool) : Ops.std.beq a b = (a == b) := rfl
theorem u64_wrap (x : Int) : IntKind.u64.wrap x = x % 18446744073709551616 := by
  simp [IntKind.wrap, IntKind.signed, IntKind.bits]
theorem u32_wrap (x : Int) : IntKind.u32.wrap x = x % 4294967296 := by
  simp [IntKind.wrap, IntKind.signed, IntKind.bits]
theorem u16_wrap (x : Int) : IntKind.u16.wrap x = x % 65536 := by
  simp [IntKind.wrap, IntKind.signed, IntKind.bits]
theorem u8_wrap (x : Int) : IntKind.u8.wrap x = x % 256 := by
  simp [IntKind.wrap, IntKind.signed, IntKind.bits]
theorem seq_iff {a b : ByteArray} : Ops.std.seq a b = true ↔ a = b := by
  constructor
  · intro h
    have : a.data.toList = b.data.toList := by simpa [Ops.std] using h
    cases a; cases b; simp_all
  · rintro rfl; simp [Ops.std]
theorem seq_dec (a b : ByteArray) : Ops.std.seq a b = @decide (a = b) (Classical.propDecidable _) := by
  cases h : Ops.std.seq a b with
  | true => simp [seq_iff.1 h]
  | false =>
    have : ¬ a = b := fun e => by rw [seq_iff.2 e] at h; cases h
    simp [this]
theorem cond_pos {α : Type} {c : Prop} [Decidable c] {x y : α} (h : c) : (bif decide c then x else y) = x := by simp [h]
theorem cond_neg {α : Type} {c : Prop} [Decidable c] {x y : α} (h : ¬ c) : (bif decide c then x else y) = y := by simp [h]
theorem bif_dec {α : Type} {c : Prop} [Decidable c] {x y : α} : (bif decide c then x else y) = if c then x else y := by by_cases h : c <;> simp [h]

section
variable {α σ ο : Type}
theorem xget_nat (e : α → AV) [Inj e] (l : List α) (n : Nat) : xget e l (n : Int) = l[n]? := by
  rw [xget_eq, if_pos (by omega)]; rfl
theorem ilt_len (e : α → AV) {l : List α} {n : Nat} : Ops.std.ilt (n : Int) (xlen e l) = decide (n < l.length) := by
  rw [xlen_eq]
  show decide ((n : Int) < (l.length : Int)) = _
  by_cases h : n < l.length
  · rw [decide_eq_true h, decide_eq_true (by omega)]
  · rw [decide_eq_false h, decide_eq_false (by omega)]

/-- A loop from the first to the last, told by what it comes to of what is left. -/
theorem for_list (e : α → AV) [Inj e] {l : List α} (hl : l.length ≤ 4611686018427387904) {L : Int → σ → Option ο} {res : Nat → σ → List α → ο} {Inv : Nat → σ → Prop}
    (hnil : ∀ s, Inv l.length s → Ops.std.ilt (l.length : Int) (xlen e l) = false → L (l.length : Int) s = some (res l.length s []))
    (hcons : ∀ (n : Nat) (x : α) (rest : List α) (s : σ), Inv n s → n < l.length → l[n]? = some x → l.drop n = x :: rest → Ops.std.ilt (n : Int) (xlen e l) = true → xget e l (n : Int) = some x → Ops.std.iadd .i64 (n : Int) 1 = ((n + 1 : Nat) : Int) →
      (∀ s', Inv (n + 1) s' → L ((n + 1 : Nat) : Int) s' = some (res (n + 1) s' rest)) → L (n : Int) s = some (res n s (x :: rest))) (s : σ) (h0 : Inv 0 s) : L 0 s = some (res 0 s l) := by
  have key : ∀ (k n : Nat), n + k = l.length → ∀ s, Inv n s → L (n : Int) s = some (res n s (l.drop n)) := by
    intro k
    induction k with
    | zero =>
      intro n hn s hs
      obtain rfl : n = l.length := by omega
      rw [List.drop_length]
      exact hnil s hs (by rw [ilt_len]; simp)
    | succ k ih =>
      intro n hn s hs
      have hlt : n < l.length := by omega
      rw [List.drop_eq_getElem_cons hlt]
      exact hcons n l[n] (l.drop (n + 1)) s hs hlt (List.getElem?_eq_getElem hlt) (List.drop_eq_getElem_cons hlt) (by rw [ilt_len]; simp [hlt]) (by rw [xget_nat]; exact List.getElem?_eq_getElem hlt) (iadd1 (by omega)) (fun s' hs' => ih (n + 1) (by omega) s' hs')
  have := key l.length 0 (by omega) s h0
  simpa using this

/-- As 'for_list', from a place on. -/
theorem for_from (e : α → AV) [Inj e] {l : List α} (hl : l.length ≤ 4611686018427387904) {L : Int → σ → Option ο} {res : Nat → σ → List α → ο} {Inv : Nat → σ → Prop}
    (hnil : ∀ s, Inv l.length s → Ops.std.ilt (l.length : Int) (xlen e l) = false → L (l.length : Int) s = some (res l.length s []))
    (hcons : ∀ (n : Nat) (x : α) (rest : List α) (s : σ), Inv n s → n < l.length → l[n]? = some x → l.drop n = x :: rest → Ops.std.ilt (n : Int) (xlen e l) = true → xget e l (n : Int) = some x → Ops.std.iadd .i64 (n : Int) 1 = ((n + 1 : Nat) : Int) →
      (∀ s', Inv (n + 1) s' → L ((n + 1 : Nat) : Int) s' = some (res (n + 1) s' rest)) → L (n : Int) s = some (res n s (x :: rest))) (m : Nat) (hm : m ≤ l.length) (s : σ) (h0 : Inv m s) : L m s = some (res m s (l.drop m)) := by
  have key : ∀ (k n : Nat), n + k = l.length → ∀ s, Inv n s → L (n : Int) s = some (res n s (l.drop n)) := by
    intro k
    induction k with
    | zero =>
      intro n hn s hs
      obtain rfl : n = l.length := by omega
      rw [List.drop_length]
      exact hnil s hs (by rw [ilt_len]; simp)
    | succ k ih =>
      intro n hn s hs
      have hlt : n < l.length := by omega
      rw [List.drop_eq_getElem_cons hlt]
      exact hcons n l[n] (l.drop (n + 1)) s hs hlt (List.getElem?_eq_getElem hlt) (List.drop_eq_getElem_cons hlt) (by rw [ilt_len]; simp [hlt]) (by rw [xget_nat]; exact List.getElem?_eq_getElem hlt) (iadd1 (by omega)) (fun s' hs' => ih (n + 1) (by omega) s' hs')
  exact key (l.length - m) m (by omega) s h0

/-! ### The first that is so -/
def fst (p : α → Bool) : List α → Option Nat
  | [] => none
  | x :: l => bif p x then some 0 else (fst p l).map (· + 1)
def fstI (p : α → Bool) (l : List α) : Int := match fst p l with | some n => n | none => -1
theorem fst_some {p : α → Bool} {l : List α} {n : Nat} (h : fst p l = some n) : ∃ x, l[n]? = some x ∧ p x = true ∧ n < l.length ∧ ∀ i y, i < n → l[i]? = some y → p y = false := by
  induction l generalizing n with
  | nil => cases h
  | cons x l ih =>
    simp only [fst] at h
    cases hp : p x with
    | true =>
      rw [hp] at h
      cases h
      exact ⟨x, rfl, hp, by simp, fun i y hi => by omega⟩
    | false =>
      rw [hp, cond_false] at h
      cases hf : fst p l with
      | none => rw [hf] at h; cases h
      | some m =>
        rw [hf] at h
        cases h
        obtain ⟨y, h1, h2, h3, h4⟩ := ih hf
        refine ⟨y, by simpa using h1, h2, by simp; omega, fun i z hi hz => ?_⟩
        cases i with
        | zero => simp at hz; subst hz; exact hp
        | succ i => exact h4 i z (by have hi : i + 1 < m + 1 := hi; omega) (by simpa using hz)
theorem fst_none {p : α → Bool} {l : List α} (h : fst p l = none) : ∀ x, x ∈ l → p x = false := by
  induction l with
  | nil => intro x hx; cases hx
  | cons y l ih =>
    simp only [fst] at h
    cases hp : p y with
    | true => rw [hp] at h; cases h
    | false =>
      rw [hp, cond_false, Option.map_eq_none_iff] at h
      intro x hx
      rcases List.mem_cons.1 hx with rfl | hx
      · exact hp
      · exact ih h x hx
theorem fst_ex {p : α → Bool} {l : List α} (h : ∃ x, x ∈ l ∧ p x = true) : ∃ n, fst p l = some n := by
  cases hf : fst p l with
  | some n => exact ⟨n, rfl⟩
  | none => obtain ⟨x, hx, hp⟩ := h; rw [fst_none hf x hx] at hp; cases hp
theorem fstI_lt {p : α → Bool} {l : List α} : fstI p l < l.length := by
  unfold fstI
  split
  · rename_i n h; have := (fst_some h).choose_spec.2.2.1; omega
  · omega
theorem fstI_ge {p : α → Bool} {l : List α} : -1 ≤ fstI p l := by
  unfold fstI
  split <;> omega

/-- A loop that looks for the first. -/
theorem find_list (e : α → AV) [Inj e] {l : List α} (hl : l.length ≤ 4611686018427387904) {p : α → Bool} {L : Int → Option (Int ⊕ Unit)}
    (hnil : Ops.std.ilt (l.length : Int) (xlen e l) = false → L (l.length : Int) = some (.inr ()))
    (hyes : ∀ (n : Nat) (x : α), x ∈ l → Ops.std.ilt (n : Int) (xlen e l) = true → xget e l (n : Int) = some x → p x = true → L (n : Int) = some (.inl (n : Int)))
    (hno : ∀ (n : Nat) (x : α) (r : Int ⊕ Unit), x ∈ l → Ops.std.ilt (n : Int) (xlen e l) = true → xget e l (n : Int) = some x → p x = false → L (Ops.std.iadd .i64 (n : Int) 1) = some r → L (n : Int) = some r) :
    L 0 = some (match fst p l with | some n => .inl (n : Int) | none => .inr ()) := by
  have := for_list (σ := Unit) e hl (L := fun i _ => L i) (res := fun n _ rest => match fst p rest with | some m => Sum.inl ((n + m : Nat) : Int) | none => .inr ()) (Inv := fun _ _ => True)
    (fun _ _ h => by simpa [fst] using hnil h)
    (fun n x rest s _ hn hx hd h1 h2 h3 ih => by
      have hm : x ∈ l := List.mem_of_getElem? hx
      cases hp : p x with
      | true => simpa [fst, hp] using hyes n x hm h1 h2 hp
      | false =>
        have := hno n x _ hm h1 h2 hp (by rw [h3]; exact ih () trivial)
        rw [this]
        congr 1
        simp only [fst, hp, cond_false]
        cases fst p rest with
        | none => rfl
        | some m => simp only [Option.map_some]; congr 2; omega) () trivial
  simpa using this

/-- A loop that gathers. -/
theorem gather_list {β : Type} (e : α → AV) [Inj e] {l : List α} (hl : l.length ≤ 4611686018427387904) {f : α → List β} {L : Int → List β → Option (List β)} (k : Nat) (hf : ∀ x, x ∈ l → (f x).length ≤ k)
    (hnil : ∀ acc, Ops.std.ilt (l.length : Int) (xlen e l) = false → L (l.length : Int) acc = some acc)
    (hcons : ∀ (n : Nat) (x : α) (acc r : List β), acc.length ≤ k * n → n < l.length → x ∈ l → Ops.std.ilt (n : Int) (xlen e l) = true → xget e l (n : Int) = some x → L (Ops.std.iadd .i64 (n : Int) 1) (acc ++ f x) = some r → L (n : Int) acc = some r) :
    L 0 [] = some (l.flatMap f) := by
  have := for_list (σ := List β) e hl (L := L) (res := fun n acc rest => acc ++ rest.flatMap f) (Inv := fun n acc => acc.length ≤ k * n)
    (fun acc _ h => by simpa using hnil acc h)
    (fun n x rest acc hi hn hx hd h1 h2 h3 ih => by
      have hm : x ∈ l := List.mem_of_getElem? hx
      rw [hcons n x acc _ hi hn hm h1 h2 (by rw [h3]; exact ih (acc ++ f x) (by have := hf x hm; rw [List.length_append, Nat.mul_add, Nat.mul_one]; omega))]
      simp) [] (by simp)
  simpa using this

/-- A loop that holds two lists against each other. -/
theorem same_list (e : α → AV) [Inj e] {l l' : List α} (hl : l.length ≤ 4611686018427387904) (he : l.length = l'.length) {L : Int → Option (Unit ⊕ Unit)}
    (hnil : Ops.std.ilt (l.length : Int) (xlen e l) = false → L (l.length : Int) = some (.inr ()))
    (hyes : ∀ (n : Nat) (x : α) (r : Unit ⊕ Unit), x ∈ l → Ops.std.ilt (n : Int) (xlen e l) = true → xget e l (n : Int) = some x → xget e l' (n : Int) = some x → L (Ops.std.iadd .i64 (n : Int) 1) = some r → L (n : Int) = some r)
    (hno : ∀ (n : Nat) (x y : α), x ∈ l → Ops.std.ilt (n : Int) (xlen e l) = true → xget e l (n : Int) = some x → xget e l' (n : Int) = some y → x ≠ y → L (n : Int) = some (.inl ())) :
    (l = l' ∧ L 0 = some (.inr ())) ∨ (l ≠ l' ∧ L 0 = some (.inl ())) := by
  have key : ∀ (k n : Nat), n + k = l.length → (l.drop n = l'.drop n ∧ L (n : Int) = some (.inr ())) ∨ (l.drop n ≠ l'.drop n ∧ L (n : Int) = some (.inl ())) := by
    intro k
    induction k with
    | zero =>
      intro n hn
      obtain rfl : n = l.length := by omega
      refine .inl ⟨?_, hnil (by rw [ilt_len]; simp)⟩
      rw [List.drop_length, he, List.drop_length]
    | succ k ih =>
      intro n hn
      have hlt : n < l.length := by omega
      have hlt' : n < l'.length := by omega
      have g1 : xget e l (n : Int) = some l[n] := by rw [xget_nat]; exact List.getElem?_eq_getElem hlt
      have g2 : xget e l' (n : Int) = some l'[n] := by rw [xget_nat]; exact List.getElem?_eq_getElem hlt'
      have h1 : Ops.std.ilt (n : Int) (xlen e l) = true := by rw [ilt_len]; simp [hlt]
      have hadd : Ops.std.iadd .i64 (n : Int) 1 = ((n + 1 : Nat) : Int) := iadd1 (by omega)
      rw [List.drop_eq_getElem_cons hlt, List.drop_eq_getElem_cons hlt']
      by_cases hx : l[n] = l'[n]
      · rw [← hx] at g2
        rcases ih (n + 1) (by omega) with ⟨h2, h3⟩ | ⟨h2, h3⟩
        · exact .inl ⟨by rw [hx, h2], hyes n l[n] _ (List.getElem_mem hlt) h1 g1 g2 (by rw [hadd]; exact h3)⟩
        · exact .inr ⟨fun h => h2 (List.cons.inj h).2, hyes n l[n] _ (List.getElem_mem hlt) h1 g1 g2 (by rw [hadd]; exact h3)⟩
      · exact .inr ⟨fun h => hx (List.cons.inj h).1, hno n _ _ (List.getElem_mem hlt) h1 g1 g2 hx⟩
  have := key l.length 0 (by omega)
  simpa using this

/-- Is it so of all, by their places? -/
def allI (p : Nat → α → Bool) : Nat → List α → Bool
  | _, [] => true
  | n, x :: l => p n x && allI p (n + 1) l
theorem allI_iff {p : Nat → α → Bool} {l : List α} : ∀ {n : Nat}, allI p n l = true ↔ ∀ i x, l[i]? = some x → p (n + i) x = true := by
  induction l with
  | nil => intro n; simp [allI]
  | cons y l ih =>
    intro n
    simp only [allI, Bool.and_eq_true, ih]
    constructor
    · rintro ⟨h1, h2⟩ i x hx
      cases i with
      | zero => simp at hx; subst hx; exact h1
      | succ i => have := h2 i x (by simpa using hx); rwa [show n + 1 + i = n + (i + 1) by omega] at this
    · intro h
      exact ⟨h 0 y rfl, fun i x hx => by have := h (i + 1) x (by simpa using hx); rwa [show n + (i + 1) = n + 1 + i by omega] at this⟩
/-- A loop that ends at the first of which something is not so. -/
theorem all_list (e : α → AV) [Inj e] {l : List α} (hl : l.length ≤ 4611686018427387904) {p : Nat → α → Bool} {L : Int → Option (Unit ⊕ Unit)}
    (hnil : Ops.std.ilt (l.length : Int) (xlen e l) = false → L (l.length : Int) = some (.inr ()))
    (hyes : ∀ (n : Nat) (x : α) (r : Unit ⊕ Unit), l[n]? = some x → Ops.std.ilt (n : Int) (xlen e l) = true → xget e l (n : Int) = some x → p n x = true → L (Ops.std.iadd .i64 (n : Int) 1) = some r → L (n : Int) = some r)
    (hno : ∀ (n : Nat) (x : α), l[n]? = some x → Ops.std.ilt (n : Int) (xlen e l) = true → xget e l (n : Int) = some x → p n x = false → L (n : Int) = some (.inl ())) :
    L 0 = some (bif allI p 0 l then .inr () else .inl ()) :=
  for_list (σ := Unit) e hl (L := fun i _ => L i) (res := fun n _ rest => bif allI p n rest then .inr () else .inl ()) (Inv := fun _ _ => True)
    (fun _ _ h => hnil h)
    (fun n x rest s _ hn hx hd h1 h2 h3 ih => by
      cases hp : p n x with
      | true => rw [hyes n x _ hx h1 h2 hp (by rw [h3]; exact ih () trivial)]; simp [allI, hp]
      | false => rw [hno n x hx h1 h2 hp]; simp [allI, hp]) () trivial
end

noncomputable def eqb {α : Type} (a b : α) : Bool := @decide (a = b) (Classical.propDecidable _)
theorem eqb_self {α : Type} (a : α) : eqb a a = true := by simp [eqb]
theorem eqb_ne {α : Type} {a b : α} (h : a ≠ b) : eqb a b = false := by simp [eqb, h]
theorem eqb_iff {α : Type} {a b : α} : eqb a b = true ↔ a = b := by simp [eqb]

noncomputable def dcd (p : Prop) : Bool := @decide p (Classical.propDecidable p)
theorem dcd_iff {p : Prop} : dcd p = true ↔ p := by simp [dcd]
theorem dcd_false {p : Prop} : dcd p = false ↔ ¬ p := by simp [dcd]
theorem dcd_congr {p q : Prop} (h : p ↔ q) : dcd p = dcd q := by simp [dcd, h]
theorem decide_dcd {p q : Prop} [Decidable p] (h : p ↔ q) : decide p = dcd q := by
  by_cases hp : p
  · rw [decide_eq_true hp, dcd_iff.2 (h.1 hp)]
  · rw [decide_eq_false hp, dcd_false.2 (fun hq => hp (h.2 hq))]
theorem dcd_decide {p q : Prop} [Decidable q] (h : p ↔ q) : dcd p = decide q := (decide_dcd h.symm).symm
end Go.Ab
