/- Whether a tree may be: the program's answer and the reference's. -/
import Derived.Test.YtcnohiofldkcoaaTree2
import Derived.Test.YtcnohiofldkcoaaT2
namespace Go.Ab.Try
open Go Go.Ab Go.Proofs
set_option linter.unusedVariables false

/-! ### Texts, one ahead of the other -/

theorem sget_at (a : ByteArray) (i : Nat) (h : i < a.size) : Ops.std.sget a (i : Int) = some ((a.data.toList[i]'(by simpa using h)).toNat : Int) := by
  have : a[i]? = some (a.data.toList[i]'(by simpa using h)) := by
    simp [getElem?_pos a i h]
    rfl
  simp [Ops.std, this]

theorem less_nil (x : List UInt8) : Op.bytesLess x [] = false := by cases x <;> rfl

theorem loop46 (a b : ByteArray) (ha : a.size ≤ 1000000) (d : Nat) : ∀ i : Nat, i + d = a.size → i ≤ b.size →
    (lim F pr).loop [5, 0, 1] 0 b46_0 (H46_0_0 a b i) = some (W46_0_0 (Op.bytesLess (a.data.toList.drop i) (b.data.toList.drop i))) ∨
    ((lim F pr).loop [5, 0, 1] 0 b46_0 (H46_0_0 a b i) = some (W46_0_1 a b) ∧ Ops.std.ilt (Ops.std.slen a) (Ops.std.slen b) = Op.bytesLess (a.data.toList.drop i) (b.data.toList.drop i)) := by
  induction d with
  | zero =>
    intro i hi hb
    refine .inr ⟨round_lim (r46_0_0_3L a b i (iltF (by rw [slen_is]; omega))), ?_⟩
    have da : a.data.toList.drop i = [] := List.drop_eq_nil_of_le (by simp; omega)
    rw [da]
    by_cases hlt : a.size < b.size
    · rw [List.drop_eq_getElem_cons (l := b.data.toList) (i := i) (by simp; omega)]
      rw [iltT (by rw [slen_is, slen_is]; omega)]; rfl
    · have db : b.data.toList.drop i = [] := List.drop_eq_nil_of_le (by simp; omega)
      rw [db, iltF (by rw [slen_is, slen_is]; omega)]; rfl
  | succ d ih =>
    intro i hi hb
    have h1 : Ops.std.ilt (i : Int) (Ops.std.slen a) = true := iltT (by rw [slen_is]; omega)
    have hal : i < a.data.toList.length := by simp; omega
    by_cases hlt : i < b.size
    · have h2 : Ops.std.ilt (i : Int) (Ops.std.slen b) = true := iltT (by rw [slen_is]; omega)
      have hbl : i < b.data.toList.length := by simpa using hlt
      rw [List.drop_eq_getElem_cons hal, List.drop_eq_getElem_cons hbl]
      have g1 := sget_at a i (by omega)
      have g2 := sget_at b i hlt
      generalize a.data.toList[i] = x at *
      generalize b.data.toList[i] = y at *
      by_cases hxy : x = y
      · subst hxy
        have this := r46_0_0_0L a b i _ _ h1 h2 g1 g2 (ieqT rfl)
        rw [iadd1 (by omega)] at this
        have e : Op.bytesLess (x :: a.data.toList.drop (i + 1)) (x :: b.data.toList.drop (i + 1)) = Op.bytesLess (a.data.toList.drop (i + 1)) (b.data.toList.drop (i + 1)) := by
          simp [Op.bytesLess]
        rw [e]
        rcases ih (i + 1) (by omega) (by omega) with h3 | ⟨h3, h4⟩
        · exact .inl (round_lim (this.trans h3))
        · exact .inr ⟨round_lim (this.trans h3), h4⟩
      · have hne : ¬ ((x.toNat : Int) = (y.toNat : Int)) := fun h => hxy (by
          have : x.toNat = y.toNat := by omega
          exact UInt8.toNat_inj.1 this)
        have this := r46_0_0_1L a b i _ _ h1 h2 g1 g2 (ieqF hne)
        have e : Op.bytesLess (x :: a.data.toList.drop (i + 1)) (y :: b.data.toList.drop (i + 1)) = Ops.std.ilt (x.toNat : Int) (y.toNat : Int) := by
          simp [Op.bytesLess, hxy, Ops.std, UInt8.lt_iff_toNat_lt]
        rw [e]
        exact .inl (round_lim this)
    · refine .inr ⟨round_lim (r46_0_0_2L a b i h1 (iltF (by rw [slen_is]; omega))), ?_⟩
      have db : b.data.toList.drop i = [] := List.drop_eq_nil_of_le (by simp; omega)
      rw [db, less_nil, iltF (by rw [slen_is, slen_is]; omega)]

theorem call46 (a b : ByteArray) (ha : a.size ≤ 1000000) : (lim F pr).call 46 [.sc (.string a), .sc (.string b)] [] = some (.sc (.bool (Ops.std.slt a b)), []) := by
  rcases loop46 a b ha a.size 0 (by omega) (by omega) with h | ⟨h, h2⟩
  · exact call_lim rfl (p46_0L a b _ h)
  · have := call_lim (f := 46) rfl (p46_1L a b h)
    rw [h2] at this
    exact this

/-! ### No key is too long -/

theorem call56 (x : ByteArray) (hx : x.size ≤ 300) : (lim F pr).call 56 [.sc (.string x)] [] = some (.sc (.bool false), []) := by
  have := call_lim (f := 56) rfl (p56_0L x)
  rw [iltF (by rw [slen_is]; omega)] at this
  exact this

theorem loop42k (all : List ByteArray) (hl : all.length ≤ 100) (rest : List ByteArray) : ∀ (pre : List ByteArray), all = pre ++ rest → (∀ x, x ∈ rest → x.size ≤ 300) →
    (lim F pr).loop [7, 1, 0, 8] 0 b42_0 (H42_0k_0 (kst all) pre.length) = some W42_0k_1 := by
  induction rest with
  | nil => intro pre h _; subst h; exact round_lim (r42_0k_0_2L _ _ doneM)
  | cons x rest ih =>
    intro pre h hx
    have hp : pre.length < 9223372036854775807 := by have := congrArg List.length h; simp at this; omega
    have this := r42_0k_0_1L (kst all) pre.length x false (by rw [h]; exact moreM) (by rw [h]; exact lgetM) (call56 x (hx x (by simp))) rfl
    rw [stepM (x := x) hp] at this
    exact round_lim (this.trans (ih (pre ++ [x]) (by rw [h]; simp) (fun y hy => hx y (by simp [hy]))))

theorem call57 (keys : List ByteArray) (hl : keys.length ≤ 100) (hx : ∀ x, x ∈ keys → x.size ≤ 300) : (lim F pr).call 57 [.lit 9 false (kst keys), .fn 56 []] [] = some (.sc (.bool false), []) := by
  have h42 := call_lim (f := 42) rfl (p42k_1L (kst keys) (loop42k keys hl keys [] rfl hx))
  have := call_lim (f := 57) rfl (p57k_0L (kst keys) _ h42)
  rw [ileF (by omega)] at this
  exact this

/-! ### Keys that rise -/

def rising : List ByteArray → Bool
  | [] => true
  | [_] => true
  | x :: y :: r => Ops.std.slt x y && rising (y :: r)

theorem loop47 (k n : Int) (s : ByteArray) (kids : List AV) (all : List ByteArray) (hl : all.length ≤ 100) (rest : List ByteArray) : ∀ (pre : List ByteArray) (y : ByteArray), all = pre ++ y :: rest →
    (lim F pr).loop [2, 5] 1 b47_0 (H47_0_0 k n s (kst all) kids (pre ++ [y]).length) = some (bif rising (y :: rest) then W47_0_1 k n s (kst all) kids else W47_0_0 k n s (kst all) kids) := by
  induction rest with
  | nil =>
    intro pre y h
    have : all = (pre ++ [y]) ++ [] := by rw [h]; simp
    rw [this]
    exact round_lim (r47_0_0_2L k n s _ kids _ doneM)
  | cons x rest ih =>
    intro pre y h
    have hlen := congrArg List.length h
    simp at hlen
    have hp : (pre ++ [y]).length < 9223372036854775807 := by simp; omega
    have h2 : all = (pre ++ [y]) ++ x :: rest := by rw [h]; simp
    have hsub : Ops.std.isub .i64 ((pre ++ [y]).length : Int) 1 = (pre.length : Int) := by rw [isubS (by simp <;> omega) (by simp <;> omega)]; simp
    have hg1 : Ops.std.lget (kst all) (Ops.std.isub .i64 ((pre ++ [y]).length : Int) 1) = some (.sc (.string y)) := by rw [hsub, h]; exact lgetM
    have hg2 : Ops.std.lget (kst all) ((pre ++ [y]).length : Int) = some (.sc (.string x)) := by rw [h2]; exact lgetM
    have hm : Ops.std.ilt ((pre ++ [y]).length : Int) (Ops.std.llen (kst all)) = true := by rw [h2]; exact moreM
    cases hs : Ops.std.slt y x
    · simp only [rising, hs, Bool.false_and, cond_false]
      exact round_lim (r47_0_0_1L k n s (kst all) kids _ y x hm hg1 hg2 hs)
    · simp only [rising, hs, Bool.true_and]
      have this := r47_0_0_0L k n s (kst all) kids _ y x hm hg1 hg2 hs
      rw [stepM (x := x) hp] at this
      exact round_lim (this.trans (ih (pre ++ [y]) x h2))

theorem loop47_0 (k n : Int) (s : ByteArray) (kids : List AV) (all : List ByteArray) (hl : all.length ≤ 100) :
    (lim F pr).loop [2, 5] 1 b47_0 (H47_0_0 k n s (kst all) kids 1) = some (bif rising all then W47_0_1 k n s (kst all) kids else W47_0_0 k n s (kst all) kids) := by
  cases all with
  | nil => exact round_lim (r47_0_0_2L k n s _ kids 1 (iltF (by rw [llenM]; simp)))
  | cons y rest => exact loop47 k n s kids (y :: rest) hl rest [] y rfl

theorem loop37_0 (k n : Int) (s : ByteArray) (kids : List AV) (lv : Int) (all : List ByteArray) (hl : all.length ≤ 100) (hx : ∀ x, x ∈ all → x.size ≤ 300) (rest : List ByteArray) : ∀ (pre : List ByteArray) (y : ByteArray) (f : Bool), all = pre ++ y :: rest →
    (lim F pr).loop [7, 5, 6, 2, 1] 1 b37_0 (H37_0_0 k n s (kst all) kids lv false f (pre ++ [y]).length) = some (W37_0_0 k n s (kst all) kids lv false (f || !rising (y :: rest))) := by
  induction rest with
  | nil =>
    intro pre y f h
    have : all = (pre ++ [y]) ++ [] := by rw [h]; simp
    rw [this]
    simp only [rising, Bool.not_true, Bool.or_false]
    exact round_lim (r37_0_0_6L k n s _ kids lv false f _ doneM)
  | cons x rest ih =>
    intro pre y f h
    have hlen := congrArg List.length h
    simp at hlen
    have hp : (pre ++ [y]).length < 9223372036854775807 := by simp; omega
    have h2 : all = (pre ++ [y]) ++ x :: rest := by rw [h]; simp
    have hsub : Ops.std.isub .i64 ((pre ++ [y]).length : Int) 1 = (pre.length : Int) := by rw [isubS (by simp <;> omega) (by simp <;> omega)]; simp
    have hg1 : Ops.std.lget (kst all) (Ops.std.isub .i64 ((pre ++ [y]).length : Int) 1) = some (.sc (.string y)) := by rw [hsub, h]; exact lgetM
    have hg2 : Ops.std.lget (kst all) ((pre ++ [y]).length : Int) = some (.sc (.string x)) := by rw [h2]; exact lgetM
    have hm : Ops.std.ilt ((pre ++ [y]).length : Int) (Ops.std.llen (kst all)) = true := by rw [h2]; exact moreM
    have hlong : Ops.std.ilt 1048576 (Ops.std.slen x) = false := iltF (by rw [slen_is]; have := hx x (by rw [h2]; simp); omega)
    have hy := hx y (by rw [h]; simp)
    cases f with
    | true =>
      have this := r37_0_0_3L k n s (kst all) kids lv false true _ x hm rfl hg2 rfl
      rw [stepM (x := x) hp, hlong] at this
      have hi := ih (pre ++ [y]) x true h2
      simp only [Bool.true_or] at hi ⊢
      exact round_lim (this.trans hi)
    | false =>
      have this := r37_0_0_4L k n s (kst all) kids lv false false _ x y _ hm rfl hg2 rfl (iltT (by simp <;> omega)) hg1 (call46 y x (by omega))
      rw [stepM (x := x) hp, hlong] at this
      have hi := ih (pre ++ [y]) x (!Ops.std.slt y x) h2
      have e : (false || !rising (y :: x :: rest)) = (!Ops.std.slt y x || !rising (x :: rest)) := by simp [rising, Bool.not_and]
      rw [e]
      exact round_lim (this.trans hi)

theorem loop37_00 (k n : Int) (s : ByteArray) (kids : List AV) (lv : Int) (all : List ByteArray) (hl : all.length ≤ 100) (hx : ∀ x, x ∈ all → x.size ≤ 300) :
    (lim F pr).loop [7, 5, 6, 2, 1] 1 b37_0 (H37_0_0 k n s (kst all) kids lv false false 0) = some (W37_0_0 k n s (kst all) kids lv false (!rising all)) := by
  cases all with
  | nil => exact round_lim (r37_0_0_6L k n s _ kids lv false false 0 (iltF (by rw [llenM]; simp)))
  | cons y rest =>
    have hlong : Ops.std.ilt 1048576 (Ops.std.slen y) = false := iltF (by rw [slen_is]; have := hx y (by simp); omega)
    have hm : Ops.std.ilt ((([] : List ByteArray).length : Nat) : Int) (Ops.std.llen (kst ([] ++ y :: rest))) = true := moreM
    have hg : Ops.std.lget (kst ([] ++ y :: rest)) ((([] : List ByteArray).length : Nat) : Int) = some (.sc (.string y)) := lgetM
    have this := r37_0_0_5L k n s (kst ([] ++ y :: rest)) kids lv false false _ y hm rfl hg rfl (iltF (by simp))
    rw [stepM (x := y) (by simp), hlong] at this
    have hi := loop37_0 k n s kids lv (y :: rest) hl hx rest [] y false rfl
    rw [Bool.false_or] at hi
    exact round_lim (this.trans hi)

/-! ### A tree's own fields -/

theorem own_fields (k n : Int) (s : ByteArray) (keys kids : List AV) (h1 : 1 ≤ k) (h4 : k ≤ 4) : ∃ b : Bool, f55 k n s keys kids = .sc (.bool b) ∧ f48 k n s keys kids = .sc (.bool (!b)) := by
  have hk : k = 1 ∨ k = 2 ∨ k = 3 ∨ k = 4 := by omega
  have e1 : Ops.std.ilt 0 (Ops.std.llen kids) = true ∨ Ops.std.ilt 0 (Ops.std.llen kids) = false := by cases Ops.std.ilt 0 (Ops.std.llen kids) <;> simp
  have e2 : Ops.std.ilt 0 (Ops.std.llen keys) = true ∨ Ops.std.ilt 0 (Ops.std.llen keys) = false := by cases Ops.std.ilt 0 (Ops.std.llen keys) <;> simp
  have e3 : Ops.std.ieq n 0 = true ∨ Ops.std.ieq n 0 = false := by cases Ops.std.ieq n 0 <;> simp
  have e4 : Ops.std.seq s ⟨#[]⟩ = true ∨ Ops.std.seq s ⟨#[]⟩ = false := by cases Ops.std.seq s ⟨#[]⟩ <;> simp
  have d : ∀ a b : Int, Ops.std.ieq a b = decide (a = b) := fun _ _ => rfl
  have d' : ∀ a b : Int, a < b → Ops.std.ilt a b = true := fun _ _ h => iltT h
  have l1 : Ops.std.ilt 1 3 = true := rfl
  have l2 : Ops.std.ilt 2 3 = true := rfl
  have l3 : Ops.std.ilt 3 3 = false := rfl
  have l4 : Ops.std.ilt 4 3 = false := rfl
  have q : ∀ a b : Int, a ≠ b → Ops.std.ieq a b = false := fun _ _ h => ieqF h
  rcases hk with rfl | rfl | rfl | rfl <;> rcases e1 with e1 | e1 <;> rcases e2 with e2 | e2 <;> rcases e3 with e3 | e3 <;> rcases e4 with e4 | e4 <;>
    simp [f55, f48, e1, e2, e3, e4, l1, l2, l3, l4, ieqT, q]
end Go.Ab.Try
