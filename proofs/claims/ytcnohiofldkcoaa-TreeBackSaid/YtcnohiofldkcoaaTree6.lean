/- The place of a key; a copy of a tree; a tree is the same as itself. -/
import Derived.Test.YtcnohiofldkcoaaTree4
import Derived.Test.YtcnohiofldkcoaaT3
import Derived.Test.YtcnohiofldkcoaaT4
namespace Go.Ab.Try
open Go Go.Ab Go.Proofs
set_option linter.unusedVariables false

/-! ### The place of a key -/

def findK (key : ByteArray) : List ByteArray → Nat
  | [] => 0
  | x :: r => bif Ops.std.seq key x then 0 else findK key r + 1
theorem findK_le (key : ByteArray) (l : List ByteArray) : findK key l ≤ l.length := by
  induction l with
  | nil => simp [findK]
  | cons x r ih => simp only [findK]; cases Ops.std.seq key x <;> simp <;> omega
theorem seq_comm (a b : ByteArray) : Ops.std.seq a b = Ops.std.seq b a := by simp [Ops.std, eq_comm]
theorem seq_self (a : ByteArray) : Ops.std.seq a a = true := by simp [Ops.std]
theorem seq_eq {a b : ByteArray} (h : Ops.std.seq a b = true) : a = b := by
  have : a.data.toList = b.data.toList := by simpa [Ops.std] using h
  cases a; cases b; simp_all

theorem loop38 (key : ByteArray) (all : List ByteArray) (hl : all.length ≤ 100) (rest : List ByteArray) : ∀ (pre : List ByteArray), all = pre ++ rest →
    (lim F pr).loop [7, 1, 0, 8] 0 b38_0 (H38_0_0 (kst all) key pre.length) = some (if findK key rest < rest.length then W38_0_0 ((pre.length + findK key rest : Nat) : Int) else W38_0_1) := by
  induction rest with
  | nil => intro pre h; subst h; exact round_lim (r38_0_0_2L _ key _ doneM)
  | cons x rest ih =>
    intro pre h
    have hp : pre.length < 9223372036854775807 := by have := congrArg List.length h; simp at this; omega
    cases hs : Ops.std.seq key x with
    | true =>
      rw [if_pos (by simp [findK, hs])]
      simp only [findK, hs, cond_true, Nat.add_zero]
      exact round_lim (r38_0_0_0L (kst all) key pre.length x (by rw [h]; exact moreM) (by rw [h]; exact lgetM) hs)
    | false =>
      have this := r38_0_0_1L (kst all) key pre.length x (by rw [h]; exact moreM) (by rw [h]; exact lgetM) hs
      rw [stepM (x := x) hp] at this
      have hi := ih (pre ++ [x]) (by rw [h]; simp)
      have e : (if findK key (x :: rest) < (x :: rest).length then W38_0_0 ((pre.length + findK key (x :: rest) : Nat) : Int) else W38_0_1) = (if findK key rest < rest.length then W38_0_0 (((pre ++ [x]).length + findK key rest : Nat) : Int) else W38_0_1) := by
        simp only [findK, hs, cond_false, List.length_cons, List.length_append, List.length_nil]
        by_cases hlt : findK key rest < rest.length
        · rw [if_pos (by omega), if_pos hlt, show pre.length + (findK key rest + 1) = pre.length + (0 + 1) + findK key rest by omega]
        · rw [if_neg (by omega), if_neg hlt]
      rw [e]
      exact round_lim (this.trans hi)

theorem call38 (keys : List ByteArray) (key : ByteArray) (hl : keys.length ≤ 100) : (lim F pr).call 38 [.lit 9 false (kst keys), .sc (.string key)] [] = some (.sc (.int .i64 (if findK key keys < keys.length then (findK key keys : Int) else -1)), []) := by
  have h := loop38 key keys hl keys [] rfl
  by_cases hlt : findK key keys < keys.length
  · rw [if_pos hlt] at h ⊢
    have := call_lim (f := 38) rfl (p38_0L (kst keys) key _ h)
    rw [this]; simp
  · rw [if_neg hlt] at h ⊢
    exact call_lim (f := 38) rfl (p38_1L (kst keys) key h)

theorem loop40 (key : ByteArray) (all : List ByteArray) (hl : all.length ≤ 100) (rest : List ByteArray) : ∀ (pre : List ByteArray), all = pre ++ rest →
    (lim F pr).loop [1, 5, 0] 0 b40_0 (H40_0_0 (kst all) key pre.length) = some (if findK key rest < rest.length then W40_0_0 ((pre.length + findK key rest : Nat) : Int) else W40_0_1 (kst all)) := by
  induction rest with
  | nil => intro pre h; subst h; exact round_lim (r40_0_0_2L _ key _ doneM)
  | cons x rest ih =>
    intro pre h
    have hp : pre.length < 9223372036854775807 := by have := congrArg List.length h; simp at this; omega
    cases hs : Ops.std.seq key x with
    | true =>
      rw [if_pos (by simp [findK, hs])]
      simp only [findK, hs, cond_true, Nat.add_zero]
      exact round_lim (r40_0_0_0L (kst all) key pre.length x (by rw [h]; exact moreM) (by rw [h]; exact lgetM) (by rw [seq_comm]; exact hs))
    | false =>
      have this := r40_0_0_1L (kst all) key pre.length x (by rw [h]; exact moreM) (by rw [h]; exact lgetM) (by rw [seq_comm]; exact hs)
      rw [stepM (x := x) hp] at this
      have hi := ih (pre ++ [x]) (by rw [h]; simp)
      have e : (if findK key (x :: rest) < (x :: rest).length then W40_0_0 ((pre.length + findK key (x :: rest) : Nat) : Int) else W40_0_1 (kst all)) = (if findK key rest < rest.length then W40_0_0 (((pre ++ [x]).length + findK key rest : Nat) : Int) else W40_0_1 (kst all)) := by
        simp only [findK, hs, cond_false, List.length_cons, List.length_append, List.length_nil]
        by_cases hlt : findK key rest < rest.length
        · rw [if_pos (by omega), if_pos hlt, show pre.length + (findK key rest + 1) = pre.length + (0 + 1) + findK key rest by omega]
        · rw [if_neg (by omega), if_neg hlt]
      rw [e]
      exact round_lim (this.trans hi)

theorem call40 (keys : List ByteArray) (key : ByteArray) (hl : keys.length ≤ 100) : (lim F pr).call 40 [.lit 9 false (kst keys), .sc (.string key)] [] = some (.sc (.int .i64 (findK key keys : Int)), []) := by
  have h := loop40 key keys hl keys [] rfl
  have hle := findK_le key keys
  by_cases hlt : findK key keys < keys.length
  · rw [if_pos hlt] at h
    have := call_lim (f := 40) rfl (p40_0L (kst keys) key _ h)
    rw [this]; simp
  · rw [if_neg hlt] at h
    have := call_lim (f := 40) rfl (p40_1L (kst keys) key h)
    rw [this, llenM, show findK key keys = keys.length by omega]

/-! ### A tree is the same as itself -/

theorem loop41 (all : List ByteArray) (hl : all.length ≤ 100) (rest : List ByteArray) : ∀ (pre : List ByteArray), all = pre ++ rest →
    (lim F pr).loop [0, 1, 5] 0 b41_0 (H41_0_0 (kst all) (kst all) pre.length) = some W41_0_1 := by
  induction rest with
  | nil => intro pre h; subst h; exact round_lim (r41_0_0_2L _ _ _ doneM)
  | cons x rest ih =>
    intro pre h
    have hp : pre.length < 9223372036854775807 := by have := congrArg List.length h; simp at this; omega
    have this := r41_0_0_0L (kst all) (kst all) pre.length x x (by rw [h]; exact moreM) (by rw [h]; exact lgetM) (by rw [h]; exact lgetM) (seq_self x)
    rw [stepM (x := x) hp] at this
    exact round_lim (this.trans (ih (pre ++ [x]) (by rw [h]; simp)))
theorem call41 (keys : List ByteArray) (hl : keys.length ≤ 100) : (lim F pr).call 41 [.lit 9 false (kst keys), .lit 9 false (kst keys)] [] = some (.sc (.bool true), []) :=
  call_lim (f := 41) rfl (p41_1L (kst keys) (kst keys) (ieqT rfl) (loop41 keys hl keys [] rfl))

theorem loop25 (k n : Int) (s : ByteArray) (keys : List AV) (all : List Tr) (hl : all.length ≤ 100) (rest : List Tr) : ∀ (pre : List Tr), all = pre ++ rest →
    (∀ t, t ∈ rest → (lim F pr).call 25 [encT t, encT t] [] = some (.sc (.bool true), [])) →
    (lim F pr).loop [2, 3, 5] 2 b25_0 (H25_0_0 k n s keys (all.map encT) k n s keys (all.map encT) pre.length) = some (W25_0_1 k n s keys (all.map encT) k n s keys (all.map encT)) := by
  induction rest with
  | nil => intro pre h _; subst h; exact round_lim (r25_0_0_2L k n s keys _ k n s keys _ _ doneM)
  | cons t rest ih =>
    intro pre h hR
    have hp : pre.length < 9223372036854775807 := by have := congrArg List.length h; simp at this; omega
    have hc := hR t (by simp)
    have hget : Ops.std.lget (all.map encT) pre.length = some (encT t) := by rw [h]; exact lgetM
    have hi := ih (pre ++ [t]) (by rw [h]; simp) (fun u hu => hR u (by simp [hu]))
    obtain ⟨tk, tn, ts, tks, tkd⟩ := t
    rw [encT_mk] at hc hget
    have this := r25_0_0_0L k n s keys (all.map encT) k n s keys (all.map encT) pre.length tk tn ts _ _ tk tn ts _ _ true (by rw [h]; exact moreM) hget hget hc rfl
    rw [stepM (x := Tr.mk tk tn ts tks tkd) hp] at this
    exact round_lim (this.trans hi)

theorem call25 {m : Nat} (hm : m ≤ 100) (t : Tr) : ∀ d, OkM m d t → (lim F pr).call 25 [encT t, encT t] [] = some (.sc (.bool true), []) := by
  refine Tr.ind (Q := fun t => ∀ d, OkM m d t → (lim F pr).call 25 [encT t, encT t] [] = some (.sc (.bool true), [])) (fun k n s keys kids ih => ?_) t
  intro d h
  cases d with
  | zero => exact h.elim
  | succ d =>
    obtain ⟨g1, g2, g3, g4, g5⟩ := h
    rw [encT_mk]
    exact call_lim (f := 25) rfl (p25_1L k n s _ _ k n s _ _ true (ieqT rfl) (ieqT rfl) (seq_self s) (call41 keys (by omega)) rfl (ieqT rfl) (loop25 k n s (kst keys) kids (by omega) kids [] rfl (fun u hu => ih u hu d (g5 u hu))))

/-! ### A copy of a tree -/

theorem lsetM {α : Type} {f : α → AV} {pre rest : List α} {x y : α} : Ops.std.lset ((pre ++ x :: rest).map f) (pre.length : Int) (f y) = (pre ++ y :: rest).map f := by
  show List.set _ (pre.length : Int).toNat _ = _
  simp
theorem room_of {e : Nat} {xs ys : List AV} (h : xs.length + ys.length ≤ 1000) (he : e ≤ 1000) : Ops.std.room e xs ys = true := by
  have : (xs.length + ys.length) * e ≤ 1000 * 1000 := Nat.mul_le_mul h he
  have h2 : xs.length + ys.length ≤ maxLen := by unfold maxLen; omega
  have h3 : (xs.length + ys.length) * e ≤ 140737488355328 := by omega
  simp only [Ops.std, decide_eq_true h2, decide_eq_true h3, Bool.and_self]

/-- What 'Copy' answers: a tree whose own lists are new. -/
def Copied (t : Tr) : Prop := match t with
  | .mk k n s keys kids => (lim F pr).call 39 [encT t] [] = some (.agg [.sc (.int .i64 k), .sc (.int .i64 n), .sc (.string s), .sl 0 0, .sl 1 0], [.row 9 0 false (kst keys), .row 32 0 false (kids.map encT)])

theorem loop39 (k n : Int) (s : ByteArray) (keys : List AV) (all : List Tr) (hl : all.length ≤ 100) (rest : List Tr) : ∀ (pre : List Tr), all = pre ++ rest →
    (∀ t, t ∈ rest → Copied t) →
    (lim F pr).loop [14, 15, 1, 2] 4 b39_0 (H39_0_0 k n s keys (all.map encT) pre.length (all.map encT)) = some (W39_0_0 k n s keys (all.map encT)) := by
  induction rest with
  | nil => intro pre h _; subst h; exact round_lim (r39_0_0_1L k n s keys _ _ _ doneM)
  | cons t rest ih =>
    intro pre h hR
    have hp : pre.length < 9223372036854775807 := by have := congrArg List.length h; simp at this; omega
    have hc := hR t (by simp)
    have hget : Ops.std.lget (all.map encT) pre.length = some (encT t) := by rw [h]; exact lgetM
    have hi := ih (pre ++ [t]) (by rw [h]; simp) (fun u hu => hR u (by simp [hu]))
    have hset : Ops.std.lset (all.map encT) (pre.length : Int) (encT t) = all.map encT := by rw [h]; exact lsetM
    obtain ⟨tk, tn, ts, tks, tkd⟩ := t
    simp only [Copied] at hc
    rw [encT_mk] at hc hget hset
    have this := r39_0_0_0L k n s keys (all.map encT) pre.length (all.map encT) tk tn ts _ _ tk tn ts _ _ (by rw [h]; exact moreM) hget hc
    rw [stepM (x := Tr.mk tk tn ts tks tkd) hp, hset] at this
    exact round_lim (this.trans hi)

theorem call39 {m : Nat} (hm : m ≤ 100) (t : Tr) : ∀ d, OkM m d t → Copied t := by
  refine Tr.ind (Q := fun t => ∀ d, OkM m d t → Copied t) (fun k n s keys kids ih => ?_) t
  intro d h
  cases d with
  | zero => exact h.elim
  | succ d =>
    obtain ⟨g1, g2, g3, g4, g5⟩ := h
    simp only [Copied]
    rw [encT_mk]
    exact call_lim (f := 39) rfl (p39_0L k n s _ _ _ (room_of (by simp <;> omega) (by omega)) (room_of (by simp <;> omega) (by omega)) (loop39 k n s (kst keys) kids (by omega) kids [] rfl (fun u hu => ih u hu d (g5 u hu))))

/-! ### A key's value -/

def emptyT : Tr := .mk 0 0 ⟨#[]⟩ [] []
def getT (t : Tr) (key : ByteArray) : Tr × Bool := match t with
  | .mk k _ _ keys kids => if k = 4 ∧ findK key keys < keys.length then match kids[findK key keys]? with
      | some t => (t, true)
      | none => (emptyT, false)
    else (emptyT, false)
theorem getT_mk {k n : Int} {s : ByteArray} {keys : List ByteArray} {kids : List Tr} {key : ByteArray} : getT (.mk k n s keys kids) key = if k = 4 ∧ findK key keys < keys.length then (match kids[findK key keys]? with
      | some t => (t, true)
      | none => (emptyT, false)) else (emptyT, false) := rfl

theorem call23 {d m : Nat} (hm : m ≤ 100) (t : Tr) (key : ByteArray) (h : OkM m d t) : (lim F pr).call 23 [encT t, .sc (.string key)] [] = some (.tup [encT (getT t key).1, .sc (.bool (getT t key).2)], []) := by
  obtain ⟨k, n, s, keys, kids⟩ := t
  cases d with
  | zero => exact h.elim
  | succ d =>
    obtain ⟨g1, g2, g3, g4, g5⟩ := h
    rw [encT_mk]
    have h38 := call38 keys key (by omega)
    have he : encT emptyT = .agg [.sc (.int .i64 0), .sc (.int .i64 0), .sc (.string ⟨#[]⟩), .lit 9 false [], .lit 32 false []] := rfl
    rw [getT_mk]
    by_cases c1 : k = 4
    · by_cases c2 : findK key keys < keys.length
      · rw [if_pos ⟨c1, c2⟩]
        rw [if_pos c2] at h38
        cases hk : kids[findK key keys]? with
        | none =>
          have hk' : kids.length ≤ findK key keys := List.getElem?_eq_none_iff.1 hk
          exact call_lim (f := 23) rfl (p23_1L k n s _ _ key _ h38 (ieqT c1) (iltF (by omega)) (ileT (by rw [llenM]; omega)))
        | some t =>
          obtain ⟨hlt, ht⟩ := List.getElem?_eq_some_iff.1 hk
          have hget : Ops.std.lget (kids.map encT) (findK key keys : Int) = some (encT t) := by rw [lget_in (by simpa using hlt)]; simp [ht]
          have hcp := call39 hm t d (g5 t (by rw [← ht]; exact List.getElem_mem hlt))
          obtain ⟨tk, tn, ts, tks, tkd⟩ := t
          simp only [Copied] at hcp
          rw [encT_mk] at hcp hget
          simp only [encT_mk]
          exact call_lim (f := 23) rfl (p23_2L k n s _ _ key _ tk tn ts _ _ tk tn ts _ _ h38 (ieqT c1) (iltF (by omega)) (ileF (by rw [llenM]; omega)) hget hcp)
      · rw [if_neg (fun h => c2 h.2)]
        rw [if_neg c2] at h38
        exact call_lim (f := 23) rfl (p23_0L k n s _ _ key _ h38 (ieqT c1) (iltT (by omega)))
    · rw [if_neg (fun h => c1 h.1)]
      exact call_lim (f := 23) rfl (p23_3L k n s _ _ key _ h38 (ieqF c1))

theorem call24 {d m : Nat} (hm : m ≤ 100) (t : Tr) (key : ByteArray) (h : OkM m d t) : (lim F pr).call 24 [encT t, .sc (.string key)] [] = some (.tup [encT (getT t key).1, .sc (.bool (getT t key).2)], []) := by
  obtain ⟨k, n, s, keys, kids⟩ := t
  cases d with
  | zero => exact h.elim
  | succ d =>
    obtain ⟨g1, g2, g3, g4, g5⟩ := h
    rw [encT_mk]
    have h40 := call40 keys key (by omega)
    have hle := findK_le key keys
    rw [getT_mk]
    by_cases c1 : k = 4
    · by_cases c2 : findK key keys < keys.length
      · rw [if_pos ⟨c1, c2⟩]
        cases hk : kids[findK key keys]? with
        | none =>
          have hk' : kids.length ≤ findK key keys := List.getElem?_eq_none_iff.1 hk
          exact call_lim (f := 24) rfl (p24_1L k n s _ _ key _ h40 (ieqT c1) (ieqF (by rw [llenM]; omega)) (ileT (by rw [llenM]; omega)))
        | some t =>
          obtain ⟨hlt, ht⟩ := List.getElem?_eq_some_iff.1 hk
          have hget : Ops.std.lget (kids.map encT) (findK key keys : Int) = some (encT t) := by rw [lget_in (by simpa using hlt)]; simp [ht]
          obtain ⟨tk, tn, ts, tks, tkd⟩ := t
          rw [encT_mk] at hget
          simp only [encT_mk]
          exact call_lim (f := 24) rfl (p24_2L k n s _ _ key _ tk tn ts _ _ h40 (ieqT c1) (ieqF (by rw [llenM]; omega)) (ileF (by rw [llenM]; omega)) hget)
      · rw [if_neg (fun h => c2 h.2)]
        exact call_lim (f := 24) rfl (p24_0L k n s _ _ key _ h40 (ieqT c1) (ieqT (by rw [llenM]; omega)))
    · rw [if_neg (fun h => c1 h.1)]
      exact call_lim (f := 24) rfl (p24_3L k n s _ _ key _ h40 (ieqF c1))
end Go.Ab.Try
