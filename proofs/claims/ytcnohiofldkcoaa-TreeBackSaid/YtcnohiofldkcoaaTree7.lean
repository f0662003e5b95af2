/- A tree with a key's value set: the program's answer and the reference's. -/
import Derived.Test.YtcnohiofldkcoaaTree6
import Derived.Test.YtcnohiofldkcoaaT5
namespace Go.Ab.Try
open Go Go.Ab Go.Proofs
set_option linter.unusedVariables false

/-- The place at which a new key belongs. -/
def riseK (key : ByteArray) : List ByteArray → Nat
  | [] => 0
  | x :: r => bif Ops.std.slt key x then 0 else riseK key r + 1
theorem riseK_le (key : ByteArray) (l : List ByteArray) : riseK key l ≤ l.length := by
  induction l with
  | nil => simp [riseK]
  | cons x r ih => simp only [riseK]; cases Ops.std.slt key x <;> simp <;> omega

theorem loop42s (key : ByteArray) (all : List ByteArray) (hl : all.length ≤ 100) (rest : List ByteArray) : ∀ (pre : List ByteArray), all = pre ++ rest →
    (lim F pr).loop [7, 1, 0, 8] 1 b42_0 (H42_0s_0 (kst all) key pre.length) = some (if riseK key rest < rest.length then W42_0s_0 key ((pre.length + riseK key rest : Nat) : Int) else W42_0s_1 key) := by
  induction rest with
  | nil => intro pre h; subst h; exact round_lim (r42_0s_0_2L _ key _ doneM)
  | cons x rest ih =>
    intro pre h
    have hp : pre.length < 9223372036854775807 := by have := congrArg List.length h; simp at this; omega
    have h43 := call_lim (f := 43) rfl (p43_0L x key)
    cases hs : Ops.std.slt key x with
    | true =>
      rw [if_pos (by simp [riseK, hs])]
      simp only [riseK, hs, cond_true, Nat.add_zero]
      exact round_lim (r42_0s_0_0L (kst all) key pre.length x _ (by rw [h]; exact moreM) (by rw [h]; exact lgetM) h43 hs)
    | false =>
      have this := r42_0s_0_1L (kst all) key pre.length x _ (by rw [h]; exact moreM) (by rw [h]; exact lgetM) h43 hs
      rw [stepM (x := x) hp] at this
      have hi := ih (pre ++ [x]) (by rw [h]; simp)
      have e : (if riseK key (x :: rest) < (x :: rest).length then W42_0s_0 key ((pre.length + riseK key (x :: rest) : Nat) : Int) else W42_0s_1 key) = (if riseK key rest < rest.length then W42_0s_0 key (((pre ++ [x]).length + riseK key rest : Nat) : Int) else W42_0s_1 key) := by
        simp only [riseK, hs, cond_false, List.length_cons, List.length_append, List.length_nil]
        by_cases hlt : riseK key rest < rest.length
        · rw [if_pos (by omega), if_pos hlt, show pre.length + (riseK key rest + 1) = pre.length + (0 + 1) + riseK key rest by omega]
        · rw [if_neg (by omega), if_neg hlt]
      rw [e]
      exact round_lim (this.trans hi)

theorem call42s (keys : List ByteArray) (key : ByteArray) (hl : keys.length ≤ 100) : (lim F pr).call 42 [.lit 9 false (kst keys), .fn 43 [.bptr 0 0]] [.box 9 [.sc (.string key)]] = some (.sc (.int .i64 (if riseK key keys < keys.length then (riseK key keys : Int) else -1)), [.box 9 [.sc (.string key)]]) := by
  have h := loop42s key keys hl keys [] rfl
  by_cases hlt : riseK key keys < keys.length
  · rw [if_pos hlt] at h ⊢
    have := call_lim (f := 42) rfl (p42s_0L (kst keys) key _ h)
    rw [this]; simp
  · rw [if_neg hlt] at h ⊢
    exact call_lim (f := 42) rfl (p42s_1L (kst keys) key h)

theorem loop27 (k n : Int) (s : ByteArray) (kids : List AV) (key : ByteArray) (hkey : key.size ≤ 300) (yk yn : Int) (ys : ByteArray) (ykeys ykids : List AV) (all : List ByteArray) (hl : all.length ≤ 100) (rest : List ByteArray) : ∀ (pre : List ByteArray), all = pre ++ rest →
    (lim F pr).loop [1, 5, 7, 3, 6] 3 b27_0 (H27_0_0 k n s (kst all) kids key yk yn ys ykeys ykids pre.length) = some (W27_0_0 k n s (kst all) kids key yk yn ys ykeys ykids ((pre.length + riseK key rest : Nat) : Int)) := by
  induction rest with
  | nil => intro pre h; subst h; exact round_lim (r27_0_0_2L k n s _ kids key yk yn ys ykeys ykids _ doneM)
  | cons x rest ih =>
    intro pre h
    have hp : pre.length < 9223372036854775807 := by have := congrArg List.length h; simp at this; omega
    have h46 := call46 key x (by omega)
    cases hs : Ops.std.slt key x with
    | true =>
      simp only [riseK, hs, cond_true, Nat.add_zero]
      exact round_lim (r27_0_0_0L k n s (kst all) kids key yk yn ys ykeys ykids pre.length x _ (by rw [h]; exact moreM) (by rw [h]; exact lgetM) h46 hs)
    | false =>
      have this := r27_0_0_1L k n s (kst all) kids key yk yn ys ykeys ykids pre.length x _ (by rw [h]; exact moreM) (by rw [h]; exact lgetM) h46 hs
      rw [stepM (x := x) hp] at this
      have hi := ih (pre ++ [x]) (by rw [h]; simp)
      simp only [riseK, hs, cond_false]
      rw [show pre.length + (riseK key rest + 1) = (pre ++ [x]).length + riseK key rest by simp; omega]
      exact round_lim (this.trans hi)

/-! ### The tree with the value set -/

def putAt {α : Type} (i : Nat) (x : α) (l : List α) : List α := l.take i ++ x :: l.drop i
def setT (t : Tr) (key : ByteArray) (x : Tr) : Tr := match t with
  | .mk k n s keys kids => if k = 4 ∧ keys.length = kids.length then
      if findK key keys < keys.length then .mk k n s keys (kids.set (findK key keys) x)
      else .mk k n s (putAt (riseK key keys) key keys) (putAt (riseK key keys) x kids)
    else .mk k n s keys kids
theorem setT_mk {k n : Int} {s : ByteArray} {keys : List ByteArray} {kids : List Tr} {key : ByteArray} {x : Tr} : setT (.mk k n s keys kids) key x = if k = 4 ∧ keys.length = kids.length then
      (if findK key keys < keys.length then .mk k n s keys (kids.set (findK key keys) x) else .mk k n s (putAt (riseK key keys) key keys) (putAt (riseK key keys) x kids))
    else .mk k n s keys kids := rfl

section
variable {α : Type} {f : α → AV}
theorem lsub_lo {l : List α} {i : Nat} (h : i ≤ l.length) : Ops.std.lsub (l.map f) 0 (i : Int) = some ((l.take i).map f) := by
  have : (0 : Int) ≤ 0 ∧ (0 : Int) ≤ (i : Int) ∧ (i : Int) ≤ ((l.map f).length : Int) := by simp; omega
  show (if _ then _ else _) = _
  rw [if_pos this]
  simp [List.map_take]
theorem lsub_hi {l : List α} {i : Nat} (h : i ≤ l.length) : Ops.std.lsub (l.map f) (i : Int) (Ops.std.llen (l.map f)) = some ((l.drop i).map f) := by
  have : (0 : Int) ≤ (i : Int) ∧ (i : Int) ≤ Ops.std.llen (l.map f) ∧ Ops.std.llen (l.map f) ≤ ((l.map f).length : Int) := by rw [llenM]; simp; omega
  show (if _ then _ else _) = _
  rw [if_pos this, llenM, List.take_of_length_le (by simp)]
  simp [List.map_drop]
theorem lapp_put {l : List α} {i : Nat} {x : α} : Ops.std.lapp ((l.take i).map f) (Ops.std.lapp [f x] ((l.drop i).map f)) = (putAt i x l).map f := by
  show _ ++ (_ ++ _) = _
  simp [putAt]
theorem lapp_put2 {l : List α} {i : Nat} {x : α} : Ops.std.lapp (Ops.std.lapp ((l.take i).map f) [f x]) ((l.drop i).map f) = (putAt i x l).map f := by
  show (_ ++ _) ++ _ = _
  simp [putAt]
theorem lset_map {l : List α} {i : Nat} {x : α} : Ops.std.lset (l.map f) (i : Int) (f x) = (l.set i x).map f := by
  show List.set _ _ _ = _
  simp [List.map_set]
end

theorem lget_kid {kids : List Tr} {i : Nat} (h : i < kids.length) : ∃ k n s keys ks, Ops.std.lget (kids.map encT) (i : Int) = some (.agg [.sc (.int .i64 k), .sc (.int .i64 n), .sc (.string s), .lit 9 false keys, .lit 32 false ks]) := by
  rw [lget_in (by simpa using h)]
  simp only [List.getElem_map]
  generalize kids[i] = t
  obtain ⟨k, n, s, keys, ks⟩ := t
  exact ⟨k, n, s, _, _, by rw [encT_mk]⟩

theorem call26 {d d2 m : Nat} (hm : m ≤ 90) (t : Tr) (key : ByteArray) (x : Tr) (h : OkM m d t) (hx : OkM m d2 x) : (lim F pr).call 26 [encT t, .sc (.string key), encT x] [] = some (encT (setT t key x), []) := by
  have hcp := call39 (m := m) (by omega) t d h
  have hcx := call39 (m := m) (by omega) x d2 hx
  obtain ⟨k, n, s, keys, kids⟩ := t
  have hxe : ∃ x' : Tr, x' = x := ⟨x, rfl⟩
  obtain ⟨yk, yn, ys, ykeys, ykids⟩ := x
  simp only [Copied] at hcp hcx
  cases d with
  | zero => exact h.elim
  | succ d =>
    obtain ⟨g1, g2, g3, g4, g5⟩ := h
    have h38 := call38 keys key (by omega)
    have h42 := call42s keys key (by omega)
    have hle := riseK_le key keys
    rw [setT_mk]
    by_cases c1 : k = 4
    · by_cases c2 : keys.length = kids.length
      · rw [if_pos ⟨c1, c2⟩]
        by_cases c3 : findK key keys < keys.length
        · rw [if_pos c3] at h38 ⊢
          obtain ⟨k0, n0, s0, keys0, ks0, hget⟩ := lget_kid (kids := kids) (i := findK key keys) (by omega)
          have hset := lset_map (f := encT) (l := kids) (i := findK key keys) (x := Tr.mk yk yn ys ykeys ykids)
          rw [encT_mk] at hcp hcx
          simp only [encT_mk] at hset ⊢
          rw [← hset]
          exact call_lim (f := 26) rfl (p26_0L k n s _ _ key yk yn ys _ _ k n s _ _ yk yn ys _ _ _ k0 n0 s0 keys0 ks0 hcp (ieqT c1) (ieqT (by rw [llenM, llenM]; omega)) hcx h38 (ileT (by omega)) hget)
        · rw [if_neg c3] at h38 ⊢
          have e1 := lapp_put (f := fun x : ByteArray => AV.sc (.string x)) (l := keys) (i := riseK key keys) (x := key)
          have e2 := lapp_put (f := encT) (l := kids) (i := riseK key keys) (x := Tr.mk yk yn ys ykeys ykids)
          have l1 := lsub_lo (f := fun x : ByteArray => AV.sc (.string x)) hle
          have l2 := lsub_hi (f := fun x : ByteArray => AV.sc (.string x)) hle
          have l3 := lsub_lo (f := encT) (show riseK key keys ≤ kids.length by omega)
          have l4 := lsub_hi (f := encT) (show riseK key keys ≤ kids.length by omega)
          rw [encT_mk] at hcp hcx
          simp only [encT_mk] at e2 ⊢
          rw [show kst (putAt (riseK key keys) key keys) = _ from e1.symm, ← e2]
          by_cases c4 : riseK key keys < keys.length
          · rw [if_pos c4] at h42
            exact call_lim (f := 26) rfl (p26_2L k n s _ _ key yk yn ys _ _ k n s _ _ yk yn ys _ _ _ _ _ _ _ _ hcp (ieqT c1) (ieqT (by rw [llenM, llenM]; omega)) hcx h38 (ileF (by omega)) h42 (iltF (by omega)) (room_of (by simp; omega) (by omega)) l1 l2 (room_of (by simp; omega) (by omega)) l3 l4)
          · rw [if_neg c4] at h42
            have e : ((riseK key keys : Nat) : Int) = Ops.std.llen (kst keys) := by rw [llenM]; omega
            rw [e] at l1 l2 l3 l4
            exact call_lim (f := 26) rfl (p26_1L k n s _ _ key yk yn ys _ _ k n s _ _ yk yn ys _ _ _ _ _ _ _ _ hcp (ieqT c1) (ieqT (by rw [llenM, llenM]; omega)) hcx h38 (ileF (by omega)) h42 (iltT (by omega)) (room_of (by simp; omega) (by omega)) l1 l2 (room_of (by simp; omega) (by omega)) l3 l4)
      · rw [if_neg (fun h => c2 h.2)]
        rw [encT_mk] at hcp
        simp only [encT_mk]
        exact call_lim (f := 26) rfl (p26_3L k n s _ _ key yk yn ys _ _ k n s _ _ hcp (ieqT c1) (ieqF (by rw [llenM, llenM]; omega)))
    · rw [if_neg (fun h => c1 h.1)]
      rw [encT_mk] at hcp
      simp only [encT_mk]
      exact call_lim (f := 26) rfl (p26_4L k n s _ _ key yk yn ys _ _ k n s _ _ hcp (ieqF c1))

theorem call27 {d m : Nat} (hm : m ≤ 90) (t : Tr) (key : ByteArray) (hkey : key.size ≤ 300) (x : Tr) (h : OkM m d t) : (lim F pr).call 27 [encT t, .sc (.string key), encT x] [] = some (encT (setT t key x), []) := by
  obtain ⟨k, n, s, keys, kids⟩ := t
  obtain ⟨yk, yn, ys, ykeys, ykids⟩ := x
  cases d with
  | zero => exact h.elim
  | succ d =>
    obtain ⟨g1, g2, g3, g4, g5⟩ := h
    have h40 := call40 keys key (by omega)
    have hle := riseK_le key keys
    have hle2 := findK_le key keys
    rw [setT_mk]
    by_cases c1 : k = 4
    · by_cases c2 : keys.length = kids.length
      · rw [if_pos ⟨c1, c2⟩]
        by_cases c3 : findK key keys < keys.length
        · rw [if_pos c3]
          obtain ⟨k0, n0, s0, keys0, ks0, hget⟩ := lget_kid (kids := kids) (i := findK key keys) (by omega)
          have hset := lset_map (f := encT) (l := kids) (i := findK key keys) (x := Tr.mk yk yn ys ykeys ykids)
          simp only [encT_mk] at hset ⊢
          rw [← hset]
          exact call_lim (f := 27) rfl (p27_0L k n s _ _ key yk yn ys _ _ _ k0 n0 s0 keys0 ks0 (ieqT c1) (ieqT (by rw [llenM, llenM]; omega)) h40 (iltT (by rw [llenM]; omega)) (room_of (by simp; omega) (by omega)) hget)
        · rw [if_neg c3]
          have e1 := lapp_put2 (f := fun x : ByteArray => AV.sc (.string x)) (l := keys) (i := riseK key keys) (x := key)
          have e2 := lapp_put2 (f := encT) (l := kids) (i := riseK key keys) (x := Tr.mk yk yn ys ykeys ykids)
          have l1 := lsub_lo (f := fun x : ByteArray => AV.sc (.string x)) hle
          have l2 := lsub_hi (f := fun x : ByteArray => AV.sc (.string x)) hle
          have l3 := lsub_lo (f := encT) (show riseK key keys ≤ kids.length by omega)
          have l4 := lsub_hi (f := encT) (show riseK key keys ≤ kids.length by omega)
          have hlo := loop27 k n s (kids.map encT) key hkey yk yn ys (kst ykeys) (ykids.map encT) keys (by omega) keys [] rfl
          rw [show ([] : List ByteArray).length + riseK key keys = riseK key keys by simp] at hlo
          simp only [encT_mk] at e2 ⊢
          rw [show kst (putAt (riseK key keys) key keys) = _ from e1.symm, ← e2]
          exact call_lim (f := 27) rfl (p27_1L k n s _ _ key yk yn ys _ _ _ _ _ _ _ _ (ieqT c1) (ieqT (by rw [llenM, llenM]; omega)) h40 (iltF (by rw [llenM]; omega)) hlo l1 (room_of (by simp; omega) (by omega)) (room_of (by simp; omega) (by omega)) l3 (room_of (by simp; omega) (by omega)) (room_of (by simp; omega) (by omega)) l2 (room_of (by simp [Ops.std]; omega) (by omega)) l4 (room_of (by simp [Ops.std]; omega) (by omega)))
      · rw [if_neg (fun h => c2 h.2)]
        simp only [encT_mk]
        exact call_lim (f := 27) rfl (p27_2L k n s _ _ key yk yn ys _ _ (ieqT c1) (ieqF (by rw [llenM, llenM]; omega)))
    · rw [if_neg (fun h => c1 h.1)]
      simp only [encT_mk]
      exact call_lim (f := 27) rfl (p27_3L k n s _ _ key yk yn ys _ _ (ieqF c1))

theorem mem_putAt {α : Type} {i : Nat} {x y : α} {l : List α} (h : y ∈ putAt i x l) : y = x ∨ y ∈ l := by
  simp only [putAt, List.mem_append, List.mem_cons] at h
  rcases h with h | h | h
  · exact .inr (List.mem_of_mem_take h)
  · exact .inl h
  · exact .inr (List.mem_of_mem_drop h)
theorem length_putAt {α : Type} {i : Nat} {x : α} {l : List α} (h : i ≤ l.length) : (putAt i x l).length = l.length + 1 := by
  simp [putAt]; omega

theorem set_ok {d m : Nat} {t x : Tr} {key : ByteArray} (hkey : key.size ≤ 300) (h : OkM m d t) (hx : OkM m d x) : OkM (m + 1) (d + 1) (setT t key x) := by
  have h' := h.mono (m' := m + 1) (d' := d + 1) (by omega) t (by omega)
  obtain ⟨k, n, s, keys, kids⟩ := t
  obtain ⟨g1, g2, g3, g4, g5⟩ := h'
  have hx' := hx.mono (m' := m + 1) (d' := d) (by omega) x (by omega)
  cases d with
  | zero => exact h.elim
  | succ d =>
    obtain ⟨_, g2', g3', _, _⟩ := h
    have hle := riseK_le key keys
    rw [setT_mk]
    by_cases c1 : k = 4 ∧ keys.length = kids.length
    · rw [if_pos c1]
      by_cases c3 : findK key keys < keys.length
      · rw [if_pos c3]
        refine ⟨g1, g2, by simpa using g3, g4, fun u hu => ?_⟩
        rcases List.mem_or_eq_of_mem_set hu with hu | rfl
        · exact g5 u hu
        · exact hx'
      · rw [if_neg c3]
        refine ⟨g1, by rw [length_putAt hle]; omega, by rw [length_putAt (by omega)]; omega, fun y hy => ?_, fun u hu => ?_⟩
        · rcases mem_putAt hy with rfl | hy
          · exact hkey
          · exact g4 y hy
        · rcases mem_putAt hu with rfl | hu
          · exact hx'
          · exact g5 u hu
    · rw [if_neg c1]
      exact ⟨g1, g2, g3, g4, g5⟩
theorem get_ok {d m : Nat} {t : Tr} {key : ByteArray} (h : OkM m d t) : OkM m d (getT t key).1 := by
  have he : OkM m d emptyT := by
    cases d with
    | zero => obtain ⟨k, n, s, keys, kids⟩ := t; exact h.elim
    | succ d => exact ⟨by show (0 : Nat) ≤ 300; omega, Nat.zero_le _, Nat.zero_le _, fun x hx => (by cases hx), fun x hx => (by cases hx)⟩
  obtain ⟨k, n, s, keys, kids⟩ := t
  cases d with
  | zero => exact h.elim
  | succ d =>
    obtain ⟨g1, g2, g3, g4, g5⟩ := h
    rw [getT_mk]
    by_cases c1 : k = 4 ∧ findK key keys < keys.length
    · rw [if_pos c1]
      cases hk : kids[findK key keys]? with
      | none => exact he
      | some t =>
        obtain ⟨hlt, ht⟩ := List.getElem?_eq_some_iff.1 hk
        exact (g5 t (by rw [← ht]; exact List.getElem_mem hlt)).mono (Nat.le_refl _) t (by omega)
    · rw [if_neg c1]; exact he
end Go.Ab.Try
