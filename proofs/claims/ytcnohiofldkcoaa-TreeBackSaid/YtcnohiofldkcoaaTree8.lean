/- What is set is got, every other key's value stays, and a dictionary that may be stays so: in Lean alone; and the two laws' own calls. -/
import Derived.Test.YtcnohiofldkcoaaTree7
namespace Go.Ab.Try
open Go Go.Ab Go.Proofs
set_option linter.unusedVariables false

theorem seqF {a b : ByteArray} (h : a ≠ b) : Ops.std.seq a b = false := by
  cases hs : Ops.std.seq a b with
  | true => exact absurd (seq_eq hs) h
  | false => rfl

theorem findK_at {key : ByteArray} {l : List ByteArray} (h : findK key l < l.length) : l[findK key l]? = some key := by
  induction l with
  | nil => simp at h
  | cons x r ih =>
    cases hs : Ops.std.seq key x with
    | true => simp only [findK, hs, cond_true]; rw [seq_eq hs]; rfl
    | false =>
      simp only [findK, hs, cond_false, List.length_cons] at h ⊢
      rw [List.getElem?_cons_succ]
      exact ih (by omega)
theorem findK_new {key : ByteArray} {l : List ByteArray} {i : Nat} (h : ¬ findK key l < l.length) (hi : i ≤ l.length) : findK key (putAt i key l) = i := by
  induction l generalizing i with
  | nil =>
    obtain rfl : i = 0 := by simpa using hi
    simp [putAt, findK, seq_self]
  | cons x r ih =>
    cases i with
    | zero => simp [putAt, findK, seq_self]
    | succ i =>
      cases hs : Ops.std.seq key x with
      | true => simp [findK, hs] at h
      | false =>
        have := ih (i := i) (by simp [findK, hs] at h; omega) (by simpa using hi)
        simp only [putAt, List.take_succ_cons, List.drop_succ_cons, List.cons_append, findK, hs, cond_false] at this ⊢
        omega
theorem findK_other {key other : ByteArray} (hne : other ≠ key) {l : List ByteArray} {i : Nat} (hi : i ≤ l.length) : findK other (putAt i key l) = if findK other l < i then findK other l else findK other l + 1 := by
  induction l generalizing i with
  | nil =>
    obtain rfl : i = 0 := by simpa using hi
    simp [putAt, findK, seqF hne]
  | cons x r ih =>
    cases i with
    | zero => simp [putAt, findK, seqF hne]
    | succ i =>
      have := ih (i := i) (by simpa using hi)
      simp only [putAt] at this
      cases hs : Ops.std.seq other x with
      | true => simp [putAt, findK, hs]
      | false =>
        simp only [putAt, List.take_succ_cons, List.drop_succ_cons, List.cons_append, findK, hs, cond_false, this]
        by_cases hlt : findK other r < i
        · rw [if_pos hlt, if_pos (by omega)]
        · rw [if_neg hlt, if_neg (by omega)]
theorem putAt_get {α : Type} {l : List α} {i j : Nat} {x : α} (hi : i ≤ l.length) : (putAt i x l)[if j < i then j else j + 1]? = l[j]? := by
  unfold putAt
  by_cases h : j < i
  · rw [if_pos h, List.getElem?_append_left (by simp; omega)]
    simp [h]
  · rw [if_neg h, List.getElem?_append_right (by simp; omega)]
    simp only [List.length_take]
    rw [show j + 1 - min i l.length = (j - i) + 1 by omega, List.getElem?_cons_succ, List.getElem?_drop]
    congr 1; omega
theorem putAt_at {α : Type} {l : List α} {i : Nat} {x : α} (hi : i ≤ l.length) : (putAt i x l)[i]? = some x := by
  unfold putAt
  rw [List.getElem?_append_right (by simp; omega)]
  simp only [List.length_take]
  rw [show i - min i l.length = 0 by omega]; rfl

theorem get_set {n : Int} {s : ByteArray} {keys : List ByteArray} {kids : List Tr} {key : ByteArray} {x : Tr} (hl : keys.length = kids.length) : getT (setT (.mk 4 n s keys kids) key x) key = (x, true) := by
  rw [setT_mk]
  rw [if_pos ⟨rfl, hl⟩]
  by_cases h : findK key keys < keys.length
  · rw [if_pos h]
    simp only [getT_mk]
    simp only [h, and_self, if_true]
    rw [List.getElem?_set_self (by omega)]
  · rw [if_neg h, getT_mk]
    have hr := riseK_le key keys
    rw [findK_new h hr, length_putAt hr, if_pos (show (4 : Int) = 4 ∧ riseK key keys < keys.length + 1 from ⟨rfl, by omega⟩), putAt_at (by omega)]
theorem get_set_other {n : Int} {s : ByteArray} {keys : List ByteArray} {kids : List Tr} {key other : ByteArray} {x : Tr} (hl : keys.length = kids.length) (hne : other ≠ key) : getT (setT (.mk 4 n s keys kids) key x) other = getT (.mk 4 n s keys kids) other := by
  rw [setT_mk]
  rw [if_pos ⟨rfl, hl⟩]
  by_cases h : findK key keys < keys.length
  · rw [if_pos h]
    simp only [getT_mk]
    by_cases ho : findK other keys < keys.length
    · simp only [ho, and_self, if_true]
      rw [List.getElem?_set_ne]
      intro he
      have h1 := findK_at h
      have h2 := findK_at ho
      rw [he, h2] at h1
      exact hne (Option.some.inj h1)
    · simp only [ho, and_false, if_false]
  · rw [if_neg h, getT_mk, getT_mk]
    have hr := riseK_le key keys
    have hle := findK_le other keys
    rw [findK_other hne hr, length_putAt hr, putAt_get (by omega)]
    by_cases ho : findK other keys < keys.length
    · rw [if_pos (show (4 : Int) = 4 ∧ (if findK other keys < riseK key keys then findK other keys else findK other keys + 1) < keys.length + 1 from ⟨rfl, by split <;> omega⟩), if_pos (show (4 : Int) = 4 ∧ findK other keys < keys.length from ⟨rfl, ho⟩)]
    · rw [if_neg (show ¬ ((4 : Int) = 4 ∧ (if findK other keys < riseK key keys then findK other keys else findK other keys + 1) < keys.length + 1) from fun h => ho (by have := h.2; split at this <;> omega)), if_neg (show ¬ ((4 : Int) = 4 ∧ findK other keys < keys.length) from fun h => ho h.2)]

/-! ### A dictionary that may be stays so -/

theorem less_total (a b : List UInt8) (h : Op.bytesLess a b = false) (hne : a ≠ b) : Op.bytesLess b a = true := by
  induction a generalizing b with
  | nil => cases b with
    | nil => exact absurd rfl hne
    | cons y b => simp [Op.bytesLess] at h
  | cons x a ih => cases b with
    | nil => rfl
    | cons y b =>
      simp only [Op.bytesLess] at h ⊢
      by_cases hxy : x = y
      · subst hxy
        simp only [beq_self_eq_true] at h ⊢
        simpa using ih b (by simpa using h) (fun e => hne (by rw [e]))
      · have h1 : ¬ y = x := fun e => hxy e.symm
        simp [hxy, h1, UInt8.lt_iff_toNat_lt] at h ⊢
        have : x.toNat ≠ y.toNat := fun e => hxy (UInt8.toNat_inj.1 e)
        omega
theorem slt_total {a b : ByteArray} (h : Ops.std.slt a b = false) (hne : a ≠ b) : Ops.std.slt b a = true :=
  less_total _ _ h (fun e => hne (seq_eq (decide_eq_true e)))
theorem rising_put {key : ByteArray} {l : List ByteArray} (h : rising l = true) (hnew : ¬ findK key l < l.length) : rising (putAt (riseK key l) key l) = true := by
  induction l with
  | nil => rfl
  | cons x r ih =>
    have hx : Ops.std.seq key x = false := by
      cases hs : Ops.std.seq key x with
      | true => simp [findK, hs] at hnew
      | false => rfl
    have hne : key ≠ x := fun e => by rw [e, seq_self] at hx; cases hx
    cases hs : Ops.std.slt key x with
    | true => simp [riseK, hs, putAt, rising, h]
    | false =>
      have hr : rising r = true := by
        cases r with
        | nil => rfl
        | cons y r => simp only [rising, Bool.and_eq_true] at h; exact h.2
      have hi := ih hr (by simp [findK, hx] at hnew; omega)
      simp only [riseK, hs, cond_false, putAt, List.take_succ_cons, List.drop_succ_cons, List.cons_append] at hi ⊢
      have hxk := slt_total hs hne
      cases r with
      | nil => simp [riseK, rising, hxk]
      | cons y r =>
        have hxy : Ops.std.slt x y = true := by simp only [rising, Bool.and_eq_true] at h; exact h.1
        cases hy : Ops.std.slt key y with
        | true => simp only [riseK, hy, cond_true, List.take_zero, List.drop_zero, List.nil_append, rising, Bool.and_eq_true] at hi ⊢; exact ⟨hxk, hi⟩
        | false => simp only [riseK, hy, cond_false, List.take_succ_cons, List.drop_succ_cons, List.cons_append] at hi ⊢; rw [rising, hxy, hi]; rfl

theorem fits4 {n : Int} {s : ByteArray} {keys kids keys' kids' : List AV} (h : fitsB 4 n s keys kids = true) (hl : Ops.std.llen keys' = Ops.std.llen kids') : fitsB 4 n s keys' kids' = true := by
  have e1 : Ops.std.ieq 4 1 = false := rfl
  have e2 : Ops.std.ieq 4 2 = false := rfl
  have e3 : Ops.std.ieq 4 3 = false := rfl
  unfold fitsB f55 at h ⊢
  simp only [e1, e2, e3, cond_false] at h ⊢
  cases c1 : Ops.std.ieq n 0 with
  | false => simp [c1] at h
  | true =>
    cases c2 : Ops.std.seq s ⟨#[]⟩ with
    | false => simp [c1, c2] at h
    | true => simp only [cond_true]; exact ieqT hl

theorem ieq0 {a : Int} : Ops.std.ieq a 0 = true ↔ a = 0 := ieq_iff
theorem rgt_mk {lv k n : Int} {s : ByteArray} {keys : List ByteArray} {kids : List Tr} : rgtT lv (.mk k n s keys kids) = 0 ↔ hereS lv k n s keys (kids.map encT) = 0 ∧ rgtL (lv + 1) kids = 0 := by
  simp only [rgtT, encTs_map]
  by_cases h : hereS lv k n s keys (kids.map encT) = 0
  · rw [ieqT h, cond_true]; simp [h]
  · rw [ieqF h, cond_false]; simp [h]
theorem rgtL_iff {lv : Int} {l : List Tr} : rgtL lv l = 0 ↔ ∀ t, t ∈ l → rgtT lv t = 0 := by
  induction l with
  | nil => simp [rgtL]
  | cons t r ih =>
    simp only [rgtL, List.mem_cons, forall_eq_or_imp]
    by_cases h : rgtT lv t = 0
    · rw [ieqT h, cond_true, ih]; simp [h]
    · rw [ieqF h, cond_false]; simp [h]
theorem here4 {lv n : Int} {s : ByteArray} {keys : List ByteArray} {kids : List AV} (h8 : lv ≤ 8) : hereS lv 4 n s keys kids = 0 ↔ fitsB 4 n s (kst keys) kids = true ∧ rising keys = true := by
  unfold hereS
  rw [if_neg (by omega), if_neg (by omega), if_neg (by omega)]
  cases fitsB 4 n s (kst keys) kids <;> cases rising keys <;> simp
theorem set_right {n : Int} {s : ByteArray} {keys : List ByteArray} {kids : List Tr} {key : ByteArray} {x : Tr} (hl : keys.length = kids.length) (h : rgtT 1 (.mk 4 n s keys kids) = 0) (hx : rgtT 2 x = 0) : rgtT 1 (setT (.mk 4 n s keys kids) key x) = 0 := by
  obtain ⟨h1, h2⟩ := rgt_mk.1 h
  obtain ⟨h3, h4⟩ := (here4 (by omega)).1 h1
  rw [rgtL_iff] at h2
  rw [setT_mk]
  rw [if_pos ⟨rfl, hl⟩]
  have hr := riseK_le key keys
  by_cases hf : findK key keys < keys.length
  · rw [if_pos hf]
    refine rgt_mk.2 ⟨(here4 (by omega)).2 ⟨fits4 h3 (by rw [llenM, llenM]; simp; omega), h4⟩, rgtL_iff.2 fun u hu => ?_⟩
    rcases List.mem_or_eq_of_mem_set hu with hu | rfl
    · exact h2 u hu
    · exact hx
  · rw [if_neg hf]
    refine rgt_mk.2 ⟨(here4 (by omega)).2 ⟨fits4 h3 (by rw [llenM, llenM, length_putAt hr, length_putAt (by omega)]; omega), rising_put h4 hf⟩, rgtL_iff.2 fun u hu => ?_⟩
    rcases mem_putAt hu with rfl | hu
    · exact hx
    · exact h2 u hu
theorem list_right {x : Tr} (h : rgtT 1 (.mk 3 0 ⟨#[]⟩ [] [x]) = 0) : rgtT 2 x = 0 := rgtL_iff.1 (rgt_mk.1 h).2 x (by simp)

/-! ### The laws -/

theorem law7 (t : Tr) (key : ByteArray) (x : Tr) : (lim F pr).call 7 [encT t, .sc (.string key), encT x] [] = some (.sc (.bool true), []) := by
  obtain ⟨b, h17, hok⟩ := large t
  obtain ⟨b2, hx17, hxok⟩ := large x
  cases b with
  | true =>
    obtain ⟨k, n, s, keys, kids⟩ := t
    obtain ⟨yk, yn, ys, ykeys, ykids⟩ := x
    simp only [encT_mk] at h17 ⊢
    exact call_lim rfl (p7_0L (h1 := h17) (h2 := rfl) (h3 := awake) ..)
  | false =>
    have h := hok rfl
    cases b2 with
    | true =>
      obtain ⟨k, n, s, keys, kids⟩ := t
      obtain ⟨yk, yn, ys, ykeys, ykids⟩ := x
      simp only [encT_mk] at h17 hx17 ⊢
      exact call_lim rfl (p7_1L (h1 := h17) (h2 := rfl) (h3 := hx17) (h4 := rfl) (h5 := awake) ..)
    | false =>
      have hx := hxok rfl
      by_cases c : (300 : Int) < key.size
      · obtain ⟨k, n, s, keys, kids⟩ := t
        obtain ⟨yk, yn, ys, ykeys, ykids⟩ := x
        simp only [encT_mk] at h17 hx17 ⊢
        exact call_lim rfl (p7_2L (h1 := h17) (h2 := rfl) (h3 := hx17) (h4 := rfl) (h5 := iltT c) (h6 := awake) ..)
      · have h23 := call23 (by omega) t key h
        have h24 := call24 (by omega) t key h
        have h26 := call26 (by omega) t key x h hx
        have h27 := call27 (by omega) t key (by omega) x h
        have s1 := call25 (by omega) _ _ (set_ok (by omega) h hx (key := key))
        have s2 := call25 (by omega) _ _ (get_ok h (key := key))
        generalize getT t key = g at *
        generalize setT t key x = st at *
        obtain ⟨⟨gk, gn, gs, gkeys, gkids⟩, gb⟩ := g
        obtain ⟨sk, sn, ss, skeys, skids⟩ := st
        obtain ⟨k, n, s, keys, kids⟩ := t
        obtain ⟨yk, yn, ys, ykeys, ykids⟩ := x
        simp only [encT_mk] at h17 hx17 h23 h24 h26 h27 s1 s2 ⊢
        exact call_lim rfl (p7_3L (h1 := h17) (h2 := rfl) (h3 := hx17) (h4 := rfl) (h5 := iltF c) (h6 := h23) (h7 := h24) (h8 := h26) (h9 := h27) (h10 := s1) (h11 := rfl) (h12 := s2) (h13 := rfl) (h14 := by simp [Ops.std]) (h15 := awake) ..)

theorem call19 {m d : Nat} (hm : m ≤ 100) (hd : d ≤ 39) (t : Tr) (h : OkM m d t) : (lim F pr).call 19 [encT t] [] = some (.sc (.int .i64 (rgtT 1 t)), []) := by
  have h36 := call36 hm t d 1 (by omega) (by omega) h
  obtain ⟨k, n, s, keys, kids⟩ := t
  rw [encT_mk] at h36 ⊢
  exact call_lim (f := 19) rfl (p19_0L k n s _ _ _ h36)
theorem list_ok {m d : Nat} (hm : 1 ≤ m) {x : Tr} (h : OkM m d x) : OkM m (d + 1) (.mk 3 0 ⟨#[]⟩ [] [x]) :=
  ⟨by show (0 : Nat) ≤ 300; omega, Nat.zero_le _, hm, fun y hy => (by cases hy), fun u hu => (by rw [List.mem_singleton.1 hu]; exact h)⟩
theorem call28 {m d : Nat} (hm : m ≤ 100) (hm1 : 1 ≤ m) (x : Tr) (h : OkM m d x) : (lim F pr).call 28 [.lit 32 false [encT x]] [] = some (encT (.mk 3 0 ⟨#[]⟩ [] [x]), []) := by
  have h39 := call39 hm _ _ (list_ok hm1 h)
  simp only [Copied] at h39
  rw [encT_mk] at h39 ⊢
  exact call_lim (f := 28) rfl (p28_0L (h1 := h39) ..)

theorem law8 (t : Tr) (key other : ByteArray) (x : Tr) : (lim F pr).call 8 [encT t, .sc (.string key), .sc (.string other), encT x] [] = some (.sc (.bool true), []) := by
  obtain ⟨b, h17, hok⟩ := large t
  obtain ⟨b2, hx17, hxok⟩ := large x
  cases b with
  | true =>
    obtain ⟨k, n, s, keys, kids⟩ := t
    obtain ⟨yk, yn, ys, ykeys, ykids⟩ := x
    simp only [encT_mk] at h17 ⊢
    exact call_lim rfl (p8_0L (h1 := h17) (h2 := rfl) (h3 := awake) ..)
  | false =>
    have h := hok rfl
    cases b2 with
    | true =>
      obtain ⟨k, n, s, keys, kids⟩ := t
      obtain ⟨yk, yn, ys, ykeys, ykids⟩ := x
      simp only [encT_mk] at h17 hx17 ⊢
      exact call_lim rfl (p8_1L (h1 := h17) (h2 := rfl) (h3 := hx17) (h4 := rfl) (h5 := awake) ..)
    | false =>
      have hx := hxok rfl
      by_cases c : (300 : Int) < key.size
      · obtain ⟨k, n, s, keys, kids⟩ := t
        obtain ⟨yk, yn, ys, ykeys, ykids⟩ := x
        simp only [encT_mk] at h17 hx17 ⊢
        exact call_lim rfl (p8_2L (h1 := h17) (h2 := rfl) (h3 := hx17) (h4 := rfl) (h5 := iltT c) (h6 := awake) ..)
      by_cases c2 : (300 : Int) < other.size
      · obtain ⟨k, n, s, keys, kids⟩ := t
        obtain ⟨yk, yn, ys, ykeys, ykids⟩ := x
        simp only [encT_mk] at h17 hx17 ⊢
        exact call_lim rfl (p8_3L (h1 := h17) (h2 := rfl) (h3 := hx17) (h4 := rfl) (h5 := iltF c) (h6 := iltT c2) (h7 := awake) ..)
      have hset := set_ok (key := key) (by omega) h hx
      have h26 := call26 (by omega) t key x h hx
      have h23 := call23 (by omega) _ key hset
      have h23b := call23 (by omega) _ other hset
      have h23c := call23 (by omega) _ other h
      have h25 := call25 (by omega) _ _ hx
      have h25b := call25 (by omega) _ _ (get_ok h (key := other))
      have h19 := call19 (by omega) (by omega) t h
      have h28 := call28 (by omega) (by omega) x hx
      have h19b := call19 (by omega) (by omega) _ (list_ok (by omega) hx)
      have h19c := call19 (by omega) (by omega) _ hset
      obtain ⟨k, n, s, keys, kids⟩ := t
      by_cases c3 : k = 4
      · by_cases c4 : keys.length = kids.length
        · subst c3
          have hright := set_right (key := key) (x := x) (n := n) (s := s) c4
          have hlist := list_right (x := x)
          rw [get_set c4] at h23
          have hoth : other ≠ key → _ := fun hne => get_set_other (x := x) (n := n) (s := s) c4 hne
          generalize hg2 : getT (setT (.mk 4 n s keys kids) key x) other = g2 at *
          generalize hg3 : getT (.mk 4 n s keys kids) other = g3 at *
          generalize setT (.mk 4 n s keys kids) key x = st at *
          generalize rgtT 1 (.mk 4 n s keys kids) = r1 at *
          generalize rgtT 1 (.mk 3 0 ⟨#[]⟩ [] [x]) = r2 at *
          generalize rgtT 2 x = r3 at *
          generalize rgtT 1 st = r4 at *
          have hgo : other ≠ key → g2 = g3 := hoth
          obtain ⟨⟨g2k, g2n, g2s, g2keys, g2kids⟩, g2b⟩ := g2
          obtain ⟨⟨g3k, g3n, g3s, g3keys, g3kids⟩, g3b⟩ := g3
          obtain ⟨sk, sn, ss, skeys, skids⟩ := st
          obtain ⟨yk, yn, ys, ykeys, ykids⟩ := x
          simp only [encT_mk, List.map_cons, List.map_nil] at h17 hx17 h26 h23 h23b h23c h25 h25b h19 h28 h19b h19c ⊢
          cases hs : Ops.std.seq other key with
          | true =>
            by_cases d1 : r1 = 0
            · by_cases d2 : r2 = 0
              · have d4 : r4 = 0 := hright d1 (hlist d2)
                exact call_lim rfl (p8_4L (h1 := h17) (h2 := rfl) (h3 := hx17) (h4 := rfl) (h5 := iltF c) (h6 := iltF c2) (h7 := ieqT rfl) (h8 := ieqT (by rw [llenM, llenM]; omega)) (h9 := h26) (h10 := h23) (h11 := rfl) (h12 := h25) (h13 := rfl) (h14 := h23b) (h15 := h23c) (h16 := hs) (h17 := h19) (h18 := ieqT d1) (h19 := h28) (h20 := h19b) (h21 := ieqT d2) (h22 := h19c) (h23 := ieqT d4) (h24 := awake) ..)
              · exact call_lim rfl (p8_6L (h1 := h17) (h2 := rfl) (h3 := hx17) (h4 := rfl) (h5 := iltF c) (h6 := iltF c2) (h7 := ieqT rfl) (h8 := ieqT (by rw [llenM, llenM]; omega)) (h9 := h26) (h10 := h23) (h11 := rfl) (h12 := h25) (h13 := rfl) (h14 := h23b) (h15 := h23c) (h16 := hs) (h17 := h19) (h18 := ieqT d1) (h19 := h28) (h20 := h19b) (h21 := ieqF d2) (h22 := awake) ..)
            · exact call_lim rfl (p8_7L (h1 := h17) (h2 := rfl) (h3 := hx17) (h4 := rfl) (h5 := iltF c) (h6 := iltF c2) (h7 := ieqT rfl) (h8 := ieqT (by rw [llenM, llenM]; omega)) (h9 := h26) (h10 := h23) (h11 := rfl) (h12 := h25) (h13 := rfl) (h14 := h23b) (h15 := h23c) (h16 := hs) (h17 := h19) (h18 := ieqF d1) (h19 := awake) ..)
          | false =>
            have hne : other ≠ key := fun e => by rw [e, seq_self] at hs; cases hs
            cases hgo hne
            have hb : ∀ b : Bool, Ops.std.beq b b = true := fun b => by simp [Ops.std]
            by_cases d1 : r1 = 0
            · by_cases d2 : r2 = 0
              · have d4 : r4 = 0 := hright d1 (hlist d2)
                exact call_lim rfl (p8_8L (h1 := h17) (h2 := rfl) (h3 := hx17) (h4 := rfl) (h5 := iltF c) (h6 := iltF c2) (h7 := ieqT rfl) (h8 := ieqT (by rw [llenM, llenM]; omega)) (h9 := h26) (h10 := h23) (h11 := rfl) (h12 := h25) (h13 := rfl) (h14 := h23b) (h15 := h23c) (h16 := hs) (h17 := hb _) (h18 := h25b) (h19 := rfl) (h20 := h19) (h21 := ieqT d1) (h22 := h28) (h23 := h19b) (h24 := ieqT d2) (h25 := h19c) (h26 := ieqT d4) (h27 := awake) ..)
              · exact call_lim rfl (p8_10L (h1 := h17) (h2 := rfl) (h3 := hx17) (h4 := rfl) (h5 := iltF c) (h6 := iltF c2) (h7 := ieqT rfl) (h8 := ieqT (by rw [llenM, llenM]; omega)) (h9 := h26) (h10 := h23) (h11 := rfl) (h12 := h25) (h13 := rfl) (h14 := h23b) (h15 := h23c) (h16 := hs) (h17 := hb _) (h18 := h25b) (h19 := rfl) (h20 := h19) (h21 := ieqT d1) (h22 := h28) (h23 := h19b) (h24 := ieqF d2) (h25 := awake) ..)
            · exact call_lim rfl (p8_11L (h1 := h17) (h2 := rfl) (h3 := hx17) (h4 := rfl) (h5 := iltF c) (h6 := iltF c2) (h7 := ieqT rfl) (h8 := ieqT (by rw [llenM, llenM]; omega)) (h9 := h26) (h10 := h23) (h11 := rfl) (h12 := h25) (h13 := rfl) (h14 := h23b) (h15 := h23c) (h16 := hs) (h17 := hb _) (h18 := h25b) (h19 := rfl) (h20 := h19) (h21 := ieqF d1) (h22 := awake) ..)
        · obtain ⟨yk, yn, ys, ykeys, ykids⟩ := x
          simp only [encT_mk] at h17 hx17 ⊢
          exact call_lim rfl (p8_16L (h1 := h17) (h2 := rfl) (h3 := hx17) (h4 := rfl) (h5 := iltF c) (h6 := iltF c2) (h7 := ieqT c3) (h8 := ieqF (by rw [llenM, llenM]; omega)) (h9 := awake) ..)
      · obtain ⟨yk, yn, ys, ykeys, ykids⟩ := x
        simp only [encT_mk] at h17 hx17 ⊢
        exact call_lim rfl (p8_17L (h1 := h17) (h2 := rfl) (h3 := hx17) (h4 := rfl) (h5 := iltF c) (h6 := iltF c2) (h7 := ieqF c3) (h8 := awake) ..)
end Go.Ab.Try
