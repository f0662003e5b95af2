/- Trees that are made, copied, and held against one another: the law's own call. -/
import Derived.Test.YtcnohiofldkcoabTreeA
import Derived.Test.YtcnohiofldkcoabT2
namespace Go.Ab.Try
open Go Go.Ab Go.Proofs
set_option linter.unusedVariables false

theorem seq_self (a : ByteArray) : Ops.std.seq a a = true := by simp [Ops.std]
theorem seq_eq {a b : ByteArray} (h : Ops.std.seq a b = true) : a = b := by
  have : a.data.toList = b.data.toList := by simpa [Ops.std] using h
  cases a; cases b; simp_all
theorem seqF {a b : ByteArray} (h : a ≠ b) : Ops.std.seq a b = false := by
  cases hs : Ops.std.seq a b with
  | true => exact absurd (seq_eq hs) h
  | false => rfl
theorem room_of {e : Nat} {xs ys : List AV} (h : xs.length + ys.length ≤ 1000) (he : e ≤ 1000) : Ops.std.room e xs ys = true := by
  have : (xs.length + ys.length) * e ≤ 1000 * 1000 := Nat.mul_le_mul h he
  have h2 : xs.length + ys.length ≤ maxLen := by unfold maxLen; omega
  have h3 : (xs.length + ys.length) * e ≤ 140737488355328 := by omega
  simp only [Ops.std, decide_eq_true h2, decide_eq_true h3, Bool.and_self]
theorem lsetM {α : Type} {f : α → AV} {pre rest : List α} {x y : α} : Ops.std.lset ((pre ++ x :: rest).map f) (pre.length : Int) (f y) = (pre ++ y :: rest).map f := by
  show List.set _ (pre.length : Int).toNat _ = _
  simp

/-! ### The same? -/

noncomputable def eqb {α : Type} (a b : α) : Bool := @decide (a = b) (Classical.propDecidable _)
theorem eqb_self {α : Type} (a : α) : eqb a a = true := by simp [eqb]
theorem eqb_ne {α : Type} {a b : α} (h : a ≠ b) : eqb a b = false := by simp [eqb, h]
theorem eqb_congr {α β : Type} {a b : α} {c d : β} (h : a = b ↔ c = d) : eqb a b = eqb c d := by simp [eqb, h]

theorem loop57 (all all' : List ByteArray) (hl : all.length ≤ 100) (he : all.length = all'.length) (rest : List ByteArray) : ∀ (rest' pre pre' : List ByteArray), all = pre ++ rest → all' = pre' ++ rest' → pre.length = pre'.length →
    (lim F pr).loop [0, 1, 5] 0 b57_0 (H57_0_0 (kst all) (kst all') pre.length) = some (bif eqb rest rest' then W57_0_1 else W57_0_0) := by
  induction rest with
  | nil =>
    intro rest' pre pre' h h' hp
    subst h h'
    cases rest' with
    | nil => rw [eqb_self]; exact round_lim (r57_0_0_2 doneM)
    | cons y r => simp at he; omega
  | cons x rest ih =>
    intro rest' pre pre' h h' hpp
    have hp : pre.length < 9223372036854775807 := by have := congrArg List.length h; simp at this; omega
    cases rest' with
    | nil => rw [h, h'] at he; simp at he; omega
    | cons y rest' =>
      have hm : Ops.std.ilt pre.length (Ops.std.llen (kst all)) = true := by rw [h]; exact moreM
      have g1 : Ops.std.lget (kst all) pre.length = some (vT x) := by rw [h]; exact lgetM
      have g2 : Ops.std.lget (kst all') pre.length = some (vT y) := by rw [h', hpp]; exact lgetM
      by_cases hxy : x = y
      · subst hxy
        have this := r57_0_0_0 hm g1 g2 (seq_self x)
        rw [stepM (x := x) hp] at this
        have hi := ih rest' (pre ++ [x]) (pre' ++ [x]) (by rw [h]; simp) (by rw [h']; simp) (by simp [hpp])
        rw [eqb_congr (c := rest) (d := rest') (by simp)]
        exact round_lim (this.trans hi)
      · rw [eqb_ne (by simp [hxy])]
        exact round_lim (r57_0_0_1 hm g1 g2 (seqF hxy))
theorem call57 (a b : List ByteArray) (hl : a.length ≤ 100) : (lim F pr).call 57 [.lit 9 false (kst a), .lit 9 false (kst b)] [] = some (vF (eqb a b), []) := by
  by_cases he : a.length = b.length
  · have hlo := loop57 a b hl he a b [] [] rfl rfl rfl
    by_cases hab : a = b
    · subst hab
      rw [eqb_self] at hlo ⊢
      exact call_lim (f := 57) rfl (p57_1 (ieqT rfl) hlo)
    · rw [eqb_ne hab] at hlo ⊢
      exact call_lim (f := 57) rfl (p57_0 (ieqT (by rw [llenM, llenM]; omega)) hlo)
  · rw [eqb_ne (fun h => he (by rw [h]))]
    exact call_lim (f := 57) rfl (p57_2 (ieqF (by rw [llenM, llenM]; omega)))

theorem loop58 (all all' : List ByteArray) (hl : all.length ≤ 100) (he : all.length = all'.length) (rest : List ByteArray) : ∀ (rest' pre pre' : List ByteArray), all = pre ++ rest → all' = pre' ++ rest' → pre.length = pre'.length →
    (lim F pr).loop [12, 0, 1, 13] 0 b58_0 (H58_0_0 Ops.std (kst all) (kst all') pre.length) = some (bif eqb rest rest' then W58_0_1 else W58_0_0) := by
  induction rest with
  | nil =>
    intro rest' pre pre' h h' hp
    subst h h'
    cases rest' with
    | nil => rw [eqb_self]; exact round_lim (r58_0_0_2 doneM)
    | cons y r => simp at he; omega
  | cons x rest ih =>
    intro rest' pre pre' h h' hpp
    have hp : pre.length < 9223372036854775807 := by have := congrArg List.length h; simp at this; omega
    cases rest' with
    | nil => rw [h, h'] at he; simp at he; omega
    | cons y rest' =>
      have hm : Ops.std.ilt pre.length (Ops.std.llen (kst all)) = true := by rw [h]; exact moreM
      have g1 : Ops.std.lget (kst all) pre.length = some (vT x) := by rw [h]; exact lgetM
      have g2 : Ops.std.lget (kst all') pre.length = some (vT y) := by rw [h', hpp]; exact lgetM
      by_cases hxy : x = y
      · subst hxy
        have this := r58_0_0_0 hm g1 g2 (seq_self x)
        rw [stepM (x := x) hp] at this
        have hi := ih rest' (pre ++ [x]) (pre' ++ [x]) (by rw [h]; simp) (by rw [h']; simp) (by simp [hpp])
        rw [eqb_congr (c := rest) (d := rest') (by simp)]
        exact round_lim (this.trans hi)
      · rw [eqb_ne (by simp [hxy])]
        exact round_lim (r58_0_0_1 hm g1 g2 (seqF hxy))
theorem call58 (a b : List ByteArray) (hl : a.length ≤ 100) : (lim F pr).call 58 [.lit 9 false (kst a), .lit 9 false (kst b)] [] = some (vF (eqb a b), []) := by
  by_cases he : a.length = b.length
  · have hlo := loop58 a b hl he a b [] [] rfl rfl rfl
    by_cases hab : a = b
    · subst hab
      rw [eqb_self] at hlo ⊢
      exact call_lim (f := 58) rfl (p58_1 (ieqT rfl) hlo)
    · rw [eqb_ne hab] at hlo ⊢
      exact call_lim (f := 58) rfl (p58_0 (ieqT (by rw [llenM, llenM]; omega)) hlo)
  · rw [eqb_ne (fun h => he (by rw [h]))]
    exact call_lim (f := 58) rfl (p58_2 (ieqF (by rw [llenM, llenM]; omega)))

theorem loop35 (k n : Int) (s : ByteArray) (keys : List AV) (k' n' : Int) (s' : ByteArray) (keys' : List AV) (all all' : List Tr) (hl : all.length ≤ 100) (he : all.length = all'.length) (rest : List Tr) : ∀ (rest' pre pre' : List Tr), all = pre ++ rest → all' = pre' ++ rest' → pre.length = pre'.length →
    (∀ t, t ∈ rest → ∀ u, (lim F pr).call 35 [encT t, encT u] [] = some (vF (eqb t u), [])) →
    (lim F pr).loop [2, 3, 5] 2 b35_0 (H35_0_0 k n s keys (all.map encT) k' n' s' keys' (all'.map encT) pre.length) = some (bif eqb rest rest' then W35_0_1 k n s keys (all.map encT) k' n' s' keys' (all'.map encT) else W35_0_0 k n s keys (all.map encT) k' n' s' keys' (all'.map encT)) := by
  induction rest with
  | nil =>
    intro rest' pre pre' h h' hp _
    subst h h'
    cases rest' with
    | nil => rw [eqb_self]; exact round_lim (r35_0_0_2 doneM)
    | cons y r => simp at he; omega
  | cons x rest ih =>
    intro rest' pre pre' h h' hpp hR
    have hp : pre.length < 9223372036854775807 := by have := congrArg List.length h; simp at this; omega
    cases rest' with
    | nil => rw [h, h'] at he; simp at he; omega
    | cons y rest' =>
      have hm : Ops.std.ilt pre.length (Ops.std.llen (all.map encT)) = true := by rw [h]; exact moreM
      have g1 : Ops.std.lget (all.map encT) pre.length = some (encT x) := by rw [h]; exact lgetM
      have g2 : Ops.std.lget (all'.map encT) pre.length = some (encT y) := by rw [h', hpp]; exact lgetM
      have hc := hR x (by simp) y
      have hi := ih rest' (pre ++ [x]) (pre' ++ [y]) (by rw [h]; simp) (by rw [h']; simp) (by simp [hpp]) (fun t ht u => hR t (by simp [ht]) u)
      by_cases hxy : x = y
      · rw [eqb_congr (c := rest) (d := rest') (by simp [hxy])]
        rw [hxy, eqb_self] at hc
        rw [hxy] at g1
        obtain ⟨yk, yn, ys, yks, ykd⟩ := y
        rw [encT_mk] at hc g1 g2
        have this := r35_0_0_0 (x0_kind := k) (x0_n := n) (x0_s := s) (x0_keys := keys) (x1_kind := k') (x1_n := n') (x1_s := s') (x1_keys := keys') hm g1 g2 hc rfl
        rw [stepM (x := x) hp] at this
        exact round_lim (this.trans hi)
      · rw [eqb_ne (by simp [hxy])]
        rw [eqb_ne hxy] at hc
        obtain ⟨xk, xn, xs, xks, xkd⟩ := x
        obtain ⟨yk, yn, ys, yks, ykd⟩ := y
        simp only [encT_mk] at hc g1 g2
        exact round_lim (r35_0_0_1 hm g1 g2 hc rfl)

theorem mk_ne {k n : Int} {s : ByteArray} {keys : List ByteArray} {kids : List Tr} {k' n' : Int} {s' : ByteArray} {keys' : List ByteArray} {kids' : List Tr} : Tr.mk k n s keys kids = Tr.mk k' n' s' keys' kids' ↔ k = k' ∧ n = n' ∧ s = s' ∧ keys = keys' ∧ kids = kids' := by
  constructor
  · intro h; injection h with h1 h2 h3 h4 h5; exact ⟨h1, h2, h3, h4, h5⟩
  · rintro ⟨rfl, rfl, rfl, rfl, rfl⟩; rfl

theorem call35 {m : Nat} (hm : m ≤ 100) (t : Tr) : ∀ d, OkM m d t → ∀ u, (lim F pr).call 35 [encT t, encT u] [] = some (vF (eqb t u), []) := by
  refine Tr.ind (Q := fun t => ∀ d, OkM m d t → ∀ u, (lim F pr).call 35 [encT t, encT u] [] = some (vF (eqb t u), [])) (fun k n s keys kids ih => ?_) t
  intro d h u
  obtain ⟨k', n', s', keys', kids'⟩ := u
  cases d with
  | zero => exact h.elim
  | succ d =>
    obtain ⟨g1, g2, g3, g4, g5⟩ := h
    simp only [encT_mk]
    by_cases c1 : k = k'
    · by_cases c2 : n = n'
      · by_cases c3 : s = s'
        · have h57 := call57 keys keys' (by omega)
          by_cases c4 : keys = keys'
          · rw [c4, eqb_self] at h57
            by_cases c5 : kids.length = kids'.length
            · have hlo := loop35 k n s (kst keys) k' n' s' (kst keys') kids kids' (by omega) c5 kids kids' [] [] rfl rfl rfl (fun t ht u => ih t ht d (g5 t ht) u)
              rw [eqb_congr (mk_ne.trans (show _ ↔ kids = kids' from ⟨fun h => h.2.2.2.2, fun h => ⟨c1, c2, c3, c4, h⟩⟩))]
              rw [c4] at hlo ⊢
              by_cases c6 : kids = kids'
              · rw [c6, eqb_self] at hlo
                rw [c6, eqb_self]
                exact call_lim (f := 35) rfl (p35_1 (ieqT c1) (ieqT c2) (by rw [c3]; exact seq_self _) h57 rfl (ieqT rfl) hlo)
              · rw [eqb_ne c6] at hlo ⊢
                exact call_lim (f := 35) rfl (p35_0 (ieqT c1) (ieqT c2) (by rw [c3]; exact seq_self _) h57 rfl (ieqT (by rw [llenM, llenM]; omega)) hlo)
            · rw [eqb_ne (fun h => c5 (by rw [(mk_ne.1 h).2.2.2.2])), c4]
              exact call_lim (f := 35) rfl (p35_2 (ieqT c1) (ieqT c2) (by rw [c3]; exact seq_self _) h57 rfl (ieqF (by rw [llenM, llenM]; omega)))
          · rw [eqb_ne c4] at h57
            rw [eqb_ne (fun h => c4 (mk_ne.1 h).2.2.2.1)]
            exact call_lim (f := 35) rfl (p35_3 (ieqT c1) (ieqT c2) (by rw [c3]; exact seq_self _) h57 rfl)
        · rw [eqb_ne (fun h => c3 (mk_ne.1 h).2.2.1)]
          exact call_lim (f := 35) rfl (p35_4 (ieqT c1) (ieqT c2) (seqF c3))
      · rw [eqb_ne (fun h => c2 (mk_ne.1 h).2.1)]
        exact call_lim (f := 35) rfl (p35_5 (ieqT c1) (ieqF c2))
    · rw [eqb_ne (fun h => c1 (mk_ne.1 h).1)]
      exact call_lim (f := 35) rfl (p35_6 (ieqF c1))

theorem loop59 (all all' : List Tr) (hl : all.length ≤ 100) (he : all.length = all'.length) (rest : List Tr) : ∀ (rest' pre pre' : List Tr), all = pre ++ rest → all' = pre' ++ rest' → pre.length = pre'.length →
    (∀ t, t ∈ rest → ∀ u, (lim F pr).call 36 [encT t, encT u] [] = some (vF (eqb t u), [])) →
    (lim F pr).loop [16, 15, 1, 2, 17] 0 b59_0 (H59_0k_0 Ops.std (all.map encT) (all'.map encT) pre.length) = some (bif eqb rest rest' then W59_0k_1 else W59_0k_0) := by
  induction rest with
  | nil =>
    intro rest' pre pre' h h' hp _
    subst h h'
    cases rest' with
    | nil => rw [eqb_self]; exact round_lim (r59_0k_0_2 doneM)
    | cons y r => simp at he; omega
  | cons x rest ih =>
    intro rest' pre pre' h h' hpp hR
    have hp : pre.length < 9223372036854775807 := by have := congrArg List.length h; simp at this; omega
    cases rest' with
    | nil => rw [h, h'] at he; simp at he; omega
    | cons y rest' =>
      have hm : Ops.std.ilt pre.length (Ops.std.llen (all.map encT)) = true := by rw [h]; exact moreM
      have g1 : Ops.std.lget (all.map encT) pre.length = some (encT x) := by rw [h]; exact lgetM
      have g2 : Ops.std.lget (all'.map encT) pre.length = some (encT y) := by rw [h', hpp]; exact lgetM
      have hc := hR x (by simp) y
      have hi := ih rest' (pre ++ [x]) (pre' ++ [y]) (by rw [h]; simp) (by rw [h']; simp) (by simp [hpp]) (fun t ht u => hR t (by simp [ht]) u)
      by_cases hxy : x = y
      · rw [eqb_congr (c := rest) (d := rest') (by simp [hxy])]
        rw [hxy, eqb_self] at hc
        rw [hxy] at g1
        obtain ⟨yk, yn, ys, yks, ykd⟩ := y
        rw [encT_mk] at hc g1 g2
        have this := r59_0k_0_0 hm g1 g2 hc rfl
        rw [stepM (x := x) hp] at this
        exact round_lim (this.trans hi)
      · rw [eqb_ne (by simp [hxy])]
        rw [eqb_ne hxy] at hc
        obtain ⟨xk, xn, xs, xks, xkd⟩ := x
        obtain ⟨yk, yn, ys, yks, ykd⟩ := y
        simp only [encT_mk] at hc g1 g2
        exact round_lim (r59_0k_0_1 hm g1 g2 hc rfl)
theorem call59 (a b : List Tr) (hl : a.length ≤ 100) (hR : ∀ t, t ∈ a → ∀ u, (lim F pr).call 36 [encT t, encT u] [] = some (vF (eqb t u), [])) : (lim F pr).call 59 [.lit 45 false (a.map encT), .lit 45 false (b.map encT), .fn 36 []] [] = some (vF (eqb a b), []) := by
  by_cases he : a.length = b.length
  · have hlo := loop59 a b hl he a b [] [] rfl rfl rfl hR
    by_cases hab : a = b
    · subst hab
      rw [eqb_self] at hlo ⊢
      exact call_lim (f := 59) rfl (p59k_1 (ieqT rfl) hlo)
    · rw [eqb_ne hab] at hlo ⊢
      exact call_lim (f := 59) rfl (p59k_0 (ieqT (by rw [llenM, llenM]; omega)) hlo)
  · rw [eqb_ne (fun h => he (by rw [h]))]
    exact call_lim (f := 59) rfl (p59k_2 (ieqF (by rw [llenM, llenM]; omega)))

theorem call36 {m : Nat} (hm : m ≤ 100) (t : Tr) : ∀ d, OkM m d t → ∀ u, (lim F pr).call 36 [encT t, encT u] [] = some (vF (eqb t u), []) := by
  refine Tr.ind (Q := fun t => ∀ d, OkM m d t → ∀ u, (lim F pr).call 36 [encT t, encT u] [] = some (vF (eqb t u), [])) (fun k n s keys kids ih => ?_) t
  intro d h u
  obtain ⟨k', n', s', keys', kids'⟩ := u
  cases d with
  | zero => exact h.elim
  | succ d =>
    obtain ⟨g1, g2, g3, g4, g5⟩ := h
    simp only [encT_mk]
    by_cases c1 : k = k'
    · by_cases c2 : n = n'
      · by_cases c3 : s = s'
        · have h58 := call58 keys keys' (by omega)
          by_cases c4 : keys = keys'
          · rw [c4, eqb_self] at h58
            have h59 := call59 kids kids' (by omega) (fun t ht u => ih t ht d (g5 t ht) u)
            rw [eqb_congr (mk_ne.trans (show _ ↔ kids = kids' from ⟨fun h => h.2.2.2.2, fun h => ⟨c1, c2, c3, c4, h⟩⟩)), c4]
            exact call_lim (f := 36) rfl (p36_0 (ieqT c1) (ieqT c2) (by rw [c3]; exact seq_self _) h58 rfl h59)
          · rw [eqb_ne c4] at h58
            rw [eqb_ne (fun h => c4 (mk_ne.1 h).2.2.2.1)]
            exact call_lim (f := 36) rfl (p36_1 (ieqT c1) (ieqT c2) (by rw [c3]; exact seq_self _) h58 rfl)
        · rw [eqb_ne (fun h => c3 (mk_ne.1 h).2.2.1)]
          exact call_lim (f := 36) rfl (p36_2 (ieqT c1) (ieqT c2) (seqF c3))
      · rw [eqb_ne (fun h => c2 (mk_ne.1 h).2.1)]
        exact call_lim (f := 36) rfl (p36_3 (ieqT c1) (ieqF c2))
    · rw [eqb_ne (fun h => c1 (mk_ne.1 h).1)]
      exact call_lim (f := 36) rfl (p36_4 (ieqF c1))

/-! ### A copy of a tree -/

/-- What 'Copy' answers: a tree whose own lists are new. -/
def Copied (t : Tr) : Prop := match t with
  | .mk k n s keys kids => (lim F pr).call 34 [encT t] [] = some (.agg [vI k, vI n, vT s, .sl 0 0, .sl 1 0], [.row 9 0 false (kst keys), .row 45 0 false (kids.map encT)])

theorem loop34 (k n : Int) (s : ByteArray) (keys : List AV) (all : List Tr) (hl : all.length ≤ 100) (rest : List Tr) : ∀ (pre : List Tr), all = pre ++ rest →
    (∀ t, t ∈ rest → Copied t) →
    (lim F pr).loop [14, 15, 1, 2] 4 b34_0 (H34_0_0 Ops.std k n s keys (all.map encT) pre.length (all.map encT)) = some (W34_0_0 k n s keys (all.map encT)) := by
  induction rest with
  | nil => intro pre h _; subst h; exact round_lim (r34_0_0_1 doneM)
  | cons t rest ih =>
    intro pre h hR
    have hp : pre.length < 9223372036854775807 := by have := congrArg List.length h; simp at this; omega
    have hc := hR t (by simp)
    have hm : Ops.std.ilt pre.length (Ops.std.llen (all.map encT)) = true := by rw [h]; exact moreM
    have hget : Ops.std.lget (all.map encT) pre.length = some (encT t) := by rw [h]; exact lgetM
    have hi := ih (pre ++ [t]) (by rw [h]; simp) (fun u hu => hR u (by simp [hu]))
    have hset : Ops.std.lset (all.map encT) (pre.length : Int) (encT t) = all.map encT := by rw [h]; exact lsetM
    obtain ⟨tk, tn, ts, tks, tkd⟩ := t
    simp only [Copied] at hc
    rw [encT_mk] at hc hget hset
    have this := r34_0_0_0 (x0_kind := k) (x0_n := n) (x0_s := s) (x0_keys := keys) hm hget hc
    rw [stepM (x := Tr.mk tk tn ts tks tkd) hp, hset] at this
    exact round_lim (this.trans hi)

theorem call34 {m : Nat} (hm : m ≤ 100) (t : Tr) : ∀ d, OkM m d t → Copied t := by
  refine Tr.ind (Q := fun t => ∀ d, OkM m d t → Copied t) (fun k n s keys kids ih => ?_) t
  intro d h
  cases d with
  | zero => exact h.elim
  | succ d =>
    obtain ⟨g1, g2, g3, g4, g5⟩ := h
    simp only [Copied]
    rw [encT_mk]
    exact call_lim (f := 34) rfl (p34_0 (room_of (by simp; omega) (by omega)) (room_of (by simp; omega) (by omega)) (loop34 k n s (kst keys) kids (by omega) kids [] rfl (fun u hu => ih u hu d (g5 u hu))))

/-! ### The law -/

def bump : Tr → Tr
  | .mk k n s keys kids => .mk (Ops.std.iadd .i64 k 1) n s keys kids
theorem bump_ne (t : Tr) : bump t ≠ t := by
  obtain ⟨k, n, s, keys, kids⟩ := t
  intro h
  have h1 : Ops.std.iadd .i64 k 1 = k := (mk_ne.1 h).1
  have h2 : IntKind.i64.wrap (k + 1) = k := h1
  rw [IntKind.wrap_i64] at h2
  omega

theorem loop6 (k n : Int) (s : ByteArray) (keys kids : List AV) (mk mn : Int) (ms : ByteArray) (mkeys mkids : List AV) (ck cn : Int) (cs : ByteArray) (ckeys : List AV) (b : Bool) (made : List AV) (rest : List Tr) : ∀ (pre : List Tr), pre.length + rest.length ≤ 100 →
    (lim F pr).loop [13, 12, 11, 7] 6 b6_0 (H6_0_0 k n s keys kids mk mn ms mkeys mkids ck cn cs ckeys b pre.length made ((pre ++ rest).map encT)) = some (W6_0_0 k n s keys kids mk mn ms mkeys mkids ck cn cs ckeys b made ((pre ++ rest.map bump).map encT)) := by
  induction rest with
  | nil => intro pre h; exact round_lim (r6_0_0_1 doneM)
  | cons t rest ih =>
    intro pre h
    have hp : pre.length < 9223372036854775807 := by simp at h; omega
    have hm : Ops.std.ilt pre.length (Ops.std.llen ((pre ++ t :: rest).map encT)) = true := moreM
    have hget : Ops.std.lget ((pre ++ t :: rest).map encT) pre.length = some (encT t) := lgetM
    have hset : Ops.std.lset ((pre ++ t :: rest).map encT) (pre.length : Int) (encT (bump t)) = (pre ++ bump t :: rest).map encT := lsetM
    have hi := ih (pre ++ [bump t]) (by simp at h ⊢; omega)
    obtain ⟨tk, tn, ts, tks, tkd⟩ := t
    simp only [bump] at hset hi ⊢
    rw [encT_mk] at hget hset
    have this := r6_0_0_0 (x3_kind := k) (x3_n := n) (x3_s := s) (x3_keys := keys) (x3_kids := kids) (r_kind4 := mk) (r_n4 := mn) (r_s4 := ms) (r_keys4 := mkeys) (r_kids4 := mkids) (r_kind5 := ck) (r_n5 := cn) (r_s5 := cs) (r_keys5 := ckeys) (t12 := b) (e1c := made) hm hget
    rw [stepM (x := Tr.mk (Ops.std.iadd .i64 tk 1) tn ts tks tkd) hp, hset] at this
    simp only [List.append_assoc, List.singleton_append] at hi
    rw [List.map_cons]
    exact round_lim (this.trans hi)

theorem call30 {m d : Nat} (hm : m ≤ 100) (l : List Tr) (h : OkM m d (.mk 3 0 ⟨#[]⟩ [] l)) : (lim F pr).call 30 [.lit 45 false (l.map encT)] [] = some (encT (.mk 3 0 ⟨#[]⟩ [] l), []) := by
  have h34 := call34 hm _ _ h
  simp only [Copied] at h34
  rw [encT_mk] at h34 ⊢
  exact call_lim (f := 30) rfl (p30_0 h34)

theorem law6 (n : Int) (s : ByteArray) (l : List Tr) (t : Tr) : (lim F pr).call 6 [vI n, vT s, .lit 45 false (l.map encT), encT t] [] = some (vF true, []) := by
  by_cases c1 : (300 : Int) < s.size
  · obtain ⟨k, kn, ks, keys, kids⟩ := t
    rw [encT_mk]
    exact call_lim rfl (p6_0 (iltT c1) awake)
  obtain ⟨b, hl, hlok⟩ := large (.mk 0 0 ⟨#[]⟩ [] l)
  obtain ⟨b2, ht, htok⟩ := large t
  cases b with
  | true =>
    obtain ⟨k, kn, ks, keys, kids⟩ := t
    simp only [encT_mk] at hl ⊢
    exact call_lim rfl (p6_1 (iltF c1) hl rfl awake)
  | false =>
    cases b2 with
    | true =>
      obtain ⟨k, kn, ks, keys, kids⟩ := t
      simp only [encT_mk] at hl ht ⊢
      exact call_lim rfl (p6_2 (iltF c1) hl rfl ht rfl awake)
    | false =>
      have okt := htok rfl
      obtain ⟨_, _, o3, _, o5⟩ := hlok rfl
      have e0 : (⟨#[]⟩ : ByteArray).size ≤ 300 := by show (0 : Nat) ≤ 300; omega
      have okl : OkM 20 20 (.mk 3 0 ⟨#[]⟩ [] l) := ⟨e0, Nat.zero_le _, o3, fun x hx => (by cases hx), o5⟩
      have leaf : ∀ (k m : Int) (x : ByteArray), x.size ≤ 300 → OkM 20 20 (.mk k m x [] []) := fun k m x hx => ⟨hx, Nat.zero_le _, Nat.zero_le _, fun y hy => (by cases hy), fun y hy => (by cases hy)⟩
      let four : List Tr := [.mk 1 n ⟨#[]⟩ [] [], .mk 2 0 s [] [], .mk 3 0 ⟨#[]⟩ [] l, .mk 4 0 ⟨#[]⟩ [] []]
      have okm : OkM 20 21 (.mk 3 0 ⟨#[]⟩ [] four) := ⟨e0, Nat.zero_le _, by show (4 : Nat) ≤ 20; omega, fun x hx => (by cases hx), fun u hu => by
        simp only [four, List.mem_cons, List.not_mem_nil, or_false] at hu
        rcases hu with rfl | rfl | rfl | rfl
        · exact leaf _ _ _ e0
        · exact leaf _ _ _ (by omega)
        · exact okl
        · exact leaf _ _ _ e0⟩
      have h31 : (lim F pr).call 31 [vI n] [] = some (a45 1 n ⟨#[]⟩ [] [], []) := call_lim rfl p31_0
      have h32 : (lim F pr).call 32 [vT s] [] = some (a45 2 0 s [] [], []) := call_lim rfl p32_0
      have h33 : (lim F pr).call 33 [] [] = some (a45 4 0 ⟨#[]⟩ [] [], []) := call_lim rfl p33_0
      have h30 := call30 (by omega) l okl
      have h30b := call30 (by omega) four okm
      have h34 := call34 (by omega) t _ okt
      have s1 := call35 (by omega) t _ okt t
      have s2 := call35 (by omega) _ _ okm (.mk 3 0 ⟨#[]⟩ [] four)
      have s3 := call36 (by omega) _ _ okm t
      have s4 := call35 (by omega) _ _ okm t
      have s5 := call36 (by omega) t _ okt t
      rw [eqb_self] at s1 s2 s5
      have hfour : four.map encT = [a45 1 n ⟨#[]⟩ [] [], a45 2 0 s [] [], a45 3 0 ⟨#[]⟩ [] (l.map encT), a45 4 0 ⟨#[]⟩ [] []] := by simp [four, encT_mk]
      obtain ⟨k, kn, ks, keys, kids⟩ := t
      have okt2 : OkM 20 20 (.mk k kn ks keys (kids.map bump)) := by
        obtain ⟨o1, o2, o3, o4, o5⟩ := okt
        refine ⟨o1, o2, by simpa using o3, o4, fun u hu => ?_⟩
        obtain ⟨v, hv, rfl⟩ := List.mem_map.1 hu
        have := o5 v hv
        obtain ⟨vk, vn, vs, vkeys, vkids⟩ := v
        exact this
      have s6 := call36 (by omega) _ _ okt2 (.mk k kn ks keys kids)
      have hkl : kids.length ≤ 20 := okt.2.2.1
      have hlo := loop6 k kn ks (kst keys) (kids.map encT) 3 0 ⟨#[]⟩ [] (four.map encT) k kn ks (kst keys) true (four.map encT) kids [] (by simp; omega)
      have hsame : eqb (Tr.mk k kn ks keys (kids.map bump)) (.mk k kn ks keys kids) = Ops.std.ieq (Ops.std.llen (kids.map encT)) 0 := by
        cases kids with
        | nil => rw [List.map_nil, eqb_self]; rfl
        | cons u r =>
          rw [eqb_ne (fun h => by
            have h5 := (mk_ne.1 h).2.2.2.2
            rw [List.map_cons] at h5
            injection h5 with h6 _
            exact bump_ne u h6)]
          exact (ieqF (by rw [llenM]; simp; omega)).symm
      have hb : ∀ b : Bool, Ops.std.beq b b = true := fun b => by simp [Ops.std]
      simp only [Copied] at h34
      rw [hsame] at s6
      simp only [encT_mk, hfour, List.nil_append, List.length_nil] at hl ht h30 h30b h34 s1 s2 s3 s4 s5 s6 hlo ⊢
      exact call_lim rfl (p6_3 (iltF c1) hl rfl ht rfl h31 h32 h30 h33 h30b h34 s1 rfl s2 rfl s3 s4 (hb _) s5 hlo rfl s6 (hb _) awake)
end Go.Ab.Try
