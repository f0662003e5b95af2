/- How deep a tree is: the program's answer and the reference's. -/
import Derived.Test.YtcnohiofldkcoaaTree1
namespace Go.Ab.Try
open Go Go.Ab Go.Proofs
set_option linter.unusedVariables false

mutual
def depT : Tr → Nat
  | .mk _ _ _ _ kids => depL kids + 1
def depL : List Tr → Nat
  | [] => 0
  | t :: r => max (depT t) (depL r)
end

theorem depL_le {d : Nat} (l : List Tr) (h : ∀ t, t ∈ l → depT t ≤ d) : depL l ≤ d := by
  induction l with
  | nil => simp [depL]
  | cons t r ih =>
    simp only [depL]
    have := h t (by simp)
    have := ih (fun u hu => h u (by simp [hu]))
    omega
theorem dep_ok (t : Tr) : ∀ d, Ok d t → depT t ≤ d := by
  refine Tr.ind (Q := fun t => ∀ d, Ok d t → depT t ≤ d) (fun k n s keys kids ih => ?_) t
  intro d h
  cases d with
  | zero => exact h.elim
  | succ d =>
    obtain ⟨_, _, _, _, h5⟩ := h
    simp only [depT]
    have := depL_le (d := d) kids (fun u hu => ih u hu d (h5 u hu))
    omega

theorem loop21 (k n : Int) (s : ByteArray) (keys : List AV) (all : List Tr) (hl : all.length ≤ 20) (rest : List Tr) : ∀ (pre : List Tr) (acc : Nat), all = pre ++ rest →
    (∀ t, t ∈ rest → (lim F pr).call 21 [encT t] [] = some (.sc (.int .i64 (depT t : Int)), [])) →
    (lim F pr).loop [8, 7, 9, 3] 1 b21_0 (H21_0_0 k n s keys (all.map encT) acc pre.length) = some (W21_0_0 k n s keys (all.map encT) ((max acc (depL rest) : Nat) : Int)) := by
  induction rest with
  | nil =>
    intro pre acc h _
    subst h
    simp only [depL, Nat.max_zero]
    exact round_lim (r21_0_0_2L k n s keys _ acc _ doneM)
  | cons t rest ih =>
    intro pre acc h hR
    have hp : pre.length < 9223372036854775807 := by have := congrArg List.length h; simp at this; omega
    have hc := hR t (by simp)
    have hget : Ops.std.lget (all.map encT) pre.length = some (encT t) := by rw [h]; exact lgetM
    obtain ⟨tk, tn, ts, tks, tkd⟩ := t
    have hi := ih (pre ++ [.mk tk tn ts tks tkd]) (max acc (depT (.mk tk tn ts tks tkd))) (by rw [h]; simp) (fun u hu => hR u (by simp [hu]))
    generalize hd : depT (.mk tk tn ts tks tkd) = dt at *
    have e : max acc (depL (.mk tk tn ts tks tkd :: rest)) = max (max acc dt) (depL rest) := by simp only [depL, hd]; omega
    rw [e]
    rw [encT_mk] at hc hget
    by_cases hlt : acc < dt
    · have this := r21_0_0_0L k n s keys (all.map encT) acc pre.length tk tn ts _ _ dt (by rw [h]; exact moreM) hget hc (iltT (by omega))
      rw [stepM (x := Tr.mk tk tn ts tks tkd) hp] at this
      rw [show max acc dt = dt by omega] at hi ⊢
      exact round_lim (this.trans hi)
    · have this := r21_0_0_1L k n s keys (all.map encT) acc pre.length tk tn ts _ _ dt (by rw [h]; exact moreM) hget hc (iltF (by omega))
      rw [stepM (x := Tr.mk tk tn ts tks tkd) hp] at this
      rw [show max acc dt = acc by omega] at hi ⊢
      exact round_lim (this.trans hi)

theorem call21 (t : Tr) : ∀ d, d ≤ 100 → Ok d t → (lim F pr).call 21 [encT t] [] = some (.sc (.int .i64 (depT t : Int)), []) := by
  refine Tr.ind (Q := fun t => ∀ d, d ≤ 100 → Ok d t → (lim F pr).call 21 [encT t] [] = some (.sc (.int .i64 (depT t : Int)), [])) (fun k n s keys kids ih => ?_) t
  intro d hd h
  cases d with
  | zero => exact h.elim
  | succ d =>
    have hdep := dep_ok _ _ h
    obtain ⟨_, _, h3, _, h5⟩ := h
    rw [encT_mk]
    have hl := loop21 k n s (kst keys) kids h3 kids [] 0 rfl (fun u hu => ih u hu d (by omega) (h5 u hu))
    have := call_lim (f := 21) rfl (p21_0L k n s _ _ _ hl)
    rw [this]
    simp only [depT] at hdep ⊢
    rw [Nat.zero_max, iadd1 (by omega)]

theorem loop22 (k n : Int) (s : ByteArray) (keys : List AV) (all : List Tr) (hl : all.length ≤ 20) (rest : List Tr) : ∀ (pre : List Tr) (acc : Nat), all = pre ++ rest →
    (∀ t, t ∈ rest → depT t ≤ 100 ∧ (lim F pr).call 22 [encT t] [] = some (.sc (.int .i64 (depT t : Int)), [])) →
    (lim F pr).loop [1, 4, 3] 1 b22_0 (H22_0_0 k n s keys (all.map encT) (acc + 1 : Nat) pre.length) = some (W22_0_0 k n s keys (all.map encT) ((max acc (depL rest) + 1 : Nat) : Int)) := by
  induction rest with
  | nil =>
    intro pre acc h _
    subst h
    simp only [depL, Nat.max_zero]
    exact round_lim (r22_0_0_2L k n s keys _ _ _ doneM)
  | cons t rest ih =>
    intro pre acc h hR
    have hp : pre.length < 9223372036854775807 := by have := congrArg List.length h; simp at this; omega
    obtain ⟨hb, hc⟩ := hR t (by simp)
    have hget : Ops.std.lget (all.map encT) pre.length = some (encT t) := by rw [h]; exact lgetM
    obtain ⟨tk, tn, ts, tks, tkd⟩ := t
    have hi := ih (pre ++ [.mk tk tn ts tks tkd]) (max acc (depT (.mk tk tn ts tks tkd))) (by rw [h]; simp) (fun u hu => hR u (by simp [hu]))
    generalize hd : depT (.mk tk tn ts tks tkd) = dt at *
    have e : max acc (depL (.mk tk tn ts tks tkd :: rest)) = max (max acc dt) (depL rest) := by simp only [depL, hd]; omega
    rw [e]
    rw [encT_mk] at hc hget
    have hadd : Ops.std.iadd .i64 1 (dt : Int) = ((dt + 1 : Nat) : Int) := by rw [iaddS (by omega) (by omega)]; omega
    by_cases hlt : acc < dt
    · have this := r22_0_0_0L k n s keys (all.map encT) (acc + 1 : Nat) pre.length tk tn ts _ _ dt (by rw [h]; exact moreM) hget hc (by rw [hadd]; exact iltT (by omega))
      rw [stepM (x := Tr.mk tk tn ts tks tkd) hp, hadd] at this
      rw [show max acc dt = dt by omega] at hi ⊢
      exact round_lim (this.trans hi)
    · have this := r22_0_0_1L k n s keys (all.map encT) (acc + 1 : Nat) pre.length tk tn ts _ _ dt (by rw [h]; exact moreM) hget hc (by rw [hadd]; exact iltF (by omega))
      rw [stepM (x := Tr.mk tk tn ts tks tkd) hp] at this
      rw [show max acc dt = acc by omega] at hi ⊢
      exact round_lim (this.trans hi)

theorem call22 (t : Tr) : ∀ d, d ≤ 100 → Ok d t → (lim F pr).call 22 [encT t] [] = some (.sc (.int .i64 (depT t : Int)), []) := by
  refine Tr.ind (Q := fun t => ∀ d, d ≤ 100 → Ok d t → (lim F pr).call 22 [encT t] [] = some (.sc (.int .i64 (depT t : Int)), [])) (fun k n s keys kids ih => ?_) t
  intro d hd h
  cases d with
  | zero => exact h.elim
  | succ d =>
    obtain ⟨_, _, h3, _, h5⟩ := h
    rw [encT_mk]
    have hl := loop22 k n s (kst keys) kids h3 kids [] 0 rfl (fun u hu => ⟨by have := dep_ok u d (h5 u hu); omega, ih u hu d (by omega) (h5 u hu)⟩)
    rw [Nat.zero_max] at hl
    exact call_lim (f := 22) rfl (p22_0L k n s _ _ _ hl)
end Go.Ab.Try
