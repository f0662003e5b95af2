/- Whether any tree may be, and how many levels it has: the law's own call. -/
import Derived.Test.YtcnohiofldkcoaaTree3
namespace Go.Ab.Try
open Go Go.Ab Go.Proofs
set_option linter.unusedVariables false

def fitsB (k n : Int) (s : ByteArray) (keys kids : List AV) : Bool := match f55 k n s keys kids with | .sc (.bool b) => b | _ => false

def hereS (lv k n : Int) (s : ByteArray) (keys : List ByteArray) (kids : List AV) : Int :=
  if 8 < lv then 6 else if k < 1 then 9 else if 4 < k then 9 else if fitsB k n s (kst keys) kids = false then 1 else if rising keys = false then 3 else 0
mutual
def rgtT : Int → Tr → Int
  | lv, .mk k n s keys kids => bif Ops.std.ieq (hereS lv k n s keys (encTs kids)) 0 then rgtL (lv + 1) kids else hereS lv k n s keys (encTs kids)
def rgtL : Int → List Tr → Int
  | _, [] => 0
  | lv, t :: r => bif Ops.std.ieq (rgtT lv t) 0 then rgtL lv r else rgtT lv t
end

theorem call47 (lv k n : Int) (s : ByteArray) (keys : List ByteArray) (kids : List AV) (hs : s.size ≤ 300) (hl : keys.length ≤ 100) (hx : ∀ x, x ∈ keys → x.size ≤ 300) :
    (lim F pr).call 47 [.agg [.sc (.int .i64 k), .sc (.int .i64 n), .sc (.string s), .lit 9 false (kst keys), .lit 32 false kids], .sc (.int .i64 lv)] [] = some (.sc (.int .i64 (hereS lv k n s keys kids)), []) := by
  unfold hereS
  by_cases c1 : 8 < lv
  · rw [if_pos c1]; exact call_lim rfl (p47_0L k n s _ _ lv (iltT c1))
  rw [if_neg c1]
  by_cases c2 : k < 1
  · rw [if_pos c2]; exact call_lim rfl (p47_1L k n s _ _ lv (iltF c1) (iltT c2))
  rw [if_neg c2]
  by_cases c3 : 4 < k
  · rw [if_pos c3]; exact call_lim rfl (p47_2L k n s _ _ lv (iltF c1) (iltF c2) (iltT c3))
  rw [if_neg c3]
  obtain ⟨b, hb, _⟩ := own_fields k n s (kst keys) kids (by omega) (by omega)
  have h55 := call_lim (F := F) (pr := pr) (f := 55) rfl (c55 k n s (kst keys) kids)
  rw [hb] at h55
  have hf : fitsB k n s (kst keys) kids = b := by unfold fitsB; rw [hb]
  rw [hf]
  cases b with
  | false => rw [if_pos rfl]; exact call_lim rfl (p47_7L k n s _ _ lv _ (iltF c1) (iltF c2) (iltF c3) h55 rfl)
  | true =>
    rw [if_neg (by simp)]
    have h56 := call56 s hs
    have h57 := call57 keys hl hx
    have hlo := loop47_0 k n s kids keys hl
    cases hr : rising keys with
    | false =>
      rw [hr] at hlo
      rw [if_pos rfl]; exact call_lim rfl (p47_5L k n s _ _ lv _ _ _ (iltF c1) (iltF c2) (iltF c3) h55 rfl h56 rfl h57 rfl hlo)
    | true =>
      rw [hr] at hlo
      rw [if_neg (by simp)]; exact call_lim rfl (p47_6L k n s _ _ lv _ _ _ (iltF c1) (iltF c2) (iltF c3) h55 rfl h56 rfl h57 rfl hlo)

theorem loop36 (k n : Int) (s : ByteArray) (keys : List AV) (lv : Int) (h0 : -1 ≤ lv) (h1 : lv ≤ 50) (all : List Tr) (hl : all.length ≤ 100) (rest : List Tr) : ∀ (pre : List Tr), all = pre ++ rest →
    (∀ t, t ∈ rest → (lim F pr).call 36 [encT t, .sc (.int .i64 (lv + 1))] [] = some (.sc (.int .i64 (rgtT (lv + 1) t)), [])) →
    (lim F pr).loop [17, 16, 1, 18] 1 b36_0 (H36_0_0 k n s keys (all.map encT) lv pre.length) = some (bif Ops.std.ieq (rgtL (lv + 1) rest) 0 then W36_0_1 k n s keys (all.map encT) else W36_0_0 k n s keys (all.map encT) (rgtL (lv + 1) rest)) := by
  induction rest with
  | nil =>
    intro pre h _
    subst h
    simp only [rgtL, ieqT (rfl : (0 : Int) = 0), cond_true]
    exact round_lim (r36_0_0_2L k n s keys _ lv _ doneM)
  | cons t rest ih =>
    intro pre h hR
    have hp : pre.length < 9223372036854775807 := by have := congrArg List.length h; simp at this; omega
    have hc := hR t (by simp)
    have hadd : Ops.std.iadd .i64 lv 1 = lv + 1 := iaddS (by omega) (by omega)
    have hget : Ops.std.lget (all.map encT) pre.length = some (encT t) := by rw [h]; exact lgetM
    have hi := ih (pre ++ [t]) (by rw [h]; simp) (fun u hu => hR u (by simp [hu]))
    simp only [rgtL]
    generalize hd : rgtT (lv + 1) t = e at *
    obtain ⟨tk, tn, ts, tks, tkd⟩ := t
    rw [encT_mk] at hc hget
    rw [← hadd] at hc
    by_cases he : e = 0
    · have this := r36_0_0_0L k n s keys (all.map encT) lv pre.length tk tn ts _ _ e (by rw [h]; exact moreM) hget hc (ieqT he)
      rw [stepM (x := Tr.mk tk tn ts tks tkd) hp] at this
      rw [ieqT he, cond_true]
      exact round_lim (this.trans hi)
    · rw [ieqF he, cond_false, ieqF he, cond_false]
      exact round_lim (r36_0_0_1L k n s keys (all.map encT) lv pre.length tk tn ts _ _ e (by rw [h]; exact moreM) hget hc (ieqF he))

theorem call36 {m : Nat} (hm : m ≤ 100) (t : Tr) : ∀ (d : Nat) (lv : Int), -1 ≤ lv → lv + d ≤ 40 → OkM m d t → (lim F pr).call 36 [encT t, .sc (.int .i64 lv)] [] = some (.sc (.int .i64 (rgtT lv t)), []) := by
  refine Tr.ind (Q := fun t => ∀ (d : Nat) (lv : Int), -1 ≤ lv → lv + d ≤ 40 → OkM m d t → (lim F pr).call 36 [encT t, .sc (.int .i64 lv)] [] = some (.sc (.int .i64 (rgtT lv t)), [])) (fun k n s keys kids ih => ?_) t
  intro d lv h0 hd h
  cases d with
  | zero => exact h.elim
  | succ d =>
    obtain ⟨g1, g2, g3, g4, g5⟩ := h
    have h47 := call47 lv k n s keys (kids.map encT) g1 (by omega) g4
    rw [encT_mk]
    simp only [rgtT, encTs_map]
    generalize hereS lv k n s keys (kids.map encT) = e at *
    by_cases he : e = 0
    · have hlo := loop36 k n s (kst keys) lv h0 (by omega) kids (by omega) kids [] rfl (fun u hu => ih u hu d (lv + 1) (by omega) (by omega) (g5 u hu))
      rw [ieqT he, cond_true]
      by_cases hz : rgtL (lv + 1) kids = 0
      · rw [ieqT hz, cond_true] at hlo
        rw [hz]
        exact call_lim rfl (p36_1L k n s _ _ lv e h47 (ieqT he) hlo)
      · rw [ieqF hz, cond_false] at hlo
        exact call_lim rfl (p36_0L k n s _ _ lv e _ h47 (ieqT he) hlo)
    · rw [ieqF he, cond_false]
      exact call_lim rfl (p36_2L k n s _ _ lv e h47 (ieqF he))

theorem loop37_1 (k n : Int) (s : ByteArray) (keys : List AV) (lv : Int) (h0 : -1 ≤ lv) (h1 : lv ≤ 50) (all : List Tr) (hl : all.length ≤ 20) (rest : List Tr) : ∀ (pre : List Tr), all = pre ++ rest →
    (∀ t, t ∈ rest → (lim F pr).call 37 [encT t, .sc (.int .i64 (lv + 1))] [] = some (.sc (.int .i64 (rgtT (lv + 2) t)), [])) →
    (lim F pr).loop [2, 1, 8] 1 b37_1 (H37_1_0 k n s keys (all.map encT) lv pre.length) = some (bif Ops.std.ieq (rgtL (lv + 2) rest) 0 then W37_1_1 k n s keys (all.map encT) else W37_1_0 k n s keys (all.map encT) (rgtL (lv + 2) rest)) := by
  induction rest with
  | nil =>
    intro pre h _
    subst h
    simp only [rgtL, ieqT (rfl : (0 : Int) = 0), cond_true]
    exact round_lim (r37_1_0_2L k n s keys _ lv _ doneM)
  | cons t rest ih =>
    intro pre h hR
    have hp : pre.length < 9223372036854775807 := by have := congrArg List.length h; simp at this; omega
    have hc := hR t (by simp)
    have hadd : Ops.std.iadd .i64 lv 1 = lv + 1 := iaddS (by omega) (by omega)
    have hget : Ops.std.lget (all.map encT) pre.length = some (encT t) := by rw [h]; exact lgetM
    have hi := ih (pre ++ [t]) (by rw [h]; simp) (fun u hu => hR u (by simp [hu]))
    simp only [rgtL]
    generalize hd : rgtT (lv + 2) t = e at *
    obtain ⟨tk, tn, ts, tks, tkd⟩ := t
    rw [encT_mk] at hc hget
    rw [← hadd] at hc
    by_cases he : e = 0
    · have this := r37_1_0_0L k n s keys (all.map encT) lv pre.length tk tn ts _ _ e (by rw [h]; exact moreM) hget hc (ieqT he)
      rw [stepM (x := Tr.mk tk tn ts tks tkd) hp] at this
      rw [ieqT he, cond_true]
      exact round_lim (this.trans hi)
    · rw [ieqF he, cond_false, ieqF he, cond_false]
      exact round_lim (r37_1_0_1L k n s keys (all.map encT) lv pre.length tk tn ts _ _ e (by rw [h]; exact moreM) hget hc (ieqF he))

theorem call37 (t : Tr) : ∀ (d : Nat) (lv : Int), -1 ≤ lv → lv + d ≤ 40 → Ok d t → (lim F pr).call 37 [encT t, .sc (.int .i64 lv)] [] = some (.sc (.int .i64 (rgtT (lv + 1) t)), []) := by
  refine Tr.ind (Q := fun t => ∀ (d : Nat) (lv : Int), -1 ≤ lv → lv + d ≤ 40 → Ok d t → (lim F pr).call 37 [encT t, .sc (.int .i64 lv)] [] = some (.sc (.int .i64 (rgtT (lv + 1) t)), [])) (fun k n s keys kids ih => ?_) t
  intro d lv h0 hd h
  cases d with
  | zero => exact h.elim
  | succ d =>
    obtain ⟨g1, g2, g3, g4, g5⟩ := h
    rw [encT_mk]
    simp only [rgtT, encTs_map]
    have hz6 : Ops.std.ieq 6 0 = false := rfl
    have hz9 : Ops.std.ieq 9 0 = false := rfl
    have hz1 : Ops.std.ieq 1 0 = false := rfl
    have hz3 : Ops.std.ieq 3 0 = false := rfl
    have hz0 : Ops.std.ieq 0 0 = true := rfl
    unfold hereS
    by_cases c1 : 7 < lv
    · rw [if_pos (show (8 : Int) < lv + 1 by omega), hz6, cond_false]; exact call_lim rfl (p37_0L k n s _ _ lv (iltT c1))
    rw [if_neg (show ¬ (8 : Int) < lv + 1 by omega)]
    by_cases c2 : k < 1
    · rw [if_pos c2, hz9, cond_false]; exact call_lim rfl (p37_1L k n s _ _ lv (iltF c1) (iltT c2))
    rw [if_neg c2]
    by_cases c3 : 4 < k
    · rw [if_pos c3, hz9, cond_false]; exact call_lim rfl (p37_2L k n s _ _ lv (iltF c1) (iltF c2) (iltT c3))
    rw [if_neg c3]
    obtain ⟨b, hb, hb2⟩ := own_fields k n s (kst keys) (kids.map encT) (by omega) (by omega)
    have h48 := call_lim (F := F) (pr := pr) (f := 48) rfl (c48 k n s (kst keys) (kids.map encT))
    rw [hb2] at h48
    have hf : fitsB k n s (kst keys) (kids.map encT) = b := by unfold fitsB; rw [hb]
    rw [hf]
    cases b with
    | false =>
      simp only [if_true, hz1, cond_false]
      exact call_lim rfl (p37_3L k n s _ _ lv _ (iltF c1) (iltF c2) (iltF c3) h48 rfl)
    | true =>
      have hlong : Ops.std.ilt 1048576 (Ops.std.slen s) = false := iltF (by rw [slen_is]; omega)
      have hlo : (lim F pr).loop [7, 5, 6, 2, 1] 1 b37_0 (H37_0_0 k n s (kst keys) (kids.map encT) lv (Ops.std.ilt 1048576 (Ops.std.slen s)) false 0) = some (W37_0_0 k n s (kst keys) (kids.map encT) lv false (!rising keys)) := by rw [hlong]; exact loop37_00 k n s (kids.map encT) lv keys (by omega) g4
      cases hr : rising keys with
      | false =>
        rw [hr] at hlo
        simp only [Bool.true_eq_false, if_false, if_true, Bool.not_false, hz3, cond_false] at hlo ⊢
        exact call_lim rfl (p37_5L k n s _ _ lv _ _ _ (iltF c1) (iltF c2) (iltF c3) h48 rfl hlo rfl rfl)
      | true =>
        rw [hr] at hlo
        have hl1 := loop37_1 k n s (kst keys) lv h0 (by omega) kids g3 kids [] rfl (fun u hu => by
          have := ih u hu d (lv + 1) (by omega) (by omega) (g5 u hu)
          rw [show lv + 1 + 1 = lv + 2 by omega] at this; exact this)
        simp only [Bool.true_eq_false, if_false, if_true, Bool.not_true, hz0, cond_true] at hlo ⊢
        rw [show lv + 1 + 1 = lv + 2 by omega]
        by_cases hz : rgtL (lv + 2) kids = 0
        · rw [ieqT hz, cond_true] at hl1
          rw [hz]
          exact call_lim rfl (p37_7L k n s _ _ lv _ _ _ (iltF c1) (iltF c2) (iltF c3) h48 rfl hlo rfl rfl hl1)
        · rw [ieqF hz, cond_false] at hl1
          exact call_lim rfl (p37_6L k n s _ _ lv _ _ _ _ (iltF c1) (iltF c2) (iltF c3) h48 rfl hlo rfl rfl hl1)

theorem law6 (t : Tr) : (lim F pr).call 6 [encT t] [] = some (.sc (.bool true), []) := by
  obtain ⟨b, h17, hok⟩ := large t
  obtain ⟨k, n, s, keys, kids⟩ := t
  cases b with
  | true =>
    rw [encT_mk] at h17 ⊢
    exact call_lim rfl (p6_0L k n s _ _ _ _ h17 rfl awake)
  | false =>
    have h := hok rfl
    have h36 := call36 (m := 20) (by omega) _ 20 1 (by omega) (by omega) h
    have h37 := call37 _ 20 0 (by omega) (by omega) h
    have h21 := call21 _ 20 (by omega) h
    have h22 := call22 _ 20 (by omega) h
    rw [encT_mk] at h17 h36 h37 h21 h22 ⊢
    have h19 := call_lim (f := 19) rfl (p19_0L k n s _ _ _ h36)
    have h20 := call_lim (f := 20) rfl (p20_0L k n s _ _ _ h37)
    exact call_lim rfl (p6_1L k n s _ _ _ _ _ _ _ _ h17 rfl h19 h20 (ieqT rfl) h21 h22 (ieqT rfl) awake)
end Go.Ab.Try
