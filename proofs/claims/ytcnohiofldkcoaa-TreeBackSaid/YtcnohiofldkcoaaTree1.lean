/- Trees: as Lean's, as the interpreter's; a tree that is not too large; how deep a tree is, by the program and by the reference. -/
import Derived.Test.YtcnohiofldkcoaaT1
import Derived.Test.YtcnohiofldkcoaaAbUse
namespace Go.Ab.Try
open Go Go.Ab Go.Proofs
set_option linter.unusedVariables false

inductive Tr where
  | mk (kind n : Int) (s : ByteArray) (keys : List ByteArray) (kids : List Tr)

theorem Tr.ind {Q : Tr → Prop} (h : ∀ k n s keys kids, (∀ t, t ∈ kids → Q t) → Q (.mk k n s keys kids)) (t : Tr) : Q t := by
  refine Tr.rec (motive_1 := Q) (motive_2 := fun l => ∀ t, t ∈ l → Q t) (fun k n s keys kids ih => h k n s keys kids ih) (fun t ht => by cases ht) (fun t l h1 h2 u hu => ?_) t
  rcases List.mem_cons.1 hu with rfl | hu
  · exact h1
  · exact h2 u hu

mutual
def encT : Tr → AV
  | .mk k n s keys kids => .agg [.sc (.int .i64 k), .sc (.int .i64 n), .sc (.string s), .lit 9 false (keys.map fun x => .sc (.string x)), .lit 32 false (encTs kids)]
def encTs : List Tr → List AV
  | [] => []
  | t :: r => encT t :: encTs r
end
theorem encTs_map (l : List Tr) : encTs l = l.map encT := by
  induction l with
  | nil => rfl
  | cons t r ih => simp only [encTs, List.map_cons, ih]
abbrev kst (keys : List ByteArray) : List AV := keys.map fun x => .sc (.string x)
theorem encT_mk (k n : Int) (s : ByteArray) (keys : List ByteArray) (kids : List Tr) : encT (.mk k n s keys kids) = .agg [.sc (.int .i64 k), .sc (.int .i64 n), .sc (.string s), .lit 9 false (kst keys), .lit 32 false (kids.map encT)] := by
  rw [← encTs_map]; rfl

def OkM (m : Nat) : Nat → Tr → Prop
  | 0, _ => False
  | d + 1, .mk _ _ s keys kids => s.size ≤ 300 ∧ keys.length ≤ m ∧ kids.length ≤ m ∧ (∀ x, x ∈ keys → x.size ≤ 300) ∧ ∀ t, t ∈ kids → OkM m d t
abbrev Ok := OkM 20
theorem OkM.mono {m m' : Nat} (hm : m ≤ m') (t : Tr) : ∀ {d d' : Nat}, d ≤ d' → OkM m d t → OkM m' d' t := by
  refine Tr.ind (Q := fun t => ∀ {d d' : Nat}, d ≤ d' → OkM m d t → OkM m' d' t) (fun k n s keys kids ih => ?_) t
  intro d d' hd h
  cases d with
  | zero => exact h.elim
  | succ d =>
    obtain ⟨d', rfl⟩ : ∃ e, d' = e + 1 := ⟨d' - 1, by omega⟩
    obtain ⟨h1, h2, h3, h4, h5⟩ := h
    exact ⟨h1, by omega, by omega, h4, fun t ht => ih t ht (by omega) (h5 t ht)⟩

/-! ### A tree that is not too large -/

theorem loop32_0 (k n : Int) (s : ByteArray) (kids : List AV) (lv left : Int) (all : List ByteArray) (hl : all.length ≤ 20) (rest : List ByteArray) : ∀ (pre : List ByteArray), all = pre ++ rest →
    (lim F pr).loop [7, 3, 1, 2] 1 b32_0 (H32_0_0 k n s (kst all) kids lv left pre.length) = some (W32_0_0 k n s (kst all) kids) ∨
    ((∀ x, x ∈ rest → x.size ≤ 300) ∧ (lim F pr).loop [7, 3, 1, 2] 1 b32_0 (H32_0_0 k n s (kst all) kids lv left pre.length) = some (W32_0_1 k n s (kst all) kids lv left)) := by
  induction rest with
  | nil =>
    intro pre h
    subst h
    exact .inr ⟨fun x hx => (by cases hx), round_lim (r32_0_0_2L k n s _ kids lv left _ doneM)⟩
  | cons x rest ih =>
    intro pre h
    have hp : pre.length < 9223372036854775807 := by have := congrArg List.length h; simp at this; omega
    by_cases hx : x.size ≤ 300
    · have h3 : Ops.std.ilt 300 (Ops.std.slen x) = false := iltF (by rw [slen_is]; omega)
      have step := fun (r : X × St) (hr : (lim F pr).loop [7, 3, 1, 2] 1 b32_0 (H32_0_0 k n s (kst all) kids lv left (pre ++ [x]).length) = some r) => by
        have := r32_0_0_1L k n s (kst all) kids lv left pre.length x (by rw [h]; exact moreM) (by rw [h]; exact lgetM) h3
        rw [stepM (x := x) hp] at this
        exact round_lim (this.trans hr)
      rcases ih (pre ++ [x]) (by rw [h]; simp) with h1 | ⟨h1, h2⟩
      · exact .inl (step _ h1)
      · refine .inr ⟨fun y hy => ?_, step _ h2⟩
        rcases List.mem_cons.1 hy with rfl | hy
        · exact hx
        · exact h1 y hy
    · exact .inl (round_lim (r32_0_0_0L k n s (kst all) kids lv left pre.length x (by rw [h]; exact moreM) (by rw [h]; exact lgetM) (iltT (by rw [slen_is]; omega))))

/-- What 'room' answers. -/
def Room (t : Tr) : Prop := ∀ lv left : Int, 1 ≤ lv → lv ≤ 21 → -1 ≤ left → left ≤ 400 → ∃ r : Int, (lim F pr).call 32 [encT t, .sc (.int .i64 lv), .sc (.int .i64 left)] [] = some (.sc (.int .i64 r), []) ∧ -1 ≤ r ∧ r ≤ 400 ∧ (0 ≤ r → Ok (21 - lv.toNat) t)

theorem loop32_1 (k n : Int) (s : ByteArray) (keys : List AV) (lv : Int) (h1 : 1 ≤ lv) (h2 : lv ≤ 20) (all : List Tr) (hl : all.length ≤ 20) (rest : List Tr) : ∀ (pre : List Tr) (left : Int), all = pre ++ rest → 0 ≤ left → left ≤ 400 → (∀ t, t ∈ rest → Room t) →
    ((lim F pr).loop [3, 1, 8, 2] 1 b32_1 (H32_1_0 k n s keys (all.map encT) lv left pre.length) = some (W32_1_0 k n s keys (all.map encT))) ∨
    ∃ r : Int, 0 ≤ r ∧ r ≤ 400 ∧ (∀ t, t ∈ rest → Ok (20 - lv.toNat) t) ∧ (lim F pr).loop [3, 1, 8, 2] 1 b32_1 (H32_1_0 k n s keys (all.map encT) lv left pre.length) = some (W32_1_1 k n s keys (all.map encT) r) := by
  induction rest with
  | nil =>
    intro pre left h hl0 hl4 _
    subst h
    exact .inr ⟨left, hl0, hl4, fun t ht => (by cases ht), round_lim (r32_1_0_2L k n s keys _ lv left _ doneM)⟩
  | cons t rest ih =>
    intro pre left h hl0 hl4 hR
    have hp : pre.length < 9223372036854775807 := by have := congrArg List.length h; simp at this; omega
    obtain ⟨r, hc, hr1, hr2, hok⟩ := hR t (by simp) (lv + 1) left (by omega) (by omega) (by omega) hl4
    have hadd : Ops.std.iadd .i64 lv 1 = lv + 1 := iaddS (by omega) (by omega)
    obtain ⟨tk, tn, ts, tks, tkd⟩ := t
    rw [encT_mk, ← hadd] at hc
    have hget : Ops.std.lget (all.map encT) pre.length = some (.agg [.sc (.int .i64 tk), .sc (.int .i64 tn), .sc (.string ts), .lit 9 false (kst tks), .lit 32 false (tkd.map encT)]) := by rw [h, ← encT_mk]; exact lgetM
    by_cases hneg : r < 0
    · exact .inl (round_lim (r32_1_0_0L k n s keys (all.map encT) lv left pre.length tk tn ts _ _ r (by rw [h]; exact moreM) hget hc (iltT hneg)))
    · have this := r32_1_0_1L k n s keys (all.map encT) lv left pre.length tk tn ts _ _ r (by rw [h]; exact moreM) hget hc (iltF hneg)
      rw [stepM (x := Tr.mk tk tn ts tks tkd) hp] at this
      have hok' := hok (by omega)
      rw [show 21 - (lv + 1).toNat = 20 - lv.toNat by omega] at hok'
      rcases ih (pre ++ [.mk tk tn ts tks tkd]) r (by rw [h]; simp) (by omega) hr2 (fun u hu => hR u (by simp [hu])) with h3 | ⟨r', a1, a2, a3, a4⟩
      · exact .inl (round_lim (this.trans h3))
      · refine .inr ⟨r', a1, a2, fun u hu => ?_, round_lim (this.trans a4)⟩
        rcases List.mem_cons.1 hu with rfl | hu
        · exact hok'
        · exact a3 u hu

theorem room_all (t : Tr) : Room t := by
  refine Tr.ind (fun k n s keys kids ih => ?_) t
  intro lv left h1 h2 h3 h4
  rw [encT_mk]
  have neg : ∀ {P : Prop}, (0 : Int) ≤ -1 → P := fun h => absurd h (by omega)
  by_cases c1 : left < 1
  · exact ⟨-1, call_lim rfl (p32_0L k n s _ _ lv left (iltT c1)), by omega, by omega, neg⟩
  by_cases c2 : 20 < lv
  · exact ⟨-1, call_lim rfl (p32_1L k n s _ _ lv left (iltF c1) (iltT c2)), by omega, by omega, neg⟩
  by_cases c3 : (300 : Int) < s.size
  · exact ⟨-1, call_lim rfl (p32_2L k n s _ _ lv left (iltF c1) (iltF c2) (iltT c3)), by omega, by omega, neg⟩
  by_cases c4 : (20 : Int) < keys.length
  · exact ⟨-1, call_lim rfl (p32_3L k n s _ _ lv left (iltF c1) (iltF c2) (iltF c3) (iltT (by rw [llenM]; exact c4))), by omega, by omega, neg⟩
  by_cases c5 : (20 : Int) < kids.length
  · exact ⟨-1, call_lim rfl (p32_4L k n s _ _ lv left (iltF c1) (iltF c2) (iltF c3) (iltF (by rw [llenM]; exact c4)) (iltT (by rw [llenM]; exact c5))), by omega, by omega, neg⟩
  have hs : Ops.std.isub .i64 left 1 = left - 1 := isubS (by omega) (by omega)
  rcases loop32_0 k n s (kids.map encT) lv left keys (by omega) keys [] rfl with a1 | ⟨a1, a2⟩
  · exact ⟨-1, call_lim rfl (p32_5L k n s _ _ lv left (iltF c1) (iltF c2) (iltF c3) (iltF (by rw [llenM]; exact c4)) (iltF (by rw [llenM]; exact c5)) a1), by omega, by omega, neg⟩
  · rcases loop32_1 k n s (kst keys) lv h1 (by omega) kids (by omega) kids [] (left - 1) rfl (by omega) (by omega) ih with b1 | ⟨r, b1, b2, b3, b4⟩
    · rw [← hs] at b1
      exact ⟨-1, call_lim rfl (p32_6L k n s _ _ lv left (iltF c1) (iltF c2) (iltF c3) (iltF (by rw [llenM]; exact c4)) (iltF (by rw [llenM]; exact c5)) a2 b1), by omega, by omega, neg⟩
    · rw [← hs] at b4
      refine ⟨r, call_lim rfl (p32_7L k n s _ _ lv left r (iltF c1) (iltF c2) (iltF c3) (iltF (by rw [llenM]; exact c4)) (iltF (by rw [llenM]; exact c5)) a2 b4), by omega, b2, fun _ => ?_⟩
      rw [show 21 - lv.toNat = (20 - lv.toNat) + 1 by omega]
      exact ⟨by omega, by omega, by omega, a1, b3⟩

theorem large (t : Tr) : ∃ b : Bool, (lim F pr).call 17 [encT t, .sc (.int .i64 1)] [] = some (.sc (.bool b), []) ∧ (b = false → Ok 20 t) := by
  obtain ⟨r, h1, _, _, h2⟩ := room_all t 1 400 (by omega) (by omega) (by omega) (by omega)
  obtain ⟨k, n, s, keys, kids⟩ := t
  rw [encT_mk] at h1 ⊢
  refine ⟨_, call_lim rfl (p17_0L k n s _ _ 1 r h1), fun hb => h2 ?_⟩
  have : ¬ r < 0 := fun h => by rw [iltT h] at hb; cases hb
  omega
end Go.Ab.Try
