/- Trees: as Lean's, as the interpreter's; a tree that is not too large; arguments that are trees. -/
import Derived.Test.YtcnohiofldkcoabT1
import Derived.Test.YtcnohiofldkcoabAbUse
import Derived.Test.YtcnohiofldkcoabAbData
import Derived.Test.YtcnohiofldkcoabChecked
namespace Go.Ab.Try
open Go Go.Ab Go.Proofs
set_option linter.unusedVariables false

inductive Tr where
  | mk (kind n : Int) (s : ByteArray) (keys : List ByteArray) (kids : List Tr)

theorem Tr.ind {Q : Tr → Prop} (h : ∀ k n s keys kids, (∀ t, t ∈ kids → Q t) → Q (.mk k n s keys kids)) (t : Tr) : Q t := by
  refine Tr.rec (motive_1 := Q) (motive_2 := fun l => ∀ t, t ∈ l → Q t) (fun k n s keys kids ih => h k n s keys kids ih) (fun t ht => by cases ht) (fun t l h1 h2 u hu => ?_) t
  rcases List.mem_cons.1 hu with rfl | hu
  · exact h1
  · exact h2 u hu

mutual
def encT : Tr → AV
  | .mk k n s keys kids => .agg [.sc (.int .i64 k), .sc (.int .i64 n), .sc (.string s), .lit 9 false (keys.map fun x => .sc (.string x)), .lit 45 false (encTs kids)]
def encTs : List Tr → List AV
  | [] => []
  | t :: r => encT t :: encTs r
end
theorem encTs_map (l : List Tr) : encTs l = l.map encT := by
  induction l with
  | nil => rfl
  | cons t r ih => simp only [encTs, List.map_cons, ih]
abbrev kst (keys : List ByteArray) : List AV := keys.map fun x => .sc (.string x)
theorem encT_mk (k n : Int) (s : ByteArray) (keys : List ByteArray) (kids : List Tr) : encT (.mk k n s keys kids) = a45 k n s (kst keys) (kids.map encT) := by
  rw [← encTs_map]; rfl

def OkM (m : Nat) : Nat → Tr → Prop
  | 0, _ => False
  | d + 1, .mk _ _ s keys kids => s.size ≤ 300 ∧ keys.length ≤ m ∧ kids.length ≤ m ∧ (∀ x, x ∈ keys → x.size ≤ 300) ∧ ∀ t, t ∈ kids → OkM m d t
abbrev Ok := OkM 20
theorem OkM.mono {m m' : Nat} (hm : m ≤ m') (t : Tr) : ∀ {d d' : Nat}, d ≤ d' → OkM m d t → OkM m' d' t := by
  refine Tr.ind (Q := fun t => ∀ {d d' : Nat}, d ≤ d' → OkM m d t → OkM m' d' t) (fun k n s keys kids ih => ?_) t
  intro d d' hd h
  cases d with
  | zero => exact h.elim
  | succ d =>
    obtain ⟨d', rfl⟩ : ∃ e, d' = e + 1 := ⟨d' - 1, by omega⟩
    obtain ⟨h1, h2, h3, h4, h5⟩ := h
    exact ⟨h1, by omega, by omega, h4, fun t ht => ih t ht (by omega) (h5 t ht)⟩


/-! ### A tree that is not too large -/

theorem loop50_0 (k n : Int) (s : ByteArray) (kids : List AV) (lv left : Int) (all : List ByteArray) (hl : all.length ≤ 20) (rest : List ByteArray) : ∀ (pre : List ByteArray), all = pre ++ rest →
    (lim F pr).loop [7, 3, 1, 2] 1 b50_0 (H50_0_0 Ops.std k n s (kst all) kids lv left pre.length) = some (W50_0_0 k n s (kst all) kids) ∨
    ((∀ x, x ∈ rest → x.size ≤ 300) ∧ (lim F pr).loop [7, 3, 1, 2] 1 b50_0 (H50_0_0 Ops.std k n s (kst all) kids lv left pre.length) = some (W50_0_1 Ops.std k n s (kst all) kids lv left)) := by
  induction rest with
  | nil =>
    intro pre h
    subst h
    exact .inr ⟨fun x hx => (by cases hx), round_lim (r50_0_0_2 doneM)⟩
  | cons x rest ih =>
    intro pre h
    have hp : pre.length < 9223372036854775807 := by have := congrArg List.length h; simp at this; omega
    have hm : Ops.std.ilt pre.length (Ops.std.llen (kst all)) = true := by rw [h]; exact moreM
    have hg : Ops.std.lget (kst all) pre.length = some (vT x) := by rw [h]; exact lgetM
    by_cases hx : x.size ≤ 300
    · have step := fun (r : X × St) (hr : (lim F pr).loop [7, 3, 1, 2] 1 b50_0 (H50_0_0 Ops.std k n s (kst all) kids lv left (pre ++ [x]).length) = some r) => by
        have := r50_0_0_1 (x0_kind := k) (x0_n := n) (x0_s := s) (x0_kids := kids) (x1 := lv) (x2 := left) hm hg (iltF (by rw [slen_is]; omega))
        rw [stepM (x := x) hp] at this
        exact round_lim (this.trans hr)
      rcases ih (pre ++ [x]) (by rw [h]; simp) with h1 | ⟨h1, h2⟩
      · exact .inl (step _ h1)
      · refine .inr ⟨fun y hy => ?_, step _ h2⟩
        rcases List.mem_cons.1 hy with rfl | hy
        · exact hx
        · exact h1 y hy
    · exact .inl (round_lim (r50_0_0_0 hm hg (iltT (by rw [slen_is]; omega))))

/-- What 'room' answers. -/
def Room (t : Tr) : Prop := ∀ lv left : Int, 1 ≤ lv → lv ≤ 21 → -1 ≤ left → left ≤ 400 → ∃ r : Int, (lim F pr).call 50 [encT t, vI lv, vI left] [] = some (vI r, []) ∧ -1 ≤ r ∧ r ≤ 400 ∧ (0 ≤ r → Ok (21 - lv.toNat) t)

theorem loop50_1 (k n : Int) (s : ByteArray) (keys : List AV) (lv : Int) (h1 : 1 ≤ lv) (h2 : lv ≤ 20) (all : List Tr) (hl : all.length ≤ 20) (rest : List Tr) : ∀ (pre : List Tr) (left : Int), all = pre ++ rest → 0 ≤ left → left ≤ 400 → (∀ t, t ∈ rest → Room t) →
    ((lim F pr).loop [3, 1, 8, 2] 1 b50_1 (H50_1_0 k n s keys (all.map encT) lv left pre.length) = some (W50_1_0 k n s keys (all.map encT))) ∨
    ∃ r : Int, 0 ≤ r ∧ r ≤ 400 ∧ (∀ t, t ∈ rest → Ok (20 - lv.toNat) t) ∧ (lim F pr).loop [3, 1, 8, 2] 1 b50_1 (H50_1_0 k n s keys (all.map encT) lv left pre.length) = some (W50_1_1 k n s keys (all.map encT) r) := by
  induction rest with
  | nil =>
    intro pre left h hl0 hl4 _
    subst h
    exact .inr ⟨left, hl0, hl4, fun t ht => (by cases ht), round_lim (r50_1_0_2 doneM)⟩
  | cons t rest ih =>
    intro pre left h hl0 hl4 hR
    have hp : pre.length < 9223372036854775807 := by have := congrArg List.length h; simp at this; omega
    obtain ⟨r, hc, hr1, hr2, hok⟩ := hR t (by simp) (lv + 1) left (by omega) (by omega) (by omega) hl4
    have hadd : Ops.std.iadd .i64 lv 1 = lv + 1 := iaddS (by omega) (by omega)
    have hm : Ops.std.ilt pre.length (Ops.std.llen (all.map encT)) = true := by rw [h]; exact moreM
    have hget : Ops.std.lget (all.map encT) pre.length = some (encT t) := by rw [h]; exact lgetM
    obtain ⟨tk, tn, ts, tks, tkd⟩ := t
    rw [encT_mk, ← hadd] at hc
    rw [encT_mk] at hget
    by_cases hneg : r < 0
    · exact .inl (round_lim (r50_1_0_0 hm hget hc (iltT hneg)))
    · have this := r50_1_0_1 (x0_kind := k) (x0_n := n) (x0_s := s) (x0_keys := keys) hm hget hc (iltF hneg)
      rw [stepM (x := Tr.mk tk tn ts tks tkd) hp] at this
      have hok' := hok (by omega)
      rw [show 21 - (lv + 1).toNat = 20 - lv.toNat by omega] at hok'
      rcases ih (pre ++ [.mk tk tn ts tks tkd]) r (by rw [h]; simp) (by omega) hr2 (fun u hu => hR u (by simp [hu])) with h3 | ⟨r', a1, a2, a3, a4⟩
      · exact .inl (round_lim (this.trans h3))
      · refine .inr ⟨r', a1, a2, fun u hu => ?_, round_lim (this.trans a4)⟩
        rcases List.mem_cons.1 hu with rfl | hu
        · exact hok'
        · exact a3 u hu

theorem room_all (t : Tr) : Room t := by
  refine Tr.ind (fun k n s keys kids ih => ?_) t
  intro lv left h1 h2 h3 h4
  rw [encT_mk]
  have neg : ∀ {P : Prop}, (0 : Int) ≤ -1 → P := fun h => absurd h (by omega)
  by_cases c1 : left < 1
  · exact ⟨-1, call_lim rfl (p50_0 (iltT c1)), by omega, by omega, neg⟩
  by_cases c2 : 20 < lv
  · exact ⟨-1, call_lim rfl (p50_1 (iltF c1) (iltT c2)), by omega, by omega, neg⟩
  by_cases c3 : (300 : Int) < s.size
  · exact ⟨-1, call_lim rfl (p50_2 (iltF c1) (iltF c2) (iltT c3)), by omega, by omega, neg⟩
  by_cases c4 : (20 : Int) < keys.length
  · exact ⟨-1, call_lim rfl (p50_3 (iltF c1) (iltF c2) (iltF c3) (iltT (by rw [llenM]; exact c4))), by omega, by omega, neg⟩
  by_cases c5 : (20 : Int) < kids.length
  · exact ⟨-1, call_lim rfl (p50_4 (iltF c1) (iltF c2) (iltF c3) (iltF (by rw [llenM]; exact c4)) (iltT (by rw [llenM]; exact c5))), by omega, by omega, neg⟩
  have hs : Ops.std.isub .i64 left 1 = left - 1 := isubS (by omega) (by omega)
  rcases loop50_0 k n s (kids.map encT) lv left keys (by omega) keys [] rfl with a1 | ⟨a1, a2⟩
  · exact ⟨-1, call_lim rfl (p50_5 (iltF c1) (iltF c2) (iltF c3) (iltF (by rw [llenM]; exact c4)) (iltF (by rw [llenM]; exact c5)) a1), by omega, by omega, neg⟩
  · rcases loop50_1 k n s (kst keys) lv h1 (by omega) kids (by omega) kids [] (left - 1) rfl (by omega) (by omega) ih with b1 | ⟨r, b1, b2, b3, b4⟩
    · rw [← hs] at b1
      exact ⟨-1, call_lim rfl (p50_6 (iltF c1) (iltF c2) (iltF c3) (iltF (by rw [llenM]; exact c4)) (iltF (by rw [llenM]; exact c5)) a2 b1), by omega, by omega, neg⟩
    · rw [← hs] at b4
      refine ⟨r, call_lim rfl (p50_7 (iltF c1) (iltF c2) (iltF c3) (iltF (by rw [llenM]; exact c4)) (iltF (by rw [llenM]; exact c5)) a2 b4), by omega, b2, fun _ => ?_⟩
      rw [show 21 - lv.toNat = (20 - lv.toNat) + 1 by omega]
      exact ⟨by omega, by omega, by omega, a1, b3⟩

theorem large (t : Tr) : ∃ b : Bool, (lim F pr).call 28 [encT t, vI 1] [] = some (vF b, []) ∧ (b = false → Ok 20 t) := by
  obtain ⟨r, h1, _, _, h2⟩ := room_all t 1 400 (by omega) (by omega) (by omega) (by omega)
  obtain ⟨k, n, s, keys, kids⟩ := t
  rw [encT_mk] at h1 ⊢
  refine ⟨_, call_lim rfl (p28_0 h1), fun hb => h2 ?_⟩
  have : ¬ r < 0 := fun h => by rw [iltT h] at hb; cases hb
  omega

/-! ### Arguments -/

section
variable {H : Type} {enc : TypeId × Value → H} {w : World} {base : Nat} {spare : Nat → Bool} {held : Bool}

theorem tree_elem (fuel : Nat) : ∀ (cs : List Value) (x : DataW H × List MemPlace), DataW.trod enc Try.prog w base spare held fuel 45 cs = some x → ∃ xa, ElemAt Try.prog w 5 (fun v => ∃ t : Tr, v = encT t) cs xa := by
  induction fuel using Nat.strongRecOn with
  | ind fuel ih =>
    intro cs x h
    obtain ⟨xs, n, rfl, rfl, hl, hxl, hf⟩ := DataW.trod_struct Try.underlying45 h
    have hc5 : cs.length = 5 := hl.trans cells45
    have hx5 : xs.length = 5 := hxl
    match cs, hc5 with
    | [c0, c1, c2, c3, c4], _ =>
      match xs, hx5 with
      | [x0, x1, x2, x3, x4], _ =>
        have h0 : DataW.trod enc Try.prog w base spare held n 3 [c0] = some x0 := hf 0 _ rfl
        have h1 : DataW.trod enc Try.prog w base spare held n 2 [c1] = some x1 := hf 1 _ rfl
        have h2 : DataW.trod enc Try.prog w base spare held n 9 [c2] = some x2 := hf 2 _ rfl
        have h3 : DataW.trod enc Try.prog w base spare held n 43 [c3] = some x3 := hf 3 _ rfl
        have h4 : DataW.trod enc Try.prog w base spare held n 42 [c4] = some x4 := hf 4 _ rfl
        obtain ⟨k, e0, _⟩ := DataW.trod_int Try.underlying3 h0
        obtain ⟨nn, e1, _⟩ := DataW.trod_int Try.underlying2 h1
        obtain ⟨s, e2, _⟩ := DataW.trod_string Try.underlying9 h2
        obtain ⟨ks, v3, e3, d3, g3⟩ := slice_av (size := 1) (Good := fun v => ∃ s : ByteArray, v = .sc (.string s)) Try.underlying43 cells9 (by omega) h3 (fun m cs' y _ hy => by
          obtain ⟨xa, a1, a2, a3, s, a4, _⟩ := str_elem Try.underlying9 hy
          exact ⟨xa, a1, a2, a3, s, a4⟩)
        obtain ⟨ts, v4, e4, d4, g4⟩ := slice_av (size := 5) (Good := fun v => ∃ t : Tr, v = encT t) Try.underlying42 cells45 (by omega) h4 (fun m cs' y hm hy => ih m (by omega) cs' y hy)
        obtain ⟨keys, rfl⟩ := good_map (f := fun x : ByteArray => AV.sc (.string x)) ks g3
        obtain ⟨kids, rfl⟩ := good_map (f := encT) ts g4
        cases e0; cases e1; cases e2; cases e3; cases e4
        refine ⟨encT (.mk k nn s keys kids), ?_, ?_, ?_, _, rfl⟩
        · rw [encT_mk]
          exact DL.sc rfl (DL.sc rfl (DL.sc rfl (d3.append d4)))
        · rw [encT_mk]; rfl
        · rw [encT_mk]
          intro c hc
          simp only [AV.cells, List.mem_cons, List.mem_singleton, List.not_mem_nil, or_false] at hc
          rcases hc with rfl | rfl | rfl | rfl | rfl <;> rfl

theorem tree_arg {r : Reach} {b0 : Nat} {v : Value} {d : DataW H} {ps : List MemPlace} (hval : Value.okWide Try.prog w r b0 45 v) (h : DataW.Trod enc Try.prog w base spare held 45 v d ps) : ∃ t : Tr, DL Try.prog w (fun _ => False) [encT t] [v] := by
  unfold Value.okWide at hval
  rw [Try.underlying45] at hval
  obtain ⟨cs, rfl, _, _⟩ := hval
  obtain ⟨fuel, hf⟩ := h
  obtain ⟨xa, a1, _, _, t, rfl⟩ := tree_elem fuel _ _ hf
  refine ⟨t, ?_⟩
  obtain ⟨k, n, s, keys, kids⟩ := t
  rw [encT_mk] at a1 ⊢
  have := DL.agg a1 (r := []) (rs := []) .nil
  simpa [AV.cells, Value.cells] using this
theorem trees_arg {r : Reach} {b0 : Nat} {v : Value} {d : DataW H} {ps : List MemPlace} (hval : Value.okWide Try.prog w r b0 42 v) (h : DataW.Trod enc Try.prog w base spare held 42 v d ps) : ∃ l : List Tr, DL Try.prog w (fun _ => False) [.lit 45 false (l.map encT)] [v] := by
  obtain ⟨fuel, hf⟩ := h
  obtain ⟨ts, u, e, d, g⟩ := slice_av (size := 5) (Good := fun v => ∃ t : Tr, v = encT t) Try.underlying42 cells45 (by omega) hf (fun m cs' y hm hy => tree_elem m cs' y hy)
  obtain ⟨l, rfl⟩ := good_map (f := encT) ts g
  refine ⟨l, ?_⟩
  rw [slice_cell Try.underlying42 hval] at e
  cases e
  exact d
end
end Go.Ab.Try
