/- A region whose order is drawn: the walk through whichever order. -/
import Derived.Test.YtcnohiofldkcoabAbDraw2
namespace Go.Ab
open Go
set_option linter.unusedSimpArgs false
set_option linter.unusedVariables false

theorem put_ne {t : List AV} {d : Option Nat} {v : AV} {x : Nat} (h : d ≠ some x) : (put t d v)[x]? = t[x]? := by
  cases d with
  | none => rfl
  | some d => exact List.getElem?_set_ne (fun e => h (by rw [e]))

theorem put_len (t : List AV) (d : Option Nat) (v : AV) : (put t d v).length = t.length := by
  cases d <;> simp [put]

theorem put_eq {t t' : List AV} {x : Nat} {v : AV} (h : t.length = t'.length) : (put t (some x) v)[x]? = (put t' (some x) v)[x]? := by
  simp [put, List.getElem?_set, h]

theorem Stp.ne {I : Ifc} {md : Bool} {ip : Ip} {s s' : St} (st : Stp I md ip s s') {x : Nat} (h : ip.d ≠ some x) : s'.t[x]? = s.t[x]? := by
  rcases st with ⟨_, v, h1, m, _, _, rfl⟩ | ⟨_, rfl⟩ <;> exact put_ne h
theorem Stp.len {I : Ifc} {md : Bool} {ip : Ip} {s s' : St} (st : Stp I md ip s s') : s'.t.length = s.t.length := by
  rcases st with ⟨_, v, h1, m, _, _, rfl⟩ | ⟨_, rfl⟩ <;> exact put_len _ _ _
theorem Stp.still {I : Ifc} {md : Bool} {ip : Ip} {s s' : St} (st : Stp I md ip s s') (h : kindOf ip.i ≠ .acts) : s'.h = s.h := by
  rcases st with ⟨_, v, h1, m, he, _, rfl⟩ | ⟨_, rfl⟩
  · cases hk : kindOf ip.i with
    | pure => exact (evOp_pure hk he).1
    | reads => exact (evOp_reads hk he).1
    | acts => exact absurd hk h
  · rfl
theorem Stp.grows {I : Ifc} {ip : Ip} {s s' : St} (st : Stp I false ip s s') (h : ip.u = 1) : ∃ new, s'.h = s.h ++ new := by
  rcases st with ⟨_, v, h1, m, he, hu, rfl⟩ | ⟨_, rfl⟩
  · have hm : m = 0 := by simpa [okU, h] using hu
    subst hm
    exact evOp_grows he
  · exact ⟨[], by simp⟩
theorem Stp.boxes {I : Ifc} {ip : Ip} {s s' : St} (st : Stp I true ip s s') (h : ip.u = 1) : Boxes s.h s'.h := by
  rcases st with ⟨_, v, h1, m, he, hu, rfl⟩ | ⟨_, rfl⟩
  · have hm : m ≤ 1 := by simpa [okU, h] using hu
    exact (evOp_boxes he hm).1
  · exact Boxes.refl _

theorem okU_act {md : Bool} {ip : Ip} {m : Nat} {s s' : St} (hu : ip.u ≤ 1) : okU md ip m s' = okU md ip m s := by
  rcases Nat.le_one_iff_eq_zero_or_eq_one.1 hu with h | h <;> simp [okU, h]
theorem okU_read {md : Bool} {ip : Ip} {m m' : Nat} {s s' : St} (hu : ip.u = 0 ∨ ip.u = 2) (h : okU md ip m s = true) (hmain : od s'.t ip.i.main = od s.t ip.i.main) (hk : ∀ k e, (od s.t ip.i.main).key = some k → s.h[k]? = some e → s'.h[k]? = some e) : okU md ip m' s' = true := by
  rcases hu with hu | hu
  · simp [okU, hu]
  · cases md with
    | false => simp [okU, hu]
    | true =>
      simp only [okU, hu, hmain] at h ⊢
      cases hkey : (od s.t ip.i.main).key with
      | none => rfl
      | some k =>
        simp only [hkey] at h ⊢
        cases he : s.h[k]? with
        | none => rw [he] at h; cases h
        | some e =>
          rw [he] at h
          rw [hk k e hkey he]
          exact h

section
variable {I : Ifc} {md : Bool} {S : Nat → St} {l : List Ip} {b : Array Nat}

theorem tr_len (tr : ∀ (j : Nat) (ip : Ip), l[j]? = some ip → Stp I md ip (S j) (S (j + 1))) : ∀ j, j ≤ l.length → (S j).t.length = (S 0).t.length := by
  intro j
  induction j with
  | zero => intro _; rfl
  | succ j ih => intro hj; rw [(tr j _ (List.getElem?_eq_getElem (by omega))).len]; exact ih (by omega)

theorem tr_t (tr : ∀ (j : Nat) (ip : Ip), l[j]? = some ip → Stp I md ip (S j) (S (j + 1))) {x j : Nat} : ∀ k, j ≤ k → k ≤ l.length → (∀ i ip, j ≤ i → i < k → l[i]? = some ip → ip.d ≠ some x) → (S k).t[x]? = (S j).t[x]? := by
  intro k
  induction k with
  | zero => intro h _ _; rw [show j = 0 by omega]
  | succ k ih =>
    intro hjk hk hd
    by_cases he : j = k + 1
    · rw [he]
    · have h1 := List.getElem?_eq_getElem (l := l) (i := k) (by omega)
      rw [(tr k _ h1).ne (hd k _ (by omega) (by omega) h1)]
      exact ih (by omega) (by omega) fun i ip h2 h3 h4 => hd i ip h2 (by omega) h4

theorem tr_still (tr : ∀ (j : Nat) (ip : Ip), l[j]? = some ip → Stp I md ip (S j) (S (j + 1))) {j : Nat} : ∀ k, j ≤ k → k ≤ l.length → (∀ i ip, j ≤ i → i < k → l[i]? = some ip → kindOf ip.i ≠ .acts) → (S k).h = (S j).h := by
  intro k
  induction k with
  | zero => intro h _ _; rw [show j = 0 by omega]
  | succ k ih =>
    intro hjk hk hd
    by_cases he : j = k + 1
    · rw [he]
    · have h1 := List.getElem?_eq_getElem (l := l) (i := k) (by omega)
      rw [(tr k _ h1).still (hd k _ (by omega) (by omega) h1)]
      exact ih (by omega) (by omega) fun i ip h2 h3 h4 => hd i ip h2 (by omega) h4

theorem tr_grows (tr : ∀ (j : Nat) (ip : Ip), l[j]? = some ip → Stp I false ip (S j) (S (j + 1))) {j : Nat} : ∀ k, j ≤ k → k ≤ l.length → (∀ i ip, j ≤ i → i < k → l[i]? = some ip → kindOf ip.i = .acts → ip.u = 1) → ∃ new, (S k).h = (S j).h ++ new := by
  intro k
  induction k with
  | zero => intro h _ _; exact ⟨[], by rw [show j = 0 by omega]; simp⟩
  | succ k ih =>
    intro hjk hk hd
    by_cases he : j = k + 1
    · exact ⟨[], by rw [he]; simp⟩
    · have h1 := List.getElem?_eq_getElem (l := l) (i := k) (by omega)
      obtain ⟨n1, e1⟩ := ih (by omega) (by omega) fun i ip h2 h3 h4 => hd i ip h2 (by omega) h4
      by_cases ha : kindOf (l[k]'(by omega)).i = .acts
      · obtain ⟨n2, e2⟩ := (tr k _ h1).grows (hd k _ (by omega) (by omega) h1 ha)
        exact ⟨n1 ++ n2, by rw [e2, e1]; simp⟩
      · exact ⟨n1, by rw [(tr k _ h1).still ha, e1]⟩

theorem tr_boxes (tr : ∀ (j : Nat) (ip : Ip), l[j]? = some ip → Stp I true ip (S j) (S (j + 1))) {j : Nat} : ∀ k, j ≤ k → k ≤ l.length → (∀ i ip, j ≤ i → i < k → l[i]? = some ip → kindOf ip.i = .acts → ip.u = 1) → Boxes (S j).h (S k).h := by
  intro k
  induction k with
  | zero => intro h _ _; rw [show j = 0 by omega]; exact Boxes.refl _
  | succ k ih =>
    intro hjk hk hd
    by_cases he : j = k + 1
    · rw [he]; exact Boxes.refl _
    · have h1 := List.getElem?_eq_getElem (l := l) (i := k) (by omega)
      have b1 := ih (by omega) (by omega) fun i ip h2 h3 h4 => hd i ip h2 (by omega) h4
      by_cases ha : kindOf (l[k]'(by omega)).i = .acts
      · exact b1.trans ((tr k _ h1).boxes (hd k _ (by omega) (by omega) h1 ha))
      · rw [(tr k _ h1).still ha]; exact b1

structure Inv (S : Nat → St) (l : List Ip) (L : Nat → Prop) (t : List AV) (h : Store) : Prop where
  len : t.length = (S 0).t.length
  yes : ∀ i ip x, L i → l[i]? = some ip → ip.d = some x → t[x]? = (S l.length).t[x]?
  no : ∀ x, (∀ i ip, L i → l[i]? = some ip → ip.d ≠ some x) → t[x]? = (S 0).t[x]?
  st : ∃ m, m ≤ l.length ∧ h = (S m).h ∧ ∀ i ip, l[i]? = some ip → kindOf ip.i = .acts → (L i ↔ i < m)

theorem inv_step (tr : ∀ (j : Nat) (ip : Ip), l[j]? = some ip → Stp I md ip (S j) (S (j + 1))) (T : Tab b l) {L : Nat → Prop} {t : List AV} {h : Store} (V : Inv S l L t h) (C : ∀ j i, L j → (b.getD j 0).testBit i = true → L i)
    {j : Nat} {ip : Ip} (hj : l[j]? = some ip) (hn : ¬ L j) (hr : ∀ i, (b.getD j 0).testBit i = true → L i) (hkey : ∀ k, (od t ip.i.main).key = some k → k < h.length) :
    ∃ s', Stp I md ip ⟨t, h⟩ s' ∧ Inv S l (fun i => L i ∨ i = j) s'.t s'.h := by
  have hjn : j < l.length := (List.getElem?_eq_some_iff.1 hj).1
  have sees : ∀ x, x ∈ ip.sees → t[x]? = (S j).t[x]? := by
    intro x hx
    by_cases hex : ∃ i ip', i < j ∧ l[i]? = some ip' ∧ ip'.d = some x
    · obtain ⟨i, ip', hij, hi, hd⟩ := hex
      have hL : L i := by
        rcases (T.pair i j ip' ip hij hi hj).2 with hb | ⟨ha, _⟩
        · exact hr i hb
        · exfalso
          simp only [apartIp, hd, Bool.and_eq_true] at ha
          have := ha.1.1
          simp [hx] at this
      rw [V.yes i ip' x hL hi hd]
      refine tr_t tr l.length (by omega) (Nat.le_refl _) fun k ip2 h1 h2 h3 => ?_
      have := (T.pair i k ip' ip2 (by omega) hi h3).1
      rw [hd] at this
      rcases this with h4 | h4
      · cases h4
      · exact fun e => h4 e.symm
    · have h1 : (S j).t[x]? = (S 0).t[x]? := tr_t tr j (by omega) (by omega) fun i ip' h1 h2 h3 h4 => hex ⟨i, ip', h2, h3, h4⟩
      rw [h1]
      refine V.no x fun i ip' hL hi hd => ?_
      rcases Nat.lt_trichotomy i j with h2 | h2 | h2
      · exact hex ⟨i, ip', h2, hi, hd⟩
      · subst h2; exact hn hL
      · rcases (T.pair j i ip ip' h2 hj hi).2 with hb | ⟨ha, _⟩
        · exact hn (C i j hL hb)
        · simp only [apartIp, hd, Bool.and_eq_true] at ha
          have := ha.2
          simp [hx] at this
  have hods : ∀ x, x ∈ ip.i.ods → od t x = od (S j).t x := fun x hx => od_congr fun n hnx => sees n (by
    unfold Ip.sees
    exact List.mem_append_left _ (List.mem_flatMap.2 ⟨x, hx, hnx⟩))
  have hwants : wants ip t = wants ip (S j).t := by
    unfold wants
    cases hg : ip.g with
    | none => rfl
    | some p =>
      obtain ⟨k, w⟩ := p
      have := sees k (by unfold Ip.sees; rw [hg]; simp)
      simp only [List.getD_eq_getElem?_getD, this]
  obtain ⟨m, hm, rfl, hacts⟩ := V.st
  -- the store, where the instruction acts
  have hact : kindOf ip.i = .acts → (S m).h = (S j).h ∧ ∀ i ip', l[i]? = some ip' → kindOf ip'.i = .acts → ((L i ∨ i = j) ↔ i < j + 1) := by
    intro hk
    have hiff : ∀ i ip', l[i]? = some ip' → kindOf ip'.i = .acts → (L i ↔ i < j) := by
      intro i ip' hi hki
      constructor
      · intro hL
        rcases Nat.lt_trichotomy i j with h2 | h2 | h2
        · exact h2
        · subst h2; exact absurd hL hn
        · rcases (T.pair j i ip ip' h2 hj hi).2 with hb | ⟨_, ha⟩
          · exact absurd (C i j hL hb) hn
          · exact absurd ⟨hk, hki⟩ ha
      · intro hlt
        rcases (T.pair i j ip' ip hlt hi hj).2 with hb | ⟨_, ha⟩
        · exact hr i hb
        · exact absurd ⟨hki, hk⟩ ha
    refine ⟨?_, fun i ip' hi hki => ?_⟩
    · rcases Nat.le_total m j with h1 | h1
      · refine (tr_still tr j h1 (by omega) fun i ip' h2 h3 h4 h5 => ?_).symm
        have := (hacts i ip' h4 h5).1 ((hiff i ip' h4 h5).2 h3)
        omega
      · refine tr_still tr m h1 hm fun i ip' h2 h3 h4 h5 => ?_
        have := (hiff i ip' h4 h5).1 ((hacts i ip' h4 h5).2 h3)
        omega
    · rw [hiff i ip' hi hki]; omega
  have hother : kindOf ip.i ≠ .acts → ∀ i ip', l[i]? = some ip' → kindOf ip'.i = .acts → ((L i ∨ i = j) ↔ i < m) := by
    intro hk i ip' hi hki
    rw [← hacts i ip' hi hki]
    constructor
    · rintro (h1 | h1)
      · exact h1
      · subst h1; rw [hj] at hi; cases hi; exact absurd hki hk
    · exact .inl
  have hreads : kindOf ip.i = .reads → (∃ mm, okU md ip mm (S j) = true) → ∀ k e, (od (S j).t ip.i.main).key = some k → (S j).h[k]? = some e → (S m).h[k]? = some e := by
    intro hk hwr k e hke hse
    have hmain : od t ip.i.main = od (S j).t ip.i.main := by
      by_cases hmm : ip.i.main ∈ ip.i.ods
      · exact hods _ hmm
      · revert hmm
        cases ip.i <;> simp [Ir.main, Ir.ods, od]
    have hlt := hkey k (by rw [hmain]; exact hke)
    have fwd : j ≤ m → ∀ i ip', j ≤ i → i < m → l[i]? = some ip' → kindOf ip'.i = .acts → ip'.u = 1 ∧ ip.u = 2 := fun h1 i ip' h2 h3 h4 h5 => by
      have hL := (hacts i ip' h4 h5).2 h3
      have hij : i ≠ j := fun e => hn (e ▸ hL)
      refine T.u i j ip' ip h4 hj hij h5 hk ?_ ?_
      · have := T.low j ip hj
        have h6 : 2 ^ j ≤ 2 ^ i := Nat.pow_le_pow_right (by omega) h2
        exact Nat.testBit_lt_two_pow (by omega)
      · cases hb : (b.getD i 0).testBit j
        · rfl
        · exact absurd (C i j hL hb) hn
    have bwd : m ≤ j → ∀ i ip', m ≤ i → i < j → l[i]? = some ip' → kindOf ip'.i = .acts → ip'.u = 1 ∧ ip.u = 2 := fun h1 i ip' h2 h3 h4 h5 => by
      have hL : ¬ L i := fun hL => by have := (hacts i ip' h4 h5).1 hL; omega
      have hij : i ≠ j := by omega
      refine T.u i j ip' ip h4 hj hij h5 hk ?_ ?_
      · cases hb : (b.getD j 0).testBit i
        · rfl
        · exact absurd (hr i hb) hL
      · have := T.low i ip' h4
        have h6 : 2 ^ i ≤ 2 ^ j := Nat.pow_le_pow_right (by omega) (by omega)
        exact Nat.testBit_lt_two_pow (by omega)
    cases md with
    | false =>
      rcases Nat.le_total j m with h1 | h1
      · obtain ⟨new, hnew⟩ := tr_grows tr m h1 hm fun i ip' h2 h3 h4 h5 => (fwd h1 i ip' h2 h3 h4 h5).1
        rw [hnew, List.getElem?_append_left (List.getElem?_eq_some_iff.1 hse).1]; exact hse
      · obtain ⟨new, hnew⟩ := tr_grows tr j h1 (by omega) fun i ip' h2 h3 h4 h5 => (bwd h1 i ip' h2 h3 h4 h5).1
        rw [hnew, List.getElem?_append_left hlt] at hse; exact hse
    | true =>
      by_cases hu2 : ip.u = 2
      · -- it reads a variable
        obtain ⟨tt, cs, rfl⟩ : ∃ tt cs, e = Ent.box tt cs := by
          have := hwr
          rcases this with ⟨mm, hok⟩
          simp only [okU, hu2, hke, hse] at hok
          cases e with
          | box tt cs => exact ⟨tt, cs, rfl⟩
          | row => simp at hok
        rcases Nat.le_total j m with h1 | h1
        · exact ((tr_boxes tr m h1 hm fun i ip' h2 h3 h4 h5 => (fwd h1 i ip' h2 h3 h4 h5).1).2 k (List.getElem?_eq_some_iff.1 hse).1 tt cs).1 hse
        · exact ((tr_boxes tr j h1 (by omega) fun i ip' h2 h3 h4 h5 => (bwd h1 i ip' h2 h3 h4 h5).1).2 k hlt tt cs).2 hse
      · -- nothing is loose beside it
        have : (S m).h = (S j).h := by
          rcases Nat.le_total j m with h1 | h1
          · exact tr_still tr m h1 hm fun i ip' h2 h3 h4 h5 => hu2 (fwd h1 i ip' h2 h3 h4 h5).2
          · exact (tr_still tr j h1 (by omega) fun i ip' h2 h3 h4 h5 => hu2 (bwd h1 i ip' h2 h3 h4 h5).2).symm
        rw [this]; exact hse
  -- the temporaries
  have htmp : ∀ v, (S (j + 1)).t = put (S j).t ip.d v → ∀ h', (∃ m, m ≤ l.length ∧ h' = (S m).h ∧ ∀ i ip, l[i]? = some ip → kindOf ip.i = .acts → ((L i ∨ i = j) ↔ i < m)) → Inv S l (fun i => L i ∨ i = j) (put t ip.d v) h' := by
    intro v hv h' hst
    refine ⟨by rw [put_len]; exact V.len, fun i ip' x hL hi hd => ?_, fun x hno => ?_, hst⟩
    · by_cases hij : i = j
      · subst hij
        rw [hj] at hi; cases hi
        have h1 : (S l.length).t[x]? = (S (i + 1)).t[x]? := by
          refine tr_t tr l.length (by omega) (Nat.le_refl _) fun k ip2 h1 h2 h3 => ?_
          have := (T.pair i k ip ip2 (by omega) hj h3).1
          rw [hd] at this
          rcases this with h4 | h4
          · cases h4
          · exact fun e => h4 e.symm
        rw [h1, hv, hd]
        exact put_eq (by rw [V.len, tr_len tr i (by omega)])
      · have hLi := hL.resolve_right hij
        rw [put_ne ?_]
        · exact V.yes i ip' x hLi hi hd
        · intro hdx
          rcases Nat.lt_or_gt_of_ne hij with h1 | h1
          · have := (T.pair i j ip' ip h1 hi hj).1
            rw [hd, hdx] at this
            rcases this with h4 | h4
            · cases h4
            · exact h4 rfl
          · have := (T.pair j i ip ip' h1 hj hi).1
            rw [hd, hdx] at this
            rcases this with h4 | h4
            · cases h4
            · exact h4 rfl
    · rw [put_ne (hno j ip (.inr rfl) hj)]
      exact V.no x fun i ip' hL => hno i ip' (.inl hL)
  rcases tr j ip hj with ⟨hw, v, h1, mm, he, hu, hS⟩ | ⟨hw, hS⟩
  · have hSt : (S (j + 1)).t = put (S j).t ip.d v := by rw [hS]
    have hSh : (S (j + 1)).h = h1 := by rw [hS]
    cases hk : kindOf ip.i with
    | acts =>
      obtain ⟨e1, e2⟩ := hact hk
      refine ⟨⟨put t ip.d v, h1⟩, .inl ⟨by rw [hwants]; exact hw, v, h1, mm, ?_, by rw [← hu]; exact okU_act (T.uk j ip hj |>.1 hk), rfl⟩, htmp v hSt _ ⟨j + 1, by omega, hSh.symm, e2⟩⟩
      show evOp I ip.i t (S m).h = _
      rw [evOp_congr I ip.i _ hods, e1]; exact he
    | pure =>
      obtain ⟨e1, e2, e3⟩ := evOp_pure hk he
      refine ⟨⟨put t ip.d v, (S m).h⟩, .inl ⟨by rw [hwants]; exact hw, v, (S m).h, 0, ?_, by simp [okU, (T.uk j ip hj).2.1 hk], rfl⟩, htmp v hSt _ ⟨m, hm, rfl, hother (by rw [hk]; simp)⟩⟩
      show evOp I ip.i t (S m).h = _
      rw [evOp_congr I ip.i _ hods]; exact e3 _
    | reads =>
      obtain ⟨e1, e2, e3⟩ := evOp_reads hk he
      refine ⟨⟨put t ip.d v, (S m).h⟩, .inl ⟨by rw [hwants]; exact hw, v, (S m).h, 0, ?_, ?_, rfl⟩, htmp v hSt _ ⟨m, hm, rfl, hother (by rw [hk]; simp)⟩⟩
      · show evOp I ip.i t (S m).h = _
        rw [evOp_congr I ip.i _ hods]; exact e3 _ (hreads hk ⟨mm, hu⟩)
      · refine okU_read ((T.uk j ip hj).2.2 hk) hu (s' := ⟨t, (S m).h⟩) ?_ (fun k e h1 h2 => hreads hk ⟨mm, hu⟩ k e h1 h2)
        show od t ip.i.main = _
        by_cases hmm : ip.i.main ∈ ip.i.ods
        · exact hods _ hmm
        · revert hmm
          cases ip.i <;> simp [Ir.main, Ir.ods, od]
  · have hSt : (S (j + 1)).t = put (S j).t ip.d (.tup []) := by rw [hS]
    have hSh : (S (j + 1)).h = (S j).h := by rw [hS]
    refine ⟨⟨put t ip.d (.tup []), (S m).h⟩, .inr ⟨by rw [hwants]; exact hw, rfl⟩, htmp _ hSt _ ?_⟩
    by_cases hk : kindOf ip.i = .acts
    · obtain ⟨e1, e2⟩ := hact hk
      exact ⟨j + 1, by omega, by rw [hSh]; exact e1, e2⟩
    · exact ⟨m, hm, rfl, hother hk⟩

theorem inv_done (tr : ∀ (j : Nat) (ip : Ip), l[j]? = some ip → Stp I md ip (S j) (S (j + 1))) {L : Nat → Prop} {t : List AV} {h : Store} (V : Inv S l L t h) (hall : ∀ i, i < l.length → L i) : t = (S l.length).t ∧ h = (S l.length).h := by
  constructor
  · refine List.ext_getElem? fun x => ?_
    by_cases hex : ∃ (i : Nat) (ip : Ip), l[i]? = some ip ∧ ip.d = some x
    · obtain ⟨i, ip, hi, hd⟩ := hex
      exact V.yes i ip x (hall i (List.getElem?_eq_some_iff.1 hi).1) hi hd
    · rw [V.no x fun i ip _ hi hd => hex ⟨i, ip, hi, hd⟩]
      exact (tr_t tr l.length (by omega) (Nat.le_refl _) fun i ip _ _ hi hd => hex ⟨i, ip, hi, hd⟩).symm
  · obtain ⟨m, hm, rfl, hacts⟩ := V.st
    refine (tr_still tr l.length hm (Nat.le_refl _) fun i ip h1 h2 h3 h4 => ?_).symm
    have := (hacts i ip h3 h4).1 (hall i h2)
    omega
end
end Go.Ab
