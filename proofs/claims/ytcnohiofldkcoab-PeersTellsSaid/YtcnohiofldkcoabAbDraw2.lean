/- A region whose order is drawn: whichever order comes up, it comes to what the text's order comes to. -/
import Derived.Test.YtcnohiofldkcoabAbDraw
namespace Go.Ab
open Go
set_option linter.unusedSimpArgs false
set_option linter.unusedVariables false

theorem trace {I : Ifc} {md : Bool} (l : List Ip) : ∀ {s0 sn : St}, evOps I md l s0 = some sn → ∃ S : Nat → St, S 0 = s0 ∧ S l.length = sn ∧ ∀ (j : Nat) (ip : Ip), l[j]? = some ip → Stp I md ip (S j) (S (j + 1)) := by
  induction l with
  | nil => intro s0 sn h; simp only [evOps] at h; cases h; exact ⟨fun _ => s0, rfl, rfl, fun j ip h => by simp at h⟩
  | cons ip r ih =>
    intro s0 sn h
    obtain ⟨s1, st, h1⟩ := evOps_cons h
    obtain ⟨S, h2, h3, h4⟩ := ih h1
    refine ⟨fun | 0 => s0 | n + 1 => S n, rfl, h3, fun j ip' hj => ?_⟩
    cases j with
    | zero => simp at hj; subst hj; show Stp I md ip s0 (S 0); rw [h2]; exact st
    | succ j => simp at hj; exact h4 j ip' hj

/-- What a region's tables must tell. -/
structure Tab (b : Array Nat) (l : List Ip) : Prop where
  low : ∀ (j : Nat) (y : Ip), l[j]? = some y → b.getD j 0 < 2 ^ j
  main : ∀ (j : Nat) (y : Ip), l[j]? = some y → y.i.mainOk = true
  pair : ∀ (i j : Nat) (x y : Ip), i < j → l[i]? = some x → l[j]? = some y → (x.d = none ∨ x.d ≠ y.d) ∧ ((b.getD j 0).testBit i = true ∨ (apartIp x y = true ∧ ¬ (kindOf x.i = .acts ∧ kindOf y.i = .acts)))
  uk : ∀ (j : Nat) (y : Ip), l[j]? = some y → (kindOf y.i = .acts → y.u ≤ 1) ∧ (kindOf y.i = .pure → y.u = 0) ∧ (kindOf y.i = .reads → y.u = 0 ∨ y.u = 2)
  u : ∀ (i j : Nat) (x y : Ip), l[i]? = some x → l[j]? = some y → i ≠ j → kindOf x.i = .acts → kindOf y.i = .reads → (b.getD j 0).testBit i = false → (b.getD i 0).testBit j = false → x.u = 1 ∧ y.u = 2

theorem drawOk_spec {b : Array Nat} {ips : List Ip} (h : drawOk b ips = true) : Tab b (markU b ips) := by
  have hm : ∀ (j : Nat) (y : Ip), (markU b ips)[j]? = some y → ∃ y0, ips[j]? = some y0 ∧ y.d = y0.d ∧ y.i = y0.i ∧ y.g = y0.g ∧ y.u = (match kindOf y0.i with
    | .acts => if ips.zipIdx.any (fun (z, k) => decide (kindOf z.i = .reads) && looseIp b j k) then 1 else 0
    | .reads => if ips.zipIdx.any (fun (z, k) => decide (kindOf z.i = .acts) && looseIp b j k) then 2 else 0
    | .pure => 0) := by
    intro j y hy
    unfold markU at hy
    simp only [List.getElem?_map, Option.map_eq_some_iff] at hy
    obtain ⟨⟨y0, k⟩, hz, rfl⟩ := hy
    have hz' : ∃ a, ips[j]? = some a ∧ a = y0 ∧ j = k := by simpa [List.getElem?_zipIdx] using hz
    obtain ⟨y1, h1, e1, e2⟩ := hz'; subst e2; rw [e1] at h1
    exact ⟨y0, h1, rfl, rfl, rfl, rfl⟩
  have mz : ∀ {j : Nat} {y : Ip}, ips[j]? = some y → (y, j) ∈ ips.zipIdx := fun hj => List.mem_zipIdx_iff_getElem?.2 (by simpa using hj)
  unfold drawOk at h
  rw [List.all_eq_true] at h
  have h1 : ∀ {j : Nat} {y : Ip}, ips[j]? = some y → b.getD j 0 < 2 ^ j ∧ y.i.mainOk = true ∧ ∀ {i : Nat} {x : Ip}, ips[i]? = some x → i < j → (x.d = none ∨ x.d ≠ y.d) ∧ ((b.getD j 0).testBit i = true ∨ (apartIp x y = true ∧ ¬ (kindOf x.i = .acts ∧ kindOf y.i = .acts))) := by
    intro j y hj
    have h2 := h (y, j) (mz hj)
    simp only [Bool.and_eq_true, decide_eq_true_eq, List.all_eq_true] at h2
    refine ⟨h2.1.1, h2.1.2, fun {i x} hi hij => ?_⟩
    have h3 := h2.2 (x, i) (mz hi)
    simp only [hij, Bool.or_eq_true, Bool.and_eq_true] at h3
    rcases h3 with h3 | ⟨h3, h4⟩
    · simp at h3
    · refine ⟨h3.imp (by simp) (by simp), h4.imp id fun h5 => ⟨h5.1, ?_⟩⟩
      have := h5.2
      simp only [Bool.not_eq_true', Bool.and_eq_false_iff, decide_eq_false_iff_not] at this
      intro hh; exact this.elim (fun f => f hh.1) (fun f => f hh.2)
  refine ⟨fun j y hy => ?_, fun j y hy => ?_, fun i j x y hij hx hy => ?_, fun j y hy => ?_, fun i j x y hx hy hne hkx hky hb1 hb2 => ?_⟩
  · obtain ⟨y0, h0, _⟩ := hm j y hy; exact (h1 h0).1
  · obtain ⟨y0, h0, _, e, _⟩ := hm j y hy; rw [e]; exact (h1 h0).2.1
  · obtain ⟨x0, hx0, xd, xi, xg, _⟩ := hm i x hx
    obtain ⟨y0, hy0, yd, yi, yg, _⟩ := hm j y hy
    have := (h1 hy0).2.2 hx0 hij
    rw [xd, yd, xi, yi]
    have hap : apartIp x y = apartIp x0 y0 := by simp only [apartIp, Ip.sees, xd, yd, xi, yi, xg, yg]
    rw [hap]; exact this
  · obtain ⟨y0, h0, _, e, _, hu⟩ := hm j y hy
    rw [e, hu]
    cases hk : kindOf y0.i with
    | pure => exact ⟨(fun h => by cases h), fun _ => rfl, (fun h => by cases h)⟩
    | reads => exact ⟨(fun h => by cases h), (fun h => by cases h), fun _ => by simp only []; split <;> simp⟩
    | acts => exact ⟨fun _ => by simp only []; split <;> simp, (fun h => by cases h), (fun h => by cases h)⟩
  · obtain ⟨x0, hx0, xd, xi, xg, xu⟩ := hm i x hx
    obtain ⟨y0, hy0, yd, yi, yg, _⟩ := hm j y hy
    rw [xi] at hkx; rw [yi] at hky
    rw [xu, hkx]
    have hyu : y.u = (match kindOf y0.i with
      | .acts => if ips.zipIdx.any (fun (z, k) => decide (kindOf z.i = .reads) && looseIp b j k) then 1 else 0
      | .reads => if ips.zipIdx.any (fun (z, k) => decide (kindOf z.i = .acts) && looseIp b j k) then 2 else 0
      | .pure => 0) := by
      obtain ⟨y1, hy1, _, _, _, yu⟩ := hm j y hy
      rw [hy0] at hy1; cases hy1; exact yu
    rw [hyu, hky]
    refine ⟨if_pos ?_, if_pos ?_⟩
    · rw [List.any_eq_true]
      refine ⟨(y0, j), mz hy0, ?_⟩
      show (decide (kindOf y0.i = .reads) && looseIp b i j) = true
      unfold looseIp
      simp only [hky, hb1, hb2]; simp [hne]
    · rw [List.any_eq_true]
      refine ⟨(x0, i), mz hx0, ?_⟩
      show (decide (kindOf x0.i = .acts) && looseIp b j i) = true
      unfold looseIp
      simp only [hkx, hb1, hb2]; simp [Ne.symm hne]

theorem markU_matches {P : Program} {ops : Array Oper} {b : Array Nat} {l : List Ip} (h : Matches P ops l) : Matches P ops (markU b l) := by
  refine ⟨by simpa [markU] using h.1, fun j ip hj => ?_⟩
  unfold markU at hj
  simp only [List.getElem?_map, Option.map_eq_some_iff] at hj
  obtain ⟨⟨y0, k⟩, hz, rfl⟩ := hj
  have hz' : ∃ a, l[j]? = some a ∧ a = y0 ∧ j = k := by simpa [List.getElem?_zipIdx] using hz
  obtain ⟨y1, h1, e1, e2⟩ := hz'; subst e2; rw [e1] at h1
  obtain ⟨o, ho, hc, hd, hg⟩ := h.2 j y0 h1
  exact ⟨o, ho, hc, hd, hg⟩

/-! What 'Region.before' tells. -/

def befVal (acc : Array Nat) (o : Oper) : Nat := o.after.foldl (fun s e => if Region.binds .any e then s ||| 2 ^ e.on ||| acc.getD e.on 0 else s) 0

theorem before_go (l : List Oper) : ∀ (acc : Array Nat), (l.foldl (fun acc o => acc.push (befVal acc o)) acc).size = acc.size + l.length ∧
    (∀ j, j < acc.size → (l.foldl (fun acc o => acc.push (befVal acc o)) acc).getD j 0 = acc.getD j 0) ∧
    ∀ k o, l[k]? = some o → ∃ acc' : Array Nat, acc'.size = acc.size + k ∧ (l.foldl (fun acc o => acc.push (befVal acc o)) acc).getD (acc.size + k) 0 = befVal acc' o ∧
      ∀ j, j < acc'.size → acc'.getD j 0 = (l.foldl (fun acc o => acc.push (befVal acc o)) acc).getD j 0 := by
  induction l with
  | nil => intro acc; exact ⟨rfl, fun _ _ => rfl, fun k o h => by simp at h⟩
  | cons x l ih =>
    intro acc
    obtain ⟨h1, h2, h3⟩ := ih (acc.push (befVal acc x))
    have keep : ∀ j, j < acc.size → (acc.push (befVal acc x)).getD j 0 = acc.getD j 0 := fun j hj => by
      simp [Array.getElem?_push, Nat.ne_of_lt hj]
    refine ⟨by simp only [List.foldl_cons, List.length_cons]; rw [h1]; simp; omega, fun j hj => ?_, fun k o hk => ?_⟩
    · simp only [List.foldl_cons]; rw [h2 j (by simp; omega), keep j hj]
    · cases k with
      | zero =>
        simp at hk; subst hk
        refine ⟨acc, rfl, ?_, fun j hj => ?_⟩
        · simp only [List.foldl_cons, Nat.add_zero]; rw [h2 acc.size (by simp)]; simp
        · simp only [List.foldl_cons]; rw [h2 j (by simp; omega), keep j hj]
      | succ k =>
        simp at hk
        obtain ⟨acc', a1, a2, a3⟩ := h3 k o hk
        simp only [Array.size_push] at a1 a2
        refine ⟨acc', by omega, ?_, a3⟩
        simp only [List.foldl_cons]
        rw [show acc.size + (k + 1) = acc.size + 1 + k by omega]; exact a2

theorem befVal_bit {acc : Array Nat} {o : Oper} {i : Nat} (h : (befVal acc o).testBit i = true) : ∃ e, e ∈ o.after ∧ Region.binds .any e = true ∧ (i = e.on ∨ (acc.getD e.on 0).testBit i = true) := by
  have key : ∀ (l : List Edge) (s : Nat), (l.foldl (fun s e => if Region.binds .any e then s ||| 2 ^ e.on ||| acc.getD e.on 0 else s) s).testBit i = true → s.testBit i = true ∨ ∃ e, e ∈ l ∧ Region.binds .any e = true ∧ (i = e.on ∨ (acc.getD e.on 0).testBit i = true) := by
    intro l
    induction l with
    | nil => intro s h; exact .inl h
    | cons e l ih =>
      intro s h
      simp only [List.foldl_cons] at h
      rcases ih _ h with h1 | ⟨e', he', hb, hh⟩
      · split at h1
        · rename_i hb
          simp only [Nat.testBit_or, Bool.or_eq_true, Nat.testBit_two_pow, decide_eq_true_eq] at h1
          rcases h1 with (h1 | h1) | h1
          · exact .inl h1
          · exact .inr ⟨e, by simp, hb, .inl h1.symm⟩
          · exact .inr ⟨e, by simp, hb, .inr h1⟩
        · exact .inl h1
      · exact .inr ⟨e', by simp [he'], hb, hh⟩
  unfold befVal at h
  rw [← Array.foldl_toList] at h
  rcases key _ _ h with h | ⟨e, he, hb, hh⟩
  · simp at h
  · exact ⟨e, by simpa using he, hb, hh⟩

theorem before_bit {ops : Array Oper} {j i : Nat} {o : Oper} (ho : ops[j]? = some o) (h : ((Region.before ops).getD j 0).testBit i = true) :
    ∃ e, e ∈ o.after ∧ Region.binds .any e = true ∧ (i = e.on ∨ ((Region.before ops).getD e.on 0).testBit i = true) := by
  have hb : Region.before ops = ops.toList.foldl (fun acc o => acc.push (befVal acc o)) #[] := by
    unfold Region.before
    rw [← Array.foldl_toList]
    rfl
  obtain ⟨h1, h2, h3⟩ := before_go ops.toList #[]
  obtain ⟨acc', a1, a2, a3⟩ := h3 j o (by simpa using ho)
  rw [← hb] at a2 a3
  simp only [Array.size_empty, Nat.zero_add] at a1 a2
  rw [a2] at h
  obtain ⟨e, he, hbd, hh⟩ := befVal_bit h
  refine ⟨e, he, hbd, hh.imp id fun hh => ?_⟩
  by_cases hlt : e.on < acc'.size
  · rw [a3 _ hlt] at hh; exact hh
  · rw [Array.getD_eq_getD_getElem?, Array.getElem?_eq_none (by omega)] at hh; simp at hh
end Go.Ab
