/- A region whose order is drawn: the rule. -/
import Derived.Test.YtcnohiofldkcoabAbDraw3
namespace Go.Ab
open Go
set_option linter.unusedSimpArgs false
set_option linter.unusedVariables false

theorem befVal_has {acc : Array Nat} {o : Oper} {e : Edge} (he : e ∈ o.after) (hb : Region.binds .any e = true) : (befVal acc o).testBit e.on = true := by
  have keep : ∀ (l : List Edge) (s i : Nat), s.testBit i = true → (l.foldl (fun s e => if Region.binds .any e then s ||| 2 ^ e.on ||| acc.getD e.on 0 else s) s).testBit i = true := by
    intro l
    induction l with
    | nil => intro s i h; exact h
    | cons x l ih =>
      intro s i h
      simp only [List.foldl_cons]
      refine ih _ _ ?_
      split
      · simp [Nat.testBit_or, h]
      · exact h
  have key : ∀ (l : List Edge) (s : Nat), e ∈ l → (l.foldl (fun s e => if Region.binds .any e then s ||| 2 ^ e.on ||| acc.getD e.on 0 else s) s).testBit e.on = true := by
    intro l
    induction l with
    | nil => intro s h; simp at h
    | cons x l ih =>
      intro s h
      simp only [List.foldl_cons]
      rcases List.mem_cons.1 h with rfl | h
      · refine keep l _ _ ?_
        rw [if_pos hb]
        simp [Nat.testBit_or, Nat.testBit_two_pow]
      · exact ih _ h
  unfold befVal
  rw [← Array.foldl_toList]
  exact key _ _ (by simpa using he)

theorem before_has {ops : Array Oper} {j : Nat} {o : Oper} (ho : ops[j]? = some o) {e : Edge} (he : e ∈ o.after) (hb : Region.binds .any e = true) : ((Region.before ops).getD j 0).testBit e.on = true := by
  have hbe : Region.before ops = ops.toList.foldl (fun acc o => acc.push (befVal acc o)) #[] := by
    unfold Region.before
    rw [← Array.foldl_toList]
    rfl
  obtain ⟨h1, h2, h3⟩ := before_go ops.toList #[]
  obtain ⟨acc', a1, a2, a3⟩ := h3 j o (by simpa using ho)
  rw [← hbe] at a2
  simp only [Array.size_empty, Nat.zero_add] at a2
  rw [a2]
  exact befVal_has he hb

section
variable {P : Program} {base : Nat} {I : Ifc} {md : Bool} {ops : Array Oper} {l : List Ip} {S : Nat → St}

theorem key_lt {E : Env} {h : Store} (R : Rel base h E) {t : List AV} {vs : List Value} (ht : VL E t vs) {i : Ir} (hm : i.mainOk = true) {k : Nat} (hk : (od t i.main).key = some k) : k < h.length := by
  unfold Ir.mainOk at hm
  split at hm
  · rename_i n hn
    rw [hn] at hk
    simp only [od] at hk
    rw [← R.n]
    by_cases hlt : n < t.length
    · obtain ⟨v, _, hv⟩ := ht.get n hlt
      rw [show t.getD n .bad = t[n] by simp [hlt]] at hk
      generalize t[n] = y at hv hk
      cases hv with
      | data h _ => cases h <;> simp [AV.key] at hk
      | sl h1 => simp [AV.key] at hk; subst hk; exact h1
      | sub h1 => simp [AV.key] at hk; subst hk; exact h1
      | bptr h1 => simp [AV.key] at hk; subst hk; exact h1
      | rptr h1 => simp [AV.key] at hk; subst hk; exact h1
      | _ => simp [AV.key] at hk
    · rw [show t.getD n .bad = .bad by simp [Nat.le_of_not_lt hlt]] at hk
      simp [AV.key] at hk
  · rename_i v hv
    rw [hv] at hk
    simp only [od] at hk
    rw [hk] at hm
    simp at hm

theorem any_wp {Q : Exit → Act → World → Prop} (hI : I.o = Ops.std) (IH : CallOk P base I) (hPr : PrimsOk P base I) (hF : FnsOk P I) (M : Matches P ops l) (T : Tab (Region.before ops) l) (tr : ∀ (j : Nat) (ip : Ip), l[j]? = some ip → Stp I md ip (S j) (S (j + 1))) :
    ∀ (fuel : Nat) (listed : Array Bool) (E : Env) (a : Act) (t : List AV) (h : Store), listed.size = ops.size → listed.toList.count false ≤ fuel → E.P = P → Rel base h E → VL E t a.tmps.toList →
      Inv S l (fun i => listed.getD i false = true) t h → (∀ j i, listed.getD j false = true → ((Region.before ops).getD j 0).testBit i = true → listed.getD i false = true) →
      (∀ E' a', Rel base (S l.length).h E' → Step h E (S l.length).h E' → VL E' (S l.length).t a'.tmps.toList → a'.defers = a.defers → Q .normal a' E'.w) → wpAny P .any ops Q fuel listed a E.w := by
  have hdone : ∀ (listed : Array Bool), listed.size = ops.size → Region.ready .any ops listed = [] → ∀ i, i < ops.size → listed.getD i false = true := by
    intro listed hs hr i
    induction i using Nat.strongRecOn with
    | ind i ih =>
      intro hi
      cases hl : listed.getD i false with
      | true => rfl
      | false =>
        exfalso
        have hi' : i < listed.size := by omega
        have hmem : i ∈ Region.ready .any ops listed := by
          refine mem_ready.2 ⟨by simpa [hi'] using hl, ops[i], Array.getElem?_eq_getElem hi, fun e he hb => ?_⟩
          have hbit := before_has (Array.getElem?_eq_getElem hi) he hb
          have hlen : i < l.length := by rw [M.1]; exact hi
          have hlow := T.low i _ (List.getElem?_eq_getElem hlen)
          have hlt : e.on < i := by
            refine Nat.lt_of_not_le fun hge => ?_
            have h6 : 2 ^ i ≤ 2 ^ e.on := Nat.pow_le_pow_right (by omega) hge
            rw [Nat.testBit_lt_two_pow (by omega)] at hbit
            cases hbit
          exact ih e.on hlt (by omega)
        rw [hr] at hmem
        cases hmem
  intro fuel
  induction fuel with
  | zero =>
    intro listed E a t h hs hc hP R ht V C hQ
    have hr : Region.ready .any ops listed = [] := by
      refine List.eq_nil_iff_forall_not_mem.2 fun j hj => ?_
      obtain ⟨h1, o, ho, _⟩ := mem_ready.1 hj
      have hjs : j < listed.size := by rw [hs]; exact (Array.getElem?_eq_some_iff.1 ho).1
      have h2 : listed[j] = false := by simpa [hjs] using h1
      have h3 : false ∈ listed.toList := by rw [← h2]; simp
      have := List.count_pos_iff.2 h3
      omega
    refine ⟨hr, ?_⟩
    obtain ⟨rfl, rfl⟩ := inv_done tr V fun i hi => hdone listed hs hr i (by rw [← M.1]; exact hi)
    exact hQ E a R (Step.refl _ E) ht rfl
  | succ fuel ih =>
    intro listed E a t h hs hc hP R ht V C hQ
    refine ⟨fun hr => ?_, fun j hj => ?_⟩
    · obtain ⟨rfl, rfl⟩ := inv_done tr V fun i hi => hdone listed hs hr i (by rw [← M.1]; exact hi)
      exact hQ E a R (Step.refl _ E) ht rfl
    · obtain ⟨h1, o, ho, hall⟩ := mem_ready.1 hj
      have hjo : j < ops.size := (Array.getElem?_eq_some_iff.1 ho).1
      have hjs : j < listed.size := by omega
      have hjl : j < l.length := by rw [M.1]; exact hjo
      have h2 : listed[j] = false := by simpa [hjs] using h1
      have hip := List.getElem?_eq_getElem hjl
      have hready : ∀ i, ((Region.before ops).getD j 0).testBit i = true → listed.getD i false = true := fun i hb => by
        obtain ⟨e, he, hbd, hh⟩ := before_bit ho hb
        rcases hh with rfl | hh
        · exact hall e he hbd
        · exact C e.on i (hall e he hbd) hh
      obtain ⟨s', st, V'⟩ := inv_step tr T V C hip (by simp [hjs, h2]) hready (fun k hk => key_lt R ht (T.main j _ hip) hk)
      refine ip_wp hI IH hPr hF hP R ht M hip st fun E' a' R' S' W' hdf => ?_
      have hset : ∀ i, (listed.setIfInBounds j true).getD i false = true ↔ (listed.getD i false = true ∨ i = j) := fun i => by
        by_cases hij : j = i
        · subst hij; simp [hjs]
        · rw [getD_set_ne false hij]; constructor
          · exact .inl
          · rintro (h | h)
            · exact h
            · exact absurd h.symm hij
      refine ih _ E' a' s'.t s'.h (by simp [hs]) ?_ (S'.ext.P.trans hP) R' W' ?_ ?_ fun E2 a2 R2 S2 V2 hd2 => hQ E2 a2 R2 (S'.trans S2 R.lt) V2 (hd2.trans hdf)
      · have : (listed.setIfInBounds j true).toList.count false = listed.toList.count false - 1 := by
          rw [Array.toList_setIfInBounds, List.count_set (by simpa using hjs)]
          simp [h2]
        have h3 : false ∈ listed.toList := by rw [← h2]; simp
        have := List.count_pos_iff.2 h3
        omega
      · have e : (fun i => (listed.setIfInBounds j true).getD i false = true) = (fun i => listed.getD i false = true ∨ i = j) := funext fun i => propext (hset i)
        rw [e]; exact V'
      · intro k i hk hb
        rw [hset] at hk ⊢
        rcases hk with hk | rfl
        · exact .inl (C k i hk hb)
        · exact .inl (hready i hb)

theorem draw_wp {E : Env} {h : Store} {t : List AV} {a : Act} {Q : Exit → Act → World → Prop} {id : Nat} (hm : P.follows .mixedOrders = true) (hI : I.o = Ops.std) (IH : CallOk P base I) (hPr : PrimsOk P base I) (hF : FnsOk P I) (hP : E.P = P) (R : Rel base h E) (ht : VL E t a.tmps.toList) (M : Matches P ops l) (T : Tab (Region.before ops) l) {s2 : St} (he : evOps I md l ⟨t, h⟩ = some s2)
    (hQ : ∀ E' a', Rel base s2.h E' → Step h E s2.h E' → VL E' s2.t a'.tmps.toList → a'.defers = a.defers → Q .normal a' E'.w) : (Code.region id ops true).wp P Q a E.w := by
  obtain ⟨S, e1, e2, tr⟩ := trace l he
  subst e2
  obtain ⟨R1, S1⟩ := drew_free R
  have V1 : VL { E with w := E.w.drew } t a.tmps.toList := ht.ext S1.ext
  refine wp_region_any hm ?_
  refine any_wp (E := { E with w := E.w.drew }) hI IH hPr hF M T tr ops.size (Array.replicate ops.size false) a t h (by simp) (by simp [List.count_replicate]) hP R1 V1 ?_ ?_ fun E' a' R' S' V' hd => hQ E' a' R' (S1.trans S' R.lt) V' hd
  · refine ⟨by rw [e1], fun i ip x hL => ?_, fun x _ => by rw [e1], ⟨0, by omega, by rw [e1], fun i ip hi hk => ?_⟩⟩
    · exfalso
      by_cases hi : i < ops.size <;> simp [hi] at hL
    · by_cases hi : i < ops.size <;> simp [hi]
  · intro j i hL
    exfalso
    by_cases hi : j < ops.size <;> simp [hi] at hL
end
end Go.Ab
