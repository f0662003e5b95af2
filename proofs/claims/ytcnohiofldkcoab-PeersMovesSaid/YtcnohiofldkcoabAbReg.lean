/- A region whose order is the text's; what one step of a region is. -/
import Derived.Test.YtcnohiofldkcoabAbRun
import Derived.Orders
namespace Go.Ab
open Go
set_option linter.unusedSimpArgs false
set_option linter.unusedVariables false

def wants (ip : Ip) (t : List AV) : Option Bool :=
  match ip.g with
  | none => some true
  | some (j, w) => gdOk (t.getD j .bad) w

/-- One step of a region. -/
def Stp (I : Ifc) (md : Bool) (ip : Ip) (s s' : St) : Prop :=
  (wants ip s.t = some true ∧ ∃ v h m, evOp I ip.i s.t s.h = some (v, h, m) ∧ okU md ip m s = true ∧ s' = ⟨put s.t ip.d v, h⟩) ∨
  (wants ip s.t = some false ∧ s' = ⟨put s.t ip.d (.tup []), s.h⟩)

theorem evOps_cons {I : Ifc} {md : Bool} {ip : Ip} {r : List Ip} {s s2 : St} (he : evOps I md (ip :: r) s = some s2) : ∃ s1, Stp I md ip s s1 ∧ evOps I md r s1 = some s2 := by
  unfold evOps at he
  split at he
  · rename_i j want hg
    split at he
    · rename_i hb
      split at he
      · rename_i v h m hev
        split at he
        · cases he
        · rename_i hu
          exact ⟨_, .inl ⟨by simp only [wants, hg, hb], v, h, m, hev, hu, rfl⟩, he⟩
      · cases he
    · rename_i hb
      exact ⟨_, .inr ⟨by simp only [wants, hg, hb], rfl⟩, he⟩
    · cases he
  · rename_i hg
    split at he
    · rename_i v h m hev
      split at he
      · cases he
      · rename_i hu
        exact ⟨_, .inl ⟨by simp [wants, hg], v, h, m, hev, hu, rfl⟩, he⟩
    · cases he

/-- The instructions are the operations'. -/
def Matches (P : Program) (ops : Array Oper) (l : List Ip) : Prop :=
  l.length = ops.size ∧ ∀ (j : Nat) (ip : Ip), l[j]? = some ip → ∃ o, ops[j]? = some o ∧ (∃ i0 fz, cmpOp P o = some i0 ∧ ip.i = fzIr fz o.dst i0) ∧ ip.d = o.dst ∧ cmpGuard ops o.guard = some ip.g

theorem cmpIps_some {P : Program} {fz : List Nat} {ops : Array Oper} (r : List Oper) : ∀ {l : List Ip}, cmpIps P fz ops r = some l → l.length = r.length ∧ ∀ (j : Nat) (ip : Ip), l[j]? = some ip → ∃ o, r[j]? = some o ∧ (∃ i0 fz, cmpOp P o = some i0 ∧ ip.i = fzIr fz o.dst i0) ∧ ip.d = o.dst ∧ cmpGuard ops o.guard = some ip.g := by
  induction r with
  | nil => intro l h; cases h; exact ⟨rfl, fun j ip h => by simp at h⟩
  | cons o r ih =>
    intro l h
    unfold cmpIps at h
    split at h
    · rename_i i g l' hi hg hl
      cases h
      obtain ⟨h1, h2⟩ := ih hl
      refine ⟨by simp [h1], fun j ip hj => ?_⟩
      cases j with
      | zero => simp at hj; subst hj; exact ⟨o, by simp, ⟨_, fz, hi, rfl⟩, rfl, hg⟩
      | succ j => simp at hj; obtain ⟨o', ho', hh⟩ := h2 j ip hj; exact ⟨o', by simpa using ho', hh⟩
    · cases h

theorem cmpIps_matches {P : Program} {fz : List Nat} {ops : Array Oper} {l : List Ip} (h : cmpIps P fz ops ops.toList = some l) : Matches P ops l := by
  obtain ⟨h1, h2⟩ := cmpIps_some ops.toList h
  exact ⟨by simpa using h1, fun j ip hj => by obtain ⟨o, ho, hh⟩ := h2 j ip hj; exact ⟨o, by simpa using ho, hh⟩⟩

section
variable {P : Program} {base : Nat} {h : Store} {E : Env} {t : List AV} {a : Act} {I : Ifc} {md : Bool} {ops : Array Oper} {l : List Ip}

theorem put_vl (ht : VL E t a.tmps.toList) {E' : Env} (x : Ext E E') {v : AV} {v' : Value} (hv : VL E' [v] [v']) (d : Option Nat) : VL E' (put t d v) (a.put d v').tmps.toList := by
  cases d with
  | none => exact ht.ext x
  | some d => simpa [put, Act.put] using (ht.ext x).set d hv

theorem wants_wanted (ht : VL E t a.tmps.toList) {ip : Ip} {o : Oper} (hg : cmpGuard ops o.guard = some ip.g) {b : Bool} (hw : wants ip t = some b) : Region.wanted o (yielded ops a.tmps) = b := by
  unfold cmpGuard at hg
  unfold Region.wanted
  split at hg
  · rename_i h0; rw [h0]
    simp at hg
    simp [wants, ← hg] at hw
    simp [hw]
  · rename_i j want h0
    rw [h0]
    split at hg
    · rename_i d hd
      simp at hg
      simp only [wants, ← hg] at hw
      have hv := VL.of_getD ht d
      unfold gdOk at hw
      split at hw
      · rename_i c hx
        rw [hx] at hv
        have h1 := hv.sc_inv.1
        have h2 : a.tmps[d]? = some (.bool c) := by
          rw [Array.getD_eq_getD_getElem?] at h1
          cases h3 : a.tmps[d]? with
          | none => rw [h3] at h1; simp [undef] at h1
          | some u => rw [h3] at h1; simpa using h1
        show (yielded ops a.tmps j == some want) = b
        simp only [yielded, hd, Option.bind_some, h2]
        cases c <;> cases want <;> simp at hw <;> subst hw <;> rfl
      · rename_i hx
        rw [hx] at hv
        obtain ⟨us, h1, h2⟩ := hv.tup_inv
        cases h2
        cases hw
        have : yielded ops a.tmps j = none := by
          simp only [yielded, hd, Option.bind_some]
          rw [Array.getD_eq_getD_getElem?] at h1
          cases h3 : a.tmps[d]? with
          | none => rfl
          | some u =>
            rw [h3] at h1
            simp at h1
            subst h1
            rfl
        show (yielded ops a.tmps j == some want) = false
        rw [this]
        rfl
      · cases hw
    · cases hg

theorem op_wpz {I : Ifc} (hI : I.o = Ops.std) (IH : CallOk P base I) (hPr : PrimsOk P base I) (hF : FnsOk P I) (R : Rel base h E) (hP : E.P = P) (ht : VL E t a.tmps.toList) {o : Oper} {i0 : Ir} {fz : List Nat} (hc : cmpOp P o = some i0) {v : AV} {h' : Store} {m : Nat} (he : evOp I (fzIr fz o.dst i0) t h = some (v, h', m))
    {K : Act → World → Prop} {Q : Exit → Act → World → Prop} (hK : ∀ E' v', Rel base h' E' → Step h E h' E' → VL E' [v] [v'] → K (a.put o.dst v') E'.w) : o.wp P a E.w K Q := by
  unfold fzIr at he
  split at he
  · rename_i f shs args
    have plain : evOp I (.call f shs args) t h = some (v, h', m) → o.wp P a E.w K Q := fun he => op_wp hI IH hPr hF R hP ht hc he hK
    split at he
    · split at he
      · simp only [evOp, hI] at he
        split at he
        · rename_i v0 h1 m0 hcall
          split at he
          · rename_i v' hv'
            cases he
            refine op_wp hI IH hPr hF R hP ht hc (v := v0) (h' := h1) (m := m0) (by simp only [evOp]; exact hcall) (fun E' u R' S' V' => ?_)
            obtain ⟨R1, S1⟩ := shut_rel R' (refs1 v0)
            exact hK (shutEnv E' h1 (refs1 v0)) u R1 (S'.trans S1 R.lt) (.data (lendV_dl (L := LentK E' h1 (refs1 v0)) R' v0 hv' V' (fun b hb => hb)) .nil)
          · cases he
        · cases he
      · exact plain he
    · exact plain he
  · rename_i e0
    have plain : evOp I (.mov (.c (.lit e0 true []))) t h = some (v, h', m) → o.wp P a E.w K Q := fun he => op_wp hI IH hPr hF R hP ht hc he hK
    split at he
    · split at he
      · rename_i e _
        simp only [evOp] at he
        cases he
        refine op_wp hI IH hPr hF R hP ht hc (v := .lit e0 true []) (h' := h) (m := 0) (by simp only [evOp, od]) (fun E' u R' S' V' => ?_)
        obtain ⟨aa, cap, _, hu, hcap, _, hfull, _⟩ := V'.lit_inv.lit_inv
        have h0 : cap = 0 := hfull rfl
        subst hu
        subst h0
        obtain ⟨E2, hw, R2, S2, V2⟩ := row_fresh (base := base) R' (e := e) (w' := E'.w) (v' := .slice aa 0 0) (xs' := []) (vals' := []) rfl rfl rfl (Nat.le_refl _) (fun _ _ => rfl) (fun b hb => by cases aa <;> simp [rowBlk] at hb) ⟨by simp, .inl ⟨rfl, aa, rfl⟩⟩ rfl (fun y hy => by cases hy) (fun y hy => by cases hy) .nil
        rw [← hw]
        exact hK E2 _ R2 (S'.trans S2 R.lt) V2
      · exact plain he
    · exact plain he
  · exact op_wp hI IH hPr hF R hP ht hc he hK

theorem ip_wp {Q : Exit → Act → World → Prop} (hI : I.o = Ops.std) (IH : CallOk P base I) (hPr : PrimsOk P base I) (hF : FnsOk P I) (hP : E.P = P) (R : Rel base h E) (ht : VL E t a.tmps.toList) (M : Matches P ops l) {j : Nat} {ip : Ip} (hj : l[j]? = some ip) {s' : St} (st : Stp I md ip ⟨t, h⟩ s')
    {K : Act → World → Prop} (hK : ∀ E' a', Rel base s'.h E' → Step h E s'.h E' → VL E' s'.t a'.tmps.toList → a'.defers = a.defers → K a' E'.w) : wpOp P ops Q j K a E.w := by
  obtain ⟨o, ho, ⟨i0, fz, hc, hfz⟩, hd, hg⟩ := M.2 j ip hj
  unfold wpOp
  simp only [ho]
  have hdf : ∀ v', (a.put o.dst v').defers = a.defers := fun v' => by cases hdd : o.dst <;> rfl
  rcases st with ⟨hw, v, h', m, hev, _, rfl⟩ | ⟨hw, rfl⟩
  · rw [if_pos (wants_wanted ht hg hw)]
    rw [hfz] at hev
    refine .inl (op_wpz hI IH hPr hF R hP ht hc hev fun E' v' R' S' V' => ?_)
    refine hK E' _ R' S' ?_ (hdf _)
    rw [hd]; exact put_vl ht S'.ext V' _
  · rw [if_neg (by rw [wants_wanted ht hg hw]; simp)]
    refine hK E _ R (Step.refl h E) ?_ (hdf _)
    rw [hd]; exact put_vl ht (Ext.refl E) (.tup .nil .nil) _

theorem ops_wp {Q : Exit → Act → World → Prop} (hI : I.o = Ops.std) (IH : CallOk P base I) (hPr : PrimsOk P base I) (hF : FnsOk P I) (M : Matches P ops l) {s2 : St} : ∀ (n k : Nat), n + k = l.length → ∀ (E : Env) (a : Act) (t : List AV) (h : Store), E.P = P → Rel base h E → VL E t a.tmps.toList → evOps I md (l.drop k) ⟨t, h⟩ = some s2 →
    (∀ E' a', Rel base s2.h E' → Step h E s2.h E' → VL E' s2.t a'.tmps.toList → a'.defers = a.defers → Q .normal a' E'.w) → wpOps P ops Q (List.range' k n) a E.w := by
  intro n
  induction n with
  | zero =>
    intro k hk E a t h hP R ht he hQ
    rw [List.drop_eq_nil_of_le (by omega)] at he
    simp only [evOps] at he
    cases he
    exact hQ E a R (Step.refl h E) ht rfl
  | succ n ih =>
    intro k hk E a t h hP R ht he hQ
    have hlt : k < l.length := by omega
    rw [List.drop_eq_getElem_cons hlt] at he
    obtain ⟨s1, st, he'⟩ := evOps_cons he
    rw [List.range'_succ, wpOps_cons]
    refine ip_wp hI IH hPr hF hP R ht M (List.getElem?_eq_getElem hlt) st fun E' a' R' S' V' hdf => ?_
    exact ih (k + 1) (by omega) E' a' s1.t s1.h (S'.ext.P.trans hP) R' V' he' fun E2 a2 R2 S2 V2 hd2 => hQ E2 a2 R2 (S'.trans S2 R.lt) V2 (hd2.trans hdf)

theorem region_wp {Q : Exit → Act → World → Prop} {id : Nat} (hI : I.o = Ops.std) (IH : CallOk P base I) (hPr : PrimsOk P base I) (hF : FnsOk P I) (hP : E.P = P) (R : Rel base h E) (ht : VL E t a.tmps.toList) (M : Matches P ops l) {s2 : St} (he : evOps I md l ⟨t, h⟩ = some s2)
    (hQ : ∀ E' a', Rel base s2.h E' → Step h E s2.h E' → VL E' s2.t a'.tmps.toList → a'.defers = a.defers → Q .normal a' E'.w) : (Code.region id ops false).wp P Q a E.w := by
  refine wp_region ?_
  rw [List.range_eq_range']
  exact ops_wp hI IH hPr hF M ops.size 0 (by rw [M.1]; rfl) E a t h hP R ht (by simpa using he) hQ
end
end Go.Ab
