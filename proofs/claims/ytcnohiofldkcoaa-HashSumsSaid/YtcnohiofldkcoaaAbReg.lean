/- A region whose order is the text's; what one step of a region is. -/
import Derived.Test.YtcnohiofldkcoaaAbRun
import Derived.Orders
namespace Go.Ab
open Go
set_option linter.unusedSimpArgs false
set_option linter.unusedVariables false

def wants (ip : Ip) (t : List AV) : Option Bool :=
  match ip.g with
  | none => some true
  | some (j, w) => (asBool (t.getD j .bad)).map fun b => decide (b = w)

/-- One step of a region. -/
def Stp (I : Ifc) (ip : Ip) (s s' : St) : Prop :=
  (wants ip s.t = some true ∧ ∃ v h m, evOp I ip.i s.t s.h = some (v, h, m) ∧ (ip.u = true → m = false) ∧ s' = ⟨put s.t ip.d v, h⟩) ∨
  (wants ip s.t = some false ∧ s' = ⟨put s.t ip.d .bad, s.h⟩)

theorem evOps_cons {I : Ifc} {ip : Ip} {r : List Ip} {s s2 : St} (he : evOps I (ip :: r) s = some s2) : ∃ s1, Stp I ip s s1 ∧ evOps I r s1 = some s2 := by
  unfold evOps at he
  split at he
  · rename_i j want hg
    split at he
    · rename_i b hb
      split at he
      · rename_i hbw
        split at he
        · rename_i v h m hev
          split at he
          · cases he
          · rename_i hu
            refine ⟨_, .inl ⟨by simp only [wants, hg, hb, hbw]; simp, v, h, m, hev, ?_, rfl⟩, he⟩
            intro hu'; simpa [hu'] using hu
        · cases he
      · rename_i hbw
        exact ⟨_, .inr ⟨by simp only [wants, hg, hb]; simp [hbw], rfl⟩, he⟩
    · cases he
  · rename_i hg
    split at he
    · rename_i v h m hev
      split at he
      · cases he
      · rename_i hu
        refine ⟨_, .inl ⟨by simp [wants, hg], v, h, m, hev, ?_, rfl⟩, he⟩
        intro hu'; simpa [hu'] using hu
    · cases he

/-- The instructions are the operations'. -/
def Matches (P : Program) (ops : Array Oper) (l : List Ip) : Prop :=
  l.length = ops.size ∧ ∀ (j : Nat) (ip : Ip), l[j]? = some ip → ∃ o, ops[j]? = some o ∧ cmpOp P o = some ip.i ∧ ip.d = o.dst ∧ cmpGuard ops o.guard = some ip.g

theorem cmpIps_some {P : Program} {ops : Array Oper} (r : List Oper) : ∀ {l : List Ip}, cmpIps P ops r = some l → l.length = r.length ∧ ∀ (j : Nat) (ip : Ip), l[j]? = some ip → ∃ o, r[j]? = some o ∧ cmpOp P o = some ip.i ∧ ip.d = o.dst ∧ cmpGuard ops o.guard = some ip.g := by
  induction r with
  | nil => intro l h; cases h; exact ⟨rfl, fun j ip h => by simp at h⟩
  | cons o r ih =>
    intro l h
    unfold cmpIps at h
    split at h
    · rename_i i g l' hi hg hl
      cases h
      obtain ⟨h1, h2⟩ := ih hl
      refine ⟨by simp [h1], fun j ip hj => ?_⟩
      cases j with
      | zero => simp at hj; subst hj; exact ⟨o, by simp, hi, rfl, hg⟩
      | succ j => simp at hj; obtain ⟨o', ho', hh⟩ := h2 j ip hj; exact ⟨o', by simpa using ho', hh⟩
    · cases h

theorem cmpIps_matches {P : Program} {ops : Array Oper} {l : List Ip} (h : cmpIps P ops ops.toList = some l) : Matches P ops l := by
  obtain ⟨h1, h2⟩ := cmpIps_some ops.toList h
  exact ⟨by simpa using h1, fun j ip hj => by obtain ⟨o, ho, hh⟩ := h2 j ip hj; exact ⟨o, by simpa using ho, hh⟩⟩

section
variable {P : Program} {base : Nat} {h : Store} {E : Env} {t : List AV} {a : Act} {I : Ifc} {ops : Array Oper} {l : List Ip}

theorem put_vl (ht : VL E t a.tmps.toList) {E' : Env} (x : Ext E E') {v : AV} {v' : Value} (hv : VL E' [v] [v']) (d : Option Nat) : VL E' (put t d v) (a.put d v').tmps.toList := by
  cases d with
  | none => exact ht.ext x
  | some d => simpa [put, Act.put] using (ht.ext x).set d hv

theorem wants_wanted (ht : VL E t a.tmps.toList) {ip : Ip} {o : Oper} (hg : cmpGuard ops o.guard = some ip.g) {b : Bool} (hw : wants ip t = some b) : Region.wanted o (yielded ops a.tmps) = b := by
  unfold cmpGuard at hg
  unfold Region.wanted
  split at hg
  · rename_i h0; rw [h0]
    simp at hg
    simp [wants, ← hg] at hw
    simp [hw]
  · rename_i j want h0
    rw [h0]
    split at hg
    · rename_i d hd
      simp at hg
      simp only [wants, ← hg] at hw
      obtain ⟨c, hc, hcb⟩ := mapped hw
      have hx := asBool_some hc
      have hv := VL.of_getD ht d
      rw [hx] at hv
      have h1 := hv.sc_inv.1
      have h2 : a.tmps[d]? = some (.bool c) := by
        rw [Array.getD_eq_getD_getElem?] at h1
        cases h3 : a.tmps[d]? with
        | none => rw [h3] at h1; simp [undef] at h1
        | some u => rw [h3] at h1; simpa using h1
      simp only [yielded, hd, Option.bind_some, h2]
      subst hcb
      by_cases hcw : c = want <;> simp [hcw]
    · cases hg

theorem ip_wp {Q : Exit → Act → World → Prop} (hI : I.o = Ops.std) (IH : CallOk P base I) (hF : FnsOk P I) (hP : E.P = P) (R : Rel base h E) (ht : VL E t a.tmps.toList) (M : Matches P ops l) {j : Nat} {ip : Ip} (hj : l[j]? = some ip) {s' : St} (st : Stp I ip ⟨t, h⟩ s')
    {K : Act → World → Prop} (hK : ∀ E' a', Rel base s'.h E' → Step h E s'.h E' → VL E' s'.t a'.tmps.toList → a'.defers = a.defers → K a' E'.w) : wpOp P ops Q j K a E.w := by
  obtain ⟨o, ho, hc, hd, hg⟩ := M.2 j ip hj
  unfold wpOp
  simp only [ho]
  have hdf : ∀ v', (a.put o.dst v').defers = a.defers := fun v' => by cases hdd : o.dst <;> rfl
  rcases st with ⟨hw, v, h', m, hev, _, rfl⟩ | ⟨hw, rfl⟩
  · rw [if_pos (wants_wanted ht hg hw)]
    refine .inl (op_wp hI IH hF R hP ht hc hev fun E' v' R' S' V' => ?_)
    refine hK E' _ R' S' ?_ (hdf _)
    rw [hd]; exact put_vl ht S'.ext V' _
  · rw [if_neg (by rw [wants_wanted ht hg hw]; simp)]
    refine hK E _ R (Step.refl h E) ?_ (hdf _)
    rw [hd]; exact put_vl ht (Ext.refl E) (.bad .nil) _

theorem ops_wp {Q : Exit → Act → World → Prop} (hI : I.o = Ops.std) (IH : CallOk P base I) (hF : FnsOk P I) (M : Matches P ops l) {s2 : St} : ∀ (n k : Nat), n + k = l.length → ∀ (E : Env) (a : Act) (t : List AV) (h : Store), E.P = P → Rel base h E → VL E t a.tmps.toList → evOps I (l.drop k) ⟨t, h⟩ = some s2 →
    (∀ E' a', Rel base s2.h E' → Step h E s2.h E' → VL E' s2.t a'.tmps.toList → a'.defers = a.defers → Q .normal a' E'.w) → wpOps P ops Q (List.range' k n) a E.w := by
  intro n
  induction n with
  | zero =>
    intro k hk E a t h hP R ht he hQ
    rw [List.drop_eq_nil_of_le (by omega)] at he
    simp only [evOps] at he
    cases he
    exact hQ E a R (Step.refl h E) ht rfl
  | succ n ih =>
    intro k hk E a t h hP R ht he hQ
    have hlt : k < l.length := by omega
    rw [List.drop_eq_getElem_cons hlt] at he
    obtain ⟨s1, st, he'⟩ := evOps_cons he
    rw [List.range'_succ, wpOps_cons]
    refine ip_wp hI IH hF hP R ht M (List.getElem?_eq_getElem hlt) st fun E' a' R' S' V' hdf => ?_
    exact ih (k + 1) (by omega) E' a' s1.t s1.h (S'.ext.P.trans hP) R' V' he' fun E2 a2 R2 S2 V2 hd2 => hQ E2 a2 R2 (S'.trans S2 R.lt) V2 (hd2.trans hdf)

theorem region_wp {Q : Exit → Act → World → Prop} {id : Nat} (hI : I.o = Ops.std) (IH : CallOk P base I) (hF : FnsOk P I) (hP : E.P = P) (R : Rel base h E) (ht : VL E t a.tmps.toList) (M : Matches P ops l) {s2 : St} (he : evOps I l ⟨t, h⟩ = some s2)
    (hQ : ∀ E' a', Rel base s2.h E' → Step h E s2.h E' → VL E' s2.t a'.tmps.toList → a'.defers = a.defers → Q .normal a' E'.w) : (Code.region id ops false).wp P Q a E.w := by
  refine wp_region ?_
  rw [List.range_eq_range']
  exact ops_wp hI IH hF M ops.size 0 (by rw [M.1]; rfl) E a t h hP R ht (by simpa using he) hQ
end
end Go.Ab
