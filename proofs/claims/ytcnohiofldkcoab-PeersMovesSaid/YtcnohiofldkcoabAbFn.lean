/- A function: what the interpreter comes to is what a call comes to. -/
import Derived.Test.YtcnohiofldkcoabAbExec
namespace Go.Ab
open Go
set_option linter.unusedSimpArgs false
set_option linter.unusedVariables false

theorem load_ptr {base : Nat} {h : Store} {E : Env} (R : Rel base h E) {o : Ops} {ag : Bool} {n : Nat} {p v : AV} {pv : Value} (hp : VL E [p] [pv]) (hl : loadAt o h ag n p = some v) : ∃ A, pv = .pointer (some A) := by
  cases p with
  | bptr b off => obtain ⟨_, rfl⟩ := hp.bptr_inv; exact ⟨_, rfl⟩
  | rptr k g i off =>
    simp only [loadAt] at hl
    split at hl
    · rename_i hr
      obtain ⟨_, _, h1⟩ := hp.rptr_inv
      obtain ⟨hgen, _⟩ := row_reads R hr
      obtain ⟨b, _, rfl⟩ := h1 hgen
      exact ⟨_, rfl⟩
    · cases hl
  | lptr e xs i off => obtain ⟨b, o, vals, _, _, _, rfl⟩ := hp.lptr_inv; exact ⟨_, rfl⟩
  | _ => simp only [loadAt] at hl; cases hl

def resOne (tmps : Array Value) : ResultVar → Sem Value
  | .tmp t => pure (tmps.getD t undef)
  | .cell a t => do loadVar t (← asAddr (tmps.getD a undef))

theorem results_run {P : Program} {base : Nat} {h : Store} {E : Env} (R : Rel base h E) (hP : E.P = P) {t : List AV} {tmps : Array Value} (V : VL E t tmps.toList) (rl : List ResultVar) : ∀ {rs : List Rs} {avs : List AV}, cmpRs P rl = some rs → Go.Ab.results Ops.std ⟨t, h⟩ rs = some avs →
    ∃ us, (rl.mapM (resOne tmps)).run P E.w = Result.ok us E.w ∧ VL E avs us := by
  induction rl with
  | nil => intro rs avs hc hr; cases hc; simp only [Go.Ab.results] at hr; cases hr; exact ⟨[], by simp, .nil⟩
  | cons x rl ih =>
    intro rs avs hc hr
    cases x with
    | tmp n =>
      simp only [cmpRs] at hc
      obtain ⟨rs', hrs, rfl⟩ := mapped hc
      simp only [Go.Ab.results] at hr
      split at hr
      · rename_i l hl
        cases hr
        obtain ⟨us, h1, h2⟩ := ih hrs hl
        exact ⟨tmps.getD n undef :: us, by simp [List.mapM_cons, h1, resOne], (VL.of_getD V n).cons h2⟩
      · cases hr
    | cell a ty =>
      simp only [cmpRs] at hc
      split at hc
      · rename_i ag rs' hag hrs
        split at hc
        · rename_i hi
          cases hc
          simp only [Go.Ab.results] at hr
          split at hr
          · rename_i v l hv hl
            cases hr
            obtain ⟨us, h1, h2⟩ := ih hrs hl
            have hav := VL.of_getD V a
            obtain ⟨A, hA⟩ := load_ptr R hav hv
            obtain ⟨v', h3, h4⟩ := load_sound R hP hag hi hav hv
            rw [hA] at h3
            have h5 : (loadVar ty A).run P E.w = .ok v' E.w := by simpa [Instr.loadAt, Instr.sureAddr] using h3
            refine ⟨v' :: us, ?_, h4.cons h2⟩
            rw [Array.getD_eq_getD_getElem?] at hA
            simp [List.mapM_cons, h1, resOne, hA, asAddr, h5]
          · cases hr
        · cases hc
      · cases hc

theorem outer_some (n : Nat) : ∀ {h s : Store}, outer n h = some s → s.length = n ∧ n ≤ h.length ∧ ∀ k, k < n → s[k]? = h[k]? ∧ ∃ t cs, h[k]? = some (Ent.box t cs) ∧ cs.all isSc = true := by
  induction n with
  | zero => intro h s he; simp only [outer] at he; cases he; exact ⟨rfl, Nat.zero_le _, fun k hk => absurd hk (Nat.not_lt_zero _)⟩
  | succ n ih =>
    intro h s he
    cases h with
    | nil => simp only [outer] at he; cases he
    | cons e h =>
      cases e with
      | row => simp only [outer] at he; cases he
      | box t cs =>
        simp only [outer] at he
        split at he
        · rename_i hcs
          split at he
          · rename_i s' hs'
            cases he
            obtain ⟨h1, h2, h3⟩ := ih hs'
            refine ⟨by simp [h1], by simp [h2], fun k hk => ?_⟩
            cases k with
            | zero => exact ⟨by simp, t, cs, by simp, hcs⟩
            | succ k => simpa using h3 k (by omega)
          · cases he
        · cases he

theorem kept_some {h : Store} (ks : List Nat) : ∀ {s : Store}, kept h ks = some s → s.length = ks.length ∧ ∀ (j k : Nat), ks[j]? = some k → ∃ e g xs, h[k]? = some (Ent.row e g false xs) ∧ s[j]? = some (Ent.row e 0 false xs) := by
  induction ks with
  | nil => intro s he; cases he; exact ⟨rfl, fun j k h => by simp at h⟩
  | cons k ks ih =>
    intro s he
    unfold kept at he
    split at he
    · rename_i e g xs s' hk hs'
      cases he
      obtain ⟨h1, h2⟩ := ih hs'
      refine ⟨by simp [h1], fun j k' hj => ?_⟩
      cases j with
      | zero => simp at hj; subst hj; exact ⟨e, g, xs, hk, by simp⟩
      | succ j => simpa using h2 j k' (by simpa using hj)
    · cases he

/-- What has come of a call's store, for its caller. -/
def outEnv (E : Env) (h : Store) (n : Nat) (ks : List Nat) : Env :=
  { E with
    n := n + ks.length
    gen := fun k => if k < n then E.gen k else if k < n + ks.length then some 0 else none
    top := fun k => if k < n then E.top k else 0
    esz := fun k => if k < n then E.esz k else E.esz (ks.getD (k - n) 0)
    row := fun k => if k < n then E.row k else E.row (ks.getD (k - n) 0)
    own := fun b => E.own b ∧ ∀ k, blkOf E h k = some b → k < n ∨ k ∈ ks }

/-- The rows that the list of kept ones may hold. -/
def KsOk (h : Store) (n : Nat) (ks : List Nat) : Prop := ks.Nodup ∧ ∀ k, k ∈ ks → n ≤ k

mutual
theorem lay1_ks (n : Nat) (h : Store) (keep : Bool) : ∀ (x : AV) {ks : List Nat} {x' : AV} {ks' : List Nat}, lay1 Ops.std n h keep x ks = some (x', ks') → KsOk h n ks → KsOk h n ks' ∧ (∃ m, ks' = ks ++ m) ∧ (keep = false → ks' = ks) := by
  intro x ks x' ks' hl hk
  cases x with
  | sl k g =>
    simp only [lay1, layRow] at hl
    split at hl
    · split at hl
      · rename_i hc
        cases hl
        simp only [Bool.and_eq_true, decide_eq_true_eq, Bool.not_eq_true'] at hc
        refine ⟨⟨?_, fun k' hk' => ?_⟩, ⟨_, rfl⟩, fun hf => by rw [hf] at hc; simp at hc⟩
        · rw [List.nodup_append]
          refine ⟨hk.1, by simp, fun a ha b hb => ?_⟩
          simp at hb; subst hb
          intro e; subst e
          have := hc.2
          simp [ha] at this
        · rcases List.mem_append.1 hk' with h1 | h1
          · exact hk.2 k' h1
          · simp at h1; subst h1; exact hc.1.2
      · split at hl
        · cases hl
        · cases hl; exact ⟨hk, ⟨[], by simp⟩, fun _ => rfl⟩
    · cases hl
  | sub k g lo hi =>
    simp only [lay1, laySub] at hl
    split at hl
    · split at hl
      · cases hl
      · split at hl
        · cases hl; exact ⟨hk, ⟨[], by simp⟩, fun _ => rfl⟩
        · cases hl
    · cases hl
  | agg cs =>
    simp only [lay1] at hl
    split at hl
    · rename_i hl'; cases hl; exact lay_ks n h keep cs hl' hk
    · cases hl
  | tup cs =>
    simp only [lay1] at hl
    split at hl
    · rename_i hl'; cases hl; exact lay_ks n h keep cs hl' hk
    · cases hl
  | sc v => simp only [lay1] at hl; cases hl; exact ⟨hk, ⟨[], by simp⟩, fun _ => rfl⟩
  | lit e f xs => simp only [lay1] at hl; cases hl; exact ⟨hk, ⟨[], by simp⟩, fun _ => rfl⟩
  | _ => simp only [lay1] at hl; cases hl
theorem lay_ks (n : Nat) (h : Store) (keep : Bool) : ∀ (l : List AV) {ks : List Nat} {l' : List AV} {ks' : List Nat}, lay Ops.std n h keep l ks = some (l', ks') → KsOk h n ks → KsOk h n ks' ∧ (∃ m, ks' = ks ++ m) ∧ (keep = false → ks' = ks) := by
  intro l ks l' ks' hl hk
  cases l with
  | nil => simp only [lay] at hl; cases hl; exact ⟨hk, ⟨[], by simp⟩, fun _ => rfl⟩
  | cons x r =>
    simp only [lay] at hl
    split at hl
    · rename_i x' ks1 hx
      split at hl
      · rename_i hr
        cases hl
        obtain ⟨k1, ⟨m1, e1⟩, f1⟩ := lay1_ks n h keep x hx hk
        obtain ⟨k2, ⟨m2, e2⟩, f2⟩ := lay_ks n h keep r hr k1
        exact ⟨k2, ⟨m1 ++ m2, by rw [e2, e1]; simp⟩, fun hf => by rw [f2 hf, f1 hf]⟩
      · cases hl
    · cases hl
end
end Go.Ab
