/- The interpreter without a count of rounds: what it comes to with enough of them. -/
import Derived.Test.YtcnohiofldkcoaaAbFn3
namespace Go.Ab
open Go
set_option linter.unusedSimpArgs false
set_option linter.unusedVariables false

/-- What the one comes to the other comes to. -/
structure Le (I J : Ifc) : Prop where
  o : J.o = I.o
  call : ∀ f a s r, I.call f a s = some r → J.call f a s = some r
  loop : ∀ d s r, I.loop d s = some r → J.loop d s = some r

theorem Le.refl (I : Ifc) : Le I I := ⟨rfl, fun _ _ _ _ h => h, fun _ _ _ h => h⟩
theorem Le.trans {I J K : Ifc} (x : Le I J) (y : Le J K) : Le I K := ⟨y.o.trans x.o, fun f a s r h => y.call f a s r (x.call f a s r h), fun d s r h => y.loop d s r (x.loop d s r h)⟩

theorem callOp_le {I J : Ifc} (L : Le I J) {f : FuncId} {args : List AV} {h : Store} {r : AV × Store × Bool} (he : callOp I f args h = some r) : callOp J f args h = some r := by
  unfold callOp at he ⊢
  rw [L.o]
  split at he
  · cases he
  · rename_i args' ix hl
    split at he
    · cases he
    · rename_i s hs
      split at he
      · cases he
      · rename_i r' h2 hc
        rw [L.call _ _ _ _ hc]; exact he

theorem evOp_le {I J : Ifc} (L : Le I J) {i : Ir} {t : List AV} {h : Store} {r : AV × Store × Bool} (he : evOp I i t h = some r) : evOp J i t h = some r := by
  cases i
  case call f args => exact callOp_le L he
  case callv x args =>
    simp only [evOp] at he ⊢
    split at he
    · exact callOp_le L he
    · cases he
  all_goals (simp only [evOp, L.o] at he ⊢; exact he)

theorem Stp.le {I J : Ifc} (L : Le I J) {ip : Ip} {s s' : St} (h : Stp I ip s s') : Stp J ip s s' := by
  rcases h with ⟨hw, v, h1, m, he, hu, e⟩ | h
  · exact .inl ⟨hw, v, h1, m, evOp_le L he, hu, e⟩
  · exact .inr h

theorem evOps_of {I : Ifc} {ip : Ip} {r : List Ip} {s s1 : St} (st : Stp I ip s s1) : evOps I (ip :: r) s = evOps I r s1 := by
  rcases st with ⟨hw, v, h1, m, he, hu, rfl⟩ | ⟨hw, rfl⟩
  · unfold wants at hw
    have hum : (ip.u && m) = false := by cases hu2 : ip.u <;> simp_all
    split at hw
    · rename_i hg
      simp only [evOps, hg, he, hum]
    · rename_i j w hg
      obtain ⟨b, hb, hbw⟩ := mapped hw
      simp only [evOps, hg, hb]
      rw [if_pos (by simpa using hbw)]
      simp only [he, hum]
  · unfold wants at hw
    split at hw
    · cases hw
    · rename_i j w hg
      obtain ⟨b, hb, hbw⟩ := mapped hw
      simp only [evOps, hg, hb]
      rw [if_neg (by simpa using hbw)]

theorem evOps_le {I J : Ifc} (L : Le I J) (l : List Ip) : ∀ {s s' : St}, evOps I l s = some s' → evOps J l s = some s' := by
  induction l with
  | nil => intro s s' h; exact h
  | cons ip r ih =>
    intro s s' h
    obtain ⟨s1, st, h1⟩ := evOps_cons h
    rw [evOps_of (st.le L)]
    exact ih h1

theorem exec_le {I J : Ifc} (L : Le I J) (d : Cd) : ∀ {s : St} {r : X × St}, exec I d s = some r → exec J d s = some r := by
  induction d with
  | skip | exit | ret => intro s r h; exact h
  | region ops =>
    intro s r h
    simp only [exec] at h ⊢
    split at h
    · rename_i s' hs; rw [evOps_le L ops hs]; exact h
    · cases h
  | seq a b iha ihb =>
    intro s r h
    simp only [exec] at h ⊢
    split at h
    · rename_i s' hs; rw [iha hs]; exact ihb h
    · rename_i hne
      cases ha : exec I a s with
      | none => rw [ha] at h; cases h
      | some p =>
        obtain ⟨x, s'⟩ := p
        rw [iha ha]; rw [ha] at h
        cases x with
        | nor => exact absurd ha (hne s')
        | _ => exact h
  | cond c a b iha ihb =>
    intro s r h
    simp only [exec] at h ⊢
    split at h
    · exact iha h
    · exact ihb h
    · cases h
  | block id a iha =>
    intro s r h
    simp only [exec] at h ⊢
    cases ha : exec I a s with
    | none => rw [ha] at h; cases h
    | some p => rw [ha] at h; rw [iha ha]; exact h
  | loop a iha =>
    intro s r h
    simp only [exec] at h ⊢
    cases ha : exec I a s with
    | none => rw [ha] at h; cases h
    | some p =>
      obtain ⟨x, s'⟩ := p
      rw [ha] at h; rw [iha ha]
      cases x with
      | nor => exact L.loop _ _ _ h
      | _ => exact h

theorem runFn_le {I J : Ifc} (L : Le I J) {fn : Fn} {args : List AV} {s : Store} {r : AV × Store} (h : runFn I fn args s = some r) : runFn J fn args s = some r := by
  unfold runFn at h ⊢
  rw [L.o]
  cases he : exec I fn.body ⟨args ++ List.replicate (fn.ntmps - args.length) .bad, s⟩ with
  | none => rw [he] at h; cases h
  | some p => rw [he] at h; rw [exec_le L _ he]; exact h

/-! ### The limit -/

section
variable {F : FuncId → Option Fn}

theorem ifc_o (n : Nat) : (ifc Ops.std F n).o = Ops.std := by cases n <;> rfl

theorem ifc_le1 : ∀ n, Le (ifc Ops.std F n) (ifc Ops.std F (n + 1)) := by
  intro n
  induction n with
  | zero => exact ⟨rfl, fun f a s r h => by simp [ifc] at h, fun d s r h => by simp [ifc] at h⟩
  | succ n ih =>
    refine ⟨rfl, fun f a s r h => ?_, fun d s r h => ?_⟩
    · simp only [ifc] at h ⊢
      split at h
      · rename_i fn hfn; exact runFn_le ih h
      · cases h
    · simp only [ifc] at h ⊢
      exact exec_le ih d h

theorem ifc_le (n : Nat) : ∀ k, Le (ifc Ops.std F n) (ifc Ops.std F (n + k))
  | 0 => Le.refl _
  | k + 1 => (ifc_le n k).trans (ifc_le1 (n + k))

open Classical in
/-- With as many rounds and calls as it takes. -/
noncomputable def lim (F : FuncId → Option Fn) : Ifc where
  o := Ops.std
  call f a s := if h : ∃ n r, (ifc Ops.std F n).call f a s = some r then some (Classical.choose (Classical.choose_spec h)) else none
  loop d s := if h : ∃ n r, (ifc Ops.std F n).loop d s = some r then some (Classical.choose (Classical.choose_spec h)) else none

theorem lim_call {f : FuncId} {a : List AV} {s : Store} {r : AV × Store} : (lim F).call f a s = some r ↔ ∃ n, (ifc Ops.std F n).call f a s = some r := by
  constructor
  · intro h
    simp only [lim] at h
    split at h
    · rename_i hh
      cases h
      exact ⟨_, Classical.choose_spec (Classical.choose_spec hh)⟩
    · cases h
  · rintro ⟨n, h⟩
    simp only [lim]
    have hh : ∃ n r, (ifc Ops.std F n).call f a s = some r := ⟨n, r, h⟩
    rw [dif_pos hh]
    have h2 := Classical.choose_spec (Classical.choose_spec hh)
    generalize Classical.choose (Classical.choose_spec hh) = r2 at h2 ⊢
    generalize Classical.choose hh = m at h2
    have h3 := (ifc_le (F := F) n m).call f a s r h
    have h4 := (ifc_le (F := F) m n).call f a s r2 h2
    rw [Nat.add_comm] at h4
    rw [h3] at h4; exact h4.symm

theorem lim_loop {d : Cd} {s : St} {r : X × St} : (lim F).loop d s = some r ↔ ∃ n, (ifc Ops.std F n).loop d s = some r := by
  constructor
  · intro h
    simp only [lim] at h
    split at h
    · rename_i hh
      cases h
      exact ⟨_, Classical.choose_spec (Classical.choose_spec hh)⟩
    · cases h
  · rintro ⟨n, h⟩
    simp only [lim]
    have hh : ∃ n r, (ifc Ops.std F n).loop d s = some r := ⟨n, r, h⟩
    rw [dif_pos hh]
    have h2 := Classical.choose_spec (Classical.choose_spec hh)
    generalize Classical.choose (Classical.choose_spec hh) = r2 at h2 ⊢
    generalize Classical.choose hh = m at h2
    have h3 := (ifc_le (F := F) n m).loop d s r h
    have h4 := (ifc_le (F := F) m n).loop d s r2 h2
    rw [Nat.add_comm] at h4
    rw [h3] at h4; exact h4.symm

theorem le_lim (n : Nat) : Le (ifc Ops.std F n) (lim F) :=
  ⟨(ifc_o n).symm, fun f a s r h => lim_call.2 ⟨n, h⟩, fun d s r h => lim_loop.2 ⟨n, h⟩⟩

theorem evOp_lim {i : Ir} {t : List AV} {h : Store} {r : AV × Store × Bool} (he : evOp (lim F) i t h = some r) : ∃ n, evOp (ifc Ops.std F n) i t h = some r := by
  have key : ∀ {f : FuncId} {args : List AV} {h : Store} {r : AV × Store × Bool}, callOp (lim F) f args h = some r → ∃ n, callOp (ifc Ops.std F n) f args h = some r := by
    intro f args h r he
    unfold callOp at he ⊢
    simp only [ifc_o]
    simp only [lim] at he
    split at he
    · cases he
    · rename_i args' ix hl
      split at he
      · cases he
      · rename_i s hs
        split at he
        · cases he
        · rename_i r' h2 hc
          obtain ⟨n, hn⟩ := lim_call.1 (show (lim F).call f args' s = some (r', h2) from hc)
          exact ⟨n, by rw [hn]; exact he⟩
  cases i
  case call f args => exact key he
  case callv x args =>
    simp only [evOp] at he ⊢
    split at he
    · exact key he
    · cases he
  all_goals exact ⟨0, by simp only [evOp] at he ⊢; exact he⟩

theorem evOps_lim (l : List Ip) : ∀ {s s' : St}, evOps (lim F) l s = some s' → ∃ n, evOps (ifc Ops.std F n) l s = some s' := by
  induction l with
  | nil => intro s s' h; exact ⟨0, h⟩
  | cons ip r ih =>
    intro s s' h
    obtain ⟨s1, st, h1⟩ := evOps_cons h
    obtain ⟨n, hn⟩ := ih h1
    have : ∃ m, Stp (ifc Ops.std F m) ip s s1 := by
      rcases st with ⟨hw, v, h1, m, he, hu, e⟩ | h
      · obtain ⟨k, hk⟩ := evOp_lim he
        exact ⟨k, .inl ⟨hw, v, h1, m, hk, hu, e⟩⟩
      · exact ⟨0, .inr h⟩
    obtain ⟨m, hm⟩ := this
    refine ⟨n + m, ?_⟩
    have h2 := Nat.add_comm m n ▸ ifc_le (F := F) m n
    rw [evOps_of (hm.le h2)]
    exact evOps_le (ifc_le n m) r hn

theorem exec_lim (d : Cd) : ∀ {s : St} {r : X × St}, exec (lim F) d s = some r → ∃ n, exec (ifc Ops.std F n) d s = some r := by
  induction d with
  | skip | exit | ret => intro s r h; exact ⟨0, h⟩
  | region ops =>
    intro s r h
    simp only [exec] at h ⊢
    split at h
    · rename_i s' hs
      obtain ⟨n, hn⟩ := evOps_lim ops hs
      exact ⟨n, by rw [hn]; exact h⟩
    · cases h
  | seq a b iha ihb =>
    intro s r h
    simp only [exec] at h ⊢
    cases ha : exec (lim F) a s with
    | none => rw [ha] at h; cases h
    | some p =>
      obtain ⟨x, s'⟩ := p
      obtain ⟨n, hn⟩ := iha ha
      rw [ha] at h
      cases x with
      | nor =>
        obtain ⟨m, hm⟩ := ihb h
        refine ⟨n + m, ?_⟩
        rw [exec_le (ifc_le n m) a hn]
        exact exec_le (Nat.add_comm m n ▸ ifc_le (F := F) m n) b hm
      | _ => exact ⟨n, by rw [hn]; exact h⟩
  | cond c a b iha ihb =>
    intro s r h
    simp only [exec] at h ⊢
    split at h
    · exact iha h
    · exact ihb h
    · cases h
  | block id a iha =>
    intro s r h
    simp only [exec] at h ⊢
    cases ha : exec (lim F) a s with
    | none => rw [ha] at h; cases h
    | some p =>
      obtain ⟨n, hn⟩ := iha ha
      rw [ha] at h
      exact ⟨n, by rw [hn]; exact h⟩
  | loop a iha =>
    intro s r h
    simp only [exec] at h ⊢
    cases ha : exec (lim F) a s with
    | none => rw [ha] at h; cases h
    | some p =>
      obtain ⟨x, s'⟩ := p
      obtain ⟨n, hn⟩ := iha ha
      rw [ha] at h
      cases x with
      | nor =>
        obtain ⟨m, hm⟩ := lim_loop.1 h
        refine ⟨n + m, ?_⟩
        rw [exec_le (ifc_le n m) a hn]
        exact (Nat.add_comm m n ▸ ifc_le (F := F) m n).loop _ _ _ hm
      | _ => exact ⟨n, by rw [hn]; exact h⟩

/-- A call, told by its body. -/
theorem call_lim {f : FuncId} {fn : Fn} (hf : F f = some fn) {a : List AV} {s : Store} {r : AV × Store} (h : runFn (lim F) fn a s = some r) : (lim F).call f a s = some r := by
  have : ∃ n, runFn (ifc Ops.std F n) fn a s = some r := by
    unfold runFn at h ⊢
    simp only [ifc_o]
    cases he : exec (lim F) fn.body ⟨a ++ List.replicate (fn.ntmps - a.length) .bad, s⟩ with
    | none => rw [he] at h; cases h
    | some p =>
      obtain ⟨n, hn⟩ := exec_lim _ he
      rw [he] at h
      exact ⟨n, by rw [hn]; exact h⟩
  obtain ⟨n, hn⟩ := this
  exact lim_call.2 ⟨n + 1, by simp only [ifc, hf]; exact hn⟩

/-- A loop, told by its next round. -/
theorem loop_lim {d : Cd} {s : St} {r : X × St} (h : exec (lim F) d s = some r) : (lim F).loop d s = some r := by
  obtain ⟨n, hn⟩ := exec_lim d h
  exact lim_loop.2 ⟨n + 1, hn⟩

/-! ### It is sound -/

theorem ifc_ok {P : Program} {base : Nat} (hm : P.follows .mixedOrders = true) (hF : ∀ f fn, F f = some fn → ∃ keep, cmpFn P keep f = some fn) : ∀ n, CallOk P base (ifc Ops.std F n) ∧ LoopOk P base (ifc Ops.std F n) ∧ FnsOk P (ifc Ops.std F n) := by
  intro n
  induction n with
  | zero => exact ⟨fun f a s r h2 h => by simp [ifc] at h, fun c d hc s x s2 h => by simp [ifc] at h, fun f a s r h => by simp [ifc] at h⟩
  | succ n ih =>
    obtain ⟨h1, h2, h3⟩ := ih
    refine ⟨fun f a s r s2 h E vs hP R V => ?_, fun c d hc s x s2 h E a Q hP R V L => ?_, fun f a s r h => ?_⟩
    · simp only [ifc] at h
      split at h
      · rename_i fn hfn
        obtain ⟨keep, hk⟩ := hF f fn hfn
        exact runFn_sound hm (ifc_o n) h1 h3 h2 hk h E vs hP R V
      · cases h
    · simp only [ifc] at h
      exact loop_sound h2 (exec_sound hm (ifc_o n) h1 h3 h2 c) hc h hP R V L
    · simp only [ifc] at h
      split at h
      · rename_i fn hfn
        obtain ⟨keep, hk⟩ := hF f fn hfn
        obtain ⟨g, c, hg, hb, _, _, _, hn⟩ := cmpFn_some hk
        exact ⟨g, hg, by rw [hb]; rfl, hn⟩
      · cases h

theorem lim_ok {P : Program} {base : Nat} (hm : P.follows .mixedOrders = true) (hF : ∀ f fn, F f = some fn → ∃ keep, cmpFn P keep f = some fn) : CallOk P base (lim F) := by
  intro f a s r h2 h E vs hP R V
  obtain ⟨n, hn⟩ := lim_call.1 h
  exact (ifc_ok hm hF n).1 f a s r h2 hn E vs hP R V
end
end Go.Ab
