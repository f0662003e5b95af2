/- The interpreter without a count of rounds: what it comes to with enough of them. -/
import Derived.Test.YtcnohiofldkcoabAbFn3
namespace Go.Ab
open Go
set_option linter.unusedSimpArgs false
set_option linter.unusedVariables false

/-- What the one comes to the other comes to. -/
structure Le (I J : Ifc) : Prop where
  o : J.o = I.o
  prim : J.prim = I.prim
  call : ∀ f a s r, I.call f a s = some r → J.call f a s = some r
  loop : ∀ lv m d s r, I.loop lv m d s = some r → J.loop lv m d s = some r
  seg : ∀ af d s r, I.seg af d s = some r → J.seg af d s = some r

theorem Le.refl (I : Ifc) : Le I I := ⟨rfl, rfl, fun _ _ _ _ h => h, fun _ _ _ _ _ h => h, fun _ _ _ _ h => h⟩
theorem Le.trans {I J K : Ifc} (x : Le I J) (y : Le J K) : Le I K := ⟨y.o.trans x.o, y.prim.trans x.prim, fun f a s r h => y.call f a s r (x.call f a s r h), fun lv m d s r h => y.loop lv m d s r (x.loop lv m d s r h), fun af d s r h => y.seg af d s r (x.seg af d s r h)⟩

theorem callFn_le {I J : Ifc} (L : Le I J) {f : FuncId} {args : List AV} {h : Store} {r : AV × Store × Nat} (he : callFn I f args h = some r) : callFn J f args h = some r := by
  unfold callFn at he ⊢
  rw [L.o]
  split at he
  · cases he
  · rename_i args' ix hl
    split at he
    · cases he
    · rename_i s hs
      split at he
      · cases he
      · rename_i r' h2 hc
        rw [L.call _ _ _ _ hc]; exact he

theorem callMv_le {I J : Ifc} (L : Le I J) {f : FuncId} {args : List AV} {h : Store} {r : AV × Store × Nat} (he : callMv I f args h = some r) : callMv J f args h = some r := by
  unfold callMv callMv1 at he ⊢
  generalize reach h 64 (rfs args) [] = ix at he ⊢
  split at he
  · cases he
  · split at he
    · cases he
    · split at he
      · cases he
      · split at he
        · cases he
        · rename_i hc
          rw [L.call _ _ _ _ hc]; exact he

theorem callOp_le {I J : Ifc} (L : Le I J) {f : FuncId} {args : List AV} {h : Store} {r : AV × Store × Nat} (he : callOp I f args h = some r) : callOp J f args h = some r := by
  unfold callOp at he ⊢
  rw [L.prim]
  split at he
  · exact callFn_le L he
  · exact callMv_le L he
  · rw [L.o]; exact he

theorem evOp_le {I J : Ifc} (L : Le I J) {i : Ir} {t : List AV} {h : Store} {r : AV × Store × Nat} (he : evOp I i t h = some r) : evOp J i t h = some r := by
  cases i
  case call f shs args => exact callOp_le L he
  case callz f shs args =>
    simp only [evOp, L.o] at he ⊢
    split at he
    · rename_i hc; rw [callOp_le L hc]; exact he
    · cases he
  case callv x args =>
    simp only [evOp] at he ⊢
    split at he
    · exact callOp_le L he
    · cases he
  all_goals (simp only [evOp, L.o] at he ⊢; exact he)

theorem Stp.le {I J : Ifc} {md : Bool} (L : Le I J) {ip : Ip} {s s' : St} (h : Stp I md ip s s') : Stp J md ip s s' := by
  rcases h with ⟨hw, v, h1, m, he, hu, e⟩ | h
  · exact .inl ⟨hw, v, h1, m, evOp_le L he, hu, e⟩
  · exact .inr h

theorem evOps_of {I : Ifc} {md : Bool} {ip : Ip} {r : List Ip} {s s1 : St} (st : Stp I md ip s s1) : evOps I md (ip :: r) s = evOps I md r s1 := by
  rcases st with ⟨hw, v, h1, m, he, hu, rfl⟩ | ⟨hw, rfl⟩
  · unfold wants at hw
    split at hw
    · rename_i hg
      simp only [evOps, hg, he, hu]
    · rename_i j w hg
      simp only [evOps, hg, hw, he, hu]
  · unfold wants at hw
    split at hw
    · cases hw
    · rename_i j w hg
      simp only [evOps, hg, hw]

theorem Stp.one {I : Ifc} {md md' : Bool} {ip : Ip} {s a b : St} (x : Stp I md ip s a) (y : Stp I md' ip s b) : a = b := by
  rcases x with ⟨hw, v, h1, m, he, _, rfl⟩ | ⟨hw, rfl⟩
  · rcases y with ⟨hw', v', h1', m', he', _, rfl⟩ | ⟨hw', rfl⟩
    · rw [he] at he'; cases he'; rfl
    · rw [hw] at hw'; cases hw'
  · rcases y with ⟨hw', v', h1', m', he', _, rfl⟩ | ⟨hw', rfl⟩
    · rw [hw] at hw'; cases hw'
    · rfl
theorem evOps_mode {I : Ifc} {md md' : Bool} (l : List Ip) : ∀ {s a b : St}, evOps I md l s = some a → evOps I md' l s = some b → a = b := by
  induction l with
  | nil => intro s a b h1 h2; simp only [evOps] at h1 h2; cases h1; cases h2; rfl
  | cons ip r ih =>
    intro s a b h1 h2
    obtain ⟨s1, st1, e1⟩ := evOps_cons h1
    obtain ⟨s2, st2, e2⟩ := evOps_cons h2
    have := st1.one st2
    subst this
    exact ih e1 e2
/-- A region, in whichever mode it comes to something. -/
theorem exec_region {I : Ifc} {md : Bool} {ops : List Ip} {s s' : St} (h : evOps I md ops s = some s') : exec I (.region ops) s = some (.nor, s') := by
  simp only [exec]
  cases h0 : evOps I false ops s with
  | some s'' => rw [evOps_mode ops h0 h]
  | none =>
    cases md with
    | false => rw [h0] at h; cases h
    | true => simp only [h]
theorem region_exec {I : Ifc} {ops : List Ip} {s : St} {r : X × St} (h : exec I (.region ops) s = some r) : ∃ md s', evOps I md ops s = some s' ∧ r = (.nor, s') := by
  simp only [exec] at h
  split at h
  · rename_i s' hs; cases h; exact ⟨false, s', hs, rfl⟩
  · split at h
    · rename_i s' hs; cases h; exact ⟨true, s', hs, rfl⟩
    · cases h

theorem evOps_le {I J : Ifc} {md : Bool} (L : Le I J) (l : List Ip) : ∀ {s s' : St}, evOps I md l s = some s' → evOps J md l s = some s' := by
  induction l with
  | nil => intro s s' h; exact h
  | cons ip r ih =>
    intro s s' h
    obtain ⟨s1, st, h1⟩ := evOps_cons h
    rw [evOps_of (st.le L)]
    exact ih h1

theorem exec_le {I J : Ifc} (L : Le I J) (d : Cd) : ∀ {s : St} {r : X × St}, exec I d s = some r → exec J d s = some r := by
  induction d with
  | skip | exit | ret => intro s r h; exact h
  | region ops =>
    intro s r h
    obtain ⟨md, s', h1, rfl⟩ := region_exec h
    exact exec_region (evOps_le L ops h1)
  | seq a b iha ihb =>
    intro s r h
    simp only [exec] at h ⊢
    split at h
    · rename_i s' hs; rw [iha hs]; exact ihb h
    · rename_i hne
      cases ha : exec I a s with
      | none => rw [ha] at h; cases h
      | some p =>
        obtain ⟨x, s'⟩ := p
        rw [iha ha]; rw [ha] at h
        cases x with
        | nor => exact absurd ha (hne s')
        | _ => exact h
  | cond c a b iha ihb =>
    intro s r h
    simp only [exec] at h ⊢
    split at h
    · exact iha h
    · exact ihb h
    · cases h
  | block id a iha =>
    intro s r h
    simp only [exec] at h ⊢
    cases ha : exec I a s with
    | none => rw [ha] at h; cases h
    | some p => rw [ha] at h; rw [iha ha]; exact h
  | loop lv a iha =>
    intro s r h
    simp only [exec] at h ⊢
    exact L.loop _ _ _ _ _ h
  | seg lv af a iha =>
    intro s r h
    simp only [exec] at h ⊢
    exact L.seg _ _ _ _ h

theorem apart_le {I J : Ifc} (L : Le I J) {af : List Nat} {d : Cd} {s : St} {r : X × St} (h : I.apart af d s = some r) : J.apart af d s = some r := by
  unfold Ifc.apart at h ⊢
  cases ha : exec I d s with
  | none => rw [ha] at h; cases h
  | some p => rw [ha] at h; rw [exec_le L d ha]; exact h

theorem runFn_le {I J : Ifc} (L : Le I J) {fn : Fn} {args : List AV} {s : Store} {r : AV × Store} (h : runFn I fn args s = some r) : runFn J fn args s = some r := by
  unfold runFn at h ⊢
  rw [L.o]
  cases he : exec I fn.body ⟨args ++ List.replicate (fn.ntmps - args.length) .bad, s⟩ with
  | none => rw [he] at h; cases h
  | some p => rw [he] at h; rw [exec_le L _ he]; exact h

/-! ### The limit -/

section
variable {F : FuncId → Option Fn} {pr : FuncId → Option Prim}

theorem ifc_o (n : Nat) : (ifc Ops.std F pr n).o = Ops.std := by cases n <;> rfl
theorem ifc_prim (n : Nat) : (ifc Ops.std F pr n).prim = pr := by cases n <;> rfl

theorem round_le {I J : Ifc} (L : Le I J) {lv : List Nat} {m : Nat} {d : Cd} {s : St} {r : X × St} (h : I.round lv m d s = some r) : J.round lv m d s = some r := by
  unfold Ifc.round at h ⊢
  cases ha : exec I d s with
  | none => rw [ha] at h; cases h
  | some p =>
    obtain ⟨x, s'⟩ := p
    rw [ha] at h; rw [exec_le L d ha]
    cases x with
    | nor => exact L.loop _ _ _ _ _ h
    | _ => exact h

theorem ifc_le1 : ∀ n, Le (ifc Ops.std F pr n) (ifc Ops.std F pr (n + 1)) := by
  intro n
  induction n with
  | zero => exact ⟨rfl, rfl, fun f a s r h => by simp [ifc] at h, fun lv m d s r h => by simp [ifc] at h, fun af d s r h => by simp [ifc] at h⟩
  | succ n ih =>
    refine ⟨rfl, rfl, fun f a s r h => ?_, fun lv m d s r h => ?_, fun af d s r h => ?_⟩
    · simp only [ifc] at h ⊢
      split at h
      · rename_i fn hfn; exact runFn_le ih h
      · cases h
    · rw [ifc] at h ⊢
      exact round_le ih h
    · rw [ifc] at h ⊢
      exact apart_le ih h

theorem ifc_le (n : Nat) : ∀ k, Le (ifc Ops.std F pr n) (ifc Ops.std F pr (n + k))
  | 0 => Le.refl _
  | k + 1 => (ifc_le n k).trans (ifc_le1 (n + k))

open Classical in
/-- With as many rounds and calls as it takes. -/
noncomputable def lim (F : FuncId → Option Fn) (pr : FuncId → Option Prim) : Ifc where
  o := Ops.std
  prim := pr
  call f a s := if h : ∃ n r, (ifc Ops.std F pr n).call f a s = some r then some (Classical.choose (Classical.choose_spec h)) else none
  loop lv m d s := if h : ∃ n r, (ifc Ops.std F pr n).loop lv m d s = some r then some (Classical.choose (Classical.choose_spec h)) else none
  seg af d s := if h : ∃ n r, (ifc Ops.std F pr n).seg af d s = some r then some (Classical.choose (Classical.choose_spec h)) else none

theorem lim_call {f : FuncId} {a : List AV} {s : Store} {r : AV × Store} : (lim F pr).call f a s = some r ↔ ∃ n, (ifc Ops.std F pr n).call f a s = some r := by
  constructor
  · intro h
    simp only [lim] at h
    split at h
    · rename_i hh
      cases h
      exact ⟨_, Classical.choose_spec (Classical.choose_spec hh)⟩
    · cases h
  · rintro ⟨n, h⟩
    simp only [lim]
    have hh : ∃ n r, (ifc Ops.std F pr n).call f a s = some r := ⟨n, r, h⟩
    rw [dif_pos hh]
    have h2 := Classical.choose_spec (Classical.choose_spec hh)
    generalize Classical.choose (Classical.choose_spec hh) = r2 at h2 ⊢
    generalize Classical.choose hh = m at h2
    have h3 := (ifc_le (F := F) (pr := pr) n m).call f a s r h
    have h4 := (ifc_le (F := F) (pr := pr) m n).call f a s r2 h2
    rw [Nat.add_comm] at h4
    rw [h3] at h4; exact h4.symm

theorem lim_loop {lv : List Nat} {m : Nat} {d : Cd} {s : St} {r : X × St} : (lim F pr).loop lv m d s = some r ↔ ∃ n, (ifc Ops.std F pr n).loop lv m d s = some r := by
  constructor
  · intro h
    simp only [lim] at h
    split at h
    · rename_i hh
      cases h
      exact ⟨_, Classical.choose_spec (Classical.choose_spec hh)⟩
    · cases h
  · rintro ⟨n, h⟩
    simp only [lim]
    have hh : ∃ n r, (ifc Ops.std F pr n).loop lv m d s = some r := ⟨n, r, h⟩
    rw [dif_pos hh]
    have h2 := Classical.choose_spec (Classical.choose_spec hh)
    generalize Classical.choose (Classical.choose_spec hh) = r2 at h2 ⊢
    generalize Classical.choose hh = m2 at h2
    have h3 := (ifc_le (F := F) (pr := pr) n m2).loop lv m d s r h
    have h4 := (ifc_le (F := F) (pr := pr) m2 n).loop lv m d s r2 h2
    rw [Nat.add_comm] at h4
    rw [h3] at h4; exact h4.symm

theorem lim_seg {af : List Nat} {d : Cd} {s : St} {r : X × St} : (lim F pr).seg af d s = some r ↔ ∃ n, (ifc Ops.std F pr n).seg af d s = some r := by
  constructor
  · intro h
    simp only [lim] at h
    split at h
    · rename_i hh
      cases h
      exact ⟨_, Classical.choose_spec (Classical.choose_spec hh)⟩
    · cases h
  · rintro ⟨n, h⟩
    simp only [lim]
    have hh : ∃ n r, (ifc Ops.std F pr n).seg af d s = some r := ⟨n, r, h⟩
    rw [dif_pos hh]
    have h2 := Classical.choose_spec (Classical.choose_spec hh)
    generalize Classical.choose (Classical.choose_spec hh) = r2 at h2 ⊢
    generalize Classical.choose hh = m2 at h2
    have h3 := (ifc_le (F := F) (pr := pr) n m2).seg af d s r h
    have h4 := (ifc_le (F := F) (pr := pr) m2 n).seg af d s r2 h2
    rw [Nat.add_comm] at h4
    rw [h3] at h4; exact h4.symm

theorem le_lim (n : Nat) : Le (ifc Ops.std F pr n) (lim F pr) :=
  ⟨(ifc_o n).symm, (ifc_prim n).symm, fun f a s r h => lim_call.2 ⟨n, h⟩, fun lv m d s r h => lim_loop.2 ⟨n, h⟩, fun af d s r h => lim_seg.2 ⟨n, h⟩⟩

theorem evOp_lim {i : Ir} {t : List AV} {h : Store} {r : AV × Store × Nat} (he : evOp (lim F pr) i t h = some r) : ∃ n, evOp (ifc Ops.std F pr n) i t h = some r := by
  have key0 : ∀ {f : FuncId} {args : List AV} {h : Store} {r : AV × Store × Nat}, callFn (lim F pr) f args h = some r → ∃ n, callFn (ifc Ops.std F pr n) f args h = some r := by
    intro f args h r he
    unfold callFn at he ⊢
    simp only [ifc_o]
    simp only [lim] at he
    split at he
    · cases he
    · rename_i args' ix hl
      split at he
      · cases he
      · rename_i s hs
        split at he
        · cases he
        · rename_i r' h2 hc
          obtain ⟨n, hn⟩ := lim_call.1 (show (lim F pr).call f args' s = some (r', h2) from hc)
          exact ⟨n, by rw [hn]; exact he⟩
  have key : ∀ {f : FuncId} {args : List AV} {h : Store} {r : AV × Store × Nat}, callOp (lim F pr) f args h = some r → ∃ n, callOp (ifc Ops.std F pr n) f args h = some r := by
    intro f args h r he
    unfold callOp at he ⊢
    cases hp : pr f with
    | some p =>
      have h1 : (lim F pr).prim f = some p := hp
      simp only [h1] at he
      simp only [ifc_prim, hp, ifc_o]
      cases p with
      | mv =>
        simp only at he ⊢
        unfold callMv callMv1 at he ⊢
        generalize reach h 64 (rfs args) [] = ix at he ⊢
        split at he
        · cases he
        · rename_i a1 ha1
          split at he
          · cases he
          · rename_i a2 ha2
            split at he
            · cases he
            · rename_i a3
              split at he
              · cases he
              · rename_i r' h2 hc
                obtain ⟨n, hn⟩ := lim_call.1 hc
                exact ⟨n, by rw [hn]; exact he⟩
      | _ => exact ⟨0, he⟩
    | none =>
      have h1 : (lim F pr).prim f = none := hp
      simp only [h1] at he
      simp only [ifc_prim, hp]
      exact key0 he
  cases i
  case call f shs args => exact key he
  case callz f shs args =>
    simp only [evOp] at he ⊢
    split at he
    · rename_i hc
      obtain ⟨n, hn⟩ := key hc
      exact ⟨n, by rw [hn]; simp only [ifc_o]; exact he⟩
    · cases he
  case callv x args =>
    simp only [evOp] at he ⊢
    split at he
    · exact key he
    · cases he
  all_goals exact ⟨0, by simp only [evOp] at he ⊢; exact he⟩

theorem evOps_lim {md : Bool} (l : List Ip) : ∀ {s s' : St}, evOps (lim F pr) md l s = some s' → ∃ n, evOps (ifc Ops.std F pr n) md l s = some s' := by
  induction l with
  | nil => intro s s' h; exact ⟨0, h⟩
  | cons ip r ih =>
    intro s s' h
    obtain ⟨s1, st, h1⟩ := evOps_cons h
    obtain ⟨n, hn⟩ := ih h1
    have : ∃ m, Stp (ifc Ops.std F pr m) md ip s s1 := by
      rcases st with ⟨hw, v, h1, m, he, hu, e⟩ | h
      · obtain ⟨k, hk⟩ := evOp_lim he
        exact ⟨k, .inl ⟨hw, v, h1, m, hk, hu, e⟩⟩
      · exact ⟨0, .inr h⟩
    obtain ⟨m, hm⟩ := this
    refine ⟨n + m, ?_⟩
    have h2 := Nat.add_comm m n ▸ ifc_le (F := F) (pr := pr) m n
    rw [evOps_of (hm.le h2)]
    exact evOps_le (ifc_le n m) r hn

theorem exec_lim (d : Cd) : ∀ {s : St} {r : X × St}, exec (lim F pr) d s = some r → ∃ n, exec (ifc Ops.std F pr n) d s = some r := by
  induction d with
  | skip | exit | ret => intro s r h; exact ⟨0, h⟩
  | region ops =>
    intro s r h
    obtain ⟨md, s', h1, rfl⟩ := region_exec h
    obtain ⟨n, hn⟩ := evOps_lim ops h1
    exact ⟨n, exec_region hn⟩
  | seq a b iha ihb =>
    intro s r h
    simp only [exec] at h ⊢
    cases ha : exec (lim F pr) a s with
    | none => rw [ha] at h; cases h
    | some p =>
      obtain ⟨x, s'⟩ := p
      obtain ⟨n, hn⟩ := iha ha
      rw [ha] at h
      cases x with
      | nor =>
        obtain ⟨m, hm⟩ := ihb h
        refine ⟨n + m, ?_⟩
        rw [exec_le (ifc_le n m) a hn]
        exact exec_le (Nat.add_comm m n ▸ ifc_le (F := F) (pr := pr) m n) b hm
      | _ => exact ⟨n, by rw [hn]; exact h⟩
  | cond c a b iha ihb =>
    intro s r h
    simp only [exec] at h ⊢
    split at h
    · exact iha h
    · exact ihb h
    · cases h
  | block id a iha =>
    intro s r h
    simp only [exec] at h ⊢
    cases ha : exec (lim F pr) a s with
    | none => rw [ha] at h; cases h
    | some p =>
      obtain ⟨n, hn⟩ := iha ha
      rw [ha] at h
      exact ⟨n, by rw [hn]; exact h⟩
  | loop lv a iha =>
    intro s r h
    simp only [exec] at h ⊢
    exact lim_loop.1 h
  | seg lv af a iha =>
    intro s r h
    simp only [exec] at h ⊢
    exact lim_seg.1 h

/-- A call, told by its body. -/
theorem call_lim {f : FuncId} {fn : Fn} (hf : F f = some fn) {a : List AV} {s : Store} {r : AV × Store} (h : runFn (lim F pr) fn a s = some r) : (lim F pr).call f a s = some r := by
  have : ∃ n, runFn (ifc Ops.std F pr n) fn a s = some r := by
    unfold runFn at h ⊢
    simp only [ifc_o]
    cases he : exec (lim F pr) fn.body ⟨a ++ List.replicate (fn.ntmps - a.length) .bad, s⟩ with
    | none => rw [he] at h; cases h
    | some p =>
      obtain ⟨n, hn⟩ := exec_lim _ he
      rw [he] at h
      exact ⟨n, by rw [hn]; exact h⟩
  obtain ⟨n, hn⟩ := this
  exact lim_call.2 ⟨n + 1, by simp only [ifc, hf]; exact hn⟩

/-- What is told apart. -/
theorem seg_lim {af : List Nat} {d : Cd} {s : St} {r : X × St} (h : (lim F pr).apart af d s = some r) : (lim F pr).seg af d s = some r := by
  unfold Ifc.apart at h
  cases he : exec (lim F pr) d s with
  | none => rw [he] at h; cases h
  | some p =>
    obtain ⟨n, hn⟩ := exec_lim d he
    rw [he] at h
    refine lim_seg.2 ⟨n + 1, ?_⟩
    rw [ifc]
    simp only [Ifc.apart, hn]
    exact h

/-- A loop, told by its next round. -/
theorem round_lim {lv : List Nat} {m : Nat} {d : Cd} {s : St} {r : X × St} (h : (lim F pr).round lv m d s = some r) : (lim F pr).loop lv m d s = some r := by
  unfold Ifc.round at h
  cases he : exec (lim F pr) d s with
  | none => rw [he] at h; cases h
  | some p =>
    obtain ⟨x, s'⟩ := p
    obtain ⟨n, hn⟩ := exec_lim d he
    rw [he] at h
    cases x with
    | nor =>
      obtain ⟨k, hk⟩ := lim_loop.1 h
      refine lim_loop.2 ⟨n + k + 1, ?_⟩
      rw [ifc]
      simp only [Ifc.round, exec_le (ifc_le n k) d hn]
      exact (Nat.add_comm k n ▸ ifc_le (F := F) (pr := pr) k n).loop _ _ _ _ _ hk
    | brk id => refine lim_loop.2 ⟨n + 1, ?_⟩; rw [ifc]; simp only [Ifc.round, hn]; exact h
    | ret => refine lim_loop.2 ⟨n + 1, ?_⟩; rw [ifc]; simp only [Ifc.round, hn]; exact h

/-! ### It is sound -/

theorem ifc_ok {P : Program} {base : Nat} (hmx : P.follows .mixedOrders = true) (hF : ∀ f fn, F f = some fn → ∃ kmd fz, cmpFn P kmd fz f = some fn) (hPr : ∀ f p, pr f = some p → PrimOk P base f p) : ∀ n, CallOk P base (ifc Ops.std F pr n) ∧ LoopOk P base (ifc Ops.std F pr n) ∧ FnsOk P (ifc Ops.std F pr n) ∧ SegOk P base (ifc Ops.std F pr n) := by
  intro n
  have hP : ∀ n, PrimsOk P base (ifc Ops.std F pr n) := fun n f p h => hPr f p (by rw [ifc_prim] at h; exact h)
  induction n with
  | zero => exact ⟨fun f a s r h2 h => by simp [ifc] at h, fun fz rt ex af c d hc lv m s x s2 h => by simp [ifc] at h, fun f a s r h => by simp [ifc] at h, fun c fz rt ex af d hc ag s x s2 h => by simp [ifc] at h⟩
  | succ n ih =>
    obtain ⟨h1, h2, h3, h4⟩ := ih
    refine ⟨fun f a s r s2 h E vs hPe R V => ?_, fun fz rt ex af c d hc lv m s x s2 h h0 E0 E a Q hPe hl hm hlt R S V L => ?_, fun f a s r h => ?_, fun c fz rt ex af d hc ag s x s2 h E a Q hPe R V L => ?_⟩
    · simp only [ifc] at h
      split at h
      · rename_i fn hfn
        obtain ⟨kmd, fz, hk⟩ := hF f fn hfn
        exact runFn_sound hmx (ifc_o n) h1 (hP n) h3 h2 h4 hk h E vs hPe R V
      · cases h
    · rw [ifc] at h
      exact loop_sound h2 (exec_sound hmx (ifc_o n) h1 (hP n) h3 h2 h4 c) hc h hPe hl hm hlt R S V L
    · simp only [ifc] at h
      split at h
      · rename_i fn hfn
        obtain ⟨kmd, fz, hk⟩ := hF f fn hfn
        obtain ⟨g, c, hg, hb, _, _, _, hn⟩ := cmpFn_some hk
        exact ⟨g, hg, by rw [hb]; rfl, hn⟩
      · cases h
    · rw [ifc] at h
      exact apart_sound (exec_sound hmx (ifc_o n) h1 (hP n) h3 h2 h4 c) hc h hPe R V L

theorem lim_ok {P : Program} {base : Nat} (hmx : P.follows .mixedOrders = true) (hF : ∀ f fn, F f = some fn → ∃ kmd fz, cmpFn P kmd fz f = some fn) (hPr : ∀ f p, pr f = some p → PrimOk P base f p) : CallOk P base (lim F pr) := by
  intro f a s r h2 h E vs hP R V
  obtain ⟨n, hn⟩ := lim_call.1 h
  exact (ifc_ok hmx hF hPr n).1 f a s r h2 hn E vs hP R V
end
end Go.Ab
