/- Code: what the interpreter comes to is what the code comes to. -/
import Derived.Test.YtcnohiofldkcoaaAbDraw4
namespace Go.Ab
open Go
set_option linter.unusedSimpArgs false
set_option linter.unusedVariables false

def exitOf : X → Exit
  | .nor => .normal
  | .brk id => .exit id
  | .ret => .ret

/-- A loop from the beginning of a round. -/
def LoopWp (P : Program) (c : Code) (Q : Exit → Act → World → Prop) (a : Act) (w : World) : Prop :=
  ∀ (b : Frame) (k : List Item) (cs : List Frame), ∃ e a' w', Q e a' w' ∧ Arrives P (lone (b.at a (.code c :: .inLoop c :: k)) cs w) b k cs e a' w'

theorem loop_of {P : Program} {c : Code} {Q : Exit → Act → World → Prop} {a : Act} {w : World} (h : LoopWp P c Q a w) : (Code.loop c).wp P Q a w :=
  fun b k cs => let ⟨e, a', w', q, r⟩ := h b k cs; ⟨e, a', w', q, .of_steps (.one step_loop) r⟩

theorem loop_round {P : Program} {c : Code} {Q : Exit → Act → World → Prop} {a : Act} {w : World} (h : c.wp P (Exit.then (LoopWp P c Q) Q) a w) : LoopWp P c Q a w := by
  intro b k cs
  obtain ⟨e, a₁, w₁, hq, harr⟩ := h b (.inLoop c :: k) cs
  cases e with
  | normal =>
    obtain ⟨e₂, a₂, w₂, hq₂, harr₂⟩ := hq b k cs
    exact ⟨e₂, a₂, w₂, hq₂, .of_steps (Steps.trans harr (.one step_inLoop)) harr₂⟩
  | exit id => exact ⟨_, a₁, w₁, hq, .pass (x := .inLoop c) rfl (fun _ _ => .inl (by simp)) harr⟩
  | goto l => exact ⟨_, a₁, w₁, hq, .pass (x := .inLoop c) rfl (fun _ _ => .inl (by simp)) harr⟩
  | ret => exact ⟨_, a₁, w₁, hq, .pass (x := .inLoop c) rfl (fun _ _ => .inl (by simp)) harr⟩
  | panic ch => exact ⟨_, a₁, w₁, hq, .pass (x := .inLoop c) rfl (fun _ _ => .inl (by simp)) harr⟩
  | outgrown => exact ⟨_, a₁, w₁, hq, .pass (x := .inLoop c) rfl (fun _ _ => .inl (by simp)) harr⟩

def Lands (base : Nat) (h : Store) (E : Env) (x : X) (s2 : St) (a : Act) (Q : Exit → Act → World → Prop) : Prop :=
  ∀ E' a', Rel base s2.h E' → Step h E s2.h E' → VL E' s2.t a'.tmps.toList → a'.defers = a.defers → Q (exitOf x) a' E'.w

theorem Lands.next {base : Nat} {h h1 : Store} {E E1 : Env} {x : X} {s2 : St} {a a1 : Act} {Q : Exit → Act → World → Prop} (L : Lands base h E x s2 a Q) (R : Rel base h E) (S1 : Step h E h1 E1) (hd : a1.defers = a.defers) : Lands base h1 E1 x s2 a1 Q :=
  fun E' a' R' S' V' hd' => L E' a' R' (S1.trans S' R.lt) V' (hd'.trans hd)

def LoopOk (P : Program) (base : Nat) (I : Ifc) : Prop :=
  ∀ (c : Code) (d : Cd), cmp P c = some d → ∀ (s : St) (x : X) (s2 : St), I.loop (.loop d) s = some (x, s2) → ∀ (E : Env) (a : Act) (Q : Exit → Act → World → Prop), E.P = P → Rel base s.h E → VL E s.t a.tmps.toList → Lands base s.h E x s2 a Q → LoopWp P c Q a E.w

section
variable {P : Program} {base : Nat} {I : Ifc}

def ExecOk (P : Program) (base : Nat) (I : Ifc) (c : Code) : Prop :=
  ∀ (d : Cd), cmp P c = some d → ∀ (s : St) (x : X) (s2 : St), exec I d s = some (x, s2) → ∀ (E : Env) (a : Act) (Q : Exit → Act → World → Prop), E.P = P → Rel base s.h E → VL E s.t a.tmps.toList → Lands base s.h E x s2 a Q → c.wp P Q a E.w

theorem loop_sound (hL : LoopOk P base I) {c : Code} (ih : ExecOk P base I c) {d : Cd} (hc : cmp P c = some d) {s : St} {x : X} {s2 : St} (he : exec I (.loop d) s = some (x, s2)) {E : Env} {a : Act} {Q : Exit → Act → World → Prop} (hP : E.P = P) (R : Rel base s.h E) (V : VL E s.t a.tmps.toList) (L : Lands base s.h E x s2 a Q) : LoopWp P c Q a E.w := by
  unfold exec at he
  refine loop_round ?_
  split at he
  · rename_i s1 he1
    refine ih d hc s _ s1 he1 E a _ hP R V fun E' a' R' S' V' hd => ?_
    exact hL c d hc s1 x s2 he E' a' Q (S'.ext.P.trans hP) R' V' (L.next R S' hd)
  · rename_i hne
    refine ih d hc s x s2 he E a _ hP R V fun E' a' R' S' V' hd => ?_
    have := L E' a' R' S' V' hd
    cases x with
    | nor => exact absurd he (hne s2)
    | brk id => exact this
    | ret => exact this

theorem exec_sound (hm : P.follows .mixedOrders = true) (hI : I.o = Ops.std) (IH : CallOk P base I) (hF : FnsOk P I) (hL : LoopOk P base I) (c : Code) : ExecOk P base I c := by
  induction c with
  | skip =>
    intro d hc s x s2 he E a Q hP R V L
    cases hc; cases he
    exact wp_skip (L E a R (Step.refl _ E) V rfl)
  | exit id =>
    intro d hc s x s2 he E a Q hP R V L
    cases hc; cases he
    exact wp_exit (L E a R (Step.refl _ E) V rfl)
  | ret =>
    intro d hc s x s2 he E a Q hP R V L
    cases hc; cases he
    exact wp_ret (L E a R (Step.refl _ E) V rfl)
  | region id ops draw =>
    intro d hc s x s2 he E a Q hP R V L
    unfold cmp at hc
    split at hc
    · rename_i l hl
      have M := cmpIps_matches hl
      split at hc
      · cases hc
        unfold exec at he
        split at he
        · rename_i s' hs'
          cases he
          exact region_wp hI IH hF hP R V M hs' fun E' a' R' S' V' hd => L E' a' R' S' V' hd
        · cases he
      · split at hc
        · rename_i hd
          cases hc
          unfold exec at he
          split at he
          · rename_i s' hs'
            cases he
            rw [Bool.and_eq_true] at hd
            exact draw_wp hm hI IH hF hP R V (markU_matches M) (drawOk_spec hd.1) hs' fun E' a' R' S' V' hd => L E' a' R' S' V' hd
          · cases he
        · cases hc
    · cases hc
  | seq c1 c2 ih1 ih2 =>
    intro d hc s x s2 he E a Q hP R V L
    unfold cmp at hc
    split at hc
    · rename_i d1 d2 h1 h2
      cases hc
      unfold exec at he
      refine wp_seq ?_
      split at he
      · rename_i s1 he1
        refine ih1 d1 h1 s _ s1 he1 E a _ hP R V fun E' a' R' S' V' hd => ?_
        exact ih2 d2 h2 s1 x s2 he E' a' Q (S'.ext.P.trans hP) R' V' (L.next R S' hd)
      · rename_i hne
        refine ih1 d1 h1 s x s2 he E a _ hP R V fun E' a' R' S' V' hd => ?_
        have := L E' a' R' S' V' hd
        cases x with
        | nor => exact absurd he (hne s2)
        | brk id => exact this
        | ret => exact this
    · cases hc
  | cond o c1 c2 ih1 ih2 =>
    intro d hc s x s2 he E a Q hP R V L
    unfold cmp at hc
    split at hc
    · rename_i o' d1 d2 ho h1 h2
      cases hc
      unfold exec at he
      split at he
      · rename_i hb
        have hv := od_vl V ho
        rw [asBool_some hb] at hv
        exact wp_cond_true hv.sc_inv.1 (ih1 d1 h1 s x s2 he E a Q hP R V L)
      · rename_i hb
        have hv := od_vl V ho
        rw [asBool_some hb] at hv
        exact wp_cond_false hv.sc_inv.1 (ih2 d2 h2 s x s2 he E a Q hP R V L)
      · cases he
    · cases hc
  | block id c ih =>
    intro d hc s x s2 he E a Q hP R V L
    unfold cmp at hc
    obtain ⟨d1, h1, rfl⟩ := mapped hc
    unfold exec at he
    refine wp_block ?_
    split at he
    · rename_i j s1 he1
      refine ih d1 h1 s _ s1 he1 E a _ hP R V fun E' a' R' S' V' hd => ?_
      simp only [exitOf, Exit.inBlock]
      split at he
      · rename_i hji; cases he
        rw [if_pos hji]; exact L E' a' R' S' V' hd
      · rename_i hji; cases he
        rw [if_neg hji]; exact L E' a' R' S' V' hd
    · rename_i hne
      refine ih d1 h1 s x s2 he E a _ hP R V fun E' a' R' S' V' hd => ?_
      have := L E' a' R' S' V' hd
      cases x with
      | nor => exact this
      | brk id => exact absurd he (hne id s2)
      | ret => exact this
  | loop c ih =>
    intro d hc s x s2 he E a Q hP R V L
    unfold cmp at hc
    obtain ⟨d1, h1, rfl⟩ := mapped hc
    exact loop_of (loop_sound hL ih h1 he hP R V L)
  | _ => intro d hc; first | (unfold cmp at hc; cases hc; done) | (cases hc)
end
end Go.Ab
