/- Code: what the interpreter comes to is what the code comes to. -/
import Derived.Test.YtcnohiofldkcoabAbDraw4
namespace Go.Ab
open Go
set_option linter.unusedSimpArgs false
set_option linter.unusedVariables false

def exitOf : X → Exit
  | .nor => .normal
  | .brk id => .exit id
  | .ret => .ret

/-- A loop from the beginning of a round. -/
def LoopWp (P : Program) (c : Code) (Q : Exit → Act → World → Prop) (a : Act) (w : World) : Prop :=
  ∀ (b : Frame) (k : List Item) (cs : List Frame), ∃ e a' w', Q e a' w' ∧ Arrives P (lone (b.at a (.code c :: .inLoop c :: k)) cs w) b k cs e a' w'

theorem loop_of {P : Program} {c : Code} {Q : Exit → Act → World → Prop} {a : Act} {w : World} (h : LoopWp P c Q a w) : (Code.loop c).wp P Q a w :=
  fun b k cs => let ⟨e, a', w', q, r⟩ := h b k cs; ⟨e, a', w', q, .of_steps (.one step_loop) r⟩

theorem loop_round {P : Program} {c : Code} {Q : Exit → Act → World → Prop} {a : Act} {w : World} (h : c.wp P (Exit.then (LoopWp P c Q) Q) a w) : LoopWp P c Q a w := by
  intro b k cs
  obtain ⟨e, a₁, w₁, hq, harr⟩ := h b (.inLoop c :: k) cs
  cases e with
  | normal =>
    obtain ⟨e₂, a₂, w₂, hq₂, harr₂⟩ := hq b k cs
    exact ⟨e₂, a₂, w₂, hq₂, .of_steps (Steps.trans harr (.one step_inLoop)) harr₂⟩
  | exit id => exact ⟨_, a₁, w₁, hq, .pass (x := .inLoop c) rfl (fun _ _ => .inl (by simp)) harr⟩
  | goto l => exact ⟨_, a₁, w₁, hq, .pass (x := .inLoop c) rfl (fun _ _ => .inl (by simp)) harr⟩
  | ret => exact ⟨_, a₁, w₁, hq, .pass (x := .inLoop c) rfl (fun _ _ => .inl (by simp)) harr⟩
  | panic ch => exact ⟨_, a₁, w₁, hq, .pass (x := .inLoop c) rfl (fun _ _ => .inl (by simp)) harr⟩
  | outgrown => exact ⟨_, a₁, w₁, hq, .pass (x := .inLoop c) rfl (fun _ _ => .inl (by simp)) harr⟩

def Lands (base : Nat) (h : Store) (E : Env) (x : X) (s2 : St) (a : Act) (Q : Exit → Act → World → Prop) : Prop :=
  ∀ E' a', Rel base s2.h E' → Step h E s2.h E' → VL E' s2.t a'.tmps.toList → a'.defers = a.defers → Q (exitOf x) a' E'.w

theorem Lands.next {base : Nat} {h h1 : Store} {E E1 : Env} {x : X} {s2 : St} {a a1 : Act} {Q : Exit → Act → World → Prop} (L : Lands base h E x s2 a Q) (R : Rel base h E) (S1 : Step h E h1 E1) (hd : a1.defers = a.defers) : Lands base h1 E1 x s2 a1 Q :=
  fun E' a' R' S' V' hd' => L E' a' R' (S1.trans S' R.lt) V' (hd'.trans hd)

/-- A loop, from within: 'h0', 'E0' are as it was entered. -/
def LoopOk (P : Program) (base : Nat) (I : Ifc) : Prop :=
  ∀ (fz rt : List Nat) (ex : List (Nat × List Nat)) (af : List Nat) (c : Code) (d : Cd), cmp P fz rt ex af c = some d → ∀ (lv : List Nat) (m : Nat) (s : St) (x : X) (s2 : St), I.loop lv m d s = some (x, s2) →
    ∀ (h0 : Store) (E0 E : Env) (a : Act) (Q : Exit → Act → World → Prop), E.P = P → h0.length = m → E0.n = m → (∀ b, E0.own b → b < E0.w.heap.size) → Rel base s.h E → Step h0 E0 s.h E → VL E s.t a.tmps.toList → Lands base h0 E0 x s2 a Q → LoopWp P c Q a E.w

theorem clean_vl {E : Env} {lv : List Nat} : ∀ {t : List AV} {vs : List Value} (i : Nat), VL E t vs → VL E (clean lv i t) vs := by
  intro t
  induction t with
  | nil => intro vs i h; exact h
  | cons x t ih =>
    intro vs i h
    obtain ⟨v, us, rfl, h1, h2⟩ := h.uncons
    unfold clean
    cases lv.contains i with
    | true => exact h1.cons (ih (i + 1) h2)
    | false => exact .bad (ih (i + 1) h2)

/-- The environment of a store that was cut. -/
def cutEnv (E : Env) (n N : Nat) : Env := { E with n := n, gen := fun j => if j < N then E.gen j else none }

theorem cut_vl {E : Env} {N : Nat} {n : Nat} (hn : n = min N E.n) {l : List AV} {vs : List Value} (h : VL E l vs) : his l ≤ N → VL (cutEnv E n N) l vs := by
  induction h with
  | nil => intro _; exact .nil
  | data h _ it => intro hh; exact .data h (it (by simp only [his] at hh; omega))
  | agg _ _ ih it => intro hh; simp only [his, hi] at hh; exact .agg (ih (by omega)) (it (by omega))
  | tup _ _ ih it => intro hh; simp only [his, hi] at hh; exact .tup (ih (by omega)) (it (by omega))
  | sl hk hg h1 h _ it => intro hh; simp only [his, hi] at hh; exact .sl (by show _ < n; omega) hg h1 (fun hc => h (by simp only [cutEnv] at hc; rw [if_pos (by omega)] at hc; exact hc)) (it (by omega))
  | sub hk hg h1 h _ it => intro hh; simp only [his, hi] at hh; exact .sub (by show _ < n; omega) hg h1 (fun hc => h (by simp only [cutEnv] at hc; rw [if_pos (by omega)] at hc; exact hc)) (it (by omega))
  | @bptr b off r rs hk _ it => intro hh; simp only [his, hi] at hh; exact VL.bptr (E := cutEnv E n N) (by show _ < n; omega) (it (by omega))
  | rptr hk hg h1 h _ it => intro hh; simp only [his, hi] at hh; exact .rptr (by show _ < n; omega) hg h1 (fun hc => h (by simp only [cutEnv] at hc; rw [if_pos (by omega)] at hc; exact hc)) (it (by omega))
  | lptr hs h hr _ it => intro hh; simp only [his, hi] at hh; exact VL.lptr (E := cutEnv E n N) hs h hr (it (by omega))
  | fn _ _ ih it => intro hh; simp only [his, hi] at hh; exact .fn (ih (by omega)) (it (by omega))
  | bad _ it => intro hh; simp only [his, hi] at hh; exact .bad (it (by omega))

theorem hiS_box {h : Store} {k : Nat} {t : TypeId} {cs : List AV} : h[k]? = some (Ent.box t cs) → his cs ≤ hiS h := by
  induction h generalizing k with
  | nil => intro h; simp at h
  | cons e h ih =>
    intro hk
    cases k with
    | zero => simp at hk; subst hk; simp only [hiS]; omega
    | succ k =>
      have := ih (by simpa using hk)
      cases e <;> simp only [hiS] <;> omega

theorem cut_rel {base : Nat} {h0 h : Store} {E0 E : Env} {m N : Nat} (R : Rel base h E) (S : Step h0 E0 h E) (hm : E0.n = m) (hN : m ≤ N) (hh : hiS h ≤ N) : Rel base (h.take N) (cutEnv E (h.take N).length N) ∧ Step h0 E0 (h.take N) (cutEnv E (h.take N).length N) := by
  have hlen : (h.take N).length = min N E.n := by rw [List.length_take, R.n]
  have hget : ∀ k e, (h.take N)[k]? = some e → k < N ∧ h[k]? = some e := fun k e he => by
    rw [List.getElem?_take] at he
    split at he
    · rename_i hk; exact ⟨hk, he⟩
    · cases he
  have hblk : ∀ k b, blkOf (cutEnv E (h.take N).length N) (h.take N) k = some b → blkOf E h k = some b := fun k b hb => by
    obtain ⟨e, he, hbe⟩ := blkOf_some hb
    rw [blkOf_of (hget k e he).2]
    cases e with
    | box => exact hbe
    | row _ _ ro _ => cases ro <;> exact hbe
  refine ⟨⟨rfl, R.le, fun k e he => ?_, fun k hk => ?_, fun k b hb => R.own k b (hblk k b hb), fun i j b hi hj => R.inj i j b (hblk i b hi) (hblk j b hj), R.lt⟩,
    ⟨⟨S.ext.P, ?_, S.ext.top, fun k g hk hg hc => ?_, S.ext.box, S.ext.keep⟩, S.os, S.tape, S.output, S.size, S.heap, S.fresh, S.held, fun k b hb => S.blk k b (hblk k b hb)⟩⟩
  · obtain ⟨hk, he⟩ := hget k e he
    have hgen : (cutEnv E (h.take N).length N).gen k = E.gen k := if_pos hk
    have ho := R.ent k e he
    cases e with
    | box t cs =>
      obtain ⟨h1, h2, h3, h4, vals, h5, h6⟩ := ho
      exact ⟨by rw [hgen]; exact h1, h2, h3, h4, vals, h5, cut_vl hlen h6 (Nat.le_trans (hiS_box he) hh)⟩
    | row e g ro xs =>
      cases ro with
      | false =>
        obtain ⟨h1, h2⟩ := ho
        exact ⟨by rw [hgen]; exact h1, h2⟩
      | true =>
        obtain ⟨h1, h2⟩ := ho
        exact ⟨by rw [hgen]; exact h1, h2⟩
  · show (if k < N then E.gen k else none) = none
    split
    · rw [List.length_take] at hk; exact R.nogen k (by omega)
    · rfl
  · show E0.n ≤ (h.take N).length
    have := S.ext.n
    rw [hlen]; omega
  · have hc' : (if k < N then E.gen k else none) = some g := hc
    rw [if_pos (by omega)] at hc'
    exact S.ext.gen k g hk hg hc'

section
variable {P : Program} {base : Nat} {I : Ifc}

/-- What is told apart. -/
def SegOk (P : Program) (base : Nat) (I : Ifc) : Prop :=
  ∀ (c : Code) (fz rt : List Nat) (ex : List (Nat × List Nat)) (af : List Nat) (d : Cd), cmp P fz rt ex af c = some d → ∀ (ag : List Nat) (s : St) (x : X) (s2 : St), I.seg ag d s = some (x, s2) → ∀ (E : Env) (a : Act) (Q : Exit → Act → World → Prop), E.P = P → Rel base s.h E → VL E s.t a.tmps.toList → Lands base s.h E x s2 a Q → c.wp P Q a E.w

def ExecOk (P : Program) (base : Nat) (I : Ifc) (c : Code) : Prop :=
  ∀ (fz rt : List Nat) (ex : List (Nat × List Nat)) (af : List Nat) (d : Cd), cmp P fz rt ex af c = some d → ∀ (s : St) (x : X) (s2 : St), exec I d s = some (x, s2) → ∀ (E : Env) (a : Act) (Q : Exit → Act → World → Prop), E.P = P → Rel base s.h E → VL E s.t a.tmps.toList → Lands base s.h E x s2 a Q → c.wp P Q a E.w

theorem apart_sound {c : Code} (ih : ExecOk P base I c) {fz rt : List Nat} {ex : List (Nat × List Nat)} {af : List Nat} {d : Cd} (hc : cmp P fz rt ex af c = some d) {ag : List Nat} {s : St} {x : X} {s2 : St} (he : I.apart ag d s = some (x, s2)) {E : Env} {a : Act} {Q : Exit → Act → World → Prop} (hP : E.P = P) (R : Rel base s.h E) (V : VL E s.t a.tmps.toList) (L : Lands base s.h E x s2 a Q) : c.wp P Q a E.w := by
  unfold Ifc.apart at he
  split at he
  · rename_i s1 he1
    cases he
    exact ih fz rt ex af d hc s _ s1 he1 E a Q hP R V fun E' a' R' S' V' hd => L E' a' R' S' (clean_vl 0 V') hd
  · exact ih fz rt ex af d hc s x s2 he E a Q hP R V L

/-- One round, and what is behind it. -/
theorem loop_sound (hL : LoopOk P base I) {c : Code} (ih : ExecOk P base I c) {fz rt : List Nat} {ex : List (Nat × List Nat)} {af : List Nat} {d : Cd} (hc : cmp P fz rt ex af c = some d) {lv : List Nat} {m : Nat} {s : St} {x : X} {s2 : St}
    (he : I.round lv m d s = some (x, s2)) {h0 : Store} {E0 E : Env} {a : Act} {Q : Exit → Act → World → Prop} (hP : E.P = P) (hl : h0.length = m) (hm : E0.n = m) (hlt : ∀ b, E0.own b → b < E0.w.heap.size)
    (R : Rel base s.h E) (S : Step h0 E0 s.h E) (V : VL E s.t a.tmps.toList) (L : Lands base h0 E0 x s2 a Q) : LoopWp P c Q a E.w := by
  refine loop_round ?_
  have out : ∀ (x1 : X) (s1 : St), x1 ≠ .nor → exec I d s = some (x1, s1) → some (x1, snip m s1) = some (x, s2) → c.wp P (Exit.then (LoopWp P c Q) Q) a E.w := fun x1 s1 hne he1 he => by
    obtain ⟨rfl, rfl⟩ : x1 = x ∧ snip m s1 = s2 := by simpa using he
    refine ih fz rt ex af d hc s x1 s1 he1 E a _ hP R V fun E' a' R' S' V' hd => ?_
    have S1 := S.trans S' hlt
    obtain ⟨R2, S2⟩ := cut_rel (N := max m (max (his s1.t) (hiS s1.h))) R' S1 hm (by omega) (by omega)
    have V2 := cut_vl (E := E') (N := max m (max (his s1.t) (hiS s1.h))) (n := (s1.h.take (max m (max (his s1.t) (hiS s1.h)))).length) (by rw [List.length_take, R'.n]) V' (by omega)
    have := L (cutEnv E' (s1.h.take (max m (max (his s1.t) (hiS s1.h)))).length (max m (max (his s1.t) (hiS s1.h)))) a' R2 S2 V2 hd
    cases x1 with
    | nor => exact absurd rfl hne
    | brk id => exact this
    | ret => exact this
  unfold Ifc.round at he
  split at he
  · rename_i s1 he1
    refine ih fz rt ex af d hc s _ s1 he1 E a _ hP R V fun E' a' R' S' V' hd => ?_
    have S1 := S.trans S' hlt
    obtain ⟨R2, S2⟩ := cut_rel (N := max m (max (his (clean lv 0 s1.t)) (hiS s1.h))) R' S1 hm (by omega) (by omega)
    have V2 := cut_vl (E := E') (N := max m (max (his (clean lv 0 s1.t)) (hiS s1.h))) (n := (s1.h.take (max m (max (his (clean lv 0 s1.t)) (hiS s1.h)))).length) (by rw [List.length_take, R'.n]) (clean_vl (lv := lv) 0 V') (by omega)
    exact hL fz rt ex af c d hc lv m (tidy lv m s1) x s2 he h0 E0 (cutEnv E' (s1.h.take (max m (max (his (clean lv 0 s1.t)) (hiS s1.h)))).length (max m (max (his (clean lv 0 s1.t)) (hiS s1.h)))) a' Q (S'.ext.P.trans hP) hl hm hlt R2 S2 V2 (fun E3 a3 R3 S3 V3 hd3 => L E3 a3 R3 S3 V3 (hd3.trans hd))
  · rename_i id s1 he1
    exact out _ s1 (by simp) he1 he
  · rename_i s1 he1
    exact out _ s1 (by simp) he1 he
  · cases he

theorem exec_sound (hm : P.follows .mixedOrders = true) (hI : I.o = Ops.std) (IH : CallOk P base I) (hPr : PrimsOk P base I) (hF : FnsOk P I) (hL : LoopOk P base I) (hS : SegOk P base I) (c : Code) : ExecOk P base I c := by
  induction c with
  | skip =>
    intro fz rt ex af d hc s x s2 he E a Q hP R V L
    cases hc; cases he
    exact wp_skip (L E a R (Step.refl _ E) V rfl)
  | exit id =>
    intro fz rt ex af d hc s x s2 he E a Q hP R V L
    cases hc; cases he
    exact wp_exit (L E a R (Step.refl _ E) (clean_vl 0 V) rfl)
  | ret =>
    intro fz rt ex af d hc s x s2 he E a Q hP R V L
    cases hc; cases he
    exact wp_ret (L E a R (Step.refl _ E) (clean_vl 0 V) rfl)
  | region id ops draw =>
    intro fz rt ex af d hc s x s2 he E a Q hP R V L
    unfold cmp at hc
    split at hc
    · rename_i l hl
      have M := cmpIps_matches hl
      split at hc
      · cases hc
        unfold exec at he
        split at he
        · rename_i s' hs'
          cases he
          exact region_wp hI IH hPr hF hP R V M hs' fun E' a' R' S' V' hd => L E' a' R' S' V' hd
        · split at he
          · rename_i s' hs'
            cases he
            exact region_wp hI IH hPr hF hP R V M hs' fun E' a' R' S' V' hd => L E' a' R' S' V' hd
          · cases he
      · split at hc
        · rename_i hd
          cases hc
          unfold exec at he
          split at he
          · rename_i s' hs'
            cases he
            rw [Bool.and_eq_true] at hd
            exact draw_wp hm hI IH hPr hF hP R V (markU_matches M) (drawOk_spec hd.1) hs' fun E' a' R' S' V' hd => L E' a' R' S' V' hd
          · split at he
            · rename_i s' hs'
              cases he
              rw [Bool.and_eq_true] at hd
              exact draw_wp hm hI IH hPr hF hP R V (markU_matches M) (drawOk_spec hd.1) hs' fun E' a' R' S' V' hd => L E' a' R' S' V' hd
            · cases he
        · cases hc
    · cases hc
  | seq c1 c2 ih1 ih2 =>
    intro fz rt ex af d hc s x s2 he E a Q hP R V L
    unfold cmp at hc
    split at hc
    · rename_i d2 h2
      split at hc
      · rename_i d1 h1
        cases hc
        unfold exec at he
        refine wp_seq ?_
        split at he
        · rename_i s1 he1
          refine ih1 fz rt ex _ d1 h1 s _ s1 he1 E a _ hP R V fun E' a' R' S' V' hd => ?_
          have plain : exec I d2 s1 = some (x, s2) → c2.wp P Q a' E'.w := fun he => ih2 fz rt ex af d2 h2 s1 x s2 he E' a' Q (S'.ext.P.trans hP) R' V' (L.next R S' hd)
          unfold mkSeg at he
          split at he
          · split at he
            · simp only [exec] at he
              exact hS c2 fz rt ex af d2 h2 _ _ x s2 he E' a' Q (S'.ext.P.trans hP) R' (clean_vl 0 V') (L.next R S' hd)
            · exact plain he
          · exact plain he
        · rename_i hne
          refine ih1 fz rt ex _ d1 h1 s x s2 he E a _ hP R V fun E' a' R' S' V' hd => ?_
          have := L E' a' R' S' V' hd
          cases x with
          | nor => exact absurd he (hne s2)
          | brk id => exact this
          | ret => exact this
      · cases hc
    · cases hc
  | cond o c1 c2 ih1 ih2 =>
    intro fz rt ex af d hc s x s2 he E a Q hP R V L
    unfold cmp at hc
    split at hc
    · rename_i o' d1 d2 ho h1 h2
      cases hc
      unfold exec at he
      split at he
      · rename_i hb
        have hv := od_vl V ho
        rw [asBool_some hb] at hv
        exact wp_cond_true hv.sc_inv.1 (ih1 fz rt ex af d1 h1 s x s2 he E a Q hP R V L)
      · rename_i hb
        have hv := od_vl V ho
        rw [asBool_some hb] at hv
        exact wp_cond_false hv.sc_inv.1 (ih2 fz rt ex af d2 h2 s x s2 he E a Q hP R V L)
      · cases he
    · cases hc
  | block id c ih =>
    intro fz rt ex af d hc s x s2 he E a Q hP R V L
    unfold cmp at hc
    obtain ⟨d1, h1, rfl⟩ := mapped hc
    unfold exec at he
    refine wp_block ?_
    split at he
    · rename_i j s1 he1
      refine ih fz rt ((id, af) :: ex) af d1 h1 s _ s1 he1 E a _ hP R V fun E' a' R' S' V' hd => ?_
      simp only [exitOf, Exit.inBlock]
      split at he
      · rename_i hji; cases he
        rw [if_pos hji]; exact L E' a' R' S' V' hd
      · rename_i hji; cases he
        rw [if_neg hji]; exact L E' a' R' S' V' hd
    · rename_i hne
      refine ih fz rt ((id, af) :: ex) af d1 h1 s x s2 he E a _ hP R V fun E' a' R' S' V' hd => ?_
      have := L E' a' R' S' V' hd
      cases x with
      | nor => exact this
      | brk id => exact absurd he (hne id s2)
      | ret => exact this
  | loop c ih =>
    intro fz rt ex af d hc s x s2 he E a Q hP R V L
    unfold cmp at hc
    split at hc
    · split at hc
      · rename_i d2 h2
        cases hc
        simp only [exec] at he
        exact loop_of (hL fz rt ex _ c d2 h2 _ _ _ x s2 he s.h E E a Q hP rfl R.n R.lt R (Step.refl _ E) (clean_vl 0 V) L)
      · cases hc
    · cases hc
  | _ => intro fz rt ex af d hc; first | (unfold cmp at hc; cases hc; done) | (cases hc)
end
end Go.Ab
