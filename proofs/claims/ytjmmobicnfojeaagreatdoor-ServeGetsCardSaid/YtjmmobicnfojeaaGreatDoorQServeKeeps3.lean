/- Our texts for this statement, merged: what its theorem leads to. -/
import Derived.Shelf.SlicesE.Clone
import Derived.Deep.Slices
import Derived.Shelf.Spec.SlicesInsertGrow
import Derived.Shelf.Unicode.DecodeAny
import Derived.KernelRfl
import Derived.Test.YtjmmobicnfojeaaGreatDoorProg
import Derived.Test.YtjmmobicnfojeaaGreatDoorQServeKeeps2
namespace Go.Ab
open Go
set_option linter.unusedSimpArgs false
set_option linter.unusedVariables false
def exitOf : X → Exit
  | .nor => .normal
  | .brk id => .exit id
  | .ret => .ret
def LoopWp (P : Program) (c : Code) (Q : Exit → Act → World → Prop) (a : Act) (w : World) : Prop :=
  ∀ (b : Frame) (k : List Item) (cs : List Frame), ∃ e a' w', Q e a' w' ∧ Arrives P (lone (b.at a (.code c :: .inLoop c :: k)) cs w) b k cs e a' w'
theorem loop_of {P : Program} {c : Code} {Q : Exit → Act → World → Prop} {a : Act} {w : World} (h : LoopWp P c Q a w) : (Code.loop c).wp P Q a w :=
  fun b k cs => let ⟨e, a', w', q, r⟩ := h b k cs; ⟨e, a', w', q, .of_steps (.one step_loop) r⟩
theorem loop_round {P : Program} {c : Code} {Q : Exit → Act → World → Prop} {a : Act} {w : World} (h : c.wp P (Exit.then (LoopWp P c Q) Q) a w) : LoopWp P c Q a w := by
  intro b k cs
  obtain ⟨e, a₁, w₁, hq, harr⟩ := h b (.inLoop c :: k) cs
  cases e with
  | normal =>
    obtain ⟨e₂, a₂, w₂, hq₂, harr₂⟩ := hq b k cs
    exact ⟨e₂, a₂, w₂, hq₂, .of_steps (Steps.trans harr (.one step_inLoop)) harr₂⟩
  | exit id => exact ⟨_, a₁, w₁, hq, .pass (x := .inLoop c) rfl (fun _ _ => .inl (by simp)) harr⟩
  | goto l => exact ⟨_, a₁, w₁, hq, .pass (x := .inLoop c) rfl (fun _ _ => .inl (by simp)) harr⟩
  | ret => exact ⟨_, a₁, w₁, hq, .pass (x := .inLoop c) rfl (fun _ _ => .inl (by simp)) harr⟩
  | panic ch => exact ⟨_, a₁, w₁, hq, .pass (x := .inLoop c) rfl (fun _ _ => .inl (by simp)) harr⟩
  | outgrown => exact ⟨_, a₁, w₁, hq, .pass (x := .inLoop c) rfl (fun _ _ => .inl (by simp)) harr⟩
def Lands (base : Base) (h : Store) (E : Env) (x : X) (s2 : St) (a : Act) (Q : Exit → Act → World → Prop) : Prop :=
  ∀ E' a', Rel base s2.h E' → Step h E s2.h E' → VL E' s2.t a'.tmps.toList → a'.defers = a.defers → Q (exitOf x) a' E'.w
theorem Lands.next {base : Base} {h h1 : Store} {E E1 : Env} {x : X} {s2 : St} {a a1 : Act} {Q : Exit → Act → World → Prop} (L : Lands base h E x s2 a Q) (R : Rel base h E) (S1 : Step h E h1 E1) (hd : a1.defers = a.defers) : Lands base h1 E1 x s2 a1 Q :=
  fun E' a' R' S' V' hd' => L E' a' R' (S1.trans S' R.lt) V' (hd'.trans hd)
def LoopOk (P : Program) (base : Base) (I : Ifc) : Prop :=
  ∀ (fz rt : List Nat) (ex : List (Nat × List Nat)) (af : List Nat) (c : Code) (d : Cd), cmp P fz rt ex af c = some d → ∀ (lv : List Nat) (m : Nat) (s : St) (x : X) (s2 : St), I.loop lv m d s = some (x, s2) →
    ∀ (h0 : Store) (E0 E : Env) (a : Act) (Q : Exit → Act → World → Prop), E.P = P → h0.length = m → E0.n = m → (∀ b, E0.own b → b < E0.w.heap.size) → Rel base s.h E → Step h0 E0 s.h E → VL E s.t a.tmps.toList → Lands base h0 E0 x s2 a Q → LoopWp P c Q a E.w
theorem clean_vl {E : Env} {lv : List Nat} : ∀ {t : List AV} {vs : List Value} (i : Nat), VL E t vs → VL E (clean lv i t) vs := by
  intro t
  induction t with
  | nil => intro vs i h; exact h
  | cons x t ih =>
    intro vs i h
    obtain ⟨v, us, rfl, h1, h2⟩ := h.uncons
    unfold clean
    cases lv.contains i with
    | true => exact h1.cons (ih (i + 1) h2)
    | false => exact .bad (ih (i + 1) h2)
def cutEnv (E : Env) (n N : Nat) : Env := { E with n := n, gen := fun j => if j < N then E.gen j else none }
theorem cut_vl {E : Env} {N : Nat} {n : Nat} (hn : n = min N E.n) {l : List AV} {vs : List Value} (h : VL E l vs) : his l ≤ N → VL (cutEnv E n N) l vs := by
  induction h with
  | nil => intro _; exact .nil
  | data h _ it => intro hh; exact .data h (it (by simp only [his] at hh; omega))
  | agg _ _ ih it => intro hh; simp only [his, hi] at hh; exact .agg (ih (by omega)) (it (by omega))
  | tup _ _ ih it => intro hh; simp only [his, hi] at hh; exact .tup (ih (by omega)) (it (by omega))
  | sl hk hg h1 h _ it => intro hh; simp only [his, hi] at hh; exact .sl (by show _ < n; omega) hg h1 (fun hc => h (by simp only [cutEnv] at hc; rw [if_pos (by omega)] at hc; exact hc)) (it (by omega))
  | sub hk hg h1 h _ it => intro hh; simp only [his, hi] at hh; exact .sub (by show _ < n; omega) hg h1 (fun hc => h (by simp only [cutEnv] at hc; rw [if_pos (by omega)] at hc; exact hc)) (it (by omega))
  | @bptr b off r rs hk hgn _ it => intro hh; simp only [his, hi] at hh; exact VL.bptr (E := cutEnv E n N) (by show _ < n; omega) (by show (if b < N then E.gen b else none) = none; rw [if_pos (by omega)]; exact hgn) (it (by omega))
  | rptr hk hg h1 h _ it => intro hh; simp only [his, hi] at hh; exact .rptr (by show _ < n; omega) hg h1 (fun hc => h (by simp only [cutEnv] at hc; rw [if_pos (by omega)] at hc; exact hc)) (it (by omega))
  | lptr hs h hr _ it => intro hh; simp only [his, hi] at hh; exact VL.lptr (E := cutEnv E n N) hs h hr (it (by omega))
  | fn _ _ ih it => intro hh; simp only [his, hi] at hh; exact .fn (ih (by omega)) (it (by omega))
  | bad _ it => intro hh; simp only [his, hi] at hh; exact .bad (it (by omega))
theorem hiS_box {h : Store} {k : Nat} {t : TypeId} {cs : List AV} : h[k]? = some (Ent.box t cs) → his cs ≤ hiS h := by
  induction h generalizing k with
  | nil => intro h; simp at h
  | cons e h ih =>
    intro hk
    cases k with
    | zero => simp at hk; subst hk; simp only [hiS]; omega
    | succ k =>
      have := ih (by simpa using hk)
      cases e <;> simp only [hiS] <;> omega
theorem cut_rel {base : Base} {h0 h : Store} {E0 E : Env} {m N : Nat} (R : Rel base h E) (S : Step h0 E0 h E) (hm : E0.n = m) (hN : m ≤ N) (hh : hiS h ≤ N) : Rel base (h.take N) (cutEnv E (h.take N).length N) ∧ Step h0 E0 (h.take N) (cutEnv E (h.take N).length N) := by
  have hlen : (h.take N).length = min N E.n := by rw [List.length_take, R.n]
  have hget : ∀ k e, (h.take N)[k]? = some e → k < N ∧ h[k]? = some e := fun k e he => by
    rw [List.getElem?_take] at he
    split at he
    · rename_i hk; exact ⟨hk, he⟩
    · cases he
  have hblk : ∀ k b, blkOf (cutEnv E (h.take N).length N) (h.take N) k = some b → blkOf E h k = some b := fun k b hb => by
    obtain ⟨e, he, hbe⟩ := blkOf_some hb
    rw [blkOf_of (hget k e he).2]
    cases e with
    | box => exact hbe
    | it => exact hbe
    | row _ _ ro _ => cases ro <;> exact hbe
  refine ⟨⟨rfl, R.lo, fun k e he => ?_, fun k hk => ?_, fun k b hb => R.own k b (hblk k b hb), fun i j b hi hj => R.inj i j b (hblk i b hi) (hblk j b hj), R.lt⟩,
    ⟨⟨S.ext.P, ?_, S.ext.top, fun k g hk hg hc => ?_, fun k hk hg => ⟨by
      show (if k < N then E.gen k else none) = none
      split
      · exact (S.ext.box k hk hg).1
      · rfl, (S.ext.box k hk hg).2⟩, S.ext.keep⟩, S.os, S.tape, S.output, S.size, S.heap, S.fresh, S.held, fun k b hb => S.blk k b (hblk k b hb)⟩⟩
  · obtain ⟨hk, he⟩ := hget k e he
    have hgen : (cutEnv E (h.take N).length N).gen k = E.gen k := if_pos hk
    have ho := R.ent k e he
    cases e with
    | box t cs =>
      obtain ⟨h1, h2, h3, h4, vals, h5, h6⟩ := ho
      exact ⟨by rw [hgen]; exact h1, h2, h3, h4, vals, h5, cut_vl hlen h6 (Nat.le_trans (hiS_box he) hh)⟩
    | row e g ro xs =>
      cases ro with
      | false =>
        obtain ⟨h1, h2⟩ := ho
        exact ⟨by rw [hgen]; exact h1, h2⟩
      | true =>
        obtain ⟨h1, h2⟩ := ho
        exact ⟨by rw [hgen]; exact h1, h2⟩
    | it s pos =>
      obtain ⟨h1, h2⟩ := ho
      exact ⟨by rw [hgen]; exact h1, h2⟩
  · show (if k < N then E.gen k else none) = none
    split
    · rw [List.length_take] at hk; exact R.nogen k (by omega)
    · rfl
  · show E0.n ≤ (h.take N).length
    have := S.ext.n
    rw [hlen]; omega
  · have hc' : (if k < N then E.gen k else none) = some g := hc
    rw [if_pos (by omega)] at hc'
    exact S.ext.gen k g hk hg hc'
section
variable {P : Program} {base : Base} {I : Ifc}
def SegOk (P : Program) (base : Base) (I : Ifc) : Prop :=
  ∀ (c : Code) (fz rt : List Nat) (ex : List (Nat × List Nat)) (af : List Nat) (d : Cd), cmp P fz rt ex af c = some d → ∀ (ag : List Nat) (s : St) (x : X) (s2 : St), I.seg ag d s = some (x, s2) → ∀ (E : Env) (a : Act) (Q : Exit → Act → World → Prop), E.P = P → Rel base s.h E → VL E s.t a.tmps.toList → Lands base s.h E x s2 a Q → c.wp P Q a E.w
def ExecOk (P : Program) (base : Base) (I : Ifc) (c : Code) : Prop :=
  ∀ (fz rt : List Nat) (ex : List (Nat × List Nat)) (af : List Nat) (d : Cd), cmp P fz rt ex af c = some d → ∀ (s : St) (x : X) (s2 : St), exec I d s = some (x, s2) → ∀ (E : Env) (a : Act) (Q : Exit → Act → World → Prop), E.P = P → Rel base s.h E → VL E s.t a.tmps.toList → Lands base s.h E x s2 a Q → c.wp P Q a E.w
theorem apart_sound {c : Code} (ih : ExecOk P base I c) {fz rt : List Nat} {ex : List (Nat × List Nat)} {af : List Nat} {d : Cd} (hc : cmp P fz rt ex af c = some d) {ag : List Nat} {s : St} {x : X} {s2 : St} (he : I.apart ag d s = some (x, s2)) {E : Env} {a : Act} {Q : Exit → Act → World → Prop} (hP : E.P = P) (R : Rel base s.h E) (V : VL E s.t a.tmps.toList) (L : Lands base s.h E x s2 a Q) : c.wp P Q a E.w := by
  have hm : E.n = s.h.length := R.n
  have out : ∀ (x1 : X) (s1 : St) (t1 : List AV), exec I d s = some (x1, s1) → (∀ (E' : Env) (vs : List Value), VL E' s1.t vs → VL E' t1 vs) → x1 = x → snip s.h.length ⟨t1, s1.h⟩ = s2 → c.wp P Q a E.w := fun x1 s1 t1 he1 ht hx hs => by
    subst hx
    subst hs
    refine ih fz rt ex af d hc s x1 s1 he1 E a Q hP R V fun E' a' R' S' V' hd => ?_
    obtain ⟨R2, S2⟩ := cut_rel (N := max s.h.length (max (his t1) (hiS s1.h))) R' S' hm (by omega) (by omega)
    have V2 := cut_vl (E := E') (N := max s.h.length (max (his t1) (hiS s1.h))) (n := (s1.h.take (max s.h.length (max (his t1) (hiS s1.h)))).length) (by rw [List.length_take, R'.n]) (ht E' _ V') (by omega)
    exact L (cutEnv E' (s1.h.take (max s.h.length (max (his t1) (hiS s1.h)))).length (max s.h.length (max (his t1) (hiS s1.h)))) a' R2 S2 V2 hd
  unfold Ifc.apart at he
  split at he
  · rename_i s1 he1
    injection he with he; injection he with h1 h2
    exact out _ s1 _ he1 (fun E' vs hv => clean_vl 0 hv) h1 h2
  · rename_i id s1 he1
    injection he with he; injection he with h1 h2
    exact out _ s1 s1.t he1 (fun E' vs hv => hv) h1 h2
  · rename_i s1 he1
    injection he with he; injection he with h1 h2
    exact out _ s1 s1.t he1 (fun E' vs hv => hv) h1 h2
  · cases he
theorem loop_sound (hL : LoopOk P base I) {c : Code} (ih : ExecOk P base I c) {fz rt : List Nat} {ex : List (Nat × List Nat)} {af : List Nat} {d : Cd} (hc : cmp P fz rt ex af c = some d) {lv : List Nat} {m : Nat} {s : St} {x : X} {s2 : St}
    (he : I.round lv m d s = some (x, s2)) {h0 : Store} {E0 E : Env} {a : Act} {Q : Exit → Act → World → Prop} (hP : E.P = P) (hl : h0.length = m) (hm : E0.n = m) (hlt : ∀ b, E0.own b → b < E0.w.heap.size)
    (R : Rel base s.h E) (S : Step h0 E0 s.h E) (V : VL E s.t a.tmps.toList) (L : Lands base h0 E0 x s2 a Q) : LoopWp P c Q a E.w := by
  refine loop_round ?_
  have out : ∀ (x1 : X) (s1 : St), x1 ≠ .nor → exec I d s = some (x1, s1) → some (x1, snip m s1) = some (x, s2) → c.wp P (Exit.then (LoopWp P c Q) Q) a E.w := fun x1 s1 hne he1 he => by
    obtain ⟨rfl, rfl⟩ : x1 = x ∧ snip m s1 = s2 := by simpa using he
    refine ih fz rt ex af d hc s x1 s1 he1 E a _ hP R V fun E' a' R' S' V' hd => ?_
    have S1 := S.trans S' hlt
    obtain ⟨R2, S2⟩ := cut_rel (N := max m (max (his s1.t) (hiS s1.h))) R' S1 hm (by omega) (by omega)
    have V2 := cut_vl (E := E') (N := max m (max (his s1.t) (hiS s1.h))) (n := (s1.h.take (max m (max (his s1.t) (hiS s1.h)))).length) (by rw [List.length_take, R'.n]) V' (by omega)
    have := L (cutEnv E' (s1.h.take (max m (max (his s1.t) (hiS s1.h)))).length (max m (max (his s1.t) (hiS s1.h)))) a' R2 S2 V2 hd
    cases x1 with
    | nor => exact absurd rfl hne
    | brk id => exact this
    | ret => exact this
  unfold Ifc.round at he
  split at he
  · rename_i s1 he1
    refine ih fz rt ex af d hc s _ s1 he1 E a _ hP R V fun E' a' R' S' V' hd => ?_
    have S1 := S.trans S' hlt
    obtain ⟨R2, S2⟩ := cut_rel (N := max m (max (his (clean lv 0 s1.t)) (hiS s1.h))) R' S1 hm (by omega) (by omega)
    have V2 := cut_vl (E := E') (N := max m (max (his (clean lv 0 s1.t)) (hiS s1.h))) (n := (s1.h.take (max m (max (his (clean lv 0 s1.t)) (hiS s1.h)))).length) (by rw [List.length_take, R'.n]) (clean_vl (lv := lv) 0 V') (by omega)
    exact hL fz rt ex af c d hc lv m (tidy lv m s1) x s2 he h0 E0 (cutEnv E' (s1.h.take (max m (max (his (clean lv 0 s1.t)) (hiS s1.h)))).length (max m (max (his (clean lv 0 s1.t)) (hiS s1.h)))) a' Q (S'.ext.P.trans hP) hl hm hlt R2 S2 V2 (fun E3 a3 R3 S3 V3 hd3 => L E3 a3 R3 S3 V3 (hd3.trans hd))
  · rename_i id s1 he1
    exact out _ s1 (by simp) he1 he
  · rename_i s1 he1
    exact out _ s1 (by simp) he1 he
  · cases he
theorem exec_sound (hm : P.follows .mixedOrders = true) (hI : I.o = Ops.std) (IH : CallOk P base I) (hPr : PrimsOk P base I) (hF : FnsOk P I) (hL : LoopOk P base I) (hS : SegOk P base I) (c : Code) : ExecOk P base I c := by
  induction c with
  | skip =>
    intro fz rt ex af d hc s x s2 he E a Q hP R V L
    cases hc; cases he
    exact wp_skip (L E a R (Step.refl _ E) V rfl)
  | exit id =>
    intro fz rt ex af d hc s x s2 he E a Q hP R V L
    cases hc; cases he
    exact wp_exit (L E a R (Step.refl _ E) (clean_vl 0 V) rfl)
  | ret =>
    intro fz rt ex af d hc s x s2 he E a Q hP R V L
    cases hc; cases he
    exact wp_ret (L E a R (Step.refl _ E) (clean_vl 0 V) rfl)
  | region id ops draw =>
    intro fz rt ex af d hc s x s2 he E a Q hP R V L
    unfold cmp at hc
    split at hc
    · rename_i l hl
      have M := cmpIps_matches hl
      split at hc
      · cases hc
        unfold exec at he
        split at he
        · rename_i s' hs'
          cases he
          obtain ⟨md, _, hs'⟩ := try_some hs'
          exact region_wp hI IH hPr hF hP R V M hs' fun E' a' R' S' V' hd => L E' a' R' S' V' hd
        · cases he
      · split at hc
        · rename_i hd
          cases hc
          unfold exec at he
          split at he
          · rename_i s' hs'
            cases he
            rw [Bool.and_eq_true] at hd
            obtain ⟨md, _, hs'⟩ := try_some hs'
            exact draw_wp hm hI IH hPr hF hP R V (markU_matches M) (drawOk_spec hd.1) hs' fun E' a' R' S' V' hd => L E' a' R' S' V' hd
          · cases he
        · split at hc
          · rename_i hd
            cases hc
            rw [Bool.and_eq_true, Bool.and_eq_true] at hd
            have key : ∀ (s' s3 : St) (md0 md : Nat), evOps I md0 (hoistL (Region.before ops) l) s = some s' → evOps I md (markH (Region.before ops) l (markU (Region.before ops) (unbox (Region.before ops) l))) s' = some s3 → x = .nor → s2 = s3 → (Code.region id ops true).wp P Q a E.w := fun s' s3 md0 md h1 h2 hx hs => by
              subst hx hs
              exact hoist_wp hm hI IH hPr hF hP R V M hd.1.1 hd.2 h1 h2 fun E' a' R' S' V' hd => L E' a' R' S' V' hd
            simp only [exec] at he
            split at he
            · rename_i s' hs'
              split at hs'
              · rename_i s1 hs1
                cases hs'
                obtain ⟨md0, _, hs1⟩ := try_some hs1
                split at he
                · rename_i s3 hs3
                  cases he
                  obtain ⟨md, _, hs3⟩ := try_some hs3
                  exact key _ _ md0 md hs1 hs3 rfl rfl
                · cases he
              · cases hs'
            · rename_i hno
              split at he
              · rename_i s1 hs1
                rename_i hs1
                exact absurd (by rw [hs1]) (hno s1)
              · cases he
          · cases hc
    · cases hc
  | seq c1 c2 ih1 ih2 =>
    intro fz rt ex af d hc s x s2 he E a Q hP R V L
    unfold cmp at hc
    split at hc
    · rename_i d2 h2
      split at hc
      · rename_i d1 h1
        cases hc
        unfold exec at he
        refine wp_seq ?_
        split at he
        · rename_i s1 he1
          refine ih1 fz rt ex _ d1 h1 s _ s1 he1 E a _ hP R V fun E' a' R' S' V' hd => ?_
          have plain : exec I d2 s1 = some (x, s2) → c2.wp P Q a' E'.w := fun he => ih2 fz rt ex af d2 h2 s1 x s2 he E' a' Q (S'.ext.P.trans hP) R' V' (L.next R S' hd)
          unfold mkSeg at he
          split at he
          · split at he
            · simp only [exec] at he
              exact hS c2 fz rt ex af d2 h2 _ _ x s2 he E' a' Q (S'.ext.P.trans hP) R' (clean_vl 0 V') (L.next R S' hd)
            · exact plain he
          · exact plain he
        · rename_i hne
          refine ih1 fz rt ex _ d1 h1 s x s2 he E a _ hP R V fun E' a' R' S' V' hd => ?_
          have := L E' a' R' S' V' hd
          cases x with
          | nor => exact absurd he (hne s2)
          | brk id => exact this
          | ret => exact this
      · cases hc
    · cases hc
  | cond o c1 c2 ih1 ih2 =>
    intro fz rt ex af d hc s x s2 he E a Q hP R V L
    unfold cmp at hc
    split at hc
    · rename_i o' d1 d2 ho h1 h2
      cases hc
      unfold exec at he
      split at he
      · rename_i hb
        have hv := od_vl V ho
        rw [asBool_some hb] at hv
        exact wp_cond_true hv.sc_inv.1 (ih1 fz rt ex af d1 h1 s x s2 he E a Q hP R V L)
      · rename_i hb
        have hv := od_vl V ho
        rw [asBool_some hb] at hv
        exact wp_cond_false hv.sc_inv.1 (ih2 fz rt ex af d2 h2 s x s2 he E a Q hP R V L)
      · cases he
    · cases hc
  | block id c ih =>
    intro fz rt ex af d hc s x s2 he E a Q hP R V L
    unfold cmp at hc
    obtain ⟨d1, h1, rfl⟩ := mapped hc
    unfold exec at he
    refine wp_block ?_
    split at he
    · rename_i j s1 he1
      refine ih fz rt ((id, af) :: ex) af d1 h1 s _ s1 he1 E a _ hP R V fun E' a' R' S' V' hd => ?_
      simp only [exitOf, Exit.inBlock]
      split at he
      · rename_i hji; cases he
        rw [if_pos hji]; exact L E' a' R' S' V' hd
      · rename_i hji; cases he
        rw [if_neg hji]; exact L E' a' R' S' V' hd
    · rename_i hne
      refine ih fz rt ((id, af) :: ex) af d1 h1 s x s2 he E a _ hP R V fun E' a' R' S' V' hd => ?_
      have := L E' a' R' S' V' hd
      cases x with
      | nor => exact this
      | brk id => exact absurd he (hne id s2)
      | ret => exact this
  | loop c ih =>
    intro fz rt ex af d hc s x s2 he E a Q hP R V L
    unfold cmp at hc
    split at hc
    · split at hc
      · rename_i d2 h2
        cases hc
        simp only [exec] at he
        exact loop_of (hL fz rt ex _ c d2 h2 _ _ _ x s2 he s.h E E a Q hP rfl R.n R.lt R (Step.refl _ E) (clean_vl 0 V) L)
      · cases hc
    · cases hc
  | _ => intro fz rt ex af d hc; first | (unfold cmp at hc; cases hc; done) | (cases hc)
end
end Go.Ab
namespace Go.Ab
open Go
set_option linter.unusedSimpArgs false
set_option linter.unusedVariables false
theorem load_ptr {base : Base} {h : Store} {E : Env} (R : Rel base h E) {o : Ops} {ag : Bool} {n : Nat} {p v : AV} {pv : Value} (hp : VL E [p] [pv]) (hl : loadAt o h ag n p = some v) : ∃ A, pv = .pointer (some A) := by
  cases p with
  | bptr b off => obtain ⟨_, rfl⟩ := hp.bptr_inv; exact ⟨_, rfl⟩
  | rptr k g i off =>
    simp only [loadAt] at hl
    split at hl
    · rename_i hr
      obtain ⟨_, _, h1⟩ := hp.rptr_inv
      obtain ⟨hgen, _⟩ := row_reads R hr
      obtain ⟨b, _, rfl⟩ := h1 hgen
      exact ⟨_, rfl⟩
    · cases hl
  | lptr e xs i off => obtain ⟨b, o, vals, _, _, _, rfl⟩ := hp.lptr_inv; exact ⟨_, rfl⟩
  | _ => simp only [loadAt] at hl; cases hl
def resOne (tmps : Array Value) : ResultVar → Sem Value
  | .tmp t => pure (tmps.getD t undef)
  | .cell a t => do loadVar t (← asAddr (tmps.getD a undef))
theorem results_run {P : Program} {base : Base} {h : Store} {E : Env} (R : Rel base h E) (hP : E.P = P) {t : List AV} {tmps : Array Value} (V : VL E t tmps.toList) (rl : List ResultVar) : ∀ {rs : List Rs} {avs : List AV}, cmpRs P rl = some rs → Go.Ab.results Ops.std ⟨t, h⟩ rs = some avs →
    ∃ us, (rl.mapM (resOne tmps)).run P E.w = Result.ok us E.w ∧ VL E avs us := by
  induction rl with
  | nil => intro rs avs hc hr; cases hc; simp only [Go.Ab.results] at hr; cases hr; exact ⟨[], by simp, .nil⟩
  | cons x rl ih =>
    intro rs avs hc hr
    cases x with
    | tmp n =>
      simp only [cmpRs] at hc
      obtain ⟨rs', hrs, rfl⟩ := mapped hc
      simp only [Go.Ab.results] at hr
      split at hr
      · rename_i l hl
        cases hr
        obtain ⟨us, h1, h2⟩ := ih hrs hl
        exact ⟨tmps.getD n undef :: us, by simp [List.mapM_cons, h1, resOne], (VL.of_getD V n).cons h2⟩
      · cases hr
    | cell a ty =>
      simp only [cmpRs] at hc
      split at hc
      · rename_i ag rs' hag hrs
        split at hc
        · rename_i hi
          cases hc
          simp only [Go.Ab.results] at hr
          split at hr
          · rename_i v l hv hl
            cases hr
            obtain ⟨us, h1, h2⟩ := ih hrs hl
            have hav := VL.of_getD V a
            obtain ⟨A, hA⟩ := load_ptr R hav hv
            obtain ⟨v', h3, h4⟩ := load_sound R hP hag hi hav hv
            rw [hA] at h3
            have h5 : (loadVar ty A).run P E.w = .ok v' E.w := by simpa [Instr.loadAt, Instr.sureAddr] using h3
            refine ⟨v' :: us, ?_, h4.cons h2⟩
            rw [Array.getD_eq_getD_getElem?] at hA
            simp [List.mapM_cons, h1, resOne, hA, asAddr, h5]
          · cases hr
        · cases hc
      · cases hc
theorem outer_some (n : Nat) : ∀ {h s : Store}, outer n h = some s → s.length = n ∧ n ≤ h.length ∧ ∀ k, k < n → s[k]? = h[k]? ∧ ∃ t cs, h[k]? = some (Ent.box t cs) ∧ cs.all isSc = true := by
  induction n with
  | zero => intro h s he; simp only [outer] at he; cases he; exact ⟨rfl, Nat.zero_le _, fun k hk => absurd hk (Nat.not_lt_zero _)⟩
  | succ n ih =>
    intro h s he
    cases h with
    | nil => simp only [outer] at he; cases he
    | cons e h =>
      cases e with
      | row => simp only [outer] at he; cases he
      | it => simp only [outer] at he; cases he
      | box t cs =>
        simp only [outer] at he
        split at he
        · rename_i hcs
          split at he
          · rename_i s' hs'
            cases he
            obtain ⟨h1, h2, h3⟩ := ih hs'
            refine ⟨by simp [h1], by simp [h2], fun k hk => ?_⟩
            cases k with
            | zero => exact ⟨by simp, t, cs, by simp, hcs⟩
            | succ k => simpa using h3 k (by omega)
          · cases he
        · cases he
theorem kept_some {h : Store} (ks : List Nat) : ∀ {s : Store}, kept h ks = some s → s.length = ks.length ∧ ∀ (j k : Nat), ks[j]? = some k → ∃ e g xs, h[k]? = some (Ent.row e g false xs) ∧ s[j]? = some (Ent.row e 0 false xs) := by
  induction ks with
  | nil => intro s he; cases he; exact ⟨rfl, fun j k h => by simp at h⟩
  | cons k ks ih =>
    intro s he
    unfold kept at he
    split at he
    · rename_i e g xs s' hk hs'
      cases he
      obtain ⟨h1, h2⟩ := ih hs'
      refine ⟨by simp [h1], fun j k' hj => ?_⟩
      cases j with
      | zero => simp at hj; subst hj; exact ⟨e, g, xs, hk, by simp⟩
      | succ j => simpa using h2 j k' (by simpa using hj)
    · cases he
def outEnv (E : Env) (h : Store) (n : Nat) (ks : List Nat) : Env :=
  { E with
    n := n + ks.length
    gen := fun k => if k < n then E.gen k else if k < n + ks.length then some 0 else none
    top := fun k => if k < n then E.top k else 0
    esz := fun k => if k < n then E.esz k else E.esz (ks.getD (k - n) 0)
    row := fun k => if k < n then E.row k else E.row (ks.getD (k - n) 0)
    own := fun b => E.own b ∧ ∀ k, blkOf E h k = some b → k < n ∨ k ∈ ks }
def KsOk (h : Store) (n : Nat) (ks : List Nat) : Prop := ks.Nodup ∧ ∀ k, k ∈ ks → n ≤ k
mutual
theorem lay1_ks (n : Nat) (h : Store) (keep : Bool) : ∀ (x : AV) {ks : List Nat} {x' : AV} {ks' : List Nat}, lay1 Ops.std n h keep x ks = some (x', ks') → KsOk h n ks → KsOk h n ks' ∧ (∃ m, ks' = ks ++ m) ∧ (keep = false → ks' = ks) := by
  intro x ks x' ks' hl hk
  cases x with
  | sl k g =>
    simp only [lay1, layRow] at hl
    split at hl
    · split at hl
      · rename_i hc
        cases hl
        simp only [Bool.and_eq_true, decide_eq_true_eq, Bool.not_eq_true'] at hc
        refine ⟨⟨?_, fun k' hk' => ?_⟩, ⟨_, rfl⟩, fun hf => by rw [hf] at hc; simp at hc⟩
        · rw [List.nodup_append]
          refine ⟨hk.1, by simp, fun a ha b hb => ?_⟩
          simp at hb; subst hb
          intro e; subst e
          have := hc.2
          simp [ha] at this
        · rcases List.mem_append.1 hk' with h1 | h1
          · exact hk.2 k' h1
          · simp at h1; subst h1; exact hc.1.2
      · split at hl
        · cases hl
        · cases hl; exact ⟨hk, ⟨[], by simp⟩, fun _ => rfl⟩
    · cases hl
  | sub k g lo hi =>
    simp only [lay1, laySub] at hl
    split at hl
    · split at hl
      · cases hl
      · split at hl
        · cases hl; exact ⟨hk, ⟨[], by simp⟩, fun _ => rfl⟩
        · cases hl
    · cases hl
  | agg cs =>
    simp only [lay1] at hl
    split at hl
    · rename_i hl'; cases hl; exact lay_ks n h keep cs hl' hk
    · cases hl
  | tup cs =>
    simp only [lay1] at hl
    split at hl
    · rename_i hl'; cases hl; exact lay_ks n h keep cs hl' hk
    · cases hl
  | sc v => simp only [lay1] at hl; cases hl; exact ⟨hk, ⟨[], by simp⟩, fun _ => rfl⟩
  | lit e f xs => simp only [lay1] at hl; cases hl; exact ⟨hk, ⟨[], by simp⟩, fun _ => rfl⟩
  | _ => simp only [lay1] at hl; cases hl
theorem lay_ks (n : Nat) (h : Store) (keep : Bool) : ∀ (l : List AV) {ks : List Nat} {l' : List AV} {ks' : List Nat}, lay Ops.std n h keep l ks = some (l', ks') → KsOk h n ks → KsOk h n ks' ∧ (∃ m, ks' = ks ++ m) ∧ (keep = false → ks' = ks) := by
  intro l ks l' ks' hl hk
  cases l with
  | nil => simp only [lay] at hl; cases hl; exact ⟨hk, ⟨[], by simp⟩, fun _ => rfl⟩
  | cons x r =>
    simp only [lay] at hl
    split at hl
    · rename_i x' ks1 hx
      split at hl
      · rename_i hr
        cases hl
        obtain ⟨k1, ⟨m1, e1⟩, f1⟩ := lay1_ks n h keep x hx hk
        obtain ⟨k2, ⟨m2, e2⟩, f2⟩ := lay_ks n h keep r hr k1
        exact ⟨k2, ⟨m1 ++ m2, by rw [e2, e1]; simp⟩, fun hf => by rw [f2 hf, f1 hf]⟩
      · cases hl
    · cases hl
end
end Go.Ab
namespace Go.Ab
open Go
set_option linter.unusedSimpArgs false
set_option linter.unusedVariables false
section
variable {base : Base} {s h : Store} {E0 E : Env} {ks : List Nat}
mutual
theorem lay1_vl (R : Rel base h E) {n : Nat} {keep : Bool} {fin : List Nat} (hbox : ∀ k, k < n → ∃ t cs, h[k]? = some (Ent.box t cs)) : ∀ (x : AV) {v : Value} {ks : List Nat} {x' : AV} {ks' : List Nat}, lay1 Ops.std n h keep x ks = some (x', ks') → KsOk h n ks → VL E [x] [v] → (∃ m, fin = ks' ++ m) → (keep = false → fin = []) → VL (outEnv E h n fin) [x'] [v] := by
  intro x v ks x' ks' hl hks hv hfin hk0
  have hnot : ∀ {k g e ro xs}, rowOf h k g = some (e, ro, xs) → n ≤ k := fun {k g e ro xs} hr => by
    refine Nat.le_of_not_lt fun hlt => ?_
    obtain ⟨t, cs, hb⟩ := hbox k hlt
    rw [rowOf_some hr] at hb; cases hb
  have hless : keep = false → ∀ b, (outEnv E h n fin).own b → E.own b ∧ ¬ ∃ k, n ≤ k ∧ blkOf E h k = some b := fun hf b hb => ⟨hb.1, fun ⟨k, hnk, hkb⟩ => by
    rcases hb.2 k hkb with h1 | h1
    · omega
    · rw [hk0 hf] at h1; simp at h1⟩
  cases x with
  | sl k g =>
    simp only [lay1, layRow] at hl
    split at hl
    · rename_i e ro xs hr
      obtain ⟨hgen, _⟩ := row_reads R hr
      obtain ⟨hkn, hg, h1, hrow⟩ := hv.sl_inv
      have hrow := hrow hgen
      split at hl
      · rename_i hc
        cases hl
        obtain ⟨m, hm⟩ := hfin
        have hlt : ks.length < fin.length := by rw [hm]; simp
        have hget : fin.getD ks.length 0 = k := by rw [hm]; simp [List.getD]
        refine .sl (by show n + ks.length < n + fin.length; omega) (by simp [outEnv]) h1 (fun _ => ?_) .nil
        simp only [outEnv]
        rw [if_neg (by omega), Nat.add_sub_cancel_left, hget]; exact hrow
      · split at hl
        · cases hl
        · cases hl
          rename_i hf
          have hf' : false = false := rfl
          rw [hrow]
          exact .data ((row_lit (L := fun b => ∃ k, n ≤ k ∧ blkOf E h k = some b) R hr (fun b hb => ⟨k, hnot hr, hb⟩)).less (hless hf')) .nil
    · cases hl
  | sub k g lo hi =>
    simp only [lay1, laySub] at hl
    split at hl
    · rename_i e ro xs hr
      split at hl
      · cases hl
      · rename_i hf
        split at hl
        · rename_i ys hys
          cases hl
          exact .data ((sub_lit (L := fun b => ∃ k, n ≤ k ∧ blkOf E h k = some b) R hv hr hys (fun b hb => ⟨k, hnot hr, hb⟩)).less (hless rfl)) .nil
        · cases hl
    · cases hl
  | agg cs =>
    simp only [lay1] at hl
    split at hl
    · rename_i hl'
      cases hl
      obtain ⟨us, rfl, h2⟩ := hv.agg_inv
      exact .agg (lay_vl R hbox cs hl' hks h2 hfin hk0) .nil
    · cases hl
  | tup cs =>
    simp only [lay1] at hl
    split at hl
    · rename_i hl'
      cases hl
      obtain ⟨us, rfl, h2⟩ := hv.tup_inv
      exact .tup (lay_vl R hbox cs hl' hks h2 hfin hk0) .nil
    · cases hl
  | sc u =>
    simp only [lay1] at hl; cases hl
    obtain ⟨e1, e2⟩ := hv.sc_inv
    subst e1
    exact .data (.sc e2 .nil) .nil
  | lit e f xs =>
    simp only [lay1] at hl; cases hl
    exact .data (hv.lit_inv.less fun b hb => hb.1) .nil
  | _ => simp only [lay1] at hl; cases hl
theorem lay_vl (R : Rel base h E) {n : Nat} {keep : Bool} {fin : List Nat} (hbox : ∀ k, k < n → ∃ t cs, h[k]? = some (Ent.box t cs)) : ∀ (l : List AV) {vs : List Value} {ks : List Nat} {l' : List AV} {ks' : List Nat}, lay Ops.std n h keep l ks = some (l', ks') → KsOk h n ks → VL E l vs → (∃ m, fin = ks' ++ m) → (keep = false → fin = []) → VL (outEnv E h n fin) l' vs := by
  intro l vs ks l' ks' hl hks hv hfin hk0
  cases l with
  | nil => simp only [lay] at hl; cases hl; cases hv; exact .nil
  | cons x r =>
    simp only [lay] at hl
    split at hl
    · rename_i x' ks1 hx
      split at hl
      · rename_i hr
        cases hl
        obtain ⟨v, us, rfl, h1, h2⟩ := hv.uncons
        obtain ⟨k1, _, _⟩ := lay1_ks n h keep x hx hks
        obtain ⟨_, ⟨m2, hm2⟩, _⟩ := lay_ks n h keep r hr k1
        refine VL.cons (lay1_vl R hbox x hx hks h1 ?_ hk0) (lay_vl R hbox r hr k1 h2 hfin hk0)
        obtain ⟨m, hm⟩ := hfin
        exact ⟨m2 ++ m, by rw [hm, hm2]; simp⟩
      · cases hl
    · cases hl
end
theorem out_rel {n : Nat} (R : Rel base h E) {a b : Store} (ha : outer n h = some a) (hb : kept h ks = some b) (hk : KsOk h n ks) : Rel base (a ++ b) (outEnv E h n ks) := by
  obtain ⟨a1, a2, a3⟩ := outer_some n ha
  obtain ⟨b1, b2⟩ := kept_some ks hb
  have hget : ∀ k e, (a ++ b)[k]? = some e → (k < n ∧ h[k]? = some e ∧ ∃ t cs, e = Ent.box t cs ∧ cs.all isSc = true) ∨ (n ≤ k ∧ ∃ e' g xs, k - n < ks.length ∧ h[ks.getD (k - n) 0]? = some (Ent.row e' g false xs) ∧ e = Ent.row e' 0 false xs) := by
    intro k e he
    by_cases hlt : k < n
    · left
      rw [List.getElem?_append_left (by omega)] at he
      obtain ⟨h1, t, cs, h2, h3⟩ := a3 k hlt
      rw [h1] at he
      refine ⟨hlt, he, t, cs, ?_, h3⟩
      rw [h2] at he; cases he; rfl
    · right
      rw [List.getElem?_append_right (by omega), a1] at he
      have hlt2 : k - n < ks.length := by
        have := (List.getElem?_eq_some_iff.1 he).1; omega
      obtain ⟨e', g, xs, h1, h2⟩ := b2 (k - n) _ (List.getElem?_eq_getElem hlt2)
      refine ⟨by omega, e', g, xs, hlt2, ?_, ?_⟩
      · rw [show ks.getD (k - n) 0 = ks[k - n] by simp [hlt2]]; exact h1
      · rw [h2] at he; cases he; rfl
  have hblk : ∀ k g, blkOf (outEnv E h n ks) (a ++ b) k = some g → ∃ k', blkOf E h k' = some g ∧ ((k < n ∧ k' = k) ∨ (n ≤ k ∧ k - n < ks.length ∧ k' = ks.getD (k - n) 0)) := by
    intro k g hg
    obtain ⟨e, he, hee⟩ := blkOf_some hg
    rcases hget k e he with ⟨hlt, h1, t, cs, rfl, _⟩ | ⟨hge, e', g', xs, hlt, h1, rfl⟩
    · exact ⟨k, by rw [blkOf_of h1]; exact hee, .inl ⟨hlt, rfl⟩⟩
    · refine ⟨ks.getD (k - n) 0, ?_, .inr ⟨hge, hlt, rfl⟩⟩
      rw [blkOf_of h1]
      simp only [entBlk, outEnv] at hee ⊢
      rw [if_neg (by omega)] at hee; exact hee
  refine ⟨?_, R.lo, fun k e he => ?_, fun k hk' => ?_, fun k g hg => ?_, fun k j g hkg hjg => ?_, fun g hg => R.lt g hg.1⟩
  · show n + ks.length = (a ++ b).length
    simp [a1, b1]
  · rcases hget k e he with ⟨hlt, h1, t, cs, rfl, hsc⟩ | ⟨hge, e', g', xs, hlt, h1, rfl⟩
    · obtain ⟨e1, e2, e3, e4, vals, e5, e6⟩ := R.ent k _ h1
      refine ⟨by simp only [outEnv]; rw [if_pos hlt]; exact e1, by simp only [outEnv]; rw [if_pos hlt]; exact e2, e3, e4, vals, e5, sc_vl e6 hsc⟩
    · obtain ⟨e1, e2, e3, e4, vals, e5, e6, e7⟩ := R.ent _ _ h1
      refine ⟨by simp only [outEnv]; rw [if_neg (by omega), if_pos (by omega)], by simp only [outEnv]; rw [if_neg (by omega)], by simp only [outEnv]; rw [if_neg (by omega)]; exact e3, e4, vals, ?_, e6.less fun g hg => hg.1, e7⟩
      simp only [outEnv]; rw [if_neg (by omega)]; exact e5
  · have hk2 : n + ks.length ≤ k := by simp [a1, b1] at hk'; omega
    simp only [outEnv]
    rw [if_neg (by omega), if_neg (by omega)]
  · obtain ⟨k', h1, h2⟩ := hblk k g hg
    refine ⟨R.own k' g h1, fun k2 hk2 => ?_⟩
    have := R.inj k2 k' g hk2 h1
    subst this
    rcases h2 with ⟨h3, rfl⟩ | ⟨_, h3, h4⟩
    · exact .inl h3
    · right; rw [h4]; simp [h3]
  · obtain ⟨k', h1, h2⟩ := hblk k g hkg
    obtain ⟨j', h3, h4⟩ := hblk j g hjg
    have := R.inj k' j' g h1 h3
    subst this
    have big : ∀ i, i < ks.length → n ≤ ks.getD i 0 := fun i hi => hk.2 _ (by simp [hi])
    rcases h2 with ⟨a1, a2⟩ | ⟨a0, a1, a2⟩ <;> rcases h4 with ⟨b1, b2⟩ | ⟨b0, b1, b2⟩
    · omega
    · have := big _ b1; omega
    · have := big _ a1; omega
    · rw [a2] at b2
      have h5 : ks[k - n]'a1 = ks[j - n]'b1 := by
        simpa [a1, b1] using b2
      have hnd := List.pairwise_iff_getElem.1 hk.1
      rcases Nat.lt_trichotomy (k - n) (j - n) with h6 | h6 | h6
      · exact absurd h5 (hnd _ _ a1 b1 h6)
      · omega
      · exact absurd h5.symm (hnd _ _ b1 a1 h6)
theorem out_step {n : Nat} (R0 : Rel base s E0) (hn : s.length = n) (S : Step s E0 h E) {a b : Store} (ha : outer n h = some a) (hb : kept h ks = some b) (R : Rel base h E) : Step s E0 (a ++ b) (outEnv E h n ks) := by
  have hsn : E0.n = n := by rw [R0.n, hn]
  obtain ⟨a1, a2, a3⟩ := outer_some n ha
  obtain ⟨b1, b2⟩ := kept_some ks hb
  refine ⟨⟨S.ext.P, by show E0.n ≤ n + ks.length; omega, fun k hk => ?_, fun k g hk hg hgen => ?_, fun k hk hg => ⟨by simp only [outEnv]; rw [if_pos (by omega)]; exact (S.ext.box k hk hg).1, (S.ext.box k hk hg).2⟩, fun A v h1 h2 => ?_⟩, S.os, S.tape, S.output, S.size, S.heap, fun g hg => S.fresh g hg.1, fun g h1 h2 => ⟨S.held g h1 h2, fun k hk => ?_⟩, fun k g hg => ?_⟩
  · simp only [outEnv]; rw [if_pos (by omega)]; exact S.ext.top k hk
  · simp only [outEnv] at hgen ⊢
    rw [if_pos (by omega)] at hgen
    rw [if_pos (by omega), if_pos (by omega)]
    exact S.ext.gen k g hk hg hgen
  · obtain ⟨h3, h4⟩ := S.ext.keep A v h1 h2
    exact ⟨fun hh => h3 hh.1, h4⟩
  · exfalso
    rcases S.blk k g hk with ⟨j, hj⟩ | hge
    · exact h2 j hj
    · have := R0.lt g h1; omega
  · obtain ⟨e, he, hee⟩ := blkOf_some hg
    by_cases hlt : k < n
    · rw [List.getElem?_append_left (by omega)] at he
      obtain ⟨h1, t, cs, h2, h3⟩ := a3 k hlt
      rw [h1, h2] at he; cases he
      exact S.blk k g (by rw [blkOf_of h2]; exact hee)
    · rw [List.getElem?_append_right (by omega), a1] at he
      have hlt2 : k - n < ks.length := by
        have := (List.getElem?_eq_some_iff.1 he).1; omega
      obtain ⟨e', g', xs, h1, h2⟩ := b2 (k - n) _ (List.getElem?_eq_getElem hlt2)
      rw [h2] at he; cases he
      refine S.blk (ks[k - n]) g ?_
      rw [blkOf_of h1]
      simp only [entBlk, outEnv] at hee ⊢
      rw [if_neg (by omega), show ks.getD (k - n) 0 = ks[k - n] by simp [hlt2]] at hee; exact hee
end
end Go.Ab
namespace Go.Ab
open Go
set_option linter.unusedSimpArgs false
set_option linter.unusedVariables false
theorem cmpFn_some {P : Program} {kmd : Md} {fz : List Nat} {f : FuncId} {fn : Fn} (h : cmpFn P kmd fz f = some fn) : ∃ g c, P.funcs[f]? = some g ∧ g.body = some c ∧ (∃ rt af, cmp P fz rt [] af c = some fn.body) ∧ cmpRs P g.results.toList = some fn.results ∧ fn.ntmps = g.ntmps ∧ g.name ≠ "runtime.NumGoroutine" := by
  unfold cmpFn at h
  split at h
  · rename_i g hg
    split at h
    · rename_i c hc
      split at h
      · rename_i rs hrs
        split at h
        · rename_i b hb
          split at h
          · rename_i hn
            cases h
            exact ⟨g, c, hg, hc, ⟨_, _, hb⟩, hrs, rfl, hn⟩
          · cases h
        · cases h
      · cases h
    · cases h
  · cases h
def packV : List Value → Value
  | [v] => v
  | l => .tuple l.toArray
theorem results_eq (fn : Func) (tmps : Array Value) {P : Program} {w : World} {us : List Value} (h : (fn.results.toList.mapM (resOne tmps)).run P w = .ok us w) : (Go.results fn tmps).run P w = .ok (packV us) w := by
  have e : Go.results fn tmps = (do let vs ← fn.results.mapM (resOne tmps); pure (if h : vs.size = 1 then vs[0] else .tuple vs)) := by
    unfold Go.results
    congr 1
  rw [e, Array.mapM_eq_mapM_toList]
  rcases us with _ | ⟨v, _ | ⟨v', r⟩⟩ <;> simp [h, packV]
theorem pack_vl {E : Env} {l : List AV} {us : List Value} (h : VL E l us) : VL E [match (generalizing := false) l with | [v] => v | l => .tup l] [packV us] := by
  have hl := h.length
  match l, us, hl, h with
  | [], [], _, h => exact .tup h .nil
  | [x], [v], _, h => exact h
  | x :: y :: r, v :: u :: q, _, h => exact .tup h .nil
theorem runFn_sound {P : Program} {base : Base} {I : Ifc} (hm : P.follows .mixedOrders = true) (hI : I.o = Ops.std) (IH : CallOk P base I) (hPr : PrimsOk P base I) (hF : FnsOk P I) (hL : LoopOk P base I) (hS : SegOk P base I) {kmd : Md} {fz : List Nat} {f : FuncId} {fn : Fn} (hc : cmpFn P kmd fz f = some fn) {args : List AV} {s h2 : Store} {r : AV} (hr : runFn I fn args s = some (r, h2)) (E : Env) (vs : List Value) (hP : E.P = P) (R : Rel base s E) (V : VL E args vs) :
    Calls P f vs.toArray E.w fun e w' => ∃ v E', e = .returned v ∧ E'.w = w' ∧ Rel base h2 E' ∧ Step s E h2 E' ∧ VL E' [r] [v] := by
  obtain ⟨g, c, hg, hb, ⟨rt, af, hcc⟩, hrs, hnt, _⟩ := cmpFn_some hc
  have hlen : vs.toArray.size = args.length := by simpa using V.length
  have V0 : VL E (args ++ List.replicate (fn.ntmps - args.length) .bad) (vs.toArray ++ Array.replicate (g.ntmps - vs.toArray.size) undef).toList := by
    rw [Array.toList_append, hlen, hnt]
    refine VL.append V ?_
    simp only [Array.toList_replicate]
    generalize g.ntmps - args.length = m
    induction m with
    | zero => exact .nil
    | succ m ih => exact .bad ih
  unfold runFn at hr
  split at hr
  · cases hr
  · cases hr
  · rename_i x st hne hex
    split at hr
    · cases hr
    · rename_i rs hres
      have lit : ∀ md : Md, (match lay I.o s.length st.h md.kp (normL fn.rsh rs) [] with
          | none => none
          | some (rs', ks) => match outer s.length st.h, kept st.h ks with
            | some a, some b => some (match (generalizing := false) rs' with | [v] => v | l => .tup l, a ++ b)
            | _, _ => none) = some (r, h2) →
          Calls P f vs.toArray E.w fun e w' => ∃ v E', e = .returned v ∧ E'.w = w' ∧ Rel base h2 E' ∧ Step s E h2 E' ∧ VL E' [r] [v] := fun md hr => by
        split at hr
        · cases hr
        · rename_i rs' ks hlay
          split at hr
          · rename_i a b ha hkb
            simp only [Option.some.injEq, Prod.mk.injEq] at hr
            obtain ⟨rfl, rfl⟩ := hr
            rw [hI] at hres hlay
            refine calls_of_wp hg hb ?_
            refine exec_sound hm hI IH hPr hF hL hS c fz rt [] af fn.body hcc _ x st hex E _ _ hP R V0 fun E1 a1 R1 S1 V1 hd => ?_
            obtain ⟨us, h1, h3⟩ := results_run R1 (S1.ext.P.trans hP) V1 g.results.toList hrs hres
            have hbox : ∀ k, k < s.length → ∃ t cs, st.h[k]? = some (Ent.box t cs) := fun k hk => by
              obtain ⟨_, _, h⟩ := outer_some _ ha
              obtain ⟨_, t, cs, h, _⟩ := h k hk
              exact ⟨t, cs, h⟩
            have hk0 : KsOk st.h s.length [] := ⟨List.nodup_nil, fun k hk => by simp at hk⟩
            obtain ⟨hks, _, hkf⟩ := lay_ks _ _ _ _ hlay hk0
            have V2 := lay_vl R1 hbox _ hlay hk0 (normL_vl _ _ h3) ⟨[], by simp⟩ hkf
            have R2 := out_rel R1 ha hkb hks
            have S2 := out_step R rfl S1 ha hkb R1
            have hpost : a1.defers = [] ∧ ∃ v, (Go.results g a1.tmps).run P E1.w = .ok v E1.w ∧ ∃ v' E', Ending.returned v = .returned v' ∧ E'.w = E1.w ∧ Rel base (a ++ b) E' ∧ Step s E (a ++ b) E' ∧ VL E' [match (generalizing := false) rs' with | [v] => v | l => .tup l] [v'] :=
              ⟨hd, _, results_eq g a1.tmps h1, _, outEnv E1 st.h s.length ks, rfl, rfl, R2, S2, pack_vl V2⟩
            cases x with
            | nor => exact hpost
            | ret => exact hpost
            | brk id => exact absurd rfl (hne id)
          · cases hr
      split at hr
      · split at hr
        case h_1 => cases hr
        rename_i rs1 hs1 htr
        split at hr
        · cases hr
        · rename_i rs' s' hgc
          simp only [Option.some.injEq, Prod.mk.injEq] at hr
          obtain ⟨rfl, rfl⟩ := hr
          rw [hI] at hres htr
          refine calls_of_wp hg hb ?_
          refine exec_sound hm hI IH hPr hF hL hS c fz rt [] af fn.body hcc _ x st hex E _ _ hP R V0 fun E1 a1 R1 S1 V1 hd => ?_
          obtain ⟨us, h1, h3⟩ := results_run R1 (S1.ext.P.trans hP) V1 g.results.toList hrs hres
          obtain ⟨E2, w2, R2, S2, V2⟩ := trim_ok R1 (normL_vl fn.rsh rs h3) htr
          obtain ⟨E3, w3, R3, S3, V3⟩ := gc_ok R (S1.trans S2 R.lt) R2 V2 hgc
          have hpost : a1.defers = [] ∧ ∃ v, (Go.results g a1.tmps).run P E1.w = .ok v E1.w ∧ ∃ v' E', Ending.returned v = .returned v' ∧ E'.w = E1.w ∧ Rel base s' E' ∧ Step s E s' E' ∧ VL E' [match (generalizing := false) rs' with | [v] => v | l => .tup l] [v'] :=
            ⟨hd, _, results_eq g a1.tmps h1, _, E3, rfl, w3.trans w2, R3, S3, pack_vl V3⟩
          cases x with
          | nor => exact hpost
          | ret => exact hpost
          | brk id => exact absurd rfl (hne id)
      · exact lit _ hr
end Go.Ab
namespace Go.Ab
open Go
set_option linter.unusedSimpArgs false
set_option linter.unusedVariables false
structure Le (I J : Ifc) : Prop where
  o : J.o = I.o
  prim : J.prim = I.prim
  call : ∀ f a s r, I.call f a s = some r → J.call f a s = some r
  loop : ∀ lv m d s r, I.loop lv m d s = some r → J.loop lv m d s = some r
  seg : ∀ af d s r, I.seg af d s = some r → J.seg af d s = some r
theorem Le.refl (I : Ifc) : Le I I := ⟨rfl, rfl, fun _ _ _ _ h => h, fun _ _ _ _ _ h => h, fun _ _ _ _ h => h⟩
theorem Le.trans {I J K : Ifc} (x : Le I J) (y : Le J K) : Le I K := ⟨y.o.trans x.o, y.prim.trans x.prim, fun f a s r h => y.call f a s r (x.call f a s r h), fun lv m d s r h => y.loop lv m d s r (x.loop lv m d s r h), fun af d s r h => y.seg af d s r (x.seg af d s r h)⟩
theorem callFn_le {I J : Ifc} (L : Le I J) {f : FuncId} {args : List AV} {h : Store} {r : AV × Store × Nat} (he : callFn I f args h = some r) : callFn J f args h = some r := by
  unfold callFn at he ⊢
  rw [L.o]
  split at he
  · cases he
  · rename_i args' ix hl
    split at he
    · cases he
    · rename_i s hs
      split at he
      · cases he
      · rename_i r' h2 hc
        rw [L.call _ _ _ _ hc]; exact he
theorem callMv_le {I J : Ifc} (L : Le I J) {f : FuncId} {args : List AV} {h : Store} {r : AV × Store × Nat} (he : callMv I f args h = some r) : callMv J f args h = some r := by
  unfold callMv callMv1 at he ⊢
  generalize reach h 64 (rfs args) [] = ix at he ⊢
  split at he
  · cases he
  · split at he
    · cases he
    · split at he
      · cases he
      · split at he
        · cases he
        · rename_i hc
          rw [L.call _ _ _ _ hc]; exact he
theorem callOp_le {I J : Ifc} (L : Le I J) {f : FuncId} {args : List AV} {h : Store} {r : AV × Store × Nat} (he : callOp I f args h = some r) : callOp J f args h = some r := by
  unfold callOp at he ⊢
  rw [L.prim]
  split at he
  · exact callFn_le L he
  · exact callMv_le L he
  · rw [L.o]; exact he
theorem evOp_le {I J : Ifc} (L : Le I J) {i : Ir} {t : List AV} {h : Store} {r : AV × Store × Nat} (he : evOp I i t h = some r) : evOp J i t h = some r := by
  cases i
  case call f shs args => exact callOp_le L he
  case callz f shs args =>
    simp only [evOp, L.o] at he ⊢
    split at he
    · rename_i hc; rw [callOp_le L hc]; exact he
    · cases he
  case callv x args =>
    simp only [evOp] at he ⊢
    split at he
    · exact callOp_le L he
    · cases he
  all_goals (simp only [evOp, L.o] at he ⊢; exact he)
theorem Stp.le {I J : Ifc} {md : Nat} (L : Le I J) {ip : Ip} {s s' : St} (h : Stp I md ip s s') : Stp J md ip s s' := by
  rcases h with ⟨hw, v, h1, m, he, hu, e⟩ | h
  · exact .inl ⟨hw, v, h1, m, evOp_le L he, hu, e⟩
  · exact .inr h
theorem evOps_of {I : Ifc} {md : Nat} {ip : Ip} {r : List Ip} {s s1 : St} (st : Stp I md ip s s1) : evOps I md (ip :: r) s = evOps I md r s1 := by
  rcases st with ⟨hw, v, h1, m, he, hu, rfl⟩ | ⟨hw, rfl⟩
  · unfold wants at hw
    split at hw
    · rename_i hg
      simp only [evOps, hg, he, hu]
    · rename_i j w hg
      simp only [evOps, hg, hw, he, hu]
  · unfold wants at hw
    split at hw
    · cases hw
    · rename_i j w hg
      simp only [evOps, hg, hw]
theorem Stp.one {I : Ifc} {md md' : Nat} {ip : Ip} {s a b : St} (x : Stp I md ip s a) (y : Stp I md' ip s b) : a = b := by
  rcases x with ⟨hw, v, h1, m, he, _, rfl⟩ | ⟨hw, rfl⟩
  · rcases y with ⟨hw', v', h1', m', he', _, rfl⟩ | ⟨hw', rfl⟩
    · rw [he] at he'; cases he'; rfl
    · rw [hw] at hw'; cases hw'
  · rcases y with ⟨hw', v', h1', m', he', _, rfl⟩ | ⟨hw', rfl⟩
    · rw [hw] at hw'; cases hw'
    · rfl
theorem evOps_mode {I : Ifc} {md md' : Nat} (l : List Ip) : ∀ {s a b : St}, evOps I md l s = some a → evOps I md' l s = some b → a = b := by
  induction l with
  | nil => intro s a b h1 h2; simp only [evOps] at h1 h2; cases h1; cases h2; rfl
  | cons ip r ih =>
    intro s a b h1 h2
    obtain ⟨s1, st1, e1⟩ := evOps_cons h1
    obtain ⟨s2, st2, e2⟩ := evOps_cons h2
    have := st1.one st2
    subst this
    exact ih e1 e2
theorem try_of {I : Ifc} {ops : List Ip} {s s' : St} {md : Nat} (h : evOps I md ops s = some s') : ∀ {l : List Nat}, md ∈ l → tryModes I ops s l = some s' := by
  intro l
  induction l with
  | nil => intro hm; cases hm
  | cons x r ih =>
    intro hm
    simp only [tryModes]
    cases hx : evOps I x ops s with
    | some s'' => simp only []; rw [evOps_mode ops hx h]
    | none =>
      simp only []
      rcases List.mem_cons.1 hm with rfl | hm
      · rw [h] at hx; cases hx
      · exact ih hm
theorem exec_region {I : Ifc} {md : Nat} {ops : List Ip} {s s' : St} (hm : md ∈ modes) (h : evOps I md ops s = some s') : exec I (.region ops) s = some (.nor, s') := by
  simp only [exec, try_of h hm]
theorem region_exec {I : Ifc} {ops : List Ip} {s : St} {r : X × St} (h : exec I (.region ops) s = some r) : ∃ md s', md ∈ modes ∧ evOps I md ops s = some s' ∧ r = (.nor, s') := by
  simp only [exec] at h
  split at h
  · rename_i s' hs; cases h
    obtain ⟨md, hm, he⟩ := try_some hs
    exact ⟨md, s', hm, he, rfl⟩
  · cases h
theorem evOps_le {I J : Ifc} {md : Nat} (L : Le I J) (l : List Ip) : ∀ {s s' : St}, evOps I md l s = some s' → evOps J md l s = some s' := by
  induction l with
  | nil => intro s s' h; exact h
  | cons ip r ih =>
    intro s s' h
    obtain ⟨s1, st, h1⟩ := evOps_cons h
    rw [evOps_of (st.le L)]
    exact ih h1
theorem exec_le {I J : Ifc} (L : Le I J) (d : Cd) : ∀ {s : St} {r : X × St}, exec I d s = some r → exec J d s = some r := by
  induction d with
  | skip | exit | ret => intro s r h; exact h
  | region ops =>
    intro s r h
    obtain ⟨md, s', hm, h1, rfl⟩ := region_exec h
    exact exec_region hm (evOps_le L ops h1)
  | seq a b iha ihb =>
    intro s r h
    simp only [exec] at h ⊢
    split at h
    · rename_i s' hs; rw [iha hs]; exact ihb h
    · rename_i hne
      cases ha : exec I a s with
      | none => rw [ha] at h; cases h
      | some p =>
        obtain ⟨x, s'⟩ := p
        rw [iha ha]; rw [ha] at h
        cases x with
        | nor => exact absurd ha (hne s')
        | _ => exact h
  | cond c a b iha ihb =>
    intro s r h
    simp only [exec] at h ⊢
    split at h
    · exact iha h
    · exact ihb h
    · cases h
  | block id a iha =>
    intro s r h
    simp only [exec] at h ⊢
    cases ha : exec I a s with
    | none => rw [ha] at h; cases h
    | some p => rw [ha] at h; rw [iha ha]; exact h
  | loop lv a iha =>
    intro s r h
    simp only [exec] at h ⊢
    exact L.loop _ _ _ _ _ h
  | seg lv af a iha =>
    intro s r h
    simp only [exec] at h ⊢
    exact L.seg _ _ _ _ h
theorem apart_le {I J : Ifc} (L : Le I J) {af : List Nat} {d : Cd} {s : St} {r : X × St} (h : I.apart af d s = some r) : J.apart af d s = some r := by
  unfold Ifc.apart at h ⊢
  cases ha : exec I d s with
  | none => rw [ha] at h; cases h
  | some p => rw [ha] at h; rw [exec_le L d ha]; exact h
theorem runFn_le {I J : Ifc} (L : Le I J) {fn : Fn} {args : List AV} {s : Store} {r : AV × Store} (h : runFn I fn args s = some r) : runFn J fn args s = some r := by
  unfold runFn at h ⊢
  rw [L.o]
  cases he : exec I fn.body ⟨args ++ List.replicate (fn.ntmps - args.length) .bad, s⟩ with
  | none => rw [he] at h; cases h
  | some p => rw [he] at h; rw [exec_le L _ he]; exact h
section
variable {F : FuncId → Option Fn} {pr : FuncId → Option Prim}
theorem ifc_o (n : Nat) : (ifc Ops.std F pr n).o = Ops.std := by cases n <;> rfl
theorem ifc_prim (n : Nat) : (ifc Ops.std F pr n).prim = pr := by cases n <;> rfl
theorem round_le {I J : Ifc} (L : Le I J) {lv : List Nat} {m : Nat} {d : Cd} {s : St} {r : X × St} (h : I.round lv m d s = some r) : J.round lv m d s = some r := by
  unfold Ifc.round at h ⊢
  cases ha : exec I d s with
  | none => rw [ha] at h; cases h
  | some p =>
    obtain ⟨x, s'⟩ := p
    rw [ha] at h; rw [exec_le L d ha]
    cases x with
    | nor => exact L.loop _ _ _ _ _ h
    | _ => exact h
theorem ifc_le1 : ∀ n, Le (ifc Ops.std F pr n) (ifc Ops.std F pr (n + 1)) := by
  intro n
  induction n with
  | zero => exact ⟨rfl, rfl, fun f a s r h => by simp [ifc] at h, fun lv m d s r h => by simp [ifc] at h, fun af d s r h => by simp [ifc] at h⟩
  | succ n ih =>
    refine ⟨rfl, rfl, fun f a s r h => ?_, fun lv m d s r h => ?_, fun af d s r h => ?_⟩
    · simp only [ifc] at h ⊢
      split at h
      · rename_i fn hfn; exact runFn_le ih h
      · cases h
    · rw [ifc] at h ⊢
      exact round_le ih h
    · rw [ifc] at h ⊢
      exact apart_le ih h
theorem ifc_le (n : Nat) : ∀ k, Le (ifc Ops.std F pr n) (ifc Ops.std F pr (n + k))
  | 0 => Le.refl _
  | k + 1 => (ifc_le n k).trans (ifc_le1 (n + k))
open Classical in
noncomputable def lim (F : FuncId → Option Fn) (pr : FuncId → Option Prim) : Ifc where
  o := Ops.std
  prim := pr
  call f a s := if h : ∃ n r, (ifc Ops.std F pr n).call f a s = some r then some (Classical.choose (Classical.choose_spec h)) else none
  loop lv m d s := if h : ∃ n r, (ifc Ops.std F pr n).loop lv m d s = some r then some (Classical.choose (Classical.choose_spec h)) else none
  seg af d s := if h : ∃ n r, (ifc Ops.std F pr n).seg af d s = some r then some (Classical.choose (Classical.choose_spec h)) else none
theorem lim_call {f : FuncId} {a : List AV} {s : Store} {r : AV × Store} : (lim F pr).call f a s = some r ↔ ∃ n, (ifc Ops.std F pr n).call f a s = some r := by
  constructor
  · intro h
    simp only [lim] at h
    split at h
    · rename_i hh
      cases h
      exact ⟨_, Classical.choose_spec (Classical.choose_spec hh)⟩
    · cases h
  · rintro ⟨n, h⟩
    simp only [lim]
    have hh : ∃ n r, (ifc Ops.std F pr n).call f a s = some r := ⟨n, r, h⟩
    rw [dif_pos hh]
    have h2 := Classical.choose_spec (Classical.choose_spec hh)
    generalize Classical.choose (Classical.choose_spec hh) = r2 at h2 ⊢
    generalize Classical.choose hh = m at h2
    have h3 := (ifc_le (F := F) (pr := pr) n m).call f a s r h
    have h4 := (ifc_le (F := F) (pr := pr) m n).call f a s r2 h2
    rw [Nat.add_comm] at h4
    rw [h3] at h4; exact h4.symm
theorem lim_loop {lv : List Nat} {m : Nat} {d : Cd} {s : St} {r : X × St} : (lim F pr).loop lv m d s = some r ↔ ∃ n, (ifc Ops.std F pr n).loop lv m d s = some r := by
  constructor
  · intro h
    simp only [lim] at h
    split at h
    · rename_i hh
      cases h
      exact ⟨_, Classical.choose_spec (Classical.choose_spec hh)⟩
    · cases h
  · rintro ⟨n, h⟩
    simp only [lim]
    have hh : ∃ n r, (ifc Ops.std F pr n).loop lv m d s = some r := ⟨n, r, h⟩
    rw [dif_pos hh]
    have h2 := Classical.choose_spec (Classical.choose_spec hh)
    generalize Classical.choose (Classical.choose_spec hh) = r2 at h2 ⊢
    generalize Classical.choose hh = m2 at h2
    have h3 := (ifc_le (F := F) (pr := pr) n m2).loop lv m d s r h
    have h4 := (ifc_le (F := F) (pr := pr) m2 n).loop lv m d s r2 h2
    rw [Nat.add_comm] at h4
    rw [h3] at h4; exact h4.symm
theorem lim_seg {af : List Nat} {d : Cd} {s : St} {r : X × St} : (lim F pr).seg af d s = some r ↔ ∃ n, (ifc Ops.std F pr n).seg af d s = some r := by
  constructor
  · intro h
    simp only [lim] at h
    split at h
    · rename_i hh
      cases h
      exact ⟨_, Classical.choose_spec (Classical.choose_spec hh)⟩
    · cases h
  · rintro ⟨n, h⟩
    simp only [lim]
    have hh : ∃ n r, (ifc Ops.std F pr n).seg af d s = some r := ⟨n, r, h⟩
    rw [dif_pos hh]
    have h2 := Classical.choose_spec (Classical.choose_spec hh)
    generalize Classical.choose (Classical.choose_spec hh) = r2 at h2 ⊢
    generalize Classical.choose hh = m2 at h2
    have h3 := (ifc_le (F := F) (pr := pr) n m2).seg af d s r h
    have h4 := (ifc_le (F := F) (pr := pr) m2 n).seg af d s r2 h2
    rw [Nat.add_comm] at h4
    rw [h3] at h4; exact h4.symm
theorem le_lim (n : Nat) : Le (ifc Ops.std F pr n) (lim F pr) :=
  ⟨(ifc_o n).symm, (ifc_prim n).symm, fun f a s r h => lim_call.2 ⟨n, h⟩, fun lv m d s r h => lim_loop.2 ⟨n, h⟩, fun af d s r h => lim_seg.2 ⟨n, h⟩⟩
theorem evOp_lim {i : Ir} {t : List AV} {h : Store} {r : AV × Store × Nat} (he : evOp (lim F pr) i t h = some r) : ∃ n, evOp (ifc Ops.std F pr n) i t h = some r := by
  have key0 : ∀ {f : FuncId} {args : List AV} {h : Store} {r : AV × Store × Nat}, callFn (lim F pr) f args h = some r → ∃ n, callFn (ifc Ops.std F pr n) f args h = some r := by
    intro f args h r he
    unfold callFn at he ⊢
    simp only [ifc_o]
    simp only [lim] at he
    split at he
    · cases he
    · rename_i args' ix hl
      split at he
      · cases he
      · rename_i s hs
        split at he
        · cases he
        · rename_i r' h2 hc
          obtain ⟨n, hn⟩ := lim_call.1 (show (lim F pr).call f args' s = some (r', h2) from hc)
          exact ⟨n, by rw [hn]; exact he⟩
  have key : ∀ {f : FuncId} {args : List AV} {h : Store} {r : AV × Store × Nat}, callOp (lim F pr) f args h = some r → ∃ n, callOp (ifc Ops.std F pr n) f args h = some r := by
    intro f args h r he
    unfold callOp at he ⊢
    cases hp : pr f with
    | some p =>
      have h1 : (lim F pr).prim f = some p := hp
      simp only [h1] at he
      simp only [ifc_prim, hp, ifc_o]
      cases p with
      | mv =>
        simp only at he ⊢
        unfold callMv callMv1 at he ⊢
        generalize reach h 64 (rfs args) [] = ix at he ⊢
        split at he
        · cases he
        · rename_i a1 ha1
          split at he
          · cases he
          · rename_i a2 ha2
            split at he
            · cases he
            · rename_i a3
              split at he
              · cases he
              · rename_i r' h2 hc
                obtain ⟨n, hn⟩ := lim_call.1 hc
                exact ⟨n, by rw [hn]; exact he⟩
      | _ => exact ⟨0, he⟩
    | none =>
      have h1 : (lim F pr).prim f = none := hp
      simp only [h1] at he
      simp only [ifc_prim, hp]
      exact key0 he
  cases i
  case call f shs args => exact key he
  case callz f shs args =>
    simp only [evOp] at he ⊢
    split at he
    · rename_i hc
      obtain ⟨n, hn⟩ := key hc
      exact ⟨n, by rw [hn]; simp only [ifc_o]; exact he⟩
    · cases he
  case callv x args =>
    simp only [evOp] at he ⊢
    split at he
    · exact key he
    · cases he
  all_goals exact ⟨0, by simp only [evOp] at he ⊢; exact he⟩
theorem evOps_lim {md : Nat} (l : List Ip) : ∀ {s s' : St}, evOps (lim F pr) md l s = some s' → ∃ n, evOps (ifc Ops.std F pr n) md l s = some s' := by
  induction l with
  | nil => intro s s' h; exact ⟨0, h⟩
  | cons ip r ih =>
    intro s s' h
    obtain ⟨s1, st, h1⟩ := evOps_cons h
    obtain ⟨n, hn⟩ := ih h1
    have : ∃ m, Stp (ifc Ops.std F pr m) md ip s s1 := by
      rcases st with ⟨hw, v, h1, m, he, hu, e⟩ | h
      · obtain ⟨k, hk⟩ := evOp_lim he
        exact ⟨k, .inl ⟨hw, v, h1, m, hk, hu, e⟩⟩
      · exact ⟨0, .inr h⟩
    obtain ⟨m, hm⟩ := this
    refine ⟨n + m, ?_⟩
    have h2 := Nat.add_comm m n ▸ ifc_le (F := F) (pr := pr) m n
    rw [evOps_of (hm.le h2)]
    exact evOps_le (ifc_le n m) r hn
theorem exec_lim (d : Cd) : ∀ {s : St} {r : X × St}, exec (lim F pr) d s = some r → ∃ n, exec (ifc Ops.std F pr n) d s = some r := by
  induction d with
  | skip | exit | ret => intro s r h; exact ⟨0, h⟩
  | region ops =>
    intro s r h
    obtain ⟨md, s', hm, h1, rfl⟩ := region_exec h
    obtain ⟨n, hn⟩ := evOps_lim ops h1
    exact ⟨n, exec_region hm hn⟩
  | seq a b iha ihb =>
    intro s r h
    simp only [exec] at h ⊢
    cases ha : exec (lim F pr) a s with
    | none => rw [ha] at h; cases h
    | some p =>
      obtain ⟨x, s'⟩ := p
      obtain ⟨n, hn⟩ := iha ha
      rw [ha] at h
      cases x with
      | nor =>
        obtain ⟨m, hm⟩ := ihb h
        refine ⟨n + m, ?_⟩
        rw [exec_le (ifc_le n m) a hn]
        exact exec_le (Nat.add_comm m n ▸ ifc_le (F := F) (pr := pr) m n) b hm
      | _ => exact ⟨n, by rw [hn]; exact h⟩
  | cond c a b iha ihb =>
    intro s r h
    simp only [exec] at h ⊢
    split at h
    · exact iha h
    · exact ihb h
    · cases h
  | block id a iha =>
    intro s r h
    simp only [exec] at h ⊢
    cases ha : exec (lim F pr) a s with
    | none => rw [ha] at h; cases h
    | some p =>
      obtain ⟨n, hn⟩ := iha ha
      rw [ha] at h
      exact ⟨n, by rw [hn]; exact h⟩
  | loop lv a iha =>
    intro s r h
    simp only [exec] at h ⊢
    exact lim_loop.1 h
  | seg lv af a iha =>
    intro s r h
    simp only [exec] at h ⊢
    exact lim_seg.1 h
theorem call_lim {f : FuncId} {fn : Fn} (hf : F f = some fn) {a : List AV} {s : Store} {r : AV × Store} (h : runFn (lim F pr) fn a s = some r) : (lim F pr).call f a s = some r := by
  have : ∃ n, runFn (ifc Ops.std F pr n) fn a s = some r := by
    unfold runFn at h ⊢
    simp only [ifc_o]
    cases he : exec (lim F pr) fn.body ⟨a ++ List.replicate (fn.ntmps - a.length) .bad, s⟩ with
    | none => rw [he] at h; cases h
    | some p =>
      obtain ⟨n, hn⟩ := exec_lim _ he
      rw [he] at h
      exact ⟨n, by rw [hn]; exact h⟩
  obtain ⟨n, hn⟩ := this
  exact lim_call.2 ⟨n + 1, by simp only [ifc, hf]; exact hn⟩
theorem seg_lim {af : List Nat} {d : Cd} {s : St} {r : X × St} (h : (lim F pr).apart af d s = some r) : (lim F pr).seg af d s = some r := by
  unfold Ifc.apart at h
  cases he : exec (lim F pr) d s with
  | none => rw [he] at h; cases h
  | some p =>
    obtain ⟨n, hn⟩ := exec_lim d he
    rw [he] at h
    refine lim_seg.2 ⟨n + 1, ?_⟩
    rw [ifc]
    simp only [Ifc.apart, hn]
    exact h
theorem round_lim {lv : List Nat} {m : Nat} {d : Cd} {s : St} {r : X × St} (h : (lim F pr).round lv m d s = some r) : (lim F pr).loop lv m d s = some r := by
  unfold Ifc.round at h
  cases he : exec (lim F pr) d s with
  | none => rw [he] at h; cases h
  | some p =>
    obtain ⟨x, s'⟩ := p
    obtain ⟨n, hn⟩ := exec_lim d he
    rw [he] at h
    cases x with
    | nor =>
      obtain ⟨k, hk⟩ := lim_loop.1 h
      refine lim_loop.2 ⟨n + k + 1, ?_⟩
      rw [ifc]
      simp only [Ifc.round, exec_le (ifc_le n k) d hn]
      exact (Nat.add_comm k n ▸ ifc_le (F := F) (pr := pr) k n).loop _ _ _ _ _ hk
    | brk id => refine lim_loop.2 ⟨n + 1, ?_⟩; rw [ifc]; simp only [Ifc.round, hn]; exact h
    | ret => refine lim_loop.2 ⟨n + 1, ?_⟩; rw [ifc]; simp only [Ifc.round, hn]; exact h
theorem ifc_ok {P : Program} {base : Base} (hmx : P.follows .mixedOrders = true) (hF : ∀ f fn, F f = some fn → ∃ kmd fz, cmpFn P kmd fz f = some fn) (hPr : ∀ f p, pr f = some p → PrimOk P base f p) : ∀ n, CallOk P base (ifc Ops.std F pr n) ∧ LoopOk P base (ifc Ops.std F pr n) ∧ FnsOk P (ifc Ops.std F pr n) ∧ SegOk P base (ifc Ops.std F pr n) := by
  intro n
  have hP : ∀ n, PrimsOk P base (ifc Ops.std F pr n) := fun n f p h => hPr f p (by rw [ifc_prim] at h; exact h)
  induction n with
  | zero => exact ⟨fun f a s r h2 h => by simp [ifc] at h, fun fz rt ex af c d hc lv m s x s2 h => by simp [ifc] at h, fun f a s r h => by simp [ifc] at h, fun c fz rt ex af d hc ag s x s2 h => by simp [ifc] at h⟩
  | succ n ih =>
    obtain ⟨h1, h2, h3, h4⟩ := ih
    refine ⟨fun f a s r s2 h E vs hPe R V => ?_, fun fz rt ex af c d hc lv m s x s2 h h0 E0 E a Q hPe hl hm hlt R S V L => ?_, fun f a s r h => ?_, fun c fz rt ex af d hc ag s x s2 h E a Q hPe R V L => ?_⟩
    · simp only [ifc] at h
      split at h
      · rename_i fn hfn
        obtain ⟨kmd, fz, hk⟩ := hF f fn hfn
        exact runFn_sound hmx (ifc_o n) h1 (hP n) h3 h2 h4 hk h E vs hPe R V
      · cases h
    · rw [ifc] at h
      exact loop_sound h2 (exec_sound hmx (ifc_o n) h1 (hP n) h3 h2 h4 c) hc h hPe hl hm hlt R S V L
    · simp only [ifc] at h
      split at h
      · rename_i fn hfn
        obtain ⟨kmd, fz, hk⟩ := hF f fn hfn
        obtain ⟨g, c, hg, hb, _, _, _, hn⟩ := cmpFn_some hk
        exact ⟨g, hg, by rw [hb]; rfl, hn⟩
      · cases h
    · rw [ifc] at h
      exact apart_sound (exec_sound hmx (ifc_o n) h1 (hP n) h3 h2 h4 c) hc h hPe R V L
theorem lim_ok {P : Program} {base : Base} (hmx : P.follows .mixedOrders = true) (hF : ∀ f fn, F f = some fn → ∃ kmd fz, cmpFn P kmd fz f = some fn) (hPr : ∀ f p, pr f = some p → PrimOk P base f p) : CallOk P base (lim F pr) := by
  intro f a s r h2 h E vs hP R V
  obtain ⟨n, hn⟩ := lim_call.1 h
  exact (ifc_ok hmx hF hPr n).1 f a s r h2 hn E vs hP R V
end
end Go.Ab
namespace Go.Ab
open Go Go.RowKit
def startEnv (P : Program) (W : World) : Env where
  P := P
  w := W
  n := 0
  gen _ := none
  top _ := 0
  esz _ := 0
  row _ := undef
  box _ := 0
  own _ := False
theorem start_rel (P : Program) (W : World) : Rel ⟨W.heap.size, W⟩ [] (startEnv P W) where
  n := rfl
  lo := ⟨Nat.le_refl _, fun _ _ => rfl⟩
  ent k e h := by simp at h
  nogen _ _ := rfl
  own k b h := by simp [blkOf] at h
  inj k j b h _ := by simp [blkOf] at h
  lt b h := h.elim
theorem calls_scW {P : Program} {F : FuncId → Option Fn} {pr : FuncId → Option Prim} (hm : P.follows .mixedOrders = true) (hF : ∀ f fn, F f = some fn → ∃ kmd fz, cmpFn P kmd fz f = some fn) (W : World) (hPr : ∀ f p, pr f = some p → PrimOk P ⟨W.heap.size, W⟩ f p) {f : FuncId} {args : List AV} {h2 : Store} {u : Value} (h : (lim F pr).call f args [] = some (.sc u, h2)) {vs : List Value} (hv : DL P W (fun _ => False) args vs) :
    Calls P f vs.toArray W fun e w' => e = .returned u ∧ Below W.heap.size W w' := by
  refine (lim_ok (base := ⟨W.heap.size, W⟩) hm hF hPr f args [] (.sc u) h2 h (startEnv P W) vs rfl (start_rel P W) (DL.vl hv)).mono fun e w' ⟨v, E', he, hw, R, S, V⟩ => ?_
  subst hw
  refine ⟨by rw [he, V.sc_inv.1], S.os, S.tape, S.output, S.size, fun k hk => S.heap k hk fun j hj => by simp [blkOf] at hj⟩
end Go.Ab
namespace Go.Ab
open Go
set_option linter.unusedVariables false
abbrev i64 (x : Int) : AV := .sc (.int .i64 x)
abbrev u64 (x : Int) : AV := .sc (.int .u64 x)
abbrev str (x : ByteArray) : AV := .sc (.string x)
abbrev vI (x : Int) : AV := .sc (.int .i64 x)
abbrev vU (x : Int) : AV := .sc (.int .u64 x)
abbrev vW (x : Int) : AV := .sc (.int .u32 x)
abbrev vH (x : Int) : AV := .sc (.int .u16 x)
abbrev vB (x : Int) : AV := .sc (.int .u8 x)
abbrev vF (x : Bool) : AV := .sc (.bool x)
abbrev vT (x : ByteArray) : AV := .sc (.string x)
theorem iltT {a b : Int} (h : a < b) : Ops.std.ilt a b = true := decide_eq_true h
theorem iltF {a b : Int} (h : ¬ a < b) : Ops.std.ilt a b = false := decide_eq_false h
theorem ieqT {a b : Int} (h : a = b) : Ops.std.ieq a b = true := decide_eq_true h
theorem ieqF {a b : Int} (h : ¬ a = b) : Ops.std.ieq a b = false := decide_eq_false h
theorem wrap64 {x : Int} (h1 : -9223372036854775808 ≤ x) (h2 : x ≤ 9223372036854775807) : IntKind.i64.wrap x = x := by
  rw [IntKind.wrap_i64]; omega
theorem iaddS {a b : Int} (h1 : -9223372036854775808 ≤ a + b) (h2 : a + b ≤ 9223372036854775807) : Ops.std.iadd .i64 a b = a + b := wrap64 h1 h2
theorem iadd1 {n : Nat} (h : n < 9223372036854775807) : Ops.std.iadd .i64 (n : Int) 1 = ((n + 1 : Nat) : Int) := by rw [iaddS (by omega) (by omega)]; omega
theorem llen_is (xs : List AV) : Ops.std.llen xs = (xs.length : Int) := rfl
theorem done {pre : List AV} : Ops.std.ilt (pre.length : Int) (Ops.std.llen pre) = false := by
  refine iltF ?_
  rw [llen_is]; omega
end Go.Ab
namespace Go.Ab
open Go
section
variable {α : Type} {f : α → AV} {pre rest : List α} {x : α}
end
end Go.Ab
namespace Go.Ab
open Go
def capp : List AV → List AV → List AV
  | [], b => b
  | x :: a, b => x :: capp a b
theorem capp_eq (a b : List AV) : capp a b = a ++ b := by
  induction a with
  | nil => rfl
  | cons x a ih => simp [capp, ih]
set_option linter.unusedVariables false
class Inj {α β : Type} (e : α → β) : Prop where
  inj : ∀ a b, e a = e b → a = b
class InjS {α β : Type} (e : (Nat → Nat) → α → β) : Prop where
  inj : ∀ γ γ' a b, e γ a = e γ' b → a = b
section
variable {α β ι : Type}
open Classical in
noncomputable def ask (e : α → β) (y : Option β) : Option α := if h : ∃ a, y = some (e a) then some h.choose else none
theorem ask_some {e : α → β} {y : Option β} {a : α} (h : ask e y = some a) : y = some (e a) := by
  unfold ask at h
  split at h
  · rename_i hh; cases h; exact hh.choose_spec
  · cases h
theorem ask_of {e : α → β} [I : Inj e] {y : Option β} {a : α} (h : y = some (e a)) : ask e y = some a := by
  have hh : ∃ a, y = some (e a) := ⟨a, h⟩
  unfold ask
  rw [dif_pos hh]
  have := h.symm.trans hh.choose_spec
  rw [I.inj _ _ (Option.some.inj this)]
theorem ask_enc {e : α → β} [Inj e] (a : α) : ask e (some (e a)) = some a := ask_of rfl
theorem ask_none {e : α → β} : ask e none = none := by
  unfold ask
  rw [dif_neg]
  rintro ⟨a, h⟩; cases h
open Classical in
noncomputable def asks (y : (Nat → Nat) → Option β) (e : (Nat → Nat) → α → β) : Option α := if h : ∃ a, ∀ γ, ∃ γ', y γ = some (e γ' a) then some h.choose else none
theorem asks_some {y : (Nat → Nat) → Option β} {e : (Nat → Nat) → α → β} {a : α} (h : asks y e = some a) (γ : Nat → Nat) : ∃ γ', y γ = some (e γ' a) := by
  unfold asks at h
  split at h
  · rename_i hh; cases h; exact hh.choose_spec γ
  · cases h
theorem asks_of {y : (Nat → Nat) → Option β} {e : (Nat → Nat) → α → β} [I : InjS e] {a : α} (h : ∀ γ, ∃ γ', y γ = some (e γ' a)) : asks y e = some a := by
  have hh : ∃ a, ∀ γ, ∃ γ', y γ = some (e γ' a) := ⟨a, h⟩
  unfold asks
  rw [dif_pos hh]
  obtain ⟨g1, h1⟩ := hh.choose_spec (fun _ => 0)
  obtain ⟨g2, h2⟩ := h (fun _ => 0)
  rw [h1] at h2
  rw [I.inj _ _ _ _ (Option.some.inj h2)]
def gam : List Nat → Nat → Nat
  | [], _ => 0
  | x :: _, 0 => x
  | _ :: l, n + 1 => gam l n
theorem cond_some {c : Bool} {x y : Option α} {a : α} (h : (bif c then x else y) = some a) : (c = true ∧ x = some a) ∨ (c = false ∧ y = some a) := by
  cases c
  · exact .inr ⟨rfl, h⟩
  · exact .inl ⟨rfl, h⟩
theorem bind_some {x : Option α} {f : α → Option β} {b : β} (h : x.bind f = some b) : ∃ a, x = some a ∧ f a = some b := Option.bind_eq_some_iff.1 h
def xopt (x : Option α) (f : α → Option β) (y : Option β) : Option β := match x with | some a => f a | none => y
theorem xopt_some {x : Option α} {f : α → Option β} {y : Option β} {b : β} (h : xopt x f y = some b) : (∃ a, x = some a ∧ f a = some b) ∨ (x = none ∧ y = some b) := by
  cases x with
  | none => exact .inr ⟨rfl, h⟩
  | some a => exact .inl ⟨a, rfl, h⟩
theorem bind_ask {γ : Type} {e : α → γ} {y : Option γ} {f : α → Option β} {b : β} (h : (ask e y).bind f = some b) : ∃ a, y = some (e a) ∧ f a = some b := by
  obtain ⟨a, h1, h2⟩ := bind_some h
  exact ⟨a, ask_some h1, h2⟩
theorem bind_asks {γ : Type} {e : (Nat → Nat) → α → γ} {y : (Nat → Nat) → Option γ} {f : α → Option β} {b : β} (h : (asks y e).bind f = some b) (g : Nat → Nat) : ∃ a g', y g = some (e g' a) ∧ f a = some b := by
  obtain ⟨a, h1, h2⟩ := bind_some h
  obtain ⟨g', h3⟩ := asks_some h1 g
  exact ⟨a, g', h3, h2⟩
theorem need_some {c : Bool} {x : Option α} {a : α} (h : (bif c then x else none) = some a) : c = true ∧ x = some a := by
  cases c
  · cases h
  · exact ⟨rfl, h⟩
end
theorem ieq_other {x a b : Int} (h : Ops.std.ieq x a = true) (hn : a ≠ b) : Ops.std.ieq x b = false := by
  have h1 : x = a := of_decide_eq_true h
  subst h1
  exact decide_eq_false hn
def bd : Nat → List AV → List AV
  | 0, l => l
  | n + 1, l => .bad :: bd n l
theorem bd_inj {n : Nat} {l l' : List AV} : bd n l = bd n l' ↔ l = l' := by
  induction n with
  | zero => exact Iff.rfl
  | succ n ih => simp only [bd, List.cons.injEq, true_and, ih]
def roundAs (I : Ifc) (lv : List Nat) (m : Nat) (d c : Cd) (s : St) : Option (X × St) :=
  match exec I c s with
  | some (.nor, s') => I.loop lv m d (tidy lv m s')
  | some (.brk id, s') => some (.brk id, snip m s')
  | some (.ret, s') => some (.ret, snip m s')
  | none => none
instance : Inj vI := ⟨fun _ _ h => by injection h with h; injection h⟩
instance : Inj vU := ⟨fun _ _ h => by injection h with h; injection h⟩
instance : Inj vW := ⟨fun _ _ h => by injection h with h; injection h⟩
instance : Inj vH := ⟨fun _ _ h => by injection h with h; injection h⟩
instance : Inj vB := ⟨fun _ _ h => by injection h with h; injection h⟩
abbrev vR (x : Int) : AV := .sc (.int .i32 x)
instance : Inj vR := ⟨fun _ _ h => by injection h with h; injection h⟩
instance : Inj vF := ⟨fun _ _ h => by injection h with h; injection h⟩
instance : Inj vT := ⟨fun _ _ h => by injection h with h; injection h⟩
theorem map_inj {α β : Type} {e : α → β} [I : Inj e] : ∀ {l l' : List α}, l.map e = l'.map e → l = l'
  | [], [], _ => rfl
  | [], _ :: _, h => by cases h
  | _ :: _, [], h => by cases h
  | x :: l, y :: l', h => by
    simp only [List.map_cons, List.cons.injEq] at h
    rw [I.inj _ _ h.1, map_inj h.2]
theorem map_iff {α β : Type} {e : α → β} [Inj e] {l l' : List α} : l.map e = l'.map e ↔ l = l' := ⟨map_inj, fun h => by rw [h]⟩
instance {α β : Type} {e : α → β} [Inj e] : Inj (List.map e) := ⟨fun _ _ h => map_inj h⟩
def eL {α : Type} (t : TypeId) (e : α → AV) (l : List α) : AV := .lit t false (l.map e)
instance {α : Type} {t : TypeId} {e : α → AV} [Inj e] : Inj (eL t e) := ⟨fun _ _ h => by injection h with _ _ h; exact map_inj h⟩
theorem eL_iff {α : Type} {t : TypeId} {e : α → AV} [Inj e] {a b : List α} : eL t e a = eL t e b ↔ a = b := ⟨Inj.inj a b, fun h => by rw [h]⟩
section
variable {α β γ δ : Type}
def R0 (_ : Unit) : AV × Store := (.tup [], [])
def R1 (e : α → AV) (a : α) : AV × Store := (e a, [])
def R2 (e : α → AV) (e' : β → AV) (a : α × β) : AV × Store := (.tup [e a.1, e' a.2], [])
def R3 (e : α → AV) (e' : β → AV) (e'' : γ → AV) (a : α × β × γ) : AV × Store := (.tup [e a.1, e' a.2.1, e'' a.2.2], [])
def K1 (t : TypeId) (e : α → AV) (a : List α) : AV × Store := (.sl 0 0, [.row t 0 false (a.map e)])
instance : Inj R0 := ⟨fun _ _ _ => rfl⟩
instance {e : α → AV} [I : Inj e] : Inj (R1 e) := ⟨fun a b h => I.inj _ _ (Prod.mk.inj h).1⟩
instance {e : α → AV} {e' : β → AV} [I : Inj e] [J : Inj e'] : Inj (R2 e e') := ⟨fun a b h => by
  simp only [R2, Prod.mk.injEq, AV.tup.injEq, List.cons.injEq, and_true] at h
  exact Prod.ext (I.inj _ _ h.1) (J.inj _ _ h.2)⟩
instance {e : α → AV} {e' : β → AV} {e'' : γ → AV} [I : Inj e] [J : Inj e'] [K : Inj e''] : Inj (R3 e e' e'') := ⟨fun a b h => by
  simp only [R3, Prod.mk.injEq, AV.tup.injEq, List.cons.injEq, and_true] at h
  exact Prod.ext (I.inj _ _ h.1) (Prod.ext (J.inj _ _ h.2.1) (K.inj _ _ h.2.2))⟩
instance {t : TypeId} {e : α → AV} [Inj e] : Inj (K1 t e) := ⟨fun a b h => by
  simp only [K1, Prod.mk.injEq, List.cons.injEq, Ent.row.injEq, map_iff, and_true, true_and] at h
  exact h⟩
end
section
variable {α : Type} (e : α → AV)
noncomputable def xlen (l : List α) : Int := Ops.std.llen (l.map e)
noncomputable def xget (l : List α) (i : Int) : Option α := ask e (Ops.std.lget (l.map e) i)
noncomputable def xsub (l : List α) (lo hi : Int) : Option (List α) := ask (List.map e) (Ops.std.lsub (l.map e) lo hi)
noncomputable def xcut (t : TypeId) (l : List α) : Option (List (List α)) := ask (List.map (eL t e)) (Ops.std.lcut t (l.map e))
noncomputable def xsrt (me : Int) (l : List α) : Option (List α) := ask (List.map e) (Ops.std.lsrt me (l.map e))
noncomputable def xroom (b : Nat) (l l' : List α) : Bool := Ops.std.room b (l.map e) (l'.map e)
def xset (l : List α) (i : Int) (x : α) : List α := l.set i.toNat x
def xput (l : List α) (i : Int) (l' : List α) : List α := l.take i.toNat ++ l' ++ l.drop (i.toNat + l'.length)
def xfil (l : List α) (lo hi : Int) (z : α) : List α := l.take lo.toNat ++ List.replicate (hi.toNat - lo.toNat) z ++ l.drop hi.toNat
noncomputable def xsget (s : ByteArray) (i : Int) : Option Int := Ops.std.sget s i
noncomputable def xssub (s : ByteArray) (i j : Int) : Option ByteArray := Ops.std.ssub s i j
noncomputable def xsapp (s t : ByteArray) : Option ByteArray := Ops.std.sapp s t
noncomputable def xsdec (s : ByteArray) (at_ : Int) : Option (Int × Int) := Ops.std.sdec s at_
def sbytes (s : ByteArray) : List Int := s.data.toList.map fun b => (b.toNat : Int)
noncomputable def xsofb (l : List Int) : Option ByteArray := Ops.std.sofb (l.map vB)
omit e in
theorem map_sbytes (s : ByteArray) : (sbytes s).map vB = Ops.std.bofs s := by
  show (s.data.toList.map fun b => (b.toNat : Int)).map vB = s.data.toList.map _
  rw [List.map_map]; rfl
theorem map_app (l l' : List α) : (l ++ l').map e = Ops.std.lapp (l.map e) (l'.map e) := by
  show _ = _ ++ _
  simp
theorem map_set (l : List α) (i : Int) (x : α) : (xset l i x).map e = Ops.std.lset (l.map e) i (e x) := by
  show (List.set _ _ _).map e = List.set _ _ _
  simp
theorem map_put (l : List α) (i : Int) (l' : List α) : (xput l i l').map e = Ops.std.lput (l.map e) i (l'.map e) := by
  show _ = List.take _ _ ++ _ ++ List.drop _ _
  simp [xput]
theorem map_fil (l : List α) (lo hi : Int) (z : α) : (xfil l lo hi z).map e = Ops.std.lfil (l.map e) lo hi (e z) := by
  show _ = List.take _ _ ++ List.replicate _ _ ++ List.drop _ _
  simp [xfil]
theorem xlen_eq (l : List α) : xlen e l = (l.length : Int) := by
  show (((l.map e).length : Nat) : Int) = _
  simp
variable [I : Inj e]
theorem xget_eq (l : List α) (i : Int) : xget e l i = if 0 ≤ i then l[i.toNat]? else none := by
  show ask e (if 0 ≤ i then (l.map e)[i.toNat]? else none) = _
  split
  · rw [List.getElem?_map]
    cases l[i.toNat]? with
    | none => exact ask_none
    | some x => exact ask_enc x
  · exact ask_none
theorem xsub_eq (l : List α) (lo hi : Int) : xsub e l lo hi = if 0 ≤ lo ∧ lo ≤ hi ∧ hi ≤ l.length then some ((l.take hi.toNat).drop lo.toNat) else none := by
  show ask (List.map e) (if 0 ≤ lo ∧ lo ≤ hi ∧ hi ≤ (((l.map e).length : Nat) : Int) then some (((l.map e).take hi.toNat).drop lo.toNat) else none) = _
  rw [List.length_map]
  split
  · rw [← List.map_take, ← List.map_drop]; exact ask_enc _
  · exact ask_none
omit I in
theorem xroom_eq {b : Nat} {l l' : List α} (h : l.length + l'.length ≤ 1000000) (hb : b ≤ 1000000) : xroom e b l l' = true := by
  have h1 : (l.length + l'.length) * b ≤ 1000000 * 1000000 := Nat.mul_le_mul h hb
  show (decide ((((l.map e).length + (l'.map e).length) * b ≤ 140737488355328)) && decide ((l.map e).length + (l'.map e).length ≤ maxLen)) = true
  rw [List.length_map, List.length_map]
  have h2 : l.length + l'.length ≤ maxLen := by unfold maxLen; omega
  have h3 : (l.length + l'.length) * b ≤ 140737488355328 := by omega
  simp only [decide_eq_true h2, decide_eq_true h3, Bool.and_self]
end
end Go.Ab
namespace Go.Ab
open Go
set_option linter.unusedVariables false
theorem ilt_dec (a b : Int) : Ops.std.ilt a b = decide (a < b) := rfl
theorem ile_dec (a b : Int) : Ops.std.ile a b = decide (a ≤ b) := rfl
theorem ieq_dec (a b : Int) : Ops.std.ieq a b = decide (a = b) := rfl
theorem seq_iff {a b : ByteArray} : Ops.std.seq a b = true ↔ a = b := by
  constructor
  · intro h
    have : a.data.toList = b.data.toList := by simpa [Ops.std] using h
    cases a; cases b; simp_all
  · rintro rfl; simp [Ops.std]
theorem seq_dec (a b : ByteArray) : Ops.std.seq a b = @decide (a = b) (Classical.propDecidable _) := by
  cases h : Ops.std.seq a b with
  | true => simp [seq_iff.1 h]
  | false =>
    have : ¬ a = b := fun e => by rw [seq_iff.2 e] at h; cases h
    simp [this]
theorem bif_dec {α : Type} {c : Prop} [Decidable c] {x y : α} : (bif decide c then x else y) = if c then x else y := by by_cases h : c <;> simp [h]
section
variable {α σ ο : Type}
theorem xget_nat (e : α → AV) [Inj e] (l : List α) (n : Nat) : xget e l (n : Int) = l[n]? := by
  rw [xget_eq, if_pos (by omega)]; rfl
theorem ilt_len (e : α → AV) {l : List α} {n : Nat} : Ops.std.ilt (n : Int) (xlen e l) = decide (n < l.length) := by
  rw [xlen_eq]
  show decide ((n : Int) < (l.length : Int)) = _
  by_cases h : n < l.length
  · rw [decide_eq_true h, decide_eq_true (by omega)]
  · rw [decide_eq_false h, decide_eq_false (by omega)]
theorem for_list (e : α → AV) [Inj e] {l : List α} (hl : l.length ≤ 4611686018427387904) {L : Int → σ → Option ο} {res : Nat → σ → List α → ο} {Inv : Nat → σ → Prop}
    (hnil : ∀ s, Inv l.length s → Ops.std.ilt (l.length : Int) (xlen e l) = false → L (l.length : Int) s = some (res l.length s []))
    (hcons : ∀ (n : Nat) (x : α) (rest : List α) (s : σ), Inv n s → n < l.length → l[n]? = some x → l.drop n = x :: rest → Ops.std.ilt (n : Int) (xlen e l) = true → xget e l (n : Int) = some x → Ops.std.iadd .i64 (n : Int) 1 = ((n + 1 : Nat) : Int) →
      (∀ s', Inv (n + 1) s' → L ((n + 1 : Nat) : Int) s' = some (res (n + 1) s' rest)) → L (n : Int) s = some (res n s (x :: rest))) (s : σ) (h0 : Inv 0 s) : L 0 s = some (res 0 s l) := by
  have key : ∀ (k n : Nat), n + k = l.length → ∀ s, Inv n s → L (n : Int) s = some (res n s (l.drop n)) := by
    intro k
    induction k with
    | zero =>
      intro n hn s hs
      obtain rfl : n = l.length := by omega
      rw [List.drop_length]
      exact hnil s hs (by rw [ilt_len]; simp)
    | succ k ih =>
      intro n hn s hs
      have hlt : n < l.length := by omega
      rw [List.drop_eq_getElem_cons hlt]
      exact hcons n l[n] (l.drop (n + 1)) s hs hlt (List.getElem?_eq_getElem hlt) (List.drop_eq_getElem_cons hlt) (by rw [ilt_len]; simp [hlt]) (by rw [xget_nat]; exact List.getElem?_eq_getElem hlt) (iadd1 (by omega)) (fun s' hs' => ih (n + 1) (by omega) s' hs')
  have := key l.length 0 (by omega) s h0
  simpa using this
def fst (p : α → Bool) : List α → Option Nat
  | [] => none
  | x :: l => bif p x then some 0 else (fst p l).map (· + 1)
def fstI (p : α → Bool) (l : List α) : Int := match fst p l with | some n => n | none => -1
theorem find_list (e : α → AV) [Inj e] {l : List α} (hl : l.length ≤ 4611686018427387904) {p : α → Bool} {L : Int → Option (Int ⊕ Unit)}
    (hnil : Ops.std.ilt (l.length : Int) (xlen e l) = false → L (l.length : Int) = some (.inr ()))
    (hyes : ∀ (n : Nat) (x : α), x ∈ l → Ops.std.ilt (n : Int) (xlen e l) = true → xget e l (n : Int) = some x → p x = true → L (n : Int) = some (.inl (n : Int)))
    (hno : ∀ (n : Nat) (x : α) (r : Int ⊕ Unit), x ∈ l → Ops.std.ilt (n : Int) (xlen e l) = true → xget e l (n : Int) = some x → p x = false → L (Ops.std.iadd .i64 (n : Int) 1) = some r → L (n : Int) = some r) :
    L 0 = some (match fst p l with | some n => .inl (n : Int) | none => .inr ()) := by
  have := for_list (σ := Unit) e hl (L := fun i _ => L i) (res := fun n _ rest => match fst p rest with | some m => Sum.inl ((n + m : Nat) : Int) | none => .inr ()) (Inv := fun _ _ => True)
    (fun _ _ h => by simpa [fst] using hnil h)
    (fun n x rest s _ hn hx hd h1 h2 h3 ih => by
      have hm : x ∈ l := List.mem_of_getElem? hx
      cases hp : p x with
      | true => simpa [fst, hp] using hyes n x hm h1 h2 hp
      | false =>
        have := hno n x _ hm h1 h2 hp (by rw [h3]; exact ih () trivial)
        rw [this]
        congr 1
        simp only [fst, hp, cond_false]
        cases fst p rest with
        | none => rfl
        | some m => simp only [Option.map_some]; congr 2; omega) () trivial
  simpa using this
theorem gather_list {β : Type} (e : α → AV) [Inj e] {l : List α} (hl : l.length ≤ 4611686018427387904) {f : α → List β} {L : Int → List β → Option (List β)} (k : Nat) (hf : ∀ x, x ∈ l → (f x).length ≤ k)
    (hnil : ∀ acc, Ops.std.ilt (l.length : Int) (xlen e l) = false → L (l.length : Int) acc = some acc)
    (hcons : ∀ (n : Nat) (x : α) (acc r : List β), acc.length ≤ k * n → n < l.length → x ∈ l → Ops.std.ilt (n : Int) (xlen e l) = true → xget e l (n : Int) = some x → L (Ops.std.iadd .i64 (n : Int) 1) (acc ++ f x) = some r → L (n : Int) acc = some r) :
    L 0 [] = some (l.flatMap f) := by
  have := for_list (σ := List β) e hl (L := L) (res := fun n acc rest => acc ++ rest.flatMap f) (Inv := fun n acc => acc.length ≤ k * n)
    (fun acc _ h => by simpa using hnil acc h)
    (fun n x rest acc hi hn hx hd h1 h2 h3 ih => by
      have hm : x ∈ l := List.mem_of_getElem? hx
      rw [hcons n x acc _ hi hn hm h1 h2 (by rw [h3]; exact ih (acc ++ f x) (by have := hf x hm; rw [List.length_append, Nat.mul_add, Nat.mul_one]; omega))]
      simp) [] (by simp)
  simpa using this
theorem same_list (e : α → AV) [Inj e] {l l' : List α} (hl : l.length ≤ 4611686018427387904) (he : l.length = l'.length) {L : Int → Option (Unit ⊕ Unit)}
    (hnil : Ops.std.ilt (l.length : Int) (xlen e l) = false → L (l.length : Int) = some (.inr ()))
    (hyes : ∀ (n : Nat) (x : α) (r : Unit ⊕ Unit), x ∈ l → Ops.std.ilt (n : Int) (xlen e l) = true → xget e l (n : Int) = some x → xget e l' (n : Int) = some x → L (Ops.std.iadd .i64 (n : Int) 1) = some r → L (n : Int) = some r)
    (hno : ∀ (n : Nat) (x y : α), x ∈ l → Ops.std.ilt (n : Int) (xlen e l) = true → xget e l (n : Int) = some x → xget e l' (n : Int) = some y → x ≠ y → L (n : Int) = some (.inl ())) :
    (l = l' ∧ L 0 = some (.inr ())) ∨ (l ≠ l' ∧ L 0 = some (.inl ())) := by
  have key : ∀ (k n : Nat), n + k = l.length → (l.drop n = l'.drop n ∧ L (n : Int) = some (.inr ())) ∨ (l.drop n ≠ l'.drop n ∧ L (n : Int) = some (.inl ())) := by
    intro k
    induction k with
    | zero =>
      intro n hn
      obtain rfl : n = l.length := by omega
      refine .inl ⟨?_, hnil (by rw [ilt_len]; simp)⟩
      rw [List.drop_length, he, List.drop_length]
    | succ k ih =>
      intro n hn
      have hlt : n < l.length := by omega
      have hlt' : n < l'.length := by omega
      have g1 : xget e l (n : Int) = some l[n] := by rw [xget_nat]; exact List.getElem?_eq_getElem hlt
      have g2 : xget e l' (n : Int) = some l'[n] := by rw [xget_nat]; exact List.getElem?_eq_getElem hlt'
      have h1 : Ops.std.ilt (n : Int) (xlen e l) = true := by rw [ilt_len]; simp [hlt]
      have hadd : Ops.std.iadd .i64 (n : Int) 1 = ((n + 1 : Nat) : Int) := iadd1 (by omega)
      rw [List.drop_eq_getElem_cons hlt, List.drop_eq_getElem_cons hlt']
      by_cases hx : l[n] = l'[n]
      · rw [← hx] at g2
        rcases ih (n + 1) (by omega) with ⟨h2, h3⟩ | ⟨h2, h3⟩
        · exact .inl ⟨by rw [hx, h2], hyes n l[n] _ (List.getElem_mem hlt) h1 g1 g2 (by rw [hadd]; exact h3)⟩
        · exact .inr ⟨fun h => h2 (List.cons.inj h).2, hyes n l[n] _ (List.getElem_mem hlt) h1 g1 g2 (by rw [hadd]; exact h3)⟩
      · exact .inr ⟨fun h => hx (List.cons.inj h).1, hno n _ _ (List.getElem_mem hlt) h1 g1 g2 hx⟩
  have := key l.length 0 (by omega)
  simpa using this
def allI (p : Nat → α → Bool) : Nat → List α → Bool
  | _, [] => true
  | n, x :: l => p n x && allI p (n + 1) l
theorem allI_iff {p : Nat → α → Bool} {l : List α} : ∀ {n : Nat}, allI p n l = true ↔ ∀ i x, l[i]? = some x → p (n + i) x = true := by
  induction l with
  | nil => intro n; simp [allI]
  | cons y l ih =>
    intro n
    simp only [allI, Bool.and_eq_true, ih]
    constructor
    · rintro ⟨h1, h2⟩ i x hx
      cases i with
      | zero => simp at hx; subst hx; exact h1
      | succ i => have := h2 i x (by simpa using hx); rwa [show n + 1 + i = n + (i + 1) by omega] at this
    · intro h
      exact ⟨h 0 y rfl, fun i x hx => by have := h (i + 1) x (by simpa using hx); rwa [show n + (i + 1) = n + 1 + i by omega] at this⟩
theorem all_list (e : α → AV) [Inj e] {l : List α} (hl : l.length ≤ 4611686018427387904) {p : Nat → α → Bool} {L : Int → Option (Unit ⊕ Unit)}
    (hnil : Ops.std.ilt (l.length : Int) (xlen e l) = false → L (l.length : Int) = some (.inr ()))
    (hyes : ∀ (n : Nat) (x : α) (r : Unit ⊕ Unit), l[n]? = some x → Ops.std.ilt (n : Int) (xlen e l) = true → xget e l (n : Int) = some x → p n x = true → L (Ops.std.iadd .i64 (n : Int) 1) = some r → L (n : Int) = some r)
    (hno : ∀ (n : Nat) (x : α), l[n]? = some x → Ops.std.ilt (n : Int) (xlen e l) = true → xget e l (n : Int) = some x → p n x = false → L (n : Int) = some (.inl ())) :
    L 0 = some (bif allI p 0 l then .inr () else .inl ()) :=
  for_list (σ := Unit) e hl (L := fun i _ => L i) (res := fun n _ rest => bif allI p n rest then .inr () else .inl ()) (Inv := fun _ _ => True)
    (fun _ _ h => hnil h)
    (fun n x rest s _ hn hx hd h1 h2 h3 ih => by
      cases hp : p n x with
      | true => rw [hyes n x _ hx h1 h2 hp (by rw [h3]; exact ih () trivial)]; simp [allI, hp]
      | false => rw [hno n x hx h1 h2 hp]; simp [allI, hp]) () trivial
end
noncomputable def eqb {α : Type} (a b : α) : Bool := @decide (a = b) (Classical.propDecidable _)
theorem eqb_self {α : Type} (a : α) : eqb a a = true := by simp [eqb]
theorem eqb_ne {α : Type} {a b : α} (h : a ≠ b) : eqb a b = false := by simp [eqb, h]
end Go.Ab
namespace Go.Ab
open Go Go.RowKit Go.Shelf Go.Proofs
set_option linter.unusedSimpArgs false
set_option linter.unusedVariables false
section
variable {P : Program} {base : Base} {ρ : Ren}
theorem owns_row {w' : World} {b0 : Nat} {base : Base} (hb : base ≤ b0) {e : TypeId} {size : Nat} {v : Value} {n : Nat} {vals : List Value} (h : w'.ownsRow b0 e size v n vals) : RowAt base w' e size v n vals ∧ (∀ b, rowBlk v = some b → b0 ≤ b ∧ b < w'.heap.size) ∧ v.oneCell' = true := by
  obtain ⟨hl, h⟩ := h
  rcases h with ⟨rfl, rfl⟩ | ⟨g, cap, cur, rfl, hg, hh, hn, hm, hs, ht⟩
  · exact ⟨⟨hl, .inl ⟨rfl, none, rfl⟩⟩, fun b hb => by simp [rowBlk] at hb, rfl⟩
  · refine ⟨⟨hl, ?_⟩, fun b hb => ?_, rfl⟩
    · by_cases hc : cap = 0
      · subst hc
        have : n = 0 := by omega
        subst this
        exact .inl ⟨rfl, _, rfl⟩
      · exact .inr ⟨g, cap, cur, by omega, rfl, Nat.le_trans hb hg, hh, hn, hm, hs, ht⟩
    · cases cap with
      | zero => simp [rowBlk] at hb
      | succ c =>
        simp [rowBlk] at hb
        subst hb
        exact ⟨hg, (Array.getElem?_eq_some_iff.1 hh).1⟩
set_option maxHeartbeats 2000000 in
set_option maxRecDepth 100000 in
theorem clone_empty (L : SlLaysE0.n41 P ρ) (hi : (P.info? (ρ.t 23)).isSome = true) (A : Addr) (c : Nat) (w : World) :
    Calls P (ρ.f 41) #[.slice (some A) 0 c] w fun e w' => e = .returned (.slice (some ⟨w.heap.size, 0, none⟩) 0 0) ∧ w' = w.alloc (.cells #[] (ρ.t 23)) := by
  have mixed := L.mixed; have t4 := L.t4; have a4 := L.a4; have z4 := L.z4; have v4 := L.v4; have t22 := L.t22; have a22 := L.a22; have z22 := L.z22; have v22 := L.v22
  have q22 : ∀ (w : World) (a : Option Addr) (n c n' c' : Nat), (binOp .eql (ρ.t 22) (.slice a n c) (.slice none n' c')).run P w = .ok (.bool a.isNone) w := fun w a n c n' c' => Lib.run_eql_slice_nil w _ _ a n c n' c' L.t22
  have u22 : ∀ w, Sem.run P (underlying (ρ.t 22)) w = .ok (TypeDesc.slice (ρ.t 23)) w := run_underlying t22
  have z23 : ∀ w, (Go.sizeOf (ρ.t 23)).run P w = .ok (P.cellsOf (ρ.t 23)) w := fun w => run_sizeOf hi
  have hr := fun rt => run_append_zero (P := P) (w := w.alloc (.cells #[] (ρ.t 23))) (ty := ρ.t 22) (rt := rt) t22 hi (some ⟨w.heap.size, 0, none⟩) (some A) 0 0 c (Nat.le_refl _)
  obtain ⟨_, _, FG⟩ := L.f41
  go_enter FG, SlBodyN.n41_ntmps ρ
  go_wp2_with (at_builtin; refine Lib.wpList_append_run _ rfl _ _ _ _ rfl _ _ rfl rfl _ _ (hr _) ?_)
  go_ret
  exact ⟨rfl, rfl⟩
theorem clone_ok (L : SlLaysE0.n41 P ρ) {z : AV} (hz : zeroOf P (ρ.t 23) = some z) (h0 : 0 < P.cellsOf (ρ.t 23)) : PrimOk P base (ρ.f 41) (.clone (ρ.t 23) (P.bytesOf (ρ.t 23))) := by
  refine ⟨?_, fun args h v h3 m he E vs hP R V => ?_, trivial⟩
  · obtain ⟨nm, hn, hf⟩ := L.f41
    exact ⟨_, hf, rfl, by simpa using hn⟩
  · simp only [primOp] at he
    split at he
    · rename_i x
      split at he
      · rename_i xs hxs
        split at he
        · rename_i hroom
          cases he
          obtain ⟨xv, us, rfl, hx, hnil⟩ := V.uncons
          cases hnil
          obtain ⟨hel, hs⟩ := elemsAt_some R hx hxs
          obtain ⟨ad, cap, vals, rfl, hc, hm, hd, hone, _, hrd⟩ := elems_vl R hx hel
          subst hP
          have hvl : vals.length = xs.length * E.P.cellsOf (ρ.t 23) := by rw [hd.length, flat_len hs]
          obtain ⟨hb, hl⟩ := room_std hroom
          simp only [List.length_nil, Nat.zero_add] at hb hl
          by_cases hx0 : xs.length = 0
          · have hxn : xs = [] := List.eq_nil_of_length_eq_zero hx0
            subst hxn
            cases ad with
            | none =>
              refine (AnyE.slices_Clone_nil L 0 cap E.w).mono fun e w' ⟨he, hw⟩ => ?_
              subst hw
              obtain ⟨E', hw, R', S, V'⟩ := row_fresh (base := base) R (e := ρ.t 23) (w' := E.w) (v' := .slice none 0 0) (xs' := []) (vals' := []) rfl rfl rfl (Nat.le_refl _) (fun _ _ => rfl) (fun b hb => by simp [rowBlk] at hb)
                ⟨by simp, .inl ⟨rfl, none, rfl⟩⟩ rfl (fun x hx => by cases hx) (fun u hu => by cases hu) .nil
              exact ⟨_, E', he, hw, R', S, V'⟩
            | some A =>
              have hinfo : (E.P.info? (ρ.t 23)).isSome = true := by obtain ⟨i, _, hi, _⟩ := zeroOf_some (E := E) hz; rw [hi]; rfl
              refine (clone_empty L hinfo A cap E.w).mono fun e w' ⟨he, hw⟩ => ?_
              subst hw
              obtain ⟨E', hw, R', S, V'⟩ := row_fresh (base := base) R (e := ρ.t 23) (w' := E.w.alloc (.cells #[] (ρ.t 23))) (v' := .slice (some ⟨E.w.heap.size, 0, none⟩) 0 0) (xs' := []) (vals' := []) rfl rfl rfl (by simp) (fun b hb => heap_alloc_old E.w _ hb) (fun b hb => by simp [rowBlk] at hb)
                ⟨by simp, .inl ⟨rfl, _, rfl⟩⟩ rfl (fun x hx => by cases hx) (fun u hu => by cases hu) .nil
              exact ⟨_, E', he, hw, R', S, V'⟩
          · obtain ⟨i, zv, hi, hzv, hzs, _, _⟩ := zeroOf_some (E := E) hz
            have his : i.size = E.P.cellsOf (ρ.t 23) := by simp [Program.cellsOf, hi]
            have hib : i.bytes = E.P.bytesOf (ρ.t 23) := by simp [Program.bytesOf, hi]
            have hpos : 0 < vals.length := by rw [hvl]; exact Nat.mul_pos (by omega) h0
            obtain ⟨b, o, rfl, _⟩ := hrd 0 _ (List.getElem?_eq_getElem hpos)
            have hcl : ∀ j u, vals[j]? = some u → E.w.cell? ⟨b, o + j, none⟩ = some u := fun j u hj => by
              obtain ⟨b', o', hab, hc'⟩ := hrd j u hj
              injection hab with hab
              injection hab with e1 e2 _
              subst e1 e2
              exact hc'
            refine (AnyE.slices_Clone L i zv (E.P.cellsOf (ρ.t 23)) (E.P.bytesOf (ρ.t 23)) hi hzv his hib hzs h0 (fun w => run_sizeOf (by rw [hi]; rfl)) b o xs.length cap vals E.w hvl hl hb hcl hone).mono fun e w' ⟨v', he, hown, _, bel⟩ => ?_
            obtain ⟨hrow, hblk, h1⟩ := owns_row R.le hown
            obtain ⟨E', hw, R', S, V'⟩ := row_fresh (base := base) R (e := ρ.t 23) (w' := w') (v' := v') (xs' := xs) (vals' := vals) bel.os bel.tape bel.output bel.size bel.block hblk hrow h1 hs hone hd
            exact ⟨_, E', he, hw, R', S, V'⟩
        · cases he
      · cases he
    · cases he
end
end Go.Ab
namespace Go.Ab
open Go Go.ChangeShapes Go.WideShapes
set_option linter.unusedSimpArgs false
set_option linter.unusedVariables false
section
variable {H : Type} {enc : TypeId × Value → H} {P : Program} {w : World} {base : Nat} {spare : Nat → Bool} {held : Bool} {fuel : Nat} {cs : List Value} {x : DataW H × List MemPlace}
def ElemAt (P : Program) (w : World) (size : Nat) (Good : AV → Prop) (cs : List Value) (xa : AV) : Prop :=
  DL P w (fun _ => False) xa.cells cs ∧ xa.cells.length = size ∧ (∀ c, c ∈ xa.cells → c.one = true) ∧ Good xa
theorem elems_dl {size : Nat} {Good : AV → Prop} {a : Addr} : ∀ (len : Nat), (∀ i, i < len → ∃ cs' xa, w.cells? base (a.add (i * size)) size = some cs' ∧ ElemAt P w size Good cs' xa) →
    ∃ xs vals, xs.length = len ∧ (∀ x, x ∈ xs → x.cells.length = size ∧ Good x) ∧ DL P w (fun _ => False) (flat xs) vals ∧ vals.length = len * size ∧ (∀ u, u ∈ vals → u.oneCell' = true) ∧ ∀ j u, vals[j]? = some u → w.cell? (a.add j) = some u := by
  intro len
  induction len with
  | zero => intro _; exact ⟨[], [], rfl, fun x h => (by cases h), .nil, by simp, fun u h => (by cases h), fun j u h => by simp at h⟩
  | succ len ih =>
    intro h
    obtain ⟨xs, vals, h1, h2, h3, h4, h5, h6⟩ := ih (fun i hi => h i (by omega))
    obtain ⟨cs', xa, hc, hd, hl, ho, hg⟩ := h len (by omega)
    obtain ⟨hb, hcl, hcell⟩ := World.cells?_some hc
    refine ⟨xs ++ [xa], vals ++ cs', by simp [h1], fun x hx => ?_, ?_, ?_, fun u hu => ?_, fun j u hu => ?_⟩
    · rcases List.mem_append.1 hx with hx | hx
      · exact h2 x hx
      · simp at hx; subst hx; exact ⟨hl, hg⟩
    · rw [flat_append]
      refine h3.append ?_
      simpa [flat] using hd
    · rw [List.length_append, h4, hcl, Nat.add_mul, Nat.one_mul]
    · rcases List.mem_append.1 hu with hu | hu
      · exact h5 u hu
      · exact (hd.vl (E := ⟨P, w, 0, fun _ => none, fun _ => 0, fun _ => 0, fun _ => undef, fun _ => 0, fun _ => False⟩)).one_cells ho u hu
    · by_cases hj : j < vals.length
      · rw [List.getElem?_append_left hj] at hu; exact h6 j u hu
      · rw [List.getElem?_append_right (by omega)] at hu
        have hlt : j - vals.length < size := by
          have := (List.getElem?_eq_some_iff.1 hu).1; omega
        have := hcell (j - vals.length) hlt
        rw [Go.Deep.add_add, ← h4, show vals.length + (j - vals.length) = j by omega] at this
        rw [this]; exact hu
theorem slice_av {t e : TypeId} {size : Nat} (ht : P.underlying t = some (.slice e)) (hc : P.cellsOf e = size) (h0 : 0 < size) {Good : AV → Prop} (h : DataW.trod enc P w base spare held fuel t cs = some x)
    (el : ∀ n cs' y, n < fuel → DataW.trod enc P w base spare held n e cs' = some y → ∃ xa, ElemAt P w size Good cs' xa) :
    ∃ xs v, cs = [v] ∧ DL P w (fun _ => False) [.lit e false xs] [v] ∧ ∀ x, x ∈ xs → Good x := by
  rcases DataW.trod_slice ht h with ⟨rfl, rfl⟩ | ⟨a, len, cap, elems, rest, n, rfl, rfl, rfl, hb, hl, hm, hlen, hel, hsp, hns⟩
  · exact ⟨[], _, rfl, .lit (Nat.le_refl 0) (Nat.zero_le _) (by simp) (fun x h => by cases h) .nil (fun u h => by cases h) (fun j u h => by simp at h) .nil, fun x h => by cases h⟩
  · obtain ⟨xs, vals, h1, h2, h3, h4, h5, h6⟩ := elems_dl (P := P) (w := w) (base := base) (size := size) (Good := Good) (a := a) len (fun i hi => by
      have := hel i hi
      rw [List.getElem?_eq_getElem (by omega)] at this
      obtain ⟨cs', e1, e2⟩ := Option.bind_eq_some_iff.1 this
      obtain ⟨xa, hx⟩ := el n cs' _ (by omega) e2
      rw [hc] at e1
      exact ⟨cs', xa, e1, hx⟩)
    refine ⟨xs, _, rfl, ?_, fun x hx => (h2 x hx).2⟩
    have hd := DL.lit (P := P) (w := w) (own := fun _ => False) (e := e) (full := false) (xs := xs) (a := some a) (cap := cap) (vals := vals) (r := []) (rs := []) (by omega) hm (by simp) (fun x hx => by rw [hc]; exact (h2 x hx).1) h3 h5 (fun j u hu => by
      have hpos : 0 < vals.length := by have := (List.getElem?_eq_some_iff.1 hu).1; omega
      have h00 := h6 0 _ (List.getElem?_eq_getElem hpos)
      have := h6 j u hu
      have hsp : a.spot = none := by
        rw [show a.add 0 = a from if_pos rfl] at h00
        unfold World.cell? at h00
        split at h00
        · split at h00
          · cases h00
          · rename_i hs
            simpa using hs
        · cases h00
      obtain ⟨b, o, s⟩ := a
      simp only at hsp
      subst hsp
      refine ⟨b, o, rfl, id, ?_⟩
      rw [Addr.add_lit] at this
      exact this) .nil
    rw [h1] at hd
    exact hd
theorem slice_cell {t e : TypeId} (ht : P.underlying t = some (.slice e)) {r : Reach} {b0 : Nat} {v : Value} (h : Value.okWide P w r b0 t v) : v.cells = #[v] := by
  unfold Value.okWide at h
  rw [ht] at h
  cases v with
  | agg cs =>
    simp only [Cell.okWide, ht, Cell.ok] at h
  | _ => rfl
end
end Go.Ab
namespace Go.Ab
open Go Go.ChangeShapes Go.WideShapes
set_option linter.unusedVariables false
def Rd {α : Type} (P : Program) (w : World) (e : α → AV) (Ok : α → Prop) (cs : List Value) (a : α) : Prop :=
  DL P w (fun _ => False) (e a).cells cs ∧ (∀ c, c ∈ (e a).cells → c.one = true) ∧ Ok a
abbrev OkI (x : Int) : Prop := -9223372036854775808 ≤ x ∧ x ≤ 9223372036854775807
abbrev OkU (x : Int) : Prop := 0 ≤ x ∧ x ≤ 18446744073709551615
abbrev OkW (x : Int) : Prop := 0 ≤ x ∧ x ≤ 4294967295
abbrev OkH (x : Int) : Prop := 0 ≤ x ∧ x ≤ 65535
abbrev OkB (x : Int) : Prop := 0 ≤ x ∧ x ≤ 255
abbrev OkT (x : ByteArray) : Prop := x.size ≤ maxLen
abbrev OkF (x : Bool) : Prop := True
def OkL {α : Type} (Ok : α → Prop) (l : List α) : Prop := (∀ x, x ∈ l → Ok x) ∧ l.length ≤ maxLen
theorem wf_int {k : IntKind} {n : Int} (h : (Lit.int k n).wf = true) : k.min ≤ n ∧ n ≤ k.max := by
  simpa [Lit.wf] using h
theorem wf_i64 {n : Int} (h : (Lit.int .i64 n).wf = true) : OkI n := wf_int h
theorem wf_u64 {n : Int} (h : (Lit.int .u64 n).wf = true) : OkU n := wf_int h
theorem wf_u32 {n : Int} (h : (Lit.int .u32 n).wf = true) : OkW n := wf_int h
theorem wf_u16 {n : Int} (h : (Lit.int .u16 n).wf = true) : OkH n := wf_int h
section
variable {H : Type} {enc : TypeId × Value → H} {P : Program} {w : World} {base : Nat} {spare : Nat → Bool} {held : Bool} {fuel : Nat} {cs : List Value} {x : DataW H × List MemPlace} {t : TypeId}
theorem rd_int {k : IntKind} (ht : P.underlying t = some (.int k)) (h : DataW.trod enc P w base spare held fuel t cs = some x) : ∃ n, Rd P w (fun n : Int => .sc (.int k n)) (fun n => (Lit.int k n).wf = true) cs n := by
  obtain ⟨n, rfl, _, hw⟩ := DataW.trod_int ht h
  exact ⟨n, .sc rfl .nil, fun c hc => by simp [AV.cells] at hc; subst hc; rfl, hw⟩
theorem rd_i64 (ht : P.underlying t = some (.int .i64)) (h : DataW.trod enc P w base spare held fuel t cs = some x) : ∃ n, Rd P w vI OkI cs n := let ⟨n, h1, h2, h3⟩ := rd_int ht h; ⟨n, h1, h2, wf_i64 h3⟩
theorem rd_u64 (ht : P.underlying t = some (.int .u64)) (h : DataW.trod enc P w base spare held fuel t cs = some x) : ∃ n, Rd P w vU OkU cs n := let ⟨n, h1, h2, h3⟩ := rd_int ht h; ⟨n, h1, h2, wf_u64 h3⟩
theorem rd_u32 (ht : P.underlying t = some (.int .u32)) (h : DataW.trod enc P w base spare held fuel t cs = some x) : ∃ n, Rd P w vW OkW cs n := let ⟨n, h1, h2, h3⟩ := rd_int ht h; ⟨n, h1, h2, wf_u32 h3⟩
theorem rd_u16 (ht : P.underlying t = some (.int .u16)) (h : DataW.trod enc P w base spare held fuel t cs = some x) : ∃ n, Rd P w vH OkH cs n := let ⟨n, h1, h2, h3⟩ := rd_int ht h; ⟨n, h1, h2, wf_u16 h3⟩
theorem rd_string (ht : P.underlying t = some .string) (h : DataW.trod enc P w base spare held fuel t cs = some x) : ∃ s, Rd P w vT OkT cs s := by
  obtain ⟨s, rfl, _, hs⟩ := DataW.trod_string ht h
  exact ⟨s, .sc rfl .nil, fun c hc => by simp [AV.cells] at hc; subst hc; rfl, hs⟩
theorem rd_bool (ht : P.underlying t = some .bool) (h : DataW.trod enc P w base spare held fuel t cs = some x) : ∃ s, Rd P w vF OkF cs s := by
  obtain ⟨s, rfl, _⟩ := DataW.trod_bool ht h
  exact ⟨s, .sc rfl .nil, fun c hc => by simp [AV.cells] at hc; subst hc; rfl, trivial⟩
theorem rd_list {α : Type} {e : TypeId} {size : Nat} {f : α → AV} {Ok : α → Prop} (ht : P.underlying t = some (.slice e)) (hc : P.cellsOf e = size) (h0 : 0 < size) (hf : ∀ a, (f a).cells.length = size) (h : DataW.trod enc P w base spare held fuel t cs = some x)
    (el : ∀ n cs' y, n < fuel → DataW.trod enc P w base spare held n e cs' = some y → ∃ a, Rd P w f Ok cs' a) : ∃ l, Rd P w (eL e f) (OkL Ok) cs l := by
  obtain ⟨xs, v, rfl, hd, hg⟩ := slice_av (P := P) (w := w) (size := size) (Good := fun v => ∃ a, v = f a ∧ Ok a) ht hc h0 h (fun n cs' y hn hy => by
    obtain ⟨a, h1, h2, h3⟩ := el n cs' y hn hy
    exact ⟨f a, h1, hf a, h2, a, rfl, h3⟩)
  have key : ∀ xs : List AV, (∀ x, x ∈ xs → ∃ a, x = f a ∧ Ok a) → ∃ l : List α, xs = l.map f ∧ ∀ a, a ∈ l → Ok a := by
    intro xs
    induction xs with
    | nil => intro _; exact ⟨[], rfl, fun a h => by cases h⟩
    | cons x xs ih =>
      intro h
      obtain ⟨a, rfl, ha⟩ := h x (by simp)
      obtain ⟨l, rfl, hl⟩ := ih (fun y hy => h y (by simp [hy]))
      exact ⟨a :: l, rfl, fun b hb => (List.mem_cons.1 hb).elim (fun e => by rw [e]; exact ha) (hl b)⟩
  obtain ⟨l, rfl, hl⟩ := key xs hg
  have hlen : l.length ≤ maxLen := by
    cases hd with
    | lit h1 h2 _ _ _ _ _ _ => rw [List.length_map] at h1; omega
  exact ⟨l, hd, fun c hc => by simp [eL, AV.cells] at hc; subst hc; rfl, hl, hlen⟩
theorem arg_list {α : Type} {e : TypeId} {f : α → AV} {Ok : List α → Prop} (ht : P.underlying t = some (.slice e)) {r : Reach} {b0 : Nat} {v : Value} (hval : Value.okWide P w r b0 t v) (h : ∃ l, Rd P w (eL e f) Ok v.cells.toList l) : ∃ l, DL P w (fun _ => False) [.lit e false (l.map f)] [v] ∧ Ok l := by
  obtain ⟨l, h1, _, h2⟩ := h
  rw [slice_cell ht hval] at h1
  exact ⟨l, h1, h2⟩
theorem arg_struct {α : Type} {fs : Array Field} {f : α → AV} {Ok : α → Prop} (hagg : ∀ a, ∃ cs, f a = .agg cs) (ht : P.underlying t = some (.struct fs)) {r : Reach} {b0 : Nat} {v : Value} (hval : Value.okWide P w r b0 t v) (h : ∃ a, Rd P w f Ok v.cells.toList a) : ∃ a, DL P w (fun _ => False) [f a] [v] ∧ Ok a := by
  obtain ⟨a, h1, _, h2⟩ := h
  unfold Value.okWide at hval
  rw [ht] at hval
  obtain ⟨cs, rfl, _, _⟩ := hval
  obtain ⟨l, hl⟩ := hagg a
  rw [hl] at h1
  refine ⟨a, ?_, h2⟩
  rw [hl]
  have := DL.agg h1 (r := []) (rs := []) .nil
  simpa [AV.cells, Value.cells] using this
end
end Go.Ab
namespace Go.Ab
open Go Go.RowKit Go.Shelf Go.Proofs Go.Lib
set_option linter.unusedSimpArgs false
set_option linter.unusedVariables false
structure InsBase (P : Program) (ρ : Ren) : Prop where
  mixed : P.follows .mixedOrders = true
  f22 : Bears P (ρ.f 22) (Body2.n22 ρ)
  t0 : P.underlying (ρ.t 0) = some (TypeDesc.tuple #[])
  a0 : ∀ w, (isAgg (ρ.t 0)).run P w = .ok false w
  z0 : ∀ w, (Go.sizeOf (ρ.t 0)).run P w = .ok 1 w
  v0 : ∀ w, (zeroValue (ρ.t 0)).run P w = .ok (Value.tuple #[]) w
  t3 : P.underlying (ρ.t 3) = some (TypeDesc.int IntKind.i64)
  a3 : ∀ w, (isAgg (ρ.t 3)).run P w = .ok false w
  z3 : ∀ w, (Go.sizeOf (ρ.t 3)).run P w = .ok 1 w
  v3 : ∀ w, (zeroValue (ρ.t 3)).run P w = .ok (Value.int IntKind.i64 0) w
  t4 : P.underlying (ρ.t 4) = some (TypeDesc.bool)
  a4 : ∀ w, (isAgg (ρ.t 4)).run P w = .ok false w
  z4 : ∀ w, (Go.sizeOf (ρ.t 4)).run P w = .ok 1 w
  v4 : ∀ w, (zeroValue (ρ.t 4)).run P w = .ok (Value.bool false) w
  t24 : P.underlying (ρ.t 24) = some (TypeDesc.slice (ρ.t 9))
  a24 : ∀ w, (isAgg (ρ.t 24)).run P w = .ok false w
  z24 : ∀ w, (Go.sizeOf (ρ.t 24)).run P w = .ok 1 w
  v24 : ∀ w, (zeroValue (ρ.t 24)).run P w = .ok (Value.slice none 0 0) w
structure InsLaid (P : Program) (ρ : Ren) : Prop extends InsBase P ρ where
  ov : ∀ args w v, (Extern.SlicesOverlaps.overlaps #[ρ.t 24, ρ.t 24] #[ρ.t 4] args).run P w = .ok v w → (callFunc (ρ.f 29) args).run P w = .ok (.value v) w
section
variable {P : Program} {ρ : Ren}
theorem run_copy_k (w : World) (dT sT ty elem : TypeId) (k b o dLen dCap : Nat) (a : Addr) (sLen sCap : Nat) (cs : List Value)
    (hu : P.underlying dT = some (.slice elem)) (hs : (P.info? elem).map (·.size) = some k) (hn : cs.length = Nat.min sLen dLen * k)
    (hsrc : ∀ j v, cs[j]? = some v → w.cell? (a.add j) = some v) (hc : ∀ j, j < cs.length → (w.cell? ⟨b, o + j, none⟩).isSome = true) (hf : ∀ j, j < cs.length → w.frozen? ⟨b, o + j, none⟩ = false) (h1 : ∀ v ∈ cs, v.oneCell' = true) :
    (Builtin.copy_ #[dT, sT] ty #[.slice (some ⟨b, o, none⟩) dLen dCap, .slice (some a) sLen sCap]).run P w = .ok (goInt (Nat.min sLen dLen)) (w.setCells b o cs) := by
  have hl := run_loadCells_list (P := P) w a cs hsrc
  have hst := run_storeCells_cells (P := P) b o cs 0 w (by simpa using hc) (by simpa using hf) h1
  cases hq : P.info? elem with
  | none => simp [hq] at hs
  | some i =>
    have hi : i.size = k := by simpa [hq] using hs
    simp [Builtin.copy_, run_underlying hu, Builtin.lenOf, Builtin.firstCells, sizeOf, typeInfo, hq, hi, ← hn, hl, hst]
theorem run_overlaps_two (w : World) (tS tR e : TypeId) (ht : P.underlying tS = some (.slice e)) (size : Nat) (hz : ∀ w, (Go.sizeOf e).run P w = .ok size w)
    (a b : Addr) (la ca lb cb : Nat) (hne : a.block ≠ b.block) {v : Value} (ha : w.cell? a = some v) {cur : Array Value} {t : TypeId} (hb : w.heap[b.block]? = some (.cells cur t (0, 0))) (hcur : cur.size ≠ 0) :
    (Extern.SlicesOverlaps.overlaps #[tS, tS] #[tR] #[.slice (some a) la ca, .slice (some b) lb cb]).run P w = .ok (.bool false) w := by
  have hnb : (a.block != b.block) = true := by simpa using hne
  have hnb' : (a.block == b.block) = false := by simpa using hne
  have hsb : w.shape? b.block = some (t, cur.size) := by simp [World.shape?, hb]
  have hfb : ∀ o s, w.frozen? ⟨b.block, o, s⟩ = false := fun o s => by simp [World.frozen?, hb]
  have hfb0 : w.frozen? b = false := by simp [World.frozen?, hb]
  obtain ⟨tA, kA, hsa, hk⟩ : ∃ tA kA, w.shape? a.block = some (tA, kA) ∧ kA ≠ 0 := by
    unfold World.cell? at ha
    split at ha
    · rename_i c el fr hh
      refine ⟨el, c.size, by simp [World.shape?, hh], fun h0 => ?_⟩
      split at ha
      · cases ha
      · rw [Array.eq_empty_of_size_eq_zero h0] at ha
        simp at ha
    · cases ha
  change Sem.run P (α := Value) (do
    let some t := (#[tS, tS] : Array TypeId)[0]? | stuck "slices.overlaps: no parameter types"
    let .slice elem ← underlying t | stuck "slices.overlaps: slice type expected"
    let size ← sizeOf elem
    match (some a : Option Addr), (some b : Option Addr) with
    | some a, some b =>
      if la = 0 ∨ lb = 0 ∨ size = 0 then pure (Value.bool false)
      else if a.block != b.block && (← frozen a) && (← frozen b) then unsupported .addressObserved
      else do
        if a.block != b.block then do
          noView a; noView b
          if ← mayBeOne a b then return Value.bool ((← choose (.extern "sameAddr.stringBytes" 2)) == 1)
        pure (Value.bool (a.block == b.block && a.off < b.off + lb * size && b.off < a.off + la * size))
    | _, _ => pure (Value.bool false)) w = _
  by_cases h0 : la = 0 ∨ lb = 0 ∨ size = 0
  · simp [run_underlying ht, hz, h0]
  · obtain ⟨kA', rfl⟩ : ∃ m, kA = m + 1 := ⟨kA - 1, by omega⟩
    cases hfa : w.frozen? a <;> cases hfe : w.frozen? { block := a.block, off := kA' + 1 } <;>
      simp [run_underlying ht, hz, h0, hnb, hnb', frozen, noView, viewAt, mayBeOne, stringish, shape, Sem.run, hsa, hsb, hfb0, hfb, hfa, hfe]
end
end Go.Ab
namespace Go.Ab
open Go Go.RowKit Go.Shelf Go.Proofs Go.Lib
set_option linter.unusedSimpArgs false
set_option linter.unusedVariables false
variable {P : Program} {ρ : Ren}
set_option maxHeartbeats 4000000 in
set_option maxRecDepth 100000 in
theorem ins_end (L : InsLaid P ρ) {k : Nat} (z9 : ∀ w, (Go.sizeOf (ρ.t 9)).run P w = .ok k w) (base : Option Addr) (n c m yc : Nat) (yb : Option Addr) (w w1 : World) (v1 : Value) (hm : 0 < m)
    (hr : ∀ rt, (Builtin.append_ #[ρ.t 24, ρ.t 24] rt #[.slice base n c, .slice yb m yc]).run P w = .ok v1 w1) :
    Calls P (ρ.f 22) #[.slice base n c, .int .i64 n, .slice yb m yc] w fun e w' => e = .returned v1 ∧ w' = w1 := by
  have t0 := L.t0; have a0 := L.a0; have z0 := L.z0; have v0 := L.v0; have t3 := L.t3; have a3 := L.a3; have z3 := L.z3; have v3 := L.v3; have t4 := L.t4; have a4 := L.a4; have z4 := L.z4; have v4 := L.v4; have t24 := L.t24; have a24 := L.a24; have z24 := L.z24; have v24 := L.v24
  have u0 := run_underlying L.t0; have u3 := run_underlying L.t3; have u4 := run_underlying L.t4; have u24 := run_underlying L.t24
  have mixed := L.mixed
  have hz1 : ¬ ((m : Int) = 0) := by omega
  obtain ⟨_, _, FG⟩ := L.f22
  go_enter FG, Body2.n22_ntmps ρ
  cases base with
  | none =>
    go_wp2_with (at_builtin; refine Lib.wpList_append_run _ rfl _ _ _ _ rfl _ _ rfl rfl _ _ (hr _) ?_)
    go_ret
    exact ⟨rfl, rfl⟩
  | some a =>
    obtain ⟨ab, ao, asp⟩ := a
    go_wp2_with (at_builtin; refine Lib.wpList_append_run _ rfl _ _ _ _ rfl _ _ rfl rfl _ _ (hr _) ?_)
    all_goals (go_ret; exact ⟨rfl, rfl⟩)
set_option maxHeartbeats 4000000 in
set_option maxRecDepth 100000 in
theorem ins_shift (L : InsLaid P ρ) {k : Nat} (hk : (P.info? (ρ.t 9)).map (·.size) = some k) (z9 : ∀ w, (Go.sizeOf (ρ.t 9)).run P w = .ok k w) (b off n c i vb voff m vc : Nat) (cs vs : List Value) (w : World) (hi : i < n) (hm : 0 < m) (hroom : n + m ≤ c) (hc63 : c ≤ 9223372036854775807) (hvb : vb ≠ b)
    (hcl : cs.length = n * k) (hvl : vs.length = m * k)
    (hcs : ∀ j v, cs[j]? = some v → w.cell? ⟨b, off + j, none⟩ = some v) (hsp : ∀ j, j < (n + m) * k → (w.cell? ⟨b, off + j, none⟩).isSome = true) (hfz : ∀ j, j < (n + m) * k → w.frozen? ⟨b, off + j, none⟩ = false)
    (hvs : ∀ j v, vs[j]? = some v → w.cell? ⟨vb, voff + j, none⟩ = some v) (h1c : ∀ v ∈ cs, v.oneCell' = true) (h1v : ∀ v ∈ vs, v.oneCell' = true)
    (hov : ∀ lb cb, (callFunc (ρ.f 29) #[.slice (some ⟨vb, voff, none⟩) m vc, .slice (some ⟨b, off + (i + m) * k, none⟩) lb cb]).run P w = .ok (.value (.bool false)) w) :
    Calls P (ρ.f 22) #[.slice (some ⟨b, off, none⟩) n c, .int .i64 i, .slice (some ⟨vb, voff, none⟩) m vc] w fun e w' =>
      e = .returned (.slice (some ⟨b, off, none⟩) (n + m) c) ∧ w' = (w.drew.setCells b (off + (i + m) * k) (cs.drop (i * k))).setCells b (off + i * k) vs := by
  have t0 := L.t0; have a0 := L.a0; have z0 := L.z0; have v0 := L.v0; have t3 := L.t3; have a3 := L.a3; have z3 := L.z3; have v3 := L.v3; have t4 := L.t4; have a4 := L.a4; have z4 := L.z4; have v4 := L.v4; have t24 := L.t24; have a24 := L.a24; have z24 := L.z24; have v24 := L.v24
  have u0 := run_underlying L.t0; have u3 := run_underlying L.t3; have u4 := run_underlying L.t4; have u24 := run_underlying L.t24
  have hz1 : ¬ ((m : Int) = 0) := by omega
  have hz2 : ¬ ((i : Int) = (n : Int)) := by omega
  have hdl : (cs.drop (i * k)).length = (n - i) * k := by rw [List.length_drop, hcl, Nat.sub_mul]
  have mixed := L.mixed
  have hw1 : IntKind.i64.wrap ((i : Int) + (m : Int)) = (i : Int) + (m : Int) := by rw [IntKind.wrap_i64]; omega
  have hb1 : (0 : Int) ≤ (i : Int) + (m : Int) := by omega
  have hin : i ≤ n := by omega
  have htn : ((i : Int) + (m : Int)).toNat = i + m := by omega
  have hb2 : ¬ (c = i + m) := by omega
  have hb3 : (i : Int) ≤ (n : Int) + (m : Int) := by omega
  have hb4 : ¬ (c = i) := by omega
  have hmul1 : (i + m) * k + (n - i) * k = (n + m) * k := by rw [← Nat.add_mul]; congr 1; omega
  have hmul2 : i * k + m * k ≤ (n + m) * k := by rw [← Nat.add_mul]; exact Nat.mul_le_mul_right _ (by omega)
  have hcp1 : ∀ ty dc sc, (Builtin.copy_ #[(ρ.t 24), (ρ.t 24)] ty #[.slice (some ⟨b, off + (i + m) * k, none⟩) (n + m - (i + m)) dc, .slice (some ⟨b, off + i * k, none⟩) (n + m - i) sc]).run P w.drew = .ok (goInt (Nat.min (n + m - i) (n + m - (i + m)))) (w.drew.setCells b (off + (i + m) * k) (cs.drop (i * k))) := fun ty dc sc =>
    run_copy_k w.drew _ _ ty (ρ.t 9) k b (off + (i + m) * k) (n + m - (i + m)) dc ⟨b, off + i * k, none⟩ (n + m - i) sc (cs.drop (i * k)) L.t24 hk (by rw [hdl]; congr 1; simp only [Nat.min_def]; split <;> omega)
      (fun j v hj => by rw [Addr.add_lit, Nat.add_assoc]; exact hcs (i * k + j) v (by rwa [List.getElem?_drop] at hj))
      (fun j hj => by rw [Nat.add_assoc]; exact hsp _ (by omega)) (fun j hj => by rw [Nat.add_assoc]; exact hfz _ (by omega)) (fun v hv => h1c v (List.mem_of_mem_drop hv))
  obtain ⟨W1, hW1⟩ : ∃ W1, W1 = w.drew.setCells b (off + (i + m) * k) (cs.drop (i * k)) := ⟨_, rfl⟩
  have hsp1 : ∀ q, q < (n + m) * k → (W1.cell? ⟨b, off + q, none⟩).isSome = true := fun q hq => by
    rw [hW1]
    exact isSome_setCells b _ _ _ (fun j hj => by rw [Nat.add_assoc]; exact hsp _ (by omega)) _ (hsp q hq)
  have hcp2 : ∀ (W : World), (∀ x, W.cell? x = W1.cell? x) → (∀ x, W.frozen? x = W1.frozen? x) → ∀ ty dc, (Builtin.copy_ #[(ρ.t 24), (ρ.t 24)] ty #[.slice (some ⟨b, off + i * k, none⟩) (n + m - i) dc, .slice (some ⟨vb, voff, none⟩) m vc]).run P W = .ok (goInt (Nat.min m (n + m - i))) (W.setCells b (off + i * k) vs) := fun W hWc hWf ty dc =>
    run_copy_k W _ _ ty (ρ.t 9) k b (off + i * k) (n + m - i) dc ⟨vb, voff, none⟩ m vc vs L.t24 hk (by rw [hvl]; congr 1; simp only [Nat.min_def]; split <;> omega)
      (fun j v hj => by
        rw [Addr.add_lit, hWc, hW1, World.cell?_setCells_out b _ _ _ _ (fun h _ => absurd h hvb)]
        exact hvs j v hj)
      (fun j hj => by rw [hWc, Nat.add_assoc]; exact hsp1 _ (by omega)) (fun j hj => by rw [hWf, hW1, World.frozen?_setCells, Nat.add_assoc]; exact hfz _ (by omega)) h1v
  rw [← hW1] at hcp1
  clear hmul1 hmul2
  obtain ⟨_, _, FG⟩ := L.f22
  go_enter FG, Body2.n22_ntmps ρ
  go_wp2_with (simp only [hov])
  go_region_law_o (refine step_copy_runI rfl _ _ (ρ.t 24) (ρ.t 24) rfl _ _ (by simp [Act.eval, Act.put]) (by simp [Act.eval, Act.put]) (hcp1 _ _ _) ?_)
  go_wp2_with (at_builtin; refine wpList_copy_runI _ rfl _ _ (ρ.t 24) (ρ.t 24) rfl _ _ rfl rfl (hcp2 _ (fun _ => rfl) (fun _ => rfl) _ _) ?_)
  go_ret
  first | exact ⟨rfl, rfl⟩ | exact ⟨rfl, by rw [hW1]⟩
set_option maxHeartbeats 4000000 in
set_option maxRecDepth 100000 in
theorem ins_grow (L : InsLaid P ρ) {k : Nat} (i0 : TypeInfo) (zv : Value) (hi0 : P.info? (ρ.t 9) = some i0) (hz0 : i0.zero = some zv) (hzs : i0.size = k) (hk0 : 0 < k) (hzc : zv.cells.size = k) (z9 : ∀ w, (Go.sizeOf (ρ.t 9)).run P w = .ok k w)
    (b off n c i vb voff m vc : Nat) (cs vs : List Value) (w : World) (hi : i < n) (hm : 0 < m) (hnc : n ≤ c) (hroom : c < n + m) (hbig : (n + m) * i0.bytes ≤ 140737488355328) (hmax : n + m ≤ maxLen)
    (hcl : cs.length = n * k) (hvl : vs.length = m * k)
    (hcs : ∀ j v, cs[j]? = some v → w.cell? ⟨b, off + j, none⟩ = some v)
    (hvs : ∀ j v, vs[j]? = some v → w.cell? ⟨vb, voff + j, none⟩ = some v) (h1c : ∀ v ∈ cs, v.oneCell' = true) (h1v : ∀ v ∈ vs, v.oneCell' = true) :
    Calls P (ρ.f 22) #[.slice (some ⟨b, off, none⟩) n c, .int .i64 i, .slice (some ⟨vb, voff, none⟩) m vc] w fun e w' =>
      e = .returned (.slice (some ⟨w.heap.size, 0, none⟩) (n + m) (grownCap w (n + m) c (ρ.t 9))) ∧
      w' = (((w.alloc (.cells ((cs.take (i * k)).toArray ++ Builtin.zeroCells zv.cells (n + m - i) ++ Builtin.zeroCells zv.cells (grownCap w (n + m) c (ρ.t 9) - (n + m))) (ρ.t 9))).drew.setCells w.heap.size (i * k) vs).drew).setCells w.heap.size ((i + m) * k) (cs.drop (i * k)) := by
  have t0 := L.t0; have a0 := L.a0; have z0 := L.z0; have v0 := L.v0; have t3 := L.t3; have a3 := L.a3; have z3 := L.z3; have v3 := L.v3; have t4 := L.t4; have a4 := L.a4; have z4 := L.z4; have v4 := L.v4; have t24 := L.t24; have a24 := L.a24; have z24 := L.z24; have v24 := L.v24
  have u0 := run_underlying L.t0; have u3 := run_underlying L.t3; have u4 := run_underlying L.t4; have u24 := run_underlying L.t24
  have mixed := L.mixed
  have hz1 : ¬ ((m : Int) = 0) := by omega
  have hz2 : ¬ ((i : Int) = (n : Int)) := by omega
  have hz3 : (c : Int) < (n : Int) + (m : Int) := by omega
  have hk : (P.info? (ρ.t 9)).map (·.size) = some k := by rw [hi0]; simp [hzs]
  have hcpos : 0 < cs.length := by rw [hcl]; exact Nat.mul_pos (by omega) hk0
  have hvpos : 0 < vs.length := by rw [hvl]; exact Nat.mul_pos (by omega) hk0
  have hbw : b < w.heap.size := Go.block_lt_of_cell (hcs 0 _ (List.getElem?_eq_getElem hcpos))
  have hvw : vb < w.heap.size := Go.block_lt_of_cell (hvs 0 _ (List.getElem?_eq_getElem hvpos))
  have hkk : (n : Int) + (m : Int) - (i : Int) = ((n + m - i : Nat) : Int) := by omega
  have hik : i + (n + m - i) = n + m := by omega
  have hmul1 : (i + m) * k + (n - i) * k = (n + m) * k := by rw [← Nat.add_mul]; congr 1; omega
  have hmul2 : i * k + m * k ≤ (n + m) * k := by rw [← Nat.add_mul]; exact Nat.mul_le_mul_right _ (by omega)
  have hmul3 : i * k ≤ n * k := Nat.mul_le_mul_right _ (by omega)
  have hold : (Builtin.firstCells i0.size i (.slice (some ⟨b, off, none⟩) i c)).run P w.drew = .ok (cs.take (i * k)).toArray w.drew := by
    rw [hzs]
    exact run_firstCells_some w.drew k i ⟨b, off, none⟩ i c (cs.take (i * k)) (by rw [List.length_take]; omega) (fun j v hj => by
      rw [Addr.add_lit]
      rw [List.getElem?_take] at hj
      split at hj
      · exact hcs j v hj
      · cases hj)
  have hrz : ∀ ty, (Builtin.append_ #[(ρ.t 24), (ρ.t 3)] ty #[.slice (some ⟨b, off, none⟩) i c, .int .i64 ((n : Int) + (m : Int) - (i : Int))]).run P w =
      .ok (.slice (some ⟨w.heap.size, 0, none⟩) (n + m) (grownCap w (n + m) c (ρ.t 9))) (w.drew.alloc (.cells ((cs.take (i * k)).toArray ++ Builtin.zeroCells zv.cells (n + m - i) ++ Builtin.zeroCells zv.cells (grownCap w (n + m) c (ρ.t 9) - (n + m))) (ρ.t 9))) := fun ty => by
    have hb3 : (n + m - i) * i0.bytes ≤ (n + m) * i0.bytes := Nat.mul_le_mul_right _ (by omega)
    have h := Lib.run_append_grow_zeros w (ρ.t 24) (ρ.t 3) ty (ρ.t 9) i0 _ .i64 .i64 L.t24 L.t3 hi0 hz0 (some ⟨b, off, none⟩) i c (cs.take (i * k)) hold (n + m - i) (by omega) (by omega) (by omega) (by unfold maxLen at hmax; omega) (by omega) (by rw [hik]; exact growslice_fits hroom hbig)
    rw [hik] at h
    rw [hkk]
    exact h
  obtain ⟨G, hG⟩ : ∃ G, G = grownCap w (n + m) c (ρ.t 9) := ⟨_, rfl⟩
  obtain ⟨ROW, hROW⟩ : ∃ ROW : Array Value, ROW = (cs.take (i * k)).toArray ++ Builtin.zeroCells zv.cells (n + m - i) ++ Builtin.zeroCells zv.cells (G - (n + m)) := ⟨_, rfl⟩
  rw [← hG] at hrz ⊢
  rw [← hROW] at hrz ⊢
  have hRl : (n + m) * k ≤ ROW.size := by
    have h1 : i * k + (n + m - i) * k = (n + m) * k := by rw [← Nat.add_mul]; congr 1
    rw [hROW]
    simp only [Array.size_append, List.size_toArray, List.length_take, size_zeroCells, hzc]
    omega
  obtain ⟨W1, hW1⟩ : ∃ W1, W1 = w.drew.alloc (.cells ROW (ρ.t 9)) := ⟨_, rfl⟩
  rw [← hW1] at hrz
  have hN : ∀ j, j < (n + m) * k → (W1.cell? ⟨w.heap.size, j, none⟩).isSome = true := fun j hj => by
    rw [hW1, World.cell?_alloc_at (w := w.drew) ROW _ w.heap.size j rfl, Array.getElem?_eq_getElem (by omega)]; rfl
  have hNf : ∀ j, W1.frozen? ⟨w.heap.size, j, none⟩ = false := fun j => by rw [hW1]; exact World.frozen?_alloc_at (w := w.drew) ROW _ w.heap.size j rfl
  have hOb : ∀ j v, w.cell? ⟨b, j, none⟩ = some v → W1.cell? ⟨b, j, none⟩ = some v := fun j v h => by rw [hW1, World.cell?_alloc_past (w := w.drew) _ b j hbw]; exact h
  have hOv : ∀ j v, w.cell? ⟨vb, j, none⟩ = some v → W1.cell? ⟨vb, j, none⟩ = some v := fun j v h => by rw [hW1, World.cell?_alloc_past (w := w.drew) _ vb j hvw]; exact h
  have hcpA : ∀ (W : World), (∀ x, W.cell? x = W1.cell? x) → (∀ x, W.frozen? x = W1.frozen? x) → ∀ ty dc, (Builtin.copy_ #[(ρ.t 24), (ρ.t 24)] ty #[.slice (some ⟨w.heap.size, i * k, none⟩) (n + m - i) dc, .slice (some ⟨vb, voff, none⟩) m vc]).run P W = .ok (goInt (Nat.min m (n + m - i))) (W.setCells w.heap.size (i * k) vs) := fun W hWc hWf ty dc =>
    run_copy_k W _ _ ty (ρ.t 9) k w.heap.size (i * k) (n + m - i) dc ⟨vb, voff, none⟩ m vc vs L.t24 hk (by rw [hvl]; congr 1; simp only [Nat.min_def]; split <;> omega)
      (fun j v hj => by rw [Addr.add_lit, hWc]; exact hOv _ v (hvs j v hj))
      (fun j hj => by rw [hWc]; exact hN _ (by omega)) (fun j hj => by rw [hWf]; exact hNf _) h1v
  have hGn : n + m ≤ G := by rw [hG]; exact grownCap_ge w _ _ _
  have hG63 : G ≤ 9223372036854775807 := by
    have := grownCap_le_maxLen w (n + m) c (ρ.t 9) hmax
    rw [← hG] at this
    unfold maxLen at this
    omega
  have hGi : ¬ (G = i) := by omega
  have hGim : ¬ (G = i + m) := by omega
  have hci : ¬ (c = i) := by omega
  have hbN : b ≠ w.heap.size := by omega
  have hdl : (cs.drop (i * k)).length = (n - i) * k := by rw [List.length_drop, hcl, Nat.sub_mul]
  have hcpB : ∀ (W : World), (∀ x, W.cell? x = (W1.setCells w.heap.size (i * k) vs).cell? x) → (∀ x, W.frozen? x = (W1.setCells w.heap.size (i * k) vs).frozen? x) → ∀ ty dc sc, (Builtin.copy_ #[(ρ.t 24), (ρ.t 24)] ty #[.slice (some ⟨w.heap.size, (i + m) * k, none⟩) (n + m - (i + m)) dc, .slice (some ⟨b, off + i * k, none⟩) (n - i) sc]).run P W = .ok (goInt (Nat.min (n - i) (n + m - (i + m)))) (W.setCells w.heap.size ((i + m) * k) (cs.drop (i * k))) := fun W hWc hWf ty dc sc =>
    run_copy_k W _ _ ty (ρ.t 9) k w.heap.size ((i + m) * k) (n + m - (i + m)) dc ⟨b, off + i * k, none⟩ (n - i) sc (cs.drop (i * k)) L.t24 hk (by rw [hdl]; congr 1; simp only [Nat.min_def]; split <;> omega)
      (fun j v hj => by
        rw [Addr.add_lit, hWc, World.cell?_setCells_out _ _ _ _ _ (fun h _ => absurd h hbN), Nat.add_assoc]
        exact hOb _ v (hcs (i * k + j) v (by rwa [List.getElem?_drop] at hj)))
      (fun j hj => by rw [hWc]; exact isSome_setCells _ _ _ _ (fun t ht => hN _ (by omega)) _ (hN _ (by omega)))
      (fun j hj => by rw [hWf, World.frozen?_setCells]; exact hNf _) (fun v hv => h1c v (List.mem_of_mem_drop hv))
  subst hW1
  have hE1 : ∀ x, ((w.alloc (.cells ROW (ρ.t 9))).drew).cell? x = (w.drew.alloc (.cells ROW (ρ.t 9))).cell? x := fun x => rfl
  have hE2 : ∀ x, ((w.alloc (.cells ROW (ρ.t 9))).drew).frozen? x = (w.drew.alloc (.cells ROW (ρ.t 9))).frozen? x := fun x => rfl
  have hF1 : ∀ x, (((w.alloc (.cells ROW (ρ.t 9))).drew.setCells w.heap.size (i * k) vs).drew).cell? x = ((w.drew.alloc (.cells ROW (ρ.t 9))).setCells w.heap.size (i * k) vs).cell? x := fun x => rfl
  have hF2 : ∀ x, (((w.alloc (.cells ROW (ρ.t 9))).drew.setCells w.heap.size (i * k) vs).drew).frozen? x = ((w.drew.alloc (.cells ROW (ρ.t 9))).setCells w.heap.size (i * k) vs).frozen? x := fun x => rfl
  have hw1 : IntKind.i64.wrap ((i : Int) + (m : Int)) = (i : Int) + (m : Int) := by rw [IntKind.wrap_i64]; omega
  have hb1 : (0 : Int) ≤ (i : Int) + (m : Int) := by omega
  have hin : i ≤ n := by omega
  have htn : ((i : Int) + (m : Int)).toNat = i + m := by omega
  have hb3 : (i : Int) ≤ (n : Int) := by omega
  clear hkk hik hold hROW hG hRl hmul1 hmul2 hmul3
  obtain ⟨_, _, FG⟩ := L.f22
  go_enter FG, Body2.n22_ntmps ρ
  go_wp2_with (first
    | (at_builtin; refine Lib.wpList_append_run _ rfl _ _ _ _ rfl _ _ rfl rfl _ _ (hrz _) ?_)
    | (at_builtin; refine wpList_copy_runI _ rfl _ _ (ρ.t 24) (ρ.t 24) rfl _ _ rfl rfl (hcpA _ hE1 hE2 _ _) ?_)
    | (at_builtin; refine wpList_copy_runI _ rfl _ _ (ρ.t 24) (ρ.t 24) rfl _ _ rfl rfl (hcpB _ (fun _ => rfl) (fun _ => rfl) _ _ _) ?_))
  go_region_law_o (refine step_copy_runI rfl _ _ (ρ.t 24) (ρ.t 24) rfl (.slice (some ⟨w.heap.size, (i + m) * k, none⟩) (n + m - (i + m)) (G - (i + m))) (.slice (some ⟨b, off + i * k, none⟩) (n - i) (c - i)) (by simp [Act.eval, Act.put]) (by simp [Act.eval, Act.put]) (hcpB _ hF1 hF2 (ρ.t 3) (G - (i + m)) (c - i)) ?_)
  go_wp2
  go_ret
  exact ⟨rfl, rfl⟩
end Go.Ab
namespace Go.Ab
open Go Go.RowKit Go.Shelf Go.Proofs Go.Lib
set_option linter.unusedSimpArgs false
set_option linter.unusedVariables false
section
variable {P : Program} {base : Base} {h : Store} {E : Env} {ρ : Ren}
theorem append_own (R : Rel base h E) (hP : E.P = P) {ty e : TypeId} (hs : P.underlying ty = some (.slice e)) {z : AV} (hz : zeroOf P e = some z) (h0 : 0 < P.cellsOf e) {k g : Nat} {xs ys : List AV} (hr : rowOf h k g = some (e, false, xs)) {y : AV} {rv yv : Value} (hx : VL E [.sl k g] [rv]) (hy : VL E [y] [yv])
    (hys : elemsOf Ops.std h y = some ys) (hsize : ∀ x, x ∈ ys → x.cells.length = P.cellsOf e) (hroom : Ops.std.room (P.bytesOf e) xs ys = true) :
    ∃ v' E', (∀ rt, (Builtin.append_ #[ty, ty] rt #[rv, yv]).run P E.w = .ok v' E'.w) ∧ Rel base (h.set k (.row e (g + 1) false (xs ++ ys))) E' ∧ Step h E (h.set k (.row e (g + 1) false (xs ++ ys))) E' ∧ VL E' [.sl k (g + 1)] [v'] := by
  let o : Oper := { (default : Oper) with op := .call { callee := .builtin .append, args := #[.tmp 0, .tmp 1], argTypes := #[ty, ty] } }
  let a : Act := { tmps := #[rv, yv], defers := [] }
  have ht : VL E [.sl k g, y] a.tmps.toList := hx.cons hy
  obtain ⟨v', E', hrun, R', S', V'⟩ := op_app2 (P := P) (a := a) (o := o) (x := .tmp 0) (y := .tmp 1) (x' := .t 0) (y' := .t 1) (args := #[.tmp 0, .tmp 1]) (tys := #[ty, ty]) R hP ht rfl rfl rfl hs hz h0 rfl rfl (ys := ys) hys hsize (k := k) (g := g) rfl hr hroom
  refine ⟨v', E', fun rt => ?_, R', S', V'⟩
  have e1 : a.eval (.tmp 0) = rv := rfl
  have e2 : a.eval (.tmp 1) = yv := rfl
  show (Builtin.append_ #[ty, ty] o.type #[rv, yv]).run P E.w = _
  cases hX : (Builtin.append_ #[ty, ty] o.type #[rv, yv]).run P E.w with
  | ok v w1 =>
    have := app_run (P := P) (a := a) (o := o) (x := .tmp 0) (y := .tmp 1) (args := #[.tmp 0, .tmp 1]) (tys := #[ty, ty]) rfl rfl rfl hX
    rcases hrun with hrun | ⟨hrun, _⟩
    · rw [this] at hrun; cases hrun; rfl
    · rw [this] at hrun; cases hrun
  | halt hl w1 =>
    exfalso
    have hx2 : (execOp a.eval o).run P E.w = .halt hl w1 := by
      simp [execOp, o, resolve, invoke, builtin, e1, e2, hX, Result.andThen]
    rcases hrun with hrun | ⟨hrun, _⟩ <;> (rw [hx2] at hrun; cases hrun)
theorem setCells_heap {b : Nat} {t : TypeId} {fr : Nat × Nat} : ∀ (vs : List Value) (o : Nat) (w : World) (cur : Array Value), w.heap[b]? = some (.cells cur t fr) → o + vs.length ≤ cur.size →
    ∃ cur' : Array Value, (w.setCells b o vs).heap[b]? = some (.cells cur' t fr) ∧ cur'.toList = cur.toList.take o ++ vs ++ cur.toList.drop (o + vs.length) ∧ (w.setCells b o vs).os = w.os ∧ (w.setCells b o vs).tape = w.tape ∧ (w.setCells b o vs).output = w.output ∧ (w.setCells b o vs).heap.size = w.heap.size ∧ ∀ j, j ≠ b → (w.setCells b o vs).heap[j]? = w.heap[j]? := by
  intro vs
  induction vs with
  | nil => intro o w cur hh hle; exact ⟨cur, hh, by simp, rfl, rfl, rfl, rfl, fun _ _ => rfl⟩
  | cons v r ih =>
    intro o w cur hh hle
    simp only [List.length_cons] at hle
    have h1 : (w.setCell ⟨b, o, none⟩ v).heap[b]? = some (.cells (cur.setIfInBounds o v) t fr) := by
      have hb := (Array.getElem?_eq_some_iff.1 hh).1
      simp only [World.setCell, Array.getElem?_modify, if_true]
      rw [hh]; rfl
    obtain ⟨cur', e1, e2, e3, e4, e5, e6, e7⟩ := ih (o + 1) (w.setCell ⟨b, o, none⟩ v) _ h1 (by simp; omega)
    refine ⟨cur', e1, ?_, e3, e4, e5, by rw [World.setCells, e6]; simp [World.setCell], fun j hj => by
      rw [World.setCells, e7 j hj]
      simp only [World.setCell, Array.getElem?_modify]
      rw [if_neg (Ne.symm hj)]⟩
    rw [e2]
    have hol : o < cur.toList.length := by simp; omega
    simp only [Array.toList_setIfInBounds, List.length_cons]
    rw [List.take_set, List.take_succ_eq_append_getElem hol, List.drop_set_of_lt (by omega)]
    rw [List.set_append_right _ _ (by simp; omega)]
    simp only [Nat.add_assoc, Nat.add_comm 1, List.length_take, List.append_assoc]
    rw [show o - min o cur.toList.length = 0 by omega]
    rfl
theorem ins_list1 {α : Type} (cur olds news : List α) (p s N : Nat) (ho : olds = cur.take N) (hn : news.length = s) (hp : p ≤ N) (hle : N + s ≤ cur.length) (c1 c2 : List α)
    (h1 : c1 = cur.take (p + s) ++ olds.drop p ++ cur.drop (p + s + (olds.drop p).length)) (h2 : c2 = c1.take p ++ news ++ c1.drop (p + news.length)) :
    c2.take (N + s) = olds.take p ++ (news ++ olds.drop p) ∧ c2.length = cur.length := by
  have hol : olds.length = N := by rw [ho, List.length_take]; omega
  have hl1 : c1.length = cur.length := by rw [h1]; simp only [List.length_append, List.length_take, List.length_drop, hol]; omega
  have ht : c1.take p = olds.take p := by
    rw [h1, List.append_assoc, List.take_append_of_le_length (by rw [List.length_take]; omega), List.take_take, ho, List.take_take]
    congr 1; omega
  have hd : c1.drop (p + s) = olds.drop p ++ cur.drop (p + s + (olds.drop p).length) := by
    rw [h1, List.append_assoc]
    exact List.drop_left' (by rw [List.length_take]; omega)
  rw [hn, ht, hd] at h2
  refine ⟨?_, ?_⟩
  · have : c2 = (olds.take p ++ (news ++ olds.drop p)) ++ cur.drop (p + s + (olds.drop p).length) := by rw [h2]; simp [List.append_assoc]
    rw [this]
    have hl : (olds.take p ++ (news ++ olds.drop p)).length = N + s := by simp only [List.length_append, List.length_take, List.length_drop, hol, hn]; omega
    rw [← hl]; exact List.take_left
  · rw [h2]; simp only [List.length_append, List.length_take, List.length_drop, hol, hn]; omega
theorem ins_list2 {α : Type} (row olds news : List α) (p s N : Nat) (hol : olds.length = N) (hr : row.take p = olds.take p) (hn : news.length = s) (hp : p ≤ N) (hle : N + s ≤ row.length) (c1 c2 : List α)
    (h1 : c1 = row.take p ++ news ++ row.drop (p + news.length)) (h2 : c2 = c1.take (p + s) ++ olds.drop p ++ c1.drop (p + s + (olds.drop p).length)) :
    c2.take (N + s) = olds.take p ++ (news ++ olds.drop p) ∧ c2.length = row.length := by
  have hl1 : c1.length = row.length := by rw [h1]; simp only [List.length_append, List.length_take, List.length_drop, hn]; omega
  have ht : c1.take (p + s) = olds.take p ++ news := by
    rw [h1, hr]
    have : (olds.take p ++ news).length = p + s := by simp only [List.length_append, List.length_take, hn, hol]; omega
    rw [← this]; exact List.take_left
  rw [ht] at h2
  refine ⟨?_, ?_⟩
  · have : c2 = (olds.take p ++ (news ++ olds.drop p)) ++ c1.drop (p + s + (olds.drop p).length) := by rw [h2]; simp [List.append_assoc]
    rw [this]
    have hl : (olds.take p ++ (news ++ olds.drop p)).length = N + s := by simp only [List.length_append, List.length_take, List.length_drop, hol, hn]; omega
    rw [← hl]; exact List.take_left
  · rw [h2]; simp only [List.length_append, List.length_take, List.length_drop, hol, hn, hl1]; omega
theorem insert_ok (L : InsLaid P ρ) {z : AV} (hz : zeroOf P (ρ.t 9) = some z) (h0 : 0 < P.cellsOf (ρ.t 9)) : PrimOk P base (ρ.f 22) (.insert (ρ.t 9) (P.bytesOf (ρ.t 9))) := by
  refine ⟨?_, fun args h v h3 m he E vs hP R V => ?_, trivial⟩
  · obtain ⟨nm, hn, hf⟩ := L.f22
    exact ⟨_, hf, rfl, by simpa using hn⟩
  · simp only [primOp] at he
    split at he
    · rename_i k g i e2 f ys
      split at he
      · rename_i y hye
        split at he
        · rename_i e' xs hr
          split at he
          · rename_i hee
            subst hee
            split at he
            · rename_i la lb hroom hla hlb
              cases he
              obtain ⟨rv, us1, rfl, hx, V1⟩ := V.uncons
              obtain ⟨iv, us2, rfl, hiv, V2⟩ := V1.uncons
              obtain ⟨yv, us3, rfl, hy, V3⟩ := V2.uncons
              cases V3
              have hiv := hiv.sc_inv.1
              subst hiv
              subst hP
              have hi0 : 0 ≤ i ∧ i ≤ xs.length ∧ la = xs.take i.toNat ∧ lb = xs.drop i.toNat := by
                simp only [Ops.std] at hla hlb
                split at hla
                · rename_i hc
                  cases hla
                  split at hlb
                  · cases hlb
                    refine ⟨hc.2.1, hc.2.2, by simp, by simp⟩
                  · cases hlb
                · cases hla
              obtain ⟨hi0, hin, rfl, rfl⟩ := hi0
              obtain ⟨i, rfl⟩ := Int.eq_ofNat_of_zero_le hi0
              simp only [Int.ofNat_eq_natCast, Int.toNat_natCast] at *
              have hin : i ≤ xs.length := by omega
              obtain ⟨hel, hsy⟩ := elemsAt_some R hy hye
              have hk := rowOf_some hr
              obtain ⟨hgen, htop, hesz, hsx, olds, hrow, hdx, honex⟩ := R.ent k _ hk
              have hv := hx.sl_inv.2.2.2 hgen
              obtain ⟨ad, yc, news, rfl, hyc, hym, _, _, hdy, honey, hrdy⟩ := hy.lit_inv.lit_inv
              have hys1 : ys = [y] := by simpa [elemsOf] using hel
              subst hys1
              obtain ⟨hb, hl⟩ := room_std hroom
              simp only [List.length_singleton] at hb hl
              obtain ⟨i0, zv, hi, hzv, hzs, _, _⟩ := zeroOf_some (E := E) hz
              have his : i0.size = E.P.cellsOf (ρ.t 9) := by simp [Program.cellsOf, hi]
              have hib : i0.bytes = E.P.bytesOf (ρ.t 9) := by simp [Program.bytesOf, hi]
              have z9 : ∀ w, (Go.sizeOf (ρ.t 9)).run E.P w = .ok (E.P.cellsOf (ρ.t 9)) w := fun w => run_sizeOf (by rw [hi]; rfl)
              have hk9 : (E.P.info? (ρ.t 9)).map (·.size) = some (E.P.cellsOf (ρ.t 9)) := by rw [hi]; simp [his]
              show Calls E.P (ρ.f 22) #[rv, .int .i64 i, .slice ad [y].length yc] E.w _
              have hol := hrow.1
              have hnl : news.length = 1 * E.P.cellsOf (ρ.t 9) := by rw [hdy.length, flat_len hsy]; rfl
              by_cases hend : i = xs.length
              · subst hend
                obtain ⟨v', E', hrun, R', S', V'⟩ := append_own R rfl L.t24 hz h0 hr hx hy hel hsy hroom
                have hlist : Ops.std.lapp (xs.take xs.length) (Ops.std.lapp [y] (xs.drop xs.length)) = xs ++ [y] := by simp [Ops.std]
                rw [hlist]
                rw [hv] at hrun ⊢
                have hrv : ∃ bd cap, E.row k = .slice bd xs.length cap := by
                  rcases hrow.2 with ⟨hn, a', ha⟩ | ⟨g', cap, cur, _, ha, _⟩
                  · exact ⟨a', 0, by rw [ha, hn]⟩
                  · exact ⟨_, cap, ha⟩
                obtain ⟨bd, cap, hre⟩ := hrv
                rw [hre] at hrun ⊢
                exact (ins_end L z9 bd xs.length cap 1 yc ad E.w E'.w v' (by omega) hrun).mono fun e w' ⟨he, hw⟩ => ⟨v', E', he, hw.symm, R', S', V'⟩
              · have hlt : i < xs.length := by omega
                have hnpos : 0 < news.length := by rw [hnl]; omega
                obtain ⟨vb, voff, rfl, hvown, hv0⟩ := hrdy 0 _ (List.getElem?_eq_getElem hnpos)
                have hvs : ∀ j u, news[j]? = some u → E.w.cell? ⟨vb, voff + j, none⟩ = some u := fun j u hj => by
                  obtain ⟨b', o', hab, _, hc'⟩ := hrdy j u hj
                  injection hab with hab
                  injection hab with e1 e2 _
                  subst e1 e2
                  exact hc'
                rcases hrow.2 with ⟨hn0, _⟩ | ⟨b0, cap, cur, hc0, ha, hbb, hh, hle, hmx, hcs, htk⟩
                · omega
                · have hblk0 : rowBlk (E.row k) = some b0 := by
                    rw [ha]
                    cases cap with
                    | zero => omega
                    | succ c' => rfl
                  have hbk : blkOf E h k = some b0 := (blkOf_of hk).trans hblk0
                  have hne : vb ≠ b0 := fun e => hvown (by rw [e]; exact R.own k b0 hbk)
                  generalize hS : E.P.cellsOf (ρ.t 9) = s at *
                  have hcell : ∀ q, E.w.cell? ⟨b0, q, none⟩ = cur[q]? := fun q => cell_of_row E.w b0 q cur _ (0, 0) hh
                  have hfro : ∀ q, E.w.frozen? ⟨b0, q, none⟩ = false := fun q => by simp [World.frozen?, hh]
                  have hmul : i * s ≤ xs.length * s := Nat.mul_le_mul_right _ hin
                  have hn1 : news.length = s := by rw [hnl, Nat.one_mul]
                  have hsz1 : (xs.length + 1) * s = xs.length * s + s := by rw [Nat.add_mul, Nat.one_mul]
                  have hiz1 : (i + 1) * s = i * s + s := by rw [Nat.add_mul, Nat.one_mul]
                  have hs' : ∀ x, x ∈ xs.take i ++ ([y] ++ xs.drop i) → x.cells.length = E.P.cellsOf (ρ.t 9) := fun x hx => by
                    rw [hS]
                    rcases List.mem_append.1 hx with hx | hx
                    · exact hsx x (List.mem_of_mem_take hx)
                    · rcases List.mem_append.1 hx with hx | hx
                      · exact hsy x hx
                      · exact hsx x (List.mem_of_mem_drop hx)
                  have hone' : ∀ u, u ∈ olds.take (i * s) ++ (news ++ olds.drop (i * s)) → u.oneCell' = true := fun u hu => by
                    rcases List.mem_append.1 hu with hu | hu
                    · exact honex u (List.mem_of_mem_take hu)
                    · rcases List.mem_append.1 hu with hu | hu
                      · exact honey u hu
                      · exact honex u (List.mem_of_mem_drop hu)
                  have hdl' : DL E.P E.w E.own (flat (xs.take i ++ ([y] ++ xs.drop i))) (olds.take (i * s) ++ (news ++ olds.drop (i * s))) := by
                    rw [flat_append, flat_append, flat_take hsx, flat_drop hsx]
                    exact (hdx.take _).append (hdy.append (hdx.drop _))
                  have hxl : (xs.take i ++ ([y] ++ xs.drop i)).length = xs.length + 1 := by simp only [List.length_append, List.length_take, List.length_drop, List.length_singleton]; omega
                  have hvl' : (olds.take (i * s) ++ (news ++ olds.drop (i * s))).length = (xs.length + 1) * s := by
                    simp only [List.length_append, List.length_take, List.length_drop, hol, hn1]; omega
                  have hlist : Ops.std.lapp (xs.take i) (Ops.std.lapp [y] (xs.drop i)) = xs.take i ++ ([y] ++ xs.drop i) := rfl
                  rw [hlist, hv, ha]
                  have hcur : cur.toList.length = cap * s := by simpa using hcs
                  by_cases hroomy : xs.length + 1 ≤ cap
                  · have hcap : (xs.length + 1) * s ≤ cap * s := Nat.mul_le_mul_right _ hroomy
                    have hov : ∀ lb cb, (callFunc (ρ.f 29) #[.slice (some ⟨vb, voff, none⟩) 1 yc, .slice (some ⟨b0, 0 + (i + 1) * s, none⟩) lb cb]).run E.P E.w = .ok (.value (.bool false)) E.w := fun lb cb =>
                      L.ov _ _ _ (run_overlaps_two E.w (ρ.t 24) (ρ.t 4) (ρ.t 9) L.t24 s z9 ⟨vb, voff, none⟩ ⟨b0, 0 + (i + 1) * s, none⟩ 1 yc lb cb hne (hvs 0 _ (List.getElem?_eq_getElem hnpos)) hh (by rw [hcs]; have := Nat.mul_pos hc0 h0; omega))
                    refine (ins_shift L hk9 z9 b0 0 xs.length cap i vb voff 1 yc olds news E.w hlt (by omega) hroomy (by unfold maxLen at hmx; omega) hne hol hnl
                      (fun j u hj => by rw [Nat.zero_add, hcell, ← Array.getElem?_toList]; rw [← htk, List.getElem?_take] at hj; split at hj; exact hj; cases hj)
                      (fun j hj => by rw [Nat.zero_add, hcell, Array.getElem?_eq_getElem (by rw [hcs]; omega)]; rfl) (fun j _ => hfro _) hvs honex honey hov).mono fun e w' ⟨he, hw⟩ => ?_
                    rw [Nat.zero_add, Nat.zero_add] at hw
                    obtain ⟨c1, a1, a2, a3, a4, a5, a6, a7⟩ := setCells_heap (b := b0) (olds.drop (i * s)) ((i + 1) * s) E.w.drew cur hh (by simp only [List.length_drop, hol]; rw [hcs]; omega)
                    have hl1 : c1.size = cur.size := by
                      have : c1.toList.length = cur.toList.length := by rw [a2]; simp only [List.length_append, List.length_take, List.length_drop, hol, hcur]; omega
                      simpa using this
                    obtain ⟨c2, b1, b2, b3, b4, b5, b6, b7⟩ := setCells_heap (b := b0) news (i * s) _ c1 a1 (by rw [hn1, hl1, hcs]; omega)
                    rw [hiz1] at a2
                    obtain ⟨l1, l2⟩ := ins_list1 cur.toList olds news (i * s) s (xs.length * s) htk.symm hn1 hmul (by rw [hcur]; omega) c1.toList c2.toList a2 b2
                    rw [← hw] at b1 b3 b4 b5 b6 b7
                    have hrv' : rowBlk (.slice (some ⟨b0, 0, none⟩) (xs.length + 1) cap) = some b0 := by
                      cases cap with
                      | zero => omega
                      | succ c' => rfl
                    obtain ⟨E', hw', R', S', V'⟩ := row_new (base := base) R hk (w' := w') (v' := .slice (some ⟨b0, 0, none⟩) (xs.length + 1) cap) (xs' := xs.take i ++ ([y] ++ xs.drop i)) (vals' := olds.take (i * s) ++ (news ++ olds.drop (i * s))) (b3.trans a3) (b4.trans a4) (b5.trans a5) (by rw [b6, a6]; exact Nat.le_refl _)
                      (fun b _ hnb => by
                        have : b ≠ b0 := fun e => hnb (by rw [hblk0, e])
                        rw [b7 b this, a7 b this]; rfl)
                      (fun b hb => by rw [hrv'] at hb; cases hb; exact ⟨.inl hblk0, by rw [b6, a6]; exact blk_lt R hbk⟩)
                      (by
                        rw [hS]
                        refine ⟨by rw [hvl', hxl], .inr ⟨b0, cap, c2, hc0, by rw [hxl], hbb, b1, by rw [hxl]; exact hroomy, hmx, ?_, ?_⟩⟩
                        · have : c2.toList.length = cap * s := by rw [l2, hcur]
                          simpa using this
                        · rw [hxl, hsz1]; exact l1) rfl hs' hone' hdl'
                    exact ⟨_, E', he, hw', R', S', V'⟩
                  · have hgt : cap < xs.length + 1 := by omega
                    refine (ins_grow L i0 zv hi hzv his h0 hzs z9 b0 0 xs.length cap i vb voff 1 yc olds news E.w hlt (by omega) hle hgt (by rw [hib]; exact hb) hl hol hnl
                      (fun j u hj => by rw [Nat.zero_add, hcell, ← Array.getElem?_toList]; rw [← htk, List.getElem?_take] at hj; split at hj; exact hj; cases hj) hvs honex honey).mono fun e w' ⟨he, hw⟩ => ?_
                    have hge := grownCap_ge E.w (xs.length + 1) cap (ρ.t 9)
                    have hgl := grownCap_le_maxLen E.w (xs.length + 1) cap (ρ.t 9) hl
                    generalize hG : grownCap E.w (xs.length + 1) cap (ρ.t 9) = G at *
                    generalize hROW : (olds.take (i * s)).toArray ++ Builtin.zeroCells zv.cells (xs.length + 1 - i) ++ Builtin.zeroCells zv.cells (G - (xs.length + 1)) = ROW at *
                    have hRs : ROW.size = G * s := by
                      rw [← hROW]
                      simp only [Array.size_append, List.size_toArray, List.length_take, size_zeroCells, hzs, hol]
                      have e1 : i * s + (xs.length + 1 - i) * s = (xs.length + 1) * s := by rw [← Nat.add_mul]; congr 1; omega
                      have e2 : (xs.length + 1) * s + (G - (xs.length + 1)) * s = G * s := by rw [← Nat.add_mul]; congr 1; omega
                      omega
                    have hRl : ROW.toList.length = G * s := (Array.length_toList (xs := ROW)).trans hRs
                    have hcapG : (xs.length + 1) * s ≤ G * s := Nat.mul_le_mul_right _ hge
                    have hRt : ROW.toList.take (i * s) = olds.take (i * s) := by
                      rw [← hROW]
                      simp only [Array.toList_append, List.append_assoc]
                      rw [List.take_append_of_le_length (by simp only [List.length_take, hol]; omega), List.take_take, Nat.min_self]
                    obtain ⟨c1, a1, a2, a3, a4, a5, a6, a7⟩ := setCells_heap (b := E.w.heap.size) news (i * s) ((E.w.alloc (.cells ROW (ρ.t 9))).drew) ROW (heap_alloc_new E.w _) (by rw [hRs, hn1]; omega)
                    have hl1 : c1.size = ROW.size := by
                      have : c1.toList.length = ROW.toList.length := by rw [a2]; simp only [List.length_append, List.length_take, List.length_drop, hn1, Array.length_toList, hRs]; omega
                      simpa using this
                    obtain ⟨c2, b1, b2, b3, b4, b5, b6, b7⟩ := setCells_heap (b := E.w.heap.size) (olds.drop (i * s)) ((i + 1) * s) ((((E.w.alloc (.cells ROW (ρ.t 9))).drew).setCells E.w.heap.size (i * s) news).drew) c1 a1 (by rw [hl1, hRs]; simp only [List.length_drop, hol]; omega)
                    rw [hiz1] at b2
                    obtain ⟨l1, l2⟩ := ins_list2 ROW.toList olds news (i * s) s (xs.length * s) hol hRt hn1 hmul (by rw [hRl]; omega) c1.toList c2.toList a2 b2
                    rw [← hw] at b1 b3 b4 b5 b6 b7
                    have hrv' : rowBlk (.slice (some ⟨E.w.heap.size, 0, none⟩) (xs.length + 1) G) = some E.w.heap.size := by
                      cases G with
                      | zero => omega
                      | succ c' => rfl
                    have hsz' : w'.heap.size = E.w.heap.size + 1 := by
                      rw [b6]
                      show (((E.w.alloc (.cells ROW (ρ.t 9))).drew).setCells E.w.heap.size (i * s) news).heap.size = _
                      rw [a6]
                      show (E.w.alloc (.cells ROW (ρ.t 9))).heap.size = _
                      simp
                    obtain ⟨E', hw', R', S', V'⟩ := row_new (base := base) R hk (w' := w') (v' := .slice (some ⟨E.w.heap.size, 0, none⟩) (xs.length + 1) G) (xs' := xs.take i ++ ([y] ++ xs.drop i)) (vals' := olds.take (i * s) ++ (news ++ olds.drop (i * s))) (b3.trans a3) (b4.trans a4) (b5.trans a5) (by omega)
                      (fun b hb _ => by
                        have hbn : b ≠ E.w.heap.size := by omega
                        rw [b7 b hbn]
                        show (((E.w.alloc (.cells ROW (ρ.t 9))).drew).setCells E.w.heap.size (i * s) news).heap[b]? = _
                        rw [a7 b hbn]
                        exact Go.heap_alloc_old E.w _ hb)
                      (fun b hb => by rw [hrv'] at hb; cases hb; exact ⟨.inr (Nat.le_refl _), by omega⟩)
                      (by
                        rw [hS]
                        refine ⟨by rw [hvl', hxl], .inr ⟨E.w.heap.size, G, c2, by omega, by rw [hxl], R.le, b1, by rw [hxl]; exact hge, hgl, ?_, ?_⟩⟩
                        · have : c2.toList.length = G * s := by rw [l2, hRl]
                          simpa using this
                        · rw [hxl, hsz1]; exact l1) rfl hs' hone' hdl'
                    exact ⟨_, E', he, hw', R', S', V'⟩
            · cases he
          · cases he
        · cases he
      · cases he
    · cases he
end
end Go.Ab
namespace Go.Ab
open Go Go.RowKit Go.Shelf Go.Proofs Go.Lib
set_option linter.unusedSimpArgs false
set_option linter.unusedVariables false
section
variable {P : Program} {base : Base} {h : Store} {E : Env} {ρ : Ren}
theorem below_same (R : Rel base h E) {w' : World} (bel : Below E.w.heap.size E.w w') : Rel base h { E with w := w' } ∧ Step h E h { E with w := w' } := by
  have hheap : ∀ b, b < E.w.heap.size → w'.heap[b]? = E.w.heap[b]? := bel.block
  have hx : Ext E { E with w := w' } := ⟨rfl, Nat.le_refl _, fun _ _ => Nat.le_refl _, fun _ _ _ _ hc => ⟨hc, rfl, rfl⟩, fun _ _ h => ⟨h, rfl⟩, keep_of R (fun b hb _ => hheap b hb) (fun b hb => .inl hb)⟩
  have S : Step h E h { E with w := w' } := ⟨hx, bel.os, bel.tape, bel.output, bel.size, fun b hb _ => hheap b hb, fun b hb => .inl hb, fun b hb _ => hb, fun k b hk => .inl ⟨k, hk⟩⟩
  have hb : ∀ j, blkOf { E with w := w' } h j = blkOf E h j := fun j => by
    unfold blkOf
    cases h[j]? with
    | none => rfl
    | some e => exact entBlk_same rfl rfl e
  refine ⟨⟨R.n, R.step_lo S, fun k e hk => ?_, R.nogen, fun k b hk => R.own k b (by rw [← hb]; exact hk), fun k j b hk hj => R.inj k j b (by rw [← hb]; exact hk) (by rw [← hb]; exact hj), fun b hb => Nat.lt_of_lt_of_le (R.lt b hb) bel.size⟩, S⟩
  exact (R.ent k e hk).step hx ⟨rfl, rfl, rfl, rfl, rfl⟩ (fun b hbk => hheap b (R.lt b (R.own k b (by rw [blkOf_of hk]; exact hbk))))
theorem tabs_lo {g3 g4 : Nat} (h3 : g3 < base.n) (h4 : g4 < base.n) {w : World} (L : Lo base w) (T : Utf8Tabs g3 g4 base.w0) : Utf8Tabs g3 g4 w := by
  have e : ∀ b, b < base.n → ∀ c, w.cell? ⟨b, c, none⟩ = base.w0.cell? ⟨b, c, none⟩ := fun b hb c => World.cell?_of_block (L.low b hb)
  exact ⟨fun c hc => by rw [e g3 h3]; exact T.1 c hc, fun i hi => by rw [e g4 h4, e g4 h4]; exact T.2 i hi⟩
def decP (o : Ops) (_ : Store) (args : List AV) : Option AV :=
  match args with
  | [.sc (.string s)] => match o.sdec s 0 with
    | some (c, n) => some (.tup [.sc (.int .i32 c), .sc (.int .i64 n)])
    | none => some (.tup [.sc (.int .i32 65533), .sc (.int .i64 0)])
  | _ => none
theorem dec_ok (L : Lays.n197 P ρ) {fn : Func} (hf : P.funcs[ρ.f 197]? = some fn) (hb : fn.body.isSome = true) (hn : fn.name ≠ "runtime.NumGoroutine") (h3 : ρ.g 3 < base.n) (h4 : ρ.g 4 < base.n) (T : Utf8Tabs (ρ.g 3) (ρ.g 4) base.w0) : PrimOk P base (ρ.f 197) (.look decP) := by
  refine ⟨⟨fn, hf, hb, hn⟩, fun args h v h3' m he E vs hP R V => ?_, fun _ _ _ _ _ _ _ _ hg => hg⟩
  simp only [primOp, Option.map_eq_some_iff] at he
  obtain ⟨v', he, hx⟩ := he
  cases hx
  unfold decP at he
  split at he
  case h_2 => cases he
  rename_i s
  obtain ⟨xv, us, rfl, hx, hnil⟩ := V.uncons
  cases hnil
  obtain rfl := hx.sc_inv.1
  refine (Any.utf8_DecodeRuneInString L s E.w (tabs_lo h3 h4 R.lo T)).mono fun e w' ⟨he', bel⟩ => ?_
  obtain ⟨R', S⟩ := below_same R bel
  refine ⟨_, { E with w := w' }, he', rfl, R', S, ?_⟩
  split at he
  · rename_i c n hd
    cases he
    obtain ⟨_, hlt, rfl, rfl⟩ := sdec_some hd
    have h0 : s.size ≠ 0 := by have : (0 : Int).toNat = 0 := rfl; omega
    have e0 : decodeGo s = Utf8.decode s 0 := by unfold decodeGo; rw [if_neg h0]
    rw [e0]
    have ez : (0 : Int) + (((Utf8.decode s (0 : Int).toNat).2 : Nat) : Int) = (((Utf8.decode s 0).2 : Nat) : Int) := by simp
    rw [ez]
    exact .tup (.data (.sc rfl .nil) (.data (.sc rfl .nil) .nil)) .nil
  · rename_i hd
    cases he
    have h0 : s.size = 0 := by have := sdec_none hd (by omega); have : (0 : Int).toNat = 0 := rfl; omega
    have e0 : decodeGo s = (65533, 0) := by unfold decodeGo; rw [if_pos h0]
    rw [e0]
    exact .tup (.data (.sc rfl .nil) (.data (.sc rfl .nil) .nil)) .nil
end
end Go.Ab
namespace Go.Ab
open Go Go.RowKit Go.Shelf Go.Proofs
set_option linter.unusedSimpArgs false
set_option linter.unusedVariables false
def chP (e u : TypeId) (o : Ops) (h : Store) (args : List AV) : Option AV :=
  match args with
  | [x] => match elemsAt o h e x with
    | some xs => match o.lcut e xs with
      | some ys => some (.lit u false ys)
      | none => none
    | none => none
  | _ => none
theorem chP_look (e u : TypeId) : LookOk (.look (chP e u)) := by
  intro X o h h' args v B H hg
  unfold chP at hg ⊢
  split at hg
  · split at hg
    · rename_i hx; simp only [elemsAt_hol B H hx]; exact hg
    · cases hg
  · cases hg
section
variable {P : Program} {base : Base} {h : Store} {E : Env}
theorem DL.owns {w : World} {own : Nat → Prop} {B size n : Nat} {e : TypeId} {v : Value} {vals : List Value} {xs : List AV} (h : w.ownsRow B e size v n vals) (hn : xs.length = n) (hs : ∀ x, x ∈ xs → x.cells.length = P.cellsOf e)
    (hown : ∀ b, own b → b < B) (hd : DL P w own (flat xs) vals) (h1 : ∀ u, u ∈ vals → u.oneCell' = true) : DL P w own [.lit e false xs] [v] := by
  subst hn
  rcases h.2 with ⟨rfl, h0⟩ | ⟨g, cap, cur, rfl, hb, hgb, hc, hm, _, ht⟩
  · have : xs = [] := List.eq_nil_of_length_eq_zero h0
    subst this
    exact .lit (Nat.le_refl _) (Nat.zero_le _) (fun h => by cases h) hs hd h1 (fun j u hu => by cases hd; cases hu) .nil
  · refine .lit hc hm (fun h => by cases h) hs hd h1 (fun j u hu => ⟨g, 0, rfl, fun ho => ?_, ?_⟩) .nil
    · have := hown g ho; omega
    · rw [cell_of_row w g (0 + j) cur e (0, 0) hgb, Nat.zero_add, ← Array.getElem?_toList]
      rw [← ht, List.getElem?_take] at hu
      split at hu
      · exact hu
      · cases hu
theorem flat_one {xs : List AV} (h : ∀ x, x ∈ xs → x.cells = [x]) : flat xs = xs := by
  induction xs with
  | nil => rfl
  | cons x xs ih =>
    show x.cells ++ flat xs = _
    rw [h x (List.mem_cons_self ..), ih (fun y hy => h y (List.mem_cons_of_mem _ hy))]
    rfl
def Cuts (P : Program) (f : FuncId) (e u : TypeId) : Prop :=
  ∀ (b off len cap : Nat) (a : Option Addr) (vals : List Value), len ≤ cap → len ≤ 1000000 → ∀ w : World, (0 < len → a = some ⟨b, off, none⟩) → vals.length = 2 * len → (∀ j v, vals[j]? = some v → w.cell? ⟨b, off + j, none⟩ = some v) → (∀ v ∈ vals, v.oneCell' = true) →
    Calls P f #[.slice a len cap] w fun z W' => ∃ v svs, z = .returned v ∧ svs.length = (len + 7) / 8 ∧ W'.ownsRow w.heap.size u 1 v svs.length svs ∧
      (∀ (k : Nat) (sv : Value), svs[k]? = some sv → W'.ownsRow w.heap.size e 2 sv (min 8 (len - 8 * k)) ((vals.drop (16 * k)).take (2 * min 8 (len - 8 * k)))) ∧ Below w.heap.size w W'
theorem parts_dl {w : World} {own : Nat → Prop} {B : Nat} {e : TypeId} (he : P.cellsOf e = 2) {xs : List AV} {vals : List Value} (hs : ∀ x, x ∈ xs → x.cells.length = P.cellsOf e) (hown : ∀ b, own b → b < B) (hd : DL P w own (flat xs) vals)
    (h1 : ∀ u, u ∈ vals → u.oneCell' = true) : ∀ (svs : List Value) (k0 : Nat), (∀ (k : Nat) (sv : Value), svs[k]? = some sv → w.ownsRow B e 2 sv (min 8 (xs.length - 8 * (k0 + k))) ((vals.drop (16 * (k0 + k))).take (2 * min 8 (xs.length - 8 * (k0 + k))))) →
    DL P w own ((List.range' k0 svs.length).map fun k => .lit e false ((xs.drop (8 * k)).take 8)) svs
  | [], _, _ => .nil
  | sv :: svs, k0, hr => by
    have h0 := hr 0 sv rfl
    rw [List.length_cons, List.range'_succ, List.map_cons]
    have hx : DL P w own [.lit e false ((xs.drop (8 * k0)).take 8)] [sv] := by
      refine DL.owns h0 (by rw [List.length_take, List.length_drop]; omega) (fun x hx => hs x (List.mem_of_mem_drop (List.mem_of_mem_take hx))) hown ?_ (fun u hu => h1 u (List.mem_of_mem_drop (List.mem_of_mem_take hu)))
      have hs' : ∀ x, x ∈ xs.drop (8 * k0) → x.cells.length = P.cellsOf e := fun x hx => hs x (List.mem_of_mem_drop hx)
      have ed : (flat xs).drop (16 * k0) = flat (xs.drop (8 * k0)) := by rw [flat_drop hs, he]; congr 1; omega
      have hl : (xs.drop (8 * k0)).take 8 = (xs.drop (8 * k0)).take (min 8 (xs.length - 8 * k0)) := by
        by_cases h8 : 8 ≤ xs.length - 8 * k0
        · rw [Nat.min_eq_left h8]
        · rw [List.take_of_length_le (by rw [List.length_drop]; omega), List.take_of_length_le (by rw [List.length_drop]; omega)]
      rw [hl, flat_take hs', he, ← ed, Nat.mul_comm _ 2]
      exact (hd.drop _).take _
    have ht := parts_dl he hs hown hd h1 svs (k0 + 1) (fun k sv' hk => by
      have := hr (k + 1) sv' hk
      rwa [show k0 + (k + 1) = k0 + 1 + k by omega] at this)
    exact hx.append ht
theorem chunk_ok {f : FuncId} {e u : TypeId} (he : P.cellsOf e = 2) (hu : P.cellsOf u = 1) (hf : ∃ fn, P.funcs[f]? = some fn ∧ fn.body.isSome = true ∧ fn.name ≠ "runtime.NumGoroutine") (hC : Cuts P f e u) : PrimOk P base f (.look (chP e u)) := by
  refine ⟨hf, fun args h v h3' m hp E vs hP R V => ?_, chP_look e u⟩
  simp only [primOp, Option.map_eq_some_iff] at hp
  obtain ⟨v', hp, hx⟩ := hp
  cases hx
  unfold chP at hp
  split at hp
  case h_2 => cases hp
  rename_i x
  split at hp
  case h_2 => cases hp
  rename_i xs hxs
  split at hp
  case h_2 => cases hp
  rename_i ys hys
  cases hp
  simp only [Ops.std] at hys
  split at hys
  case isFalse => cases hys
  rename_i hlen
  cases hys
  obtain ⟨xv, us, rfl, hx, hnil⟩ := V.uncons
  cases hnil
  obtain ⟨hel, hs⟩ := elemsAt_some R hx hxs
  obtain ⟨ad, cap, vals, rfl, hc, hm, hd, hone, _, hrd⟩ := elems_vl R hx hel
  subst hP
  have hvl : vals.length = 2 * xs.length := by rw [hd.length, flat_len hs, he, Nat.mul_comm]
  obtain ⟨b, off, hab, hcell⟩ : ∃ b off, (0 < xs.length → ad = some ⟨b, off, none⟩) ∧ ∀ j u, vals[j]? = some u → E.w.cell? ⟨b, off + j, none⟩ = some u := by
    cases vals with
    | nil => exact ⟨0, 0, fun h => by simp at hvl; omega, fun j u hj => by cases hj⟩
    | cons v0 vr =>
      obtain ⟨b, o, hab, _⟩ := hrd 0 v0 rfl
      refine ⟨b, o, fun _ => hab, fun j u hj => ?_⟩
      obtain ⟨b', o', hab', hc'⟩ := hrd j u hj
      rw [hab] at hab'
      injection hab' with hab'
      injection hab' with e1 e2 _
      subst e1 e2
      exact hc'
  refine (hC b off xs.length cap ad vals hc hlen E.w hab hvl hcell hone).mono fun z w' ⟨v, svs, hz, hlv, hrow, heach, bel⟩ => ?_
  obtain ⟨R', S⟩ := below_same R bel
  refine ⟨_, { E with w := w' }, hz, rfl, R', S, .data ?_ .nil⟩
  have hd' : DL E.P w' E.own (flat xs) vals := hd.step S.ext
  have hcl : ∀ y, y ∈ (cut8 xs).map (AV.lit e false) → y.cells = [y] := fun y hy => by
    obtain ⟨_, _, rfl⟩ := List.mem_map.1 hy; rfl
  refine DL.owns hrow (by rw [List.length_map, cut8, List.length_map, List.length_range, hlv]) (fun y hy => by rw [hcl y hy, hu]; rfl) (fun b hb => R.lt b hb) ?_ (fun u hu' => ?_)
  · rw [flat_one hcl]
    have := parts_dl he hs (fun b hb => R.lt b hb) hd' hone svs 0 (fun k sv hk => by rw [Nat.zero_add]; exact heach k sv hk)
    rw [cut8, List.map_map, ← hlv, List.range_eq_range']
    exact this
  · obtain ⟨k, hk⟩ := List.mem_iff_getElem?.1 hu'
    rcases (heach k u hk).2 with ⟨rfl, _⟩ | ⟨_, _, _, rfl, _⟩ <;> rfl
end
end Go.Ab
namespace Go.Ab
open Go Go.RowKit Go.Shelf Go.Proofs
set_option linter.unusedSimpArgs false
set_option linter.unusedVariables false
section
variable {P : Program} {base : Base} {h : Store} {E : Env}
def pcells (p : Int × Int) : List Value := [.int .u64 p.1, .int .u16 p.2]
def InR (p : Int × Int) : Prop := 0 ≤ p.1 ∧ p.1 < 18446744073709551616
theorem avPeer_some {x : AV} {p : Int × Int} (hx : avPeer x = some p) : x = peerAV p ∧ InR p := by
  unfold avPeer at hx
  split at hx
  · split at hx
    · rename_i hr
      cases hx
      exact ⟨rfl, hr⟩
    · cases hx
  · cases hx
theorem avPeers_some : ∀ {xs : List AV} {l : List (Int × Int)}, avPeers xs = some l → xs = l.map peerAV ∧ ∀ p, p ∈ l → InR p
  | [], l, h => by cases h; exact ⟨rfl, fun p hp => by cases hp⟩
  | x :: r, l, h => by
    rw [avPeers] at h
    split at h
    · rename_i p l' h1 h2
      cases h
      obtain ⟨rfl, hp⟩ := avPeer_some h1
      obtain ⟨rfl, hl⟩ := avPeers_some h2
      refine ⟨rfl, fun q hq => ?_⟩
      rcases List.mem_cons.1 hq with rfl | hq
      · exact hp
      · exact hl q hq
    · cases h
theorem peers_vals {w : World} {own : Nat → Prop} : ∀ {l : List (Int × Int)} {vals : List Value}, DL P w own (flat (l.map peerAV)) vals → vals = l.flatMap pcells
  | [], vals, h => by cases h; rfl
  | p :: l, vals, h => by
    have h' : DL P w own (.sc (.int .u64 p.1) :: .sc (.int .u16 p.2) :: flat (l.map peerAV)) vals := h
    cases h' with
    | sc _ t => cases t with
      | sc _ t => rw [peers_vals t]; rfl
theorem peers_dl {w : World} {own : Nat → Prop} : ∀ (l : List (Int × Int)), DL P w own (flat (l.map peerAV)) (l.flatMap pcells)
  | [] => .nil
  | p :: l => .sc rfl (.sc rfl (peers_dl l))
theorem peers_one {l : List (Int × Int)} : ∀ u, u ∈ l.flatMap pcells → u.oneCell' = true := fun u hu => by
  obtain ⟨p, _, hp⟩ := List.mem_flatMap.1 hu
  rcases List.mem_cons.1 hp with rfl | hp
  · rfl
  · rcases List.mem_cons.1 hp with rfl | hp
    · rfl
    · cases hp
theorem hopSort_len (me : Int) (l : List (Int × Int)) : (hopSort me l).length = l.length := List.length_mergeSort ..
theorem pcells_len (l : List (Int × Int)) : (l.flatMap pcells).length = l.length * 2 := by
  induction l with
  | nil => rfl
  | cons p l ih => rw [List.flatMap_cons, List.length_append, ih, List.length_cons, Nat.add_mul]; show 2 + _ = _; omega
structure Sorts (P : Program) (f : FuncId) (e : TypeId) (g : FuncId) : Prop where
  at0 : ∀ (a : Option Addr) (c : Nat) (fv : Value) (w : World), Calls P f #[.slice a 0 c, fv] w fun z w' => z = .returned (.tuple #[]) ∧ w' = w
  atN : ∀ (me : Int) (blk cap bx : Nat) (cur : Array Value) (d : List (Int × Int)) (w : World), w.cell? ⟨bx, 0, none⟩ = some (.int .u64 me) → bx ≠ blk → w.heap[blk]? = some (.cells cur e (0, 0)) → d.length * 2 ≤ cur.size → cur.toList.take (d.length * 2) = d.flatMap pcells →
    0 < d.length → d.length ≤ 1000000 → (∀ p, p ∈ d → InR p) →
    Calls P f #[.slice (some ⟨blk, 0, none⟩) d.length cap, .func (.func g) #[] #[.pointer (some ⟨bx, 0, none⟩)]] w fun z w' => z = .returned (.tuple #[]) ∧
      Below w.heap.size (w.setRow blk ((hopSort me d).flatMap pcells ++ cur.toList.drop (d.length * 2)).toArray) w'
theorem sort_ok {f g : FuncId} {e : TypeId} (he : P.cellsOf e = 2) (hf : ∃ fn, P.funcs[f]? = some fn ∧ fn.body.isSome = true ∧ fn.name ≠ "runtime.NumGoroutine") (hS : Sorts P f e g) : PrimOk P base f (.sort e g) := by
  refine ⟨hf, fun args h v h3 m hp E vs hP R V => ?_, trivial⟩
  simp only [primOp] at hp
  split at hp
  case h_2 => cases hp
  rename_i k gg f' b
  split at hp
  case h_2 => cases hp
  rename_i e' xs t me cs hr hb
  split at hp
  case isFalse => cases hp
  rename_i hef
  obtain ⟨rfl, rfl⟩ := hef
  split at hp
  case h_2 => cases hp
  rename_i ys hys
  cases hp
  simp only [Ops.std] at hys
  split at hys
  case h_2 => cases hys
  rename_i l hl
  split at hys
  case isFalse => cases hys
  rename_i hlen
  cases hys
  subst hP
  obtain ⟨rfl, hin⟩ := avPeers_some hl
  obtain ⟨sv, us, rfl, hsv, V2⟩ := V.uncons
  obtain ⟨fv, us2, rfl, hfv, hnil⟩ := V2.uncons
  cases hnil
  have hk := rowOf_some hr
  obtain ⟨hgen, htop, hesz, hsx, olds, hrow, hdx, honex⟩ := R.ent k _ hk
  have hsv' : sv = E.row k := by
    cases hsv with
    | data h _ => cases h
    | sl _ _ _ h _ => exact h hgen
  subst hsv'
  obtain ⟨cv, hfv', hcv⟩ : ∃ cv, fv = .func (.func g) #[] #[cv] ∧ cv = .pointer (some ⟨E.box b, 0, none⟩) := by
    cases hfv with
    | data h _ => cases h
    | fn h _ =>
      obtain ⟨c, us3, rfl, hc, hn⟩ := h.uncons
      cases hn
      cases hc with
      | data h _ => cases h
      | bptr _ _ => exact ⟨_, rfl, rfl⟩
  subst hcv hfv'
  obtain ⟨hbg, hbt, hbb, hbone, bvals, hbh, hbv⟩ := R.ent b _ hb
  have hol := peers_vals hdx
  subst hol
  rcases hrow.2 with ⟨hn0, a', ha'⟩ | ⟨b0, cap, cur, hc0, ha, hb0, hh, hlec, hmx, hcs, htk⟩
  · have : l = [] := List.eq_nil_of_length_eq_zero (by simpa using hn0)
    subst this
    rw [ha']
    refine (hS.at0 a' 0 _ E.w).mono fun z w' ⟨hz, hw⟩ => ?_
    subst hw
    have e1 : h.set k (.row e gg false ((hopSort me []).map peerAV)) = h := by
      have : (hopSort me []).map peerAV = [] := by simp [hopSort]
      rw [this]
      exact set_same hk
    rw [e1]
    exact ⟨_, E, hz, rfl, R, .refl h E, .tup .nil .nil⟩
  · have hbk : blkOf E h k = some b0 := (blkOf_of hk).trans (by
      show rowBlk (E.row k) = _
      rw [ha]
      cases cap with
      | zero => omega
      | succ c => rfl)
    have hbkb : blkOf E h b = some (E.box b) := blkOf_of hb
    have hne : E.box b ≠ b0 := fun he => by
      have := R.inj k b b0 hbk (by rw [hbkb, he])
      subst this
      rw [hk] at hb; cases hb
    have hcell : E.w.cell? ⟨E.box b, 0, none⟩ = some (.int .u64 me) := by
      obtain ⟨u, us4, rfl, hu, _⟩ := hbv.uncons
      obtain rfl := hu.sc_inv.1
      simp [World.cell?, hbh]
    by_cases hl0 : l.length = 0
    · have : l = [] := List.eq_nil_of_length_eq_zero hl0
      subst this
      rw [ha]
      refine (hS.at0 _ cap _ E.w).mono fun z w' ⟨hz, hw⟩ => ?_
      subst hw
      have e1 : h.set k (.row e gg false ((hopSort me []).map peerAV)) = h := by
        have : (hopSort me []).map peerAV = [] := by simp [hopSort]
        rw [this]
        exact set_same hk
      rw [e1]
      exact ⟨_, E, hz, rfl, R, .refl h E, .tup .nil .nil⟩
    · rw [ha, List.length_map]
      rw [he] at hcs htk
      rw [List.length_map] at hlec htk
      refine (hS.atN me b0 cap (E.box b) cur l E.w hcell hne hh (by omega) htk (by omega) hlen hin).mono fun z w' ⟨hz, bel⟩ => ?_
      have hsl := hopSort_len me l
      have RP := row_piece R hr (p := 0) (ys := (hopSort me l).map peerAV) (news := (hopSort me l).flatMap pcells) (by simp [hsl]) (fun y hy => by
        obtain ⟨q, _, rfl⟩ := List.mem_map.1 hy
        rw [he]; rfl) (peers_dl _) peers_one ha hh hc0
      have ex : ((l.map peerAV).take 0 ++ (hopSort me l).map peerAV ++ (l.map peerAV).drop (0 + ((hopSort me l).map peerAV).length)) = (hopSort me l).map peerAV := by
        rw [List.drop_of_length_le (by simp [hsl])]; simp
      have ew : cur.toList.take (0 * E.P.cellsOf e) ++ (hopSort me l).flatMap pcells ++ cur.toList.drop (0 * E.P.cellsOf e + ((hopSort me l).flatMap pcells).length) = (hopSort me l).flatMap pcells ++ cur.toList.drop (l.length * 2) := by
        rw [pcells_len, hsl]; simp
      rw [ex, ew] at RP
      obtain ⟨R1, S1⟩ := RP
      obtain ⟨R2, S2⟩ := below_same R1 (w' := w') (by
        have : (E.w.setRow b0 ((hopSort me l).flatMap pcells ++ cur.toList.drop (l.length * 2)).toArray).heap.size = E.w.heap.size := by simp [World.setRow]
        show Below (E.w.setRow b0 _).heap.size (E.w.setRow b0 _) w'
        rw [this]; exact bel)
      exact ⟨_, _, hz, rfl, R2, S1.trans S2 R.lt, .tup .nil .nil⟩
end
end Go.Ab
namespace Go.Ab.Tryz
open Go Go.Proofs
abbrev Kn (d : Nat) (i : Ir) : Ip := ⟨some d, i, none, 0, []⟩
abbrev Km (d n : Nat) : Ip := ⟨some d, .mov (.t n), none, 0, []⟩
abbrev Kz : Od := .c (.agg [.sc (.int .u64 0), .sc (.int .u16 0), .sc (.int .i64 0), .sc (.bool false), .lit 0 true [], .lit 0 true [], .lit 0 true [], .lit 0 true [], .lit 0 true [], .lit 0 true [], .lit 0 true [], .sc (.int .u32 0), .sc (.int .i64 0), .sc (.int .i64 0)])
abbrev Ky : Od := .c (.agg [.sc (.int .i64 0), .sc (.int .u32 0), .sc (.int .u8 0), .sc (.bool false), .sc (.int .u64 0), .sc (.string ⟨#[]⟩), .sc (.string ⟨#[]⟩), .sc (.int .u64 0), .sc (.int .u16 0), .lit 0 true [], .lit 0 true []])
abbrev Kh : Sh := .a [.s, .s, .s, .s, .l 81, .l 81, .l 84, .l 78, .l 88, .l 67, .l 60, .s, .s, .s]
abbrev Kg : Sh := .a [.s, .s, .s, .s, .s, .s, .s, .s, .s, .l 25, .l 78]
abbrev Kf : Od := .c (.sc (.bool false))
abbrev Kt : Od := .c (.sc (.bool true))
abbrev K0 : Od := .c (.sc (.int .i64 0))
abbrev K1n : Od := .c (.sc (.int .i64 1))
def b3_0F : Cd := (.seq (.region [Kn 19 (.load true 14 (.t 3)),
 Kn 20 (.call 14 [Kh] [.t 19]),
 Kn 7 (.box 34 14 Kz),
 ⟨none, .store 14 (.t 7) (.t 20), none, 0, []⟩]) (.seq (.region [Kn 22 (.load true 14 (.t 7)),
 Km 23 1,
 Kn 24 (.load true 11 (.t 5)),
 Kn 25 (.call 15 [Kh, .s, Kg] [.t 22, .t 23, .t 24]),
 Km 21 25,
 Kn 26 (.ext (.t 21) 0),
 Kn 27 (.ext (.t 21) 1),
 Kn 8 (.box 34 14 Kz),
 ⟨none, .store 14 (.t 8) (.t 26), none, 0, []⟩,
 Km 9 27]) (.seq (.region [Kn 29 (.load true 14 (.t 3)),
 Km 30 1,
 Kn 31 (.load true 11 (.t 5)),
 Kn 32 (.call 16 [Kh, .s, Kg] [.t 29, .t 30, .t 31]),
 Km 28 32,
 Kn 33 (.ext (.t 28) 0),
 Kn 34 (.ext (.t 28) 1),
 Kn 10 (.box 34 14 Kz),
 ⟨none, .store 14 (.t 10) (.t 33), none, 0, []⟩,
 Km 11 34]) (.seq (.region [Kn 35 (.load true 14 (.t 8)),
 Kn 36 (.load true 14 (.t 10)),
 Kn 37 (.call 17 [Kh, Kh] [.t 35, .t 36]),
 Km 38 37,
 ⟨some 39, .mov (.t 9), some (38, true), 0, []⟩,
 ⟨some 40, .mov (.t 11), some (38, true), 0, []⟩,
 ⟨some 41, .call 18 [.l 56, .l 56] [.t 39, .t 40], some (38, true), 0, []⟩,
 Kn 42 (.pick (.t 38) (.t 41) Kf),
 Km 43 42,
 ⟨some 44, .load true 14 (.t 7), some (43, true), 0, []⟩,
 ⟨some 45, .load true 14 (.t 3), some (43, true), 0, []⟩,
 ⟨some 46, .call 17 [Kh, Kh] [.t 44, .t 45], some (43, true), 0, []⟩,
 Kn 47 (.pick (.t 43) (.t 46) Kf),
 Km 48 47,
 ⟨some 49, .call 13 [] [], some (48, true), 0, []⟩,
 Kn 50 (.pick (.t 48) (.t 49) Kf),
 Km 6 50]) (.ret [6])))))
def b3_0 : Cd := b3_0F
def g3F (c0 : Cd) : Fn := ⟨51, [.t 6], [.s], .lit,
 (.seq (.region [Kn 3 (.box 34 14 (.t 0)),
 Kn 5 (.box 37 11 (.t 2)),
 Kn 6 (.mov Kf)]) (.seq (.seq (.region [Kn 12 (.load true 14 (.t 3)),
 Kn 13 (.call 11 [Kh] [.t 12]),
 Km 14 13,
 ⟨some 15, .load true 11 (.t 5), some (14, false), 0, []⟩,
 ⟨some 16, .call 12 [Kg] [.t 15], some (14, false), 0, []⟩,
 Kn 17 (.pick (.t 14) Kt (.t 16))]) (.cond (.t 17) (.seq (.region [Kn 18 (.call 13 [] []),
 Km 6 18]) (.ret [6])) .skip)) (.seg [1, 5, 3] [6] c0)))⟩
def g3 : Fn := g3F b3_0
theorem cmp3 : cmpFn Tryz.prog .lit [1000016] 3 = some g3 := by kernel_rfl
def b4_0F : Cd := (.seq (.region [Kn 41 (.load true 14 (.t 6)),
 Km 42 1,
 Km 43 2,
 Kn 44 (.call 20 [Kh, .s, .s] [.t 41, .t 42, .t 43]),
 Km 40 44,
 Kn 45 (.ext (.t 40) 0),
 Kn 46 (.ext (.t 40) 1),
 Kn 47 (.ext (.t 40) 2),
 Kn 13 (.box 34 14 Kz),
 ⟨none, .store 14 (.t 13) (.t 45), none, 0, []⟩,
 Km 14 46,
 Km 15 47]) (.seq (.region [Kn 49 (.load true 14 (.t 6)),
 Km 50 1,
 Km 51 2,
 Kn 52 (.call 21 [Kh, .s, .s] [.t 49, .t 50, .t 51]),
 Km 48 52,
 Kn 53 (.ext (.t 48) 0),
 Kn 54 (.ext (.t 48) 1),
 Kn 55 (.ext (.t 48) 2),
 Kn 16 (.box 34 14 Kz),
 ⟨none, .store 14 (.t 16) (.t 53), none, 0, []⟩,
 Km 17 54,
 Km 18 55]) (.seq (.region [Kn 57 (.load true 14 (.t 6)),
 Kn 58 (.load true 2 (.t 9)),
 Km 59 4,
 Km 60 5,
 Kn 61 (.call 22 [Kh, .a [.s, .s], .l 78, .s] [.t 57, .t 58, .t 59, .t 60]),
 Km 56 61,
 Kn 62 (.ext (.t 56) 0),
 Kn 63 (.ext (.t 56) 1),
 Kn 19 (.box 34 14 Kz),
 ⟨none, .store 14 (.t 19) (.t 62), none, 0, []⟩,
 Km 20 63]) (.seq (.region [Kn 65 (.load true 14 (.t 6)),
 Kn 66 (.load true 2 (.t 9)),
 Km 67 4,
 Km 68 5,
 Kn 69 (.call 23 [Kh, .a [.s, .s], .l 78, .s] [.t 65, .t 66, .t 67, .t 68]),
 Km 64 69,
 Kn 70 (.ext (.t 64) 0),
 Kn 71 (.ext (.t 64) 1),
 Kn 21 (.box 34 14 Kz),
 ⟨none, .store 14 (.t 21) (.t 70), none, 0, []⟩,
 Km 22 71]) (.seq (.region [Kn 72 (.load true 14 (.t 13)),
 Kn 73 (.load true 14 (.t 16)),
 Kn 74 (.call 17 [Kh, Kh] [.t 72, .t 73]),
 Km 75 74,
 ⟨some 76, .mov (.t 14), some (75, true), 0, []⟩,
 ⟨some 77, .mov (.t 17), some (75, true), 0, []⟩,
 ⟨some 78, .call 18 [.l 56, .l 56] [.t 76, .t 77], some (75, true), 0, []⟩,
 Kn 79 (.pick (.t 75) (.t 78) Kf),
 Km 80 79,
 ⟨some 81, .mov (.t 15), some (80, true), 0, []⟩,
 ⟨some 82, .mov (.t 18), some (80, true), 0, []⟩,
 ⟨some 83, .bin .eql .num (.t 81) (.t 82), some (80, true), 0, []⟩,
 Kn 84 (.pick (.t 80) (.t 83) Kf),
 Km 85 84,
 ⟨some 86, .load true 14 (.t 19), some (85, true), 0, []⟩,
 ⟨some 87, .load true 14 (.t 21), some (85, true), 0, []⟩,
 ⟨some 88, .call 17 [Kh, Kh] [.t 86, .t 87], some (85, true), 0, []⟩,
 Kn 89 (.pick (.t 85) (.t 88) Kf),
 Km 90 89,
 ⟨some 91, .mov (.t 20), some (90, true), 0, []⟩,
 ⟨some 92, .mov (.t 22), some (90, true), 0, []⟩,
 ⟨some 93, .call 18 [.l 56, .l 56] [.t 91, .t 92], some (90, true), 0, []⟩,
 Kn 94 (.pick (.t 90) (.t 93) Kf),
 Km 95 94,
 ⟨some 96, .call 13 [] [], some (95, true), 0, []⟩,
 Kn 97 (.pick (.t 95) (.t 96) Kf),
 Km 12 97]) (.ret [12]))))))
def b4_0 : Cd := b4_0F
def g4F (c0 : Cd) : Fn := ⟨98, [.t 12], [.s], .lit,
 (.seq (.region [Kn 6 (.box 34 14 (.t 0)),
 Kn 9 (.box 25 2 (.t 3)),
 Kn 12 (.mov Kf)]) (.seq (.seq (.region [Kn 23 (.load true 14 (.t 6)),
 Kn 24 (.call 11 [Kh] [.t 23]),
 Km 25 24,
 ⟨some 26, .mov (.t 1), some (25, false), 0, []⟩,
 ⟨some 27, .len true (.t 26), some (25, false), 0, []⟩,
 ⟨some 28, .bin .gtr .num (.t 27) (.c (.sc (.int .i64 300))), some (25, false), 0, []⟩,
 Kn 29 (.pick (.t 25) Kt (.t 28)),
 Km 30 29,
 ⟨some 31, .mov (.t 2), some (30, false), 0, []⟩,
 ⟨some 32, .len true (.t 31), some (30, false), 0, []⟩,
 ⟨some 33, .bin .gtr .num (.t 32) (.c (.sc (.int .i64 700))), some (30, false), 0, []⟩,
 Kn 34 (.pick (.t 30) Kt (.t 33)),
 Km 35 34,
 ⟨some 36, .mov (.t 4), some (35, false), 0, []⟩,
 ⟨some 37, .call 19 [.l 78] [.t 36], some (35, false), 0, []⟩,
 Kn 38 (.pick (.t 35) Kt (.t 37))]) (.cond (.t 38) (.seq (.region [Kn 39 (.call 13 [] []),
 Km 12 39]) (.ret [12])) .skip)) (.seg [1, 2, 6, 9, 4, 5] [12] c0)))⟩
def g4 : Fn := g4F b4_0
theorem cmp4 : cmpFn Tryz.prog .lit [1000016] 4 = some g4 := by kernel_rfl
def b5_0F : Cd := (.seq (.seq (.region [Kn 13 (.box 37 11 Ky),
 Kn 14 (.box 37 11 Ky)]) (.region [Km 59 10,
 ⟨some 60, .iadS 56 (.t 59) K0, none, 0, [13, 14]⟩,
 ⟨some 61, .fad (.t 60) 2, none, 0, [13, 14]⟩,
 ⟨some 62, .load true 11 (.t 61), none, 0, [13, 14]⟩,
 Km 63 12,
 ⟨some 64, .iadS 56 (.t 63) K0, none, 2, [13, 14]⟩,
 ⟨some 65, .fad (.t 64) 2, none, 2, [13, 14]⟩,
 ⟨some 66, .load true 11 (.t 65), none, 2, [13, 14]⟩,
 Km 13 13,
 Km 14 14,
 ⟨none, .store 11 (.t 13) (.t 62), none, 1, []⟩,
 ⟨none, .store 11 (.t 14) (.t 66), none, 0, []⟩])) (.seq (.seq (.region [Kn 67 (.fad (.t 13) 0),
 Kn 68 (.load false 1 (.t 67)),
 Kn 69 (.bin .eql .num (.t 68) (.c (.sc (.int .i64 6))))]) (.cond (.t 69) (.seq (.region [Kn 70 (.fad (.t 14) 0),
 Kn 71 (.load false 1 (.t 70)),
 Kn 72 (.bin .eql .num (.t 71) (.c (.sc (.int .i64 9)))),
 Km 73 72,
 ⟨some 74, .fad (.t 14) 3, some (73, true), 0, []⟩,
 ⟨some 75, .load false 1 (.t 74), some (73, true), 0, []⟩,
 Kn 76 (.pick (.t 73) (.t 75) Kf),
 Km 77 76,
 ⟨some 78, .fad (.t 14) 6, some (77, true), 0, []⟩,
 ⟨some 79, .load false 1 (.t 78), some (77, true), 0, []⟩,
 ⟨some 80, .mov (.t 3), some (77, true), 0, []⟩,
 ⟨some 81, .bin .eql .str (.t 79) (.t 80), some (77, true), 0, []⟩,
 Kn 82 (.pick (.t 77) (.t 81) Kf),
 Km 83 82,
 ⟨some 84, .call 13 [] [], some (83, true), 0, []⟩,
 Kn 85 (.pick (.t 83) (.t 84) Kf),
 Km 8 85]) (.ret [8])) .skip)) (.seq (.region [Kn 86 (.fad (.t 13) 0),
 Kn 87 (.load false 1 (.t 86)),
 Kn 88 (.bin .eql .num (.t 87) (.c (.sc (.int .i64 12)))),
 Km 89 88,
 ⟨some 90, .fad (.t 13) 2, some (89, true), 0, []⟩,
 ⟨some 91, .load false 1 (.t 90), some (89, true), 0, []⟩,
 ⟨some 92, .bin .neq .num (.t 91) (.c (.sc (.int .u8 17))), some (89, true), 0, []⟩,
 ⟨some 93, .mov (.t 92), some (89, true), 0, []⟩,
 ⟨some 94, .fad (.t 13) 2, some (93, true), 0, []⟩,
 ⟨some 95, .load false 1 (.t 94), some (93, true), 0, []⟩,
 ⟨some 96, .bin .neq .num (.t 95) (.c (.sc (.int .u8 14))), some (93, true), 0, []⟩,
 ⟨some 97, .pick (.t 93) (.t 96) Kf, some (89, true), 0, []⟩,
 ⟨some 98, .mov (.t 97), some (89, true), 0, []⟩,
 ⟨some 99, .fad (.t 14) 0, some (98, false), 0, []⟩,
 ⟨some 100, .load false 1 (.t 99), some (98, false), 0, []⟩,
 ⟨some 101, .bin .eql .num (.t 100) (.c (.sc (.int .i64 12))), some (98, false), 0, []⟩,
 ⟨some 102, .mov (.t 101), some (98, false), 0, []⟩,
 ⟨some 103, .fad (.t 14) 2, some (102, true), 0, []⟩,
 ⟨some 104, .load false 1 (.t 103), some (102, true), 0, []⟩,
 ⟨some 105, .fad (.t 13) 2, some (102, true), 0, []⟩,
 ⟨some 106, .load false 1 (.t 105), some (102, true), 0, []⟩,
 ⟨some 107, .bin .eql .num (.t 104) (.t 106), some (102, true), 0, []⟩,
 ⟨some 108, .pick (.t 102) (.t 107) Kf, some (98, false), 0, []⟩,
 ⟨some 109, .pick (.t 98) Kt (.t 108), some (89, true), 0, []⟩,
 Kn 110 (.pick (.t 89) (.t 109) Kf),
 Km 111 110,
 ⟨some 112, .call 13 [] [], some (111, true), 0, []⟩,
 Kn 113 (.pick (.t 111) (.t 112) Kf),
 Km 8 113]) (.ret [8]))))
def b5_0 : Cd := b5_0F
def b5_1F (c0 : Cd) : Cd := (.seq (.region [Kn 29 (.load true 14 (.t 4)),
 Km 30 1,
 Km 31 2,
 Km 32 3,
 Kn 33 (.build [.sc (.int .i64 0), .sc (.int .u32 0), .sc (.int .u8 0), .sc (.bool false), .sc (.int .u64 0), .sc (.string ⟨#[]⟩), .sc (.string ⟨#[]⟩), .sc (.int .u64 0), .sc (.int .u16 0), .lit 0 true [], .lit 0 true []] [(0, 1, .c (.sc (.int .i64 7))), (5, 1, .t 31), (6, 1, .t 32)]),
 Kn 34 (.call 15 [Kh, .s, Kg] [.t 29, .t 30, .t 33]),
 Km 28 34,
 Kn 35 (.ext (.t 28) 0),
 Kn 36 (.ext (.t 28) 1),
 Kn 9 (.box 34 14 Kz),
 ⟨none, .store 14 (.t 9) (.t 35), none, 0, []⟩,
 Km 10 36]) (.seq (.region [Kn 38 (.load true 14 (.t 9)),
 Km 39 1,
 Km 40 2,
 Kn 41 (.build [.sc (.int .i64 0), .sc (.int .u32 0), .sc (.int .u8 0), .sc (.bool false), .sc (.int .u64 0), .sc (.string ⟨#[]⟩), .sc (.string ⟨#[]⟩), .sc (.int .u64 0), .sc (.int .u16 0), .lit 0 true [], .lit 0 true []] [(0, 1, .c (.sc (.int .i64 8))), (5, 1, .t 40)]),
 Kn 42 (.call 15 [Kh, .s, Kg] [.t 38, .t 39, .t 41]),
 Km 37 42,
 Kn 43 (.ext (.t 37) 0),
 Kn 44 (.ext (.t 37) 1),
 Kn 11 (.box 34 14 Kz),
 ⟨none, .store 14 (.t 11) (.t 43), none, 0, []⟩,
 Km 12 44]) (.seq (.seq (.region [Km 45 10,
 Kn 46 (.len false (.t 45)),
 Kn 47 (.bin .eql .num (.t 46) K0),
 Km 48 47,
 ⟨some 49, .mov (.t 12), some (48, false), 0, []⟩,
 ⟨some 50, .len false (.t 49), some (48, false), 0, []⟩,
 ⟨some 51, .bin .neq .num (.t 50) K1n, some (48, false), 0, []⟩,
 Kn 52 (.pick (.t 48) Kt (.t 51)),
 Km 53 52,
 ⟨some 54, .load true 14 (.t 9), some (53, false), 0, []⟩,
 ⟨some 55, .load true 14 (.t 11), some (53, false), 0, []⟩,
 ⟨some 56, .call 17 [Kh, Kh] [.t 54, .t 55], some (53, false), 0, []⟩,
 ⟨some 57, .un .not (.t 56), some (53, false), 0, []⟩,
 Kn 58 (.pick (.t 53) Kt (.t 57))]) (.cond (.t 58) (.seq (.region [Kn 8 (.mov Kf)]) (.ret [8])) .skip)) (.seg [10, 12, 3] [8] c0))))
def b5_1 : Cd := b5_1F b5_0
def g5F (c1 : Cd) : Fn := ⟨114, [.t 8], [.s], .lit,
 (.seq (.region [Kn 4 (.box 34 14 (.t 0)),
 Kn 8 (.mov Kf)]) (.seq (.seq (.region [Kn 15 (.load true 14 (.t 4)),
 Kn 16 (.call 11 [Kh] [.t 15]),
 Km 17 16,
 ⟨some 18, .mov (.t 2), some (17, false), 0, []⟩,
 ⟨some 19, .call 24 [.s] [.t 18], some (17, false), 0, []⟩,
 ⟨some 20, .un .not (.t 19), some (17, false), 0, []⟩,
 Kn 21 (.pick (.t 17) Kt (.t 20)),
 Km 22 21,
 ⟨some 23, .mov (.t 3), some (22, false), 0, []⟩,
 ⟨some 24, .len true (.t 23), some (22, false), 0, []⟩,
 ⟨some 25, .bin .gtr .num (.t 24) (.c (.sc (.int .i64 512))), some (22, false), 0, []⟩,
 Kn 26 (.pick (.t 22) Kt (.t 25))]) (.cond (.t 26) (.seq (.region [Kn 27 (.call 13 [] []),
 Km 8 27]) (.ret [8])) .skip)) (.seg [4, 1, 2, 3] [8] c1)))⟩
def g5 : Fn := g5F b5_1
theorem cmp5 : cmpFn Tryz.prog .lit [1000016] 5 = some g5 := by kernel_rfl
def b9_0F : Cd := (.seq (.seq (.region [Km 55 9,
 Km 56 8,
 Kn 57 (.len false (.t 56)),
 Kn 58 (.bin .lss .num (.t 55) (.t 57))]) (.cond (.t 58) .skip (.exit 0 [1, 5, 8]))) (.seq (.block 1 (.seq (.region [Km 61 8,
 Km 62 9,
 Kn 63 (.iadS 56 (.t 61) (.t 62)),
 Kn 64 (.fad (.t 63) 2),
 Kn 65 (.load true 11 (.t 64)),
 Kn 66 (.call 38 [Kg] [.t 65]),
 Kn 67 (.bin .neq .num (.t 66) K0)]) (.cond (.t 67) (.seq (.region [Kn 6 (.mov Kf)]) (.ret [6])) .skip))) (.region [Km 59 9,
 Kn 60 (.bin .add .num (.t 59) K1n),
 Km 9 60])))
def b9_0 : Cd := b9_0F
def b9_1F (c0 : Cd) : Cd := (.seq (.seq (.region [Kn 9 (.mov K0)]) (.block 0 (.loop [9, 1, 5, 8] c0))) (.seq (.seq (.region [Kn 68 (.fad (.t 5) 0),
 Kn 69 (.load false 1 (.t 68)),
 Kn 70 (.call 39 [.s] [.t 69]),
 Kn 71 (.un .not (.t 70))]) (.cond (.t 71) (.seq (.region [Km 72 8,
 Kn 73 (.len false (.t 72)),
 Kn 74 (.bin .eql .num (.t 73) K0),
 Km 75 74,
 ⟨some 76, .call 13 [] [], some (75, true), 0, []⟩,
 Kn 77 (.pick (.t 75) (.t 76) Kf),
 Km 6 77]) (.ret [6])) .skip)) (.seq (.region [Km 78 8,
 Kn 79 (.len false (.t 78)),
 Kn 80 (.bin .gtr .num (.t 79) K0),
 Km 81 80,
 ⟨some 82, .mov (.t 8), some (81, true), 0, []⟩,
 ⟨some 83, .iadS 56 (.t 82) K0, some (81, true), 0, []⟩,
 ⟨some 84, .fad (.t 83) 0, some (81, true), 0, []⟩,
 ⟨some 85, .load true 2 (.t 84), some (81, true), 0, []⟩,
 ⟨some 86, .mov (.t 1), some (81, true), 0, []⟩,
 ⟨some 87, .build [.sc (.int .u64 0), .sc (.int .u16 0)] [(1, 1, .t 86)], some (81, true), 0, []⟩,
 ⟨some 88, .eqs false [.num, .num] (.t 85) (.t 87), some (81, true), 0, []⟩,
 Kn 89 (.pick (.t 81) (.t 88) Kf),
 Km 90 89,
 ⟨some 91, .mov (.t 8), some (90, true), 0, []⟩,
 ⟨some 92, .iadS 56 (.t 91) K0, some (90, true), 0, []⟩,
 ⟨some 93, .fad (.t 92) 2, some (90, true), 0, []⟩,
 ⟨some 94, .fad (.t 93) 1, some (90, true), 0, []⟩,
 ⟨some 95, .load false 1 (.t 94), some (90, true), 0, []⟩,
 ⟨some 96, .fad (.t 5) 1, some (90, true), 0, []⟩,
 ⟨some 97, .load false 1 (.t 96), some (90, true), 0, []⟩,
 ⟨some 98, .bin .eql .num (.t 95) (.t 97), some (90, true), 0, []⟩,
 Kn 99 (.pick (.t 90) (.t 98) Kf),
 Km 100 99,
 ⟨some 101, .fad (.t 5) 0, some (100, true), 0, []⟩,
 ⟨some 102, .load false 1 (.t 101), some (100, true), 0, []⟩,
 ⟨some 103, .mov (.t 8), some (100, true), 0, []⟩,
 ⟨some 104, .iadS 56 (.t 103) K0, some (100, true), 0, []⟩,
 ⟨some 105, .fad (.t 104) 2, some (100, true), 0, []⟩,
 ⟨some 106, .fad (.t 105) 0, some (100, true), 0, []⟩,
 ⟨some 107, .load false 1 (.t 106), some (100, true), 0, []⟩,
 ⟨some 108, .call 40 [.s, .s] [.t 102, .t 107], some (100, true), 0, []⟩,
 Kn 109 (.pick (.t 100) (.t 108) Kf),
 Km 110 109,
 ⟨some 111, .call 13 [] [], some (110, true), 0, []⟩,
 Kn 112 (.pick (.t 110) (.t 111) Kf),
 Km 6 112]) (.ret [6]))))
def b9_1 : Cd := b9_1F b9_0
def b9_2F (c1 : Cd) : Cd := (.seq (.region [Kn 37 (.load true 14 (.t 3)),
 Km 38 1,
 Kn 39 (.load true 11 (.t 5)),
 Kn 40 (.call 15 [Kh, .s, Kg] [.t 37, .t 38, .t 39]),
 Km 36 40,
 Kn 41 (.ext (.t 36) 0),
 Kn 42 (.ext (.t 36) 1),
 Kn 7 (.box 34 14 Kz),
 ⟨none, .store 14 (.t 7) (.t 41), none, 0, []⟩,
 Km 8 42]) (.seq (.seq (.region [Kn 43 (.fad (.t 3) 0),
 Kn 44 (.load true 2 (.t 43)),
 Kn 45 (.fad (.t 7) 5),
 Kn 46 (.load false 1 (.t 45)),
 Kn 47 (.call 35 [.a [.s, .s], .l 81] [.t 44, .t 46]),
 Kn 48 (.un .not (.t 47)),
 Km 49 48,
 ⟨some 50, .fad (.t 7) 7, some (49, false), 0, []⟩,
 ⟨some 51, .load false 1 (.t 50), some (49, false), 0, []⟩,
 ⟨some 52, .call 36 [.l 78] [.t 51], some (49, false), 0, []⟩,
 ⟨some 53, .un .not (.t 52), some (49, false), 0, []⟩,
 Kn 54 (.pick (.t 49) Kt (.t 53))]) (.cond (.t 54) (.seq (.region [Kn 6 (.mov Kf)]) (.ret [6])) .skip)) (.seg [1, 5, 8] [6] c1)))
def b9_2 : Cd := b9_2F b9_1
def g9F (c2 : Cd) : Fn := ⟨113, [.t 6], [.s], .lit,
 (.seq (.region [Kn 3 (.box 34 14 (.t 0)),
 Kn 5 (.box 37 11 (.t 2)),
 Kn 6 (.mov Kf)]) (.seq (.seq (.region [Kn 10 (.load true 14 (.t 3)),
 Kn 11 (.call 11 [Kh] [.t 10]),
 Km 12 11,
 ⟨some 13, .load true 11 (.t 5), some (12, false), 0, []⟩,
 ⟨some 14, .call 12 [Kg] [.t 13], some (12, false), 0, []⟩,
 Kn 15 (.pick (.t 12) Kt (.t 14)),
 Km 16 15,
 ⟨some 17, .fad (.t 3) 0, some (16, false), 0, []⟩,
 ⟨some 18, .load true 2 (.t 17), some (16, false), 0, []⟩,
 ⟨some 19, .fad (.t 3) 5, some (16, false), 0, []⟩,
 ⟨some 20, .load false 1 (.t 19), some (16, false), 0, []⟩,
 ⟨some 21, .call 35 [.a [.s, .s], .l 81] [.t 18, .t 20], some (16, false), 0, []⟩,
 ⟨some 22, .un .not (.t 21), some (16, false), 0, []⟩,
 Kn 23 (.pick (.t 16) Kt (.t 22)),
 Km 24 23,
 ⟨some 25, .fad (.t 3) 7, some (24, false), 0, []⟩,
 ⟨some 26, .load false 1 (.t 25), some (24, false), 0, []⟩,
 ⟨some 27, .call 36 [.l 78] [.t 26], some (24, false), 0, []⟩,
 ⟨some 28, .un .not (.t 27), some (24, false), 0, []⟩,
 Kn 29 (.pick (.t 24) Kt (.t 28)),
 Km 30 29,
 ⟨some 31, .load true 11 (.t 5), some (30, false), 0, []⟩,
 ⟨some 32, .call 37 [Kg] [.t 31], some (30, false), 0, []⟩,
 ⟨some 33, .bin .neq .num (.t 32) K0, some (30, false), 0, []⟩,
 Kn 34 (.pick (.t 30) Kt (.t 33))]) (.cond (.t 34) (.seq (.region [Kn 35 (.call 13 [] []),
 Km 6 35]) (.ret [6])) .skip)) (.seg [3, 1, 5] [6] c2)))⟩
def g9 : Fn := g9F b9_2
theorem cmp9 : cmpFn Tryz.prog .lit [1000016] 9 = some g9 := by kernel_rfl
def b11_0F : Cd := (.seq (.seq (.region [Km 44 3,
 Kn 45 (.fad (.t 1) 9),
 Kn 46 (.load false 1 (.t 45)),
 Kn 47 (.len false (.t 46)),
 Kn 48 (.bin .lss .num (.t 44) (.t 47))]) (.cond (.t 48) .skip (.exit 0 [1]))) (.seq (.block 1 (.seq (.region [Kn 51 (.fad (.t 1) 9),
 Kn 52 (.load false 1 (.t 51)),
 Km 53 3,
 Kn 54 (.iadS 67 (.t 52) (.t 53)),
 Kn 55 (.fad (.t 54) 3),
 Kn 56 (.load false 1 (.t 55)),
 Kn 57 (.len true (.t 56)),
 Kn 58 (.bin .gtr .num (.t 57) (.c (.sc (.int .i64 300)))),
 Km 59 58,
 ⟨some 60, .fad (.t 1) 9, some (59, false), 0, []⟩,
 ⟨some 61, .load false 1 (.t 60), some (59, false), 0, []⟩,
 ⟨some 62, .mov (.t 3), some (59, false), 0, []⟩,
 ⟨some 63, .iadS 67 (.t 61) (.t 62), some (59, false), 0, []⟩,
 ⟨some 64, .fad (.t 63) 4, some (59, false), 0, []⟩,
 ⟨some 65, .load false 1 (.t 64), some (59, false), 0, []⟩,
 ⟨some 66, .len true (.t 65), some (59, false), 0, []⟩,
 ⟨some 67, .bin .gtr .num (.t 66) (.c (.sc (.int .i64 700))), some (59, false), 0, []⟩,
 Kn 68 (.pick (.t 59) Kt (.t 67))]) (.cond (.t 68) (.seq (.region [Kn 2 (.mov Kt)]) (.ret [2])) .skip))) (.region [Km 49 3,
 Kn 50 (.bin .add .num (.t 49) K1n),
 Km 3 50])))
def b11_0 : Cd := b11_0F
def b11_1F : Cd := (.seq (.seq (.region [Km 69 4,
 Kn 70 (.fad (.t 1) 10),
 Kn 71 (.load false 1 (.t 70)),
 Kn 72 (.len false (.t 71)),
 Kn 73 (.bin .lss .num (.t 69) (.t 72))]) (.cond (.t 73) .skip (.exit 2 []))) (.seq (.block 3 (.seq (.region [Kn 76 (.fad (.t 1) 10),
 Kn 77 (.load false 1 (.t 76)),
 Km 78 4,
 Kn 79 (.iadS 60 (.t 77) (.t 78)),
 Kn 80 (.fad (.t 79) 2),
 Kn 81 (.load false 1 (.t 80)),
 Kn 82 (.len true (.t 81)),
 Kn 83 (.bin .gtr .num (.t 82) (.c (.sc (.int .i64 300)))),
 Km 84 83,
 ⟨some 85, .fad (.t 1) 10, some (84, false), 0, []⟩,
 ⟨some 86, .load false 1 (.t 85), some (84, false), 0, []⟩,
 ⟨some 87, .mov (.t 4), some (84, false), 0, []⟩,
 ⟨some 88, .iadS 60 (.t 86) (.t 87), some (84, false), 0, []⟩,
 ⟨some 89, .fad (.t 88) 3, some (84, false), 0, []⟩,
 ⟨some 90, .load false 1 (.t 89), some (84, false), 0, []⟩,
 ⟨some 91, .len true (.t 90), some (84, false), 0, []⟩,
 ⟨some 92, .bin .gtr .num (.t 91) (.c (.sc (.int .i64 700))), some (84, false), 0, []⟩,
 Kn 93 (.pick (.t 84) Kt (.t 92))]) (.cond (.t 93) (.seq (.region [Kn 2 (.mov Kt)]) (.ret [2])) .skip))) (.region [Km 74 4,
 Kn 75 (.bin .add .num (.t 74) K1n),
 Km 4 75])))
def b11_1 : Cd := b11_1F
def b11_2F (c0 : Cd) (c1 : Cd) : Cd := (.seq (.seq (.region [Kn 3 (.mov K0)]) (.block 0 (.loop [3, 1] c0))) (.seq (.seq (.region [Kn 4 (.mov K0)]) (.block 2 (.loop [1, 4] c1))) (.seq (.region [Kn 2 (.mov Kf)]) (.ret [2]))))
def b11_2 : Cd := b11_2F b11_0 b11_1
def g11F (c2 : Cd) : Fn := ⟨94, [.t 2], [.s], .lit,
 (.seq (.region [Kn 1 (.box 34 14 (.t 0)),
 Kn 2 (.mov Kf)]) (.seq (.seq (.region [Kn 5 (.fad (.t 1) 4),
 Kn 6 (.load false 1 (.t 5)),
 Kn 7 (.len false (.t 6)),
 Kn 8 (.bin .gtr .num (.t 7) (.c (.sc (.int .i64 5)))),
 Km 9 8,
 ⟨some 10, .fad (.t 1) 5, some (9, false), 0, []⟩,
 ⟨some 11, .load false 1 (.t 10), some (9, false), 0, []⟩,
 ⟨some 12, .len false (.t 11), some (9, false), 0, []⟩,
 ⟨some 13, .bin .gtr .num (.t 12) (.c (.sc (.int .i64 40))), some (9, false), 0, []⟩,
 Kn 14 (.pick (.t 9) Kt (.t 13)),
 Km 15 14,
 ⟨some 16, .fad (.t 1) 6, some (15, false), 0, []⟩,
 ⟨some 17, .load false 1 (.t 16), some (15, false), 0, []⟩,
 ⟨some 18, .len false (.t 17), some (15, false), 0, []⟩,
 ⟨some 19, .bin .gtr .num (.t 18) (.c (.sc (.int .i64 80))), some (15, false), 0, []⟩,
 Kn 20 (.pick (.t 15) Kt (.t 19)),
 Km 21 20,
 ⟨some 22, .fad (.t 1) 8, some (21, false), 0, []⟩,
 ⟨some 23, .load false 1 (.t 22), some (21, false), 0, []⟩,
 ⟨some 24, .len false (.t 23), some (21, false), 0, []⟩,
 ⟨some 25, .bin .gtr .num (.t 24) (.c (.sc (.int .i64 100))), some (21, false), 0, []⟩,
 Kn 26 (.pick (.t 21) Kt (.t 25)),
 Km 27 26,
 ⟨some 28, .fad (.t 1) 9, some (27, false), 0, []⟩,
 ⟨some 29, .load false 1 (.t 28), some (27, false), 0, []⟩,
 ⟨some 30, .len false (.t 29), some (27, false), 0, []⟩,
 ⟨some 31, .bin .gtr .num (.t 30) (.c (.sc (.int .i64 20))), some (27, false), 0, []⟩,
 Kn 32 (.pick (.t 27) Kt (.t 31)),
 Km 33 32,
 ⟨some 34, .fad (.t 1) 10, some (33, false), 0, []⟩,
 ⟨some 35, .load false 1 (.t 34), some (33, false), 0, []⟩,
 ⟨some 36, .len false (.t 35), some (33, false), 0, []⟩,
 ⟨some 37, .bin .gtr .num (.t 36) (.c (.sc (.int .i64 40))), some (33, false), 0, []⟩,
 Kn 38 (.pick (.t 33) Kt (.t 37)),
 Km 39 38,
 ⟨some 40, .fad (.t 1) 7, some (39, false), 0, []⟩,
 ⟨some 41, .load false 1 (.t 40), some (39, false), 0, []⟩,
 ⟨some 42, .call 19 [.l 78] [.t 41], some (39, false), 0, []⟩,
 Kn 43 (.pick (.t 39) Kt (.t 42))]) (.cond (.t 43) (.seq (.region [Kn 2 (.mov Kt)]) (.ret [2])) .skip)) (.seg [1] [2] c2)))⟩
def g11 : Fn := g11F b11_2
theorem cmp11 : cmpFn Tryz.prog .lit [1000016] 11 = some g11 := by kernel_rfl
def b12_0F : Cd := (.seq (.seq (.region [Km 26 3,
 Kn 27 (.fad (.t 1) 10),
 Kn 28 (.load false 1 (.t 27)),
 Kn 29 (.len false (.t 28)),
 Kn 30 (.bin .lss .num (.t 26) (.t 29))]) (.cond (.t 30) .skip (.exit 0 []))) (.seq (.block 1 (.seq (.region [Kn 33 (.fad (.t 1) 10),
 Kn 34 (.load false 1 (.t 33)),
 Km 35 3,
 Kn 36 (.iadS 78 (.t 34) (.t 35)),
 Kn 37 (.fad (.t 36) 0),
 Kn 38 (.load false 1 (.t 37)),
 Kn 39 (.len true (.t 38)),
 Kn 40 (.bin .gtr .num (.t 39) (.c (.sc (.int .i64 300)))),
 Km 41 40,
 ⟨some 42, .fad (.t 1) 10, some (41, false), 0, []⟩,
 ⟨some 43, .load false 1 (.t 42), some (41, false), 0, []⟩,
 ⟨some 44, .mov (.t 3), some (41, false), 0, []⟩,
 ⟨some 45, .iadS 78 (.t 43) (.t 44), some (41, false), 0, []⟩,
 ⟨some 46, .fad (.t 45) 1, some (41, false), 0, []⟩,
 ⟨some 47, .load false 1 (.t 46), some (41, false), 0, []⟩,
 ⟨some 48, .len true (.t 47), some (41, false), 0, []⟩,
 ⟨some 49, .bin .gtr .num (.t 48) (.c (.sc (.int .i64 700))), some (41, false), 0, []⟩,
 Kn 50 (.pick (.t 41) Kt (.t 49))]) (.cond (.t 50) (.seq (.region [Kn 2 (.mov Kt)]) (.ret [2])) .skip))) (.region [Km 31 3,
 Kn 32 (.bin .add .num (.t 31) K1n),
 Km 3 32])))
def b12_0 : Cd := b12_0F
def g12F (c0 : Cd) : Fn := ⟨51, [.t 2], [.s], .lit,
 (.seq (.region [Kn 1 (.box 37 11 (.t 0)),
 Kn 2 (.mov Kf)]) (.seq (.seq (.region [Kn 4 (.fad (.t 1) 5),
 Kn 5 (.load false 1 (.t 4)),
 Kn 6 (.len true (.t 5)),
 Kn 7 (.bin .gtr .num (.t 6) (.c (.sc (.int .i64 300)))),
 Km 8 7,
 ⟨some 9, .fad (.t 1) 6, some (8, false), 0, []⟩,
 ⟨some 10, .load false 1 (.t 9), some (8, false), 0, []⟩,
 ⟨some 11, .len true (.t 10), some (8, false), 0, []⟩,
 ⟨some 12, .bin .gtr .num (.t 11) (.c (.sc (.int .i64 700))), some (8, false), 0, []⟩,
 Kn 13 (.pick (.t 8) Kt (.t 12)),
 Km 14 13,
 ⟨some 15, .fad (.t 1) 9, some (14, false), 0, []⟩,
 ⟨some 16, .load false 1 (.t 15), some (14, false), 0, []⟩,
 ⟨some 17, .len false (.t 16), some (14, false), 0, []⟩,
 ⟨some 18, .bin .gtr .num (.t 17) (.c (.sc (.int .i64 40))), some (14, false), 0, []⟩,
 Kn 19 (.pick (.t 14) Kt (.t 18)),
 Km 20 19,
 ⟨some 21, .fad (.t 1) 10, some (20, false), 0, []⟩,
 ⟨some 22, .load false 1 (.t 21), some (20, false), 0, []⟩,
 ⟨some 23, .len false (.t 22), some (20, false), 0, []⟩,
 ⟨some 24, .bin .gtr .num (.t 23) (.c (.sc (.int .i64 20))), some (20, false), 0, []⟩,
 Kn 25 (.pick (.t 20) Kt (.t 24))]) (.cond (.t 25) (.seq (.region [Kn 2 (.mov Kt)]) (.ret [2])) .skip)) (.seq (.seq (.region [Kn 3 (.mov K0)]) (.block 0 (.loop [1, 3] c0))) (.seq (.region [Kn 2 (.mov Kf)]) (.ret [2])))))⟩
def g12 : Fn := g12F b12_0
theorem cmp12 : cmpFn Tryz.prog .lit [1000016] 12 = some g12 := by kernel_rfl
def g13F : Fn := ⟨117, [.t 0], [.s], .lit,
 (.seq (.region [Kn 0 (.mov Kf)]) (.seq (.region [Kn 11 (.build [.sc (.int .u64 0), .sc (.int .u16 0)] [(0, 1, .c (.sc (.int .u64 9))), (1, 1, .c (.sc (.int .u16 1)))]),
 Kn 12 (.build [.sc (.int .u64 0), .sc (.int .u16 0), .sc (.int .i64 0), .sc (.bool false), .lit 0 true [], .lit 0 true [], .lit 0 true [], .lit 0 true [], .lit 0 true [], .lit 0 true [], .lit 0 true [], .sc (.int .u32 0), .sc (.int .i64 0), .sc (.int .i64 0)] [(0, 2, .t 11), (3, 1, .c (.sc (.bool true)))]),
 Kn 1 (.box 34 14 Kz),
 ⟨none, .store 14 (.t 1) (.t 12), none, 0, []⟩]) (.seq (.region [Kn 14 (.load true 14 (.t 1)),
 Kn 15 (.build [.sc (.int .i64 0), .sc (.int .u32 0), .sc (.int .u8 0), .sc (.bool false), .sc (.int .u64 0), .sc (.string ⟨#[]⟩), .sc (.string ⟨#[]⟩), .sc (.int .u64 0), .sc (.int .u16 0), .lit 0 true [], .lit 0 true []] [(0, 1, .c (.sc (.int .i64 11))), (1, 1, .c (.sc (.int .u32 5)))]),
 Kn 16 (.call 15 [Kh, .s, Kg] [.t 14, .c (.sc (.int .u16 3)), .t 15]),
 Km 13 16,
 Kn 17 (.ext (.t 13) 0),
 Kn 18 (.ext (.t 13) 1),
 Kn 2 (.box 34 14 Kz),
 ⟨none, .store 14 (.t 2) (.t 17), none, 0, []⟩,
 Km 3 18]) (.seq (.region [Kn 20 (.load true 14 (.t 1)),
 Kn 21 (.build [.sc (.int .u64 0), .sc (.int .u16 0)] [(0, 1, .c (.sc (.int .u64 4))), (1, 1, .c (.sc (.int .u16 3)))]),
 Kn 22 (.build [.sc (.int .i64 0), .sc (.int .u32 0), .sc (.int .u8 0), .sc (.bool false), .sc (.int .u64 0), .sc (.string ⟨#[]⟩), .sc (.string ⟨#[]⟩), .sc (.int .u64 0), .sc (.int .u16 0), .lit 0 true [], .lit 0 true []] [(0, 1, .c (.sc (.int .i64 5))), (7, 2, .t 21)]),
 Kn 23 (.call 15 [Kh, .s, Kg] [.t 20, .c (.sc (.int .u16 3)), .t 22]),
 Km 19 23,
 Kn 24 (.ext (.t 19) 0),
 Kn 25 (.ext (.t 19) 1),
 Kn 4 (.box 34 14 Kz),
 ⟨none, .store 14 (.t 4) (.t 24), none, 0, []⟩,
 Km 5 25]) (.seq (.region [Kn 27 (.load true 14 (.t 4)),
 Kn 28 (.call 20 [Kh, .s, .s] [.t 27, .c (.sc (.string ⟨#[107]⟩)), .c (.sc (.string ⟨#[118]⟩))]),
 Km 26 28,
 Kn 29 (.ext (.t 26) 0),
 Kn 30 (.ext (.t 26) 1),
 Kn 31 (.ext (.t 26) 2),
 Kn 6 (.box 34 14 Kz),
 ⟨none, .store 14 (.t 6) (.t 29), none, 0, []⟩,
 Km 7 30,
 Km 8 31]) (.seq (.region [Kn 33 (.load true 14 (.t 1)),
 Kn 34 (.build [.sc (.int .i64 0), .sc (.int .u32 0), .sc (.int .u8 0), .sc (.bool false), .sc (.int .u64 0), .sc (.string ⟨#[]⟩), .sc (.string ⟨#[]⟩), .sc (.int .u64 0), .sc (.int .u16 0), .lit 0 true [], .lit 0 true []] [(0, 1, .c (.sc (.int .i64 6)))]),
 Kn 35 (.call 15 [Kh, .s, Kg] [.t 33, .c (.sc (.int .u16 3)), .t 34]),
 Km 32 35,
 Kn 36 (.ext (.t 32) 0),
 Kn 37 (.ext (.t 32) 1),
 Kn 9 (.box 34 14 Kz),
 ⟨none, .store 14 (.t 9) (.t 36), none, 0, []⟩,
 Km 10 37]) (.seq (.region [Km 38 3,
 Kn 39 (.len false (.t 38)),
 Kn 40 (.bin .eql .num (.t 39) K1n),
 Km 41 40,
 ⟨some 42, .mov (.t 3), some (41, true), 0, []⟩,
 ⟨some 43, .iadS 56 (.t 42) K0, some (41, true), 0, []⟩,
 ⟨some 44, .fad (.t 43) 0, some (41, true), 0, []⟩,
 ⟨some 45, .fad (.t 44) 1, some (41, true), 0, []⟩,
 ⟨some 46, .load false 1 (.t 45), some (41, true), 0, []⟩,
 ⟨some 47, .bin .eql .num (.t 46) (.c (.sc (.int .u16 3))), some (41, true), 0, []⟩,
 Kn 48 (.pick (.t 41) (.t 47) Kf),
 Km 49 48,
 ⟨some 50, .mov (.t 3), some (49, true), 0, []⟩,
 ⟨some 51, .iadS 56 (.t 50) K0, some (49, true), 0, []⟩,
 ⟨some 52, .fad (.t 51) 2, some (49, true), 0, []⟩,
 ⟨some 53, .fad (.t 52) 0, some (49, true), 0, []⟩,
 ⟨some 54, .load false 1 (.t 53), some (49, true), 0, []⟩,
 ⟨some 55, .bin .eql .num (.t 54) (.c (.sc (.int .i64 6))), some (49, true), 0, []⟩,
 Kn 56 (.pick (.t 49) (.t 55) Kf),
 Km 57 56,
 ⟨some 58, .mov (.t 3), some (57, true), 0, []⟩,
 ⟨some 59, .iadS 56 (.t 58) K0, some (57, true), 0, []⟩,
 ⟨some 60, .fad (.t 59) 2, some (57, true), 0, []⟩,
 ⟨some 61, .fad (.t 60) 1, some (57, true), 0, []⟩,
 ⟨some 62, .load false 1 (.t 61), some (57, true), 0, []⟩,
 ⟨some 63, .bin .eql .num (.t 62) (.c (.sc (.int .u32 5))), some (57, true), 0, []⟩,
 Kn 64 (.pick (.t 57) (.t 63) Kf),
 Km 65 64,
 ⟨some 66, .fad (.t 4) 4, some (65, true), 0, []⟩,
 ⟨some 67, .load false 1 (.t 66), some (65, true), 0, []⟩,
 ⟨some 68, .len false (.t 67), some (65, true), 0, []⟩,
 ⟨some 69, .bin .eql .num (.t 68) K1n, some (65, true), 0, []⟩,
 Kn 70 (.pick (.t 65) (.t 69) Kf),
 Km 71 70,
 ⟨some 72, .fad (.t 4) 5, some (71, true), 0, []⟩,
 ⟨some 73, .load false 1 (.t 72), some (71, true), 0, []⟩,
 ⟨some 74, .len false (.t 73), some (71, true), 0, []⟩,
 ⟨some 75, .bin .eql .num (.t 74) K1n, some (71, true), 0, []⟩,
 Kn 76 (.pick (.t 71) (.t 75) Kf),
 Km 77 76,
 ⟨some 78, .mov (.t 5), some (77, true), 0, []⟩,
 ⟨some 79, .len false (.t 78), some (77, true), 0, []⟩,
 ⟨some 80, .bin .eql .num (.t 79) K1n, some (77, true), 0, []⟩,
 Kn 81 (.pick (.t 77) (.t 80) Kf),
 Km 82 81,
 ⟨some 83, .mov (.t 8), some (82, true), 0, []⟩,
 ⟨some 84, .bin .eql .num (.t 83) K0, some (82, true), 0, []⟩,
 Kn 85 (.pick (.t 82) (.t 84) Kf),
 Km 86 85,
 ⟨some 87, .fad (.t 6) 7, some (86, true), 0, []⟩,
 ⟨some 88, .load false 1 (.t 87), some (86, true), 0, []⟩,
 ⟨some 89, .len false (.t 88), some (86, true), 0, []⟩,
 ⟨some 90, .bin .eql .num (.t 89) K1n, some (86, true), 0, []⟩,
 Kn 91 (.pick (.t 86) (.t 90) Kf),
 Km 92 91,
 ⟨some 93, .mov (.t 7), some (92, true), 0, []⟩,
 ⟨some 94, .len false (.t 93), some (92, true), 0, []⟩,
 ⟨some 95, .bin .eql .num (.t 94) K1n, some (92, true), 0, []⟩,
 Kn 96 (.pick (.t 92) (.t 95) Kf),
 Km 97 96,
 ⟨some 98, .mov (.t 7), some (97, true), 0, []⟩,
 ⟨some 99, .iadS 56 (.t 98) K0, some (97, true), 0, []⟩,
 ⟨some 100, .fad (.t 99) 2, some (97, true), 0, []⟩,
 ⟨some 101, .fad (.t 100) 0, some (97, true), 0, []⟩,
 ⟨some 102, .load false 1 (.t 101), some (97, true), 0, []⟩,
 ⟨some 103, .bin .eql .num (.t 102) (.c (.sc (.int .i64 10))), some (97, true), 0, []⟩,
 Kn 104 (.pick (.t 97) (.t 103) Kf),
 Km 105 104,
 ⟨some 106, .mov (.t 7), some (105, true), 0, []⟩,
 ⟨some 107, .iadS 56 (.t 106) K0, some (105, true), 0, []⟩,
 ⟨some 108, .fad (.t 107) 2, some (105, true), 0, []⟩,
 ⟨some 109, .fad (.t 108) 3, some (105, true), 0, []⟩,
 ⟨some 110, .load false 1 (.t 109), some (105, true), 0, []⟩,
 Kn 111 (.pick (.t 105) (.t 110) Kf),
 Km 112 111,
 ⟨some 113, .mov (.t 10), some (112, true), 0, []⟩,
 ⟨some 114, .len false (.t 113), some (112, true), 0, []⟩,
 ⟨some 115, .bin .eql .num (.t 114) K0, some (112, true), 0, []⟩,
 Kn 116 (.pick (.t 112) (.t 115) Kf),
 Km 0 116]) (.ret [0]))))))))⟩
def g13 : Fn := g13F
theorem cmp13 : cmpFn Tryz.prog .lit [1000016] 13 = some g13 := by kernel_rfl
def g14F : Fn := ⟨32, [.cell 2 true 14], [Kh], .keep,
 (.seq (.region [Kn 1 (.box 34 14 (.t 0)),
 Kn 2 (.box 34 14 Kz)]) (.seq (.region [Kn 3 (.fad (.t 1) 4),
 Kn 4 (.load false 1 (.t 3)),
 ⟨some 5, .call 48 [.l 81] [.t 4], none, 1, []⟩,
 ⟨some 6, .fad (.t 1) 5, none, 2, []⟩,
 ⟨some 7, .load false 1 (.t 6), none, 2, []⟩,
 ⟨some 8, .call 48 [.l 81] [.t 7], none, 1, []⟩,
 ⟨some 9, .fad (.t 1) 6, none, 2, []⟩,
 ⟨some 10, .load false 1 (.t 9), none, 2, []⟩,
 ⟨some 11, .call 49 [.l 84] [.t 10], none, 1, []⟩,
 ⟨some 12, .fad (.t 1) 4, none, 2, []⟩,
 ⟨none, .store 1 (.t 12) (.t 5), none, 0, []⟩,
 Kn 13 (.fad (.t 1) 5),
 ⟨none, .store 1 (.t 13) (.t 8), none, 0, []⟩,
 Kn 14 (.fad (.t 1) 6),
 ⟨none, .store 1 (.t 14) (.t 11), none, 0, []⟩]) (.seq (.region [Kn 15 (.fad (.t 1) 7),
 Kn 16 (.load false 1 (.t 15)),
 ⟨some 17, .call 50 [.l 78] [.t 16], none, 1, []⟩,
 ⟨some 18, .fad (.t 1) 8, none, 2, []⟩,
 ⟨some 19, .load false 1 (.t 18), none, 2, []⟩,
 ⟨some 20, .call 51 [.l 88] [.t 19], none, 1, []⟩,
 ⟨some 21, .fad (.t 1) 7, none, 2, []⟩,
 ⟨none, .store 1 (.t 21) (.t 17), none, 0, []⟩,
 Kn 22 (.fad (.t 1) 8),
 ⟨none, .store 1 (.t 22) (.t 20), none, 0, []⟩]) (.seq (.region [Kn 23 (.fad (.t 1) 9),
 Kn 24 (.load false 1 (.t 23)),
 ⟨some 25, .call 52 [.l 67] [.t 24], none, 1, []⟩,
 ⟨some 26, .fad (.t 1) 10, none, 2, []⟩,
 ⟨some 27, .load false 1 (.t 26), none, 2, []⟩,
 ⟨some 28, .call 53 [.l 60] [.t 27], none, 1, []⟩,
 ⟨some 29, .fad (.t 1) 9, none, 2, []⟩,
 ⟨none, .store 1 (.t 29) (.t 25), none, 0, []⟩,
 Kn 30 (.fad (.t 1) 10),
 ⟨none, .store 1 (.t 30) (.t 28), none, 0, []⟩]) (.seq (.region [Kn 31 (.load true 14 (.t 1)),
 ⟨none, .store 14 (.t 2) (.t 31), none, 0, []⟩]) (.ret [2]))))))⟩
def g14 : Fn := g14F
theorem cmp14 : cmpFn Tryz.prog .keep [1000016] 14 = some g14 := by kernel_rfl
def g15F : Fn := ⟨59, [.cell 6 true 14, .t 7], [Kh, .l 56], .lit,
 (.seq (.region [Kn 3 (.box 34 14 (.t 0)),
 Kn 5 (.box 37 11 (.t 2)),
 Kn 6 (.box 34 14 Kz),
 Kn 7 (.nil 56)]) (.seq (.region [Kn 9 (.load true 14 (.t 3)),
 ⟨some 10, .callz 14 [Kh] [.t 9], none, 1, []⟩,
 Km 11 1,
 ⟨some 12, .load true 11 (.t 5), none, 2, []⟩,
 Kn 13 (.build [.sc (.int .u64 0), .sc (.int .u16 0), .sc (.int .i64 0), .sc (.bool false), .lit 0 true [], .lit 0 true [], .lit 0 true [], .lit 0 true [], .lit 0 true [], .lit 0 true [], .lit 0 true [], .sc (.int .u32 0), .sc (.int .i64 0), .sc (.int .i64 0), .sc (.int .u16 0), .sc (.int .i64 0), .sc (.int .u32 0), .sc (.int .u8 0), .sc (.bool false), .sc (.int .u64 0), .sc (.string ⟨#[]⟩), .sc (.string ⟨#[]⟩), .sc (.int .u64 0), .sc (.int .u16 0), .lit 0 true [], .lit 0 true [], .lit 0 true []] [(0, 14, .t 10), (14, 1, .t 11), (15, 11, .t 12)]),
 Kn 14 (.boxr 93 27 (.t 13) [(26, 56, true)]),
 Km 8 14]) (.seq (.seq (.region [Kn 15 (.fad (.t 5) 0),
 Kn 16 (.load false 1 (.t 15)),
 Kn 17 (.call 54 [.s] [.t 16]),
 Kn 18 (.un .not (.t 17))]) (.cond (.t 18) (.seq (.region [Km 19 8,
 Kn 20 (.nck (.t 19)),
 Kn 21 (.fad (.t 20) 0),
 Kn 22 (.load true 14 (.t 21)),
 ⟨none, .store 14 (.t 6) (.t 22), none, 0, []⟩,
 Kn 7 (.nil 56)]) (.ret [6, 7])) .skip)) (.seq (.seq (.region [Kn 23 (.fad (.t 5) 0),
 Kn 24 (.load false 1 (.t 23))]) (.block 0 (.seq (.region [Kn 28 (.bin .eql .num (.t 24) K1n),
 Km 27 28]) (.cond (.t 27) (.region [Km 29 8,
 Kn 30 (.call 55 [.s] [.t 29])]) (.seq (.region [Kn 32 (.bin .eql .num (.t 24) (.c (.sc (.int .i64 3)))),
 Km 31 32]) (.cond (.t 31) (.region [Km 33 8,
 Kn 34 (.call 56 [.s] [.t 33])]) (.seq (.region [Kn 36 (.bin .eql .num (.t 24) (.c (.sc (.int .i64 5)))),
 Km 35 36]) (.cond (.t 35) (.region [Km 37 8,
 Kn 38 (.call 57 [.s] [.t 37])]) (.seq (.region [Kn 40 (.bin .eql .num (.t 24) (.c (.sc (.int .i64 7)))),
 Km 39 40]) (.cond (.t 39) (.region [Km 41 8,
 Kn 42 (.call 58 [.s] [.t 41])]) (.seq (.region [Kn 44 (.bin .eql .num (.t 24) (.c (.sc (.int .i64 8)))),
 Km 43 44]) (.cond (.t 43) (.region [Km 45 8,
 Kn 46 (.call 59 [.s] [.t 45])]) (.seq (.region [Kn 48 (.bin .eql .num (.t 24) (.c (.sc (.int .i64 10)))),
 Km 47 48]) (.cond (.t 47) (.region [Km 49 8,
 Kn 50 (.call 60 [.s] [.t 49])]) (.region [Km 25 8,
 Kn 26 (.call 61 [.s] [.t 25])]))))))))))))))) (.seq (.region [Km 51 8,
 Kn 52 (.nck (.t 51)),
 Kn 53 (.fad (.t 52) 0),
 Kn 54 (.load true 14 (.t 53)),
 Km 55 8,
 ⟨some 56, .nck (.t 55), none, 2, []⟩,
 ⟨some 57, .fad (.t 56) 26, none, 2, []⟩,
 ⟨some 58, .load false 1 (.t 57), none, 2, []⟩,
 ⟨none, .store 14 (.t 6) (.t 54), none, 1, []⟩,
 Km 7 58]) (.ret [6, 7]))))))⟩
def g15 : Fn := g15F
theorem cmp15 : cmpFn Tryz.prog .lit [1000016, 10, 100000285200113, 1000700056] 15 = some g15 := by kernel_rfl
def b16_0F : Cd := (.seq (.seq (.region [Kn 46 (.fad (.t 5) 0),
 Kn 47 (.load false 1 (.t 46)),
 Kn 48 (.bin .eql .num (.t 47) K1n)]) (.cond (.t 48) (.seq (.region [Kn 50 (.load true 14 (.t 3)),
 Kn 51 (.fad (.t 5) 4),
 Kn 52 (.load false 1 (.t 51)),
 Kn 53 (.call 63 [Kh, .s] [.t 50, .t 52]),
 Km 49 53,
 Kn 54 (.ext (.t 49) 0),
 Kn 55 (.ext (.t 49) 1),
 Kn 56 (.ext (.t 49) 2),
 Kn 9 (.box 25 2 (.c (.agg [.sc (.int .u64 0), .sc (.int .u16 0)]))),
 ⟨none, .store 2 (.t 9) (.t 54), none, 0, []⟩,
 Km 10 55,
 Km 11 56]) (.seq (.seq (.region [Km 57 11]) (.cond (.t 57) (.region [Kn 58 (.load true 2 (.t 9)),
 Kn 59 (.bsl 25 2 (.a [.s, .s]) [.t 58]),
 Km 10 59]) .skip)) (.seq (.region [⟨some 60, .load true 14 (.t 3), none, 2, []⟩,
 Km 61 1,
 Kn 62 (.fad (.t 5) 1),
 Kn 63 (.load false 1 (.t 62)),
 Km 64 11,
 Km 65 10,
 Kn 66 (.build [.sc (.int .i64 0), .sc (.int .u32 0), .sc (.int .u8 0), .sc (.bool false), .sc (.int .u64 0), .sc (.string ⟨#[]⟩), .sc (.string ⟨#[]⟩), .sc (.int .u64 0), .sc (.int .u16 0), .lit 0 true [], .lit 0 true []] [(0, 1, .c (.sc (.int .i64 2))), (3, 1, .t 64), (9, 1, .t 65)]),
 ⟨some 67, .call 62 [.s, .s, Kg] [.t 61, .t 63, .t 66], none, 1, []⟩,
 ⟨none, .store 14 (.t 6) (.t 60), none, 0, []⟩,
 Km 7 67]) (.ret [6, 7])))) .skip)) (.seq (.seq (.region [Kn 68 (.fad (.t 5) 0),
 Kn 69 (.load false 1 (.t 68)),
 Kn 70 (.bin .eql .num (.t 69) (.c (.sc (.int .i64 3))))]) (.cond (.t 70) (.seq (.region [Kn 71 (.fad (.t 3) 5),
 Kn 72 (.load false 1 (.t 71)),
 Kn 73 (.call 64 [.l 81] [.t 72]),
 Km 12 73]) (.seq (.seq (.region [Km 74 12,
 Kn 75 (.len false (.t 74)),
 Kn 76 (.bin .gtr .num (.t 75) (.c (.sc (.int .i64 16))))]) (.cond (.t 76) (.region [Km 77 12,
 Kn 78 (.sls 25 (.t 77) none (some (.c (.sc (.int .i64 16))))),
 Km 12 78]) .skip)) (.seq (.region [Km 79 12,
 Kn 80 (.build [.sc (.int .i64 0), .sc (.int .u32 0), .sc (.int .u8 0), .sc (.bool false), .sc (.int .u64 0), .sc (.string ⟨#[]⟩), .sc (.string ⟨#[]⟩), .sc (.int .u64 0), .sc (.int .u16 0), .lit 0 true [], .lit 0 true []] [(0, 1, .c (.sc (.int .i64 4))), (9, 1, .t 79)]),
 Kn 13 (.box 37 11 Ky),
 ⟨none, .store 11 (.t 13) (.t 80), none, 0, []⟩]) (.seq (.seq (.region [Kn 81 (.fad (.t 3) 4),
 Kn 82 (.load false 1 (.t 81)),
 Kn 83 (.len false (.t 82)),
 Kn 84 (.bin .gtr .num (.t 83) K0)]) (.cond (.t 84) (.seq (.region [Kn 85 (.fad (.t 13) 3),
 ⟨none, .store 1 (.t 85) Kt, none, 0, []⟩]) (.region [Kn 86 (.fad (.t 3) 4),
 Kn 87 (.load false 1 (.t 86)),
 Kn 88 (.iadS 81 (.t 87) K0),
 Kn 89 (.fad (.t 88) 0),
 Kn 90 (.load true 2 (.t 89)),
 Kn 91 (.fad (.t 13) 7),
 ⟨none, .store 2 (.t 91) (.t 90), none, 0, []⟩])) .skip)) (.seq (.region [⟨some 92, .load true 14 (.t 3), none, 2, []⟩,
 Km 93 1,
 Kn 94 (.fad (.t 5) 1),
 Kn 95 (.load false 1 (.t 94)),
 Kn 96 (.load true 11 (.t 13)),
 ⟨some 97, .call 62 [.s, .s, Kg] [.t 93, .t 95, .t 96], none, 1, []⟩,
 ⟨none, .store 14 (.t 6) (.t 92), none, 0, []⟩,
 Km 7 97]) (.ret [6, 7])))))) .skip)) (.seq (.seq (.region [Kn 98 (.fad (.t 5) 0),
 Kn 99 (.load false 1 (.t 98)),
 Kn 100 (.bin .eql .num (.t 99) (.c (.sc (.int .i64 5))))]) (.cond (.t 100) (.seq (.region [Kn 102 (.load true 14 (.t 3)),
 Km 103 1,
 Kn 104 (.fad (.t 5) 7),
 Kn 105 (.load true 2 (.t 104)),
 Kn 106 (.call 65 [Kh, .s, .a [.s, .s]] [.t 102, .t 103, .t 105]),
 Km 101 106,
 Kn 107 (.ext (.t 101) 0),
 Kn 108 (.ext (.t 101) 1),
 Kn 14 (.box 34 14 Kz),
 ⟨none, .store 14 (.t 14) (.t 107), none, 0, []⟩,
 Km 15 108]) (.seq (.region [⟨some 109, .load true 14 (.t 14), none, 2, []⟩,
 Km 110 8,
 Km 111 15,
 ⟨some 112, .app 56 136 (.t 110) (.t 111), none, 1, []⟩,
 ⟨none, .store 14 (.t 6) (.t 109), none, 0, []⟩,
 Km 7 112]) (.ret [6, 7]))) .skip)) (.seq (.seq (.region [Kn 113 (.fad (.t 5) 0),
 Kn 114 (.load false 1 (.t 113)),
 Kn 115 (.bin .eql .num (.t 114) (.c (.sc (.int .i64 10))))]) (.cond (.t 115) (.seq (.region [Kn 116 (.fad (.t 3) 7),
 Kn 117 (.load false 1 (.t 116)),
 Kn 118 (.fad (.t 5) 10),
 Kn 119 (.load false 1 (.t 118)),
 Kn 120 (.fad (.t 5) 3),
 Kn 121 (.load false 1 (.t 120)),
 Kn 122 (.call 66 [.l 78, .l 78, .s] [.t 117, .t 119, .t 121]),
 Kn 123 (.fad (.t 3) 7),
 ⟨none, .store 1 (.t 123) (.t 122), none, 0, []⟩]) (.seq (.region [Kn 124 (.load true 14 (.t 3)),
 Km 125 8,
 ⟨none, .store 14 (.t 6) (.t 124), none, 0, []⟩,
 Km 7 125]) (.ret [6, 7]))) .skip)) (.seq (.seq (.region [Kn 126 (.fad (.t 5) 0),
 Kn 127 (.load false 1 (.t 126)),
 Kn 128 (.bin .eql .num (.t 127) (.c (.sc (.int .i64 11))))]) (.cond (.t 128) (.seq (.region [Kn 129 (.load true 14 (.t 3)),
 Km 130 8,
 ⟨none, .store 14 (.t 6) (.t 129), none, 0, []⟩,
 Km 7 130]) (.ret [6, 7])) .skip)) (.seq (.region [Kn 131 (.load true 14 (.t 3)),
 Kn 132 (.fad (.t 5) 5),
 Kn 133 (.load false 1 (.t 132)),
 Kn 134 (.call 67 [Kh, .s] [.t 131, .t 133]),
 Km 16 134]) (.seq (.seq (.region [Km 135 16,
 Kn 136 (.bin .eql .num (.t 135) K0),
 Km 137 136,
 ⟨some 138, .fad (.t 5) 0, some (137, true), 0, []⟩,
 ⟨some 139, .load false 1 (.t 138), some (137, true), 0, []⟩,
 ⟨some 140, .bin .eql .num (.t 139) (.c (.sc (.int .i64 8))), some (137, true), 0, []⟩,
 Kn 141 (.pick (.t 137) (.t 140) Kf)]) (.cond (.t 141) (.seq (.region [Kn 143 (.fad (.t 3) 7),
 Kn 144 (.load false 1 (.t 143)),
 Kn 145 (.fad (.t 5) 5),
 Kn 146 (.load false 1 (.t 145)),
 Kn 147 (.call 68 [.l 78, .s] [.t 144, .t 146]),
 Km 142 147,
 Kn 148 (.ext (.t 142) 0),
 Kn 149 (.ext (.t 142) 1),
 Km 17 148,
 Km 18 149]) (.seq (.region [⟨some 150, .load true 14 (.t 3), none, 2, []⟩,
 Km 151 1,
 Kn 152 (.fad (.t 5) 1),
 Kn 153 (.load false 1 (.t 152)),
 Km 154 18,
 Km 155 17,
 Kn 156 (.build [.sc (.int .i64 0), .sc (.int .u32 0), .sc (.int .u8 0), .sc (.bool false), .sc (.int .u64 0), .sc (.string ⟨#[]⟩), .sc (.string ⟨#[]⟩), .sc (.int .u64 0), .sc (.int .u16 0), .lit 0 true [], .lit 0 true []] [(0, 1, .c (.sc (.int .i64 9))), (3, 1, .t 154), (6, 1, .t 155)]),
 ⟨some 157, .call 62 [.s, .s, Kg] [.t 151, .t 153, .t 156], none, 1, []⟩,
 ⟨none, .store 14 (.t 6) (.t 150), none, 0, []⟩,
 Km 7 157]) (.ret [6, 7]))) .skip)) (.seq (.seq (.region [Km 158 16,
 Kn 159 (.bin .eql .num (.t 158) K0)]) (.cond (.t 159) (.seq (.region [Kn 161 (.load true 14 (.t 3)),
 Kn 162 (.fad (.t 5) 5),
 Kn 163 (.load false 1 (.t 162)),
 Kn 164 (.fad (.t 5) 6),
 Kn 165 (.load false 1 (.t 164)),
 Kn 166 (.call 21 [Kh, .s, .s] [.t 161, .t 163, .t 165]),
 Km 160 166,
 Kn 167 (.ext (.t 160) 0),
 Kn 168 (.ext (.t 160) 1),
 Kn 169 (.ext (.t 160) 2),
 Kn 19 (.box 34 14 Kz),
 ⟨none, .store 14 (.t 19) (.t 167), none, 0, []⟩,
 Km 20 168,
 Km 21 169]) (.seq (.seq (.region [Km 170 21,
 Kn 171 (.bin .eql .num (.t 170) K0)]) (.cond (.t 171) (.seq (.region [⟨some 172, .load true 14 (.t 19), none, 2, []⟩,
 Km 173 8,
 Km 174 20,
 ⟨some 175, .app 56 136 (.t 173) (.t 174), none, 1, []⟩,
 ⟨none, .store 14 (.t 6) (.t 172), none, 0, []⟩,
 Km 7 175]) (.ret [6, 7])) .skip)) (.region [Km 176 21,
 Km 16 176]))) .skip)) (.seq (.region [⟨some 177, .load true 14 (.t 3), none, 2, []⟩,
 Km 178 1,
 Kn 179 (.fad (.t 5) 1),
 Kn 180 (.load false 1 (.t 179)),
 Km 181 16,
 Kn 182 (.conv .u8 (.t 181)),
 Kn 183 (.build [.sc (.int .i64 0), .sc (.int .u32 0), .sc (.int .u8 0), .sc (.bool false), .sc (.int .u64 0), .sc (.string ⟨#[]⟩), .sc (.string ⟨#[]⟩), .sc (.int .u64 0), .sc (.int .u16 0), .lit 0 true [], .lit 0 true []] [(0, 1, .c (.sc (.int .i64 12))), (2, 1, .t 182)]),
 ⟨some 184, .call 62 [.s, .s, Kg] [.t 178, .t 180, .t 183], none, 1, []⟩,
 ⟨none, .store 14 (.t 6) (.t 177), none, 0, []⟩,
 Km 7 184]) (.ret [6, 7]))))))))))
def b16_0 : Cd := b16_0F
def g16F (c0 : Cd) : Fn := ⟨185, [.cell 6 true 14, .t 7], [Kh, .l 56], .lit,
 (.seq (.region [Kn 3 (.box 34 14 (.t 0)),
 Kn 5 (.box 37 11 (.t 2)),
 Kn 6 (.box 34 14 Kz),
 Kn 7 (.nil 56)]) (.seq (.seq (.region [Kn 22 (.fad (.t 5) 0),
 Kn 23 (.load false 1 (.t 22)),
 Kn 24 (.call 39 [.s] [.t 23]),
 Kn 25 (.un .not (.t 24))]) (.cond (.t 25) (.seq (.region [Kn 26 (.load true 14 (.t 3)),
 ⟨none, .store 14 (.t 6) (.t 26), none, 0, []⟩,
 Kn 7 (.nil 56)]) (.ret [6, 7])) .skip)) (.seq (.region [Km 27 1,
 Kn 28 (.fad (.t 5) 1),
 Kn 29 (.load false 1 (.t 28)),
 Kn 30 (.build [.sc (.int .i64 0), .sc (.int .u32 0), .sc (.int .u8 0), .sc (.bool false), .sc (.int .u64 0), .sc (.string ⟨#[]⟩), .sc (.string ⟨#[]⟩), .sc (.int .u64 0), .sc (.int .u16 0), .lit 0 true [], .lit 0 true []] [(0, 1, .c (.sc (.int .i64 6)))]),
 Kn 31 (.call 62 [.s, .s, Kg] [.t 27, .t 29, .t 30]),
 Km 8 31]) (.seq (.seq (.region [Kn 32 (.fad (.t 5) 0),
 Kn 33 (.load false 1 (.t 32)),
 Kn 34 (.bin .eql .num (.t 33) K1n),
 Km 35 34,
 ⟨some 36, .fad (.t 3) 3, some (35, true), 0, []⟩,
 ⟨some 37, .load false 1 (.t 36), some (35, true), 0, []⟩,
 ⟨some 38, .un .not (.t 37), some (35, true), 0, []⟩,
 Kn 39 (.pick (.t 35) (.t 38) Kf)]) (.cond (.t 39) (.seq (.region [⟨some 40, .load true 14 (.t 3), none, 2, []⟩,
 Km 41 1,
 Kn 42 (.fad (.t 5) 1),
 Kn 43 (.load false 1 (.t 42)),
 Kn 44 (.build [.sc (.int .i64 0), .sc (.int .u32 0), .sc (.int .u8 0), .sc (.bool false), .sc (.int .u64 0), .sc (.string ⟨#[]⟩), .sc (.string ⟨#[]⟩), .sc (.int .u64 0), .sc (.int .u16 0), .lit 0 true [], .lit 0 true []] [(0, 1, .c (.sc (.int .i64 12))), (2, 1, .c (.sc (.int .u8 17)))]),
 ⟨some 45, .call 62 [.s, .s, Kg] [.t 41, .t 43, .t 44], none, 1, []⟩,
 ⟨none, .store 14 (.t 6) (.t 40), none, 0, []⟩,
 Km 7 45]) (.ret [6, 7])) .skip)) (.seg [8, 3, 1, 5, 6] [6, 7] c0)))))⟩
def g16 : Fn := g16F b16_0
theorem cmp16 : cmpFn Tryz.prog .lit [1000200, 1000700056] 16 = some g16 := by kernel_rfl
def b17_0F : Cd := (.seq (.region [Kn 67 (.fad (.t 2) 7),
 Kn 68 (.load false 1 (.t 67)),
 Kn 69 (.fad (.t 3) 7),
 Kn 70 (.load false 1 (.t 69)),
 Kn 71 (.call 71 [.l 78, .l 78] [.t 68, .t 70]),
 Km 72 71,
 ⟨some 73, .fad (.t 2) 8, some (72, true), 0, []⟩,
 ⟨some 74, .load false 1 (.t 73), some (72, true), 0, []⟩,
 ⟨some 75, .fad (.t 3) 8, some (72, true), 0, []⟩,
 ⟨some 76, .load false 1 (.t 75), some (72, true), 0, []⟩,
 ⟨some 77, .call 72 [.l 88, .l 88] [.t 74, .t 76], some (72, true), 0, []⟩,
 Kn 78 (.pick (.t 72) (.t 77) Kf),
 Km 79 78,
 ⟨some 80, .load true 14 (.t 2), some (79, true), 0, []⟩,
 ⟨some 81, .load true 14 (.t 3), some (79, true), 0, []⟩,
 ⟨some 82, .call 73 [Kh, Kh] [.t 80, .t 81], some (79, true), 0, []⟩,
 Kn 83 (.pick (.t 79) (.t 82) Kf),
 Km 4 83]) (.ret [4]))
def b17_0 : Cd := b17_0F
def b17_1F (c0 : Cd) : Cd := (.seq (.seq (.region [Kn 45 (.fad (.t 2) 4),
 Kn 46 (.load false 1 (.t 45)),
 Kn 47 (.fad (.t 3) 4),
 Kn 48 (.load false 1 (.t 47)),
 Kn 49 (.call 69 [.l 81, .l 81] [.t 46, .t 48]),
 Kn 50 (.un .not (.t 49)),
 Km 51 50,
 ⟨some 52, .fad (.t 2) 5, some (51, false), 0, []⟩,
 ⟨some 53, .load false 1 (.t 52), some (51, false), 0, []⟩,
 ⟨some 54, .fad (.t 3) 5, some (51, false), 0, []⟩,
 ⟨some 55, .load false 1 (.t 54), some (51, false), 0, []⟩,
 ⟨some 56, .call 69 [.l 81, .l 81] [.t 53, .t 55], some (51, false), 0, []⟩,
 ⟨some 57, .un .not (.t 56), some (51, false), 0, []⟩,
 Kn 58 (.pick (.t 51) Kt (.t 57)),
 Km 59 58,
 ⟨some 60, .fad (.t 2) 6, some (59, false), 0, []⟩,
 ⟨some 61, .load false 1 (.t 60), some (59, false), 0, []⟩,
 ⟨some 62, .fad (.t 3) 6, some (59, false), 0, []⟩,
 ⟨some 63, .load false 1 (.t 62), some (59, false), 0, []⟩,
 ⟨some 64, .call 70 [.l 84, .l 84] [.t 61, .t 63], some (59, false), 0, []⟩,
 ⟨some 65, .un .not (.t 64), some (59, false), 0, []⟩,
 Kn 66 (.pick (.t 59) Kt (.t 65))]) (.cond (.t 66) (.seq (.region [Kn 4 (.mov Kf)]) (.ret [4])) .skip)) (.seg [2, 3] [4] c0))
def b17_1 : Cd := b17_1F b17_0
def g17F (c1 : Cd) : Fn := ⟨84, [.t 4], [.s], .lit,
 (.seq (.region [Kn 2 (.box 34 14 (.t 0)),
 Kn 3 (.box 34 14 (.t 1)),
 Kn 4 (.mov Kf)]) (.seq (.seq (.region [Kn 5 (.fad (.t 2) 0),
 Kn 6 (.load true 2 (.t 5)),
 Kn 7 (.fad (.t 3) 0),
 Kn 8 (.load true 2 (.t 7)),
 Kn 9 (.eqs true [.num, .num] (.t 6) (.t 8)),
 Km 10 9,
 ⟨some 11, .fad (.t 2) 2, some (10, false), 0, []⟩,
 ⟨some 12, .load false 1 (.t 11), some (10, false), 0, []⟩,
 ⟨some 13, .fad (.t 3) 2, some (10, false), 0, []⟩,
 ⟨some 14, .load false 1 (.t 13), some (10, false), 0, []⟩,
 ⟨some 15, .bin .neq .num (.t 12) (.t 14), some (10, false), 0, []⟩,
 Kn 16 (.pick (.t 10) Kt (.t 15)),
 Km 17 16,
 ⟨some 18, .fad (.t 2) 3, some (17, false), 0, []⟩,
 ⟨some 19, .load false 1 (.t 18), some (17, false), 0, []⟩,
 ⟨some 20, .fad (.t 3) 3, some (17, false), 0, []⟩,
 ⟨some 21, .load false 1 (.t 20), some (17, false), 0, []⟩,
 ⟨some 22, .bin .neq .bool (.t 19) (.t 21), some (17, false), 0, []⟩,
 Kn 23 (.pick (.t 17) Kt (.t 22)),
 Km 24 23,
 ⟨some 25, .fad (.t 2) 11, some (24, false), 0, []⟩,
 ⟨some 26, .load false 1 (.t 25), some (24, false), 0, []⟩,
 ⟨some 27, .fad (.t 3) 11, some (24, false), 0, []⟩,
 ⟨some 28, .load false 1 (.t 27), some (24, false), 0, []⟩,
 ⟨some 29, .bin .neq .num (.t 26) (.t 28), some (24, false), 0, []⟩,
 Kn 30 (.pick (.t 24) Kt (.t 29)),
 Km 31 30,
 ⟨some 32, .fad (.t 2) 12, some (31, false), 0, []⟩,
 ⟨some 33, .load false 1 (.t 32), some (31, false), 0, []⟩,
 ⟨some 34, .fad (.t 3) 12, some (31, false), 0, []⟩,
 ⟨some 35, .load false 1 (.t 34), some (31, false), 0, []⟩,
 ⟨some 36, .bin .neq .num (.t 33) (.t 35), some (31, false), 0, []⟩,
 Kn 37 (.pick (.t 31) Kt (.t 36)),
 Km 38 37,
 ⟨some 39, .fad (.t 2) 13, some (38, false), 0, []⟩,
 ⟨some 40, .load false 1 (.t 39), some (38, false), 0, []⟩,
 ⟨some 41, .fad (.t 3) 13, some (38, false), 0, []⟩,
 ⟨some 42, .load false 1 (.t 41), some (38, false), 0, []⟩,
 ⟨some 43, .bin .neq .num (.t 40) (.t 42), some (38, false), 0, []⟩,
 Kn 44 (.pick (.t 38) Kt (.t 43))]) (.cond (.t 44) (.seq (.region [Kn 4 (.mov Kf)]) (.ret [4])) .skip)) (.seg [2, 3] [4] c1)))⟩
def g17 : Fn := g17F b17_1
theorem cmp17 : cmpFn Tryz.prog .lit [1000016] 17 = some g17 := by kernel_rfl
def b18_0F : Cd := (.seq (.seq (.region [Km 11 5,
 Km 12 0,
 Kn 13 (.len false (.t 12)),
 Kn 14 (.bin .lss .num (.t 11) (.t 13))]) (.cond (.t 14) .skip (.exit 0 []))) (.seq (.block 1 (.seq (.region [Km 17 0,
 Km 18 5,
 Kn 19 (.iadS 56 (.t 17) (.t 18)),
 Kn 20 (.fad (.t 19) 0),
 Kn 21 (.load true 2 (.t 20)),
 Km 22 1,
 Km 23 5,
 Kn 24 (.iadS 56 (.t 22) (.t 23)),
 Kn 25 (.fad (.t 24) 0),
 Kn 26 (.load true 2 (.t 25)),
 Kn 27 (.eqs true [.num, .num] (.t 21) (.t 26)),
 Km 28 27,
 ⟨some 29, .mov (.t 0), some (28, false), 0, []⟩,
 ⟨some 30, .mov (.t 5), some (28, false), 0, []⟩,
 ⟨some 31, .iadS 56 (.t 29) (.t 30), some (28, false), 0, []⟩,
 ⟨some 32, .fad (.t 31) 2, some (28, false), 0, []⟩,
 ⟨some 33, .load true 11 (.t 32), some (28, false), 0, []⟩,
 ⟨some 34, .mov (.t 1), some (28, false), 0, []⟩,
 ⟨some 35, .mov (.t 5), some (28, false), 0, []⟩,
 ⟨some 36, .iadS 56 (.t 34) (.t 35), some (28, false), 0, []⟩,
 ⟨some 37, .fad (.t 36) 2, some (28, false), 0, []⟩,
 ⟨some 38, .load true 11 (.t 37), some (28, false), 0, []⟩,
 ⟨some 39, .call 74 [Kg, Kg] [.t 33, .t 38], some (28, false), 0, []⟩,
 ⟨some 40, .un .not (.t 39), some (28, false), 0, []⟩,
 Kn 41 (.pick (.t 28) Kt (.t 40))]) (.cond (.t 41) (.seq (.region [Kn 4 (.mov Kf)]) (.ret [4])) .skip))) (.region [Km 15 5,
 Kn 16 (.bin .add .num (.t 15) K1n),
 Km 5 16])))
def b18_0 : Cd := b18_0F
def g18F (c0 : Cd) : Fn := ⟨42, [.t 4], [.s], .lit,
 (.seq (.region [Kn 4 (.mov Kf)]) (.seq (.seq (.region [Km 6 0,
 Kn 7 (.len false (.t 6)),
 Km 8 1,
 Kn 9 (.len false (.t 8)),
 Kn 10 (.bin .neq .num (.t 7) (.t 9))]) (.cond (.t 10) (.seq (.region [Kn 4 (.mov Kf)]) (.ret [4])) .skip)) (.seq (.seq (.region [Kn 5 (.mov K0)]) (.block 0 (.loop [0, 1, 5] c0))) (.seq (.region [Kn 4 (.mov Kt)]) (.ret [4])))))⟩
def g18 : Fn := g18F b18_0
theorem cmp18 : cmpFn Tryz.prog .lit [1000016] 18 = some g18 := by kernel_rfl
def b19_0F : Cd := (.seq (.seq (.region [Km 7 3,
 Km 8 0,
 Kn 9 (.len false (.t 8)),
 Kn 10 (.bin .lss .num (.t 7) (.t 9))]) (.cond (.t 10) .skip (.exit 0 []))) (.seq (.block 1 (.seq (.region [Km 13 0,
 Km 14 3,
 Kn 15 (.iadS 78 (.t 13) (.t 14)),
 Kn 16 (.fad (.t 15) 0),
 Kn 17 (.load false 1 (.t 16)),
 Kn 18 (.len true (.t 17)),
 Kn 19 (.bin .gtr .num (.t 18) (.c (.sc (.int .i64 300)))),
 Km 20 19,
 ⟨some 21, .mov (.t 0), some (20, false), 0, []⟩,
 ⟨some 22, .mov (.t 3), some (20, false), 0, []⟩,
 ⟨some 23, .iadS 78 (.t 21) (.t 22), some (20, false), 0, []⟩,
 ⟨some 24, .fad (.t 23) 1, some (20, false), 0, []⟩,
 ⟨some 25, .load false 1 (.t 24), some (20, false), 0, []⟩,
 ⟨some 26, .len true (.t 25), some (20, false), 0, []⟩,
 ⟨some 27, .bin .gtr .num (.t 26) (.c (.sc (.int .i64 700))), some (20, false), 0, []⟩,
 Kn 28 (.pick (.t 20) Kt (.t 27))]) (.cond (.t 28) (.seq (.region [Kn 2 (.mov Kt)]) (.ret [2])) .skip))) (.region [Km 11 3,
 Kn 12 (.bin .add .num (.t 11) K1n),
 Km 3 12])))
def b19_0 : Cd := b19_0F
def g19F (c0 : Cd) : Fn := ⟨29, [.t 2], [.s], .lit,
 (.seq (.region [Kn 2 (.mov Kf)]) (.seq (.seq (.region [Km 4 0,
 Kn 5 (.len false (.t 4)),
 Kn 6 (.bin .gtr .num (.t 5) (.c (.sc (.int .i64 100))))]) (.cond (.t 6) (.seq (.region [Kn 2 (.mov Kt)]) (.ret [2])) .skip)) (.seq (.seq (.region [Kn 3 (.mov K0)]) (.block 0 (.loop [0, 3] c0))) (.seq (.region [Kn 2 (.mov Kf)]) (.ret [2])))))⟩
def g19 : Fn := g19F b19_0
theorem cmp19 : cmpFn Tryz.prog .lit [1000016] 19 = some g19 := by kernel_rfl
def b20_0F : Cd := (.seq (.region [Kn 43 (.bin .lss .num (.t 42) (.t 41))]) (.seq (.cond (.t 43) .skip (.exit 0 [3, 12, 6])) (.seq (.block 1 (.seq (.region [Kn 44 (.iadS 25 (.t 40) (.t 42)),
 Kn 45 (.load true 2 (.t 44)),
 Kn 14 (.box 25 2 (.c (.agg [.sc (.int .u64 0), .sc (.int .u16 0)]))),
 ⟨none, .store 2 (.t 14) (.t 45), none, 0, []⟩]) (.seq (.region [Kn 47 (.load true 14 (.t 3)),
 Kn 48 (.load true 2 (.t 14)),
 Km 49 1,
 Km 50 2,
 Kn 51 (.build [.sc (.string ⟨#[]⟩), .sc (.string ⟨#[]⟩)] [(0, 1, .t 49), (1, 1, .t 50)]),
 Kn 52 (.bsl 78 2 (.a [.s, .s]) [.t 51]),
 Kn 53 (.call 22 [Kh, .a [.s, .s], .l 78, .s] [.t 47, .t 48, .t 52, .c (.sc (.bool true))]),
 Km 46 53,
 Kn 54 (.ext (.t 46) 0),
 Kn 55 (.ext (.t 46) 1),
 Kn 15 (.box 34 14 Kz),
 ⟨none, .store 14 (.t 15) (.t 54), none, 0, []⟩,
 Km 16 55]) (.region [⟨some 56, .load true 14 (.t 15), none, 2, []⟩,
 Km 57 12,
 Km 58 16,
 ⟨some 59, .app 56 136 (.t 57) (.t 58), none, 1, []⟩,
 ⟨none, .store 14 (.t 3) (.t 56), none, 0, []⟩,
 Km 12 59])))) (.region [Kn 60 (.bin .add .num (.t 42) K1n),
 Km 42 60]))))
def b20_0 : Cd := b20_0F
def g20F (c0 : Cd) : Fn := ⟨63, [.cell 6 true 14, .t 7, .t 8], [Kh, .l 56, .s], .lit,
 (.seq (.region [Kn 3 (.box 34 14 (.t 0)),
 Kn 6 (.box 34 14 Kz),
 Kn 7 (.nil 56),
 Kn 8 (.mov K0)]) (.seq (.region [Kn 17 (.load true 14 (.t 3)),
 Kn 18 (.callz 14 [Kh] [.t 17]),
 ⟨none, .store 14 (.t 3) (.t 18), none, 0, []⟩]) (.seq (.region [Kn 20 (.fad (.t 3) 7),
 Kn 21 (.load false 1 (.t 20)),
 Km 22 1,
 Km 23 2,
 Kn 24 (.call 75 [.l 78, .s, .s] [.t 21, .t 22, .t 23]),
 Km 19 24,
 Kn 25 (.ext (.t 19) 0),
 Kn 26 (.ext (.t 19) 1),
 Km 9 25,
 Km 10 26]) (.seq (.seq (.region [Km 27 10,
 Kn 28 (.bin .neq .num (.t 27) K0)]) (.cond (.t 28) (.seq (.region [Kn 29 (.load true 14 (.t 3)),
 Km 30 10,
 ⟨none, .store 14 (.t 6) (.t 29), none, 0, []⟩,
 Kn 7 (.nil 56),
 Km 8 30]) (.ret [6, 7, 8])) .skip)) (.seq (.region [Km 31 9,
 Kn 32 (.fad (.t 3) 7),
 ⟨none, .store 1 (.t 32) (.t 31), none, 0, []⟩]) (.seq (.region [Kn 33 (.fad (.t 3) 5),
 Kn 34 (.load false 1 (.t 33)),
 Kn 35 (.callz 76 [.l 81] [.t 34]),
 Km 11 35]) (.seq (.region [Kn 12 (.nil 56)]) (.seq (.seq (.region [Km 36 11,
 Km 37 11,
 Kn 38 (.len false (.t 37)),
 Kn 39 (.mx false [.t 38, .c (.sc (.int .i64 2))]),
 Kn 40 (.sls 25 (.t 36) none (some (.t 39))),
 Kn 41 (.len false (.t 40)),
 Kn 42 (.mov K0)]) (.block 0 (.loop [41, 40, 1, 2, 42, 3, 12, 6] c0))) (.seq (.region [Kn 61 (.load true 14 (.t 3)),
 Km 62 12,
 ⟨none, .store 14 (.t 6) (.t 61), none, 0, []⟩,
 Km 7 62,
 Kn 8 (.mov K0)]) (.ret [6, 7, 8]))))))))))⟩
def g20 : Fn := g20F b20_0
theorem cmp20 : cmpFn Tryz.prog .lit [1000016, 18, 35, 1001200056, 1000700056] 20 = some g20 := by kernel_rfl
def b21_0F : Cd := (.seq (.block 1 (.seq (.seq (.region [Kn 14 (.box 34 14 Kz)]) (.region [⟨some 44, .load true 14 (.t 3), none, 0, [14]⟩,
 Km 45 12,
 Km 46 13,
 ⟨some 47, .iadS 25 (.t 45) (.t 46), none, 0, [14]⟩,
 ⟨some 48, .load true 2 (.t 47), none, 0, [14]⟩,
 Km 49 1,
 Km 50 2,
 Kn 51 (.build [.sc (.string ⟨#[]⟩), .sc (.string ⟨#[]⟩)] [(0, 1, .t 49), (1, 1, .t 50)]),
 Kn 52 (.bsl 78 2 (.a [.s, .s]) [.t 51]),
 ⟨some 53, .call 23 [Kh, .a [.s, .s], .l 78, .s] [.t 44, .t 48, .t 52, .c (.sc (.bool true))], none, 0, [14]⟩,
 Km 43 53,
 Kn 54 (.ext (.t 43) 0),
 Kn 55 (.ext (.t 43) 1),
 Km 14 14,
 ⟨none, .store 14 (.t 14) (.t 54), none, 0, []⟩,
 Km 15 55])) (.seq (.region [Kn 56 (.load true 14 (.t 14)),
 ⟨none, .store 14 (.t 3) (.t 56), none, 0, []⟩]) (.region [Km 57 11,
 Km 58 15,
 Kn 59 (.app 56 136 (.t 57) (.t 58)),
 Km 11 59])))) (.region [Km 41 13,
 Kn 42 (.bin .add .num (.t 41) K1n),
 Km 13 42]))
def b21_0 : Cd := b21_0F
def b21_1F (c0 : Cd) : Cd := (.seq (.seq (.region [Km 33 13,
 Km 34 12,
 Kn 35 (.len false (.t 34)),
 Kn 36 (.bin .lss .num (.t 33) (.t 35)),
 Km 37 36,
 ⟨some 38, .mov (.t 13), some (37, true), 0, []⟩,
 ⟨some 39, .bin .lss .num (.t 38) (.c (.sc (.int .i64 2))), some (37, true), 0, []⟩,
 Kn 40 (.pick (.t 37) (.t 39) Kf)]) (.cond (.t 40) .skip (.exit 0 [3, 11, 6]))) (.seg [11, 13, 12, 1, 2, 3, 6] [12, 1, 2, 13, 3, 11, 6] c0))
def b21_1 : Cd := b21_1F b21_0
def g21F (c1 : Cd) : Fn := ⟨62, [.cell 6 true 14, .t 7, .t 8], [Kh, .l 56, .s], .lit,
 (.seq (.region [Kn 3 (.box 34 14 (.t 0)),
 Kn 6 (.box 34 14 Kz),
 Kn 7 (.nil 56),
 Kn 8 (.mov K0)]) (.seq (.region [Kn 17 (.fad (.t 3) 7),
 Kn 18 (.load false 1 (.t 17)),
 Km 19 1,
 Km 20 2,
 Kn 21 (.call 77 [.l 78, .s, .s] [.t 18, .t 19, .t 20]),
 Km 16 21,
 Kn 22 (.ext (.t 16) 0),
 Kn 23 (.ext (.t 16) 1),
 Km 9 22,
 Km 10 23]) (.seq (.seq (.region [Km 24 10,
 Kn 25 (.bin .neq .num (.t 24) K0)]) (.cond (.t 25) (.seq (.region [Kn 26 (.load true 14 (.t 3)),
 Km 27 10,
 ⟨none, .store 14 (.t 6) (.t 26), none, 0, []⟩,
 Kn 7 (.nil 56),
 Km 8 27]) (.ret [6, 7, 8])) .skip)) (.seq (.region [Km 28 9,
 Kn 29 (.fad (.t 3) 7),
 ⟨none, .store 1 (.t 29) (.t 28), none, 0, []⟩]) (.seq (.region [Kn 11 (.nil 56)]) (.seq (.region [Kn 30 (.fad (.t 3) 5),
 Kn 31 (.load false 1 (.t 30)),
 Kn 32 (.call 78 [.l 81] [.t 31]),
 Km 12 32]) (.seq (.seq (.region [Kn 13 (.mov K0)]) (.block 0 (.loop [12, 1, 2, 13, 3, 11, 6] c1))) (.seq (.region [Kn 60 (.load true 14 (.t 3)),
 Km 61 11,
 ⟨none, .store 14 (.t 6) (.t 60), none, 0, []⟩,
 Km 7 61,
 Kn 8 (.mov K0)]) (.ret [6, 7, 8])))))))))⟩
def g21 : Fn := g21F b21_1
theorem cmp21 : cmpFn Tryz.prog .lit [1000016, 1001100056, 1000700056] 21 = some g21 := by kernel_rfl
def b22_0F : Cd := (.seq (.region [Kn 21 (.bin .lss .num (.t 20) (.t 19))]) (.seq (.cond (.t 21) .skip (.exit 0 [4, 10, 8])) (.seq (.block 1 (.seq (.region [Kn 22 (.iadS 28 (.t 18) (.t 20)),
 Kn 23 (.load false 1 (.t 22)),
 Km 12 23]) (.seq (.region [Kn 25 (.load true 14 (.t 4)),
 Kn 26 (.load true 2 (.t 5)),
 Km 27 3,
 Km 28 12,
 Kn 29 (.build [.sc (.int .i64 0), .sc (.int .u32 0), .sc (.int .u8 0), .sc (.bool false), .sc (.int .u64 0), .sc (.string ⟨#[]⟩), .sc (.string ⟨#[]⟩), .sc (.int .u64 0), .sc (.int .u16 0), .lit 0 true [], .lit 0 true []] [(0, 1, .c (.sc (.int .i64 10))), (3, 1, .t 27), (10, 1, .t 28)]),
 Kn 30 (.call 80 [Kh, .a [.s, .s], Kg, .s, .s] [.t 25, .t 26, .t 29, .c (.sc (.int .i64 6)), .c (.sc (.int .i64 0))]),
 Km 24 30,
 Kn 31 (.ext (.t 24) 0),
 Kn 32 (.ext (.t 24) 1),
 Kn 13 (.box 34 14 Kz),
 ⟨none, .store 14 (.t 13) (.t 31), none, 0, []⟩,
 Km 14 32]) (.region [⟨some 33, .load true 14 (.t 13), none, 2, []⟩,
 Km 34 10,
 Km 35 14,
 ⟨some 36, .app 56 136 (.t 34) (.t 35), none, 1, []⟩,
 ⟨none, .store 14 (.t 4) (.t 33), none, 0, []⟩,
 Km 10 36])))) (.region [Kn 37 (.bin .add .num (.t 20) K1n),
 Km 20 37]))))
def b22_0 : Cd := b22_0F
def g22F (c0 : Cd) : Fn := ⟨40, [.cell 8 true 14, .t 9], [Kh, .l 56], .lit,
 (.seq (.region [Kn 4 (.box 34 14 (.t 0)),
 Kn 5 (.box 25 2 (.t 1)),
 Kn 8 (.box 34 14 Kz),
 Kn 9 (.nil 56)]) (.seq (.region [Kn 15 (.load true 14 (.t 4)),
 Kn 16 (.callz 14 [Kh] [.t 15]),
 ⟨none, .store 14 (.t 4) (.t 16), none, 0, []⟩]) (.seq (.region [Kn 10 (.nil 56)]) (.seq (.seq (.region [Km 17 2,
 Kn 18 (.call 79 [.l 78] [.t 17]),
 Kn 19 (.len false (.t 18)),
 Kn 20 (.mov K0)]) (.block 0 (.loop [19, 18, 5, 3, 20, 4, 10, 8] c0))) (.seq (.region [Kn 38 (.load true 14 (.t 4)),
 Km 39 10,
 ⟨none, .store 14 (.t 8) (.t 38), none, 0, []⟩,
 Km 9 39]) (.ret [8, 9]))))))⟩
def g22 : Fn := g22F b22_0
theorem cmp22 : cmpFn Tryz.prog .lit [1000016, 16, 1001000056, 1000900056] 22 = some g22 := by kernel_rfl
def b23_0F : Cd := (.seq (.seq (.region [Km 17 12,
 Km 18 11,
 Kn 19 (.len false (.t 18)),
 Kn 20 (.bin .lss .num (.t 17) (.t 19))]) (.cond (.t 20) .skip (.exit 0 [4, 10, 8]))) (.seq (.block 1 (.seq (.seq (.region [Kn 13 (.box 34 14 Kz)]) (.region [⟨some 24, .load true 14 (.t 4), none, 0, [13]⟩,
 ⟨some 25, .load true 2 (.t 5), none, 0, [13]⟩,
 Km 26 3,
 Km 27 11,
 Km 28 12,
 ⟨some 29, .iadS 28 (.t 27) (.t 28), none, 0, [13]⟩,
 ⟨some 30, .load false 1 (.t 29), none, 0, [13]⟩,
 Kn 31 (.build [.sc (.int .i64 0), .sc (.int .u32 0), .sc (.int .u8 0), .sc (.bool false), .sc (.int .u64 0), .sc (.string ⟨#[]⟩), .sc (.string ⟨#[]⟩), .sc (.int .u64 0), .sc (.int .u16 0), .lit 0 true [], .lit 0 true []] [(0, 1, .c (.sc (.int .i64 10))), (3, 1, .t 26), (10, 1, .t 30)]),
 ⟨some 32, .call 82 [Kh, .a [.s, .s], Kg, .s, .s] [.t 24, .t 25, .t 31, .c (.sc (.int .i64 6)), .c (.sc (.int .i64 0))], none, 0, [13]⟩,
 Km 23 32,
 Kn 33 (.ext (.t 23) 0),
 Kn 34 (.ext (.t 23) 1),
 Km 13 13,
 ⟨none, .store 14 (.t 13) (.t 33), none, 0, []⟩,
 Km 14 34])) (.seq (.region [Kn 35 (.load true 14 (.t 13)),
 ⟨none, .store 14 (.t 4) (.t 35), none, 0, []⟩]) (.region [Km 36 10,
 Km 37 14,
 Kn 38 (.app 56 136 (.t 36) (.t 37)),
 Km 10 38])))) (.region [Km 21 12,
 Kn 22 (.bin .add .num (.t 21) K1n),
 Km 12 22])))
def b23_0 : Cd := b23_0F
def g23F (c0 : Cd) : Fn := ⟨41, [.cell 8 true 14, .t 9], [Kh, .l 56], .lit,
 (.seq (.region [Kn 4 (.box 34 14 (.t 0)),
 Kn 5 (.box 25 2 (.t 1)),
 Kn 8 (.box 34 14 Kz),
 Kn 9 (.nil 56)]) (.seq (.region [Kn 10 (.nil 56)]) (.seq (.region [Km 15 2,
 Kn 16 (.call 81 [.l 78] [.t 15]),
 Km 11 16]) (.seq (.seq (.region [Kn 12 (.mov K0)]) (.block 0 (.loop [5, 3, 11, 12, 4, 10, 8] c0))) (.seq (.region [Kn 39 (.load true 14 (.t 4)),
 Km 40 10,
 ⟨none, .store 14 (.t 8) (.t 39), none, 0, []⟩,
 Km 9 40]) (.ret [8, 9]))))))⟩
def g23 : Fn := g23F b23_0
theorem cmp23 : cmpFn Tryz.prog .lit [1000016, 1001000056, 1000900056] 23 = some g23 := by kernel_rfl
def g24F : Fn := ⟨19, [.t 2], [.s], .lit,
 (.seq (.region [Kn 2 (.mov Kf)]) (.seq (.region [Km 3 0,
 Kn 4 (.bin .neq .str (.t 3) (.c (.sc (.string ⟨#[]⟩)))),
 Km 5 4,
 ⟨some 6, .mov (.t 0), some (5, true), 0, []⟩,
 ⟨some 7, .len true (.t 6), some (5, true), 0, []⟩,
 ⟨some 8, .bin .leq .num (.t 7) (.c (.sc (.int .i64 96))), some (5, true), 0, []⟩,
 Kn 9 (.pick (.t 5) (.t 8) Kf),
 Km 10 9,
 ⟨some 11, .mov (.t 0), some (10, true), 0, []⟩,
 ⟨some 12, .call 83 [.s] [.t 11], some (10, true), 0, []⟩,
 Kn 13 (.pick (.t 10) (.t 12) Kf),
 Km 14 13,
 ⟨some 15, .mov (.t 0), some (14, true), 0, []⟩,
 ⟨some 16, .call 84 [.s] [.t 15], some (14, true), 0, []⟩,
 ⟨some 17, .bin .leq .num (.t 16) (.c (.sc (.int .i64 32))), some (14, true), 0, []⟩,
 Kn 18 (.pick (.t 14) (.t 17) Kf),
 Km 2 18]) (.ret [2])))⟩
def g24 : Fn := g24F
theorem cmp24 : cmpFn Tryz.prog .lit [1000016] 24 = some g24 := by kernel_rfl
def g25F : Fn := ⟨21, [.t 2], [.s], .lit,
 (.seq (.region [Kn 2 (.mov Kf)]) (.seq (.region [Km 3 0,
 Kn 4 (.len true (.t 3)),
 Kn 5 (.bin .gtr .num (.t 4) K0),
 Km 6 5,
 ⟨some 7, .mov (.t 0), some (6, true), 0, []⟩,
 ⟨some 8, .len true (.t 7), some (6, true), 0, []⟩,
 ⟨some 9, .bin .lss .num (.t 8) (.c (.sc (.int .i64 97))), some (6, true), 0, []⟩,
 Kn 10 (.pick (.t 6) (.t 9) Kf),
 Km 11 10,
 ⟨some 12, .mov (.t 0), some (11, true), 0, []⟩,
 ⟨some 13, .call 85 [.s] [.t 12], some (11, true), 0, []⟩,
 Kn 14 (.pick (.t 11) (.t 13) Kf),
 Km 15 14,
 ⟨some 16, .mov (.t 0), some (15, true), 0, []⟩,
 ⟨some 17, .call 86 [.s] [.t 16], some (15, true), 0, []⟩,
 ⟨some 18, .len false (.t 17), some (15, true), 0, []⟩,
 ⟨some 19, .bin .lss .num (.t 18) (.c (.sc (.int .i64 33))), some (15, true), 0, []⟩,
 Kn 20 (.pick (.t 15) (.t 19) Kf),
 Km 2 20]) (.ret [2])))⟩
def g25 : Fn := g25F
theorem cmp25 : cmpFn Tryz.prog .lit [1000016] 25 = some g25 := by kernel_rfl
def b35_0F : Cd := (.seq (.region [Km 39 5,
 Kn 40 (.bin .gtr .num (.t 39) K0),
 Km 41 40,
 ⟨some 42, .load true 2 (.t 2), some (41, true), 0, []⟩,
 ⟨some 43, .mov (.t 1), some (41, true), 0, []⟩,
 ⟨some 44, .mov (.t 5), some (41, true), 0, []⟩,
 ⟨some 45, .bin .sub .num (.t 44) K1n, some (41, true), 0, []⟩,
 ⟨some 46, .iadS 81 (.t 43) (.t 45), some (41, true), 0, []⟩,
 ⟨some 47, .fad (.t 46) 0, some (41, true), 0, []⟩,
 ⟨some 48, .load true 2 (.t 47), some (41, true), 0, []⟩,
 ⟨some 49, .fad (.t 6) 0, some (41, true), 0, []⟩,
 ⟨some 50, .load true 2 (.t 49), some (41, true), 0, []⟩,
 ⟨some 51, .call 99 [.a [.s, .s], .a [.s, .s], .a [.s, .s]] [.t 42, .t 48, .t 50], some (41, true), 0, []⟩,
 ⟨some 52, .un .not (.t 51), some (41, true), 0, []⟩,
 Kn 53 (.pick (.t 41) (.t 52) Kf)]) (.cond (.t 53) (.seq (.region [Kn 4 (.mov Kf)]) (.ret [4])) .skip))
def b35_0 : Cd := b35_0F
def b35_1F (c0 : Cd) : Cd := (.seq (.region [Kn 10 (.bin .lss .num (.t 9) (.t 8))]) (.seq (.cond (.t 10) .skip (.exit 0 [1])) (.seq (.block 1 (.seq (.region [Km 11 9,
 Kn 12 (.iadS 81 (.t 7) (.t 9)),
 Kn 13 (.load true 3 (.t 12)),
 Kn 6 (.box 81 3 (.c (.agg [.sc (.int .u64 0), .sc (.int .u16 0), .sc (.int .i64 0)]))),
 Km 5 11,
 ⟨none, .store 3 (.t 6) (.t 13), none, 0, []⟩]) (.seq (.seq (.region [Kn 14 (.fad (.t 6) 2),
 Kn 15 (.load false 1 (.t 14)),
 Kn 16 (.bin .lss .num (.t 15) K0),
 Km 17 16,
 ⟨some 18, .fad (.t 6) 2, some (17, false), 0, []⟩,
 ⟨some 19, .load false 1 (.t 18), some (17, false), 0, []⟩,
 ⟨some 20, .bin .geq .num (.t 19) (.c (.sc (.int .i64 3))), some (17, false), 0, []⟩,
 Kn 21 (.pick (.t 17) Kt (.t 20)),
 Km 22 21,
 ⟨some 23, .fad (.t 6) 0, some (22, false), 0, []⟩,
 ⟨some 24, .fad (.t 23) 1, some (22, false), 0, []⟩,
 ⟨some 25, .load false 1 (.t 24), some (22, false), 0, []⟩,
 ⟨some 26, .fad (.t 2) 1, some (22, false), 0, []⟩,
 ⟨some 27, .load false 1 (.t 26), some (22, false), 0, []⟩,
 ⟨some 28, .bin .eql .num (.t 25) (.t 27), some (22, false), 0, []⟩,
 Kn 29 (.pick (.t 22) Kt (.t 28)),
 Km 30 29,
 ⟨some 31, .mov (.t 1), some (30, false), 0, []⟩,
 ⟨some 32, .fad (.t 6) 0, some (30, false), 0, []⟩,
 ⟨some 33, .fad (.t 32) 1, some (30, false), 0, []⟩,
 ⟨some 34, .load false 1 (.t 33), some (30, false), 0, []⟩,
 ⟨some 35, .call 98 [.l 81, .s] [.t 31, .t 34], some (30, false), 0, []⟩,
 ⟨some 36, .mov (.t 5), some (30, false), 0, []⟩,
 ⟨some 37, .bin .neq .num (.t 35) (.t 36), some (30, false), 0, []⟩,
 Kn 38 (.pick (.t 30) Kt (.t 37))]) (.cond (.t 38) (.seq (.region [Kn 4 (.mov Kf)]) (.ret [4])) .skip)) (.seg [5, 6, 9, 8, 7, 2, 1] [9, 8, 7, 2, 1] c0)))) (.region [Kn 54 (.bin .add .num (.t 9) K1n),
 Km 9 54]))))
def b35_1 : Cd := b35_1F b35_0
def g35F (c1 : Cd) : Fn := ⟨58, [.t 4], [.s], .lit,
 (.seq (.region [Kn 2 (.box 25 2 (.t 0)),
 Kn 4 (.mov Kf)]) (.seq (.seq (.region [Km 7 1,
 Kn 8 (.len false (.t 7)),
 Kn 9 (.mov K0)]) (.block 0 (.loop [8, 7, 2, 9, 1] c1))) (.seq (.region [Km 55 1,
 Kn 56 (.len false (.t 55)),
 Kn 57 (.bin .leq .num (.t 56) (.c (.sc (.int .i64 15)))),
 Km 4 57]) (.ret [4]))))⟩
def g35 : Fn := g35F b35_1
theorem cmp35 : cmpFn Tryz.prog .lit [1000016] 35 = some g35 := by kernel_rfl
def b36_0F : Cd := (.seq (.region [Kn 8 (.bin .lss .num (.t 7) (.t 6))]) (.seq (.cond (.t 8) .skip (.exit 0 [0])) (.seq (.block 1 (.seq (.region [Km 9 7,
 Kn 10 (.iadS 78 (.t 5) (.t 7)),
 Kn 11 (.load true 2 (.t 10)),
 Kn 4 (.box 78 2 (.c (.agg [.sc (.string ⟨#[]⟩), .sc (.string ⟨#[]⟩)]))),
 Km 3 9,
 ⟨none, .store 2 (.t 4) (.t 11), none, 0, []⟩]) (.seq (.region [Kn 12 (.fad (.t 4) 0),
 Kn 13 (.load false 1 (.t 12)),
 Kn 14 (.call 24 [.s] [.t 13]),
 Kn 15 (.un .not (.t 14)),
 Km 16 15,
 ⟨some 17, .fad (.t 4) 1, some (16, false), 0, []⟩,
 ⟨some 18, .load false 1 (.t 17), some (16, false), 0, []⟩,
 ⟨some 19, .len true (.t 18), some (16, false), 0, []⟩,
 ⟨some 20, .bin .gtr .num (.t 19) (.c (.sc (.int .i64 512))), some (16, false), 0, []⟩,
 Kn 21 (.pick (.t 16) Kt (.t 20)),
 Km 22 21,
 ⟨some 23, .mov (.t 3), some (22, false), 0, []⟩,
 ⟨some 24, .bin .gtr .num (.t 23) K0, some (22, false), 0, []⟩,
 ⟨some 25, .mov (.t 24), some (22, false), 0, []⟩,
 ⟨some 26, .mov (.t 0), some (25, true), 0, []⟩,
 ⟨some 27, .mov (.t 3), some (25, true), 0, []⟩,
 ⟨some 28, .bin .sub .num (.t 27) K1n, some (25, true), 0, []⟩,
 ⟨some 29, .iadS 78 (.t 26) (.t 28), some (25, true), 0, []⟩,
 ⟨some 30, .fad (.t 29) 0, some (25, true), 0, []⟩,
 ⟨some 31, .load false 1 (.t 30), some (25, true), 0, []⟩,
 ⟨some 32, .fad (.t 4) 0, some (25, true), 0, []⟩,
 ⟨some 33, .load false 1 (.t 32), some (25, true), 0, []⟩,
 ⟨some 34, .bin .geq .str (.t 31) (.t 33), some (25, true), 0, []⟩,
 ⟨some 35, .pick (.t 25) (.t 34) Kf, some (22, false), 0, []⟩,
 Kn 36 (.pick (.t 22) Kt (.t 35))]) (.cond (.t 36) (.seq (.region [Kn 2 (.mov Kf)]) (.ret [2])) .skip)))) (.region [Kn 37 (.bin .add .num (.t 7) K1n),
 Km 7 37]))))
def b36_0 : Cd := b36_0F
def g36F (c0 : Cd) : Fn := ⟨41, [.t 2], [.s], .lit,
 (.seq (.region [Kn 2 (.mov Kf)]) (.seq (.seq (.region [Km 5 0,
 Kn 6 (.len false (.t 5)),
 Kn 7 (.mov K0)]) (.block 0 (.loop [6, 5, 7, 0] c0))) (.seq (.region [Km 38 0,
 Kn 39 (.len false (.t 38)),
 Kn 40 (.bin .leq .num (.t 39) (.c (.sc (.int .i64 64)))),
 Km 2 40]) (.ret [2]))))⟩
def g36 : Fn := g36F b36_0
theorem cmp36 : cmpFn Tryz.prog .lit [1000016] 36 = some g36 := by kernel_rfl
def g37F : Fn := ⟨28, [.t 2], [.s], .lit,
 (.seq (.region [Kn 1 (.box 37 11 (.t 0)),
 Kn 2 (.mov K0)]) (.seq (.region [Kn 4 (.load true 11 (.t 1)),
 Kn 5 (.call 100 [Kg] [.t 4]),
 Km 3 5]) (.seq (.block 0 (.seq (.region [Kn 7 (.fad (.t 1) 0),
 Kn 8 (.load false 1 (.t 7)),
 Kn 9 (.call 101 [.s] [.t 8]),
 Kn 10 (.bin .eql .str (.t 9) (.c (.sc (.string ⟨#[63]⟩)))),
 Km 6 10]) (.cond (.t 6) (.seq (.region [Kn 2 (.mov (.c (.sc (.int .i64 9))))]) (.ret [2])) (.seq (.region [⟨some 12, .load true 11 (.t 1), none, 2, []⟩,
 Kn 13 (.load true 11 (.t 1)),
 ⟨some 14, .call 103 [Kg] [.t 13], none, 1, []⟩,
 Kn 15 (.call 102 [Kg, Kg] [.t 12, .t 14]),
 Kn 16 (.un .not (.t 15)),
 Km 11 16]) (.cond (.t 11) (.seq (.region [Kn 2 (.mov K1n)]) (.ret [2])) (.seq (.region [Kn 18 (.load true 11 (.t 1)),
 Km 19 3,
 Kn 20 (.call 104 [Kg, .s] [.t 18, .t 19]),
 Kn 21 (.un .not (.t 20)),
 Km 17 21]) (.cond (.t 17) (.seq (.region [Kn 2 (.mov (.c (.sc (.int .i64 7))))]) (.ret [2])) (.seq (.region [Kn 23 (.load true 11 (.t 1)),
 Kn 24 (.call 105 [Kg] [.t 23]),
 Km 22 24]) (.cond (.t 22) (.seq (.region [Kn 2 (.mov (.c (.sc (.int .i64 5))))]) (.ret [2])) (.seq (.region [Kn 26 (.load true 11 (.t 1)),
 Kn 27 (.call 106 [Kg] [.t 26]),
 Km 25 27]) (.cond (.t 25) (.seq (.region [Kn 2 (.mov (.c (.sc (.int .i64 2))))]) (.ret [2])) .skip))))))))))) (.seq (.region [Kn 2 (.mov K0)]) (.ret [2])))))⟩
def g37 : Fn := g37F
theorem cmp37 : cmpFn Tryz.prog .lit [1000016] 37 = some g37 := by kernel_rfl
def b38_0F : Cd := (.seq (.seq (.region [Km 44 4,
 Kn 45 (.fad (.t 1) 10),
 Kn 46 (.load false 1 (.t 45)),
 Kn 47 (.len false (.t 46)),
 Kn 48 (.bin .lss .num (.t 44) (.t 47))]) (.cond (.t 48) .skip (.exit 0 [3, 1]))) (.seq (.block 1 (.seq (.seq (.region [Kn 51 (.fad (.t 1) 10),
 Kn 52 (.load false 1 (.t 51)),
 Km 53 4,
 Kn 54 (.iadS 78 (.t 52) (.t 53)),
 Kn 55 (.fad (.t 54) 0),
 Kn 56 (.load false 1 (.t 55)),
 Kn 57 (.call 25 [.s] [.t 56]),
 Kn 58 (.un .not (.t 57))]) (.cond (.t 58) (.seq (.region [Kn 2 (.mov (.c (.sc (.int .i64 7))))]) (.ret [2])) .skip)) (.seq (.region [Kn 59 (.fad (.t 1) 10),
 Kn 60 (.load false 1 (.t 59)),
 Km 61 4,
 Kn 62 (.iadS 78 (.t 60) (.t 61)),
 Kn 63 (.fad (.t 62) 1),
 Kn 64 (.load false 1 (.t 63)),
 Kn 65 (.len true (.t 64)),
 Kn 66 (.bin .gtr .num (.t 65) (.c (.sc (.int .i64 512))))]) (.cond (.t 66) (.region [Kn 3 (.mov Kt)]) .skip)))) (.region [Km 49 4,
 Kn 50 (.bin .add .num (.t 49) K1n),
 Km 4 50])))
def b38_0 : Cd := b38_0F
def b38_1F (c0 : Cd) : Cd := (.seq (.seq (.region [Kn 4 (.mov K0)]) (.block 0 (.loop [4, 3, 1] c0))) (.seq (.seq (.region [Km 67 3]) (.cond (.t 67) (.seq (.region [Kn 2 (.mov (.c (.sc (.int .i64 5))))]) (.ret [2])) .skip)) (.seq (.seq (.region [Kn 68 (.fad (.t 1) 0),
 Kn 69 (.load false 1 (.t 68)),
 Kn 70 (.bin .eql .num (.t 69) (.c (.sc (.int .i64 2)))),
 Km 71 70,
 ⟨some 72, .fad (.t 1) 9, some (71, true), 0, []⟩,
 ⟨some 73, .load false 1 (.t 72), some (71, true), 0, []⟩,
 ⟨some 74, .len false (.t 73), some (71, true), 0, []⟩,
 ⟨some 75, .bin .eql .num (.t 74) K0, some (71, true), 0, []⟩,
 Kn 76 (.pick (.t 71) (.t 75) Kf),
 Km 77 76,
 ⟨some 78, .fad (.t 1) 0, some (77, false), 0, []⟩,
 ⟨some 79, .load false 1 (.t 78), some (77, false), 0, []⟩,
 ⟨some 80, .bin .eql .num (.t 79) (.c (.sc (.int .i64 10))), some (77, false), 0, []⟩,
 ⟨some 81, .mov (.t 80), some (77, false), 0, []⟩,
 ⟨some 82, .fad (.t 1) 10, some (81, true), 0, []⟩,
 ⟨some 83, .load false 1 (.t 82), some (81, true), 0, []⟩,
 ⟨some 84, .len false (.t 83), some (81, true), 0, []⟩,
 ⟨some 85, .bin .eql .num (.t 84) K0, some (81, true), 0, []⟩,
 ⟨some 86, .pick (.t 81) (.t 85) Kf, some (77, false), 0, []⟩,
 Kn 87 (.pick (.t 77) Kt (.t 86)),
 Km 88 87,
 ⟨some 89, .fad (.t 1) 0, some (88, false), 0, []⟩,
 ⟨some 90, .load false 1 (.t 89), some (88, false), 0, []⟩,
 ⟨some 91, .bin .eql .num (.t 90) (.c (.sc (.int .i64 12))), some (88, false), 0, []⟩,
 ⟨some 92, .mov (.t 91), some (88, false), 0, []⟩,
 ⟨some 93, .fad (.t 1) 2, some (92, true), 0, []⟩,
 ⟨some 94, .load false 1 (.t 93), some (92, true), 0, []⟩,
 ⟨some 95, .bin .eql .num (.t 94) (.c (.sc (.int .u8 0))), some (92, true), 0, []⟩,
 ⟨some 96, .pick (.t 92) (.t 95) Kf, some (88, false), 0, []⟩,
 Kn 97 (.pick (.t 88) Kt (.t 96))]) (.cond (.t 97) (.seq (.region [Kn 2 (.mov (.c (.sc (.int .i64 2))))]) (.ret [2])) .skip)) (.seq (.region [Kn 2 (.mov K0)]) (.ret [2])))))
def b38_1 : Cd := b38_1F b38_0
def b38_2F (c1 : Cd) : Cd := (.seq (.region [Kn 28 (.fad (.t 1) 6),
 Kn 29 (.load false 1 (.t 28)),
 Kn 30 (.len true (.t 29)),
 Kn 31 (.bin .gtr .num (.t 30) (.c (.sc (.int .i64 512)))),
 Km 32 31,
 ⟨some 33, .fad (.t 1) 9, some (32, false), 0, []⟩,
 ⟨some 34, .load false 1 (.t 33), some (32, false), 0, []⟩,
 ⟨some 35, .len false (.t 34), some (32, false), 0, []⟩,
 ⟨some 36, .bin .gtr .num (.t 35) (.c (.sc (.int .i64 16))), some (32, false), 0, []⟩,
 Kn 37 (.pick (.t 32) Kt (.t 36)),
 Km 38 37,
 ⟨some 39, .fad (.t 1) 10, some (38, false), 0, []⟩,
 ⟨some 40, .load false 1 (.t 39), some (38, false), 0, []⟩,
 ⟨some 41, .len false (.t 40), some (38, false), 0, []⟩,
 ⟨some 42, .bin .gtr .num (.t 41) (.c (.sc (.int .i64 8))), some (38, false), 0, []⟩,
 Kn 43 (.pick (.t 38) Kt (.t 42)),
 Km 3 43]) (.seg [3, 1] [2] c1))
def b38_2 : Cd := b38_2F b38_1
def g38F (c2 : Cd) : Fn := ⟨98, [.t 2], [.s], .lit,
 (.seq (.region [Kn 1 (.box 37 11 (.t 0)),
 Kn 2 (.mov K0)]) (.seq (.seq (.region [Kn 5 (.fad (.t 1) 0),
 Kn 6 (.load false 1 (.t 5)),
 Kn 7 (.call 107 [.s] [.t 6]),
 Kn 8 (.bin .eql .str (.t 7) (.c (.sc (.string ⟨#[63]⟩))))]) (.cond (.t 8) (.seq (.region [Kn 2 (.mov (.c (.sc (.int .i64 9))))]) (.ret [2])) .skip)) (.seq (.seq (.region [⟨some 9, .load true 11 (.t 1), none, 2, []⟩,
 Kn 10 (.load true 11 (.t 1)),
 ⟨some 11, .call 108 [Kg] [.t 10], none, 1, []⟩,
 Kn 12 (.call 74 [Kg, Kg] [.t 9, .t 11]),
 Kn 13 (.un .not (.t 12))]) (.cond (.t 13) (.seq (.region [Kn 2 (.mov K1n)]) (.ret [2])) .skip)) (.seq (.seq (.region [Kn 14 (.fad (.t 1) 0),
 Kn 15 (.load false 1 (.t 14)),
 Kn 16 (.bin .eql .num (.t 15) (.c (.sc (.int .i64 7)))),
 Km 17 16,
 ⟨some 18, .fad (.t 1) 0, some (17, false), 0, []⟩,
 ⟨some 19, .load false 1 (.t 18), some (17, false), 0, []⟩,
 ⟨some 20, .bin .eql .num (.t 19) (.c (.sc (.int .i64 8))), some (17, false), 0, []⟩,
 Kn 21 (.pick (.t 17) Kt (.t 20)),
 Km 22 21,
 ⟨some 23, .fad (.t 1) 5, some (22, true), 0, []⟩,
 ⟨some 24, .load false 1 (.t 23), some (22, true), 0, []⟩,
 ⟨some 25, .call 25 [.s] [.t 24], some (22, true), 0, []⟩,
 ⟨some 26, .un .not (.t 25), some (22, true), 0, []⟩,
 Kn 27 (.pick (.t 22) (.t 26) Kf)]) (.cond (.t 27) (.seq (.region [Kn 2 (.mov (.c (.sc (.int .i64 7))))]) (.ret [2])) .skip)) (.seg [1] [2] c2)))))⟩
def g38 : Fn := g38F b38_2
theorem cmp38 : cmpFn Tryz.prog .lit [1000016] 38 = some g38 := by kernel_rfl
def b39_0F : Cd := (.seq (.seq (.region [Km 4 3,
 Kn 5 (.bin .lss .num (.t 4) (.c (.sc (.int .i64 13))))]) (.cond (.t 5) .skip (.exit 0 []))) (.seq (.block 1 (.seq (.region [Km 8 0,
 Km 9 3,
 Kn 10 (.call 40 [.s, .s] [.t 8, .t 9])]) (.cond (.t 10) (.seq (.region [Kn 2 (.mov Kt)]) (.ret [2])) .skip))) (.region [Km 6 3,
 Kn 7 (.bin .add .num (.t 6) K1n),
 Km 3 7])))
def b39_0 : Cd := b39_0F
def g39F (c0 : Cd) : Fn := ⟨11, [.t 2], [.s], .lit,
 (.seq (.region [Kn 2 (.mov Kf)]) (.seq (.seq (.region [Kn 3 (.mov K1n)]) (.block 0 (.loop [0, 3] c0))) (.seq (.region [Kn 2 (.mov Kf)]) (.ret [2]))))⟩
def g39 : Fn := g39F b39_0
theorem cmp39 : cmpFn Tryz.prog .lit [1000016] 39 = some g39 := by kernel_rfl
def b40_0F : Cd := (.cond (.t 18) (.seq (.region [Km 22 1,
 Kn 23 (.bin .eql .num (.t 22) (.c (.sc (.int .i64 6)))),
 Km 4 23]) (.ret [4])) (.seq (.region [Kn 25 (.bin .eql .num (.t 5) (.c (.sc (.int .i64 7)))),
 Km 24 25]) (.cond (.t 24) (.seq (.region [Km 26 1,
 Kn 27 (.bin .eql .num (.t 26) (.c (.sc (.int .i64 6)))),
 Km 28 27,
 ⟨some 29, .mov (.t 1), some (28, false), 0, []⟩,
 ⟨some 30, .bin .eql .num (.t 29) (.c (.sc (.int .i64 12))), some (28, false), 0, []⟩,
 Kn 31 (.pick (.t 28) Kt (.t 30)),
 Km 4 31]) (.ret [4])) (.seq (.region [Kn 33 (.bin .eql .num (.t 5) (.c (.sc (.int .i64 8)))),
 Km 32 33]) (.cond (.t 32) (.seq (.region [Km 34 1,
 Kn 35 (.bin .eql .num (.t 34) (.c (.sc (.int .i64 9)))),
 Km 36 35,
 ⟨some 37, .mov (.t 1), some (36, false), 0, []⟩,
 ⟨some 38, .bin .eql .num (.t 37) (.c (.sc (.int .i64 12))), some (36, false), 0, []⟩,
 Kn 39 (.pick (.t 36) Kt (.t 38)),
 Km 4 39]) (.ret [4])) (.seq (.region [Kn 4 (.mov Kf)]) (.ret [4])))))))
def b40_0 : Cd := b40_0F
def g40F (c0 : Cd) : Fn := ⟨40, [.t 4], [.s], .lit,
 (.seq (.region [Kn 4 (.mov Kf)]) (.seq (.region [Km 5 0]) (.block 0 (.seq (.region [Kn 7 (.bin .eql .num (.t 5) K1n),
 Km 6 7]) (.cond (.t 6) (.seq (.region [Km 8 1,
 Kn 9 (.bin .eql .num (.t 8) (.c (.sc (.int .i64 2)))),
 Km 10 9,
 ⟨some 11, .mov (.t 1), some (10, false), 0, []⟩,
 ⟨some 12, .bin .eql .num (.t 11) (.c (.sc (.int .i64 12))), some (10, false), 0, []⟩,
 Kn 13 (.pick (.t 10) Kt (.t 12)),
 Km 4 13]) (.ret [4])) (.seq (.region [Kn 15 (.bin .eql .num (.t 5) (.c (.sc (.int .i64 3)))),
 Km 14 15]) (.cond (.t 14) (.seq (.region [Km 16 1,
 Kn 17 (.bin .eql .num (.t 16) (.c (.sc (.int .i64 4)))),
 Km 4 17]) (.ret [4])) (.seq (.seq (.region [Kn 19 (.bin .eql .num (.t 5) (.c (.sc (.int .i64 5)))),
 Km 18 19]) (.cond (.t 18) .skip (.seq (.region [Kn 20 (.bin .eql .num (.t 5) (.c (.sc (.int .i64 10)))),
 Km 18 20]) (.cond (.t 18) .skip (.region [Kn 21 (.bin .eql .num (.t 5) (.c (.sc (.int .i64 11)))),
 Km 18 21]))))) (.seg [18, 5, 1] [4] c0)))))))))⟩
def g40 : Fn := g40F b40_0
theorem cmp40 : cmpFn Tryz.prog .lit [1000016] 40 = some g40 := by kernel_rfl
def g54F : Fn := ⟨8, [.t 2], [.s], .lit,
 (.seq (.region [Kn 2 (.mov Kf)]) (.seq (.region [Km 3 0,
 Kn 4 (.call 122 [.s] [.t 3]),
 Kn 5 (.fld false 1 2 (.t 4)),
 Kn 6 (.len false (.t 5)),
 Kn 7 (.bin .gtr .num (.t 6) K0),
 Km 2 7]) (.ret [2])))⟩
def g54 : Fn := g54F
theorem cmp54 : cmpFn Tryz.prog .lit [1000016] 54 = some g54 := by kernel_rfl
def g55F : Fn := ⟨35, [], [], .mv,
 (.seq (.seq (.region [Km 5 0,
 Kn 6 (.nck (.t 5)),
 Kn 7 (.fad (.t 6) 0),
 Kn 8 (.fad (.t 7) 3),
 Kn 9 (.load false 1 (.t 8)),
 Kn 10 (.un .not (.t 9))]) (.cond (.t 10) (.seq (.region [Km 11 0,
 Kn 12 (.call 123 [.s, .s] [.t 11, .c (.sc (.int .i64 17))])]) (.ret [])) .skip)) (.seq (.seq (.region [Kn 2 (.box 25 2 (.c (.agg [.sc (.int .u64 0), .sc (.int .u16 0)])))]) (.region [Km 14 0,
 ⟨some 15, .nck (.t 14), none, 0, [2]⟩,
 ⟨some 16, .fad (.t 15) 0, none, 0, [2]⟩,
 ⟨some 17, .load true 14 (.t 16), none, 0, [2]⟩,
 Km 18 0,
 ⟨some 19, .nck (.t 18), none, 0, [2]⟩,
 ⟨some 20, .fad (.t 19) 15, none, 0, [2]⟩,
 ⟨some 21, .fad (.t 20) 4, none, 0, [2]⟩,
 ⟨some 22, .load false 1 (.t 21), none, 0, [2]⟩,
 ⟨some 23, .call 124 [Kh, .s] [.t 17, .t 22], none, 0, [2]⟩,
 Km 13 23,
 Kn 24 (.ext (.t 13) 0),
 Kn 25 (.ext (.t 13) 1),
 Kn 26 (.ext (.t 13) 2),
 Km 2 2,
 ⟨none, .store 2 (.t 2) (.t 24), none, 0, []⟩,
 Km 3 25,
 Km 4 26])) (.seq (.seq (.region [Km 27 4]) (.cond (.t 27) (.region [Kn 28 (.load true 2 (.t 2)),
 Kn 29 (.bsl 25 2 (.a [.s, .s]) [.t 28]),
 Km 3 29]) .skip)) (.region [Km 30 0,
 Km 31 4,
 Km 32 3,
 Kn 33 (.build [.sc (.int .i64 0), .sc (.int .u32 0), .sc (.int .u8 0), .sc (.bool false), .sc (.int .u64 0), .sc (.string ⟨#[]⟩), .sc (.string ⟨#[]⟩), .sc (.int .u64 0), .sc (.int .u16 0), .lit 0 true [], .lit 0 true []] [(0, 1, .c (.sc (.int .i64 2))), (3, 1, .t 31), (9, 1, .t 32)]),
 Kn 34 (.call 125 [.s, Kg] [.t 30, .t 33])]))))⟩
def g55 : Fn := g55F
theorem cmp55 : cmpFn Tryz.prog .mv [1000016] 55 = some g55 := by kernel_rfl
def b56_0F : Cd := (.seq (.seq (.region [Kn 23 (.fad (.t 3) 3),
 Kn 24 (.load false 1 (.t 23))]) (.cond (.t 24) (.region [Km 25 0,
 Kn 26 (.nck (.t 25)),
 Kn 27 (.fad (.t 26) 0),
 Kn 28 (.fad (.t 27) 4),
 Kn 29 (.load false 1 (.t 28)),
 Kn 30 (.iadS 81 (.t 29) K0),
 Kn 31 (.fad (.t 30) 0),
 Kn 32 (.load true 2 (.t 31)),
 Kn 33 (.fad (.t 3) 7),
 ⟨none, .store 2 (.t 33) (.t 32), none, 0, []⟩]) .skip)) (.region [Km 34 0,
 Kn 35 (.load true 11 (.t 3)),
 Kn 36 (.call 125 [.s, Kg] [.t 34, .t 35])]))
def b56_0 : Cd := b56_0F
def g56F (c0 : Cd) : Fn := ⟨37, [], [], .mv,
 (.seq (.region [Km 4 0,
 Kn 5 (.nck (.t 4)),
 Kn 6 (.fad (.t 5) 0),
 Kn 7 (.fad (.t 6) 5),
 Kn 8 (.load false 1 (.t 7)),
 Kn 9 (.call 126 [.l 81] [.t 8]),
 Km 2 9]) (.seq (.region [Km 10 0,
 ⟨some 11, .nck (.t 10), none, 2, []⟩,
 ⟨some 12, .fad (.t 11) 0, none, 2, []⟩,
 ⟨some 13, .fad (.t 12) 4, none, 2, []⟩,
 ⟨some 14, .load false 1 (.t 13), none, 2, []⟩,
 ⟨some 15, .len false (.t 14), none, 2, []⟩,
 Kn 16 (.bin .gtr .num (.t 15) K0),
 Km 17 2,
 Km 18 2,
 ⟨some 19, .len false (.t 18), none, 2, []⟩,
 Kn 20 (.mx false [.t 19, .c (.sc (.int .i64 16))]),
 ⟨some 21, .sls 25 (.t 17) none (some (.t 20)), none, 2, []⟩,
 Kn 22 (.build [.sc (.int .i64 0), .sc (.int .u32 0), .sc (.int .u8 0), .sc (.bool false), .sc (.int .u64 0), .sc (.string ⟨#[]⟩), .sc (.string ⟨#[]⟩), .sc (.int .u64 0), .sc (.int .u16 0), .lit 0 true [], .lit 0 true []] [(0, 1, .c (.sc (.int .i64 4))), (3, 1, .t 16), (9, 1, .t 21)]),
 ⟨some 3, .box 37 11 Ky, none, 1, []⟩,
 ⟨none, .store 11 (.t 3) (.t 22), none, 0, []⟩]) (.seg [0, 3] [] c0)))⟩
def g56 : Fn := g56F b56_0
theorem cmp56 : cmpFn Tryz.prog .mv [1000016] 56 = some g56 := by kernel_rfl
def b57_0F : Cd := (.seq (.region [Km 82 0,
 Kn 83 (.load true 2 (.t 2)),
 Kn 84 (.build [.sc (.int .u64 0), .sc (.int .u16 0), .sc (.int .i64 0)] [(0, 2, .t 83)]),
 Kn 85 (.bslf 81 3 (.a [.s, .s, .s]) [.t 84]),
 Kn 86 (.nck (.t 82)),
 Kn 87 (.fad (.t 86) 0),
 Kn 88 (.fad (.t 87) 4),
 ⟨none, .store 1 (.t 88) (.t 85), none, 0, []⟩]) (.seq (.region [Kn 89 (.load true 2 (.t 3)),
 Kn 90 (.load true 2 (.t 2)),
 Kn 91 (.eqs false [.num, .num] (.t 89) (.t 90))]) (.cond (.t 91) (.ret []) .skip)))
def b57_0 : Cd := b57_0F
def b57_1F : Cd := (.seq (.region [Km 92 0,
 Kn 93 (.load true 2 (.t 2)),
 Kn 94 (.build [.sc (.int .u64 0), .sc (.int .u16 0), .sc (.int .i64 0)] [(0, 2, .t 93)]),
 Kn 95 (.bslf 81 3 (.a [.s, .s, .s]) [.t 94]),
 Kn 96 (.nck (.t 92)),
 Kn 97 (.fad (.t 96) 0),
 Kn 98 (.fad (.t 97) 4),
 ⟨none, .store 1 (.t 98) (.t 95), none, 0, []⟩]) (.region [Km 99 0,
 ⟨some 100, .load true 2 (.t 2), none, 2, []⟩,
 Km 101 0,
 Kn 102 (.nck (.t 101)),
 Kn 103 (.fad (.t 102) 0),
 Kn 104 (.fad (.t 103) 7),
 Kn 105 (.load false 1 (.t 104)),
 Km 106 0,
 Kn 107 (.nck (.t 106)),
 Kn 108 (.fad (.t 107) 0),
 Kn 109 (.fad (.t 108) 0),
 Kn 110 (.fad (.t 109) 0),
 Kn 111 (.load false 1 (.t 110)),
 Kn 112 (.fad (.t 2) 0),
 Kn 113 (.load false 1 (.t 112)),
 ⟨some 114, .call 130 [.l 78, .s, .s] [.t 105, .t 111, .t 113], none, 1, []⟩,
 Kn 115 (.call 129 [.s, .a [.s, .s], .l 78] [.t 99, .t 100, .t 114])]))
def b57_1 : Cd := b57_1F
def b57_2F (c0 : Cd) (c1 : Cd) : Cd := (.seq (.region [Km 30 0,
 Km 31 0,
 Kn 32 (.nck (.t 31)),
 Kn 33 (.fad (.t 32) 0),
 Kn 34 (.fad (.t 33) 0),
 Kn 35 (.load true 2 (.t 34)),
 Km 36 0,
 Kn 37 (.nck (.t 36)),
 Kn 38 (.fad (.t 37) 0),
 Kn 39 (.fad (.t 38) 5),
 Kn 40 (.load false 1 (.t 39)),
 Kn 41 (.load true 2 (.t 2)),
 Kn 42 (.call 127 [.a [.s, .s], .l 81, .a [.s, .s]] [.t 35, .t 40, .t 41]),
 Kn 43 (.nck (.t 30)),
 Kn 44 (.fad (.t 43) 0),
 Kn 45 (.fad (.t 44) 5),
 ⟨none, .store 1 (.t 45) (.t 42), none, 0, []⟩]) (.seq (.region [Kn 46 (.build [.sc (.int .u64 0), .sc (.int .u16 0)] []),
 Kn 3 (.box 25 2 (.c (.agg [.sc (.int .u64 0), .sc (.int .u16 0)]))),
 ⟨none, .store 2 (.t 3) (.t 46), none, 0, []⟩]) (.seq (.seq (.region [Km 47 0,
 Kn 48 (.nck (.t 47)),
 Kn 49 (.fad (.t 48) 0),
 Kn 50 (.fad (.t 49) 4),
 Kn 51 (.load false 1 (.t 50)),
 Kn 52 (.len false (.t 51)),
 Kn 53 (.bin .gtr .num (.t 52) K0),
 Km 4 53]) (.seq (.region [Km 54 4]) (.cond (.t 54) (.seq (.region [Km 55 0,
 Kn 56 (.nck (.t 55)),
 Kn 57 (.fad (.t 56) 0),
 Kn 58 (.fad (.t 57) 4),
 Kn 59 (.load false 1 (.t 58)),
 Kn 60 (.iadS 81 (.t 59) K0),
 Kn 61 (.fad (.t 60) 0),
 Kn 62 (.load true 2 (.t 61)),
 ⟨none, .store 2 (.t 3) (.t 62), none, 0, []⟩]) (.seq (.seq (.region [Kn 63 (.fad (.t 3) 1),
 Kn 64 (.load false 1 (.t 63)),
 Kn 65 (.fad (.t 2) 1),
 Kn 66 (.load false 1 (.t 65)),
 Kn 67 (.bin .neq .num (.t 64) (.t 66)),
 Km 68 67,
 ⟨some 69, .fad (.t 3) 0, some (68, true), 0, []⟩,
 ⟨some 70, .load false 1 (.t 69), some (68, true), 0, []⟩,
 ⟨some 71, .fad (.t 2) 0, some (68, true), 0, []⟩,
 ⟨some 72, .load false 1 (.t 71), some (68, true), 0, []⟩,
 ⟨some 73, .mov (.t 0), some (68, true), 0, []⟩,
 ⟨some 74, .nck (.t 73), some (68, true), 0, []⟩,
 ⟨some 75, .fad (.t 74) 0, some (68, true), 0, []⟩,
 ⟨some 76, .fad (.t 75) 0, some (68, true), 0, []⟩,
 ⟨some 77, .fad (.t 76) 0, some (68, true), 0, []⟩,
 ⟨some 78, .load false 1 (.t 77), some (68, true), 0, []⟩,
 ⟨some 79, .call 128 [.s, .s, .s] [.t 70, .t 72, .t 78], some (68, true), 0, []⟩,
 ⟨some 80, .un .not (.t 79), some (68, true), 0, []⟩,
 Kn 81 (.pick (.t 68) (.t 80) Kf)]) (.cond (.t 81) (.ret []) .skip)) (.seg [3, 0, 2] [0, 2] c0))) .skip))) (.seg [0, 2] [] c1))))
def b57_2 : Cd := b57_2F b57_0 b57_1
def g57F (c2 : Cd) : Fn := ⟨116, [], [], .mv,
 (.seq (.region [Km 5 0,
 Kn 6 (.call 61 [.s] [.t 5])]) (.seq (.region [Km 7 0,
 Kn 8 (.nck (.t 7)),
 Kn 9 (.fad (.t 8) 15),
 Kn 10 (.fad (.t 9) 7),
 Kn 11 (.load true 2 (.t 10)),
 Kn 2 (.box 25 2 (.c (.agg [.sc (.int .u64 0), .sc (.int .u16 0)]))),
 ⟨none, .store 2 (.t 2) (.t 11), none, 0, []⟩]) (.seq (.seq (.region [Kn 12 (.fad (.t 2) 1),
 Kn 13 (.load false 1 (.t 12)),
 Km 14 0,
 Kn 15 (.nck (.t 14)),
 Kn 16 (.fad (.t 15) 14),
 Kn 17 (.load false 1 (.t 16)),
 Kn 18 (.bin .neq .num (.t 13) (.t 17)),
 Km 19 18,
 ⟨some 20, .fad (.t 2) 1, some (19, false), 0, []⟩,
 ⟨some 21, .load false 1 (.t 20), some (19, false), 0, []⟩,
 ⟨some 22, .mov (.t 0), some (19, false), 0, []⟩,
 ⟨some 23, .nck (.t 22), some (19, false), 0, []⟩,
 ⟨some 24, .fad (.t 23) 0, some (19, false), 0, []⟩,
 ⟨some 25, .fad (.t 24) 0, some (19, false), 0, []⟩,
 ⟨some 26, .fad (.t 25) 1, some (19, false), 0, []⟩,
 ⟨some 27, .load false 1 (.t 26), some (19, false), 0, []⟩,
 ⟨some 28, .bin .eql .num (.t 21) (.t 27), some (19, false), 0, []⟩,
 Kn 29 (.pick (.t 19) Kt (.t 28))]) (.cond (.t 29) (.ret []) .skip)) (.seg [0, 2] [] c2))))⟩
def g57 : Fn := g57F b57_2
theorem cmp57 : cmpFn Tryz.prog .mv [1000016, 60000000000085, 60000000000095] 57 = some g57 := by kernel_rfl
def g58F : Fn := ⟨47, [], [], .mv,
 (.seq (.seq (.region [Km 5 0,
 Kn 6 (.call 131 [.s] [.t 5]),
 Kn 7 (.un .not (.t 6))]) (.cond (.t 7) (.ret []) .skip)) (.seq (.seq (.region [Kn 2 (.box 34 14 Kz)]) (.region [Km 9 0,
 ⟨some 10, .nck (.t 9), none, 0, [2]⟩,
 ⟨some 11, .fad (.t 10) 0, none, 0, [2]⟩,
 ⟨some 12, .load true 14 (.t 11), none, 0, [2]⟩,
 Km 13 0,
 ⟨some 14, .nck (.t 13), none, 0, [2]⟩,
 ⟨some 15, .fad (.t 14) 15, none, 0, [2]⟩,
 ⟨some 16, .fad (.t 15) 5, none, 0, [2]⟩,
 ⟨some 17, .load false 1 (.t 16), none, 0, [2]⟩,
 Km 18 0,
 ⟨some 19, .nck (.t 18), none, 0, [2]⟩,
 ⟨some 20, .fad (.t 19) 15, none, 0, [2]⟩,
 ⟨some 21, .fad (.t 20) 6, none, 0, [2]⟩,
 ⟨some 22, .load false 1 (.t 21), none, 0, [2]⟩,
 ⟨some 23, .call 20 [Kh, .s, .s] [.t 12, .t 17, .t 22], none, 0, [2]⟩,
 Km 8 23,
 Kn 24 (.ext (.t 8) 0),
 Kn 25 (.ext (.t 8) 1),
 Kn 26 (.ext (.t 8) 2),
 Km 2 2,
 ⟨none, .store 14 (.t 2) (.t 24), none, 0, []⟩,
 Km 3 25,
 Km 4 26])) (.seq (.seq (.region [Km 27 4,
 Kn 28 (.bin .neq .num (.t 27) K0)]) (.cond (.t 28) (.seq (.region [Km 29 0,
 Km 30 4,
 Kn 31 (.call 123 [.s, .s] [.t 29, .t 30])]) (.ret [])) .skip)) (.seq (.region [Km 32 0,
 Kn 33 (.call 61 [.s] [.t 32])]) (.region [Km 34 0,
 Km 35 0,
 ⟨some 36, .load true 14 (.t 2), none, 2, []⟩,
 Km 37 0,
 Kn 38 (.nck (.t 37)),
 Kn 39 (.fad (.t 38) 26),
 Kn 40 (.load false 1 (.t 39)),
 Km 41 3,
 ⟨some 42, .app 56 136 (.t 40) (.t 41), none, 1, []⟩,
 Kn 43 (.nck (.t 34)),
 Kn 44 (.fad (.t 43) 0),
 ⟨none, .store 14 (.t 44) (.t 36), none, 0, []⟩,
 Kn 45 (.nck (.t 35)),
 Kn 46 (.fad (.t 45) 26),
 ⟨none, .store 1 (.t 46) (.t 42), none, 0, []⟩])))))⟩
def g58 : Fn := g58F
theorem cmp58 : cmpFn Tryz.prog .mv [1000016] 58 = some g58 := by kernel_rfl
def g59F : Fn := ⟨25, [], [], .mv,
 (.seq (.region [Km 4 0,
 Kn 5 (.call 131 [.s] [.t 4])]) (.cond (.t 5) (.seq (.region [Km 7 0,
 Kn 8 (.nck (.t 7)),
 Kn 9 (.fad (.t 8) 0),
 Kn 10 (.fad (.t 9) 7),
 Kn 11 (.load false 1 (.t 10)),
 Km 12 0,
 Kn 13 (.nck (.t 12)),
 Kn 14 (.fad (.t 13) 15),
 Kn 15 (.fad (.t 14) 5),
 Kn 16 (.load false 1 (.t 15)),
 Kn 17 (.call 132 [.l 78, .s] [.t 11, .t 16]),
 Km 6 17,
 Kn 18 (.ext (.t 6) 0),
 Kn 19 (.ext (.t 6) 1),
 Km 2 18,
 Km 3 19]) (.region [Km 20 0,
 Km 21 3,
 Km 22 2,
 Kn 23 (.build [.sc (.int .i64 0), .sc (.int .u32 0), .sc (.int .u8 0), .sc (.bool false), .sc (.int .u64 0), .sc (.string ⟨#[]⟩), .sc (.string ⟨#[]⟩), .sc (.int .u64 0), .sc (.int .u16 0), .lit 0 true [], .lit 0 true []] [(0, 1, .c (.sc (.int .i64 9))), (3, 1, .t 21), (6, 1, .t 22)]),
 Kn 24 (.call 125 [.s, Kg] [.t 20, .t 23])])) .skip))⟩
def g59 : Fn := g59F
theorem cmp59 : cmpFn Tryz.prog .mv [1000016] 59 = some g59 := by kernel_rfl
def b60_0F : Cd := (.seq (.region [Kn 39 (.bin .lss .num (.t 38) (.t 37))]) (.seq (.cond (.t 39) .skip (.exit 0 [])) (.seq (.block 1 (.seq (.region [Kn 40 (.iadS 78 (.t 36) (.t 38)),
 Kn 41 (.load true 2 (.t 40)),
 Kn 3 (.box 78 2 (.c (.agg [.sc (.string ⟨#[]⟩), .sc (.string ⟨#[]⟩)]))),
 ⟨none, .store 2 (.t 3) (.t 41), none, 0, []⟩]) (.seq (.region [Km 43 0,
 Kn 44 (.nck (.t 43)),
 Kn 45 (.fad (.t 44) 0),
 Kn 46 (.fad (.t 45) 7),
 Kn 47 (.load false 1 (.t 46)),
 Kn 48 (.fad (.t 3) 0),
 Kn 49 (.load false 1 (.t 48)),
 Kn 50 (.fad (.t 3) 1),
 Kn 51 (.load false 1 (.t 50)),
 Kn 52 (.call 75 [.l 78, .s, .s] [.t 47, .t 49, .t 51]),
 Km 42 52,
 Kn 53 (.ext (.t 42) 0),
 Kn 54 (.ext (.t 42) 1),
 Km 4 53,
 Km 5 54]) (.seq (.region [Km 55 5,
 Kn 56 (.bin .eql .num (.t 55) K0)]) (.cond (.t 56) (.region [Km 57 0,
 Km 58 4,
 Kn 59 (.callz 50 [.l 78] [.t 58]),
 Kn 60 (.nck (.t 57)),
 Kn 61 (.fad (.t 60) 0),
 Kn 62 (.fad (.t 61) 7),
 ⟨none, .store 1 (.t 62) (.t 59), none, 0, []⟩]) .skip))))) (.region [Kn 63 (.bin .add .num (.t 38) K1n),
 Km 38 63]))))
def b60_0 : Cd := b60_0F
def g60F (c0 : Cd) : Fn := ⟨64, [], [], .mv,
 (.seq (.region [Km 6 0,
 Kn 7 (.call 61 [.s] [.t 6])]) (.seq (.seq (.region [Km 8 0,
 Kn 9 (.nck (.t 8)),
 Kn 10 (.fad (.t 9) 15),
 Kn 11 (.fad (.t 10) 3),
 Kn 12 (.load false 1 (.t 11)),
 Kn 13 (.un .not (.t 12))]) (.cond (.t 13) (.seq (.region [Km 15 0,
 Km 16 0,
 Kn 17 (.nck (.t 16)),
 Kn 18 (.fad (.t 17) 0),
 Kn 19 (.fad (.t 18) 7),
 Kn 20 (.load false 1 (.t 19)),
 Km 21 0,
 Kn 22 (.nck (.t 21)),
 Kn 23 (.fad (.t 22) 15),
 Kn 24 (.fad (.t 23) 10),
 Kn 25 (.load false 1 (.t 24)),
 Kn 26 (.call 133 [.l 78, .l 78] [.t 20, .t 25]),
 Km 14 26,
 Kn 27 (.ext (.t 14) 0),
 Kn 28 (.ext (.t 14) 1),
 Kn 29 (.nck (.t 15)),
 Kn 30 (.fad (.t 29) 0),
 Kn 31 (.fad (.t 30) 7),
 ⟨none, .store 1 (.t 31) (.t 27), none, 0, []⟩]) (.ret [])) .skip)) (.seq (.region [Km 32 0,
 Kn 33 (.nck (.t 32)),
 Kn 34 (.fad (.t 33) 15),
 Kn 35 (.fad (.t 34) 10),
 Kn 36 (.load false 1 (.t 35)),
 Kn 37 (.len false (.t 36)),
 Kn 38 (.mov K0)]) (.block 0 (.loop [37, 36, 0, 38] c0)))))⟩
def g60 : Fn := g60F b60_0
theorem cmp60 : cmpFn Tryz.prog .mv [1000016, 59] 60 = some g60 := by kernel_rfl
def g61F : Fn := ⟨5, [], [], .mv,
 (.region [Km 2 0,
 Kn 3 (.build [.sc (.int .i64 0), .sc (.int .u32 0), .sc (.int .u8 0), .sc (.bool false), .sc (.int .u64 0), .sc (.string ⟨#[]⟩), .sc (.string ⟨#[]⟩), .sc (.int .u64 0), .sc (.int .u16 0), .lit 0 true [], .lit 0 true []] [(0, 1, .c (.sc (.int .i64 6)))]),
 Kn 4 (.call 125 [.s, Kg] [.t 2, .t 3])])⟩
def g61 : Fn := g61F
theorem cmp61 : cmpFn Tryz.prog .mv [1000016] 61 = some g61 := by kernel_rfl
def g62F : Fn := ⟨14, [.t 6], [.l 56], .keep,
 (.seq (.region [Kn 5 (.box 37 11 (.t 2)),
 Kn 6 (.nil 56)]) (.seq (.region [Km 7 1,
 Kn 8 (.fad (.t 5) 1),
 ⟨none, .store 1 (.t 8) (.t 7), none, 0, []⟩]) (.seq (.region [Km 9 0,
 Kn 10 (.build [.sc (.int .u64 0), .sc (.int .u16 0)] [(1, 1, .t 9)]),
 Kn 11 (.load true 11 (.t 5)),
 Kn 12 (.build [.sc (.int .u64 0), .sc (.int .u16 0), .sc (.int .i64 0), .sc (.int .u32 0), .sc (.int .u8 0), .sc (.bool false), .sc (.int .u64 0), .sc (.string ⟨#[]⟩), .sc (.string ⟨#[]⟩), .sc (.int .u64 0), .sc (.int .u16 0), .lit 0 true [], .lit 0 true []] [(0, 2, .t 10), (2, 11, .t 11)]),
 Kn 13 (.bslr 56 13 (.a [.s, .s, .s, .s, .s, .s, .s, .s, .s, .s, .s, .l 25, .l 78]) [.t 12]),
 Km 6 13]) (.ret [6]))))⟩
def g62 : Fn := g62F
theorem cmp62 : cmpFn Tryz.prog .keep [1000016, 70000000000013, 1000600056] 62 = some g62 := by kernel_rfl
def b63_0F : Cd := (.seq (.region [Kn 63 (.fad (.t 2) 0),
 Kn 64 (.load true 2 (.t 63)),
 Kn 65 (.fad (.t 2) 5),
 Kn 66 (.load false 1 (.t 65)),
 Kn 67 (.fad (.t 2) 6),
 Kn 68 (.load false 1 (.t 67)),
 Km 69 1,
 Kn 70 (.call 135 [.a [.s, .s], .l 81, .l 84, .s, .s] [.t 64, .t 66, .t 68, .t 69, .c (.sc (.int .i64 4))]),
 Km 8 70]) (.seq (.seq (.region [Km 71 8,
 Kn 72 (.len false (.t 71)),
 Kn 73 (.bin .eql .num (.t 72) K0)]) (.cond (.t 73) (.seq (.region [Kn 74 (.fad (.t 2) 0),
 Kn 75 (.load true 2 (.t 74)),
 ⟨none, .store 2 (.t 4) (.t 75), none, 0, []⟩,
 Kn 5 (.nil 25),
 Kn 6 (.mov Kt)]) (.ret [4, 5, 6])) .skip)) (.seq (.region [Kn 76 (.build [.sc (.int .u64 0), .sc (.int .u16 0)] []),
 Km 77 8,
 ⟨none, .store 2 (.t 4) (.t 76), none, 0, []⟩,
 Km 5 77,
 Kn 6 (.mov Kf)]) (.ret [4, 5, 6]))))
def b63_0 : Cd := b63_0F
def b63_1F (c0 : Cd) : Cd := (.seq (.seq (.region [Kn 24 (.fad (.t 2) 0),
 Kn 25 (.fad (.t 24) 0),
 Kn 26 (.load false 1 (.t 25)),
 Km 27 1,
 Km 28 7,
 Kn 29 (.iadS 25 (.t 28) K0),
 Kn 30 (.fad (.t 29) 0),
 Kn 31 (.load false 1 (.t 30)),
 Kn 32 (.call 134 [.s, .s, .s] [.t 26, .t 27, .t 31])]) (.cond (.t 32) (.seq (.region [Km 33 7,
 Kn 34 (.iadS 25 (.t 33) K0),
 Kn 35 (.load true 2 (.t 34)),
 ⟨none, .store 2 (.t 4) (.t 35), none, 0, []⟩,
 Kn 5 (.nil 25),
 Kn 6 (.mov Kt)]) (.ret [4, 5, 6])) .skip)) (.seq (.seq (.region [Kn 36 (.fad (.t 2) 4),
 Kn 37 (.load false 1 (.t 36)),
 Kn 38 (.len false (.t 37)),
 Kn 39 (.bin .gtr .num (.t 38) K0),
 Km 40 39,
 ⟨some 41, .fad (.t 2) 4, some (40, true), 0, []⟩,
 ⟨some 42, .load false 1 (.t 41), some (40, true), 0, []⟩,
 ⟨some 43, .iadS 81 (.t 42) K0, some (40, true), 0, []⟩,
 ⟨some 44, .fad (.t 43) 2, some (40, true), 0, []⟩,
 ⟨some 45, .load false 1 (.t 44), some (40, true), 0, []⟩,
 ⟨some 46, .bin .lss .num (.t 45) K1n, some (40, true), 0, []⟩,
 Kn 47 (.pick (.t 40) (.t 46) Kf),
 Km 48 47,
 ⟨some 49, .fad (.t 2) 4, some (48, true), 0, []⟩,
 ⟨some 50, .load false 1 (.t 49), some (48, true), 0, []⟩,
 ⟨some 51, .iadS 81 (.t 50) K0, some (48, true), 0, []⟩,
 ⟨some 52, .fad (.t 51) 0, some (48, true), 0, []⟩,
 ⟨some 53, .fad (.t 52) 0, some (48, true), 0, []⟩,
 ⟨some 54, .load false 1 (.t 53), some (48, true), 0, []⟩,
 ⟨some 55, .mov (.t 1), some (48, true), 0, []⟩,
 ⟨some 56, .fad (.t 2) 0, some (48, true), 0, []⟩,
 ⟨some 57, .fad (.t 56) 0, some (48, true), 0, []⟩,
 ⟨some 58, .load false 1 (.t 57), some (48, true), 0, []⟩,
 ⟨some 59, .call 134 [.s, .s, .s] [.t 54, .t 55, .t 58], some (48, true), 0, []⟩,
 Kn 60 (.pick (.t 48) (.t 59) Kf)]) (.cond (.t 60) (.seq (.region [Kn 61 (.fad (.t 2) 0),
 Kn 62 (.load true 2 (.t 61)),
 ⟨none, .store 2 (.t 4) (.t 62), none, 0, []⟩,
 Kn 5 (.nil 25),
 Kn 6 (.mov Kt)]) (.ret [4, 5, 6])) .skip)) (.seg [1, 2, 4] [4, 5, 6] c0)))
def b63_1 : Cd := b63_1F b63_0
def g63F (c1 : Cd) : Fn := ⟨78, [.cell 4 true 2, .t 5, .t 6], [.a [.s, .s], .l 25, .s], .lit,
 (.seq (.region [Kn 2 (.box 34 14 (.t 0)),
 Kn 4 (.box 25 2 (.c (.agg [.sc (.int .u64 0), .sc (.int .u16 0)]))),
 Kn 5 (.nil 25),
 Kn 6 (.mov Kf)]) (.seq (.region [Kn 9 (.fad (.t 2) 5),
 Kn 10 (.load false 1 (.t 9)),
 Kn 11 (.call 78 [.l 81] [.t 10]),
 Km 7 11]) (.seq (.seq (.region [Km 12 7,
 Kn 13 (.len false (.t 12)),
 Kn 14 (.bin .eql .num (.t 13) K0),
 Km 15 14,
 ⟨some 16, .mov (.t 1), some (15, false), 0, []⟩,
 ⟨some 17, .fad (.t 2) 0, some (15, false), 0, []⟩,
 ⟨some 18, .fad (.t 17) 0, some (15, false), 0, []⟩,
 ⟨some 19, .load false 1 (.t 18), some (15, false), 0, []⟩,
 ⟨some 20, .bin .eql .num (.t 16) (.t 19), some (15, false), 0, []⟩,
 Kn 21 (.pick (.t 15) Kt (.t 20))]) (.cond (.t 21) (.seq (.region [Kn 22 (.fad (.t 2) 0),
 Kn 23 (.load true 2 (.t 22)),
 ⟨none, .store 2 (.t 4) (.t 23), none, 0, []⟩,
 Kn 5 (.nil 25),
 Kn 6 (.mov Kt)]) (.ret [4, 5, 6])) .skip)) (.seg [7, 1, 2, 4] [4, 5, 6] c1))))⟩
def g63 : Fn := g63F b63_1
theorem cmp63 : cmpFn Tryz.prog .lit [1000016, 1000500025] 63 = some g63 := by kernel_rfl
def b64_0F : Cd := (.seq (.seq (.region [Km 5 4,
 Km 6 0,
 Kn 7 (.len false (.t 6)),
 Kn 8 (.bin .lss .num (.t 5) (.t 7))]) (.cond (.t 8) .skip (.exit 0 [3]))) (.seq (.block 1 (.region [Km 11 3,
 Km 12 0,
 Km 13 4,
 Kn 14 (.iadS 81 (.t 12) (.t 13)),
 Kn 15 (.fad (.t 14) 0),
 Kn 16 (.load true 2 (.t 15)),
 Kn 17 (.bsl 25 2 (.a [.s, .s]) [.t 16]),
 Kn 18 (.app 25 16 (.t 11) (.t 17)),
 Km 3 18])) (.region [Km 9 4,
 Kn 10 (.bin .add .num (.t 9) K1n),
 Km 4 10])))
def b64_0 : Cd := b64_0F
def g64F (c0 : Cd) : Fn := ⟨20, [.t 2], [.l 25], .keep,
 (.seq (.region [Kn 2 (.nil 25)]) (.seq (.region [Kn 3 (.nil 25)]) (.seq (.seq (.region [Kn 4 (.mov K0)]) (.block 0 (.loop [0, 4, 3] c0))) (.seq (.region [Km 19 3,
 Km 2 19]) (.ret [2])))))⟩
def g64 : Fn := g64F b64_0
theorem cmp64 : cmpFn Tryz.prog .keep [1000016, 1000300025, 1000200025] 64 = some g64 := by kernel_rfl
end Go.Ab.Tryz
