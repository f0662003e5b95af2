/- Our texts for this statement, merged: what its theorem leads to. -/
import Derived.RangeFuncMany
import Derived.Test.YtpiabgfedgddeaaDoorQStore16
set_option linter.unusedVariables false
set_option linter.unusedSimpArgs false
namespace Go.Proofs
open Go.RowKit Go.Shelf
attribute [local go_sem] Oper.semAt_some
theorem step_app_in {F : Fence} {n : Nat} {P : Program} {w : World} {ops : Array Oper} {o : Oper} {a : Act} {K : Act → World → Prop} {Q : Exit → Act → World → Prop} {E : Prop}
    (hg : o.guard = none) (s x : Operand) (t : TypeId) (hop : o.op = Op.call { callee := Callee.builtin Builtin.append, args := #[s, x], argTypes := #[t, t] })
    (base : Nat) (e : TypeId) (i : TypeInfo) (z : Value) (size bytes : Nat) (h1 : P.underlying t = some (.slice e)) (h2 : P.info? e = some i) (h3 : i.zero = some z) (h4 : i.size = size) (h5 : i.bytes = bytes) (h6 : z.cells.size = size) (h7 : 0 < size)
    (v : Value) (k : Nat) (xs : List Value) (hs : a.eval s = v) (hown : w.ownsRow base e size v k xs) (ad : Addr) (m c : Nat) (news : List Value) (hx : a.eval x = .slice (some ad) m c) (hn : news.length = m * size)
    (hc : ∀ j u, news[j]? = some u → w.cell? (ad.add j) = some u) (h1c : ∀ u ∈ news, u.oneCell' = true) (b1 : k + m ≤ maxLen) (b2 : (k + m) * bytes ≤ 140737488355328) (b3 : base ≤ w.heap.size)
    (hK : ∀ v' w', w'.ownsRow base e size v' (k + m) (xs ++ news) → w.grownBy w' v.ownBlock → (v' = .slice none 0 0 ↔ v = .slice none 0 0 ∧ m = 0) → K (a.put o.dst v') w') :
    if Region.wanted o (yielded ops a.tmps) = true then Oper.wpIn F n P o a w K Q else E := by
  have hw : Region.wanted o (yielded ops a.tmps) = true := by simp [Region.wanted, hg]
  rw [if_pos hw]
  obtain ⟨v', w', hrun, r1, r2, r3⟩ := run_append_own (P := P) w base t o.type e i z size bytes h1 h2 h3 h4 h5 h6 h7 v k xs hown ad m c news hn hc h1c b1 b2 b3
  unfold Oper.wpIn
  refine ⟨?_, ?_⟩
  · simp [Oper.about, hop, resolve, Target.leads, Sem.run_pure]
  · rw [Oper.semAt_plain F _ _ (by rw [hop]; intro c hc'; cases hc')]
    simp [execOp, hop, resolve, invoke, builtin, hs, hx, hrun, Result.andThen]
    exact hK v' w' r1 r2 r3
theorem row_ne {W : World} {base : Nat} {e : TypeId} {size : Nat} {v : Value} {k : Nat} {xs : List Value} {row : Option Nat} (h : W.ownsRow base e size v k xs) (hr : ∀ r, row = some r → ∃ o : Obj, W.heap[r]? = some o ∧ o.isCells = false) : v.ownBlock = none ∨ v.ownBlock ≠ row := by
  rcases h.2 with ⟨rfl, _⟩ | ⟨g, cap, cur, rfl, _, hgb, _⟩
  · exact .inl rfl
  · refine .inr fun e' => ?_
    obtain ⟨o, ho, hc⟩ := hr g e'.symm
    rw [hgb] at ho; cases ho; cases hc
theorem rows_ne {W : World} {base base' : Nat} {e e' : TypeId} {size size' : Nat} {v v' : Value} {k k' : Nat} {xs xs' : List Value} (h : W.ownsRow base e size v k xs) (h' : W.ownsRow base' e' size' v' k' xs') (hne : e ≠ e') : v.ownBlock = none ∨ v.ownBlock ≠ v'.ownBlock := by
  rcases h.2 with ⟨rfl, _⟩ | ⟨g, cap, cur, rfl, _, hgb, _⟩
  · exact .inl rfl
  · refine .inr fun e'' => ?_
    rcases h'.2 with ⟨rfl, _⟩ | ⟨g', cap', cur', rfl, _, hgb', _⟩
    · cases e''
    · have : g = g' := by simpa [Value.ownBlock] using e''
      subst this
      rw [hgb] at hgb'; cases hgb'; exact hne rfl
theorem row_low {W : World} {base : Nat} {e : TypeId} {size : Nat} {v : Value} {k : Nat} {xs : List Value} {B : Nat} (h : W.ownsRow base e size v k xs) (hB : B < base) : v.ownBlock = none ∨ v.ownBlock ≠ some B := by
  rcases h.2 with ⟨rfl, _⟩ | ⟨g, cap, cur, rfl, hg, _, _⟩
  · exact .inl rfl
  · refine .inr fun e'' => ?_
    have : g = B := by simpa [Value.ownBlock] using e''
    omega
theorem row_low' {W : World} {base : Nat} {e : TypeId} {size : Nat} {v : Value} {k : Nat} {xs : List Value} {B : Nat} (h : W.ownsRow base e size v k xs) (hB : B < base) : some B ≠ v.ownBlock := by
  rcases row_low h hB with e' | e'
  · rw [e']; simp
  · exact fun e'' => e' e''.symm
theorem row_below {W W' : World} {base m : Nat} {e : TypeId} {size : Nat} {v : Value} {k : Nat} {xs : List Value} (h : W.ownsRow base e size v k xs) (hb : Below m W W') (hm : W.heap.size ≤ m) : W'.ownsRow base e size v k xs := by
  refine ⟨h.1, ?_⟩
  rcases h.2 with hn | ⟨g, cap, cur, rfl, hg, hgb, rest⟩
  · exact .inl hn
  · exact .inr ⟨g, cap, cur, rfl, hg, (hb.block g (by have := (Array.getElem?_eq_some_iff.1 hgb).1; omega)).trans hgb, rest⟩
theorem row_base {W : World} {base base' : Nat} {e : TypeId} {size : Nat} {v : Value} {k : Nat} {xs : List Value} (h : W.ownsRow base e size v k xs) (hb : base' ≤ base) : W.ownsRow base' e size v k xs := by
  refine ⟨h.1, ?_⟩
  rcases h.2 with hn | ⟨g, cap, cur, hv, hbg, rest⟩
  · exact .inl hn
  · exact .inr ⟨g, cap, cur, hv, Nat.le_trans hb hbg, rest⟩
def chLen (len k : Nat) : Nat := min 8 (len - 8 * k)
structure ChI (B N0 len : Nat) (news : Nat → List Value) (pre : List Nat) (W : World) : Prop where
  size : N0 ≤ W.heap.size
  have_ : ∃ v svs, Boxed W B 34 v ∧ svs.length = pre.length ∧ W.ownsRow N0 22 1 v svs.length svs ∧ ∀ (j k : Nat) (sv : Value), svs[j]? = some sv → pre[j]? = some k → W.ownsRow N0 41 2 sv (chLen len k) (news k)
theorem ChI.grown {B N0 len : Nat} {news : Nat → List Value} {pre : List Nat} {W W' : World} {row : Option Nat} (h : ChI B N0 len news pre W) (hg : W.grownBy W' row) (hr : ∀ r, row = some r → ∃ o : Obj, W.heap[r]? = some o ∧ o.isCells = false) : ChI B N0 len news pre W' := by
  obtain ⟨hs, v, svs, hb, hl, hrow, heach⟩ := h
  exact ⟨Nat.le_trans hs hg.size, v, svs, hb.kept hg (fun e => by obtain ⟨o, ho, hc⟩ := hr B e.symm; have hb' : W.heap[B]? = _ := hb; rw [hb'] at ho; cases ho; cases hc), hl, hrow.kept hg (row_ne hrow hr), fun j k sv h1 h2 => (heach j k sv h1 h2).kept hg (row_ne (heach j k sv h1 h2) hr)⟩
def pact (a : Option Addr) (len cap b off B S k : Nat) : Act := { tmps := #[.slice a len cap, undef, .slice none 0 0, .pointer (some ⟨B, 0, none⟩), chVal b off len k, .slice a len cap, .func (.func 80) #[] #[.pointer (some ⟨S, 0, none⟩), .pointer (some ⟨S + 1, 0, none⟩)], chVal b off len k, undef, undef, undef, undef, undef, undef], defers := [] }
def pbody : Code := (Code.block 1
        (Code.region 4
          #[{ dst := some 8, op := Op.load 34 (Operand.tmp 3), type := 34, pos := "store.go:84", after := #[], guard := none },
            { dst := some 9, op := Op.move (Operand.tmp 4), type := 22, pos := "store.go:84", after := #[], guard := none },
            { dst := some 10, op := Op.call { callee := Callee.value (Operand.func 33), args := #[Operand.tmp 9], argTypes := #[22] }, type := 22, pos := "store.go:84", after := #[{ on := 1, ground := Ground.data }], guard := none },
            { dst := some 11, op := Op.buildSlice 34 1 #[(0, Operand.tmp 10)], type := 34, pos := "store.go:84", after := #[{ on := 2, ground := Ground.data }], guard := none },
            { dst := some 12, op := Op.call { callee := Callee.builtin Builtin.append, args := #[Operand.tmp 8, Operand.tmp 11], argTypes := #[34, 34] }, type := 34, pos := "store.go:84", after := #[{ on := 0, ground := Ground.data }, { on := 3, ground := Ground.data }, { on := 2, ground := Ground.chain }], guard := none },
            { dst := none, op := Op.store 34 (Operand.tmp 3) (Operand.tmp 12), type := 0, pos := "store.go:84", after := #[{ on := 4, ground := Ground.data }, { on := 4, ground := Ground.chain }, { on := 0, ground := Ground.phase }, { on := 1, ground := Ground.phase }, { on := 2, ground := Ground.phase }, { on := 3, ground := Ground.phase }, { on := 4, ground := Ground.phase }], guard := none }]
          true))
theorem info22 : (Tryd.prog.info? 22).map (fun i => (i.zero, i.size, i.bytes)) = some (some (.slice none 0 0), 1, 24) := by kernel_rfl
set_option maxRecDepth 100000 in
set_option maxHeartbeats 4000000 in
theorem pbody_in (n : Nat) (l : Nat) (hn : 1 ≤ n) (a : Option Addr) (b off len cap B S k N0 base : Nat) (news : Nat → List Value) (pre : List Nat) (W : World) (Q : Exit → Act → World → Prop)
    (hI : ChI B N0 len news pre W) (hlen : len ≤ 1000000) (hpre : pre.length < chN len) (hbB : base ≤ B) (hBN : B < N0) (hSN : S + 1 < N0) (hBS : B < S)
    (hcl : ∀ W', Below base W W' → Calls Tryd.prog 33 #[chVal b off len k] W' fun e w' => ∃ g cp, e = .returned (.slice (some ⟨g, 0, none⟩) (chLen len k) cp) ∧ w'.ownsRow W'.heap.size 41 2 (.slice (some ⟨g, 0, none⟩) (chLen len k) cp) (chLen len k) (news k) ∧ Below W'.heap.size W' w')
    (hQ : ∀ a' W', KeepsOthers W W' → Kpc base S (S + 1) W W' → ChI B N0 len news (pre ++ [k]) W' → Q .normal a' W') :
    pbody.wpIn (Fence.wide.inRound l) n Tryd.prog Q (pact a len cap b off B S k) W := by
  obtain ⟨hs0, v, svs, hB, hl1, hrow, heach⟩ := hI
  have hl0 := hl1.symm
  clear hl1
  have hmx : Tryd.prog.follows .mixedOrders = true := by kernel_rfl
  have hc1 : W.drew.cell? ⟨B, 0, none⟩ = some v := hB.cell
  have hbd : Below base W W.drew := ⟨rfl, rfl, rfl, Nat.le_refl _, fun _ _ => rfl⟩
  have hBlt : B < W.drew.heap.size := hB.lt
  obtain ⟨i0, hi, hz0, hz1, hz2⟩ := info_parts info22
  have tail : ∀ (w' : World) (g cp : Nat), w'.ownsRow W.drew.heap.size 41 2 (.slice (some ⟨g, 0, none⟩) (chLen len k) cp) (chLen len k) (news k) → Below W.drew.heap.size W.drew w' →
      wpAnyIn (Fence.wide.inRound l) n Tryd.prog .any #[{ dst := some 8, op := Op.load 34 (Operand.tmp 3), type := 34, pos := "store.go:84", after := #[], guard := none },
            { dst := some 9, op := Op.move (Operand.tmp 4), type := 22, pos := "store.go:84", after := #[], guard := none },
            { dst := some 10, op := Op.call { callee := Callee.value (Operand.func 33), args := #[Operand.tmp 9], argTypes := #[22] }, type := 22, pos := "store.go:84", after := #[{ on := 1, ground := Ground.data }], guard := none },
            { dst := some 11, op := Op.buildSlice 34 1 #[(0, Operand.tmp 10)], type := 34, pos := "store.go:84", after := #[{ on := 2, ground := Ground.data }], guard := none },
            { dst := some 12, op := Op.call { callee := Callee.builtin Builtin.append, args := #[Operand.tmp 8, Operand.tmp 11], argTypes := #[34, 34] }, type := 34, pos := "store.go:84", after := #[{ on := 0, ground := Ground.data }, { on := 3, ground := Ground.data }, { on := 2, ground := Ground.chain }], guard := none },
            { dst := none, op := Op.store 34 (Operand.tmp 3) (Operand.tmp 12), type := 0, pos := "store.go:84", after := #[{ on := 4, ground := Ground.data }, { on := 4, ground := Ground.chain }, { on := 0, ground := Ground.phase }, { on := 1, ground := Ground.phase }, { on := 2, ground := Ground.phase }, { on := 3, ground := Ground.phase }, { on := 4, ground := Ground.phase }], guard := none }] (Exit.inBlock 1 Q) 2 #[true, true, true, true, false, false]
        { tmps := #[.slice a len cap, undef, .slice none 0 0, .pointer (some ⟨B, 0, none⟩), chVal b off len k, .slice a len cap, .func (.func 80) #[] #[.pointer (some ⟨S, 0, none⟩), .pointer (some ⟨S + 1, 0, none⟩)], chVal b off len k, v, chVal b off len k, .slice (some ⟨g, 0, none⟩) (chLen len k) cp, .slice (some ⟨w'.heap.size, 0, none⟩) 1 1, undef, undef], defers := [] } (w'.alloc (.cells #[.slice (some ⟨g, 0, none⟩) (chLen len k) cp] 22)) := by
    intro w' g cp hr' hb0
    have hb' : Below W.heap.size W w' := ⟨hb0.os, hb0.tape, hb0.output, hb0.size, hb0.block⟩
    have hB' : Boxed w' B 34 v := (hb'.block B hBlt).trans hB
    have hrow' : (w'.alloc (.cells #[.slice (some ⟨g, 0, none⟩) (chLen len k) cp] 22)).ownsRow N0 22 1 v svs.length svs := (row_below hrow (W' := w') (m := W.heap.size) hb' (Nat.le_refl _)).alloc _
    have hss : W.heap.size ≤ w'.heap.size := hb'.size
    refine wpAnyIn_ready (rs := [4]) (by kernel_rfl) (by simp) ?_
    refine AllReadyIn.cons rfl (fun K hK => ?_) AllReadyIn.nil
    refine step_app_in rfl _ _ 34 rfl N0 22 i0 (.slice none 0 0) 1 24 Tryd.underlying34 hi hz0 hz1 hz2 rfl (by omega) v svs.length svs rfl hrow' ⟨w'.heap.size, 0, none⟩ 1 1 [.slice (some ⟨g, 0, none⟩) (chLen len k) cp] rfl rfl (cell_one_new _ _ _) (by simp [Value.oneCell']) (by unfold chN at hpre; unfold maxLen; omega) (by unfold chN at hpre; omega) (by simp; omega) ?_
    intro v3 w3 hown3 hg3 _
    refine hK _ _ ?_; clear hK K
    have hB3 : Boxed w3 B 34 v := (hB'.alloc _).kept hg3 (row_low' hrow' hBN)
    have hcb3 := hB3.cell
    have hfb3 := hB3.frozen
    obtain ⟨g3, cap3, rfl⟩ : ∃ g3 cap3, v3 = .slice (some ⟨g3, 0, none⟩) (svs.length + 1) cap3 := by
      rcases hown3.2 with ⟨_, h0⟩ | ⟨g3, cap3, _, h3, _⟩
      · omega
      · exact ⟨g3, cap3, h3⟩
    refine wpAnyIn_ready (rs := [5]) (by kernel_rfl) (by simp) ?_
    refine AllReadyIn.cons rfl (fun K hK => ?_) AllReadyIn.nil
    go_simp
    refine hK _ _ ?_; clear hK K
    refine wpAnyIn_done (by kernel_rfl) ?_ _
    obtain ⟨w4, hw4⟩ : ∃ w4, w3.setCell ⟨B, 0, none⟩ (.slice (some ⟨g3, 0, none⟩) (svs.length + 1) cap3) = w4 := ⟨_, rfl⟩
    rw [hw4]
    have hg4 : w3.grownBy w4 (some B) := by rw [← hw4]; exact grownBy_setCell' _ _ _
    have hcell3 : ∀ (j : Nat) (o : Obj), v.ownBlock = some j → (w'.alloc (.cells #[.slice (some ⟨g, 0, none⟩) (chLen len k) cp] 22)).heap[j]? = some o → o.isCells = true := by
      intro j o hj ho
      rcases hrow'.2 with ⟨rfl, _⟩ | ⟨g', cap', cur', rfl, _, hgb, _⟩
      · cases hj
      · have : g' = j := by simpa [Value.ownBlock] using hj
        subst this; rw [hgb] at ho; cases ho; rfl
    have kA : KeepsOthers W w' := ⟨hss, fun j o hj ho => (hb'.block j (Array.getElem?_eq_some_iff.1 hj).1).trans hj⟩
    refine hQ _ _ (((kA.trans (KeepsOthers.alloc _ _)).trans (KeepsOthers.of_grownBy hg3 hcell3)).trans (by rw [← hw4]; exact KeepsOthers.setCell _ _ _)) ?_ ?_
    ·
      have low : ∀ x, x < N0 → x ≠ B → w4.heap[x]? = W.heap[x]? := fun x hx hne => by
        have e4 : w4.heap[x]? = w3.heap[x]? := hg4.block x (by have := hg3.size; simp at this; omega) (fun e => hne (by cases e; rfl))
        have e3 : w3.heap[x]? = (w'.alloc (.cells #[.slice (some ⟨g, 0, none⟩) (chLen len k) cp] 22)).heap[x]? := hg3.block x (by simp; omega) (row_low' hrow' hx)
        rw [e4, e3, Below.heap_alloc _ _ x (by omega)]
        exact hb'.block x (by show x < W.heap.size; omega)
      refine ⟨⟨?_, ?_, ?_, ?_, fun x hx => low x (by omega) (by omega)⟩, low S (by omega) (by omega), low (S + 1) (by omega) (by omega)⟩
      · exact hg4.os.trans (hg3.os.trans hb'.os)
      · exact hg4.tape.trans (hg3.tape.trans hb'.tape)
      · exact hg4.output.trans (hg3.output.trans hb'.output)
      · have h1 := hg4.size; have h2 := hg3.size; simp at h2; omega
    · have hB4 : Boxed w4 B 34 (.slice (some ⟨g3, 0, none⟩) (svs.length + 1) cap3) := by rw [← hw4]; exact hB3.set _
      have hown4 := hown3.kept hg4 (row_low hown3 hBN)
      refine ⟨?_, _, svs ++ [.slice (some ⟨g, 0, none⟩) (chLen len k) cp], hB4, by simp [← hl0], by rw [List.length_append]; exact hown4, ?_⟩
      · have h1 := hg4.size; have h2 := hg3.size; simp at h2; omega
      · intro j k' sv hj hk'
        have fin : ∀ {sv : Value} {c : Nat} {ns : List Value}, w'.ownsRow N0 41 2 sv c ns → w4.ownsRow N0 41 2 sv c ns := fun h => by
          have h1 : (w'.alloc (.cells #[.slice (some ⟨g, 0, none⟩) (chLen len k) cp] 22)).ownsRow N0 41 2 _ _ _ := h.alloc _
          have h2 := h1.kept hg3 (rows_ne h1 hrow' (by decide))
          exact h2.kept hg4 (row_low h2 hBN)
        by_cases hjl : j < svs.length
        · rw [List.getElem?_append_left hjl] at hj
          rw [List.getElem?_append_left (by omega)] at hk'
          exact fin (row_below (heach j k' sv hj hk') hb' (Nat.le_refl _))
        · rw [List.getElem?_append_right (by omega)] at hj hk'
          have hj0 : j - svs.length = 0 := by
            have := (List.getElem?_eq_some_iff.1 hj).1; simp at this; omega
          have hj1 : j - pre.length = 0 := by omega
          rw [hj0] at hj; rw [hj1] at hk'
          simp at hj hk'
          subst hj; subst hk'
          exact fin (row_base hr' hs0)
  unfold pbody pact
  gi_wp2
  refine wpIn_region_any hmx ?_
  change wpAnyIn _ _ _ _ _ _ _ _ _ (World.drew _)
  refine wpAnyIn_ready (rs := [0, 1]) (by kernel_rfl) (by simp) ?_
  refine AllReadyIn.cons rfl (fun K hK => ?_) (AllReadyIn.cons rfl (fun K hK => ?_) AllReadyIn.nil)
  · go_simp
    refine hK _ _ ?_; clear hK K
    refine wpAnyIn_ready (rs := [1]) (by kernel_rfl) (by simp) ?_
    refine AllReadyIn.cons rfl (fun K hK => ?_) AllReadyIn.nil
    go_simp
    refine hK _ _ ?_; clear hK K
    refine wpAnyIn_ready (rs := [2]) (by kernel_rfl) (by simp) ?_
    refine AllReadyIn.cons rfl (fun K hK => ?_) AllReadyIn.nil
    go_simp
    refine ⟨trivial, ?_⟩
    refine (CallsIn.inRound l (callsIn_wide.2 (hcl _ hbd))).mono ?_
    rintro e w' ⟨g, cp, rfl, hr', hb'⟩
    go_simp
    refine hK _ _ ?_; clear hK K
    refine wpAnyIn_ready (rs := [3]) (by kernel_rfl) (by simp) ?_
    refine AllReadyIn.cons rfl (fun K hK => ?_) AllReadyIn.nil
    go_simp
    refine hK _ _ ?_; clear hK K
    exact tail w' g cp hr' hb'
  · go_simp
    refine hK _ _ ?_; clear hK K
    refine wpAnyIn_ready (rs := [0, 2]) (by kernel_rfl) (by simp) ?_
    refine AllReadyIn.cons rfl (fun K hK => ?_) (AllReadyIn.cons rfl (fun K hK => ?_) AllReadyIn.nil)
    · go_simp
      refine hK _ _ ?_; clear hK K
      refine wpAnyIn_ready (rs := [2]) (by kernel_rfl) (by simp) ?_
      refine AllReadyIn.cons rfl (fun K hK => ?_) AllReadyIn.nil
      go_simp
      refine ⟨trivial, ?_⟩
      refine (CallsIn.inRound l (callsIn_wide.2 (hcl _ hbd))).mono ?_
      rintro e w' ⟨g, cp, rfl, hr', hb'⟩
      go_simp
      refine hK _ _ ?_; clear hK K
      refine wpAnyIn_ready (rs := [3]) (by kernel_rfl) (by simp) ?_
      refine AllReadyIn.cons rfl (fun K hK => ?_) AllReadyIn.nil
      go_simp
      refine hK _ _ ?_; clear hK K
      exact tail w' g cp hr' hb'
    · go_simp
      refine ⟨trivial, ?_⟩
      refine (CallsIn.inRound l (callsIn_wide.2 (hcl _ hbd))).mono ?_
      rintro e w' ⟨g, cp, rfl, hr', hb'⟩
      have hc2 : w'.cell? ⟨B, 0, none⟩ = some v := (hb'.cell (p := ⟨B, 0, none⟩) hBlt).trans hc1
      have hc3 : (w'.alloc (.cells #[.slice (some ⟨g, 0, none⟩) (chLen len k) cp] 22)).cell? ⟨B, 0, none⟩ = some v := (World.cell?_alloc_lt _ _ _ (World.block_lt_of_cell? _ _ hc2)).trans hc2
      go_simp
      refine hK _ _ ?_; clear hK K
      refine wpAnyIn_ready (rs := [0, 3]) (by kernel_rfl) (by simp) ?_
      refine AllReadyIn.cons rfl (fun K hK => ?_) (AllReadyIn.cons rfl (fun K hK => ?_) AllReadyIn.nil)
      · go_simp
        refine hK _ _ ?_; clear hK K
        refine wpAnyIn_ready (rs := [3]) (by kernel_rfl) (by simp) ?_
        refine AllReadyIn.cons rfl (fun K hK => ?_) AllReadyIn.nil
        go_simp
        refine hK _ _ ?_; clear hK K
        exact tail w' g cp hr' hb'
      · go_simp
        refine hK _ _ ?_; clear hK K
        refine wpAnyIn_ready (rs := [0]) (by kernel_rfl) (by simp) ?_
        refine AllReadyIn.cons rfl (fun K hK => ?_) AllReadyIn.nil
        go_simp
        refine hK _ _ ?_; clear hK K
        exact tail w' g cp hr' hb'
end Go.Proofs
set_option linter.unusedVariables false
set_option linter.unusedSimpArgs false
namespace Go.Proofs
open Go.RowKit Go.Shelf
attribute [local go_sem] Oper.semAt_some
theorem info41 : (Tryd.prog.info? 41).map (fun i => (i.zero, i.size, i.bytes)) = some (some (.agg #[.string ⟨#[]⟩, .string ⟨#[]⟩]), 2, 32) := by kernel_rfl
def chNews (len : Nat) (vals : List Value) (k : Nat) : List Value := (vals.drop (16 * k)).take (2 * chLen len k)
theorem chLen_cut {len k : Nat} {vals : List Value} (hl : vals.length = 2 * len) : (chNews len vals k).length = chLen len k * 2 := by
  unfold chNews chLen
  rw [List.length_take, List.length_drop]
  omega
set_option maxHeartbeats 1000000 in
theorem cut_copy {w : World} {b off len : Nat} {vals : List Value} (hlen : len ≤ 1000000) (hl : vals.length = 2 * len) (hc : ∀ j u, vals[j]? = some u → w.cell? ⟨b, off + j, none⟩ = some u) (h1 : ∀ u ∈ vals, u.oneCell' = true) (k : Nat) (W' : World) (hW : Below w.heap.size w W') :
    Calls Tryd.prog 33 #[chVal b off len k] W' fun e w' => ∃ g cp, e = .returned (.slice (some ⟨g, 0, none⟩) (chLen len k) cp) ∧ w'.ownsRow W'.heap.size 41 2 (.slice (some ⟨g, 0, none⟩) (chLen len k) cp) (chLen len k) (chNews len vals k) ∧ Below W'.heap.size W' w' := by
  obtain ⟨i0, hi, hz0, hz1, hz2⟩ := info_parts info41
  have hk : chLen len k ≤ 8 := by unfold chLen; omega
  have h := AnyE.slices_Clone (ρ := Tryd.clone33_ren) Tryd.clone33 i0 (.agg #[.string ⟨#[]⟩, .string ⟨#[]⟩]) 2 32 hi hz0 hz1 hz2 rfl (by omega) (fun w => by kernel_rfl) b (off + 8 * k * 2) (chLen len k) (chLen len k) (chNews len vals k) W' (chLen_cut hl) (by unfold maxLen; omega) (by omega)
    (fun j u hu => by
      unfold chNews at hu
      rw [List.getElem?_take] at hu
      split at hu
      · rw [List.getElem?_drop] at hu
        have := hc _ u hu
        have hlt := World.block_lt_of_cell? _ _ this
        rw [show off + 8 * k * 2 + j = off + (16 * k + j) by omega]
        exact (hW.cell (p := ⟨b, off + (16 * k + j), none⟩) hlt).trans this
      · cases hu)
    (fun u hu => h1 u (List.mem_of_mem_drop (List.mem_of_mem_take hu)))
  refine h.mono fun e w' ⟨v', he, hown, hne, hb'⟩ => ?_
  rcases hown.2 with ⟨hn, _⟩ | ⟨g, cap, cur, hv, _⟩
  · exact absurd hn hne
  · subst hv
    exact ⟨g, cap, he, hown, hb'⟩
set_option maxRecDepth 100000 in
set_option maxHeartbeats 2000000 in
theorem chunks_in (b off len cap : Nat) (a : Option Addr) (vals : List Value) (hlc : len ≤ cap) (hlen : len ≤ 1000000) (w : World)
    (ha : 0 < len → a = some ⟨b, off, none⟩) (hl : vals.length = 2 * len) (hc : ∀ j u, vals[j]? = some u → w.cell? ⟨b, off + j, none⟩ = some u) (h1 : ∀ u ∈ vals, u.oneCell' = true) :
    Calls Tryd.prog 21 #[.slice a len cap] w fun e W' => ∃ v svs, e = .returned v ∧ svs.length = chN len ∧ W'.ownsRow w.heap.size 22 1 v svs.length svs ∧ (∀ (k : Nat) (sv : Value), svs[k]? = some sv → W'.ownsRow w.heap.size 41 2 sv (chLen len k) (chNews len vals k)) ∧ Below w.heap.size w W' := by
  refine (callsIn_wide (n := 4)).1 ?_
  have hro : Fence.wide.round = none := rfl
  refine callsIn_of_wp_marks Tryd.func21 rfl trivial ?_ hro
  simp only [Tryd.ntmps21, List.size_toArray, List.length_cons, List.length_nil, Nat.reduceAdd, Nat.reduceSub, Array.replicate_succ, Array.replicate_zero, List.push_toArray, List.append_toArray, List.nil_append, List.cons_append]
  gi_wp2_with (refine ⟨trivial, ?_⟩; gi_at_call 42; refine (chunk_in Fence.wide _ trivial hro _ _ _ _).mono ?_; rintro e w' ⟨rfl, rfl⟩)
  obtain ⟨w1, hw1⟩ : ∃ w1, ((w.alloc (.cells #[.slice none 0 0] 34)).alloc (.cells #[.slice a len cap] 22)).alloc (.cells #[.int .i64 8] 3) = w1 := ⟨_, rfl⟩
  have hs1 : w1.heap.size = w.heap.size + 3 := by rw [← hw1]; simp
  have hb1 : Below w.heap.size w w1 := by
    rw [← hw1]
    exact (((Below.refl _ w).alloc (Nat.le_refl _) _).alloc (by simp) _).alloc (by simp; omega) _
  have bB : Boxed w1 w.heap.size 34 (.slice none 0 0) := by rw [← hw1]; exact ((Boxed.new w 34 (.slice none 0 0)).alloc _).alloc _
  have bS : Boxed w1 (w.heap.size + 1) 22 (.slice a len cap) := by
    rw [← hw1]
    have := Boxed.new (w.alloc (.cells #[.slice none 0 0] 34)) 22 (.slice a len cap)
    rw [World.size_alloc] at this
    exact this.alloc _
  have bN : Boxed w1 (w.heap.size + 1 + 1) 3 (.int .i64 8) := by
    rw [← hw1]
    have := Boxed.new ((w.alloc (.cells #[.slice none 0 0] 34)).alloc (.cells #[.slice a len cap] 22)) 3 (.int .i64 8)
    rw [World.size_alloc, World.size_alloc] at this
    exact this
  rw [hw1]
  clear hw1
  refine wpIn_rangeFunc_ownG hro (by omega) (gf := 80) (lb := #[.pointer (some ⟨w.heap.size + 1, 0, none⟩), .pointer (some ⟨w.heap.size + 1 + 1, 0, none⟩)]) rfl trivial (enters_of Tryd.func80 (by kernel_rfl) rfl)
    (chunk_stops Fence.wide _ trivial hro (by omega) (w.heap.size + 1) (w.heap.size + 1 + 1) w.heap.size b off len cap a hlc hlen w1 (by omega) (by omega) ha bS.cell bN.cell)
    (fun h k => h.trans k) (fun W l o o' hl' ho hnc _ => ⟨(Below.refl _ W).grown (grownBy_putObj' _ _ _) (by have := (Array.getElem?_eq_some_iff.1 ho).1; omega) (fun k e => by cases e; omega), World.putObj_heap_other (by omega), World.putObj_heap_other (by omega)⟩) (Below.refl _ _) (fun _ => rfl)
    (fun pre W => ChI w.heap.size (w.heap.size + 3) len (chNews len vals) pre W ∧ Below w.heap.size w W)
    (fun _ _ _ => False)
    (fun s A B row hs hg hr => ⟨hs.1.grown hg (fun r e => (hr r e).2), hs.2.grown hg (by have := hs.2.size; omega) (fun k e => by have := (hr k e).1; omega)⟩)
    (fun _ _ _ _ _ hs _ _ => hs)
    ⟨⟨by omega, _, [], bB, rfl, ⟨rfl, .inl ⟨rfl, rfl⟩⟩, fun j k sv h => by cases h⟩, hb1⟩
    (fun k => pact a len cap b off w.heap.size (w.heap.size + 1) k) ?assign ?body ?done ?stop
  case assign =>
    intro l x W K hK
    unfold pact at hK
    gi_wp2
    exact hK
  case body =>
    rintro l pre k W ⟨hI, hB⟩ hlt
    refine pbody_in _ l (by omega) a b off len cap w.heap.size (w.heap.size + 1) k (w.heap.size + 3) w.heap.size (chNews len vals) pre W _ hI hlen hlt (Nat.le_refl _) (by omega) (by omega) (by omega) (fun W' hW' => ?_) (fun a' W' h2 h3 h4 => ⟨h2.from _, h3, h4, hB.trans h3.below⟩)
    exact cut_copy hlen hl hc h1 k W' (hB.trans hW')
  case done =>
    rintro D ys W hD rfl ⟨hI, hB⟩ hK
    obtain ⟨hs0, v, svs, hBx, hl0, hrow, heach⟩ := hI
    have hcb := hBx.cell
    gi_wp2
    refine ⟨by simp, .inl ⟨_, _, rfl, run_takeDeferred hK, ?_⟩⟩
    have hno : ∀ r, some D = some r → ∃ o : Obj, W.heap[r]? = some o ∧ o.isCells = false := fun r e => by cases e; exact ⟨_, hK, rfl⟩
    have hg := grownBy_putObj' W D (.deferred none)
    refine ⟨_, results_tmp rfl _ _ _, v, svs, rfl, by rw [hl0, List.length_range], row_base (hrow.kept hg (row_ne hrow hno)) (by omega), fun k sv h => ?_, hB.grown hg (by omega) (fun k e => by cases e; omega)⟩
    have hk : (List.range (chN len))[k]? = some k := by
      have := (List.getElem?_eq_some_iff.1 h).1
      rw [List.getElem?_range (by rw [hl0, List.length_range] at this; exact this)]
    have hr := heach k k sv h hk
    exact row_base (hr.kept hg (row_ne hr hno)) (by omega)
  case stop =>
    rintro D c pre W _ _ h _
    exact h.elim
end Go.Proofs
set_option linter.unusedVariables false
set_option linter.unusedSimpArgs false
namespace Go.Proofs
open Go.RowKit Go.Shelf
theorem chunks_cuts : Go.Ab.Cuts Tryd.prog 21 41 22 := fun b off len cap a vals hlc hlen w ha hl hc h1 =>
  (chunks_in b off len cap a vals hlc hlen w ha hl hc h1).mono fun _ _ ⟨v, svs, he, hn, hrow, heach, bel⟩ => ⟨v, svs, he, hn, hrow, heach, bel⟩
theorem gather_cuts : Go.Ab.Cuts Tryd.prog 22 41 22 := fun b off len cap a vals _ hlen w ha hl hc h1 =>
  (gather_calls b off len cap a vals hlen w ha hl hc h1).mono fun _ _ ⟨v, svs, he, hG, bel⟩ => ⟨v, svs, he, hG.len, by rw [hG.len]; exact hG.row, hG.each, bel⟩
end Go.Proofs
namespace Go.Proofs
end Go.Proofs
namespace Go.Ab.Tryd
open Go Go.Ab Go.Proofs
def pr : FuncId → Option Prim
  | 21 => some (.look (chP 41 22))
  | 22 => some (.look (chP 41 22))
  | 33 => some (.clone 41 32)
  | 38 => some (.insert 41 32)
  | 43 => some .mv
  | 126 => some (.look decP)
  | _ => none
theorem zero41 : zeroOf Tryd.prog 41 = some (.agg [.sc (.string ⟨#[]⟩), .sc (.string ⟨#[]⟩)]) := by kernel_rfl
theorem cells41 : Tryd.prog.cellsOf 41 = 2 := by kernel_rfl
theorem bytes41 : Tryd.prog.bytesOf 41 = 32 := by kernel_rfl
def tabs (base : Base) : Prop := Tryd.dec126_ren.g 3 < base.n ∧ Tryd.dec126_ren.g 4 < base.n ∧ Go.Lib.Utf8Tabs (Tryd.dec126_ren.g 3) (Tryd.dec126_ren.g 4) base.w0
theorem pr_ok : ∀ base, tabs base → ∀ f p, pr f = some p → PrimOk Tryd.prog base f p := by
  intro base ht f p h
  unfold pr at h
  split at h
  · cases h; exact chunk_ok (by kernel_rfl) (by kernel_rfl) ⟨_, Tryd.func21, by kernel_rfl, by decide⟩ chunks_cuts
  · cases h; exact chunk_ok (by kernel_rfl) (by kernel_rfl) ⟨_, Tryd.func22, by kernel_rfl, by decide⟩ gather_cuts
  · cases h
    have := clone_ok (base := base) (P := Tryd.prog) (ρ := Tryd.clone33_ren) Tryd.clone33 zero41 (by show 0 < Tryd.prog.cellsOf 41; rw [cells41]; omega)
    rw [show Tryd.prog.bytesOf (Tryd.clone33_ren.t 23) = 32 from bytes41] at this
    exact this
  · cases h
    have := insert_ok (base := base) (P := Tryd.prog) (ρ := Tryd.ins38_ren) { Tryd.ins38 with ov := Tryd.over76 } zero41 (by show 0 < Tryd.prog.cellsOf 41; rw [cells41]; omega)
    rw [show Tryd.prog.bytesOf (Tryd.ins38_ren.t 9) = 32 from bytes41] at this
    exact this
  · cases h; exact mv_ok Tryd.func43 (by kernel_rfl) (by decide)
  · cases h; exact dec_ok (ρ := Tryd.dec126_ren) Tryd.dec126 Tryd.func126 (by kernel_rfl) (by decide) ht.1 ht.2.1 ht.2.2
  · cases h
end Go.Ab.Tryd
namespace Go.Ab.Tryd
open Go Go.Ab Go.Proofs
set_option linter.unusedVariables false
set_option linter.unusedSimpArgs false
set_option maxRecDepth 10000
set_option maxHeartbeats 4000000
structure Pair where
  key : ByteArray
  val : ByteArray
  deriving DecidableEq
def ePair (x : Pair) : AV := .agg [vT x.key, vT x.val]
theorem Pair.ext' {a b : Pair} : a = b ↔ a.key = b.key ∧ a.val = b.val := by cases a; cases b; simp
instance : Inj ePair := ⟨fun a b h => by
  obtain ⟨_, _⟩ := a; obtain ⟨_, _⟩ := b
  simp only [ePair, AV.agg.injEq, List.cons.injEq, AV.sc.injEq, Value.int.injEq, Value.bool.injEq, Value.string.injEq, AV.lit.injEq, map_iff, and_true, true_and, and_assoc] at h
  simp only [Pair.mk.injEq, and_assoc]; simpa only [Pair.mk.injEq, and_assoc] using h⟩
theorem ePair_iff {a b : Pair} : ePair a = ePair b ↔ a = b := ⟨Inj.inj a b, fun h => by rw [h]⟩
theorem inj_ {p : Prop} (q : p := by
  first | rfl | ((try simp only [Prod.mk.injEq, St.mk.injEq, List.cons.injEq, AV.sc.injEq, AV.agg.injEq, AV.tup.injEq, AV.lit.injEq, AV.sl.injEq, AV.sub.injEq, AV.rptr.injEq, AV.lptr.injEq, AV.bptr.injEq, AV.fn.injEq, Ent.box.injEq, Ent.row.injEq, Ent.it.injEq, Value.int.injEq, Value.bool.injEq, Value.string.injEq, bd_inj, map_iff, eL_iff, and_true, true_and, and_assoc, reduceCtorEq, false_and, and_false, ePair_iff] at h) <;> simp_all)) : p := q
noncomputable abbrev IF_ : Ifc := ⟨Ops.std, (lim F pr).call, (lim F pr).loop, pr, (lim F pr).seg⟩
theorem fin_ {p : Prop} (h : p := by
  try dsimp only [bd, gam, xlen, xget, xsub, xroom, xsget, xssub, xsapp, xsdec, xsofb, xcut, eL, ePair] at *
  try simp only [map_app, map_set, map_put, map_fil, map_sbytes, List.map_cons, List.map_nil] at *
  try dsimp only [ePair] at *
  unfold IF_
  generalize (lim F pr).call = call at *
  generalize (lim F pr).loop = loop at *
  generalize (lim F pr).seg = seg at *
  try generalize List.map (eL 41 ePair) = m0 at *
  try generalize List.map ePair = m1 at *
  try generalize List.map vT = m2 at *
  generalize Ops.std = o at *
  cases o
  try dsimp only at *
  repeat ((try cbv); first | rw [h0] | rw [h1] | rw [h2] | rw [h3] | rw [h4] | rw [h5] | rw [h6] | rw [h7] | rw [h8] | rw [h9] | rw [h10] | rw [h11] | rw [h12] | rw [h13] | rw [h14] | rw [h15] | rw [h16] | rw [h17] | rw [h18] | rw [h19] | rw [h20] | rw [h21] | rw [h22] | rw [h23] | rw [h24] | rw [h25] | rw [h26] | rw [h27] | rw [h28] | rw [h29] | rw [h30] | rw [h31] | rw [h32] | rw [h33] | rw [h34] | rw [h35] | rw [h36] | rw [h37] | rw [h38] | rw [h39] | rw [h40] | rw [h41] | rw [h42] | rw [h43] | rw [h44] | rw [h45] | rw [h46] | rw [h47] | rw [h48] | rw [h49] | rw [h50] | rw [h51] | rw [h52] | rw [h53] | rw [h54] | rw [h55] | rw [h56] | rw [h57] | rw [h58] | rw [h59] | rw [h60] | rw [h61] | rw [h62] | rw [h63] | rw [h64] | rw [h65] | rw [h66] | rw [h67] | rw [h68] | rw [h69] | rw [h70])
  try cbv) : p := h
noncomputable def w29_StorePuts (l : List Pair) (key : ByteArray) (val : ByteArray) : Option (Bool) := ask (R1 vF) ((lim F pr).call 3 [.lit 41 false (List.map ePair l), vT key, vT val] [])
noncomputable def w29_StoreParts (l : List Pair) (more : List Pair) (from_ : Int) (to_ : Int) : Option (Bool) := ask (R1 vF) ((lim F pr).call 4 [.lit 41 false (List.map ePair l), .lit 41 false (List.map ePair more), vU from_, vU to_] [])
noncomputable def w29_StoreStays (l : List Pair) (key : ByteArray) (val : ByteArray) (other : ByteArray) (more : List Pair) : Option (Bool) := ask (R1 vF) ((lim F pr).call 5 [.lit 41 false (List.map ePair l), vT key, vT val, vT other, .lit 41 false (List.map ePair more)] [])
noncomputable def w29_StoreHalves (l : List Pair) (from_ : Int) (to_ : Int) : Option (Bool) := ask (R1 vF) ((lim F pr).call 6 [.lit 41 false (List.map ePair l), vU from_, vU to_] [])
noncomputable def w29_Large (l : List Pair) : Option (Bool) := ask (R1 vF) ((lim F pr).call 10 [.lit 41 false (List.map ePair l)] [])
noncomputable def w29_awake : Option (Bool) := ask (R1 vF) ((lim F pr).call 11 [] [])
noncomputable def store_Put (l : List Pair) (key : ByteArray) (val : ByteArray) : Option (((List Pair) × Int)) := ask (R2 (eL 41 ePair) vI) ((lim F pr).call 12 [.lit 41 false (List.map ePair l), vT key, vT val] [])
noncomputable def r29_Put (l : List Pair) (key : ByteArray) (val : ByteArray) : Option (((List Pair) × Int)) := ask (R2 (eL 41 ePair) vI) ((lim F pr).call 13 [.lit 41 false (List.map ePair l), vT key, vT val] [])
noncomputable def store_Get (l : List Pair) (key : ByteArray) : Option ((ByteArray × Bool)) := ask (R2 vT vF) ((lim F pr).call 14 [.lit 41 false (List.map ePair l), vT key] [])
noncomputable def r29_Get (l : List Pair) (key : ByteArray) : Option ((ByteArray × Bool)) := ask (R2 vT vF) ((lim F pr).call 15 [.lit 41 false (List.map ePair l), vT key] [])
noncomputable def r08_Pairs (a : List Pair) (b : List Pair) : Option (Bool) := ask (R1 vF) ((lim F pr).call 16 [.lit 41 false (List.map ePair a), .lit 41 false (List.map ePair b)] [])
noncomputable def store_Right (l : List Pair) : Option (Bool) := ask (R1 vF) ((lim F pr).call 17 [.lit 41 false (List.map ePair l)] [])
noncomputable def r29_Right (l : List Pair) : Option (Bool) := ask (R1 vF) ((lim F pr).call 18 [.lit 41 false (List.map ePair l)] [])
noncomputable def store_Merge (l : List Pair) (more : List Pair) : Option (((List Pair) × Int)) := ask (R2 (eL 41 ePair) vI) ((lim F pr).call 19 [.lit 41 false (List.map ePair l), .lit 41 false (List.map ePair more)] [])
noncomputable def r29_Merge (l : List Pair) (more : List Pair) : Option (((List Pair) × Int)) := ask (R2 (eL 41 ePair) vI) ((lim F pr).call 20 [.lit 41 false (List.map ePair l), .lit 41 false (List.map ePair more)] [])
noncomputable def store_Range (l : List Pair) (from_ : Int) (to_ : Int) : Option ((List Pair)) := ask (R1 (eL 41 ePair)) ((lim F pr).call 23 [.lit 41 false (List.map ePair l), vU from_, vU to_] [])
noncomputable def r29_Range (l : List Pair) (from_ : Int) (to_ : Int) : Option ((List Pair)) := ask (R1 (eL 41 ePair)) ((lim F pr).call 24 [.lit 41 false (List.map ePair l), vU from_, vU to_] [])
noncomputable def r05_Place (s : ByteArray) : Option (Int) := ask (R1 vU) ((lim F pr).call 25 [vT s] [])
noncomputable def store_place (l : List Pair) (key : ByteArray) : Option (Int) := ask (R1 vI) ((lim F pr).call 34 [.lit 41 false (List.map ePair l), vT key] [])
noncomputable def msg_Key (s : ByteArray) : Option (Bool) := ask (R1 vF) ((lim F pr).call 35 [vT s] [])
noncomputable def store_Put_1_e (b0 : ByteArray) : Bool → AV × Store
  | a0 => (vF a0, [.box 9 [vT b0]])
instance {b0} : Inj (store_Put_1_e b0) := ⟨fun x y h => by
  rcases x with a0 <;> rcases y with a0' <;> simp only [store_Put_1_e] at h <;> exact inj_⟩
noncomputable def store_Put_1 (p : Pair) (b0 : ByteArray) : Option (Bool) := ask (store_Put_1_e b0) ((lim F pr).call 37 [ePair p, .bptr 0 0] [.box 9 [vT b0]])
noncomputable def IndexFunc_Pair_e (b0 : ByteArray) : Int → AV × Store
  | a0 => (vI a0, [.box 9 [vT b0]])
instance {b0} : Inj (IndexFunc_Pair_e b0) := ⟨fun x y h => by
  rcases x with a0 <;> rcases y with a0' <;> simp only [IndexFunc_Pair_e] at h <;> exact inj_⟩
noncomputable def IndexFunc_Pair (s : List Pair) (b0 : ByteArray) : Option (Int) := ask (IndexFunc_Pair_e b0) ((lim F pr).call 36 [.lit 41 false (List.map ePair s), .fn 37 [.bptr 0 0]] [.box 9 [vT b0]])
noncomputable def r08_Key (s : ByteArray) : Option (Bool) := ask (R1 vF) ((lim F pr).call 39 [vT s] [])
noncomputable def r29_place (l : List Pair) (key : ByteArray) : Option (Int) := ask (R1 vI) ((lim F pr).call 40 [.lit 41 false (List.map ePair l), vT key] [])
noncomputable def r11_Less (a : ByteArray) (b : ByteArray) : Option (Bool) := ask (R1 vF) ((lim F pr).call 41 [vT a, vT b] [])
noncomputable def hash_Place (s : ByteArray) : Option (Int) := ask (R1 vU) ((lim F pr).call 46 [vT s] [])
noncomputable def ring_Upto (a : Int) (x : Int) (b : Int) : Option (Bool) := ask (R1 vF) ((lim F pr).call 45 [vU a, vU x, vU b] [])
noncomputable def store_Range_1_e (b0 : Int) (b1 : Int) : Bool → AV × Store
  | a0 => (vF a0, [.box 32 [vU b0], .box 32 [vU b1]])
instance {b0 b1} : Inj (store_Range_1_e b0 b1) := ⟨fun x y h => by
  rcases x with a0 <;> rcases y with a0' <;> simp only [store_Range_1_e] at h <;> exact inj_⟩
noncomputable def store_Range_1 (p : Pair) (b0 : Int) (b1 : Int) : Option (Bool) := ask (store_Range_1_e b0 b1) ((lim F pr).call 44 [ePair p, .bptr 0 0, .bptr 1 0] [.box 32 [vU b0], .box 32 [vU b1]])
noncomputable def IndexFunc_Pair_1_e (b0 : Int) (b1 : Int) : Int → AV × Store
  | a0 => (vI a0, [.box 32 [vU b0], .box 32 [vU b1]])
instance {b0 b1} : Inj (IndexFunc_Pair_1_e b0 b1) := ⟨fun x y h => by
  rcases x with a0 <;> rcases y with a0' <;> simp only [IndexFunc_Pair_1_e] at h <;> exact inj_⟩
noncomputable def IndexFunc_Pair_1 (s : List Pair) (b0 : Int) (b1 : Int) : Option (Int) := ask (IndexFunc_Pair_1_e b0 b1) ((lim F pr).call 36 [.lit 41 false (List.map ePair s), .fn 44 [.bptr 0 0, .bptr 1 0]] [.box 32 [vU b0], .box 32 [vU b1]])
noncomputable def DeleteFunc_Pair_e (b1 : Int) (b2 : Int) (γ : Nat → Nat) : (List Pair) → AV × Store
  | a0 => (.sl 0 ((γ 0)), [.row 41 (γ 0) false (List.map ePair a0), .box 32 [vU b1], .box 32 [vU b2]])
instance {b1 b2} : InjS (DeleteFunc_Pair_e b1 b2) := ⟨fun γ γ' x y h => by
  rcases x with a0 <;> rcases y with a0' <;> simp only [DeleteFunc_Pair_e] at h <;> exact inj_⟩
noncomputable def DeleteFunc_Pair (r0 : List Pair) (b1 : Int) (b2 : Int) : Option ((List Pair)) := asks (fun γ => (lim F pr).call 43 [.sl 0 (γ 0), .fn 44 [.bptr 1 0, .bptr 2 0]] [.row 41 (γ 0) false (List.map ePair r0), .box 32 [vU b1], .box 32 [vU b2]]) (DeleteFunc_Pair_e b1 b2)
noncomputable def r03_Upto (a : Int) (x : Int) (b : Int) : Option (Bool) := ask (R1 vF) ((lim F pr).call 47 [vU a, vU x, vU b] [])
noncomputable def r05_Sum (s : ByteArray) : Option (Int) := ask (R1 vU) ((lim F pr).call 49 [vT s] [])
noncomputable def r05_Mix (u : Int) : Option (Int) := ask (R1 vU) ((lim F pr).call 48 [vU u] [])
noncomputable def store_place_1_e (b0 : ByteArray) : Bool → AV × Store
  | a0 => (vF a0, [.box 9 [vT b0]])
instance {b0} : Inj (store_place_1_e b0) := ⟨fun x y h => by
  rcases x with a0 <;> rcases y with a0' <;> simp only [store_place_1_e] at h <;> exact inj_⟩
noncomputable def store_place_1 (p : Pair) (b0 : ByteArray) : Option (Bool) := ask (store_place_1_e b0) ((lim F pr).call 73 [ePair p, .bptr 0 0] [.box 9 [vT b0]])
noncomputable def IndexFunc_Pair_2_e (b0 : ByteArray) : Int → AV × Store
  | a0 => (vI a0, [.box 9 [vT b0]])
instance {b0} : Inj (IndexFunc_Pair_2_e b0) := ⟨fun x y h => by
  rcases x with a0 <;> rcases y with a0' <;> simp only [IndexFunc_Pair_2_e] at h <;> exact inj_⟩
noncomputable def IndexFunc_Pair_2 (s : List Pair) (b0 : ByteArray) : Option (Int) := ask (IndexFunc_Pair_2_e b0) ((lim F pr).call 36 [.lit 41 false (List.map ePair s), .fn 73 [.bptr 0 0]] [.box 9 [vT b0]])
noncomputable def utf_Valid (s : ByteArray) : Option (Bool) := ask (R1 vF) ((lim F pr).call 74 [vT s] [])
noncomputable def utf_Count (s : ByteArray) : Option (Int) := ask (R1 vI) ((lim F pr).call 75 [vT s] [])
noncomputable def r04_Valid (s : ByteArray) : Option (Bool) := ask (R1 vF) ((lim F pr).call 78 [vT s] [])
noncomputable def r04_Parts (s : ByteArray) : Option ((List ByteArray)) := ask (R1 (eL 9 vT)) ((lim F pr).call 79 [vT s] [])
noncomputable def hash_Sum (s : ByteArray) : Option (Int) := ask (R1 vU) ((lim F pr).call 83 [vT s] [])
noncomputable def hash_Mix (u : Int) : Option (Int) := ask (R1 vU) ((lim F pr).call 82 [vU u] [])
noncomputable def ring_Between (a : Int) (x : Int) (b : Int) : Option (Bool) := ask (R1 vF) ((lim F pr).call 81 [vU a, vU x, vU b] [])
noncomputable def r05_down (u : Int) (by_ : Int) : Option (Int) := ask (R1 vU) ((lim F pr).call 84 [vU u, vI by_] [])
noncomputable def utf_stray (s : ByteArray) (at_ : Int) (c : Int) : Option (Bool) := ask (R1 vF) ((lim F pr).call 111 [vT s, vI at_, vR c] [])
noncomputable def r04_Width (s : ByteArray) (at_ : Int) : Option (Int) := ask (R1 vI) ((lim F pr).call 113 [vT s, vI at_] [])
noncomputable def ring_Dist (a : Int) (b : Int) : Option (Int) := ask (R1 vU) ((lim F pr).call 114 [vU a, vU b] [])
noncomputable def r04_tail (c : Int) : Option (Bool) := ask (R1 vF) ((lim F pr).call 128 [vB c] [])
end Go.Ab.Tryd
namespace Go.Ab.Tryd
open Go Go.Ab Go.Proofs
set_option linter.unusedVariables false
set_option linter.unusedSimpArgs false
set_option maxRecDepth 10000
set_option maxHeartbeats 4000000
noncomputable def w29_StorePuts_s0_x (γ : Nat → Nat) : Bool → X × St
  | a0 => (.ret, ⟨bd 6 (vF a0 :: bd 84 []), []⟩)
instance : InjS w29_StorePuts_s0_x := ⟨fun γ γ' x y h => by
  rcases x with a0 <;> rcases y with a0' <;> simp only [w29_StorePuts_s0_x] at h <;> exact inj_⟩
noncomputable def w29_StorePuts_s0 (l : List Pair) (key : ByteArray) (val : ByteArray) : Option (Bool) := asks (fun γ => (lim F pr).seg [6] b3_0 ⟨.lit 41 false (List.map ePair l) :: vT key :: vT val :: bd 88 [], []⟩) w29_StorePuts_s0_x
noncomputable def w29_StorePuts_s0_b (l : List Pair) (key : ByteArray) (val : ByteArray) : Option (Bool) :=
  bif xroom ePair 32 [] l then
    (store_Put l key val).bind fun ⟨r0, r1⟩ =>
    (r29_Put l key val).bind fun ⟨r01, r11⟩ =>
    (store_Get l key).bind fun ⟨r02, r12⟩ =>
    (r29_Get l key).bind fun ⟨r03, r13⟩ =>
    (r08_Pairs r0 r01).bind fun res =>
    bif res then
      bif Ops.std.ieq r1 r11 then
        bif Ops.std.seq r02 r03 then
          bif Ops.std.beq r12 r13 then
            (store_Right l).bind fun res1 =>
            (r29_Right l).bind fun res2 =>
            bif Ops.std.beq res1 res2 then
              (r08_Pairs l l).bind fun res3 =>
              bif res3 then w29_awake else
              some false
            else
              some false
          else
            some false
        else
          some false
      else
        some false
    else
      some false
  else
    none
theorem w29_StorePuts_s0_r {l key val r} (h : w29_StorePuts_s0_b l key val = some r) : w29_StorePuts_s0 l key val = some r := by
  unfold w29_StorePuts_s0_b at h
  refine asks_of fun γ => ?_
  obtain ⟨h1, h⟩ := need_some h
  obtain ⟨r2, h2, h⟩ := bind_ask h
  rcases r2 with ⟨r0, r1⟩
  obtain ⟨r3, h3, h⟩ := bind_ask h
  rcases r3 with ⟨r01, r11⟩
  obtain ⟨r4, h4, h⟩ := bind_ask h
  rcases r4 with ⟨r02, r12⟩
  obtain ⟨r5, h5, h⟩ := bind_ask h
  rcases r5 with ⟨r03, r13⟩
  obtain ⟨res, h6, h⟩ := bind_ask h
  rcases cond_some h with ⟨h7, h⟩ | ⟨h7, h⟩
  rcases cond_some h with ⟨h8, h⟩ | ⟨h8, h⟩
  rcases cond_some h with ⟨h9, h⟩ | ⟨h9, h⟩
  rcases cond_some h with ⟨h10, h⟩ | ⟨h10, h⟩
  obtain ⟨res1, h11, h⟩ := bind_ask h
  obtain ⟨res2, h12, h⟩ := bind_ask h
  rcases cond_some h with ⟨h13, h⟩ | ⟨h13, h⟩
  obtain ⟨res3, h14, h⟩ := bind_ask h
  rcases cond_some h with ⟨h15, h⟩ | ⟨h15, h⟩
  have h16 := ask_some h
  rcases r with res4
  refine ⟨gam [], seg_lim ?_⟩; rotate_left
  cases h; refine ⟨gam [], seg_lim ?_⟩; rotate_left
  cases h; refine ⟨gam [], seg_lim ?_⟩; rotate_left
  cases h; refine ⟨gam [], seg_lim ?_⟩; rotate_left
  cases h; refine ⟨gam [], seg_lim ?_⟩; rotate_left
  cases h; refine ⟨gam [], seg_lim ?_⟩; rotate_left
  cases h; refine ⟨gam [], seg_lim ?_⟩; rotate_left
  all_goals (dsimp only [R1, R2, w29_StorePuts_s0_x] at *; show Ifc.apart IF_ _ b3_0F _ = _; exact fin_)
noncomputable def w29_StorePuts_b (l : List Pair) (key : ByteArray) (val : ByteArray) : Option (Bool) :=
  (w29_Large l).bind fun res =>
  bif res then w29_awake else
  bif Ops.std.ilt 300 (Ops.std.slen key) then w29_awake else
  bif Ops.std.ilt 700 (Ops.std.slen val) then w29_awake else
  w29_StorePuts_s0 l key val
theorem w29_StorePuts_r {l key val r} (h : w29_StorePuts_b l key val = some r) : w29_StorePuts l key val = some r := by
  unfold w29_StorePuts_b at h
  refine ask_of ?_
  obtain ⟨res, h1, h⟩ := bind_ask h
  rcases cond_some h with ⟨h2, h⟩ | ⟨h2, h⟩
  have h3 := ask_some h
  rcases r with res1
  refine call_lim rfl ?_; rotate_left
  rcases cond_some h with ⟨h3, h⟩ | ⟨h3, h⟩
  have h4 := ask_some h
  rcases r with res1
  refine call_lim rfl ?_; rotate_left
  rcases cond_some h with ⟨h4, h⟩ | ⟨h4, h⟩
  have h5 := ask_some h
  rcases r with res1
  refine call_lim rfl ?_; rotate_left
  obtain ⟨γ2, h5⟩ := asks_some h (gam [])
  rcases r with t6
  refine call_lim rfl ?_; rotate_left
  all_goals (dsimp only [R1, w29_StorePuts_s0_x] at *; show runFn IF_ (g3F b3_0) _ _ = _; generalize b3_0 = c0 at *; exact fin_)
noncomputable def w29_StoreParts_s1_x (γ : Nat → Nat) : Bool → X × St
  | a0 => (.ret, ⟨bd 8 (vF a0 :: bd 73 []), []⟩)
instance : InjS w29_StoreParts_s1_x := ⟨fun γ γ' x y h => by
  rcases x with a0 <;> rcases y with a0' <;> simp only [w29_StoreParts_s1_x] at h <;> exact inj_⟩
noncomputable def w29_StoreParts_s1 (l : List Pair) (more : List Pair) (from_ : Int) (to_ : Int) : Option (Bool) := asks (fun γ => (lim F pr).seg [8] b4_1 ⟨.lit 41 false (List.map ePair l) :: .lit 41 false (List.map ePair more) :: vU from_ :: vU to_ :: bd 78 [], []⟩) w29_StoreParts_s1_x
abbrev w29_StoreParts_l0_T := Unit ⊕ ((List Pair) × Int × (List Pair) × Int)
noncomputable def w29_StoreParts_l0_x (l : List Pair) (from_ : Int) (to_ : Int) (γ : Nat → Nat) : w29_StoreParts_l0_T → X × St
  | .inl () => (.ret, ⟨bd 8 (vF false :: bd 73 []), []⟩)
  | .inr (b0, b1, b2, b3) => (.brk 0, ⟨.lit 41 false (List.map ePair l) :: bd 1 (vU from_ :: vU to_ :: bd 5 (.lit 41 false (List.map ePair b0) :: vI b1 :: .lit 41 false (List.map ePair b2) :: vI b3 :: bd 69 [])), []⟩)
instance {l from_ to_} : InjS (w29_StoreParts_l0_x l from_ to_) := ⟨fun γ γ' x y h => by
  rcases x with _ | ⟨b0, b1, b2, b3⟩ <;> rcases y with _ | ⟨b0', b1', b2', b3'⟩ <;> simp only [w29_StoreParts_l0_x] at h <;> exact inj_⟩
noncomputable def w29_StoreParts_l0 (l : List Pair) (from_ : Int) (to_ : Int) (a : List Pair) (e_ : Int) (b : List Pair) (f : Int) (x : List (List Pair)) (y : List (List Pair)) (i : Int) : Option (w29_StoreParts_l0_T) := asks (fun γ => (lim F pr).loop [13, 14, 15, 9, 11, 10, 12, 0, 2, 3] 0 b4_0 ⟨.lit 41 false (List.map ePair l) :: bd 1 (vU from_ :: vU to_ :: bd 5 (.lit 41 false (List.map ePair a) :: vI e_ :: .lit 41 false (List.map ePair b) :: vI f :: .lit 22 false (List.map (eL 41 ePair) x) :: .lit 22 false (List.map (eL 41 ePair) y) :: vI i :: bd 66 [])), []⟩) (w29_StoreParts_l0_x l from_ to_)
noncomputable def w29_StoreParts_s1_b (l : List Pair) (more : List Pair) (from_ : Int) (to_ : Int) : Option (Bool) :=
  (store_Merge l more).bind fun ⟨r0, r1⟩ =>
  (r29_Merge l more).bind fun ⟨r01, r11⟩ =>
  (xcut ePair 41 l).bind fun cs =>
  bif Ops.std.ieq (xlen (eL 41 ePair) cs) (xlen (eL 41 ePair) cs) then
    (w29_StoreParts_l0 l from_ to_ r0 r1 r01 r11 cs cs 0).bind fun r => match r with
      | .inl () =>
        some false
      | .inr (a, e_, b, f) =>
        (r08_Pairs a b).bind fun res =>
        bif res then
          bif Ops.std.ieq e_ f then
            (store_Range l from_ to_).bind fun res1 =>
            (r29_Range l from_ to_).bind fun res2 =>
            (r08_Pairs res1 res2).bind fun res3 =>
            bif res3 then w29_awake else
            some false
          else
            some false
        else
          some false
  else
    some false
theorem w29_StoreParts_s1_r {l more from_ to_ r} (h : w29_StoreParts_s1_b l more from_ to_ = some r) : w29_StoreParts_s1 l more from_ to_ = some r := by
  unfold w29_StoreParts_s1_b at h
  refine asks_of fun γ => ?_
  obtain ⟨r1, h1, h⟩ := bind_ask h
  rcases r1 with ⟨r0, r1⟩
  obtain ⟨r2, h2, h⟩ := bind_ask h
  rcases r2 with ⟨r01, r11⟩
  obtain ⟨cs, h3, h⟩ := bind_ask h
  rcases cond_some h with ⟨h4, h⟩ | ⟨h4, h⟩
  obtain ⟨r5, γ3, h5, h⟩ := bind_asks h (gam [])
  rcases r5 with _ | ⟨a, e_, b, f⟩
  cases h; refine ⟨gam [], seg_lim ?_⟩; rotate_left
  obtain ⟨res, h6, h⟩ := bind_ask h
  rcases cond_some h with ⟨h7, h⟩ | ⟨h7, h⟩
  rcases cond_some h with ⟨h8, h⟩ | ⟨h8, h⟩
  obtain ⟨res1, h9, h⟩ := bind_ask h
  obtain ⟨res2, h10, h⟩ := bind_ask h
  obtain ⟨res3, h11, h⟩ := bind_ask h
  rcases cond_some h with ⟨h12, h⟩ | ⟨h12, h⟩
  have h13 := ask_some h
  rcases r with res4
  refine ⟨gam [], seg_lim ?_⟩; rotate_left
  cases h; refine ⟨gam [], seg_lim ?_⟩; rotate_left
  cases h; refine ⟨gam [], seg_lim ?_⟩; rotate_left
  cases h; refine ⟨gam [], seg_lim ?_⟩; rotate_left
  cases h; refine ⟨gam [], seg_lim ?_⟩; rotate_left
  all_goals (dsimp only [R1, R2, w29_StoreParts_l0_x, w29_StoreParts_s1_x] at *; show Ifc.apart IF_ _ (b4_1F b4_0) _ = _; generalize b4_0 = c0 at *; exact fin_)
noncomputable def w29_StoreParts_l0_b (l : List Pair) (from_ : Int) (to_ : Int) (a : List Pair) (e_ : Int) (b : List Pair) (f : Int) (x : List (List Pair)) (y : List (List Pair)) (i : Int) : Option (w29_StoreParts_l0_T) :=
  bif Ops.std.ilt i (xlen (eL 41 ePair) x) then
    (xget (eL 41 ePair) x i).bind fun x1 =>
    (xget (eL 41 ePair) y i).bind fun x2 =>
    (r08_Pairs x1 x2).bind fun res =>
    bif res then w29_StoreParts_l0 l from_ to_ a e_ b f x y (Ops.std.iadd .i64 i 1) else
    some (.inl ())
  else
    some (.inr (a, e_, b, f))
theorem w29_StoreParts_l0_r {l from_ to_ a e_ b f x y i r} (h : w29_StoreParts_l0_b l from_ to_ a e_ b f x y i = some r) : w29_StoreParts_l0 l from_ to_ a e_ b f x y i = some r := by
  unfold w29_StoreParts_l0_b at h
  refine asks_of fun γ => ?_
  rcases cond_some h with ⟨h1, h⟩ | ⟨h1, h⟩
  obtain ⟨x1, h2, h⟩ := bind_ask h
  obtain ⟨x2, h3, h⟩ := bind_ask h
  obtain ⟨res, h4, h⟩ := bind_ask h
  rcases cond_some h with ⟨h5, h⟩ | ⟨h5, h⟩
  replace h := asks_some h (gam []); obtain ⟨γ', h0⟩ := h; refine ⟨γ', round_lim ?_⟩; rotate_left
  cases h; refine ⟨gam [], round_lim ?_⟩; rotate_left
  cases h; refine ⟨gam [], round_lim ?_⟩; rotate_left
  all_goals (dsimp only [R1, w29_StoreParts_l0_x] at *; show roundAs IF_ _ _ b4_0 b4_0F _ = _; generalize b4_0 = c0 at *; exact fin_)
noncomputable def w29_StoreParts_b (l : List Pair) (more : List Pair) (from_ : Int) (to_ : Int) : Option (Bool) :=
  (w29_Large l).bind fun res =>
  bif res then w29_awake else
  (w29_Large more).bind fun res1 =>
  bif res1 then w29_awake else
  w29_StoreParts_s1 l more from_ to_
theorem w29_StoreParts_r {l more from_ to_ r} (h : w29_StoreParts_b l more from_ to_ = some r) : w29_StoreParts l more from_ to_ = some r := by
  unfold w29_StoreParts_b at h
  refine ask_of ?_
  obtain ⟨res, h1, h⟩ := bind_ask h
  rcases cond_some h with ⟨h2, h⟩ | ⟨h2, h⟩
  have h3 := ask_some h
  rcases r with res1
  refine call_lim rfl ?_; rotate_left
  obtain ⟨res1, h3, h⟩ := bind_ask h
  rcases cond_some h with ⟨h4, h⟩ | ⟨h4, h⟩
  have h5 := ask_some h
  rcases r with res2
  refine call_lim rfl ?_; rotate_left
  obtain ⟨γ3, h5⟩ := asks_some h (gam [])
  rcases r with t8
  refine call_lim rfl ?_; rotate_left
  all_goals (dsimp only [R1, w29_StoreParts_s1_x] at *; show runFn IF_ (g4F b4_1) _ _ = _; generalize b4_1 = c0 at *; exact fin_)
noncomputable def w29_StoreStays_s2_x (γ : Nat → Nat) : Bool → X × St
  | a0 => (.ret, ⟨bd 10 (vF a0 :: bd 133 []), []⟩)
instance : InjS w29_StoreStays_s2_x := ⟨fun γ γ' x y h => by
  rcases x with a0 <;> rcases y with a0' <;> simp only [w29_StoreStays_s2_x] at h <;> exact inj_⟩
noncomputable def w29_StoreStays_s2 (l : List Pair) (key : ByteArray) (val : ByteArray) (other : ByteArray) (more : List Pair) : Option (Bool) := asks (fun γ => (lim F pr).seg [10] b5_2 ⟨.lit 41 false (List.map ePair l) :: vT key :: vT val :: vT other :: .lit 41 false (List.map ePair more) :: bd 139 [], []⟩) w29_StoreStays_s2_x
noncomputable def w29_StoreStays_s1_x (γ : Nat → Nat) : Bool → X × St
  | a0 => (.ret, ⟨bd 10 (vF a0 :: bd 133 []), []⟩)
instance : InjS w29_StoreStays_s1_x := ⟨fun γ γ' x y h => by
  rcases x with a0 <;> rcases y with a0' <;> simp only [w29_StoreStays_s1_x] at h <;> exact inj_⟩
noncomputable def w29_StoreStays_s1 (l : List Pair) (key : ByteArray) (val : ByteArray) (other : ByteArray) (a : List Pair) (e_ : Int) (m : List Pair) : Option (Bool) := asks (fun γ => (lim F pr).seg [10] b5_1 ⟨.lit 41 false (List.map ePair l) :: vT key :: vT val :: vT other :: bd 7 (.lit 41 false (List.map ePair a) :: vI e_ :: .lit 41 false (List.map ePair m) :: bd 130 []), []⟩) w29_StoreStays_s1_x
noncomputable def w29_StoreStays_s0_x (γ : Nat → Nat) : Bool → X × St
  | a0 => (.ret, ⟨bd 10 (vF a0 :: bd 133 []), []⟩)
instance : InjS w29_StoreStays_s0_x := ⟨fun γ γ' x y h => by
  rcases x with a0 <;> rcases y with a0' <;> simp only [w29_StoreStays_s0_x] at h <;> exact inj_⟩
noncomputable def w29_StoreStays_s0 (l : List Pair) (key : ByteArray) (other : ByteArray) (a : List Pair) (m : List Pair) : Option (Bool) := asks (fun γ => (lim F pr).seg [10] b5_0 ⟨.lit 41 false (List.map ePair l) :: vT key :: bd 1 (vT other :: bd 7 (.lit 41 false (List.map ePair a) :: bd 1 (.lit 41 false (List.map ePair m) :: bd 130 []))), []⟩) w29_StoreStays_s0_x
noncomputable def w29_StoreStays_s2_b (l : List Pair) (key : ByteArray) (val : ByteArray) (other : ByteArray) (more : List Pair) : Option (Bool) :=
  (store_Put l key val).bind fun ⟨r0, r1⟩ =>
  (store_Merge l more).bind fun ⟨r01, r11⟩ =>
  (store_Right r0).bind fun res =>
  bif res then
    (store_Right r01).bind fun res1 =>
    bif res1 then w29_StoreStays_s1 l key val other r0 r1 r01 else
    some false
  else
    some false
theorem w29_StoreStays_s2_r {l key val other more r} (h : w29_StoreStays_s2_b l key val other more = some r) : w29_StoreStays_s2 l key val other more = some r := by
  unfold w29_StoreStays_s2_b at h
  refine asks_of fun γ => ?_
  obtain ⟨r1, h1, h⟩ := bind_ask h
  rcases r1 with ⟨r0, r1⟩
  obtain ⟨r2, h2, h⟩ := bind_ask h
  rcases r2 with ⟨r01, r11⟩
  obtain ⟨res, h3, h⟩ := bind_ask h
  rcases cond_some h with ⟨h4, h⟩ | ⟨h4, h⟩
  obtain ⟨res1, h5, h⟩ := bind_ask h
  rcases cond_some h with ⟨h6, h⟩ | ⟨h6, h⟩
  obtain ⟨γ5, h7⟩ := asks_some h (gam [])
  rcases r with t10
  refine ⟨gam [], seg_lim ?_⟩; rotate_left
  cases h; refine ⟨gam [], seg_lim ?_⟩; rotate_left
  cases h; refine ⟨gam [], seg_lim ?_⟩; rotate_left
  all_goals (dsimp only [R1, R2, w29_StoreStays_s1_x, w29_StoreStays_s2_x] at *; show Ifc.apart IF_ _ (b5_2F b5_1) _ = _; generalize b5_1 = c0 at *; exact fin_)
noncomputable def w29_StoreStays_s1_b (l : List Pair) (key : ByteArray) (val : ByteArray) (other : ByteArray) (a : List Pair) (e_ : Int) (m : List Pair) : Option (Bool) :=
  (store_Get a key).bind fun ⟨r0, r1⟩ =>
  bif Ops.std.ieq e_ 0 then
    bif Ops.std.seq r0 val then
      bif r1 then w29_StoreStays_s0 l key other a m else
      some false
    else
      some false
  else
    (r08_Pairs a l).bind fun res =>
    bif res then w29_StoreStays_s0 l key other a m else
    some false
theorem w29_StoreStays_s1_r {l key val other a e_ m r} (h : w29_StoreStays_s1_b l key val other a e_ m = some r) : w29_StoreStays_s1 l key val other a e_ m = some r := by
  unfold w29_StoreStays_s1_b at h
  refine asks_of fun γ => ?_
  obtain ⟨r1, h1, h⟩ := bind_ask h
  rcases r1 with ⟨r0, r1⟩
  rcases cond_some h with ⟨h2, h⟩ | ⟨h2, h⟩
  rcases cond_some h with ⟨h3, h⟩ | ⟨h3, h⟩
  rcases cond_some h with ⟨h4, h⟩ | ⟨h4, h⟩
  obtain ⟨γ2, h5⟩ := asks_some h (gam [])
  rcases r with t10
  refine ⟨gam [], seg_lim ?_⟩; rotate_left
  cases h; refine ⟨gam [], seg_lim ?_⟩; rotate_left
  cases h; refine ⟨gam [], seg_lim ?_⟩; rotate_left
  obtain ⟨res, h3, h⟩ := bind_ask h
  rcases cond_some h with ⟨h4, h⟩ | ⟨h4, h⟩
  obtain ⟨γ3, h5⟩ := asks_some h (gam [])
  rcases r with t10
  refine ⟨gam [], seg_lim ?_⟩; rotate_left
  cases h; refine ⟨gam [], seg_lim ?_⟩; rotate_left
  all_goals (dsimp only [R1, R2, w29_StoreStays_s0_x, w29_StoreStays_s1_x] at *; show Ifc.apart IF_ _ (b5_1F b5_0) _ = _; generalize b5_0 = c0 at *; exact fin_)
noncomputable def w29_StoreStays_s0_b (l : List Pair) (key : ByteArray) (other : ByteArray) (a : List Pair) (m : List Pair) : Option (Bool) :=
  (store_Get a other).bind fun ⟨r0, r1⟩ =>
  (store_Get l other).bind fun ⟨r01, r11⟩ =>
  (store_Get m other).bind fun ⟨r02, r12⟩ =>
  bif Ops.std.seq other key then
    bif r11 then
      bif Ops.std.seq r02 r01 then
        bif r12 then w29_awake else
        some false
      else
        some false
    else
      w29_awake
  else
    bif Ops.std.seq r0 r01 then
      bif Ops.std.beq r1 r11 then
        bif r11 then
          bif Ops.std.seq r02 r01 then
            bif r12 then w29_awake else
            some false
          else
            some false
        else
          w29_awake
      else
        some false
    else
      some false
theorem w29_StoreStays_s0_r {l key other a m r} (h : w29_StoreStays_s0_b l key other a m = some r) : w29_StoreStays_s0 l key other a m = some r := by
  unfold w29_StoreStays_s0_b at h
  refine asks_of fun γ => ?_
  obtain ⟨r1, h1, h⟩ := bind_ask h
  rcases r1 with ⟨r0, r1⟩
  obtain ⟨r2, h2, h⟩ := bind_ask h
  rcases r2 with ⟨r01, r11⟩
  obtain ⟨r3, h3, h⟩ := bind_ask h
  rcases r3 with ⟨r02, r12⟩
  rcases cond_some h with ⟨h4, h⟩ | ⟨h4, h⟩
  rcases cond_some h with ⟨h5, h⟩ | ⟨h5, h⟩
  rcases cond_some h with ⟨h6, h⟩ | ⟨h6, h⟩
  rcases cond_some h with ⟨h7, h⟩ | ⟨h7, h⟩
  have h8 := ask_some h
  rcases r with res
  refine ⟨gam [], seg_lim ?_⟩; rotate_left
  cases h; refine ⟨gam [], seg_lim ?_⟩; rotate_left
  cases h; refine ⟨gam [], seg_lim ?_⟩; rotate_left
  have h6 := ask_some h
  rcases r with res
  refine ⟨gam [], seg_lim ?_⟩; rotate_left
  rcases cond_some h with ⟨h5, h⟩ | ⟨h5, h⟩
  rcases cond_some h with ⟨h6, h⟩ | ⟨h6, h⟩
  rcases cond_some h with ⟨h7, h⟩ | ⟨h7, h⟩
  rcases cond_some h with ⟨h8, h⟩ | ⟨h8, h⟩
  rcases cond_some h with ⟨h9, h⟩ | ⟨h9, h⟩
  have h10 := ask_some h
  rcases r with res
  refine ⟨gam [], seg_lim ?_⟩; rotate_left
  cases h; refine ⟨gam [], seg_lim ?_⟩; rotate_left
  cases h; refine ⟨gam [], seg_lim ?_⟩; rotate_left
  have h8 := ask_some h
  rcases r with res
  refine ⟨gam [], seg_lim ?_⟩; rotate_left
  cases h; refine ⟨gam [], seg_lim ?_⟩; rotate_left
  cases h; refine ⟨gam [], seg_lim ?_⟩; rotate_left
  all_goals (dsimp only [R1, R2, w29_StoreStays_s0_x] at *; show Ifc.apart IF_ _ b5_0F _ = _; exact fin_)
noncomputable def w29_StoreStays_b (l : List Pair) (key : ByteArray) (val : ByteArray) (other : ByteArray) (more : List Pair) : Option (Bool) :=
  (w29_Large l).bind fun res =>
  bif res then w29_awake else
  (w29_Large more).bind fun res1 =>
  bif res1 then w29_awake else
  bif Ops.std.ilt 300 (Ops.std.slen key) then w29_awake else
  bif Ops.std.ilt 700 (Ops.std.slen val) then w29_awake else
  bif Ops.std.ilt 300 (Ops.std.slen other) then w29_awake else
  (store_Right l).bind fun res2 =>
  bif res2 then w29_StoreStays_s2 l key val other more else
  w29_awake
theorem w29_StoreStays_r {l key val other more r} (h : w29_StoreStays_b l key val other more = some r) : w29_StoreStays l key val other more = some r := by
  unfold w29_StoreStays_b at h
  refine ask_of ?_
  obtain ⟨res, h1, h⟩ := bind_ask h
  rcases cond_some h with ⟨h2, h⟩ | ⟨h2, h⟩
  have h3 := ask_some h
  rcases r with res1
  refine call_lim rfl ?_; rotate_left
  obtain ⟨res1, h3, h⟩ := bind_ask h
  rcases cond_some h with ⟨h4, h⟩ | ⟨h4, h⟩
  have h5 := ask_some h
  rcases r with res2
  refine call_lim rfl ?_; rotate_left
  rcases cond_some h with ⟨h5, h⟩ | ⟨h5, h⟩
  have h6 := ask_some h
  rcases r with res2
  refine call_lim rfl ?_; rotate_left
  rcases cond_some h with ⟨h6, h⟩ | ⟨h6, h⟩
  have h7 := ask_some h
  rcases r with res2
  refine call_lim rfl ?_; rotate_left
  rcases cond_some h with ⟨h7, h⟩ | ⟨h7, h⟩
  have h8 := ask_some h
  rcases r with res2
  refine call_lim rfl ?_; rotate_left
  obtain ⟨res2, h8, h⟩ := bind_ask h
  rcases cond_some h with ⟨h9, h⟩ | ⟨h9, h⟩
  obtain ⟨γ4, h10⟩ := asks_some h (gam [])
  rcases r with t10
  refine call_lim rfl ?_; rotate_left
  have h10 := ask_some h
  rcases r with res3
  refine call_lim rfl ?_; rotate_left
  all_goals (dsimp only [R1, w29_StoreStays_s2_x] at *; show runFn IF_ (g5F b5_2) _ _ = _; generalize b5_2 = c0 at *; exact fin_)
noncomputable def w29_StoreHalves_s1_x (γ : Nat → Nat) : Bool → X × St
  | a0 => (.ret, ⟨bd 6 (vF a0 :: bd 55 []), []⟩)
instance : InjS w29_StoreHalves_s1_x := ⟨fun γ γ' x y h => by
  rcases x with a0 <;> rcases y with a0' <;> simp only [w29_StoreHalves_s1_x] at h <;> exact inj_⟩
noncomputable def w29_StoreHalves_s1 (l : List Pair) (from_ : Int) (to_ : Int) : Option (Bool) := asks (fun γ => (lim F pr).seg [6] b6_1 ⟨.lit 41 false (List.map ePair l) :: vU from_ :: vU to_ :: bd 59 [], []⟩) w29_StoreHalves_s1_x
noncomputable def w29_StoreHalves_l0_x (l : List Pair) (γ : Nat → Nat) : Unit ⊕ ((List Pair) × (List Pair)) → X × St
  | .inl () => (.ret, ⟨bd 6 (vF false :: bd 55 []), []⟩)
  | .inr (b0, b1) => (.brk 0, ⟨.lit 41 false (List.map ePair l) :: bd 6 (.lit 41 false (List.map ePair b0) :: .lit 41 false (List.map ePair b1) :: bd 53 []), []⟩)
instance {l} : InjS (w29_StoreHalves_l0_x l) := ⟨fun γ γ' x y h => by
  rcases x with _ | ⟨b0, b1⟩ <;> rcases y with _ | ⟨b0', b1'⟩ <;> simp only [w29_StoreHalves_l0_x] at h <;> exact inj_⟩
noncomputable def w29_StoreHalves_l0 (l : List Pair) (from_ : Int) (to_ : Int) (a : List Pair) (b : List Pair) (i : Int) : Option (Unit ⊕ ((List Pair) × (List Pair))) := asks (fun γ => (lim F pr).loop [2, 1, 9, 7, 8, 0] 0 b6_0 ⟨.lit 41 false (List.map ePair l) :: vU from_ :: vU to_ :: bd 4 (.lit 41 false (List.map ePair a) :: .lit 41 false (List.map ePair b) :: vI i :: bd 52 []), []⟩) (w29_StoreHalves_l0_x l)
noncomputable def w29_StoreHalves_s1_b (l : List Pair) (from_ : Int) (to_ : Int) : Option (Bool) :=
  (store_Range l from_ to_).bind fun res =>
  (store_Range l to_ from_).bind fun res1 =>
  (w29_StoreHalves_l0 l from_ to_ res res1 0).bind fun r => match r with
    | .inl () =>
      some false
    | .inr (a, b) =>
      bif Ops.std.ieq (Ops.std.iadd .i64 (xlen ePair a) (xlen ePair b)) (xlen ePair l) then w29_awake else
      some false
theorem w29_StoreHalves_s1_r {l from_ to_ r} (h : w29_StoreHalves_s1_b l from_ to_ = some r) : w29_StoreHalves_s1 l from_ to_ = some r := by
  unfold w29_StoreHalves_s1_b at h
  refine asks_of fun γ => ?_
  obtain ⟨res, h1, h⟩ := bind_ask h
  obtain ⟨res1, h2, h⟩ := bind_ask h
  obtain ⟨r3, γ3, h3, h⟩ := bind_asks h (gam [])
  rcases r3 with _ | ⟨a, b⟩
  cases h; refine ⟨gam [], seg_lim ?_⟩; rotate_left
  rcases cond_some h with ⟨h4, h⟩ | ⟨h4, h⟩
  have h5 := ask_some h
  rcases r with res2
  refine ⟨gam [], seg_lim ?_⟩; rotate_left
  cases h; refine ⟨gam [], seg_lim ?_⟩; rotate_left
  all_goals (dsimp only [R1, w29_StoreHalves_l0_x, w29_StoreHalves_s1_x] at *; show Ifc.apart IF_ _ (b6_1F b6_0) _ = _; generalize b6_0 = c0 at *; exact fin_)
noncomputable def w29_StoreHalves_l0_b (l : List Pair) (from_ : Int) (to_ : Int) (a : List Pair) (b : List Pair) (i : Int) : Option (Unit ⊕ ((List Pair) × (List Pair))) :=
  bif Ops.std.ilt i (xlen ePair a) then
    (xget ePair a i).bind fun x =>
    (r05_Place x.key).bind fun res =>
    bif Ops.std.ilt (Ops.std.isub .u64 to_ from_) (Ops.std.isub .u64 res from_) then some (.inl ()) else
    bif Ops.std.ieq res from_ then some (.inl ()) else
    w29_StoreHalves_l0 l from_ to_ a b (Ops.std.iadd .i64 i 1)
  else
    some (.inr (a, b))
theorem w29_StoreHalves_l0_r {l from_ to_ a b i r} (h : w29_StoreHalves_l0_b l from_ to_ a b i = some r) : w29_StoreHalves_l0 l from_ to_ a b i = some r := by
  unfold w29_StoreHalves_l0_b at h
  refine asks_of fun γ => ?_
  rcases cond_some h with ⟨h1, h⟩ | ⟨h1, h⟩
  obtain ⟨x, h2, h⟩ := bind_ask h
  obtain ⟨res, h3, h⟩ := bind_ask h
  rcases cond_some h with ⟨h4, h⟩ | ⟨h4, h⟩
  cases h; refine ⟨gam [], round_lim ?_⟩; rotate_left
  rcases cond_some h with ⟨h5, h⟩ | ⟨h5, h⟩
  cases h; refine ⟨gam [], round_lim ?_⟩; rotate_left
  replace h := asks_some h (gam []); obtain ⟨γ', h0⟩ := h; refine ⟨γ', round_lim ?_⟩; rotate_left
  cases h; refine ⟨gam [], round_lim ?_⟩; rotate_left
  all_goals (dsimp only [R1, w29_StoreHalves_l0_x] at *; show roundAs IF_ _ _ b6_0 b6_0F _ = _; generalize b6_0 = c0 at *; exact fin_)
noncomputable def w29_StoreHalves_b (l : List Pair) (from_ : Int) (to_ : Int) : Option (Bool) :=
  (w29_Large l).bind fun res =>
  bif res then w29_awake else
  bif Ops.std.ieq from_ to_ then w29_awake else
  w29_StoreHalves_s1 l from_ to_
theorem w29_StoreHalves_r {l from_ to_ r} (h : w29_StoreHalves_b l from_ to_ = some r) : w29_StoreHalves l from_ to_ = some r := by
  unfold w29_StoreHalves_b at h
  refine ask_of ?_
  obtain ⟨res, h1, h⟩ := bind_ask h
  rcases cond_some h with ⟨h2, h⟩ | ⟨h2, h⟩
  have h3 := ask_some h
  rcases r with res1
  refine call_lim rfl ?_; rotate_left
  rcases cond_some h with ⟨h3, h⟩ | ⟨h3, h⟩
  have h4 := ask_some h
  rcases r with res1
  refine call_lim rfl ?_; rotate_left
  obtain ⟨γ2, h4⟩ := asks_some h (gam [])
  rcases r with t6
  refine call_lim rfl ?_; rotate_left
  all_goals (dsimp only [R1, w29_StoreHalves_s1_x] at *; show runFn IF_ (g6F b6_1) _ _ = _; generalize b6_1 = c0 at *; exact fin_)
noncomputable def w29_Large_l0_x (γ : Nat → Nat) : Unit ⊕ Unit → X × St
  | .inl () => (.ret, ⟨bd 2 (vF true :: bd 26 []), []⟩)
  | .inr () => (.brk 0, ⟨bd 29 [], []⟩)
instance : InjS w29_Large_l0_x := ⟨fun γ γ' x y h => by
  rcases x with _ | _ <;> rcases y with _ | _ <;> simp only [w29_Large_l0_x] at h <;> exact inj_⟩
noncomputable def w29_Large_l0 (l : List Pair) (i : Int) : Option (Unit ⊕ Unit) := asks (fun γ => (lim F pr).loop [0, 3] 0 b10_0 ⟨.lit 41 false (List.map ePair l) :: bd 2 (vI i :: bd 25 []), []⟩) w29_Large_l0_x
noncomputable def w29_Large_l0_b (l : List Pair) (i : Int) : Option (Unit ⊕ Unit) :=
  bif Ops.std.ilt i (xlen ePair l) then
    (xget ePair l i).bind fun x =>
    bif Ops.std.ilt 300 (Ops.std.slen x.key) then some (.inl ()) else
    bif Ops.std.ilt 700 (Ops.std.slen x.val) then some (.inl ()) else
    w29_Large_l0 l (Ops.std.iadd .i64 i 1)
  else
    some (.inr ())
theorem w29_Large_l0_r {l i r} (h : w29_Large_l0_b l i = some r) : w29_Large_l0 l i = some r := by
  unfold w29_Large_l0_b at h
  refine asks_of fun γ => ?_
  rcases cond_some h with ⟨h1, h⟩ | ⟨h1, h⟩
  obtain ⟨x, h2, h⟩ := bind_ask h
  rcases cond_some h with ⟨h3, h⟩ | ⟨h3, h⟩
  cases h; refine ⟨gam [], round_lim ?_⟩; rotate_left
  rcases cond_some h with ⟨h4, h⟩ | ⟨h4, h⟩
  cases h; refine ⟨gam [], round_lim ?_⟩; rotate_left
  replace h := asks_some h (gam []); obtain ⟨γ', h0⟩ := h; refine ⟨γ', round_lim ?_⟩; rotate_left
  cases h; refine ⟨gam [], round_lim ?_⟩; rotate_left
  all_goals (dsimp only [w29_Large_l0_x] at *; show roundAs IF_ _ _ b10_0 b10_0F _ = _; generalize b10_0 = c0 at *; exact fin_)
noncomputable def w29_Large_b (l : List Pair) : Option (Bool) :=
  bif Ops.std.ilt 100 (xlen ePair l) then some true else
  (w29_Large_l0 l 0).bind fun r => match r with
    | .inl () =>
      some true
    | .inr () =>
      some false
theorem w29_Large_r {l r} (h : w29_Large_b l = some r) : w29_Large l = some r := by
  unfold w29_Large_b at h
  refine ask_of ?_
  rcases cond_some h with ⟨h1, h⟩ | ⟨h1, h⟩
  cases h; refine call_lim rfl ?_; rotate_left
  obtain ⟨r2, γ1, h2, h⟩ := bind_asks h (gam [])
  rcases r2 with _ | _
  cases h; refine call_lim rfl ?_; rotate_left
  cases h; refine call_lim rfl ?_; rotate_left
  all_goals (dsimp only [R1, w29_Large_l0_x] at *; show runFn IF_ (g10F b10_0) _ _ = _; generalize b10_0 = c0 at *; exact fin_)
noncomputable def store_Put_s0_x (key : ByteArray) (γ : Nat → Nat) : (List Pair) → X × St
  | a0 => (.ret, ⟨bd 6 (.sl 2 ((γ 2)) :: vI 0 :: bd 45 []), [.box 9 [vT key], .row 41 (γ 1) false (List.map ePair []), .row 41 (γ 2) false (List.map ePair a0)]⟩)
instance {key} : InjS (store_Put_s0_x key) := ⟨fun γ γ' x y h => by
  rcases x with a0 <;> rcases y with a0' <;> simp only [store_Put_s0_x] at h <;> exact inj_⟩
noncomputable def store_Put_s0 (l : List Pair) (key : ByteArray) (val : ByteArray) : Option ((List Pair)) := asks (fun γ => (lim F pr).seg [6, 7] b12_0 ⟨bd 2 (vT val :: bd 1 (.bptr 0 0 :: bd 3 (.sl 2 ((γ 2)) :: bd 44 []))), [.box 9 [vT key], .row 41 (γ 1) false (List.map ePair []), .row 41 (γ 2) false (List.map ePair l)]⟩) (store_Put_s0_x key)
noncomputable def store_Put_s0_b (l : List Pair) (key : ByteArray) (val : ByteArray) : Option ((List Pair)) :=
  (IndexFunc_Pair l key).bind fun res =>
  bif Ops.std.ilt res 0 then
    bif xroom ePair 32 l [(⟨key, val⟩ : Pair)] then
      (xsub ePair l 0 (xlen ePair l)).bind fun ys =>
      (xsub ePair l (xlen ePair l) (xlen ePair l)).bind fun ys1 =>
      some (ys ++ ([(⟨key, val⟩ : Pair)] ++ ys1))
    else
      none
  else
    bif xroom ePair 32 l [(⟨key, val⟩ : Pair)] then
      (xsub ePair l 0 res).bind fun ys =>
      (xsub ePair l res (xlen ePair l)).bind fun ys1 =>
      some (ys ++ ([(⟨key, val⟩ : Pair)] ++ ys1))
    else
      none
theorem store_Put_s0_r {l key val r} (h : store_Put_s0_b l key val = some r) : store_Put_s0 l key val = some r := by
  unfold store_Put_s0_b at h
  refine asks_of fun γ => ?_
  obtain ⟨res, h1, h⟩ := bind_ask h
  rcases cond_some h with ⟨h2, h⟩ | ⟨h2, h⟩
  obtain ⟨h3, h⟩ := need_some h
  obtain ⟨ys, h4, h⟩ := bind_ask h
  obtain ⟨ys1, h5, h⟩ := bind_ask h
  cases h; refine ⟨gam [0, (γ 1), ((γ 2) + 1)], seg_lim ?_⟩; rotate_left
  obtain ⟨h3, h⟩ := need_some h
  obtain ⟨ys, h4, h⟩ := bind_ask h
  obtain ⟨ys1, h5, h⟩ := bind_ask h
  cases h; refine ⟨gam [0, (γ 1), ((γ 2) + 1)], seg_lim ?_⟩; rotate_left
  all_goals (dsimp only [IndexFunc_Pair_e, store_Put_s0_x] at *; show Ifc.apart IF_ _ b12_0F _ = _; exact fin_)
noncomputable def store_Put_b (l : List Pair) (key : ByteArray) (val : ByteArray) : Option (((List Pair) × Int)) :=
  bif xroom ePair 32 [] l then
    (store_place l key).bind fun res =>
    (msg_Key key).bind fun res1 =>
    bif res1 then
      bif Ops.std.ilt 512 (Ops.std.slen val) then some (l, 5) else
      bif Ops.std.ile 0 res then
        (xget ePair l res).bind fun x =>
        some (xset l res (⟨x.key, val⟩ : Pair), 0)
      else
        bif Ops.std.ile 64 (xlen ePair l) then some (l, 10) else
        (store_Put_s0 l key val).bind fun r2 =>
        some (r2, 0)
    else
      some (l, 7)
  else
    none
theorem store_Put_r {l key val r} (h : store_Put_b l key val = some r) : store_Put l key val = some r := by
  unfold store_Put_b at h
  refine ask_of ?_
  obtain ⟨h1, h⟩ := need_some h
  obtain ⟨res, h2, h⟩ := bind_ask h
  obtain ⟨res1, h3, h⟩ := bind_ask h
  rcases cond_some h with ⟨h4, h⟩ | ⟨h4, h⟩
  rcases cond_some h with ⟨h5, h⟩ | ⟨h5, h⟩
  cases h; refine call_lim rfl ?_; rotate_left
  rcases cond_some h with ⟨h6, h⟩ | ⟨h6, h⟩
  obtain ⟨x, h7, h⟩ := bind_ask h
  cases h; refine call_lim rfl ?_; rotate_left
  rcases cond_some h with ⟨h7, h⟩ | ⟨h7, h⟩
  cases h; refine call_lim rfl ?_; rotate_left
  obtain ⟨r2, γ3, h8, h⟩ := bind_asks h (gam [0, 0, 0])
  cases h; refine call_lim rfl ?_; rotate_left
  cases h; refine call_lim rfl ?_; rotate_left
  all_goals (dsimp only [R1, R2, store_Put_s0_x] at *; show runFn IF_ (g12F b12_0) _ _ = _; generalize b12_0 = c0 at *; exact fin_)
noncomputable def r29_Put_l0_x (l : List Pair) (key : ByteArray) (val : ByteArray) (γ : Nat → Nat) : Int → X × St
  | a0 => (.brk 0, ⟨.lit 41 false (List.map ePair l) :: vT key :: vT val :: bd 5 (vI a0 :: bd 60 []), [.row 41 (γ 0) false (List.map ePair [])]⟩)
instance {l key val} : InjS (r29_Put_l0_x l key val) := ⟨fun γ γ' x y h => by
  rcases x with a0 <;> rcases y with a0' <;> simp only [r29_Put_l0_x] at h <;> exact inj_⟩
noncomputable def r29_Put_l0 (l : List Pair) (key : ByteArray) (val : ByteArray) (at_ : Int) : Option (Int) := asks (fun γ => (lim F pr).loop [1, 2, 0, 8] 1 b13_0 ⟨.lit 41 false (List.map ePair l) :: vT key :: vT val :: bd 5 (vI at_ :: bd 60 []), [.row 41 (γ 0) false (List.map ePair [])]⟩) (r29_Put_l0_x l key val)
noncomputable def r29_Put_l0_b (l : List Pair) (key : ByteArray) (val : ByteArray) (at_ : Int) : Option (Int) :=
  bif Ops.std.ilt at_ (xlen ePair l) then
    (xget ePair l at_).bind fun x =>
    (r11_Less key x.key).bind fun res =>
    bif res then some at_ else
    r29_Put_l0 l key val (Ops.std.iadd .i64 at_ 1)
  else
    some at_
theorem r29_Put_l0_r {l key val at_ r} (h : r29_Put_l0_b l key val at_ = some r) : r29_Put_l0 l key val at_ = some r := by
  unfold r29_Put_l0_b at h
  refine asks_of fun γ => ?_
  rcases cond_some h with ⟨h1, h⟩ | ⟨h1, h⟩
  obtain ⟨x, h2, h⟩ := bind_ask h
  obtain ⟨res, h3, h⟩ := bind_ask h
  rcases cond_some h with ⟨h4, h⟩ | ⟨h4, h⟩
  cases h; refine ⟨gam [(γ 0)], round_lim ?_⟩; rotate_left
  replace h := asks_some h (gam [(γ 0)]); obtain ⟨γ', h0⟩ := h; refine ⟨γ', round_lim ?_⟩; rotate_left
  cases h; refine ⟨gam [(γ 0)], round_lim ?_⟩; rotate_left
  all_goals (dsimp only [R1, r29_Put_l0_x] at *; show roundAs IF_ _ _ b13_0 b13_0F _ = _; generalize b13_0 = c0 at *; exact fin_)
noncomputable def r29_Put_b (l : List Pair) (key : ByteArray) (val : ByteArray) : Option (((List Pair) × Int)) :=
  (r08_Key key).bind fun res =>
  bif res then
    bif Ops.std.ilt 512 (Ops.std.slen val) then some (l, 5) else
    (r29_place l key).bind fun res1 =>
    bif Ops.std.ile 0 res1 then
      bif xroom ePair 32 [] l then
        (xget ePair l res1).bind fun x =>
        some (xset l res1 (⟨x.key, val⟩ : Pair), 0)
      else
        none
    else
      bif Ops.std.ilt 63 (xlen ePair l) then some (l, 10) else
      (r29_Put_l0 l key val 0).bind fun at_ =>
      (xsub ePair l 0 at_).bind fun ys =>
      bif xroom ePair 32 [] ys then
        bif xroom ePair 32 ys [(⟨key, val⟩ : Pair)] then
          (xsub ePair l at_ (xlen ePair l)).bind fun ys1 =>
          bif xroom ePair 32 (ys ++ [(⟨key, val⟩ : Pair)]) ys1 then some (((ys ++ [(⟨key, val⟩ : Pair)]) ++ ys1), 0) else
          none
        else
          none
      else
        none
  else
    some (l, 7)
theorem r29_Put_r {l key val r} (h : r29_Put_b l key val = some r) : r29_Put l key val = some r := by
  unfold r29_Put_b at h
  refine ask_of ?_
  obtain ⟨res, h1, h⟩ := bind_ask h
  rcases cond_some h with ⟨h2, h⟩ | ⟨h2, h⟩
  rcases cond_some h with ⟨h3, h⟩ | ⟨h3, h⟩
  cases h; refine call_lim rfl ?_; rotate_left
  obtain ⟨res1, h4, h⟩ := bind_ask h
  rcases cond_some h with ⟨h5, h⟩ | ⟨h5, h⟩
  obtain ⟨h6, h⟩ := need_some h
  obtain ⟨x, h7, h⟩ := bind_ask h
  cases h; refine call_lim rfl ?_; rotate_left
  rcases cond_some h with ⟨h6, h⟩ | ⟨h6, h⟩
  cases h; refine call_lim rfl ?_; rotate_left
  obtain ⟨at_, γ3, h7, h⟩ := bind_asks h (gam [0])
  obtain ⟨ys, h8, h⟩ := bind_ask h
  obtain ⟨h9, h⟩ := need_some h
  obtain ⟨h10, h⟩ := need_some h
  obtain ⟨ys1, h11, h⟩ := bind_ask h
  obtain ⟨h12, h⟩ := need_some h
  cases h; refine call_lim rfl ?_; rotate_left
  cases h; refine call_lim rfl ?_; rotate_left
  all_goals (dsimp only [R1, R2, r29_Put_l0_x] at *; show runFn IF_ (g13F b13_0) _ _ = _; generalize b13_0 = c0 at *; exact fin_)
noncomputable def store_Get_b (l : List Pair) (key : ByteArray) : Option ((ByteArray × Bool)) :=
  (store_place l key).bind fun res =>
  bif Ops.std.ilt res 0 then some (⟨#[]⟩, false) else
  (xget ePair l res).bind fun x =>
  some (x.val, true)
theorem store_Get_r {l key r} (h : store_Get_b l key = some r) : store_Get l key = some r := by
  unfold store_Get_b at h
  refine ask_of ?_
  obtain ⟨res, h1, h⟩ := bind_ask h
  rcases cond_some h with ⟨h2, h⟩ | ⟨h2, h⟩
  cases h; refine call_lim rfl ?_; rotate_left
  obtain ⟨x, h3, h⟩ := bind_ask h
  cases h; refine call_lim rfl ?_; rotate_left
  all_goals (dsimp only [R1, R2] at *; show runFn IF_ g14F _ _ = _; exact fin_)
noncomputable def r29_Get_b (l : List Pair) (key : ByteArray) : Option ((ByteArray × Bool)) :=
  (r29_place l key).bind fun res =>
  bif Ops.std.ilt res 0 then some (⟨#[]⟩, false) else
  (xget ePair l res).bind fun x =>
  some (x.val, true)
theorem r29_Get_r {l key r} (h : r29_Get_b l key = some r) : r29_Get l key = some r := by
  unfold r29_Get_b at h
  refine ask_of ?_
  obtain ⟨res, h1, h⟩ := bind_ask h
  rcases cond_some h with ⟨h2, h⟩ | ⟨h2, h⟩
  cases h; refine call_lim rfl ?_; rotate_left
  obtain ⟨x, h3, h⟩ := bind_ask h
  cases h; refine call_lim rfl ?_; rotate_left
  all_goals (dsimp only [R1, R2] at *; show runFn IF_ g15F _ _ = _; exact fin_)
noncomputable def r08_Pairs_l0_x (γ : Nat → Nat) : Unit ⊕ Unit → X × St
  | .inl () => (.ret, ⟨bd 4 (vF false :: bd 21 []), []⟩)
  | .inr () => (.brk 0, ⟨bd 26 [], []⟩)
instance : InjS r08_Pairs_l0_x := ⟨fun γ γ' x y h => by
  rcases x with _ | _ <;> rcases y with _ | _ <;> simp only [r08_Pairs_l0_x] at h <;> exact inj_⟩
noncomputable def r08_Pairs_l0 (a : List Pair) (b : List Pair) (i : Int) : Option (Unit ⊕ Unit) := asks (fun γ => (lim F pr).loop [0, 1, 5] 0 b16_0 ⟨.lit 41 false (List.map ePair a) :: .lit 41 false (List.map ePair b) :: bd 3 (vI i :: bd 20 []), []⟩) r08_Pairs_l0_x
noncomputable def r08_Pairs_l0_b (a : List Pair) (b : List Pair) (i : Int) : Option (Unit ⊕ Unit) :=
  bif Ops.std.ilt i (xlen ePair a) then
    (xget ePair a i).bind fun x =>
    (xget ePair b i).bind fun x1 =>
    bif Ops.std.seq x.key x1.key then
      bif Ops.std.seq x.val x1.val then r08_Pairs_l0 a b (Ops.std.iadd .i64 i 1) else
      some (.inl ())
    else
      some (.inl ())
  else
    some (.inr ())
theorem r08_Pairs_l0_r {a b i r} (h : r08_Pairs_l0_b a b i = some r) : r08_Pairs_l0 a b i = some r := by
  unfold r08_Pairs_l0_b at h
  refine asks_of fun γ => ?_
  rcases cond_some h with ⟨h1, h⟩ | ⟨h1, h⟩
  obtain ⟨x, h2, h⟩ := bind_ask h
  obtain ⟨x1, h3, h⟩ := bind_ask h
  rcases cond_some h with ⟨h4, h⟩ | ⟨h4, h⟩
  rcases cond_some h with ⟨h5, h⟩ | ⟨h5, h⟩
  replace h := asks_some h (gam []); obtain ⟨γ', h0⟩ := h; refine ⟨γ', round_lim ?_⟩; rotate_left
  cases h; refine ⟨gam [], round_lim ?_⟩; rotate_left
  cases h; refine ⟨gam [], round_lim ?_⟩; rotate_left
  cases h; refine ⟨gam [], round_lim ?_⟩; rotate_left
  all_goals (dsimp only [r08_Pairs_l0_x] at *; show roundAs IF_ _ _ b16_0 b16_0F _ = _; generalize b16_0 = c0 at *; exact fin_)
noncomputable def r08_Pairs_b (a : List Pair) (b : List Pair) : Option (Bool) :=
  bif Ops.std.ieq (xlen ePair a) (xlen ePair b) then
    (r08_Pairs_l0 a b 0).bind fun r => match r with
      | .inl () =>
        some false
      | .inr () =>
        some true
  else
    some false
theorem r08_Pairs_r {a b r} (h : r08_Pairs_b a b = some r) : r08_Pairs a b = some r := by
  unfold r08_Pairs_b at h
  refine ask_of ?_
  rcases cond_some h with ⟨h1, h⟩ | ⟨h1, h⟩
  obtain ⟨r2, γ1, h2, h⟩ := bind_asks h (gam [])
  rcases r2 with _ | _
  cases h; refine call_lim rfl ?_; rotate_left
  cases h; refine call_lim rfl ?_; rotate_left
  cases h; refine call_lim rfl ?_; rotate_left
  all_goals (dsimp only [R1, r08_Pairs_l0_x] at *; show runFn IF_ (g16F b16_0) _ _ = _; generalize b16_0 = c0 at *; exact fin_)
noncomputable def store_Right_l0_x (l : List Pair) (γ : Nat → Nat) : Unit ⊕ Unit → X × St
  | .inl () => (.ret, ⟨bd 2 (vF false :: bd 38 []), []⟩)
  | .inr () => (.brk 0, ⟨.lit 41 false (List.map ePair l) :: bd 40 [], []⟩)
instance {l} : InjS (store_Right_l0_x l) := ⟨fun γ γ' x y h => by
  rcases x with _ | _ <;> rcases y with _ | _ <;> simp only [store_Right_l0_x] at h <;> exact inj_⟩
noncomputable def store_Right_l0 (l : List Pair) (t7 : Int) : Option (Unit ⊕ Unit) := asks (fun γ => (lim F pr).loop [6, 5, 7, 0] 0 b17_0 ⟨.lit 41 false (List.map ePair l) :: bd 4 (.lit 41 false (List.map ePair l) :: vI (xlen ePair l) :: vI t7 :: bd 33 []), []⟩) (store_Right_l0_x l)
noncomputable def store_Right_l0_b (l : List Pair) (t7 : Int) : Option (Unit ⊕ Unit) :=
  bif Ops.std.ilt t7 (xlen ePair l) then
    (xget ePair l t7).bind fun x =>
    (msg_Key x.key).bind fun res =>
    bif res then
      bif Ops.std.ilt 512 (Ops.std.slen x.val) then some (.inl ()) else
      bif Ops.std.ilt 0 t7 then
        (xget ePair l (Ops.std.isub .i64 t7 1)).bind fun x1 =>
        bif Ops.std.slt x1.key x.key then store_Right_l0 l (Ops.std.iadd .i64 t7 1) else
        some (.inl ())
      else
        store_Right_l0 l (Ops.std.iadd .i64 t7 1)
    else
      some (.inl ())
  else
    some (.inr ())
theorem store_Right_l0_r {l t7 r} (h : store_Right_l0_b l t7 = some r) : store_Right_l0 l t7 = some r := by
  unfold store_Right_l0_b at h
  refine asks_of fun γ => ?_
  rcases cond_some h with ⟨h1, h⟩ | ⟨h1, h⟩
  obtain ⟨x, h2, h⟩ := bind_ask h
  obtain ⟨res, h3, h⟩ := bind_ask h
  rcases cond_some h with ⟨h4, h⟩ | ⟨h4, h⟩
  rcases cond_some h with ⟨h5, h⟩ | ⟨h5, h⟩
  cases h; refine ⟨gam [], round_lim ?_⟩; rotate_left
  rcases cond_some h with ⟨h6, h⟩ | ⟨h6, h⟩
  obtain ⟨x1, h7, h⟩ := bind_ask h
  rcases cond_some h with ⟨h8, h⟩ | ⟨h8, h⟩
  replace h := asks_some h (gam []); obtain ⟨γ', h0⟩ := h; refine ⟨γ', round_lim ?_⟩; rotate_left
  cases h; refine ⟨gam [], round_lim ?_⟩; rotate_left
  replace h := asks_some h (gam []); obtain ⟨γ', h0⟩ := h; refine ⟨γ', round_lim ?_⟩; rotate_left
  cases h; refine ⟨gam [], round_lim ?_⟩; rotate_left
  cases h; refine ⟨gam [], round_lim ?_⟩; rotate_left
  all_goals (dsimp only [R1, store_Right_l0_x] at *; show roundAs IF_ _ _ b17_0 b17_0F _ = _; generalize b17_0 = c0 at *; exact fin_)
noncomputable def store_Right_b (l : List Pair) : Option (Bool) :=
  (store_Right_l0 l 0).bind fun r => match r with
    | .inl () =>
      some false
    | .inr () =>
      some (Ops.std.ile (xlen ePair l) 64)
theorem store_Right_r {l r} (h : store_Right_b l = some r) : store_Right l = some r := by
  unfold store_Right_b at h
  refine ask_of ?_
  obtain ⟨r1, γ1, h1, h⟩ := bind_asks h (gam [])
  rcases r1 with _ | _
  cases h; refine call_lim rfl ?_; rotate_left
  cases h; refine call_lim rfl ?_; rotate_left
  all_goals (dsimp only [R1, store_Right_l0_x] at *; show runFn IF_ (g17F b17_0) _ _ = _; generalize b17_0 = c0 at *; exact fin_)
noncomputable def r29_Right_l0_x (l : List Pair) (γ : Nat → Nat) : Unit ⊕ Unit → X × St
  | .inl () => (.ret, ⟨bd 2 (vF false :: bd 45 []), []⟩)
  | .inr () => (.brk 0, ⟨.lit 41 false (List.map ePair l) :: bd 47 [], []⟩)
instance {l} : InjS (r29_Right_l0_x l) := ⟨fun γ γ' x y h => by
  rcases x with _ | _ <;> rcases y with _ | _ <;> simp only [r29_Right_l0_x] at h <;> exact inj_⟩
noncomputable def r29_Right_l0 (l : List Pair) (i : Int) : Option (Unit ⊕ Unit) := asks (fun γ => (lim F pr).loop [3, 0] 0 b18_0 ⟨.lit 41 false (List.map ePair l) :: bd 2 (vI i :: bd 44 []), []⟩) (r29_Right_l0_x l)
noncomputable def r29_Right_l0_b (l : List Pair) (i : Int) : Option (Unit ⊕ Unit) :=
  bif Ops.std.ilt i (xlen ePair l) then
    (xget ePair l i).bind fun x =>
    (r08_Key x.key).bind fun res =>
    bif res then
      bif Ops.std.ilt 512 (Ops.std.slen x.val) then some (.inl ()) else
      bif Ops.std.ilt 0 i then
        (xget ePair l (Ops.std.isub .i64 i 1)).bind fun x1 =>
        (r11_Less x1.key x.key).bind fun res1 =>
        bif res1 then r29_Right_l0 l (Ops.std.iadd .i64 i 1) else
        some (.inl ())
      else
        r29_Right_l0 l (Ops.std.iadd .i64 i 1)
    else
      some (.inl ())
  else
    some (.inr ())
theorem r29_Right_l0_r {l i r} (h : r29_Right_l0_b l i = some r) : r29_Right_l0 l i = some r := by
  unfold r29_Right_l0_b at h
  refine asks_of fun γ => ?_
  rcases cond_some h with ⟨h1, h⟩ | ⟨h1, h⟩
  obtain ⟨x, h2, h⟩ := bind_ask h
  obtain ⟨res, h3, h⟩ := bind_ask h
  rcases cond_some h with ⟨h4, h⟩ | ⟨h4, h⟩
  rcases cond_some h with ⟨h5, h⟩ | ⟨h5, h⟩
  cases h; refine ⟨gam [], round_lim ?_⟩; rotate_left
  rcases cond_some h with ⟨h6, h⟩ | ⟨h6, h⟩
  obtain ⟨x1, h7, h⟩ := bind_ask h
  obtain ⟨res1, h8, h⟩ := bind_ask h
  rcases cond_some h with ⟨h9, h⟩ | ⟨h9, h⟩
  replace h := asks_some h (gam []); obtain ⟨γ', h0⟩ := h; refine ⟨γ', round_lim ?_⟩; rotate_left
  cases h; refine ⟨gam [], round_lim ?_⟩; rotate_left
  replace h := asks_some h (gam []); obtain ⟨γ', h0⟩ := h; refine ⟨γ', round_lim ?_⟩; rotate_left
  cases h; refine ⟨gam [], round_lim ?_⟩; rotate_left
  cases h; refine ⟨gam [], round_lim ?_⟩; rotate_left
  all_goals (dsimp only [R1, r29_Right_l0_x] at *; show roundAs IF_ _ _ b18_0 b18_0F _ = _; generalize b18_0 = c0 at *; exact fin_)
noncomputable def r29_Right_b (l : List Pair) : Option (Bool) :=
  (r29_Right_l0 l 0).bind fun r => match r with
    | .inl () =>
      some false
    | .inr () =>
      some (Ops.std.ilt (xlen ePair l) 65)
theorem r29_Right_r {l r} (h : r29_Right_b l = some r) : r29_Right l = some r := by
  unfold r29_Right_b at h
  refine ask_of ?_
  obtain ⟨r1, γ1, h1, h⟩ := bind_asks h (gam [])
  rcases r1 with _ | _
  cases h; refine call_lim rfl ?_; rotate_left
  cases h; refine call_lim rfl ?_; rotate_left
  all_goals (dsimp only [R1, r29_Right_l0_x] at *; show runFn IF_ (g18F b18_0) _ _ = _; generalize b18_0 = c0 at *; exact fin_)
noncomputable def store_Merge_l0_x (l : List Pair) (γ : Nat → Nat) : Unit ⊕ (((List Pair) × Int) ⊕ Int) → X × St
  | .inl () => (.brk 0, ⟨bd 6 (.sl 1 ((γ 1)) :: vI 0 :: bd 33 []), [.row 41 (γ 0) false (List.map ePair []), .row 41 (γ 1) false (List.map ePair l)]⟩)
  | .inr (.inl (b0, b1)) => (.brk 0, ⟨bd 6 (.lit 41 false (List.map ePair b0) :: vI b1 :: bd 33 []), [.row 41 (γ 0) false (List.map ePair []), .row 41 (γ 1) true (List.map ePair l)]⟩)
  | .inr (.inr c0) => (.brk 0, ⟨bd 6 (.sl 1 ((γ 1)) :: vI c0 :: bd 33 []), [.row 41 (γ 0) false (List.map ePair []), .row 41 (γ 1) true (List.map ePair l)]⟩)
instance {l} : InjS (store_Merge_l0_x l) := ⟨fun γ γ' x y h => by
  rcases x with _ | ⟨b0, b1⟩ | c0 <;> rcases y with _ | ⟨b0', b1'⟩ | c0' <;> simp only [store_Merge_l0_x] at h <;> exact inj_⟩
noncomputable def store_Merge_l0 (l : List Pair) (more : List Pair) (t16 : Int) : Option (Unit ⊕ (((List Pair) × Int) ⊕ Int)) := asks (fun γ => (lim F pr).loop [15, 14, 16, 6, 7] 2 b19_0 ⟨bd 6 (.sl 1 ((γ 1)) :: vI 0 :: bd 6 (.lit 41 false (List.map ePair more) :: vI (xlen ePair more) :: vI t16 :: bd 24 [])), [.row 41 (γ 0) false (List.map ePair []), .row 41 (γ 1) false (List.map ePair l)]⟩) (store_Merge_l0_x l)
noncomputable def store_Merge_l0_1 (l : List Pair) (more : List Pair) (out : List Pair) (met : Int) (t16 : Int) : Option (Unit ⊕ (((List Pair) × Int) ⊕ Int)) := asks (fun γ => (lim F pr).loop [15, 14, 16, 6, 7] 2 b19_0 ⟨bd 6 (.lit 41 false (List.map ePair out) :: vI met :: bd 6 (.lit 41 false (List.map ePair more) :: vI (xlen ePair more) :: vI t16 :: bd 24 [])), [.row 41 (γ 0) false (List.map ePair []), .row 41 (γ 1) true (List.map ePair l)]⟩) (store_Merge_l0_x l)
noncomputable def store_Merge_l0_2 (l : List Pair) (more : List Pair) (met : Int) (t16 : Int) : Option (Unit ⊕ (((List Pair) × Int) ⊕ Int)) := asks (fun γ => (lim F pr).loop [15, 14, 16, 6, 7] 2 b19_0 ⟨bd 6 (.sl 1 ((γ 1)) :: vI met :: bd 6 (.lit 41 false (List.map ePair more) :: vI (xlen ePair more) :: vI t16 :: bd 24 [])), [.row 41 (γ 0) false (List.map ePair []), .row 41 (γ 1) true (List.map ePair l)]⟩) (store_Merge_l0_x l)
noncomputable def store_Merge_l0_b (l : List Pair) (more : List Pair) (t16 : Int) : Option (Unit ⊕ (((List Pair) × Int) ⊕ Int)) :=
  bif Ops.std.ilt t16 (xlen ePair more) then
    (xget ePair more t16).bind fun x =>
    (store_place l x.key).bind fun res =>
    bif Ops.std.ile 0 res then store_Merge_l0 l more (Ops.std.iadd .i64 t16 1) else
    (store_Put l x.key x.val).bind fun ⟨r0, r1⟩ =>
    bif Ops.std.ieq r1 0 then store_Merge_l0_1 l more r0 0 (Ops.std.iadd .i64 t16 1) else
    store_Merge_l0_2 l more r1 (Ops.std.iadd .i64 t16 1)
  else
    some (.inl ())
theorem store_Merge_l0_r {l more t16 r} (h : store_Merge_l0_b l more t16 = some r) : store_Merge_l0 l more t16 = some r := by
  unfold store_Merge_l0_b at h
  refine asks_of fun γ => ?_
  rcases cond_some h with ⟨h1, h⟩ | ⟨h1, h⟩
  obtain ⟨x, h2, h⟩ := bind_ask h
  obtain ⟨res, h3, h⟩ := bind_ask h
  rcases cond_some h with ⟨h4, h⟩ | ⟨h4, h⟩
  replace h := asks_some h (gam [(γ 0), (γ 1)]); obtain ⟨γ', h0⟩ := h; refine ⟨γ', round_lim ?_⟩; rotate_left
  obtain ⟨r5, h5, h⟩ := bind_ask h
  rcases r5 with ⟨r0, r1⟩
  rcases cond_some h with ⟨h6, h⟩ | ⟨h6, h⟩
  replace h := asks_some h (gam [(γ 0), (γ 1)]); obtain ⟨γ', h0⟩ := h; refine ⟨γ', round_lim ?_⟩; rotate_left
  replace h := asks_some h (gam [(γ 0), (γ 1)]); obtain ⟨γ', h0⟩ := h; refine ⟨γ', round_lim ?_⟩; rotate_left
  cases h; refine ⟨gam [(γ 0), (γ 1)], round_lim ?_⟩; rotate_left
  all_goals (dsimp only [R1, R2, store_Merge_l0_x] at *; show roundAs IF_ _ _ b19_0 b19_0F _ = _; generalize b19_0 = c0 at *; exact fin_)
noncomputable def store_Merge_l0_1_b (l : List Pair) (more : List Pair) (out : List Pair) (met : Int) (t16 : Int) : Option (Unit ⊕ (((List Pair) × Int) ⊕ Int)) :=
  bif Ops.std.ilt t16 (xlen ePair more) then
    (xget ePair more t16).bind fun x =>
    (store_place out x.key).bind fun res =>
    bif Ops.std.ile 0 res then store_Merge_l0_1 l more out met (Ops.std.iadd .i64 t16 1) else
    (store_Put out x.key x.val).bind fun ⟨r0, r1⟩ =>
    bif Ops.std.ieq r1 0 then store_Merge_l0_1 l more r0 met (Ops.std.iadd .i64 t16 1) else
    store_Merge_l0_1 l more out r1 (Ops.std.iadd .i64 t16 1)
  else
    some (.inr (.inl (out, met)))
theorem store_Merge_l0_1_r {l more out met t16 r} (h : store_Merge_l0_1_b l more out met t16 = some r) : store_Merge_l0_1 l more out met t16 = some r := by
  unfold store_Merge_l0_1_b at h
  refine asks_of fun γ => ?_
  rcases cond_some h with ⟨h1, h⟩ | ⟨h1, h⟩
  obtain ⟨x, h2, h⟩ := bind_ask h
  obtain ⟨res, h3, h⟩ := bind_ask h
  rcases cond_some h with ⟨h4, h⟩ | ⟨h4, h⟩
  replace h := asks_some h (gam [(γ 0), (γ 1)]); obtain ⟨γ', h0⟩ := h; refine ⟨γ', round_lim ?_⟩; rotate_left
  obtain ⟨r5, h5, h⟩ := bind_ask h
  rcases r5 with ⟨r0, r1⟩
  rcases cond_some h with ⟨h6, h⟩ | ⟨h6, h⟩
  replace h := asks_some h (gam [(γ 0), (γ 1)]); obtain ⟨γ', h0⟩ := h; refine ⟨γ', round_lim ?_⟩; rotate_left
  replace h := asks_some h (gam [(γ 0), (γ 1)]); obtain ⟨γ', h0⟩ := h; refine ⟨γ', round_lim ?_⟩; rotate_left
  cases h; refine ⟨gam [(γ 0), (γ 1)], round_lim ?_⟩; rotate_left
  all_goals (dsimp only [R1, R2, store_Merge_l0_x] at *; show roundAs IF_ _ _ b19_0 b19_0F _ = _; generalize b19_0 = c0 at *; exact fin_)
noncomputable def store_Merge_l0_2_b (l : List Pair) (more : List Pair) (met : Int) (t16 : Int) : Option (Unit ⊕ (((List Pair) × Int) ⊕ Int)) :=
  bif Ops.std.ilt t16 (xlen ePair more) then
    (xget ePair more t16).bind fun x =>
    (store_place l x.key).bind fun res =>
    bif Ops.std.ile 0 res then store_Merge_l0_2 l more met (Ops.std.iadd .i64 t16 1) else
    (store_Put l x.key x.val).bind fun ⟨r0, r1⟩ =>
    bif Ops.std.ieq r1 0 then store_Merge_l0_1 l more r0 met (Ops.std.iadd .i64 t16 1) else
    store_Merge_l0_2 l more r1 (Ops.std.iadd .i64 t16 1)
  else
    some (.inr (.inr met))
theorem store_Merge_l0_2_r {l more met t16 r} (h : store_Merge_l0_2_b l more met t16 = some r) : store_Merge_l0_2 l more met t16 = some r := by
  unfold store_Merge_l0_2_b at h
  refine asks_of fun γ => ?_
  rcases cond_some h with ⟨h1, h⟩ | ⟨h1, h⟩
  obtain ⟨x, h2, h⟩ := bind_ask h
  obtain ⟨res, h3, h⟩ := bind_ask h
  rcases cond_some h with ⟨h4, h⟩ | ⟨h4, h⟩
  replace h := asks_some h (gam [(γ 0), (γ 1)]); obtain ⟨γ', h0⟩ := h; refine ⟨γ', round_lim ?_⟩; rotate_left
  obtain ⟨r5, h5, h⟩ := bind_ask h
  rcases r5 with ⟨r0, r1⟩
  rcases cond_some h with ⟨h6, h⟩ | ⟨h6, h⟩
  replace h := asks_some h (gam [(γ 0), (γ 1)]); obtain ⟨γ', h0⟩ := h; refine ⟨γ', round_lim ?_⟩; rotate_left
  replace h := asks_some h (gam [(γ 0), (γ 1)]); obtain ⟨γ', h0⟩ := h; refine ⟨γ', round_lim ?_⟩; rotate_left
  cases h; refine ⟨gam [(γ 0), (γ 1)], round_lim ?_⟩; rotate_left
  all_goals (dsimp only [R1, R2, store_Merge_l0_x] at *; show roundAs IF_ _ _ b19_0 b19_0F _ = _; generalize b19_0 = c0 at *; exact fin_)
noncomputable def store_Merge_b (l : List Pair) (more : List Pair) : Option (((List Pair) × Int)) :=
  bif xroom ePair 32 [] l then
    (store_Merge_l0 l more 0).bind fun r => match r with
      | .inl () =>
        some (l, 0)
      | .inr (.inl (out, met)) =>
        some (out, met)
      | .inr (.inr met) =>
        some (l, met)
  else
    none
theorem store_Merge_r {l more r} (h : store_Merge_b l more = some r) : store_Merge l more = some r := by
  unfold store_Merge_b at h
  refine ask_of ?_
  obtain ⟨h1, h⟩ := need_some h
  obtain ⟨r2, γ1, h2, h⟩ := bind_asks h (gam [0, 0])
  rcases r2 with _ | ⟨out, met⟩ | met
  cases h; refine call_lim rfl ?_; rotate_left
  cases h; refine call_lim rfl ?_; rotate_left
  cases h; refine call_lim rfl ?_; rotate_left
  all_goals (dsimp only [R2, store_Merge_l0_x] at *; show runFn IF_ (g19F b19_0) _ _ = _; generalize b19_0 = c0 at *; exact fin_)
noncomputable def r29_Merge_l0_x (γ : Nat → Nat) : ((List Pair) × Int) → X × St
  | (a0, a1) => (.brk 0, ⟨.lit 41 false (List.map ePair a0) :: bd 5 (vI a1 :: bd 38 []), [.row 41 (γ 0) false (List.map ePair [])]⟩)
instance : InjS r29_Merge_l0_x := ⟨fun γ γ' x y h => by
  rcases x with ⟨a0, a1⟩ <;> rcases y with ⟨a0', a1'⟩ <;> simp only [r29_Merge_l0_x] at h <;> exact inj_⟩
noncomputable def r29_Merge_l0 (more : List Pair) (l' : List Pair) (met : Int) (i : Int) : Option (((List Pair) × Int)) := asks (fun γ => (lim F pr).loop [1, 7, 0, 6] 1 b20_0 ⟨.lit 41 false (List.map ePair l') :: .lit 41 false (List.map ePair more) :: bd 4 (vI met :: vI i :: bd 37 []), [.row 41 (γ 0) false (List.map ePair [])]⟩) r29_Merge_l0_x
noncomputable def r29_Merge_l0_b (more : List Pair) (l' : List Pair) (met : Int) (i : Int) : Option (((List Pair) × Int)) :=
  bif Ops.std.ilt i (xlen ePair more) then
    (xget ePair more i).bind fun x =>
    (r29_place l' x.key).bind fun res =>
    bif Ops.std.ilt res 0 then
      (r29_Put l' x.key x.val).bind fun ⟨r0, r1⟩ =>
      bif Ops.std.ieq r1 0 then r29_Merge_l0 more r0 met (Ops.std.iadd .i64 i 1) else
      r29_Merge_l0 more r0 r1 (Ops.std.iadd .i64 i 1)
    else
      r29_Merge_l0 more l' met (Ops.std.iadd .i64 i 1)
  else
    some (l', met)
theorem r29_Merge_l0_r {more l' met i r} (h : r29_Merge_l0_b more l' met i = some r) : r29_Merge_l0 more l' met i = some r := by
  unfold r29_Merge_l0_b at h
  refine asks_of fun γ => ?_
  rcases cond_some h with ⟨h1, h⟩ | ⟨h1, h⟩
  obtain ⟨x, h2, h⟩ := bind_ask h
  obtain ⟨res, h3, h⟩ := bind_ask h
  rcases cond_some h with ⟨h4, h⟩ | ⟨h4, h⟩
  obtain ⟨r5, h5, h⟩ := bind_ask h
  rcases r5 with ⟨r0, r1⟩
  rcases cond_some h with ⟨h6, h⟩ | ⟨h6, h⟩
  replace h := asks_some h (gam [(γ 0)]); obtain ⟨γ', h0⟩ := h; refine ⟨γ', round_lim ?_⟩; rotate_left
  replace h := asks_some h (gam [(γ 0)]); obtain ⟨γ', h0⟩ := h; refine ⟨γ', round_lim ?_⟩; rotate_left
  replace h := asks_some h (gam [(γ 0)]); obtain ⟨γ', h0⟩ := h; refine ⟨γ', round_lim ?_⟩; rotate_left
  cases h; refine ⟨gam [(γ 0)], round_lim ?_⟩; rotate_left
  all_goals (dsimp only [R1, R2, r29_Merge_l0_x] at *; show roundAs IF_ _ _ b20_0 b20_0F _ = _; generalize b20_0 = c0 at *; exact fin_)
noncomputable def r29_Merge_b (l : List Pair) (more : List Pair) : Option (((List Pair) × Int)) :=
  r29_Merge_l0 more l 0 0
theorem r29_Merge_r {l more r} (h : r29_Merge_b l more = some r) : r29_Merge l more = some r := by
  unfold r29_Merge_b at h
  refine ask_of ?_
  obtain ⟨γ1, h1⟩ := asks_some h (gam [0])
  rcases r with ⟨l', met⟩
  refine call_lim rfl ?_; rotate_left
  all_goals (dsimp only [R2, r29_Merge_l0_x] at *; show runFn IF_ (g20F b20_0) _ _ = _; generalize b20_0 = c0 at *; exact fin_)
noncomputable def store_Range_b (l : List Pair) (from_ : Int) (to_ : Int) : Option ((List Pair)) :=
  bif xroom ePair 32 [] l then DeleteFunc_Pair l from_ to_ else
  none
theorem store_Range_r {l from_ to_ r} (h : store_Range_b l from_ to_ = some r) : store_Range l from_ to_ = some r := by
  unfold store_Range_b at h
  refine ask_of ?_
  obtain ⟨h1, h⟩ := need_some h
  obtain ⟨γ1, h2⟩ := asks_some h (gam [0, 0, 0])
  rcases r with r0
  refine call_lim rfl ?_; rotate_left
  all_goals (dsimp only [DeleteFunc_Pair_e, R1] at *; show runFn IF_ g23F _ _ = _; exact fin_)
noncomputable def r29_Range_l0_x (γ : Nat → Nat) : (List Pair) → X × St
  | a0 => (.brk 0, ⟨bd 7 (.sl 1 ((γ 1)) :: bd 24 []), [.row 41 (γ 0) false (List.map ePair []), .row 41 (γ 1) false (List.map ePair a0)]⟩)
instance : InjS r29_Range_l0_x := ⟨fun γ γ' x y h => by
  rcases x with a0 <;> rcases y with a0' <;> simp only [r29_Range_l0_x] at h <;> exact inj_⟩
noncomputable def r29_Range_l0 (l : List Pair) (from_ : Int) (to_ : Int) (i : Int) (r1 : List Pair) : Option ((List Pair)) := asks (fun γ => (lim F pr).loop [1, 2, 0, 8, 7] 2 b24_0 ⟨.lit 41 false (List.map ePair l) :: vU from_ :: vU to_ :: bd 4 (.sl 1 ((γ 1)) :: vI i :: bd 23 []), [.row 41 (γ 0) false (List.map ePair []), .row 41 (γ 1) false (List.map ePair r1)]⟩) r29_Range_l0_x
noncomputable def r29_Range_l0_b (l : List Pair) (from_ : Int) (to_ : Int) (i : Int) (r1 : List Pair) : Option ((List Pair)) :=
  bif Ops.std.ilt i (xlen ePair l) then
    (xget ePair l i).bind fun x =>
    (r05_Place x.key).bind fun res =>
    (r03_Upto from_ res to_).bind fun res1 =>
    bif res1 then
      bif xroom ePair 32 r1 [x] then r29_Range_l0 l from_ to_ (Ops.std.iadd .i64 i 1) (r1 ++ [x]) else
      none
    else
      r29_Range_l0 l from_ to_ (Ops.std.iadd .i64 i 1) r1
  else
    some r1
theorem r29_Range_l0_r {l from_ to_ i r1 r} (h : r29_Range_l0_b l from_ to_ i r1 = some r) : r29_Range_l0 l from_ to_ i r1 = some r := by
  unfold r29_Range_l0_b at h
  refine asks_of fun γ => ?_
  rcases cond_some h with ⟨h1, h⟩ | ⟨h1, h⟩
  obtain ⟨x, h2, h⟩ := bind_ask h
  obtain ⟨res, h3, h⟩ := bind_ask h
  obtain ⟨res1, h4, h⟩ := bind_ask h
  rcases cond_some h with ⟨h5, h⟩ | ⟨h5, h⟩
  obtain ⟨h6, h⟩ := need_some h
  replace h := asks_some h (gam [(γ 0), ((γ 1) + 1)]); obtain ⟨γ', h0⟩ := h; refine ⟨γ', round_lim ?_⟩; rotate_left
  replace h := asks_some h (gam [(γ 0), (γ 1)]); obtain ⟨γ', h0⟩ := h; refine ⟨γ', round_lim ?_⟩; rotate_left
  cases h; refine ⟨gam [(γ 0), (γ 1)], round_lim ?_⟩; rotate_left
  all_goals (dsimp only [R1, r29_Range_l0_x] at *; show roundAs IF_ _ _ b24_0 b24_0F _ = _; generalize b24_0 = c0 at *; exact fin_)
noncomputable def r29_Range_b (l : List Pair) (from_ : Int) (to_ : Int) : Option ((List Pair)) :=
  r29_Range_l0 l from_ to_ 0 []
theorem r29_Range_r {l from_ to_ r} (h : r29_Range_b l from_ to_ = some r) : r29_Range l from_ to_ = some r := by
  unfold r29_Range_b at h
  refine ask_of ?_
  obtain ⟨γ1, h1⟩ := asks_some h (gam [0, 0])
  rcases r with r1
  refine call_lim rfl ?_; rotate_left
  all_goals (dsimp only [R1, r29_Range_l0_x] at *; show runFn IF_ (g24F b24_0) _ _ = _; generalize b24_0 = c0 at *; exact fin_)
end Go.Ab.Tryd
namespace Go.Ab.Tryd
open Go Go.Ab Go.Proofs
set_option linter.unusedVariables false
set_option linter.unusedSimpArgs false
set_option maxRecDepth 10000
set_option maxHeartbeats 4000000
noncomputable def r05_Place_b (s : ByteArray) : Option (Int) :=
  (r05_Sum s).bind fun res =>
  r05_Mix res
theorem r05_Place_r {s r} (h : r05_Place_b s = some r) : r05_Place s = some r := by
  unfold r05_Place_b at h
  refine ask_of ?_
  obtain ⟨res, h1, h⟩ := bind_ask h
  have h2 := ask_some h
  rcases r with res1
  refine call_lim rfl ?_; rotate_left
  all_goals (dsimp only [R1] at *; show runFn IF_ g25F _ _ = _; exact fin_)
noncomputable def store_place_b (l : List Pair) (key : ByteArray) : Option (Int) :=
  IndexFunc_Pair_2 l key
theorem store_place_r {l key r} (h : store_place_b l key = some r) : store_place l key = some r := by
  unfold store_place_b at h
  refine ask_of ?_
  have h1 := ask_some h
  rcases r with res
  refine call_lim rfl ?_; rotate_left
  all_goals (dsimp only [IndexFunc_Pair_2_e, R1] at *; show runFn IF_ g34F _ _ = _; exact fin_)
noncomputable def msg_Key_b (s : ByteArray) : Option (Bool) :=
  bif Ops.std.seq s ⟨#[]⟩ then some false else
  bif Ops.std.ile (Ops.std.slen s) 96 then
    (utf_Valid s).bind fun res =>
    bif res then
      (utf_Count s).bind fun res1 =>
      some (Ops.std.ile res1 32)
    else
      some false
  else
    some false
theorem msg_Key_r {s r} (h : msg_Key_b s = some r) : msg_Key s = some r := by
  unfold msg_Key_b at h
  refine ask_of ?_
  rcases cond_some h with ⟨h1, h⟩ | ⟨h1, h⟩
  cases h; refine call_lim rfl ?_; rotate_left
  rcases cond_some h with ⟨h2, h⟩ | ⟨h2, h⟩
  obtain ⟨res, h3, h⟩ := bind_ask h
  rcases cond_some h with ⟨h4, h⟩ | ⟨h4, h⟩
  obtain ⟨res1, h5, h⟩ := bind_ask h
  cases h; refine call_lim rfl ?_; rotate_left
  cases h; refine call_lim rfl ?_; rotate_left
  cases h; refine call_lim rfl ?_; rotate_left
  all_goals (dsimp only [R1] at *; show runFn IF_ g35F _ _ = _; exact fin_)
noncomputable def store_Put_1_b (p : Pair) (b0 : ByteArray) : Option (Bool) :=
  some (Ops.std.slt b0 p.key)
theorem store_Put_1_r {p b0 r} (h : store_Put_1_b p b0 = some r) : store_Put_1 p b0 = some r := by
  unfold store_Put_1_b at h
  refine ask_of ?_
  cases h; refine call_lim rfl ?_; rotate_left
  all_goals (dsimp only [store_Put_1_e] at *; show runFn IF_ g37F _ _ = _; exact fin_)
noncomputable def IndexFunc_Pair_l0_x (b0 : ByteArray) (γ : Nat → Nat) : Int ⊕ Unit → X × St
  | .inl a0 => (.ret, ⟨bd 4 (vI a0 :: bd 14 []), [.box 9 [vT b0]]⟩)
  | .inr () => (.brk 0, ⟨bd 19 [], [.box 9 [vT b0]]⟩)
instance {b0} : InjS (IndexFunc_Pair_l0_x b0) := ⟨fun γ γ' x y h => by
  rcases x with a0 | _ <;> rcases y with a0' | _ <;> simp only [IndexFunc_Pair_l0_x] at h <;> exact inj_⟩
noncomputable def IndexFunc_Pair_l0 (s : List Pair) (b0 : ByteArray) (t8 : Int) : Option (Int ⊕ Unit) := asks (fun γ => (lim F pr).loop [7, 1, 0, 8] 1 b36_0 ⟨.lit 41 false (List.map ePair s) :: .fn 37 [.bptr 0 0] :: bd 5 (vI (xlen ePair s) :: vI t8 :: bd 10 []), [.box 9 [vT b0]]⟩) (IndexFunc_Pair_l0_x b0)
noncomputable def IndexFunc_Pair_l0_b (s : List Pair) (b0 : ByteArray) (t8 : Int) : Option (Int ⊕ Unit) :=
  bif Ops.std.ilt t8 (xlen ePair s) then
    (xget ePair s t8).bind fun x =>
    (store_Put_1 x b0).bind fun res =>
    bif res then some (.inl t8) else
    IndexFunc_Pair_l0 s b0 (Ops.std.iadd .i64 t8 1)
  else
    some (.inr ())
theorem IndexFunc_Pair_l0_r {s b0 t8 r} (h : IndexFunc_Pair_l0_b s b0 t8 = some r) : IndexFunc_Pair_l0 s b0 t8 = some r := by
  unfold IndexFunc_Pair_l0_b at h
  refine asks_of fun γ => ?_
  rcases cond_some h with ⟨h1, h⟩ | ⟨h1, h⟩
  obtain ⟨x, h2, h⟩ := bind_ask h
  obtain ⟨res, h3, h⟩ := bind_ask h
  rcases cond_some h with ⟨h4, h⟩ | ⟨h4, h⟩
  cases h; refine ⟨gam [], round_lim ?_⟩; rotate_left
  replace h := asks_some h (gam []); obtain ⟨γ', h0⟩ := h; refine ⟨γ', round_lim ?_⟩; rotate_left
  cases h; refine ⟨gam [], round_lim ?_⟩; rotate_left
  all_goals (dsimp only [IndexFunc_Pair_l0_x, store_Put_1_e] at *; show roundAs IF_ _ _ b36_0 b36_0F _ = _; generalize b36_0 = c0 at *; exact fin_)
noncomputable def IndexFunc_Pair_b (s : List Pair) (b0 : ByteArray) : Option (Int) :=
  (IndexFunc_Pair_l0 s b0 0).bind fun r => match r with
    | .inl t4 =>
      some t4
    | .inr () =>
      some (-1)
theorem IndexFunc_Pair_r {s b0 r} (h : IndexFunc_Pair_b s b0 = some r) : IndexFunc_Pair s b0 = some r := by
  unfold IndexFunc_Pair_b at h
  refine ask_of ?_
  obtain ⟨r1, γ1, h1, h⟩ := bind_asks h (gam [])
  rcases r1 with t4 | _
  cases h; refine call_lim rfl ?_; rotate_left
  cases h; refine call_lim rfl ?_; rotate_left
  all_goals (dsimp only [IndexFunc_Pair_e, IndexFunc_Pair_l0_x] at *; show runFn IF_ (g36F b36_0) _ _ = _; generalize b36_0 = c0 at *; exact fin_)
noncomputable def r08_Key_b (s : ByteArray) : Option (Bool) :=
  bif Ops.std.ilt 0 (Ops.std.slen s) then
    bif Ops.std.ilt (Ops.std.slen s) 97 then
      (r04_Valid s).bind fun res =>
      bif res then
        (r04_Parts s).bind fun res1 =>
        some (Ops.std.ilt (xlen vT res1) 33)
      else
        some false
    else
      some false
  else
    some false
theorem r08_Key_r {s r} (h : r08_Key_b s = some r) : r08_Key s = some r := by
  unfold r08_Key_b at h
  refine ask_of ?_
  rcases cond_some h with ⟨h1, h⟩ | ⟨h1, h⟩
  rcases cond_some h with ⟨h2, h⟩ | ⟨h2, h⟩
  obtain ⟨res, h3, h⟩ := bind_ask h
  rcases cond_some h with ⟨h4, h⟩ | ⟨h4, h⟩
  obtain ⟨res1, h5, h⟩ := bind_ask h
  cases h; refine call_lim rfl ?_; rotate_left
  cases h; refine call_lim rfl ?_; rotate_left
  cases h; refine call_lim rfl ?_; rotate_left
  cases h; refine call_lim rfl ?_; rotate_left
  all_goals (dsimp only [R1] at *; show runFn IF_ g39F _ _ = _; exact fin_)
noncomputable def r29_place_l0_x (γ : Nat → Nat) : Int ⊕ Unit → X × St
  | .inl a0 => (.ret, ⟨bd 4 (vI a0 :: bd 15 []), []⟩)
  | .inr () => (.brk 0, ⟨bd 20 [], []⟩)
instance : InjS r29_place_l0_x := ⟨fun γ γ' x y h => by
  rcases x with a0 | _ <;> rcases y with a0' | _ <;> simp only [r29_place_l0_x] at h <;> exact inj_⟩
noncomputable def r29_place_l0 (l : List Pair) (key : ByteArray) (i : Int) : Option (Int ⊕ Unit) := asks (fun γ => (lim F pr).loop [0, 1, 5] 0 b40_0 ⟨.lit 41 false (List.map ePair l) :: vT key :: bd 3 (vI i :: bd 14 []), []⟩) r29_place_l0_x
noncomputable def r29_place_l0_b (l : List Pair) (key : ByteArray) (i : Int) : Option (Int ⊕ Unit) :=
  bif Ops.std.ilt i (xlen ePair l) then
    (xget ePair l i).bind fun x =>
    bif Ops.std.seq x.key key then some (.inl i) else
    r29_place_l0 l key (Ops.std.iadd .i64 i 1)
  else
    some (.inr ())
theorem r29_place_l0_r {l key i r} (h : r29_place_l0_b l key i = some r) : r29_place_l0 l key i = some r := by
  unfold r29_place_l0_b at h
  refine asks_of fun γ => ?_
  rcases cond_some h with ⟨h1, h⟩ | ⟨h1, h⟩
  obtain ⟨x, h2, h⟩ := bind_ask h
  rcases cond_some h with ⟨h3, h⟩ | ⟨h3, h⟩
  cases h; refine ⟨gam [], round_lim ?_⟩; rotate_left
  replace h := asks_some h (gam []); obtain ⟨γ', h0⟩ := h; refine ⟨γ', round_lim ?_⟩; rotate_left
  cases h; refine ⟨gam [], round_lim ?_⟩; rotate_left
  all_goals (dsimp only [r29_place_l0_x] at *; show roundAs IF_ _ _ b40_0 b40_0F _ = _; generalize b40_0 = c0 at *; exact fin_)
noncomputable def r29_place_b (l : List Pair) (key : ByteArray) : Option (Int) :=
  (r29_place_l0 l key 0).bind fun r => match r with
    | .inl t4 =>
      some t4
    | .inr () =>
      some (-1)
theorem r29_place_r {l key r} (h : r29_place_b l key = some r) : r29_place l key = some r := by
  unfold r29_place_b at h
  refine ask_of ?_
  obtain ⟨r1, γ1, h1, h⟩ := bind_asks h (gam [])
  rcases r1 with t4 | _
  cases h; refine call_lim rfl ?_; rotate_left
  cases h; refine call_lim rfl ?_; rotate_left
  all_goals (dsimp only [R1, r29_place_l0_x] at *; show runFn IF_ (g40F b40_0) _ _ = _; generalize b40_0 = c0 at *; exact fin_)
noncomputable def r11_Less_l1_x (a : ByteArray) (b : ByteArray) (γ : Nat → Nat) : Bool ⊕ Unit → X × St
  | .inl a0 => (.ret, ⟨bd 4 (vF a0 :: bd 32 []), []⟩)
  | .inr () => (.brk 0, ⟨vT a :: vT b :: bd 35 [], []⟩)
instance {a b} : InjS (r11_Less_l1_x a b) := ⟨fun γ γ' x y h => by
  rcases x with a0 | _ <;> rcases y with a0' | _ <;> simp only [r11_Less_l1_x] at h <;> exact inj_⟩
noncomputable def r11_Less_l1 (a : ByteArray) (b : ByteArray) (i : Int) : Option (Bool ⊕ Unit) := asks (fun γ => (lim F pr).loop [5, 0, 1] 0 b41_1 ⟨vT a :: vT b :: bd 3 (vI i :: bd 31 []), []⟩) (r11_Less_l1_x a b)
noncomputable def r11_Less_s0_x (a : ByteArray) (b : ByteArray) (γ : Nat → Nat) : Int ⊕ Bool → X × St
  | .inl a0 => (.nor, ⟨vT a :: vT b :: bd 3 (vI a0 :: bd 31 []), []⟩)
  | .inr b0 => (.ret, ⟨bd 4 (vF b0 :: bd 32 []), []⟩)
instance {a b} : InjS (r11_Less_s0_x a b) := ⟨fun γ γ' x y h => by
  rcases x with a0 | b0 <;> rcases y with a0' | b0' <;> simp only [r11_Less_s0_x] at h <;> exact inj_⟩
noncomputable def r11_Less_s0 (a : ByteArray) (b : ByteArray) (i : Int) : Option (Int ⊕ Bool) := asks (fun γ => (lim F pr).seg [5, 0, 1] b41_0 ⟨vT a :: vT b :: bd 3 (vI i :: bd 31 []), []⟩) (r11_Less_s0_x a b)
noncomputable def r11_Less_l1_b (a : ByteArray) (b : ByteArray) (i : Int) : Option (Bool ⊕ Unit) :=
  bif Ops.std.ilt i (Ops.std.slen a) then
    bif Ops.std.ilt i (Ops.std.slen b) then
      (r11_Less_s0 a b i).bind fun r => match r with
        | .inl i1 =>
          r11_Less_l1 a b i1
        | .inr t4 =>
          some (.inl t4)
    else
      some (.inr ())
  else
    some (.inr ())
theorem r11_Less_l1_r {a b i r} (h : r11_Less_l1_b a b i = some r) : r11_Less_l1 a b i = some r := by
  unfold r11_Less_l1_b at h
  refine asks_of fun γ => ?_
  rcases cond_some h with ⟨h1, h⟩ | ⟨h1, h⟩
  rcases cond_some h with ⟨h2, h⟩ | ⟨h2, h⟩
  obtain ⟨r3, γ1, h3, h⟩ := bind_asks h (gam [])
  rcases r3 with i1 | t4
  replace h := asks_some h (gam []); obtain ⟨γ', h0⟩ := h; refine ⟨γ', round_lim ?_⟩; rotate_left
  cases h; refine ⟨gam [], round_lim ?_⟩; rotate_left
  cases h; refine ⟨gam [], round_lim ?_⟩; rotate_left
  cases h; refine ⟨gam [], round_lim ?_⟩; rotate_left
  all_goals (dsimp only [r11_Less_l1_x, r11_Less_s0_x] at *; show roundAs IF_ _ _ b41_1 (b41_1F b41_0) _ = _; generalize b41_1 = c0, b41_0 = c1 at *; exact fin_)
noncomputable def r11_Less_s0_b (a : ByteArray) (b : ByteArray) (i : Int) : Option (Int ⊕ Bool) :=
  (xsget a i).bind fun b1 =>
  (xsget b i).bind fun b2 =>
  bif Ops.std.ieq b1 b2 then some (.inl (Ops.std.iadd .i64 i 1)) else
  some (.inr (Ops.std.ilt b1 b2))
theorem r11_Less_s0_r {a b i r} (h : r11_Less_s0_b a b i = some r) : r11_Less_s0 a b i = some r := by
  unfold r11_Less_s0_b at h
  refine asks_of fun γ => ?_
  obtain ⟨b1, h1, h⟩ := bind_some h
  obtain ⟨b2, h2, h⟩ := bind_some h
  rcases cond_some h with ⟨h3, h⟩ | ⟨h3, h⟩
  cases h; refine ⟨gam [], seg_lim ?_⟩; rotate_left
  cases h; refine ⟨gam [], seg_lim ?_⟩; rotate_left
  all_goals (dsimp only [r11_Less_s0_x] at *; show Ifc.apart IF_ _ b41_0F _ = _; exact fin_)
noncomputable def r11_Less_b (a : ByteArray) (b : ByteArray) : Option (Bool) :=
  (r11_Less_l1 a b 0).bind fun r => match r with
    | .inl t4 =>
      some t4
    | .inr () =>
      some (Ops.std.ilt (Ops.std.slen a) (Ops.std.slen b))
theorem r11_Less_r {a b r} (h : r11_Less_b a b = some r) : r11_Less a b = some r := by
  unfold r11_Less_b at h
  refine ask_of ?_
  obtain ⟨r1, γ1, h1, h⟩ := bind_asks h (gam [])
  rcases r1 with t4 | _
  cases h; refine call_lim rfl ?_; rotate_left
  cases h; refine call_lim rfl ?_; rotate_left
  all_goals (dsimp only [R1, r11_Less_l1_x] at *; show runFn IF_ (g41F b41_1) _ _ = _; generalize b41_1 = c0 at *; exact fin_)
noncomputable def hash_Place_b (s : ByteArray) : Option (Int) :=
  (hash_Sum s).bind fun res =>
  hash_Mix res
theorem hash_Place_r {s r} (h : hash_Place_b s = some r) : hash_Place s = some r := by
  unfold hash_Place_b at h
  refine ask_of ?_
  obtain ⟨res, h1, h⟩ := bind_ask h
  have h2 := ask_some h
  rcases r with res1
  refine call_lim rfl ?_; rotate_left
  all_goals (dsimp only [R1] at *; show runFn IF_ g46F _ _ = _; exact fin_)
noncomputable def ring_Upto_b (a : Int) (x : Int) (b : Int) : Option (Bool) :=
  bif Ops.std.ieq a b then some true else
  bif Ops.std.ieq x b then some true else
  ring_Between a x b
theorem ring_Upto_r {a x b r} (h : ring_Upto_b a x b = some r) : ring_Upto a x b = some r := by
  unfold ring_Upto_b at h
  refine ask_of ?_
  rcases cond_some h with ⟨h1, h⟩ | ⟨h1, h⟩
  cases h; refine call_lim rfl ?_; rotate_left
  rcases cond_some h with ⟨h2, h⟩ | ⟨h2, h⟩
  cases h; refine call_lim rfl ?_; rotate_left
  have h3 := ask_some h
  rcases r with res
  refine call_lim rfl ?_; rotate_left
  all_goals (dsimp only [R1] at *; show runFn IF_ g45F _ _ = _; exact fin_)
noncomputable def store_Range_1_b (p : Pair) (b0 : Int) (b1 : Int) : Option (Bool) :=
  (hash_Place p.key).bind fun res =>
  (ring_Upto b0 res b1).bind fun res1 =>
  some (!res1)
theorem store_Range_1_r {p b0 b1 r} (h : store_Range_1_b p b0 b1 = some r) : store_Range_1 p b0 b1 = some r := by
  unfold store_Range_1_b at h
  refine ask_of ?_
  obtain ⟨res, h1, h⟩ := bind_ask h
  obtain ⟨res1, h2, h⟩ := bind_ask h
  cases h; refine call_lim rfl ?_; rotate_left
  all_goals (dsimp only [R1, store_Range_1_e] at *; show runFn IF_ g44F _ _ = _; exact fin_)
noncomputable def IndexFunc_Pair_1_l0_x (b0 : Int) (b1 : Int) (γ : Nat → Nat) : Int ⊕ Unit → X × St
  | .inl a0 => (.ret, ⟨bd 4 (vI a0 :: bd 14 []), [.box 32 [vU b0], .box 32 [vU b1]]⟩)
  | .inr () => (.brk 0, ⟨bd 19 [], [.box 32 [vU b0], .box 32 [vU b1]]⟩)
instance {b0 b1} : InjS (IndexFunc_Pair_1_l0_x b0 b1) := ⟨fun γ γ' x y h => by
  rcases x with a0 | _ <;> rcases y with a0' | _ <;> simp only [IndexFunc_Pair_1_l0_x] at h <;> exact inj_⟩
noncomputable def IndexFunc_Pair_1_l0 (s : List Pair) (b0 : Int) (b1 : Int) (t8 : Int) : Option (Int ⊕ Unit) := asks (fun γ => (lim F pr).loop [7, 1, 0, 8] 2 b36_0 ⟨.lit 41 false (List.map ePair s) :: .fn 44 [.bptr 0 0, .bptr 1 0] :: bd 5 (vI (xlen ePair s) :: vI t8 :: bd 10 []), [.box 32 [vU b0], .box 32 [vU b1]]⟩) (IndexFunc_Pair_1_l0_x b0 b1)
noncomputable def IndexFunc_Pair_1_l0_b (s : List Pair) (b0 : Int) (b1 : Int) (t8 : Int) : Option (Int ⊕ Unit) :=
  bif Ops.std.ilt t8 (xlen ePair s) then
    (xget ePair s t8).bind fun x =>
    (store_Range_1 x b0 b1).bind fun res =>
    bif res then some (.inl t8) else
    IndexFunc_Pair_1_l0 s b0 b1 (Ops.std.iadd .i64 t8 1)
  else
    some (.inr ())
theorem IndexFunc_Pair_1_l0_r {s b0 b1 t8 r} (h : IndexFunc_Pair_1_l0_b s b0 b1 t8 = some r) : IndexFunc_Pair_1_l0 s b0 b1 t8 = some r := by
  unfold IndexFunc_Pair_1_l0_b at h
  refine asks_of fun γ => ?_
  rcases cond_some h with ⟨h1, h⟩ | ⟨h1, h⟩
  obtain ⟨x, h2, h⟩ := bind_ask h
  obtain ⟨res, h3, h⟩ := bind_ask h
  rcases cond_some h with ⟨h4, h⟩ | ⟨h4, h⟩
  cases h; refine ⟨gam [], round_lim ?_⟩; rotate_left
  replace h := asks_some h (gam []); obtain ⟨γ', h0⟩ := h; refine ⟨γ', round_lim ?_⟩; rotate_left
  cases h; refine ⟨gam [], round_lim ?_⟩; rotate_left
  all_goals (dsimp only [IndexFunc_Pair_1_l0_x, store_Range_1_e] at *; show roundAs IF_ _ _ b36_0 b36_0F _ = _; generalize b36_0 = c0 at *; exact fin_)
noncomputable def IndexFunc_Pair_1_b (s : List Pair) (b0 : Int) (b1 : Int) : Option (Int) :=
  (IndexFunc_Pair_1_l0 s b0 b1 0).bind fun r => match r with
    | .inl t4 =>
      some t4
    | .inr () =>
      some (-1)
theorem IndexFunc_Pair_1_r {s b0 b1 r} (h : IndexFunc_Pair_1_b s b0 b1 = some r) : IndexFunc_Pair_1 s b0 b1 = some r := by
  unfold IndexFunc_Pair_1_b at h
  refine ask_of ?_
  obtain ⟨r1, γ1, h1, h⟩ := bind_asks h (gam [])
  rcases r1 with t4 | _
  cases h; refine call_lim rfl ?_; rotate_left
  cases h; refine call_lim rfl ?_; rotate_left
  all_goals (dsimp only [IndexFunc_Pair_1_e, IndexFunc_Pair_1_l0_x] at *; show runFn IF_ (g36F b36_0) _ _ = _; generalize b36_0 = c0 at *; exact fin_)
noncomputable def DeleteFunc_Pair_l0_x (b1 : Int) (b2 : Int) (γ : Nat → Nat) : (Int × (List Pair)) → X × St
  | (a0, a1) => (.brk 0, ⟨.sl 0 ((γ 0)) :: bd 4 (vI a0 :: bd 36 []), [.row 41 (γ 0) false (List.map ePair a1), .box 32 [vU b1], .box 32 [vU b2], .row 41 (γ 3) false (List.map ePair [])]⟩)
instance {b1 b2} : InjS (DeleteFunc_Pair_l0_x b1 b2) := ⟨fun γ γ' x y h => by
  rcases x with ⟨a0, a1⟩ <;> rcases y with ⟨a0', a1'⟩ <;> simp only [DeleteFunc_Pair_l0_x] at h <;> exact inj_⟩
noncomputable def DeleteFunc_Pair_l0 (b1 : Int) (b2 : Int) (i : Int) (j : Int) (r0' : List Pair) : Option ((Int × (List Pair))) := asks (fun γ => (lim F pr).loop [1, 6, 0, 5] 4 b43_0 ⟨.sl 0 ((γ 0)) :: .fn 44 [.bptr 1 0, .bptr 2 0] :: bd 3 (vI i :: vI j :: bd 35 []), [.row 41 (γ 0) false (List.map ePair r0'), .box 32 [vU b1], .box 32 [vU b2], .row 41 (γ 3) false (List.map ePair [])]⟩) (DeleteFunc_Pair_l0_x b1 b2)
noncomputable def DeleteFunc_Pair_l0_b (b1 : Int) (b2 : Int) (i : Int) (j : Int) (r0' : List Pair) : Option ((Int × (List Pair))) :=
  bif Ops.std.ilt j (xlen ePair r0') then
    (xget ePair r0' j).bind fun x =>
    (store_Range_1 x b1 b2).bind fun res =>
    bif res then DeleteFunc_Pair_l0 b1 b2 i (Ops.std.iadd .i64 j 1) r0' else
    (xget ePair r0' i).bind fun x1 =>
    DeleteFunc_Pair_l0 b1 b2 (Ops.std.iadd .i64 i 1) (Ops.std.iadd .i64 j 1) (xset r0' i x)
  else
    some (i, r0')
theorem DeleteFunc_Pair_l0_r {b1 b2 i j r0' r} (h : DeleteFunc_Pair_l0_b b1 b2 i j r0' = some r) : DeleteFunc_Pair_l0 b1 b2 i j r0' = some r := by
  unfold DeleteFunc_Pair_l0_b at h
  refine asks_of fun γ => ?_
  rcases cond_some h with ⟨h1, h⟩ | ⟨h1, h⟩
  obtain ⟨x, h2, h⟩ := bind_ask h
  obtain ⟨res, h3, h⟩ := bind_ask h
  rcases cond_some h with ⟨h4, h⟩ | ⟨h4, h⟩
  replace h := asks_some h (gam [(γ 0), 0, 0, (γ 3)]); obtain ⟨γ', h0⟩ := h; refine ⟨γ', round_lim ?_⟩; rotate_left
  obtain ⟨x1, h5, h⟩ := bind_ask h
  replace h := asks_some h (gam [(γ 0), 0, 0, (γ 3)]); obtain ⟨γ', h0⟩ := h; refine ⟨γ', round_lim ?_⟩; rotate_left
  cases h; refine ⟨gam [(γ 0), 0, 0, (γ 3)], round_lim ?_⟩; rotate_left
  all_goals (dsimp only [DeleteFunc_Pair_l0_x, store_Range_1_e] at *; show roundAs IF_ _ _ b43_0 b43_0F _ = _; generalize b43_0 = c0 at *; exact fin_)
noncomputable def DeleteFunc_Pair_b (r0 : List Pair) (b1 : Int) (b2 : Int) : Option ((List Pair)) :=
  (IndexFunc_Pair_1 r0 b1 b2).bind fun res =>
  bif Ops.std.ieq res (-1) then some r0 else
  (DeleteFunc_Pair_l0 b1 b2 res (Ops.std.iadd .i64 res 1) r0).bind fun ⟨i, r0'⟩ =>
  (xsub ePair r0' i (xlen ePair r0')).bind fun ys =>
  (xsub ePair (xfil r0' i (xlen ePair r0') (⟨⟨#[]⟩, ⟨#[]⟩⟩ : Pair)) 0 i).bind fun ys1 =>
  bif Ops.std.ieq 0 0 then some ys1 else
  none
theorem DeleteFunc_Pair_r {r0 b1 b2 r} (h : DeleteFunc_Pair_b r0 b1 b2 = some r) : DeleteFunc_Pair r0 b1 b2 = some r := by
  unfold DeleteFunc_Pair_b at h
  refine asks_of fun γ => ?_
  obtain ⟨res, h1, h⟩ := bind_ask h
  rcases cond_some h with ⟨h2, h⟩ | ⟨h2, h⟩
  cases h; refine ⟨gam [γ 0, 0, 0], call_lim rfl ?_⟩; rotate_left
  obtain ⟨r3, γ2, h3, h⟩ := bind_asks h (gam [γ 0, 0, 0, 0])
  rcases r3 with ⟨i, r0'⟩
  obtain ⟨ys, h4, h⟩ := bind_ask h
  obtain ⟨ys1, h5, h⟩ := bind_ask h
  obtain ⟨h6, h⟩ := need_some h
  cases h; refine ⟨gam [((γ2 0) + 1), 0, 0], call_lim rfl ?_⟩; rotate_left
  all_goals (dsimp only [DeleteFunc_Pair_e, DeleteFunc_Pair_l0_x, IndexFunc_Pair_1_e] at *; show runFn IF_ (g43F b43_0) _ _ = _; generalize b43_0 = c0 at *; exact fin_)
noncomputable def r03_Upto_b (a : Int) (x : Int) (b : Int) : Option (Bool) :=
  bif Ops.std.ilt a b then
    bif Ops.std.ilt a x then some (Ops.std.ile x b) else
    some false
  else
    bif Ops.std.ilt b a then
      bif Ops.std.ilt a x then some true else
      some (Ops.std.ile x b)
    else
      some true
theorem r03_Upto_r {a x b r} (h : r03_Upto_b a x b = some r) : r03_Upto a x b = some r := by
  unfold r03_Upto_b at h
  refine ask_of ?_
  rcases cond_some h with ⟨h1, h⟩ | ⟨h1, h⟩
  rcases cond_some h with ⟨h2, h⟩ | ⟨h2, h⟩
  cases h; refine call_lim rfl ?_; rotate_left
  cases h; refine call_lim rfl ?_; rotate_left
  rcases cond_some h with ⟨h2, h⟩ | ⟨h2, h⟩
  rcases cond_some h with ⟨h3, h⟩ | ⟨h3, h⟩
  cases h; refine call_lim rfl ?_; rotate_left
  cases h; refine call_lim rfl ?_; rotate_left
  cases h; refine call_lim rfl ?_; rotate_left
  all_goals (dsimp only [R1] at *; show runFn IF_ g47F _ _ = _; exact fin_)
noncomputable def r05_Sum_l0_x (γ : Nat → Nat) : Int → X × St
  | a0 => (.brk 0, ⟨bd 3 (vU a0 :: bd 16 []), []⟩)
instance : InjS r05_Sum_l0_x := ⟨fun γ γ' x y h => by
  rcases x with a0 <;> rcases y with a0' <;> simp only [r05_Sum_l0_x] at h <;> exact inj_⟩
noncomputable def r05_Sum_l0 (s : ByteArray) (n : Int) (i : Int) : Option (Int) := asks (fun γ => (lim F pr).loop [0, 4, 3] 0 b49_0 ⟨vT s :: bd 2 (vU n :: vI i :: bd 15 []), []⟩) r05_Sum_l0_x
noncomputable def r05_Sum_l0_b (s : ByteArray) (n : Int) (i : Int) : Option (Int) :=
  bif Ops.std.ilt i (Ops.std.slen s) then
    (xsget s i).bind fun b =>
    r05_Sum_l0 s (Ops.std.imul .u64 (Ops.std.ibit .xor .u64 n (Ops.std.iwrap .u64 b)) 1099511628211) (Ops.std.iadd .i64 i 1)
  else
    some n
theorem r05_Sum_l0_r {s n i r} (h : r05_Sum_l0_b s n i = some r) : r05_Sum_l0 s n i = some r := by
  unfold r05_Sum_l0_b at h
  refine asks_of fun γ => ?_
  rcases cond_some h with ⟨h1, h⟩ | ⟨h1, h⟩
  obtain ⟨b, h2, h⟩ := bind_some h
  replace h := asks_some h (gam []); obtain ⟨γ', h0⟩ := h; refine ⟨γ', round_lim ?_⟩; rotate_left
  cases h; refine ⟨gam [], round_lim ?_⟩; rotate_left
  all_goals (dsimp only [r05_Sum_l0_x] at *; show roundAs IF_ _ _ b49_0 b49_0F _ = _; generalize b49_0 = c0 at *; exact fin_)
noncomputable def r05_Sum_b (s : ByteArray) : Option (Int) :=
  r05_Sum_l0 s 14695981039346656037 0
theorem r05_Sum_r {s r} (h : r05_Sum_b s = some r) : r05_Sum s = some r := by
  unfold r05_Sum_b at h
  refine ask_of ?_
  obtain ⟨γ1, h1⟩ := asks_some h (gam [])
  rcases r with n
  refine call_lim rfl ?_; rotate_left
  all_goals (dsimp only [R1, r05_Sum_l0_x] at *; show runFn IF_ (g49F b49_0) _ _ = _; generalize b49_0 = c0 at *; exact fin_)
noncomputable def r05_Mix_b (u : Int) : Option (Int) :=
  (r05_down u 30).bind fun res =>
  (r05_down (Ops.std.imul .u64 (Ops.std.ibit .xor .u64 u res) 13787848793156543929) 27).bind fun res1 =>
  (r05_down (Ops.std.imul .u64 (Ops.std.ibit .xor .u64 (Ops.std.imul .u64 (Ops.std.ibit .xor .u64 u res) 13787848793156543929) res1) 10723151780598845931) 31).bind fun res2 =>
  some (Ops.std.ibit .xor .u64 (Ops.std.imul .u64 (Ops.std.ibit .xor .u64 (Ops.std.imul .u64 (Ops.std.ibit .xor .u64 u res) 13787848793156543929) res1) 10723151780598845931) res2)
theorem r05_Mix_r {u r} (h : r05_Mix_b u = some r) : r05_Mix u = some r := by
  unfold r05_Mix_b at h
  refine ask_of ?_
  obtain ⟨res, h1, h⟩ := bind_ask h
  obtain ⟨res1, h2, h⟩ := bind_ask h
  obtain ⟨res2, h3, h⟩ := bind_ask h
  cases h; refine call_lim rfl ?_; rotate_left
  all_goals (dsimp only [R1] at *; show runFn IF_ g48F _ _ = _; exact fin_)
noncomputable def store_place_1_b (p : Pair) (b0 : ByteArray) : Option (Bool) :=
  some (Ops.std.seq p.key b0)
theorem store_place_1_r {p b0 r} (h : store_place_1_b p b0 = some r) : store_place_1 p b0 = some r := by
  unfold store_place_1_b at h
  refine ask_of ?_
  cases h; refine call_lim rfl ?_; rotate_left
  all_goals (dsimp only [store_place_1_e] at *; show runFn IF_ g73F _ _ = _; exact fin_)
noncomputable def IndexFunc_Pair_2_l0_x (b0 : ByteArray) (γ : Nat → Nat) : Int ⊕ Unit → X × St
  | .inl a0 => (.ret, ⟨bd 4 (vI a0 :: bd 14 []), [.box 9 [vT b0]]⟩)
  | .inr () => (.brk 0, ⟨bd 19 [], [.box 9 [vT b0]]⟩)
instance {b0} : InjS (IndexFunc_Pair_2_l0_x b0) := ⟨fun γ γ' x y h => by
  rcases x with a0 | _ <;> rcases y with a0' | _ <;> simp only [IndexFunc_Pair_2_l0_x] at h <;> exact inj_⟩
noncomputable def IndexFunc_Pair_2_l0 (s : List Pair) (b0 : ByteArray) (t8 : Int) : Option (Int ⊕ Unit) := asks (fun γ => (lim F pr).loop [7, 1, 0, 8] 1 b36_0 ⟨.lit 41 false (List.map ePair s) :: .fn 73 [.bptr 0 0] :: bd 5 (vI (xlen ePair s) :: vI t8 :: bd 10 []), [.box 9 [vT b0]]⟩) (IndexFunc_Pair_2_l0_x b0)
noncomputable def IndexFunc_Pair_2_l0_b (s : List Pair) (b0 : ByteArray) (t8 : Int) : Option (Int ⊕ Unit) :=
  bif Ops.std.ilt t8 (xlen ePair s) then
    (xget ePair s t8).bind fun x =>
    (store_place_1 x b0).bind fun res =>
    bif res then some (.inl t8) else
    IndexFunc_Pair_2_l0 s b0 (Ops.std.iadd .i64 t8 1)
  else
    some (.inr ())
theorem IndexFunc_Pair_2_l0_r {s b0 t8 r} (h : IndexFunc_Pair_2_l0_b s b0 t8 = some r) : IndexFunc_Pair_2_l0 s b0 t8 = some r := by
  unfold IndexFunc_Pair_2_l0_b at h
  refine asks_of fun γ => ?_
  rcases cond_some h with ⟨h1, h⟩ | ⟨h1, h⟩
  obtain ⟨x, h2, h⟩ := bind_ask h
  obtain ⟨res, h3, h⟩ := bind_ask h
  rcases cond_some h with ⟨h4, h⟩ | ⟨h4, h⟩
  cases h; refine ⟨gam [], round_lim ?_⟩; rotate_left
  replace h := asks_some h (gam []); obtain ⟨γ', h0⟩ := h; refine ⟨γ', round_lim ?_⟩; rotate_left
  cases h; refine ⟨gam [], round_lim ?_⟩; rotate_left
  all_goals (dsimp only [IndexFunc_Pair_2_l0_x, store_place_1_e] at *; show roundAs IF_ _ _ b36_0 b36_0F _ = _; generalize b36_0 = c0 at *; exact fin_)
noncomputable def IndexFunc_Pair_2_b (s : List Pair) (b0 : ByteArray) : Option (Int) :=
  (IndexFunc_Pair_2_l0 s b0 0).bind fun r => match r with
    | .inl t4 =>
      some t4
    | .inr () =>
      some (-1)
theorem IndexFunc_Pair_2_r {s b0 r} (h : IndexFunc_Pair_2_b s b0 = some r) : IndexFunc_Pair_2 s b0 = some r := by
  unfold IndexFunc_Pair_2_b at h
  refine ask_of ?_
  obtain ⟨r1, γ1, h1, h⟩ := bind_asks h (gam [])
  rcases r1 with t4 | _
  cases h; refine call_lim rfl ?_; rotate_left
  cases h; refine call_lim rfl ?_; rotate_left
  all_goals (dsimp only [IndexFunc_Pair_2_e, IndexFunc_Pair_2_l0_x] at *; show runFn IF_ (g36F b36_0) _ _ = _; generalize b36_0 = c0 at *; exact fin_)
noncomputable def utf_Valid_l0_x (s : ByteArray) (γ : Nat → Nat) : Int ⊕ Int → X × St
  | .inl a0 => (.ret, ⟨bd 2 (vF false :: bd 12 []), [.it s a0]⟩)
  | .inr b0 => (.brk 0, ⟨bd 15 [], [.it s b0]⟩)
instance {s} : InjS (utf_Valid_l0_x s) := ⟨fun γ γ' x y h => by
  rcases x with a0 | b0 <;> rcases y with a0' | b0' <;> simp only [utf_Valid_l0_x] at h <;> exact inj_⟩
noncomputable def utf_Valid_l0 (s : ByteArray) (at0 : Int) : Option (Int ⊕ Int) := asks (fun γ => (lim F pr).loop [6, 0] 1 b74_0 ⟨vT s :: bd 5 (.bptr 0 0 :: bd 8 []), [.it s at0]⟩) (utf_Valid_l0_x s)
noncomputable def utf_Valid_l0_b (s : ByteArray) (at0 : Int) : Option (Int ⊕ Int) :=
  xopt (xsdec s at0) (fun ⟨c, nx⟩ =>
    (utf_stray s at0 c).bind fun res =>
    bif res then some (.inl nx) else
    utf_Valid_l0 s nx)
    (some (.inr at0))
theorem utf_Valid_l0_r {s at0 r} (h : utf_Valid_l0_b s at0 = some r) : utf_Valid_l0 s at0 = some r := by
  unfold utf_Valid_l0_b at h
  refine asks_of fun γ => ?_
  rcases xopt_some h with ⟨⟨c, nx⟩, h1, h⟩ | ⟨h1, h⟩
  obtain ⟨res, h2, h⟩ := bind_ask h
  rcases cond_some h with ⟨h3, h⟩ | ⟨h3, h⟩
  cases h; refine ⟨gam [], round_lim ?_⟩; rotate_left
  replace h := asks_some h (gam []); obtain ⟨γ', h0⟩ := h; refine ⟨γ', round_lim ?_⟩; rotate_left
  cases h; refine ⟨gam [], round_lim ?_⟩; rotate_left
  all_goals (dsimp only [R1, utf_Valid_l0_x] at *; show roundAs IF_ _ _ b74_0 b74_0F _ = _; generalize b74_0 = c0 at *; exact fin_)
noncomputable def utf_Valid_b (s : ByteArray) : Option (Bool) :=
  (utf_Valid_l0 s 0).bind fun r => match r with
    | .inl at0 =>
      some false
    | .inr at0 =>
      some true
theorem utf_Valid_r {s r} (h : utf_Valid_b s = some r) : utf_Valid s = some r := by
  unfold utf_Valid_b at h
  refine ask_of ?_
  obtain ⟨r1, γ1, h1, h⟩ := bind_asks h (gam [])
  rcases r1 with at0 | at0
  cases h; refine call_lim rfl ?_; rotate_left
  cases h; refine call_lim rfl ?_; rotate_left
  all_goals (dsimp only [R1, utf_Valid_l0_x] at *; show runFn IF_ (g74F b74_0) _ _ = _; generalize b74_0 = c0 at *; exact fin_)
noncomputable def utf_Count_l0_x (s : ByteArray) (γ : Nat → Nat) : (Int × Int) → X × St
  | (a0, a1) => (.brk 0, ⟨bd 3 (vI a0 :: bd 7 []), [.it s a1]⟩)
instance {s} : InjS (utf_Count_l0_x s) := ⟨fun γ γ' x y h => by
  rcases x with ⟨a0, a1⟩ <;> rcases y with ⟨a0', a1'⟩ <;> simp only [utf_Count_l0_x] at h <;> exact inj_⟩
noncomputable def utf_Count_l0 (s : ByteArray) (n : Int) (at0 : Int) : Option ((Int × Int)) := asks (fun γ => (lim F pr).loop [5, 3] 1 b75_0 ⟨bd 3 (vI n :: bd 1 (.bptr 0 0 :: bd 5 [])), [.it s at0]⟩) (utf_Count_l0_x s)
noncomputable def utf_Count_l0_b (s : ByteArray) (n : Int) (at0 : Int) : Option ((Int × Int)) :=
  xopt (xsdec s at0) (fun ⟨c, nx⟩ =>
    utf_Count_l0 s (Ops.std.iadd .i64 n 1) nx)
    (some (n, at0))
theorem utf_Count_l0_r {s n at0 r} (h : utf_Count_l0_b s n at0 = some r) : utf_Count_l0 s n at0 = some r := by
  unfold utf_Count_l0_b at h
  refine asks_of fun γ => ?_
  rcases xopt_some h with ⟨⟨c, nx⟩, h1, h⟩ | ⟨h1, h⟩
  replace h := asks_some h (gam []); obtain ⟨γ', h0⟩ := h; refine ⟨γ', round_lim ?_⟩; rotate_left
  cases h; refine ⟨gam [], round_lim ?_⟩; rotate_left
  all_goals (dsimp only [utf_Count_l0_x] at *; show roundAs IF_ _ _ b75_0 b75_0F _ = _; generalize b75_0 = c0 at *; exact fin_)
noncomputable def utf_Count_b (s : ByteArray) : Option (Int) :=
  (utf_Count_l0 s 0 0).bind fun ⟨n, at0⟩ =>
  some n
theorem utf_Count_r {s r} (h : utf_Count_b s = some r) : utf_Count s = some r := by
  unfold utf_Count_b at h
  refine ask_of ?_
  obtain ⟨r1, γ1, h1, h⟩ := bind_asks h (gam [])
  rcases r1 with ⟨n, at0⟩
  cases h; refine call_lim rfl ?_; rotate_left
  all_goals (dsimp only [R1, utf_Count_l0_x] at *; show runFn IF_ (g75F b75_0) _ _ = _; generalize b75_0 = c0 at *; exact fin_)
noncomputable def r04_Valid_l0_x (γ : Nat → Nat) : Unit ⊕ Unit → X × St
  | .inl () => (.ret, ⟨bd 2 (vF false :: bd 16 []), []⟩)
  | .inr () => (.brk 0, ⟨bd 19 [], []⟩)
instance : InjS r04_Valid_l0_x := ⟨fun γ γ' x y h => by
  rcases x with _ | _ <;> rcases y with _ | _ <;> simp only [r04_Valid_l0_x] at h <;> exact inj_⟩
noncomputable def r04_Valid_l0 (l : List ByteArray) (i : Int) : Option (Unit ⊕ Unit) := asks (fun γ => (lim F pr).loop [3, 4] 0 b78_0 ⟨bd 3 (.lit 9 false (List.map vT l) :: vI i :: bd 14 []), []⟩) r04_Valid_l0_x
noncomputable def r04_Valid_l0_b (l : List ByteArray) (i : Int) : Option (Unit ⊕ Unit) :=
  bif Ops.std.ilt i (xlen vT l) then
    (xget vT l i).bind fun x =>
    (r04_Width x 0).bind fun res =>
    bif Ops.std.ieq res 0 then some (.inl ()) else
    r04_Valid_l0 l (Ops.std.iadd .i64 i 1)
  else
    some (.inr ())
theorem r04_Valid_l0_r {l i r} (h : r04_Valid_l0_b l i = some r) : r04_Valid_l0 l i = some r := by
  unfold r04_Valid_l0_b at h
  refine asks_of fun γ => ?_
  rcases cond_some h with ⟨h1, h⟩ | ⟨h1, h⟩
  obtain ⟨x, h2, h⟩ := bind_ask h
  obtain ⟨res, h3, h⟩ := bind_ask h
  rcases cond_some h with ⟨h4, h⟩ | ⟨h4, h⟩
  cases h; refine ⟨gam [], round_lim ?_⟩; rotate_left
  replace h := asks_some h (gam []); obtain ⟨γ', h0⟩ := h; refine ⟨γ', round_lim ?_⟩; rotate_left
  cases h; refine ⟨gam [], round_lim ?_⟩; rotate_left
  all_goals (dsimp only [R1, r04_Valid_l0_x] at *; show roundAs IF_ _ _ b78_0 b78_0F _ = _; generalize b78_0 = c0 at *; exact fin_)
noncomputable def r04_Valid_b (s : ByteArray) : Option (Bool) :=
  (r04_Parts s).bind fun res =>
  (r04_Valid_l0 res 0).bind fun r => match r with
    | .inl () =>
      some false
    | .inr () =>
      some true
theorem r04_Valid_r {s r} (h : r04_Valid_b s = some r) : r04_Valid s = some r := by
  unfold r04_Valid_b at h
  refine ask_of ?_
  obtain ⟨res, h1, h⟩ := bind_ask h
  obtain ⟨r2, γ2, h2, h⟩ := bind_asks h (gam [])
  rcases r2 with _ | _
  cases h; refine call_lim rfl ?_; rotate_left
  cases h; refine call_lim rfl ?_; rotate_left
  all_goals (dsimp only [R1, r04_Valid_l0_x] at *; show runFn IF_ (g78F b78_0) _ _ = _; generalize b78_0 = c0 at *; exact fin_)
noncomputable def r04_Parts_l0_x (γ : Nat → Nat) : (List ByteArray) → X × St
  | a0 => (.brk 0, ⟨bd 3 (.sl 1 ((γ 1)) :: bd 24 []), [.row 9 (γ 0) false (List.map vT []), .row 9 (γ 1) false (List.map vT a0)]⟩)
instance : InjS r04_Parts_l0_x := ⟨fun γ γ' x y h => by
  rcases x with a0 <;> rcases y with a0' <;> simp only [r04_Parts_l0_x] at h <;> exact inj_⟩
noncomputable def r04_Parts_l0 (s : ByteArray) (at_ : Int) (r1 : List ByteArray) : Option ((List ByteArray)) := asks (fun γ => (lim F pr).loop [0, 4, 3] 2 b79_0 ⟨vT s :: bd 2 (.sl 1 ((γ 1)) :: vI at_ :: bd 23 []), [.row 9 (γ 0) false (List.map vT []), .row 9 (γ 1) false (List.map vT r1)]⟩) r04_Parts_l0_x
noncomputable def r04_Parts_l0_b (s : ByteArray) (at_ : Int) (r1 : List ByteArray) : Option ((List ByteArray)) :=
  bif Ops.std.ilt at_ (Ops.std.slen s) then
    (r04_Width s at_).bind fun res =>
    bif Ops.std.ieq res 0 then
      (xssub s at_ (Ops.std.iadd .i64 at_ 1)).bind fun z =>
      bif xroom vT 16 r1 [z] then r04_Parts_l0 s (Ops.std.iadd .i64 at_ 1) (r1 ++ [z]) else
      none
    else
      (xssub s at_ (Ops.std.iadd .i64 at_ res)).bind fun z =>
      bif xroom vT 16 r1 [z] then r04_Parts_l0 s (Ops.std.iadd .i64 at_ res) (r1 ++ [z]) else
      none
  else
    some r1
theorem r04_Parts_l0_r {s at_ r1 r} (h : r04_Parts_l0_b s at_ r1 = some r) : r04_Parts_l0 s at_ r1 = some r := by
  unfold r04_Parts_l0_b at h
  refine asks_of fun γ => ?_
  rcases cond_some h with ⟨h1, h⟩ | ⟨h1, h⟩
  obtain ⟨res, h2, h⟩ := bind_ask h
  rcases cond_some h with ⟨h3, h⟩ | ⟨h3, h⟩
  obtain ⟨z, h4, h⟩ := bind_some h
  obtain ⟨h5, h⟩ := need_some h
  replace h := asks_some h (gam [(γ 0), ((γ 1) + 1)]); obtain ⟨γ', h0⟩ := h; refine ⟨γ', round_lim ?_⟩; rotate_left
  obtain ⟨z, h4, h⟩ := bind_some h
  obtain ⟨h5, h⟩ := need_some h
  replace h := asks_some h (gam [(γ 0), ((γ 1) + 1)]); obtain ⟨γ', h0⟩ := h; refine ⟨γ', round_lim ?_⟩; rotate_left
  cases h; refine ⟨gam [(γ 0), (γ 1)], round_lim ?_⟩; rotate_left
  all_goals (dsimp only [R1, r04_Parts_l0_x] at *; show roundAs IF_ _ _ b79_0 b79_0F _ = _; generalize b79_0 = c0 at *; exact fin_)
noncomputable def r04_Parts_b (s : ByteArray) : Option ((List ByteArray)) :=
  r04_Parts_l0 s 0 []
theorem r04_Parts_r {s r} (h : r04_Parts_b s = some r) : r04_Parts s = some r := by
  unfold r04_Parts_b at h
  refine ask_of ?_
  obtain ⟨γ1, h1⟩ := asks_some h (gam [0, 0])
  rcases r with r1
  refine call_lim rfl ?_; rotate_left
  all_goals (dsimp only [R1, r04_Parts_l0_x] at *; show runFn IF_ (g79F b79_0) _ _ = _; generalize b79_0 = c0 at *; exact fin_)
noncomputable def hash_Sum_l0_x (γ : Nat → Nat) : Int → X × St
  | a0 => (.brk 0, ⟨bd 3 (vU a0 :: bd 15 []), []⟩)
instance : InjS hash_Sum_l0_x := ⟨fun γ γ' x y h => by
  rcases x with a0 <;> rcases y with a0' <;> simp only [hash_Sum_l0_x] at h <;> exact inj_⟩
noncomputable def hash_Sum_l0 (s : ByteArray) (n : Int) (t7 : Int) : Option (Int) := asks (fun γ => (lim F pr).loop [6, 0, 7, 3] 0 b83_0 ⟨vT s :: bd 2 (vU n :: bd 2 (vI (Ops.std.slen s) :: vI t7 :: bd 11 [])), []⟩) hash_Sum_l0_x
noncomputable def hash_Sum_l0_b (s : ByteArray) (n : Int) (t7 : Int) : Option (Int) :=
  bif Ops.std.ilt t7 (Ops.std.slen s) then
    (xsget s t7).bind fun b =>
    hash_Sum_l0 s (Ops.std.imul .u64 (Ops.std.ibit .xor .u64 n (Ops.std.iwrap .u64 b)) 1099511628211) (Ops.std.iadd .i64 t7 1)
  else
    some n
theorem hash_Sum_l0_r {s n t7 r} (h : hash_Sum_l0_b s n t7 = some r) : hash_Sum_l0 s n t7 = some r := by
  unfold hash_Sum_l0_b at h
  refine asks_of fun γ => ?_
  rcases cond_some h with ⟨h1, h⟩ | ⟨h1, h⟩
  obtain ⟨b, h2, h⟩ := bind_some h
  replace h := asks_some h (gam []); obtain ⟨γ', h0⟩ := h; refine ⟨γ', round_lim ?_⟩; rotate_left
  cases h; refine ⟨gam [], round_lim ?_⟩; rotate_left
  all_goals (dsimp only [hash_Sum_l0_x] at *; show roundAs IF_ _ _ b83_0 b83_0F _ = _; generalize b83_0 = c0 at *; exact fin_)
noncomputable def hash_Sum_b (s : ByteArray) : Option (Int) :=
  hash_Sum_l0 s 14695981039346656037 0
theorem hash_Sum_r {s r} (h : hash_Sum_b s = some r) : hash_Sum s = some r := by
  unfold hash_Sum_b at h
  refine ask_of ?_
  obtain ⟨γ1, h1⟩ := asks_some h (gam [])
  rcases r with n
  refine call_lim rfl ?_; rotate_left
  all_goals (dsimp only [R1, hash_Sum_l0_x] at *; show runFn IF_ (g83F b83_0) _ _ = _; generalize b83_0 = c0 at *; exact fin_)
noncomputable def hash_Mix_b (u : Int) : Option (Int) :=
  bif Ops.std.ilt 30 0 then none else
  bif Ops.std.ilt 27 0 then none else
  bif Ops.std.ilt 31 0 then none else
  some (Ops.std.ibit .xor .u64 (Ops.std.imul .u64 (Ops.std.ibit .xor .u64 (Ops.std.imul .u64 (Ops.std.ibit .xor .u64 u (Ops.std.ishr .u64 u 30)) 13787848793156543929) (Ops.std.ishr .u64 (Ops.std.imul .u64 (Ops.std.ibit .xor .u64 u (Ops.std.ishr .u64 u 30)) 13787848793156543929) 27)) 10723151780598845931) (Ops.std.ishr .u64 (Ops.std.imul .u64 (Ops.std.ibit .xor .u64 (Ops.std.imul .u64 (Ops.std.ibit .xor .u64 u (Ops.std.ishr .u64 u 30)) 13787848793156543929) (Ops.std.ishr .u64 (Ops.std.imul .u64 (Ops.std.ibit .xor .u64 u (Ops.std.ishr .u64 u 30)) 13787848793156543929) 27)) 10723151780598845931) 31))
theorem hash_Mix_r {u r} (h : hash_Mix_b u = some r) : hash_Mix u = some r := by
  unfold hash_Mix_b at h
  refine ask_of ?_
  obtain ⟨h1, h⟩ := need_some' h
  obtain ⟨h2, h⟩ := need_some' h
  obtain ⟨h3, h⟩ := need_some' h
  cases h; refine call_lim rfl ?_; rotate_left
  all_goals (dsimp only [R1] at *; show runFn IF_ g82F _ _ = _; exact fin_)
noncomputable def ring_Between_b (a : Int) (x : Int) (b : Int) : Option (Bool) :=
  bif Ops.std.ieq x a then some false else
  bif Ops.std.ieq a b then some true else
  (ring_Dist a x).bind fun res =>
  (ring_Dist a b).bind fun res1 =>
  some (Ops.std.ilt res res1)
theorem ring_Between_r {a x b r} (h : ring_Between_b a x b = some r) : ring_Between a x b = some r := by
  unfold ring_Between_b at h
  refine ask_of ?_
  rcases cond_some h with ⟨h1, h⟩ | ⟨h1, h⟩
  cases h; refine call_lim rfl ?_; rotate_left
  rcases cond_some h with ⟨h2, h⟩ | ⟨h2, h⟩
  cases h; refine call_lim rfl ?_; rotate_left
  obtain ⟨res, h3, h⟩ := bind_ask h
  obtain ⟨res1, h4, h⟩ := bind_ask h
  cases h; refine call_lim rfl ?_; rotate_left
  all_goals (dsimp only [R1] at *; show runFn IF_ g81F _ _ = _; exact fin_)
noncomputable def r05_down_l0_x (γ : Nat → Nat) : Int → X × St
  | a0 => (.brk 0, ⟨vU a0 :: bd 13 [], []⟩)
instance : InjS r05_down_l0_x := ⟨fun γ γ' x y h => by
  rcases x with a0 <;> rcases y with a0' <;> simp only [r05_down_l0_x] at h <;> exact inj_⟩
noncomputable def r05_down_l0 (by_ : Int) (u' : Int) (i : Int) : Option (Int) := asks (fun γ => (lim F pr).loop [1, 5, 0] 0 b84_0 ⟨vU u' :: vI by_ :: bd 3 (vI i :: bd 8 []), []⟩) r05_down_l0_x
noncomputable def r05_down_l0_b (by_ : Int) (u' : Int) (i : Int) : Option (Int) :=
  bif Ops.std.ilt i by_ then
    bif Ops.std.ieq 2 0 then none else
    r05_down_l0 by_ (Ops.std.iquo .u64 u' 2) (Ops.std.iadd .i64 i 1)
  else
    some u'
theorem r05_down_l0_r {by_ u' i r} (h : r05_down_l0_b by_ u' i = some r) : r05_down_l0 by_ u' i = some r := by
  unfold r05_down_l0_b at h
  refine asks_of fun γ => ?_
  rcases cond_some h with ⟨h1, h⟩ | ⟨h1, h⟩
  obtain ⟨h2, h⟩ := need_some' h
  replace h := asks_some h (gam []); obtain ⟨γ', h0⟩ := h; refine ⟨γ', round_lim ?_⟩; rotate_left
  cases h; refine ⟨gam [], round_lim ?_⟩; rotate_left
  all_goals (dsimp only [r05_down_l0_x] at *; show roundAs IF_ _ _ b84_0 b84_0F _ = _; generalize b84_0 = c0 at *; exact fin_)
noncomputable def r05_down_b (u : Int) (by_ : Int) : Option (Int) :=
  r05_down_l0 by_ u 0
theorem r05_down_r {u by_ r} (h : r05_down_b u by_ = some r) : r05_down u by_ = some r := by
  unfold r05_down_b at h
  refine ask_of ?_
  obtain ⟨γ1, h1⟩ := asks_some h (gam [])
  rcases r with u'
  refine call_lim rfl ?_; rotate_left
  all_goals (dsimp only [R1, r05_down_l0_x] at *; show runFn IF_ (g84F b84_0) _ _ = _; generalize b84_0 = c0 at *; exact fin_)
noncomputable def utf_stray_b (s : ByteArray) (at_ : Int) (c : Int) : Option (Bool) :=
  bif Ops.std.ieq c 65533 then
    (xssub s at_ (Ops.std.slen s)).bind fun z =>
    xopt (xsdec z 0) (fun ⟨c1, nx⟩ =>
      some (Ops.std.ieq nx 1))
      (some (Ops.std.ieq 0 1))
  else
    some false
theorem utf_stray_r {s at_ c r} (h : utf_stray_b s at_ c = some r) : utf_stray s at_ c = some r := by
  unfold utf_stray_b at h
  refine ask_of ?_
  rcases cond_some h with ⟨h1, h⟩ | ⟨h1, h⟩
  obtain ⟨z, h2, h⟩ := bind_some h
  rcases xopt_some h with ⟨⟨c1, nx⟩, h3, h⟩ | ⟨h3, h⟩
  cases h; refine call_lim rfl ?_; rotate_left
  cases h; refine call_lim rfl ?_; rotate_left
  cases h; refine call_lim rfl ?_; rotate_left
  all_goals (dsimp only [R1] at *; show runFn IF_ g111F _ _ = _; exact fin_)
noncomputable def r04_Width_s3_x (γ : Nat → Nat) : Int → X × St
  | a0 => (.ret, ⟨bd 4 (vI a0 :: bd 123 []), []⟩)
instance : InjS r04_Width_s3_x := ⟨fun γ γ' x y h => by
  rcases x with a0 <;> rcases y with a0' <;> simp only [r04_Width_s3_x] at h <;> exact inj_⟩
noncomputable def r04_Width_s3 (s : ByteArray) (at_ : Int) (c : Int) : Option (Int) := asks (fun γ => (lim F pr).seg [4] b113_3 ⟨vT s :: vI at_ :: bd 3 (vB c :: vI (Ops.std.isub .i64 (Ops.std.slen s) at_) :: bd 121 []), []⟩) r04_Width_s3_x
noncomputable def r04_Width_s0_x (s : ByteArray) (at_ : Int) (γ : Nat → Nat) : Int ⊕ Int → X × St
  | .inl a0 => (.ret, ⟨bd 4 (vI a0 :: bd 123 []), []⟩)
  | .inr b0 => (.nor, ⟨vT s :: vI at_ :: bd 3 (vB b0 :: vI (Ops.std.isub .i64 (Ops.std.slen s) at_) :: bd 121 []), []⟩)
instance {s at_} : InjS (r04_Width_s0_x s at_) := ⟨fun γ γ' x y h => by
  rcases x with a0 | b0 <;> rcases y with a0' | b0' <;> simp only [r04_Width_s0_x] at h <;> exact inj_⟩
noncomputable def r04_Width_s0 (s : ByteArray) (at_ : Int) (c : Int) (t56 : Bool) : Option (Int ⊕ Int) := asks (fun γ => (lim F pr).seg [6, 5, 0, 1] b113_0 ⟨vT s :: vI at_ :: bd 3 (vB c :: vI (Ops.std.isub .i64 (Ops.std.slen s) at_) :: bd 49 (vF t56 :: bd 71 [])), []⟩) (r04_Width_s0_x s at_)
noncomputable def r04_Width_s2_x (γ : Nat → Nat) : Int → X × St
  | a0 => (.ret, ⟨bd 4 (vI a0 :: bd 123 []), []⟩)
instance : InjS r04_Width_s2_x := ⟨fun γ γ' x y h => by
  rcases x with a0 <;> rcases y with a0' <;> simp only [r04_Width_s2_x] at h <;> exact inj_⟩
noncomputable def r04_Width_s2 (s : ByteArray) (at_ : Int) (c : Int) : Option (Int) := asks (fun γ => (lim F pr).seg [4] b113_2 ⟨vT s :: vI at_ :: bd 3 (vB c :: vI (Ops.std.isub .i64 (Ops.std.slen s) at_) :: bd 121 []), []⟩) r04_Width_s2_x
noncomputable def r04_Width_s1_x (γ : Nat → Nat) : Int ⊕ Unit → X × St
  | .inl a0 => (.ret, ⟨bd 4 (vI a0 :: bd 123 []), []⟩)
  | .inr () => (.nor, ⟨bd 128 [], []⟩)
instance : InjS r04_Width_s1_x := ⟨fun γ γ' x y h => by
  rcases x with a0 | _ <;> rcases y with a0' | _ <;> simp only [r04_Width_s1_x] at h <;> exact inj_⟩
noncomputable def r04_Width_s1 (s : ByteArray) (at_ : Int) (c : Int) (t107 : Bool) : Option (Int ⊕ Unit) := asks (fun γ => (lim F pr).seg [] b113_1 ⟨vT s :: vI at_ :: bd 3 (vB c :: bd 101 (vF t107 :: bd 20 [])), []⟩) r04_Width_s1_x
noncomputable def r04_Width_s3_b (s : ByteArray) (at_ : Int) (c : Int) : Option (Int) :=
  bif Ops.std.ile 224 c then
    bif Ops.std.ile c 239 then
      bif Ops.std.ilt 2 (Ops.std.isub .i64 (Ops.std.slen s) at_) then
        (xsget s (Ops.std.iadd .i64 at_ 1)).bind fun b =>
        (r04_tail b).bind fun res =>
        bif res then
          (xsget s (Ops.std.iadd .i64 at_ 2)).bind fun b1 =>
          (r04_tail b1).bind fun res1 =>
          (r04_Width_s0 s at_ c res1).bind fun r => match r with
            | .inl t4 =>
              some t4
            | .inr c1 =>
              r04_Width_s2 s at_ c1
        else
          (r04_Width_s0 s at_ c false).bind fun r => match r with
            | .inl t4 =>
              some t4
            | .inr c1 =>
              r04_Width_s2 s at_ c1
      else
        (r04_Width_s0 s at_ c false).bind fun r => match r with
          | .inl t4 =>
            some t4
          | .inr c1 =>
            r04_Width_s2 s at_ c1
    else
      (r04_Width_s0 s at_ c false).bind fun r => match r with
        | .inl t4 =>
          some t4
        | .inr c1 =>
          r04_Width_s2 s at_ c1
  else
    (r04_Width_s0 s at_ c false).bind fun r => match r with
      | .inl t4 =>
        some t4
      | .inr c1 =>
        r04_Width_s2 s at_ c1
theorem r04_Width_s3_r {s at_ c r} (h : r04_Width_s3_b s at_ c = some r) : r04_Width_s3 s at_ c = some r := by
  unfold r04_Width_s3_b at h
  refine asks_of fun γ => ?_
  rcases cond_some h with ⟨h1, h⟩ | ⟨h1, h⟩
  rcases cond_some h with ⟨h2, h⟩ | ⟨h2, h⟩
  rcases cond_some h with ⟨h3, h⟩ | ⟨h3, h⟩
  obtain ⟨b, h4, h⟩ := bind_some h
  obtain ⟨res, h5, h⟩ := bind_ask h
  rcases cond_some h with ⟨h6, h⟩ | ⟨h6, h⟩
  obtain ⟨b1, h7, h⟩ := bind_some h
  obtain ⟨res1, h8, h⟩ := bind_ask h
  obtain ⟨r9, γ3, h9, h⟩ := bind_asks h (gam [])
  rcases r9 with t4 | c1
  cases h; refine ⟨gam [], seg_lim ?_⟩; rotate_left
  obtain ⟨γ4, h10⟩ := asks_some h (gam [])
  rcases r with t4
  refine ⟨gam [], seg_lim ?_⟩; rotate_left
  obtain ⟨r7, γ2, h7, h⟩ := bind_asks h (gam [])
  rcases r7 with t4 | c1
  cases h; refine ⟨gam [], seg_lim ?_⟩; rotate_left
  obtain ⟨γ3, h8⟩ := asks_some h (gam [])
  rcases r with t4
  refine ⟨gam [], seg_lim ?_⟩; rotate_left
  obtain ⟨r4, γ1, h4, h⟩ := bind_asks h (gam [])
  rcases r4 with t4 | c1
  cases h; refine ⟨gam [], seg_lim ?_⟩; rotate_left
  obtain ⟨γ2, h5⟩ := asks_some h (gam [])
  rcases r with t4
  refine ⟨gam [], seg_lim ?_⟩; rotate_left
  obtain ⟨r3, γ1, h3, h⟩ := bind_asks h (gam [])
  rcases r3 with t4 | c1
  cases h; refine ⟨gam [], seg_lim ?_⟩; rotate_left
  obtain ⟨γ2, h4⟩ := asks_some h (gam [])
  rcases r with t4
  refine ⟨gam [], seg_lim ?_⟩; rotate_left
  obtain ⟨r2, γ1, h2, h⟩ := bind_asks h (gam [])
  rcases r2 with t4 | c1
  cases h; refine ⟨gam [], seg_lim ?_⟩; rotate_left
  obtain ⟨γ2, h3⟩ := asks_some h (gam [])
  rcases r with t4
  refine ⟨gam [], seg_lim ?_⟩; rotate_left
  all_goals (dsimp only [R1, r04_Width_s0_x, r04_Width_s2_x, r04_Width_s3_x] at *; show Ifc.apart IF_ _ (b113_3F b113_0 b113_2) _ = _; generalize b113_0 = c0, b113_2 = c1 at *; exact fin_)
noncomputable def r04_Width_s0_b (s : ByteArray) (at_ : Int) (c : Int) (t56 : Bool) : Option (Int ⊕ Int) :=
  bif t56 then
    bif Ops.std.ieq c 224 then
      (xsget s (Ops.std.iadd .i64 at_ 1)).bind fun b =>
      bif Ops.std.ilt b 160 then some (.inl 0) else
      some (.inl 3)
    else
      bif Ops.std.ieq c 237 then
        (xsget s (Ops.std.iadd .i64 at_ 1)).bind fun b =>
        bif Ops.std.ilt 159 b then some (.inl 0) else
        some (.inl 3)
      else
        some (.inl 3)
  else
    some (.inr c)
theorem r04_Width_s0_r {s at_ c t56 r} (h : r04_Width_s0_b s at_ c t56 = some r) : r04_Width_s0 s at_ c t56 = some r := by
  unfold r04_Width_s0_b at h
  refine asks_of fun γ => ?_
  rcases cond_some h with ⟨h1, h⟩ | ⟨h1, h⟩
  rcases cond_some h with ⟨h2, h⟩ | ⟨h2, h⟩
  obtain ⟨b, h3, h⟩ := bind_some h
  rcases cond_some h with ⟨h4, h⟩ | ⟨h4, h⟩
  cases h; refine ⟨gam [], seg_lim ?_⟩; rotate_left
  have h5 := ieq_other h2 (b := 237) (by decide)
  cases h; refine ⟨gam [], seg_lim ?_⟩; rotate_left
  rcases cond_some h with ⟨h3, h⟩ | ⟨h3, h⟩
  obtain ⟨b, h4, h⟩ := bind_some h
  rcases cond_some h with ⟨h5, h⟩ | ⟨h5, h⟩
  cases h; refine ⟨gam [], seg_lim ?_⟩; rotate_left
  cases h; refine ⟨gam [], seg_lim ?_⟩; rotate_left
  cases h; refine ⟨gam [], seg_lim ?_⟩; rotate_left
  cases h; refine ⟨gam [], seg_lim ?_⟩; rotate_left
  all_goals (dsimp only [r04_Width_s0_x] at *; show Ifc.apart IF_ _ b113_0F _ = _; exact fin_)
noncomputable def r04_Width_s2_b (s : ByteArray) (at_ : Int) (c : Int) : Option (Int) :=
  bif Ops.std.ile 240 c then
    bif Ops.std.ile c 244 then
      bif Ops.std.ilt 3 (Ops.std.isub .i64 (Ops.std.slen s) at_) then
        (xsget s (Ops.std.iadd .i64 at_ 1)).bind fun b =>
        (r04_tail b).bind fun res =>
        bif res then
          (xsget s (Ops.std.iadd .i64 at_ 2)).bind fun b1 =>
          (r04_tail b1).bind fun res1 =>
          bif res1 then
            (xsget s (Ops.std.iadd .i64 at_ 3)).bind fun b2 =>
            (r04_tail b2).bind fun res2 =>
            (r04_Width_s1 s at_ c res2).bind fun r => match r with
              | .inl t4 =>
                some t4
              | .inr () =>
                some 0
          else
            (r04_Width_s1 s at_ c false).bind fun r => match r with
              | .inl t4 =>
                some t4
              | .inr () =>
                some 0
        else
          (r04_Width_s1 s at_ c false).bind fun r => match r with
            | .inl t4 =>
              some t4
            | .inr () =>
              some 0
      else
        (r04_Width_s1 s at_ c false).bind fun r => match r with
          | .inl t4 =>
            some t4
          | .inr () =>
            some 0
    else
      (r04_Width_s1 s at_ c false).bind fun r => match r with
        | .inl t4 =>
          some t4
        | .inr () =>
          some 0
  else
    (r04_Width_s1 s at_ c false).bind fun r => match r with
      | .inl t4 =>
        some t4
      | .inr () =>
        some 0
theorem r04_Width_s2_r {s at_ c r} (h : r04_Width_s2_b s at_ c = some r) : r04_Width_s2 s at_ c = some r := by
  unfold r04_Width_s2_b at h
  refine asks_of fun γ => ?_
  rcases cond_some h with ⟨h1, h⟩ | ⟨h1, h⟩
  rcases cond_some h with ⟨h2, h⟩ | ⟨h2, h⟩
  rcases cond_some h with ⟨h3, h⟩ | ⟨h3, h⟩
  obtain ⟨b, h4, h⟩ := bind_some h
  obtain ⟨res, h5, h⟩ := bind_ask h
  rcases cond_some h with ⟨h6, h⟩ | ⟨h6, h⟩
  obtain ⟨b1, h7, h⟩ := bind_some h
  obtain ⟨res1, h8, h⟩ := bind_ask h
  rcases cond_some h with ⟨h9, h⟩ | ⟨h9, h⟩
  obtain ⟨b2, h10, h⟩ := bind_some h
  obtain ⟨res2, h11, h⟩ := bind_ask h
  obtain ⟨r12, γ4, h12, h⟩ := bind_asks h (gam [])
  rcases r12 with t4 | _
  cases h; refine ⟨gam [], seg_lim ?_⟩; rotate_left
  cases h; refine ⟨gam [], seg_lim ?_⟩; rotate_left
  obtain ⟨r10, γ3, h10, h⟩ := bind_asks h (gam [])
  rcases r10 with t4 | _
  cases h; refine ⟨gam [], seg_lim ?_⟩; rotate_left
  cases h; refine ⟨gam [], seg_lim ?_⟩; rotate_left
  obtain ⟨r7, γ2, h7, h⟩ := bind_asks h (gam [])
  rcases r7 with t4 | _
  cases h; refine ⟨gam [], seg_lim ?_⟩; rotate_left
  cases h; refine ⟨gam [], seg_lim ?_⟩; rotate_left
  obtain ⟨r4, γ1, h4, h⟩ := bind_asks h (gam [])
  rcases r4 with t4 | _
  cases h; refine ⟨gam [], seg_lim ?_⟩; rotate_left
  cases h; refine ⟨gam [], seg_lim ?_⟩; rotate_left
  obtain ⟨r3, γ1, h3, h⟩ := bind_asks h (gam [])
  rcases r3 with t4 | _
  cases h; refine ⟨gam [], seg_lim ?_⟩; rotate_left
  cases h; refine ⟨gam [], seg_lim ?_⟩; rotate_left
  obtain ⟨r2, γ1, h2, h⟩ := bind_asks h (gam [])
  rcases r2 with t4 | _
  cases h; refine ⟨gam [], seg_lim ?_⟩; rotate_left
  cases h; refine ⟨gam [], seg_lim ?_⟩; rotate_left
  all_goals (dsimp only [R1, r04_Width_s1_x, r04_Width_s2_x] at *; show Ifc.apart IF_ _ (b113_2F b113_1) _ = _; generalize b113_1 = c0 at *; exact fin_)
noncomputable def r04_Width_s1_b (s : ByteArray) (at_ : Int) (c : Int) (t107 : Bool) : Option (Int ⊕ Unit) :=
  bif t107 then
    bif Ops.std.ieq c 240 then
      (xsget s (Ops.std.iadd .i64 at_ 1)).bind fun b =>
      bif Ops.std.ilt b 144 then some (.inl 0) else
      some (.inl 4)
    else
      bif Ops.std.ieq c 244 then
        (xsget s (Ops.std.iadd .i64 at_ 1)).bind fun b =>
        bif Ops.std.ilt 143 b then some (.inl 0) else
        some (.inl 4)
      else
        some (.inl 4)
  else
    some (.inr ())
theorem r04_Width_s1_r {s at_ c t107 r} (h : r04_Width_s1_b s at_ c t107 = some r) : r04_Width_s1 s at_ c t107 = some r := by
  unfold r04_Width_s1_b at h
  refine asks_of fun γ => ?_
  rcases cond_some h with ⟨h1, h⟩ | ⟨h1, h⟩
  rcases cond_some h with ⟨h2, h⟩ | ⟨h2, h⟩
  obtain ⟨b, h3, h⟩ := bind_some h
  rcases cond_some h with ⟨h4, h⟩ | ⟨h4, h⟩
  cases h; refine ⟨gam [], seg_lim ?_⟩; rotate_left
  have h5 := ieq_other h2 (b := 244) (by decide)
  cases h; refine ⟨gam [], seg_lim ?_⟩; rotate_left
  rcases cond_some h with ⟨h3, h⟩ | ⟨h3, h⟩
  obtain ⟨b, h4, h⟩ := bind_some h
  rcases cond_some h with ⟨h5, h⟩ | ⟨h5, h⟩
  cases h; refine ⟨gam [], seg_lim ?_⟩; rotate_left
  cases h; refine ⟨gam [], seg_lim ?_⟩; rotate_left
  cases h; refine ⟨gam [], seg_lim ?_⟩; rotate_left
  cases h; refine ⟨gam [], seg_lim ?_⟩; rotate_left
  all_goals (dsimp only [r04_Width_s1_x] at *; show Ifc.apart IF_ _ b113_1F _ = _; exact fin_)
noncomputable def r04_Width_b (s : ByteArray) (at_ : Int) : Option (Int) :=
  (xsget s at_).bind fun b =>
  bif Ops.std.ilt b 128 then some 1 else
  bif Ops.std.ile 194 b then
    bif Ops.std.ile b 223 then
      bif Ops.std.ilt 1 (Ops.std.isub .i64 (Ops.std.slen s) at_) then
        (xsget s (Ops.std.iadd .i64 at_ 1)).bind fun b1 =>
        (r04_tail b1).bind fun res =>
        bif res then some 2 else
        r04_Width_s3 s at_ b
      else
        r04_Width_s3 s at_ b
    else
      r04_Width_s3 s at_ b
  else
    r04_Width_s3 s at_ b
theorem r04_Width_r {s at_ r} (h : r04_Width_b s at_ = some r) : r04_Width s at_ = some r := by
  unfold r04_Width_b at h
  refine ask_of ?_
  obtain ⟨b, h1, h⟩ := bind_some h
  rcases cond_some h with ⟨h2, h⟩ | ⟨h2, h⟩
  cases h; refine call_lim rfl ?_; rotate_left
  rcases cond_some h with ⟨h3, h⟩ | ⟨h3, h⟩
  rcases cond_some h with ⟨h4, h⟩ | ⟨h4, h⟩
  rcases cond_some h with ⟨h5, h⟩ | ⟨h5, h⟩
  obtain ⟨b1, h6, h⟩ := bind_some h
  obtain ⟨res, h7, h⟩ := bind_ask h
  rcases cond_some h with ⟨h8, h⟩ | ⟨h8, h⟩
  cases h; refine call_lim rfl ?_; rotate_left
  obtain ⟨γ2, h9⟩ := asks_some h (gam [])
  rcases r with t4
  refine call_lim rfl ?_; rotate_left
  obtain ⟨γ1, h6⟩ := asks_some h (gam [])
  rcases r with t4
  refine call_lim rfl ?_; rotate_left
  obtain ⟨γ1, h5⟩ := asks_some h (gam [])
  rcases r with t4
  refine call_lim rfl ?_; rotate_left
  obtain ⟨γ1, h4⟩ := asks_some h (gam [])
  rcases r with t4
  refine call_lim rfl ?_; rotate_left
  all_goals (dsimp only [R1, r04_Width_s3_x] at *; show runFn IF_ (g113F b113_3) _ _ = _; generalize b113_3 = c0 at *; exact fin_)
noncomputable def ring_Dist_b (a : Int) (b : Int) : Option (Int) :=
  some (Ops.std.isub .u64 b a)
theorem ring_Dist_r {a b r} (h : ring_Dist_b a b = some r) : ring_Dist a b = some r := by
  unfold ring_Dist_b at h
  refine ask_of ?_
  cases h; refine call_lim rfl ?_; rotate_left
  all_goals (dsimp only [R1] at *; show runFn IF_ g114F _ _ = _; exact fin_)
noncomputable def r04_tail_b (c : Int) : Option (Bool) :=
  bif Ops.std.ile 128 c then some (Ops.std.ile c 191) else
  some false
theorem r04_tail_r {c r} (h : r04_tail_b c = some r) : r04_tail c = some r := by
  unfold r04_tail_b at h
  refine ask_of ?_
  rcases cond_some h with ⟨h1, h⟩ | ⟨h1, h⟩
  cases h; refine call_lim rfl ?_; rotate_left
  cases h; refine call_lim rfl ?_; rotate_left
  all_goals (dsimp only [R1] at *; show runFn IF_ g128F _ _ = _; exact fin_)
end Go.Ab.Tryd
