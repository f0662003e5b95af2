/- Our texts for this statement, merged: what its theorem leads to. -/
import Derived.Shelf.Spec.SlicesInsertGrow
import Derived.Test.YtpiabgfedgddeaaDoorQStore8
namespace Go.Ab
open Go Go.RowKit Go.Shelf Go.Proofs Go.Lib
set_option linter.unusedSimpArgs false
set_option linter.unusedVariables false
structure InsBase (P : Program) (ρ : Ren) : Prop where
  mixed : P.follows .mixedOrders = true
  f22 : Bears P (ρ.f 22) (Body2.n22 ρ)
  t0 : P.underlying (ρ.t 0) = some (TypeDesc.tuple #[])
  a0 : ∀ w, (isAgg (ρ.t 0)).run P w = .ok false w
  z0 : ∀ w, (Go.sizeOf (ρ.t 0)).run P w = .ok 1 w
  v0 : ∀ w, (zeroValue (ρ.t 0)).run P w = .ok (Value.tuple #[]) w
  t3 : P.underlying (ρ.t 3) = some (TypeDesc.int IntKind.i64)
  a3 : ∀ w, (isAgg (ρ.t 3)).run P w = .ok false w
  z3 : ∀ w, (Go.sizeOf (ρ.t 3)).run P w = .ok 1 w
  v3 : ∀ w, (zeroValue (ρ.t 3)).run P w = .ok (Value.int IntKind.i64 0) w
  t4 : P.underlying (ρ.t 4) = some (TypeDesc.bool)
  a4 : ∀ w, (isAgg (ρ.t 4)).run P w = .ok false w
  z4 : ∀ w, (Go.sizeOf (ρ.t 4)).run P w = .ok 1 w
  v4 : ∀ w, (zeroValue (ρ.t 4)).run P w = .ok (Value.bool false) w
  t24 : P.underlying (ρ.t 24) = some (TypeDesc.slice (ρ.t 9))
  a24 : ∀ w, (isAgg (ρ.t 24)).run P w = .ok false w
  z24 : ∀ w, (Go.sizeOf (ρ.t 24)).run P w = .ok 1 w
  v24 : ∀ w, (zeroValue (ρ.t 24)).run P w = .ok (Value.slice none 0 0) w
structure InsLaid (P : Program) (ρ : Ren) : Prop extends InsBase P ρ where
  ov : ∀ args w v, (Extern.SlicesOverlaps.overlaps #[ρ.t 24, ρ.t 24] #[ρ.t 4] args).run P w = .ok v w → (callFunc (ρ.f 29) args).run P w = .ok (.value v) w
section
variable {P : Program} {ρ : Ren}
theorem run_copy_k (w : World) (dT sT ty elem : TypeId) (k b o dLen dCap : Nat) (a : Addr) (sLen sCap : Nat) (cs : List Value)
    (hu : P.underlying dT = some (.slice elem)) (hs : (P.info? elem).map (·.size) = some k) (hn : cs.length = Nat.min sLen dLen * k)
    (hsrc : ∀ j v, cs[j]? = some v → w.cell? (a.add j) = some v) (hc : ∀ j, j < cs.length → (w.cell? ⟨b, o + j, none⟩).isSome = true) (hf : ∀ j, j < cs.length → w.frozen? ⟨b, o + j, none⟩ = false) (h1 : ∀ v ∈ cs, v.oneCell' = true) :
    (Builtin.copy_ #[dT, sT] ty #[.slice (some ⟨b, o, none⟩) dLen dCap, .slice (some a) sLen sCap]).run P w = .ok (goInt (Nat.min sLen dLen)) (w.setCells b o cs) := by
  have hl := run_loadCells_list (P := P) w a cs hsrc
  have hst := run_storeCells_cells (P := P) b o cs 0 w (by simpa using hc) (by simpa using hf) h1
  cases hq : P.info? elem with
  | none => simp [hq] at hs
  | some i =>
    have hi : i.size = k := by simpa [hq] using hs
    simp [Builtin.copy_, run_underlying hu, Builtin.lenOf, Builtin.firstCells, sizeOf, typeInfo, hq, hi, ← hn, hl, hst]
theorem run_overlaps_two (w : World) (tS tR e : TypeId) (ht : P.underlying tS = some (.slice e)) (size : Nat) (hz : ∀ w, (Go.sizeOf e).run P w = .ok size w)
    (a b : Addr) (la ca lb cb : Nat) (hne : a.block ≠ b.block) {v : Value} (ha : w.cell? a = some v) {cur : Array Value} {t : TypeId} (hb : w.heap[b.block]? = some (.cells cur t (0, 0))) (hcur : cur.size ≠ 0) :
    (Extern.SlicesOverlaps.overlaps #[tS, tS] #[tR] #[.slice (some a) la ca, .slice (some b) lb cb]).run P w = .ok (.bool false) w := by
  have hnb : (a.block != b.block) = true := by simpa using hne
  have hnb' : (a.block == b.block) = false := by simpa using hne
  have hsb : w.shape? b.block = some (t, cur.size) := by simp [World.shape?, hb]
  have hfb : ∀ o s, w.frozen? ⟨b.block, o, s⟩ = false := fun o s => by simp [World.frozen?, hb]
  have hfb0 : w.frozen? b = false := by simp [World.frozen?, hb]
  obtain ⟨tA, kA, hsa, hk⟩ : ∃ tA kA, w.shape? a.block = some (tA, kA) ∧ kA ≠ 0 := by
    unfold World.cell? at ha
    split at ha
    · rename_i c el fr hh
      refine ⟨el, c.size, by simp [World.shape?, hh], fun h0 => ?_⟩
      split at ha
      · cases ha
      · rw [Array.eq_empty_of_size_eq_zero h0] at ha
        simp at ha
    · cases ha
  change Sem.run P (α := Value) (do
    let some t := (#[tS, tS] : Array TypeId)[0]? | stuck "slices.overlaps: no parameter types"
    let .slice elem ← underlying t | stuck "slices.overlaps: slice type expected"
    let size ← sizeOf elem
    match (some a : Option Addr), (some b : Option Addr) with
    | some a, some b =>
      if la = 0 ∨ lb = 0 ∨ size = 0 then pure (Value.bool false)
      else if a.block != b.block && (← frozen a) && (← frozen b) then unsupported .addressObserved
      else do
        if a.block != b.block then do
          noView a; noView b
          if ← mayBeOne a b then return Value.bool ((← choose (.extern "sameAddr.stringBytes" 2)) == 1)
        pure (Value.bool (a.block == b.block && a.off < b.off + lb * size && b.off < a.off + la * size))
    | _, _ => pure (Value.bool false)) w = _
  by_cases h0 : la = 0 ∨ lb = 0 ∨ size = 0
  · simp [run_underlying ht, hz, h0]
  · obtain ⟨kA', rfl⟩ : ∃ m, kA = m + 1 := ⟨kA - 1, by omega⟩
    cases hfa : w.frozen? a <;> cases hfe : w.frozen? { block := a.block, off := kA' + 1 } <;>
      simp [run_underlying ht, hz, h0, hnb, hnb', frozen, noView, viewAt, mayBeOne, stringish, shape, Sem.run, hsa, hsb, hfb0, hfb, hfa, hfe]
end
end Go.Ab
namespace Go.Ab
open Go Go.RowKit Go.Shelf Go.Proofs Go.Lib
set_option linter.unusedSimpArgs false
set_option linter.unusedVariables false
variable {P : Program} {ρ : Ren}
set_option maxHeartbeats 4000000 in
set_option maxRecDepth 100000 in
theorem ins_end (L : InsLaid P ρ) {k : Nat} (z9 : ∀ w, (Go.sizeOf (ρ.t 9)).run P w = .ok k w) (base : Option Addr) (n c m yc : Nat) (yb : Option Addr) (w w1 : World) (v1 : Value) (hm : 0 < m)
    (hr : ∀ rt, (Builtin.append_ #[ρ.t 24, ρ.t 24] rt #[.slice base n c, .slice yb m yc]).run P w = .ok v1 w1) :
    Calls P (ρ.f 22) #[.slice base n c, .int .i64 n, .slice yb m yc] w fun e w' => e = .returned v1 ∧ w' = w1 := by
  have t0 := L.t0; have a0 := L.a0; have z0 := L.z0; have v0 := L.v0; have t3 := L.t3; have a3 := L.a3; have z3 := L.z3; have v3 := L.v3; have t4 := L.t4; have a4 := L.a4; have z4 := L.z4; have v4 := L.v4; have t24 := L.t24; have a24 := L.a24; have z24 := L.z24; have v24 := L.v24
  have u0 := run_underlying L.t0; have u3 := run_underlying L.t3; have u4 := run_underlying L.t4; have u24 := run_underlying L.t24
  have mixed := L.mixed
  have hz1 : ¬ ((m : Int) = 0) := by omega
  obtain ⟨_, _, FG⟩ := L.f22
  go_enter FG, Body2.n22_ntmps ρ
  cases base with
  | none =>
    go_wp2_with (at_builtin; refine Lib.wpList_append_run _ rfl _ _ _ _ rfl _ _ rfl rfl _ _ (hr _) ?_)
    go_ret
    exact ⟨rfl, rfl⟩
  | some a =>
    obtain ⟨ab, ao, asp⟩ := a
    go_wp2_with (at_builtin; refine Lib.wpList_append_run _ rfl _ _ _ _ rfl _ _ rfl rfl _ _ (hr _) ?_)
    all_goals (go_ret; exact ⟨rfl, rfl⟩)
set_option maxHeartbeats 4000000 in
set_option maxRecDepth 100000 in
theorem ins_shift (L : InsLaid P ρ) {k : Nat} (hk : (P.info? (ρ.t 9)).map (·.size) = some k) (z9 : ∀ w, (Go.sizeOf (ρ.t 9)).run P w = .ok k w) (b off n c i vb voff m vc : Nat) (cs vs : List Value) (w : World) (hi : i < n) (hm : 0 < m) (hroom : n + m ≤ c) (hc63 : c ≤ 9223372036854775807) (hvb : vb ≠ b)
    (hcl : cs.length = n * k) (hvl : vs.length = m * k)
    (hcs : ∀ j v, cs[j]? = some v → w.cell? ⟨b, off + j, none⟩ = some v) (hsp : ∀ j, j < (n + m) * k → (w.cell? ⟨b, off + j, none⟩).isSome = true) (hfz : ∀ j, j < (n + m) * k → w.frozen? ⟨b, off + j, none⟩ = false)
    (hvs : ∀ j v, vs[j]? = some v → w.cell? ⟨vb, voff + j, none⟩ = some v) (h1c : ∀ v ∈ cs, v.oneCell' = true) (h1v : ∀ v ∈ vs, v.oneCell' = true)
    (hov : ∀ lb cb, (callFunc (ρ.f 29) #[.slice (some ⟨vb, voff, none⟩) m vc, .slice (some ⟨b, off + (i + m) * k, none⟩) lb cb]).run P w = .ok (.value (.bool false)) w) :
    Calls P (ρ.f 22) #[.slice (some ⟨b, off, none⟩) n c, .int .i64 i, .slice (some ⟨vb, voff, none⟩) m vc] w fun e w' =>
      e = .returned (.slice (some ⟨b, off, none⟩) (n + m) c) ∧ w' = (w.drew.setCells b (off + (i + m) * k) (cs.drop (i * k))).setCells b (off + i * k) vs := by
  have t0 := L.t0; have a0 := L.a0; have z0 := L.z0; have v0 := L.v0; have t3 := L.t3; have a3 := L.a3; have z3 := L.z3; have v3 := L.v3; have t4 := L.t4; have a4 := L.a4; have z4 := L.z4; have v4 := L.v4; have t24 := L.t24; have a24 := L.a24; have z24 := L.z24; have v24 := L.v24
  have u0 := run_underlying L.t0; have u3 := run_underlying L.t3; have u4 := run_underlying L.t4; have u24 := run_underlying L.t24
  have hz1 : ¬ ((m : Int) = 0) := by omega
  have hz2 : ¬ ((i : Int) = (n : Int)) := by omega
  have hdl : (cs.drop (i * k)).length = (n - i) * k := by rw [List.length_drop, hcl, Nat.sub_mul]
  have mixed := L.mixed
  have hw1 : IntKind.i64.wrap ((i : Int) + (m : Int)) = (i : Int) + (m : Int) := by rw [IntKind.wrap_i64]; omega
  have hb1 : (0 : Int) ≤ (i : Int) + (m : Int) := by omega
  have hin : i ≤ n := by omega
  have htn : ((i : Int) + (m : Int)).toNat = i + m := by omega
  have hb2 : ¬ (c = i + m) := by omega
  have hb3 : (i : Int) ≤ (n : Int) + (m : Int) := by omega
  have hb4 : ¬ (c = i) := by omega
  have hmul1 : (i + m) * k + (n - i) * k = (n + m) * k := by rw [← Nat.add_mul]; congr 1; omega
  have hmul2 : i * k + m * k ≤ (n + m) * k := by rw [← Nat.add_mul]; exact Nat.mul_le_mul_right _ (by omega)
  have hcp1 : ∀ ty dc sc, (Builtin.copy_ #[(ρ.t 24), (ρ.t 24)] ty #[.slice (some ⟨b, off + (i + m) * k, none⟩) (n + m - (i + m)) dc, .slice (some ⟨b, off + i * k, none⟩) (n + m - i) sc]).run P w.drew = .ok (goInt (Nat.min (n + m - i) (n + m - (i + m)))) (w.drew.setCells b (off + (i + m) * k) (cs.drop (i * k))) := fun ty dc sc =>
    run_copy_k w.drew _ _ ty (ρ.t 9) k b (off + (i + m) * k) (n + m - (i + m)) dc ⟨b, off + i * k, none⟩ (n + m - i) sc (cs.drop (i * k)) L.t24 hk (by rw [hdl]; congr 1; simp only [Nat.min_def]; split <;> omega)
      (fun j v hj => by rw [Addr.add_lit, Nat.add_assoc]; exact hcs (i * k + j) v (by rwa [List.getElem?_drop] at hj))
      (fun j hj => by rw [Nat.add_assoc]; exact hsp _ (by omega)) (fun j hj => by rw [Nat.add_assoc]; exact hfz _ (by omega)) (fun v hv => h1c v (List.mem_of_mem_drop hv))
  obtain ⟨W1, hW1⟩ : ∃ W1, W1 = w.drew.setCells b (off + (i + m) * k) (cs.drop (i * k)) := ⟨_, rfl⟩
  have hsp1 : ∀ q, q < (n + m) * k → (W1.cell? ⟨b, off + q, none⟩).isSome = true := fun q hq => by
    rw [hW1]
    exact isSome_setCells b _ _ _ (fun j hj => by rw [Nat.add_assoc]; exact hsp _ (by omega)) _ (hsp q hq)
  have hcp2 : ∀ (W : World), (∀ x, W.cell? x = W1.cell? x) → (∀ x, W.frozen? x = W1.frozen? x) → ∀ ty dc, (Builtin.copy_ #[(ρ.t 24), (ρ.t 24)] ty #[.slice (some ⟨b, off + i * k, none⟩) (n + m - i) dc, .slice (some ⟨vb, voff, none⟩) m vc]).run P W = .ok (goInt (Nat.min m (n + m - i))) (W.setCells b (off + i * k) vs) := fun W hWc hWf ty dc =>
    run_copy_k W _ _ ty (ρ.t 9) k b (off + i * k) (n + m - i) dc ⟨vb, voff, none⟩ m vc vs L.t24 hk (by rw [hvl]; congr 1; simp only [Nat.min_def]; split <;> omega)
      (fun j v hj => by
        rw [Addr.add_lit, hWc, hW1, World.cell?_setCells_out b _ _ _ _ (fun h _ => absurd h hvb)]
        exact hvs j v hj)
      (fun j hj => by rw [hWc, Nat.add_assoc]; exact hsp1 _ (by omega)) (fun j hj => by rw [hWf, hW1, World.frozen?_setCells, Nat.add_assoc]; exact hfz _ (by omega)) h1v
  rw [← hW1] at hcp1
  clear hmul1 hmul2
  obtain ⟨_, _, FG⟩ := L.f22
  go_enter FG, Body2.n22_ntmps ρ
  go_wp2_with (simp only [hov])
  go_region_law_o (refine step_copy_runI rfl _ _ (ρ.t 24) (ρ.t 24) rfl _ _ (by simp [Act.eval, Act.put]) (by simp [Act.eval, Act.put]) (hcp1 _ _ _) ?_)
  go_wp2_with (at_builtin; refine wpList_copy_runI _ rfl _ _ (ρ.t 24) (ρ.t 24) rfl _ _ rfl rfl (hcp2 _ (fun _ => rfl) (fun _ => rfl) _ _) ?_)
  go_ret
  first | exact ⟨rfl, rfl⟩ | exact ⟨rfl, by rw [hW1]⟩
set_option maxHeartbeats 4000000 in
set_option maxRecDepth 100000 in
theorem ins_grow (L : InsLaid P ρ) {k : Nat} (i0 : TypeInfo) (zv : Value) (hi0 : P.info? (ρ.t 9) = some i0) (hz0 : i0.zero = some zv) (hzs : i0.size = k) (hk0 : 0 < k) (hzc : zv.cells.size = k) (z9 : ∀ w, (Go.sizeOf (ρ.t 9)).run P w = .ok k w)
    (b off n c i vb voff m vc : Nat) (cs vs : List Value) (w : World) (hi : i < n) (hm : 0 < m) (hnc : n ≤ c) (hroom : c < n + m) (hbig : (n + m) * i0.bytes ≤ 140737488355328) (hmax : n + m ≤ maxLen)
    (hcl : cs.length = n * k) (hvl : vs.length = m * k)
    (hcs : ∀ j v, cs[j]? = some v → w.cell? ⟨b, off + j, none⟩ = some v)
    (hvs : ∀ j v, vs[j]? = some v → w.cell? ⟨vb, voff + j, none⟩ = some v) (h1c : ∀ v ∈ cs, v.oneCell' = true) (h1v : ∀ v ∈ vs, v.oneCell' = true) :
    Calls P (ρ.f 22) #[.slice (some ⟨b, off, none⟩) n c, .int .i64 i, .slice (some ⟨vb, voff, none⟩) m vc] w fun e w' =>
      e = .returned (.slice (some ⟨w.heap.size, 0, none⟩) (n + m) (grownCap w (n + m) c (ρ.t 9))) ∧
      w' = (((w.alloc (.cells ((cs.take (i * k)).toArray ++ Builtin.zeroCells zv.cells (n + m - i) ++ Builtin.zeroCells zv.cells (grownCap w (n + m) c (ρ.t 9) - (n + m))) (ρ.t 9))).drew.setCells w.heap.size (i * k) vs).drew).setCells w.heap.size ((i + m) * k) (cs.drop (i * k)) := by
  have t0 := L.t0; have a0 := L.a0; have z0 := L.z0; have v0 := L.v0; have t3 := L.t3; have a3 := L.a3; have z3 := L.z3; have v3 := L.v3; have t4 := L.t4; have a4 := L.a4; have z4 := L.z4; have v4 := L.v4; have t24 := L.t24; have a24 := L.a24; have z24 := L.z24; have v24 := L.v24
  have u0 := run_underlying L.t0; have u3 := run_underlying L.t3; have u4 := run_underlying L.t4; have u24 := run_underlying L.t24
  have mixed := L.mixed
  have hz1 : ¬ ((m : Int) = 0) := by omega
  have hz2 : ¬ ((i : Int) = (n : Int)) := by omega
  have hz3 : (c : Int) < (n : Int) + (m : Int) := by omega
  have hk : (P.info? (ρ.t 9)).map (·.size) = some k := by rw [hi0]; simp [hzs]
  have hcpos : 0 < cs.length := by rw [hcl]; exact Nat.mul_pos (by omega) hk0
  have hvpos : 0 < vs.length := by rw [hvl]; exact Nat.mul_pos (by omega) hk0
  have hbw : b < w.heap.size := Go.block_lt_of_cell (hcs 0 _ (List.getElem?_eq_getElem hcpos))
  have hvw : vb < w.heap.size := Go.block_lt_of_cell (hvs 0 _ (List.getElem?_eq_getElem hvpos))
  have hkk : (n : Int) + (m : Int) - (i : Int) = ((n + m - i : Nat) : Int) := by omega
  have hik : i + (n + m - i) = n + m := by omega
  have hmul1 : (i + m) * k + (n - i) * k = (n + m) * k := by rw [← Nat.add_mul]; congr 1; omega
  have hmul2 : i * k + m * k ≤ (n + m) * k := by rw [← Nat.add_mul]; exact Nat.mul_le_mul_right _ (by omega)
  have hmul3 : i * k ≤ n * k := Nat.mul_le_mul_right _ (by omega)
  have hold : (Builtin.firstCells i0.size i (.slice (some ⟨b, off, none⟩) i c)).run P w.drew = .ok (cs.take (i * k)).toArray w.drew := by
    rw [hzs]
    exact run_firstCells_some w.drew k i ⟨b, off, none⟩ i c (cs.take (i * k)) (by rw [List.length_take]; omega) (fun j v hj => by
      rw [Addr.add_lit]
      rw [List.getElem?_take] at hj
      split at hj
      · exact hcs j v hj
      · cases hj)
  have hrz : ∀ ty, (Builtin.append_ #[(ρ.t 24), (ρ.t 3)] ty #[.slice (some ⟨b, off, none⟩) i c, .int .i64 ((n : Int) + (m : Int) - (i : Int))]).run P w =
      .ok (.slice (some ⟨w.heap.size, 0, none⟩) (n + m) (grownCap w (n + m) c (ρ.t 9))) (w.drew.alloc (.cells ((cs.take (i * k)).toArray ++ Builtin.zeroCells zv.cells (n + m - i) ++ Builtin.zeroCells zv.cells (grownCap w (n + m) c (ρ.t 9) - (n + m))) (ρ.t 9))) := fun ty => by
    have hb3 : (n + m - i) * i0.bytes ≤ (n + m) * i0.bytes := Nat.mul_le_mul_right _ (by omega)
    have h := Lib.run_append_grow_zeros w (ρ.t 24) (ρ.t 3) ty (ρ.t 9) i0 _ .i64 .i64 L.t24 L.t3 hi0 hz0 (some ⟨b, off, none⟩) i c (cs.take (i * k)) hold (n + m - i) (by omega) (by omega) (by omega) (by unfold maxLen at hmax; omega) (by omega) (by rw [hik]; exact growslice_fits hroom hbig)
    rw [hik] at h
    rw [hkk]
    exact h
  obtain ⟨G, hG⟩ : ∃ G, G = grownCap w (n + m) c (ρ.t 9) := ⟨_, rfl⟩
  obtain ⟨ROW, hROW⟩ : ∃ ROW : Array Value, ROW = (cs.take (i * k)).toArray ++ Builtin.zeroCells zv.cells (n + m - i) ++ Builtin.zeroCells zv.cells (G - (n + m)) := ⟨_, rfl⟩
  rw [← hG] at hrz ⊢
  rw [← hROW] at hrz ⊢
  have hRl : (n + m) * k ≤ ROW.size := by
    have h1 : i * k + (n + m - i) * k = (n + m) * k := by rw [← Nat.add_mul]; congr 1
    rw [hROW]
    simp only [Array.size_append, List.size_toArray, List.length_take, size_zeroCells, hzc]
    omega
  obtain ⟨W1, hW1⟩ : ∃ W1, W1 = w.drew.alloc (.cells ROW (ρ.t 9)) := ⟨_, rfl⟩
  rw [← hW1] at hrz
  have hN : ∀ j, j < (n + m) * k → (W1.cell? ⟨w.heap.size, j, none⟩).isSome = true := fun j hj => by
    rw [hW1, World.cell?_alloc_at (w := w.drew) ROW _ w.heap.size j rfl, Array.getElem?_eq_getElem (by omega)]; rfl
  have hNf : ∀ j, W1.frozen? ⟨w.heap.size, j, none⟩ = false := fun j => by rw [hW1]; exact World.frozen?_alloc_at (w := w.drew) ROW _ w.heap.size j rfl
  have hOb : ∀ j v, w.cell? ⟨b, j, none⟩ = some v → W1.cell? ⟨b, j, none⟩ = some v := fun j v h => by rw [hW1, World.cell?_alloc_past (w := w.drew) _ b j hbw]; exact h
  have hOv : ∀ j v, w.cell? ⟨vb, j, none⟩ = some v → W1.cell? ⟨vb, j, none⟩ = some v := fun j v h => by rw [hW1, World.cell?_alloc_past (w := w.drew) _ vb j hvw]; exact h
  have hcpA : ∀ (W : World), (∀ x, W.cell? x = W1.cell? x) → (∀ x, W.frozen? x = W1.frozen? x) → ∀ ty dc, (Builtin.copy_ #[(ρ.t 24), (ρ.t 24)] ty #[.slice (some ⟨w.heap.size, i * k, none⟩) (n + m - i) dc, .slice (some ⟨vb, voff, none⟩) m vc]).run P W = .ok (goInt (Nat.min m (n + m - i))) (W.setCells w.heap.size (i * k) vs) := fun W hWc hWf ty dc =>
    run_copy_k W _ _ ty (ρ.t 9) k w.heap.size (i * k) (n + m - i) dc ⟨vb, voff, none⟩ m vc vs L.t24 hk (by rw [hvl]; congr 1; simp only [Nat.min_def]; split <;> omega)
      (fun j v hj => by rw [Addr.add_lit, hWc]; exact hOv _ v (hvs j v hj))
      (fun j hj => by rw [hWc]; exact hN _ (by omega)) (fun j hj => by rw [hWf]; exact hNf _) h1v
  have hGn : n + m ≤ G := by rw [hG]; exact grownCap_ge w _ _ _
  have hG63 : G ≤ 9223372036854775807 := by
    have := grownCap_le_maxLen w (n + m) c (ρ.t 9) hmax
    rw [← hG] at this
    unfold maxLen at this
    omega
  have hGi : ¬ (G = i) := by omega
  have hGim : ¬ (G = i + m) := by omega
  have hci : ¬ (c = i) := by omega
  have hbN : b ≠ w.heap.size := by omega
  have hdl : (cs.drop (i * k)).length = (n - i) * k := by rw [List.length_drop, hcl, Nat.sub_mul]
  have hcpB : ∀ (W : World), (∀ x, W.cell? x = (W1.setCells w.heap.size (i * k) vs).cell? x) → (∀ x, W.frozen? x = (W1.setCells w.heap.size (i * k) vs).frozen? x) → ∀ ty dc sc, (Builtin.copy_ #[(ρ.t 24), (ρ.t 24)] ty #[.slice (some ⟨w.heap.size, (i + m) * k, none⟩) (n + m - (i + m)) dc, .slice (some ⟨b, off + i * k, none⟩) (n - i) sc]).run P W = .ok (goInt (Nat.min (n - i) (n + m - (i + m)))) (W.setCells w.heap.size ((i + m) * k) (cs.drop (i * k))) := fun W hWc hWf ty dc sc =>
    run_copy_k W _ _ ty (ρ.t 9) k w.heap.size ((i + m) * k) (n + m - (i + m)) dc ⟨b, off + i * k, none⟩ (n - i) sc (cs.drop (i * k)) L.t24 hk (by rw [hdl]; congr 1; simp only [Nat.min_def]; split <;> omega)
      (fun j v hj => by
        rw [Addr.add_lit, hWc, World.cell?_setCells_out _ _ _ _ _ (fun h _ => absurd h hbN), Nat.add_assoc]
        exact hOb _ v (hcs (i * k + j) v (by rwa [List.getElem?_drop] at hj)))
      (fun j hj => by rw [hWc]; exact isSome_setCells _ _ _ _ (fun t ht => hN _ (by omega)) _ (hN _ (by omega)))
      (fun j hj => by rw [hWf, World.frozen?_setCells]; exact hNf _) (fun v hv => h1c v (List.mem_of_mem_drop hv))
  subst hW1
  have hE1 : ∀ x, ((w.alloc (.cells ROW (ρ.t 9))).drew).cell? x = (w.drew.alloc (.cells ROW (ρ.t 9))).cell? x := fun x => rfl
  have hE2 : ∀ x, ((w.alloc (.cells ROW (ρ.t 9))).drew).frozen? x = (w.drew.alloc (.cells ROW (ρ.t 9))).frozen? x := fun x => rfl
  have hF1 : ∀ x, (((w.alloc (.cells ROW (ρ.t 9))).drew.setCells w.heap.size (i * k) vs).drew).cell? x = ((w.drew.alloc (.cells ROW (ρ.t 9))).setCells w.heap.size (i * k) vs).cell? x := fun x => rfl
  have hF2 : ∀ x, (((w.alloc (.cells ROW (ρ.t 9))).drew.setCells w.heap.size (i * k) vs).drew).frozen? x = ((w.drew.alloc (.cells ROW (ρ.t 9))).setCells w.heap.size (i * k) vs).frozen? x := fun x => rfl
  have hw1 : IntKind.i64.wrap ((i : Int) + (m : Int)) = (i : Int) + (m : Int) := by rw [IntKind.wrap_i64]; omega
  have hb1 : (0 : Int) ≤ (i : Int) + (m : Int) := by omega
  have hin : i ≤ n := by omega
  have htn : ((i : Int) + (m : Int)).toNat = i + m := by omega
  have hb3 : (i : Int) ≤ (n : Int) := by omega
  clear hkk hik hold hROW hG hRl hmul1 hmul2 hmul3
  obtain ⟨_, _, FG⟩ := L.f22
  go_enter FG, Body2.n22_ntmps ρ
  go_wp2_with (first
    | (at_builtin; refine Lib.wpList_append_run _ rfl _ _ _ _ rfl _ _ rfl rfl _ _ (hrz _) ?_)
    | (at_builtin; refine wpList_copy_runI _ rfl _ _ (ρ.t 24) (ρ.t 24) rfl _ _ rfl rfl (hcpA _ hE1 hE2 _ _) ?_)
    | (at_builtin; refine wpList_copy_runI _ rfl _ _ (ρ.t 24) (ρ.t 24) rfl _ _ rfl rfl (hcpB _ (fun _ => rfl) (fun _ => rfl) _ _ _) ?_))
  go_region_law_o (refine step_copy_runI rfl _ _ (ρ.t 24) (ρ.t 24) rfl (.slice (some ⟨w.heap.size, (i + m) * k, none⟩) (n + m - (i + m)) (G - (i + m))) (.slice (some ⟨b, off + i * k, none⟩) (n - i) (c - i)) (by simp [Act.eval, Act.put]) (by simp [Act.eval, Act.put]) (hcpB _ hF1 hF2 (ρ.t 3) (G - (i + m)) (c - i)) ?_)
  go_wp2
  go_ret
  exact ⟨rfl, rfl⟩
end Go.Ab
namespace Go.Ab
open Go Go.RowKit Go.Shelf Go.Proofs Go.Lib
set_option linter.unusedSimpArgs false
set_option linter.unusedVariables false
section
variable {P : Program} {base : Base} {h : Store} {E : Env} {ρ : Ren}
theorem append_own (R : Rel base h E) (hP : E.P = P) {ty e : TypeId} (hs : P.underlying ty = some (.slice e)) {z : AV} (hz : zeroOf P e = some z) (h0 : 0 < P.cellsOf e) {k g : Nat} {xs ys : List AV} (hr : rowOf h k g = some (e, false, xs)) {y : AV} {rv yv : Value} (hx : VL E [.sl k g] [rv]) (hy : VL E [y] [yv])
    (hys : elemsOf Ops.std h y = some ys) (hsize : ∀ x, x ∈ ys → x.cells.length = P.cellsOf e) (hroom : Ops.std.room (P.bytesOf e) xs ys = true) :
    ∃ v' E', (∀ rt, (Builtin.append_ #[ty, ty] rt #[rv, yv]).run P E.w = .ok v' E'.w) ∧ Rel base (h.set k (.row e (g + 1) false (xs ++ ys))) E' ∧ Step h E (h.set k (.row e (g + 1) false (xs ++ ys))) E' ∧ VL E' [.sl k (g + 1)] [v'] := by
  let o : Oper := { (default : Oper) with op := .call { callee := .builtin .append, args := #[.tmp 0, .tmp 1], argTypes := #[ty, ty] } }
  let a : Act := { tmps := #[rv, yv], defers := [] }
  have ht : VL E [.sl k g, y] a.tmps.toList := hx.cons hy
  obtain ⟨v', E', hrun, R', S', V'⟩ := op_app2 (P := P) (a := a) (o := o) (x := .tmp 0) (y := .tmp 1) (x' := .t 0) (y' := .t 1) (args := #[.tmp 0, .tmp 1]) (tys := #[ty, ty]) R hP ht rfl rfl rfl hs hz h0 rfl rfl (ys := ys) hys hsize (k := k) (g := g) rfl hr hroom
  refine ⟨v', E', fun rt => ?_, R', S', V'⟩
  have e1 : a.eval (.tmp 0) = rv := rfl
  have e2 : a.eval (.tmp 1) = yv := rfl
  show (Builtin.append_ #[ty, ty] o.type #[rv, yv]).run P E.w = _
  cases hX : (Builtin.append_ #[ty, ty] o.type #[rv, yv]).run P E.w with
  | ok v w1 =>
    have := app_run (P := P) (a := a) (o := o) (x := .tmp 0) (y := .tmp 1) (args := #[.tmp 0, .tmp 1]) (tys := #[ty, ty]) rfl rfl rfl hX
    rcases hrun with hrun | ⟨hrun, _⟩
    · rw [this] at hrun; cases hrun; rfl
    · rw [this] at hrun; cases hrun
  | halt hl w1 =>
    exfalso
    have hx2 : (execOp a.eval o).run P E.w = .halt hl w1 := by
      simp [execOp, o, resolve, invoke, builtin, e1, e2, hX, Result.andThen]
    rcases hrun with hrun | ⟨hrun, _⟩ <;> (rw [hx2] at hrun; cases hrun)
theorem setCells_heap {b : Nat} {t : TypeId} {fr : Nat × Nat} : ∀ (vs : List Value) (o : Nat) (w : World) (cur : Array Value), w.heap[b]? = some (.cells cur t fr) → o + vs.length ≤ cur.size →
    ∃ cur' : Array Value, (w.setCells b o vs).heap[b]? = some (.cells cur' t fr) ∧ cur'.toList = cur.toList.take o ++ vs ++ cur.toList.drop (o + vs.length) ∧ (w.setCells b o vs).os = w.os ∧ (w.setCells b o vs).tape = w.tape ∧ (w.setCells b o vs).output = w.output ∧ (w.setCells b o vs).heap.size = w.heap.size ∧ ∀ j, j ≠ b → (w.setCells b o vs).heap[j]? = w.heap[j]? := by
  intro vs
  induction vs with
  | nil => intro o w cur hh hle; exact ⟨cur, hh, by simp, rfl, rfl, rfl, rfl, fun _ _ => rfl⟩
  | cons v r ih =>
    intro o w cur hh hle
    simp only [List.length_cons] at hle
    have h1 : (w.setCell ⟨b, o, none⟩ v).heap[b]? = some (.cells (cur.setIfInBounds o v) t fr) := by
      have hb := (Array.getElem?_eq_some_iff.1 hh).1
      simp only [World.setCell, Array.getElem?_modify, if_true]
      rw [hh]; rfl
    obtain ⟨cur', e1, e2, e3, e4, e5, e6, e7⟩ := ih (o + 1) (w.setCell ⟨b, o, none⟩ v) _ h1 (by simp; omega)
    refine ⟨cur', e1, ?_, e3, e4, e5, by rw [World.setCells, e6]; simp [World.setCell], fun j hj => by
      rw [World.setCells, e7 j hj]
      simp only [World.setCell, Array.getElem?_modify]
      rw [if_neg (Ne.symm hj)]⟩
    rw [e2]
    have hol : o < cur.toList.length := by simp; omega
    simp only [Array.toList_setIfInBounds, List.length_cons]
    rw [List.take_set, List.take_succ_eq_append_getElem hol, List.drop_set_of_lt (by omega)]
    rw [List.set_append_right _ _ (by simp; omega)]
    simp only [Nat.add_assoc, Nat.add_comm 1, List.length_take, List.append_assoc]
    rw [show o - min o cur.toList.length = 0 by omega]
    rfl
theorem ins_list1 {α : Type} (cur olds news : List α) (p s N : Nat) (ho : olds = cur.take N) (hn : news.length = s) (hp : p ≤ N) (hle : N + s ≤ cur.length) (c1 c2 : List α)
    (h1 : c1 = cur.take (p + s) ++ olds.drop p ++ cur.drop (p + s + (olds.drop p).length)) (h2 : c2 = c1.take p ++ news ++ c1.drop (p + news.length)) :
    c2.take (N + s) = olds.take p ++ (news ++ olds.drop p) ∧ c2.length = cur.length := by
  have hol : olds.length = N := by rw [ho, List.length_take]; omega
  have hl1 : c1.length = cur.length := by rw [h1]; simp only [List.length_append, List.length_take, List.length_drop, hol]; omega
  have ht : c1.take p = olds.take p := by
    rw [h1, List.append_assoc, List.take_append_of_le_length (by rw [List.length_take]; omega), List.take_take, ho, List.take_take]
    congr 1; omega
  have hd : c1.drop (p + s) = olds.drop p ++ cur.drop (p + s + (olds.drop p).length) := by
    rw [h1, List.append_assoc]
    exact List.drop_left' (by rw [List.length_take]; omega)
  rw [hn, ht, hd] at h2
  refine ⟨?_, ?_⟩
  · have : c2 = (olds.take p ++ (news ++ olds.drop p)) ++ cur.drop (p + s + (olds.drop p).length) := by rw [h2]; simp [List.append_assoc]
    rw [this]
    have hl : (olds.take p ++ (news ++ olds.drop p)).length = N + s := by simp only [List.length_append, List.length_take, List.length_drop, hol, hn]; omega
    rw [← hl]; exact List.take_left
  · rw [h2]; simp only [List.length_append, List.length_take, List.length_drop, hol, hn]; omega
theorem ins_list2 {α : Type} (row olds news : List α) (p s N : Nat) (hol : olds.length = N) (hr : row.take p = olds.take p) (hn : news.length = s) (hp : p ≤ N) (hle : N + s ≤ row.length) (c1 c2 : List α)
    (h1 : c1 = row.take p ++ news ++ row.drop (p + news.length)) (h2 : c2 = c1.take (p + s) ++ olds.drop p ++ c1.drop (p + s + (olds.drop p).length)) :
    c2.take (N + s) = olds.take p ++ (news ++ olds.drop p) ∧ c2.length = row.length := by
  have hl1 : c1.length = row.length := by rw [h1]; simp only [List.length_append, List.length_take, List.length_drop, hn]; omega
  have ht : c1.take (p + s) = olds.take p ++ news := by
    rw [h1, hr]
    have : (olds.take p ++ news).length = p + s := by simp only [List.length_append, List.length_take, hn, hol]; omega
    rw [← this]; exact List.take_left
  rw [ht] at h2
  refine ⟨?_, ?_⟩
  · have : c2 = (olds.take p ++ (news ++ olds.drop p)) ++ c1.drop (p + s + (olds.drop p).length) := by rw [h2]; simp [List.append_assoc]
    rw [this]
    have hl : (olds.take p ++ (news ++ olds.drop p)).length = N + s := by simp only [List.length_append, List.length_take, List.length_drop, hol, hn]; omega
    rw [← hl]; exact List.take_left
  · rw [h2]; simp only [List.length_append, List.length_take, List.length_drop, hol, hn, hl1]; omega
theorem insert_ok (L : InsLaid P ρ) {z : AV} (hz : zeroOf P (ρ.t 9) = some z) (h0 : 0 < P.cellsOf (ρ.t 9)) : PrimOk P base (ρ.f 22) (.insert (ρ.t 9) (P.bytesOf (ρ.t 9))) := by
  refine ⟨?_, fun args h v h3 m he E vs hP R V => ?_⟩
  · obtain ⟨nm, hn, hf⟩ := L.f22
    exact ⟨_, hf, rfl, by simpa using hn⟩
  · simp only [primOp] at he
    split at he
    · rename_i k g i e2 f ys
      split at he
      · rename_i y hye
        split at he
        · rename_i e' xs hr
          split at he
          · rename_i hee
            subst hee
            split at he
            · rename_i la lb hroom hla hlb
              cases he
              obtain ⟨rv, us1, rfl, hx, V1⟩ := V.uncons
              obtain ⟨iv, us2, rfl, hiv, V2⟩ := V1.uncons
              obtain ⟨yv, us3, rfl, hy, V3⟩ := V2.uncons
              cases V3
              have hiv := hiv.sc_inv.1
              subst hiv
              subst hP
              have hi0 : 0 ≤ i ∧ i ≤ xs.length ∧ la = xs.take i.toNat ∧ lb = xs.drop i.toNat := by
                simp only [Ops.std] at hla hlb
                split at hla
                · rename_i hc
                  cases hla
                  split at hlb
                  · cases hlb
                    refine ⟨hc.2.1, hc.2.2, by simp, by simp⟩
                  · cases hlb
                · cases hla
              obtain ⟨hi0, hin, rfl, rfl⟩ := hi0
              obtain ⟨i, rfl⟩ := Int.eq_ofNat_of_zero_le hi0
              simp only [Int.ofNat_eq_natCast, Int.toNat_natCast] at *
              have hin : i ≤ xs.length := by omega
              obtain ⟨hel, hsy⟩ := elemsAt_some R hy hye
              have hk := rowOf_some hr
              obtain ⟨hgen, htop, hesz, hsx, olds, hrow, hdx, honex⟩ := R.ent k _ hk
              have hv := hx.sl_inv.2.2.2 hgen
              obtain ⟨ad, yc, news, rfl, hyc, hym, _, _, hdy, honey, hrdy⟩ := hy.lit_inv.lit_inv
              have hys1 : ys = [y] := by simpa [elemsOf] using hel
              subst hys1
              obtain ⟨hb, hl⟩ := room_std hroom
              simp only [List.length_singleton] at hb hl
              obtain ⟨i0, zv, hi, hzv, hzs, _, _⟩ := zeroOf_some (E := E) hz
              have his : i0.size = E.P.cellsOf (ρ.t 9) := by simp [Program.cellsOf, hi]
              have hib : i0.bytes = E.P.bytesOf (ρ.t 9) := by simp [Program.bytesOf, hi]
              have z9 : ∀ w, (Go.sizeOf (ρ.t 9)).run E.P w = .ok (E.P.cellsOf (ρ.t 9)) w := fun w => run_sizeOf (by rw [hi]; rfl)
              have hk9 : (E.P.info? (ρ.t 9)).map (·.size) = some (E.P.cellsOf (ρ.t 9)) := by rw [hi]; simp [his]
              show Calls E.P (ρ.f 22) #[rv, .int .i64 i, .slice ad [y].length yc] E.w _
              have hol := hrow.1
              have hnl : news.length = 1 * E.P.cellsOf (ρ.t 9) := by rw [hdy.length, flat_len hsy]; rfl
              by_cases hend : i = xs.length
              · subst hend
                obtain ⟨v', E', hrun, R', S', V'⟩ := append_own R rfl L.t24 hz h0 hr hx hy hel hsy hroom
                have hlist : Ops.std.lapp (xs.take xs.length) (Ops.std.lapp [y] (xs.drop xs.length)) = xs ++ [y] := by simp [Ops.std]
                rw [hlist]
                rw [hv] at hrun ⊢
                have hrv : ∃ bd cap, E.row k = .slice bd xs.length cap := by
                  rcases hrow.2 with ⟨hn, a', ha⟩ | ⟨g', cap, cur, _, ha, _⟩
                  · exact ⟨a', 0, by rw [ha, hn]⟩
                  · exact ⟨_, cap, ha⟩
                obtain ⟨bd, cap, hre⟩ := hrv
                rw [hre] at hrun ⊢
                exact (ins_end L z9 bd xs.length cap 1 yc ad E.w E'.w v' (by omega) hrun).mono fun e w' ⟨he, hw⟩ => ⟨v', E', he, hw.symm, R', S', V'⟩
              · have hlt : i < xs.length := by omega
                have hnpos : 0 < news.length := by rw [hnl]; omega
                obtain ⟨vb, voff, rfl, hvown, hv0⟩ := hrdy 0 _ (List.getElem?_eq_getElem hnpos)
                have hvs : ∀ j u, news[j]? = some u → E.w.cell? ⟨vb, voff + j, none⟩ = some u := fun j u hj => by
                  obtain ⟨b', o', hab, _, hc'⟩ := hrdy j u hj
                  injection hab with hab
                  injection hab with e1 e2 _
                  subst e1 e2
                  exact hc'
                rcases hrow.2 with ⟨hn0, _⟩ | ⟨b0, cap, cur, hc0, ha, hbb, hh, hle, hmx, hcs, htk⟩
                · omega
                · have hblk0 : rowBlk (E.row k) = some b0 := by
                    rw [ha]
                    cases cap with
                    | zero => omega
                    | succ c' => rfl
                  have hbk : blkOf E h k = some b0 := (blkOf_of hk).trans hblk0
                  have hne : vb ≠ b0 := fun e => hvown (by rw [e]; exact R.own k b0 hbk)
                  generalize hS : E.P.cellsOf (ρ.t 9) = s at *
                  have hcell : ∀ q, E.w.cell? ⟨b0, q, none⟩ = cur[q]? := fun q => cell_of_row E.w b0 q cur _ (0, 0) hh
                  have hfro : ∀ q, E.w.frozen? ⟨b0, q, none⟩ = false := fun q => by simp [World.frozen?, hh]
                  have hmul : i * s ≤ xs.length * s := Nat.mul_le_mul_right _ hin
                  have hn1 : news.length = s := by rw [hnl, Nat.one_mul]
                  have hsz1 : (xs.length + 1) * s = xs.length * s + s := by rw [Nat.add_mul, Nat.one_mul]
                  have hiz1 : (i + 1) * s = i * s + s := by rw [Nat.add_mul, Nat.one_mul]
                  have hs' : ∀ x, x ∈ xs.take i ++ ([y] ++ xs.drop i) → x.cells.length = E.P.cellsOf (ρ.t 9) := fun x hx => by
                    rw [hS]
                    rcases List.mem_append.1 hx with hx | hx
                    · exact hsx x (List.mem_of_mem_take hx)
                    · rcases List.mem_append.1 hx with hx | hx
                      · exact hsy x hx
                      · exact hsx x (List.mem_of_mem_drop hx)
                  have hone' : ∀ u, u ∈ olds.take (i * s) ++ (news ++ olds.drop (i * s)) → u.oneCell' = true := fun u hu => by
                    rcases List.mem_append.1 hu with hu | hu
                    · exact honex u (List.mem_of_mem_take hu)
                    · rcases List.mem_append.1 hu with hu | hu
                      · exact honey u hu
                      · exact honex u (List.mem_of_mem_drop hu)
                  have hdl' : DL E.P E.w E.own (flat (xs.take i ++ ([y] ++ xs.drop i))) (olds.take (i * s) ++ (news ++ olds.drop (i * s))) := by
                    rw [flat_append, flat_append, flat_take hsx, flat_drop hsx]
                    exact (hdx.take _).append (hdy.append (hdx.drop _))
                  have hxl : (xs.take i ++ ([y] ++ xs.drop i)).length = xs.length + 1 := by simp only [List.length_append, List.length_take, List.length_drop, List.length_singleton]; omega
                  have hvl' : (olds.take (i * s) ++ (news ++ olds.drop (i * s))).length = (xs.length + 1) * s := by
                    simp only [List.length_append, List.length_take, List.length_drop, hol, hn1]; omega
                  have hlist : Ops.std.lapp (xs.take i) (Ops.std.lapp [y] (xs.drop i)) = xs.take i ++ ([y] ++ xs.drop i) := rfl
                  rw [hlist, hv, ha]
                  have hcur : cur.toList.length = cap * s := by simpa using hcs
                  by_cases hroomy : xs.length + 1 ≤ cap
                  · have hcap : (xs.length + 1) * s ≤ cap * s := Nat.mul_le_mul_right _ hroomy
                    have hov : ∀ lb cb, (callFunc (ρ.f 29) #[.slice (some ⟨vb, voff, none⟩) 1 yc, .slice (some ⟨b0, 0 + (i + 1) * s, none⟩) lb cb]).run E.P E.w = .ok (.value (.bool false)) E.w := fun lb cb =>
                      L.ov _ _ _ (run_overlaps_two E.w (ρ.t 24) (ρ.t 4) (ρ.t 9) L.t24 s z9 ⟨vb, voff, none⟩ ⟨b0, 0 + (i + 1) * s, none⟩ 1 yc lb cb hne (hvs 0 _ (List.getElem?_eq_getElem hnpos)) hh (by rw [hcs]; have := Nat.mul_pos hc0 h0; omega))
                    refine (ins_shift L hk9 z9 b0 0 xs.length cap i vb voff 1 yc olds news E.w hlt (by omega) hroomy (by unfold maxLen at hmx; omega) hne hol hnl
                      (fun j u hj => by rw [Nat.zero_add, hcell, ← Array.getElem?_toList]; rw [← htk, List.getElem?_take] at hj; split at hj; exact hj; cases hj)
                      (fun j hj => by rw [Nat.zero_add, hcell, Array.getElem?_eq_getElem (by rw [hcs]; omega)]; rfl) (fun j _ => hfro _) hvs honex honey hov).mono fun e w' ⟨he, hw⟩ => ?_
                    rw [Nat.zero_add, Nat.zero_add] at hw
                    obtain ⟨c1, a1, a2, a3, a4, a5, a6, a7⟩ := setCells_heap (b := b0) (olds.drop (i * s)) ((i + 1) * s) E.w.drew cur hh (by simp only [List.length_drop, hol]; rw [hcs]; omega)
                    have hl1 : c1.size = cur.size := by
                      have : c1.toList.length = cur.toList.length := by rw [a2]; simp only [List.length_append, List.length_take, List.length_drop, hol, hcur]; omega
                      simpa using this
                    obtain ⟨c2, b1, b2, b3, b4, b5, b6, b7⟩ := setCells_heap (b := b0) news (i * s) _ c1 a1 (by rw [hn1, hl1, hcs]; omega)
                    rw [hiz1] at a2
                    obtain ⟨l1, l2⟩ := ins_list1 cur.toList olds news (i * s) s (xs.length * s) htk.symm hn1 hmul (by rw [hcur]; omega) c1.toList c2.toList a2 b2
                    rw [← hw] at b1 b3 b4 b5 b6 b7
                    have hrv' : rowBlk (.slice (some ⟨b0, 0, none⟩) (xs.length + 1) cap) = some b0 := by
                      cases cap with
                      | zero => omega
                      | succ c' => rfl
                    obtain ⟨E', hw', R', S', V'⟩ := row_new (base := base) R hk (w' := w') (v' := .slice (some ⟨b0, 0, none⟩) (xs.length + 1) cap) (xs' := xs.take i ++ ([y] ++ xs.drop i)) (vals' := olds.take (i * s) ++ (news ++ olds.drop (i * s))) (b3.trans a3) (b4.trans a4) (b5.trans a5) (by rw [b6, a6]; exact Nat.le_refl _)
                      (fun b _ hnb => by
                        have : b ≠ b0 := fun e => hnb (by rw [hblk0, e])
                        rw [b7 b this, a7 b this]; rfl)
                      (fun b hb => by rw [hrv'] at hb; cases hb; exact ⟨.inl hblk0, by rw [b6, a6]; exact blk_lt R hbk⟩)
                      (by
                        rw [hS]
                        refine ⟨by rw [hvl', hxl], .inr ⟨b0, cap, c2, hc0, by rw [hxl], hbb, b1, by rw [hxl]; exact hroomy, hmx, ?_, ?_⟩⟩
                        · have : c2.toList.length = cap * s := by rw [l2, hcur]
                          simpa using this
                        · rw [hxl, hsz1]; exact l1) rfl hs' hone' hdl'
                    exact ⟨_, E', he, hw', R', S', V'⟩
                  · have hgt : cap < xs.length + 1 := by omega
                    refine (ins_grow L i0 zv hi hzv his h0 hzs z9 b0 0 xs.length cap i vb voff 1 yc olds news E.w hlt (by omega) hle hgt (by rw [hib]; exact hb) hl hol hnl
                      (fun j u hj => by rw [Nat.zero_add, hcell, ← Array.getElem?_toList]; rw [← htk, List.getElem?_take] at hj; split at hj; exact hj; cases hj) hvs honex honey).mono fun e w' ⟨he, hw⟩ => ?_
                    have hge := grownCap_ge E.w (xs.length + 1) cap (ρ.t 9)
                    have hgl := grownCap_le_maxLen E.w (xs.length + 1) cap (ρ.t 9) hl
                    generalize hG : grownCap E.w (xs.length + 1) cap (ρ.t 9) = G at *
                    generalize hROW : (olds.take (i * s)).toArray ++ Builtin.zeroCells zv.cells (xs.length + 1 - i) ++ Builtin.zeroCells zv.cells (G - (xs.length + 1)) = ROW at *
                    have hRs : ROW.size = G * s := by
                      rw [← hROW]
                      simp only [Array.size_append, List.size_toArray, List.length_take, size_zeroCells, hzs, hol]
                      have e1 : i * s + (xs.length + 1 - i) * s = (xs.length + 1) * s := by rw [← Nat.add_mul]; congr 1; omega
                      have e2 : (xs.length + 1) * s + (G - (xs.length + 1)) * s = G * s := by rw [← Nat.add_mul]; congr 1; omega
                      omega
                    have hRl : ROW.toList.length = G * s := (Array.length_toList (xs := ROW)).trans hRs
                    have hcapG : (xs.length + 1) * s ≤ G * s := Nat.mul_le_mul_right _ hge
                    have hRt : ROW.toList.take (i * s) = olds.take (i * s) := by
                      rw [← hROW]
                      simp only [Array.toList_append, List.append_assoc]
                      rw [List.take_append_of_le_length (by simp only [List.length_take, hol]; omega), List.take_take, Nat.min_self]
                    obtain ⟨c1, a1, a2, a3, a4, a5, a6, a7⟩ := setCells_heap (b := E.w.heap.size) news (i * s) ((E.w.alloc (.cells ROW (ρ.t 9))).drew) ROW (heap_alloc_new E.w _) (by rw [hRs, hn1]; omega)
                    have hl1 : c1.size = ROW.size := by
                      have : c1.toList.length = ROW.toList.length := by rw [a2]; simp only [List.length_append, List.length_take, List.length_drop, hn1, Array.length_toList, hRs]; omega
                      simpa using this
                    obtain ⟨c2, b1, b2, b3, b4, b5, b6, b7⟩ := setCells_heap (b := E.w.heap.size) (olds.drop (i * s)) ((i + 1) * s) ((((E.w.alloc (.cells ROW (ρ.t 9))).drew).setCells E.w.heap.size (i * s) news).drew) c1 a1 (by rw [hl1, hRs]; simp only [List.length_drop, hol]; omega)
                    rw [hiz1] at b2
                    obtain ⟨l1, l2⟩ := ins_list2 ROW.toList olds news (i * s) s (xs.length * s) hol hRt hn1 hmul (by rw [hRl]; omega) c1.toList c2.toList a2 b2
                    rw [← hw] at b1 b3 b4 b5 b6 b7
                    have hrv' : rowBlk (.slice (some ⟨E.w.heap.size, 0, none⟩) (xs.length + 1) G) = some E.w.heap.size := by
                      cases G with
                      | zero => omega
                      | succ c' => rfl
                    have hsz' : w'.heap.size = E.w.heap.size + 1 := by
                      rw [b6]
                      show (((E.w.alloc (.cells ROW (ρ.t 9))).drew).setCells E.w.heap.size (i * s) news).heap.size = _
                      rw [a6]
                      show (E.w.alloc (.cells ROW (ρ.t 9))).heap.size = _
                      simp
                    obtain ⟨E', hw', R', S', V'⟩ := row_new (base := base) R hk (w' := w') (v' := .slice (some ⟨E.w.heap.size, 0, none⟩) (xs.length + 1) G) (xs' := xs.take i ++ ([y] ++ xs.drop i)) (vals' := olds.take (i * s) ++ (news ++ olds.drop (i * s))) (b3.trans a3) (b4.trans a4) (b5.trans a5) (by omega)
                      (fun b hb _ => by
                        have hbn : b ≠ E.w.heap.size := by omega
                        rw [b7 b hbn]
                        show (((E.w.alloc (.cells ROW (ρ.t 9))).drew).setCells E.w.heap.size (i * s) news).heap[b]? = _
                        rw [a7 b hbn]
                        exact Go.heap_alloc_old E.w _ hb)
                      (fun b hb => by rw [hrv'] at hb; cases hb; exact ⟨.inr (Nat.le_refl _), by omega⟩)
                      (by
                        rw [hS]
                        refine ⟨by rw [hvl', hxl], .inr ⟨E.w.heap.size, G, c2, by omega, by rw [hxl], R.le, b1, by rw [hxl]; exact hge, hgl, ?_, ?_⟩⟩
                        · have : c2.toList.length = G * s := by rw [l2, hRl]
                          simpa using this
                        · rw [hxl, hsz1]; exact l1) rfl hs' hone' hdl'
                    exact ⟨_, E', he, hw', R', S', V'⟩
            · cases he
          · cases he
        · cases he
      · cases he
    · cases he
end
end Go.Ab
