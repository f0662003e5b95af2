/- Our texts for this statement, merged: what its theorem leads to. -/
import Derived.Shelf.SlicesE.Clone
import Derived.Test.YtpiabgfedgddeaaDoorQStore6
namespace Go.Ab
open Go Go.RowKit Go.Shelf Go.Proofs
set_option linter.unusedSimpArgs false
set_option linter.unusedVariables false
section
variable {P : Program} {base : Base} {ρ : Ren}
theorem owns_row {w' : World} {b0 : Nat} {base : Base} (hb : base ≤ b0) {e : TypeId} {size : Nat} {v : Value} {n : Nat} {vals : List Value} (h : w'.ownsRow b0 e size v n vals) : RowAt base w' e size v n vals ∧ (∀ b, rowBlk v = some b → b0 ≤ b ∧ b < w'.heap.size) ∧ v.oneCell' = true := by
  obtain ⟨hl, h⟩ := h
  rcases h with ⟨rfl, rfl⟩ | ⟨g, cap, cur, rfl, hg, hh, hn, hm, hs, ht⟩
  · exact ⟨⟨hl, .inl ⟨rfl, none, rfl⟩⟩, fun b hb => by simp [rowBlk] at hb, rfl⟩
  · refine ⟨⟨hl, ?_⟩, fun b hb => ?_, rfl⟩
    · by_cases hc : cap = 0
      · subst hc
        have : n = 0 := by omega
        subst this
        exact .inl ⟨rfl, _, rfl⟩
      · exact .inr ⟨g, cap, cur, by omega, rfl, Nat.le_trans hb hg, hh, hn, hm, hs, ht⟩
    · cases cap with
      | zero => simp [rowBlk] at hb
      | succ c =>
        simp [rowBlk] at hb
        subst hb
        exact ⟨hg, (Array.getElem?_eq_some_iff.1 hh).1⟩
set_option maxHeartbeats 2000000 in
set_option maxRecDepth 100000 in
theorem clone_empty (L : SlLaysE0.n41 P ρ) (hi : (P.info? (ρ.t 23)).isSome = true) (A : Addr) (c : Nat) (w : World) :
    Calls P (ρ.f 41) #[.slice (some A) 0 c] w fun e w' => e = .returned (.slice (some ⟨w.heap.size, 0, none⟩) 0 0) ∧ w' = w.alloc (.cells #[] (ρ.t 23)) := by
  have mixed := L.mixed; have t4 := L.t4; have a4 := L.a4; have z4 := L.z4; have v4 := L.v4; have t22 := L.t22; have a22 := L.a22; have z22 := L.z22; have v22 := L.v22
  have q22 : ∀ (w : World) (a : Option Addr) (n c n' c' : Nat), (binOp .eql (ρ.t 22) (.slice a n c) (.slice none n' c')).run P w = .ok (.bool a.isNone) w := fun w a n c n' c' => Lib.run_eql_slice_nil w _ _ a n c n' c' L.t22
  have u22 : ∀ w, Sem.run P (underlying (ρ.t 22)) w = .ok (TypeDesc.slice (ρ.t 23)) w := run_underlying t22
  have z23 : ∀ w, (Go.sizeOf (ρ.t 23)).run P w = .ok (P.cellsOf (ρ.t 23)) w := fun w => run_sizeOf hi
  have hr := fun rt => run_append_zero (P := P) (w := w.alloc (.cells #[] (ρ.t 23))) (ty := ρ.t 22) (rt := rt) t22 hi (some ⟨w.heap.size, 0, none⟩) (some A) 0 0 c (Nat.le_refl _)
  obtain ⟨_, _, FG⟩ := L.f41
  go_enter FG, SlBodyN.n41_ntmps ρ
  go_wp2_with (at_builtin; refine Lib.wpList_append_run _ rfl _ _ _ _ rfl _ _ rfl rfl _ _ (hr _) ?_)
  go_ret
  exact ⟨rfl, rfl⟩
theorem clone_ok (L : SlLaysE0.n41 P ρ) {z : AV} (hz : zeroOf P (ρ.t 23) = some z) (h0 : 0 < P.cellsOf (ρ.t 23)) : PrimOk P base (ρ.f 41) (.clone (ρ.t 23) (P.bytesOf (ρ.t 23))) := by
  refine ⟨?_, fun args h v h3 m he E vs hP R V => ?_⟩
  · obtain ⟨nm, hn, hf⟩ := L.f41
    exact ⟨_, hf, rfl, by simpa using hn⟩
  · simp only [primOp] at he
    split at he
    · rename_i x
      split at he
      · rename_i xs hxs
        split at he
        · rename_i hroom
          cases he
          obtain ⟨xv, us, rfl, hx, hnil⟩ := V.uncons
          cases hnil
          obtain ⟨hel, hs⟩ := elemsAt_some R hx hxs
          obtain ⟨ad, cap, vals, rfl, hc, hm, hd, hone, _, hrd⟩ := elems_vl R hx hel
          subst hP
          have hvl : vals.length = xs.length * E.P.cellsOf (ρ.t 23) := by rw [hd.length, flat_len hs]
          obtain ⟨hb, hl⟩ := room_std hroom
          simp only [List.length_nil, Nat.zero_add] at hb hl
          by_cases hx0 : xs.length = 0
          · have hxn : xs = [] := List.eq_nil_of_length_eq_zero hx0
            subst hxn
            cases ad with
            | none =>
              refine (AnyE.slices_Clone_nil L 0 cap E.w).mono fun e w' ⟨he, hw⟩ => ?_
              subst hw
              obtain ⟨E', hw, R', S, V'⟩ := row_fresh (base := base) R (e := ρ.t 23) (w' := E.w) (v' := .slice none 0 0) (xs' := []) (vals' := []) rfl rfl rfl (Nat.le_refl _) (fun _ _ => rfl) (fun b hb => by simp [rowBlk] at hb)
                ⟨by simp, .inl ⟨rfl, none, rfl⟩⟩ rfl (fun x hx => by cases hx) (fun u hu => by cases hu) .nil
              exact ⟨_, E', he, hw, R', S, V'⟩
            | some A =>
              have hinfo : (E.P.info? (ρ.t 23)).isSome = true := by obtain ⟨i, _, hi, _⟩ := zeroOf_some (E := E) hz; rw [hi]; rfl
              refine (clone_empty L hinfo A cap E.w).mono fun e w' ⟨he, hw⟩ => ?_
              subst hw
              obtain ⟨E', hw, R', S, V'⟩ := row_fresh (base := base) R (e := ρ.t 23) (w' := E.w.alloc (.cells #[] (ρ.t 23))) (v' := .slice (some ⟨E.w.heap.size, 0, none⟩) 0 0) (xs' := []) (vals' := []) rfl rfl rfl (by simp) (fun b hb => heap_alloc_old E.w _ hb) (fun b hb => by simp [rowBlk] at hb)
                ⟨by simp, .inl ⟨rfl, _, rfl⟩⟩ rfl (fun x hx => by cases hx) (fun u hu => by cases hu) .nil
              exact ⟨_, E', he, hw, R', S, V'⟩
          · obtain ⟨i, zv, hi, hzv, hzs, _, _⟩ := zeroOf_some (E := E) hz
            have his : i.size = E.P.cellsOf (ρ.t 23) := by simp [Program.cellsOf, hi]
            have hib : i.bytes = E.P.bytesOf (ρ.t 23) := by simp [Program.bytesOf, hi]
            have hpos : 0 < vals.length := by rw [hvl]; exact Nat.mul_pos (by omega) h0
            obtain ⟨b, o, rfl, _⟩ := hrd 0 _ (List.getElem?_eq_getElem hpos)
            have hcl : ∀ j u, vals[j]? = some u → E.w.cell? ⟨b, o + j, none⟩ = some u := fun j u hj => by
              obtain ⟨b', o', hab, hc'⟩ := hrd j u hj
              injection hab with hab
              injection hab with e1 e2 _
              subst e1 e2
              exact hc'
            refine (AnyE.slices_Clone L i zv (E.P.cellsOf (ρ.t 23)) (E.P.bytesOf (ρ.t 23)) hi hzv his hib hzs h0 (fun w => run_sizeOf (by rw [hi]; rfl)) b o xs.length cap vals E.w hvl hl hb hcl hone).mono fun e w' ⟨v', he, hown, _, bel⟩ => ?_
            obtain ⟨hrow, hblk, h1⟩ := owns_row R.le hown
            obtain ⟨E', hw, R', S, V'⟩ := row_fresh (base := base) R (e := ρ.t 23) (w' := w') (v' := v') (xs' := xs) (vals' := vals) bel.os bel.tape bel.output bel.size bel.block hblk hrow h1 hs hone hd
            exact ⟨_, E', he, hw, R', S, V'⟩
        · cases he
      · cases he
    · cases he
end
end Go.Ab
