/- Our texts for this statement, merged: what its theorem leads to. -/
import Derived.Lib.RuneCountTail
import Derived.Lib.TrimU
import Derived.Test.YtpiabgfedgddeaaDoorQStore19
namespace Go.Ab.Tryd
open Go Go.Ab Go.Proofs Go.Lib
set_option linter.unusedVariables false
set_option linter.unusedSimpArgs false
def stray (s : ByteArray) (i : Nat) : Bool := decide (Utf8.decode s i = (65533, 1))
theorem xsdec_nat {s : ByteArray} {i : Nat} (h : i < s.size) : xsdec s (i : Int) = some (((Utf8.decode s i).1 : Int), ((i + (Utf8.decode s i).2 : Nat) : Int)) := by
  show (if 0 ≤ (i : Int) ∧ (i : Int).toNat < s.size then some (((Utf8.decode s (i : Int).toNat).1 : Int), (i : Int) + ((Utf8.decode s (i : Int).toNat).2 : Int)) else none) = _
  rw [if_pos ⟨by omega, by simpa using h⟩, Int.toNat_natCast]
  simp
theorem xsdec_end {s : ByteArray} {i : Nat} (h : ¬ i < s.size) : xsdec s (i : Int) = none := by
  show (if 0 ≤ (i : Int) ∧ (i : Int).toNat < s.size then some (((Utf8.decode s (i : Int).toNat).1 : Int), (i : Int) + ((Utf8.decode s (i : Int).toNat).2 : Int)) else none) = _
  rw [if_neg (by simpa using h)]
theorem utf_stray_eq {s : ByteArray} {i : Nat} (h : i < s.size) : utf_stray s (i : Int) ((Utf8.decode s i).1 : Int) = some (stray s i) := utf_stray_r (by
  unfold utf_stray_b
  simp only [ieq_dec, bif_dec]
  split
  · rename_i h1
    have e1 : xssub s (i : Int) (Ops.std.slen s) = some (s.extract i s.size) := by
      show (if 0 ≤ (i : Int) ∧ (i : Int) ≤ (s.size : Int) ∧ (s.size : Int) ≤ (s.size : Int) then some (s.extract (i : Int).toNat (s.size : Int).toNat) else none) = _
      rw [if_pos ⟨by omega, by omega, by omega⟩]; simp
    have e2 : xsdec (s.extract i s.size) 0 = some (((Utf8.decode s i).1 : Int), ((Utf8.decode s i).2 : Int)) := by
      have := xsdec_nat (s := s.extract i s.size) (i := 0) (by rw [tail_size]; omega)
      rw [tail_decode] at this
      simpa using this
    rw [e1, Option.bind_some, e2]
    simp only [xopt, stray]
    congr 1
    have h2 : (Utf8.decode s i).1 = 65533 := by omega
    refine decide_eq_decide.2 ⟨fun h => Prod.ext h2 (by show (Utf8.decode s i).2 = 1; omega), fun h => by rw [h]; rfl⟩
  · rename_i h1
    congr 1
    exact (decide_eq_false (fun h => h1 (by rw [h]; rfl))).symm)
def poss (s : ByteArray) : Nat → Nat → List Nat
  | 0, _ => []
  | n + 1, i => if i < s.size then i :: poss s n (i + (Utf8.decode s i).2) else []
theorem valid_l0 (s : ByteArray) : ∀ (n i : Nat), s.size - i < n → ∃ r, utf_Valid_l0 s (i : Int) = some r ∧ (match r with | .inl _ => false | .inr _ => true) = (poss s n i).all fun j => !stray s j := by
  intro n
  induction n with
  | zero => intro i h; omega
  | succ n ih =>
    intro i h
    by_cases hi : i < s.size
    · have hw := width_pos s i
      cases hst : stray s i
      · obtain ⟨r, hr, he⟩ := ih (i + (Utf8.decode s i).2) (by omega)
        refine ⟨r, utf_Valid_l0_r (by simp only [utf_Valid_l0_b, xsdec_nat hi, xopt, utf_stray_eq hi, Option.bind_some, hst, cond_false]; exact hr), ?_⟩
        rw [he]; simp [poss, hi, hst]
      · exact ⟨_, utf_Valid_l0_r (by simp only [utf_Valid_l0_b, xsdec_nat hi, xopt, utf_stray_eq hi, Option.bind_some, hst, cond_true]; rfl), by simp [poss, hi, hst]⟩
    · exact ⟨_, utf_Valid_l0_r (by simp only [utf_Valid_l0_b, xsdec_end hi, xopt]; rfl), by simp [poss, hi]⟩
theorem utf_Valid_eq (s : ByteArray) : utf_Valid s = some ((poss s (s.size + 1) 0).all fun j => !stray s j) := utf_Valid_r (by
  obtain ⟨r, hr, he⟩ := valid_l0 s (s.size + 1) 0 (by omega)
  have hr : utf_Valid_l0 s 0 = some r := hr
  simp only [utf_Valid_b, hr, Option.bind_some]
  cases r <;> exact congrArg some he)
theorem poss_len (s : ByteArray) : ∀ (n i : Nat), (poss s n i).length ≤ n := by
  intro n
  induction n with
  | zero => intro i; simp [poss]
  | succ n ih =>
    intro i
    unfold poss
    split
    · have := ih (i + (Utf8.decode s i).2); simp; omega
    · simp
theorem count_l0 (s : ByteArray) : ∀ (n i k : Nat), s.size - i < n → k + n < 9223372036854775808 → ∃ a, utf_Count_l0 s (k : Int) (i : Int) = some (((k + (poss s n i).length : Nat) : Int), a) := by
  intro n
  induction n with
  | zero => intro i k h; omega
  | succ n ih =>
    intro i k h hk
    by_cases hi : i < s.size
    · have hw := width_pos s i
      obtain ⟨a, ha⟩ := ih (i + (Utf8.decode s i).2) (k + 1) (by omega) (by omega)
      refine ⟨a, utf_Count_l0_r ?_⟩
      have e1 : Ops.std.iadd .i64 (k : Int) 1 = ((k + 1 : Nat) : Int) := i64_add (b := 1) (by omega)
      simp only [utf_Count_l0_b, xsdec_nat hi, xopt, e1, ha]
      simp [poss, hi]; omega
    · exact ⟨(i : Int), utf_Count_l0_r (by simp only [utf_Count_l0_b, xsdec_end hi, xopt]; simp [poss, hi])⟩
theorem utf_Count_eq {s : ByteArray} (hs : s.size < 4611686018427387904) : utf_Count s = some (((poss s (s.size + 1) 0).length : Nat) : Int) := utf_Count_r (by
  obtain ⟨a, ha⟩ := count_l0 s (s.size + 1) 0 0 (by omega) (by omega)
  have ha : utf_Count_l0 s 0 0 = some (((0 + (poss s (s.size + 1) 0).length : Nat) : Int), a) := ha
  simp only [utf_Count_b, ha, Option.bind_some, Nat.zero_add])
end Go.Ab.Tryd
namespace Go.Ab.Tryd
open Go Go.Ab Go.Proofs Go.Lib
set_option linter.unusedVariables false
set_option linter.unusedSimpArgs false
def piece (s : ByteArray) (i : Nat) : ByteArray := s.extract i (i + (Utf8.decode s i).2)
theorem wid_cases (s : ByteArray) (i : Nat) : (wid s i = 0 ∧ (Utf8.decode s i).2 = 1) ∨ (wid s i ≠ 0 ∧ wid s i = (Utf8.decode s i).2) := by
  unfold wid
  split
  · rename_i h; exact .inl ⟨rfl, by rw [h]⟩
  · have := width_pos s i; exact .inr ⟨by omega, rfl⟩
theorem parts_l0 (s : ByteArray) (hs : s.size < 1000000) : ∀ (n i : Nat) (l : List ByteArray), s.size - i < n → l.length ≤ i → i ≤ s.size → (∀ j, j < s.size → j + (Utf8.decode s j).2 ≤ s.size) → r04_Parts_l0 s (i : Int) l = some (l ++ (poss s n i).map (piece s)) := by
  intro n
  induction n with
  | zero => intro i l h; omega
  | succ n ih =>
    intro i l h hl hi0 hfit
    by_cases hi : i < s.size
    · have hw := width_pos s i
      have hf := hfit i hi
      have hr : ∀ z : ByteArray, xroom vT 16 l [z] = true := fun z => xroom_eq vT (by simp; omega) (by omega)
      have hx := ih (i + (Utf8.decode s i).2) (l ++ [piece s i]) (by omega) (by simp; omega) hf hfit
      have hsub : ∀ w : Nat, i + w ≤ s.size → xssub s (i : Int) ((i + w : Nat) : Int) = some (s.extract i (i + w)) := fun w hwl => by
        show (if 0 ≤ (i : Int) ∧ (i : Int) ≤ ((i + w : Nat) : Int) ∧ ((i + w : Nat) : Int) ≤ (s.size : Int) then some (s.extract (i : Int).toNat ((i + w : Nat) : Int).toNat) else none) = _
        rw [if_pos ⟨by omega, by omega, by omega⟩, Int.toNat_natCast, Int.toNat_natCast]
      refine r04_Parts_l0_r ?_
      unfold r04_Parts_l0_b
      simp only [ilt_dec, bif_dec, slen_nat, Width_eq hi (by omega), Option.bind_some, ieq_dec]
      rw [if_pos (by omega)]
      rcases wid_cases s i with ⟨h1, h2⟩ | ⟨h1, h2⟩
      · have e1 : Ops.std.iadd .i64 (i : Int) 1 = ((i + 1 : Nat) : Int) := i64_add (b := 1) (by omega)
        rw [if_pos (by omega), e1, hsub 1 (by omega), Option.bind_some, hr, cond_true]
        rw [h2] at hx
        simp only [poss, if_pos hi, List.map_cons, h2]
        rw [show s.extract i (i + 1) = piece s i from by unfold piece; rw [h2], hx]
        simp
      · have e1 : Ops.std.iadd .i64 (i : Int) (wid s i : Int) = ((i + wid s i : Nat) : Int) := i64_add (by omega)
        rw [if_neg (by omega), e1, hsub _ (by omega), Option.bind_some, hr, cond_true]
        rw [← h2] at hx
        simp only [poss, if_pos hi, List.map_cons, ← h2]
        rw [show s.extract i (i + wid s i) = piece s i from by unfold piece; rw [h2], hx]
        simp
    · exact r04_Parts_l0_r (by
        unfold r04_Parts_l0_b
        simp only [ilt_dec, bif_dec, slen_nat]
        rw [if_neg (by omega)]
        simp [poss, hi])
theorem fits {s : ByteArray} {i : Nat} (h : i < s.size) : i + (Utf8.decode s i).2 ≤ s.size := by
  rw [decode_at]
  have : ∀ n b0 b1 b2 b3, 1 ≤ n → (decodeN n b0 b1 b2 b3).2 ≤ n := fun n b0 b1 b2 b3 hn => by
    unfold decodeN
    repeat' split
    all_goals (simp only; omega)
  have := this (s.size - i) (s.get! i).toNat (s.get! (i + 1)).toNat (s.get! (i + 2)).toNat (s.get! (i + 3)).toNat (by omega)
  omega
theorem r04_Parts_eq {s : ByteArray} (hs : s.size < 1000000) : r04_Parts s = some ((poss s (s.size + 1) 0).map (piece s)) := r04_Parts_r (by
  have h := parts_l0 s hs (s.size + 1) 0 [] (by omega) (by simp) (by omega) (fun j hj => fits hj)
  have h : r04_Parts_l0 s 0 [] = some ((poss s (s.size + 1) 0).map (piece s)) := h
  simp only [r04_Parts_b, h, Option.bind_some])
end Go.Ab.Tryd
namespace Go.Ab.Tryd
open Go Go.Ab Go.Proofs Go.Lib
set_option linter.unusedVariables false
set_option linter.unusedSimpArgs false
set_option maxRecDepth 100000 in
set_option maxHeartbeats 4000000 in
theorem dec_self {n b0 b1 b2 b3 r w : Nat} (hn : 1 ≤ n) (hd : decodeN n b0 b1 b2 b3 = (r, w)) : decodeN w b0 (if 1 < w then b1 else 0) (if 2 < w then b2 else 0) (if 3 < w then b3 else 0) = (r, w) := by
  unfold decodeN at hd
  repeat' split at hd
  all_goals
    injection hd with e1 e2
    subst e1 e2
    unfold decodeN
    simp only [show ¬ 1 < 1 by omega, show ¬ 2 < 1 by omega, show ¬ 3 < 1 by omega, show 1 < 2 by omega, show ¬ 2 < 2 by omega, show ¬ 3 < 2 by omega, show 1 < 3 by omega, show 2 < 3 by omega, show ¬ 3 < 3 by omega, show 1 < 4 by omega, show 2 < 4 by omega, show 3 < 4 by omega, if_true, if_false, false_and, true_and, and_false]
    repeat' split
    all_goals first | rfl | (exfalso; omega)
end Go.Ab.Tryd
namespace Go.Ab.Tryd
open Go Go.Ab Go.Proofs Go.Lib
set_option linter.unusedVariables false
set_option linter.unusedSimpArgs false
theorem size_ext (s : ByteArray) (i j : Nat) (h : j ≤ s.size) : (s.extract i j).size = j - i := by
  simp [ByteArray.size_extract]; omega
theorem byt_ext (s : ByteArray) (i j k : Nat) (h : j ≤ s.size) (hk : i + k < j) : byt (s.extract i j) k = byt s (i + k) := by
  have h1 : k < (s.extract i j).size := by rw [size_ext s i j h]; omega
  have e1 := xsget_nat h1
  have e2 := xsget_nat (s := s) (i := i + k) (by omega)
  unfold byt
  have g1 : (s.extract i j).get! k = (s.extract i j)[k]'h1 := by
    generalize s.extract i j = z at h1 ⊢
    cases z with
    | mk d => exact getElem!_pos d k h1
  have g2 : s.get! (i + k) = s[i + k]'(by omega) := by
    have h2 : i + k < s.size := by omega
    clear e1 e2 g1 h1
    cases s with
    | mk d => exact getElem!_pos d (i + k) h2
  rw [g1, g2, ByteArray.getElem_extract]
theorem piece_dec {s : ByteArray} {i : Nat} (h : i < s.size) : Utf8.decode (piece s i) 0 = Utf8.decode s i := by
  have hf := fits h
  have hw := width_pos s i
  obtain ⟨r, w, hd⟩ : ∃ r w, Utf8.decode s i = (r, w) := ⟨_, _, rfl⟩
  have hsz : (piece s i).size = w := by unfold piece; rw [size_ext _ _ _ hf, hd]; simp only; omega
  have hb : ∀ k, byt (piece s i) k = if k < w then byt s (i + k) else 0 := fun k => by
    split
    · rename_i hk
      unfold piece
      rw [hd] at hf ⊢
      exact byt_ext s i (i + w) k hf (by omega)
    · exact get!_ge _ _ (by omega)
  rw [hd] at hw ⊢
  rw [decode_at] at hd ⊢
  have b0 := hb 0; have b1 := hb 1; have b2 := hb 2; have b3 := hb 3
  unfold byt at b0 b1 b2 b3
  simp only [Nat.zero_add, Nat.sub_zero, Nat.add_zero] at b0 b1 b2 b3 ⊢
  rw [hsz, b0, b1, b2, b3, if_pos (show 0 < w from hw)]
  exact dec_self (by omega) hd
end Go.Ab.Tryd
namespace Go.Ab.Tryd
open Go Go.Ab Go.Proofs Go.Lib
set_option linter.unusedVariables false
set_option linter.unusedSimpArgs false
theorem wid_stray (s : ByteArray) (i : Nat) : (wid s i = 0) ↔ stray s i = true := by
  unfold wid stray
  have := width_pos s i
  split
  · rename_i h; simp [h]
  · rename_i h; simp [h]; omega
theorem valid_l {l : List ByteArray} (hl : l.length ≤ 4611686018427387904) (hb : ∀ x, x ∈ l → 0 < x.size ∧ x.size < 1000000) : r04_Valid_l0 l 0 = some (bif allI (fun _ x => !stray x 0) 0 l then .inr () else .inl ()) :=
  all_list vT hl (L := fun i => r04_Valid_l0 l i)
    (fun h => r04_Valid_l0_r (by simp [r04_Valid_l0_b, h]))
    (fun n x r hx h1 h2 hp h => r04_Valid_l0_r (by
      have hm := hb x (List.mem_of_getElem? hx)
      have hw : r04_Width x 0 = some (wid x 0 : Int) := Width_eq hm.1 (by omega)
      have hz : ¬ (wid x 0 = 0) := fun h0 => by
        have := (wid_stray x 0).1 h0; simp [this] at hp
      simp [r04_Valid_l0_b, h1, h2, hw, ieq_dec, hz]; exact h))
    (fun n x hx h1 h2 hp => r04_Valid_l0_r (by
      have hm := hb x (List.mem_of_getElem? hx)
      have hw : r04_Width x 0 = some (wid x 0 : Int) := Width_eq hm.1 (by omega)
      have hz : wid x 0 = 0 := (wid_stray x 0).2 (by simpa using hp)
      simp [r04_Valid_l0_b, h1, h2, hw, ieq_dec, hz]))
end Go.Ab.Tryd
namespace Go.Ab.Tryd
open Go Go.Ab Go.Proofs Go.Lib
set_option linter.unusedVariables false
set_option linter.unusedSimpArgs false
theorem poss_in (s : ByteArray) : ∀ (n i : Nat), ∀ j, j ∈ poss s n i → j < s.size := by
  intro n
  induction n with
  | zero => intro i j h; simp [poss] at h
  | succ n ih =>
    intro i j h
    unfold poss at h
    split at h
    · rename_i hi
      rcases List.mem_cons.1 h with rfl | h
      · exact hi
      · exact ih _ j h
    · cases h
theorem allI_all {l : List ByteArray} {p : ByteArray → Bool} : ∀ n, allI (fun _ x => p x) n l = l.all p := by
  induction l with
  | nil => intro n; rfl
  | cons x l ih => intro n; simp [allI, ih]
theorem r04_Valid_eq {s : ByteArray} (hs : s.size < 1000000) : r04_Valid s = some ((poss s (s.size + 1) 0).all fun j => !stray s j) := r04_Valid_r (by
  have hl := poss_len s (s.size + 1) 0
  have hb : ∀ x, x ∈ (poss s (s.size + 1) 0).map (piece s) → 0 < x.size ∧ x.size < 1000000 := fun x hx => by
    obtain ⟨j, hj, rfl⟩ := List.mem_map.1 hx
    have h1 := poss_in s _ _ j hj
    have h2 := fits h1
    have h3 := width_pos s j
    unfold piece
    rw [size_ext _ _ _ h2]; omega
  have hv := valid_l (l := (poss s (s.size + 1) 0).map (piece s)) (by simp; omega) hb
  rw [allI_all] at hv
  have he : ((poss s (s.size + 1) 0).map (piece s)).all (fun x => !stray x 0) = (poss s (s.size + 1) 0).all fun j => !stray s j := by
    rw [List.all_map]
    refine Bool.eq_iff_iff.2 ?_
    simp only [List.all_eq_true, Function.comp]
    refine ⟨fun h j hj => ?_, fun h j hj => ?_⟩
    · have := h j hj; unfold stray at this ⊢; rwa [piece_dec (poss_in s _ _ j hj)] at this
    · have := h j hj; unfold stray at this ⊢; rwa [piece_dec (poss_in s _ _ j hj)]
  rw [he] at hv
  simp only [r04_Valid_b, r04_Parts_eq hs, Option.bind_some, hv]
  cases (poss s (s.size + 1) 0).all fun j => !stray s j <;> rfl)
end Go.Ab.Tryd
namespace Go.Ab.Tryd
open Go Go.Ab Go.Proofs Go.Lib
set_option linter.unusedVariables false
set_option linter.unusedSimpArgs false
def isKey (s : ByteArray) : Bool := decide (0 < s.size ∧ s.size ≤ 96) && ((poss s (s.size + 1) 0).all fun j => !stray s j) && decide ((poss s (s.size + 1) 0).length ≤ 32)
theorem r08_Key_eq {s : ByteArray} (hs : s.size < 1000000) : r08_Key s = some (isKey s) := r08_Key_r (by
  simp only [r08_Key_b, ilt_dec, bif_dec, slen_nat, r04_Valid_eq hs, r04_Parts_eq hs, Option.bind_some, isKey, xlen_eq, List.length_map]
  by_cases h1 : 0 < s.size
  · rw [if_pos (by omega)]
    by_cases h2 : s.size ≤ 96
    · rw [if_pos (by omega)]
      cases (poss s (s.size + 1) 0).all fun j => !stray s j
      · simp
      · simp [h1, h2]; omega
    · rw [if_neg (by omega)]; simp [h2]
  · rw [if_neg (by omega)]; simp [h1])
theorem msg_Key_eq {s : ByteArray} (hs : s.size < 1000000) : msg_Key s = some (isKey s) := msg_Key_r (by
  have h0 : Ops.std.seq s ⟨#[]⟩ = true ↔ s.size = 0 := by
    rw [seq_iff]
    constructor
    · rintro rfl; rfl
    · intro h
      cases s with
      | mk d =>
        have : d.size = 0 := h
        rw [Array.eq_empty_of_size_eq_zero this]
  simp only [msg_Key_b, ile_dec, bif_dec, slen_nat, utf_Valid_eq, utf_Count_eq (show s.size < 4611686018427387904 by omega), Option.bind_some, isKey]
  by_cases h1 : s.size = 0
  · rw [h0.2 h1]; simp [h1]
  · rw [Bool.eq_false_iff.2 (fun h => h1 (h0.1 h)), cond_false]
    by_cases h2 : s.size ≤ 96
    · rw [if_pos (by omega)]
      cases (poss s (s.size + 1) 0).all fun j => !stray s j
      · simp
      · have h3 : 0 < s.size := by omega
        simp only [cond_true, h2, h3, and_self, decide_true, Bool.true_and, Option.some.injEq]
        exact decide_eq_decide.2 ⟨fun h => by omega, fun h => by omega⟩
    · rw [if_neg (by omega)]; simp [h2])
end Go.Ab.Tryd
namespace Go.Ab.Tryd
open Go Go.Ab Go.Proofs Go.Lib
set_option linter.unusedVariables false
set_option linter.unusedSimpArgs false
theorem iltT {a b : Int} (h : a < b) : Ops.std.ilt a b = true := decide_eq_true h
theorem iltF {a b : Int} (h : ¬ a < b) : Ops.std.ilt a b = false := decide_eq_false h
theorem ieqT {a b : Int} (h : a = b) : Ops.std.ieq a b = true := decide_eq_true h
theorem ieqF {a b : Int} (h : ¬ a = b) : Ops.std.ieq a b = false := decide_eq_false h
theorem seq_self (a : ByteArray) : Ops.std.seq a a = true := seq_iff.2 rfl
def n64 (x : BitVec 64) : Int := (x.toNat : Int)
theorem n64_rng (x : BitVec 64) : 0 ≤ n64 x ∧ n64 x < 18446744073709551616 := by
  have := x.isLt
  unfold n64; omega
theorem wrap_nat (n : Nat) : IntKind.u64.wrap (n : Int) = n64 (BitVec.ofNat 64 n) := by
  rw [u64_wrap]; unfold n64; rw [BitVec.toNat_ofNat]; omega
theorem wrap_self (x : BitVec 64) : IntKind.u64.wrap (n64 x) = n64 x := by
  have := x.isLt
  rw [u64_wrap]; unfold n64; omega
theorem xor_n64 (x y : BitVec 64) : Ops.std.ibit .xor .u64 (n64 x) (n64 y) = n64 (x ^^^ y) := by
  show Go.bits .xor .u64 (n64 x) (n64 y) = _
  unfold n64
  simp only [Go.bits, IntKind.bits, BitVec.ofInt_natCast, BitVec.ofNat_toNat, BitVec.setWidth_eq]
  exact wrap_self (x ^^^ y)
theorem mul_n64 (x y : BitVec 64) : Ops.std.imul .u64 (n64 x) (n64 y) = n64 (x * y) := by
  show IntKind.u64.wrap (n64 x * n64 y) = _
  unfold n64
  rw [← Int.natCast_mul, wrap_nat]; unfold n64
  rw [BitVec.toNat_mul, BitVec.toNat_ofNat]
theorem shr_div (x : BitVec 64) (k : Nat) : n64 x / ((2 ^ k : Nat) : Int) = n64 (x >>> k) := by
  unfold n64
  rw [BitVec.toNat_ushiftRight, Nat.shiftRight_eq_div_pow]; exact (Int.natCast_ediv _ _).symm
theorem shr_n64 (x : BitVec 64) (k : Nat) (hk : k ≤ 64) : Ops.std.ishr .u64 (n64 x) (k : Int) = n64 (x >>> k) := by
  show Int.fdiv (n64 x) (2 ^ (min ((k : Int)).toNat IntKind.u64.bits)) = _
  have e : min ((k : Int)).toNat IntKind.u64.bits = k := by simp only [Int.toNat_natCast]; exact Nat.min_eq_left hk
  have e2 : ((2 : Int) ^ k) = ((2 ^ k : Nat) : Int) := (Int.natCast_pow 2 k).symm
  rw [e, e2, Int.fdiv_eq_ediv_of_nonneg _ (Int.natCast_nonneg _)]
  exact shr_div x k
theorem half_n64 (x : BitVec 64) : Ops.std.iquo .u64 (n64 x) 2 = n64 (x >>> 1) := by
  show IntKind.u64.wrap (Int.tdiv (n64 x) 2) = _
  have h1 : Int.tdiv (n64 x) 2 = n64 x / 2 := by
    unfold n64; exact Int.tdiv_eq_ediv_of_nonneg (Int.natCast_nonneg _)
  have e : n64 x / (2 : Int) = n64 (x >>> 1) := shr_div x 1
  rw [h1, e, wrap_self]
def mc1 : BitVec 64 := 13787848793156543929#64
def mc2 : BitVec 64 := 10723151780598845931#64
def mixB (u : BitVec 64) : BitVec 64 :=
  let a := (u ^^^ (u >>> 30)) * mc1
  let b := (a ^^^ (a >>> 27)) * mc2
  b ^^^ (b >>> 31)
theorem sh30 (x : BitVec 64) : Ops.std.ishr .u64 (n64 x) 30 = n64 (x >>> 30) := shr_n64 x 30 (by omega)
theorem sh27 (x : BitVec 64) : Ops.std.ishr .u64 (n64 x) 27 = n64 (x >>> 27) := shr_n64 x 27 (by omega)
theorem sh31 (x : BitVec 64) : Ops.std.ishr .u64 (n64 x) 31 = n64 (x >>> 31) := shr_n64 x 31 (by omega)
theorem mulc1 (x : BitVec 64) : Ops.std.imul .u64 (n64 x) 13787848793156543929 = n64 (x * mc1) := mul_n64 x mc1
theorem mulc2 (x : BitVec 64) : Ops.std.imul .u64 (n64 x) 10723151780598845931 = n64 (x * mc2) := mul_n64 x mc2
theorem hash_Mix_eq (u : BitVec 64) : hash_Mix (n64 u) = some (n64 (mixB u)) := hash_Mix_r (by
  have h1 : Ops.std.ilt 30 0 = false := rfl
  have h2 : Ops.std.ilt 27 0 = false := rfl
  have h3 : Ops.std.ilt 31 0 = false := rfl
  simp only [hash_Mix_b, h1, h2, h3, cond_false, sh30, sh27, sh31, xor_n64, mulc1, mulc2, mixB])
theorem down_eq (by_ : Nat) (hb : by_ ≤ 64) : ∀ (k i : Nat) (u : BitVec 64), i + k = by_ → r05_down_l0 (by_ : Int) (n64 u) (i : Int) = some (n64 (u >>> k))
  | 0, i, u, h => r05_down_l0_r (by
    rw [r05_down_l0_b, iltF (by omega)]
    rfl)
  | k + 1, i, u, h => r05_down_l0_r (by
    have h2 : Ops.std.ieq 2 0 = false := rfl
    rw [r05_down_l0_b, iltT (by omega), h2, half_n64]
    have := down_eq by_ hb k (i + 1) (u >>> 1) (by omega)
    rw [cond_true, cond_false, show Ops.std.iadd .i64 (i : Int) 1 = ((i + 1 : Nat) : Int) from iadd1 (by omega), this, ← BitVec.shiftRight_add, Nat.add_comm 1 k])
theorem r05_down_eq (u : BitVec 64) (by_ : Nat) (hb : by_ ≤ 64) : r05_down (n64 u) (by_ : Int) = some (n64 (u >>> by_)) := r05_down_r (down_eq by_ hb by_ 0 u (by omega))
theorem r05_Mix_eq (u : BitVec 64) : r05_Mix (n64 u) = some (n64 (mixB u)) := r05_Mix_r (by
  have d30 : ∀ x, r05_down (n64 x) 30 = some (n64 (x >>> 30)) := fun x => r05_down_eq x 30 (by omega)
  have d27 : ∀ x, r05_down (n64 x) 27 = some (n64 (x >>> 27)) := fun x => r05_down_eq x 27 (by omega)
  have d31 : ∀ x, r05_down (n64 x) 31 = some (n64 (x >>> 31)) := fun x => r05_down_eq x 31 (by omega)
  simp only [r05_Mix_b, d30, Option.bind_some, xor_n64, mulc1, d27, mulc2, d31, mixB])
def stepB (n : BitVec 64) (c : Nat) : BitVec 64 := (n ^^^ BitVec.ofNat 64 c) * 1099511628211#64
theorem step_n64 (n : BitVec 64) (c : Nat) : Ops.std.imul .u64 (Ops.std.ibit .xor .u64 (n64 n) (Ops.std.iwrap .u64 (c : Int))) 1099511628211 = n64 (stepB n c) := by
  have e : Ops.std.iwrap .u64 (c : Int) = n64 (BitVec.ofNat 64 c) := wrap_nat c
  rw [e, xor_n64]
  exact mul_n64 _ 1099511628211#64
def iterB (f : BitVec 64 → Nat → BitVec 64) : Nat → Nat → BitVec 64 → BitVec 64
  | 0, _, x => x
  | d + 1, i, x => iterB f d (i + 1) (f x i)
theorem iterB_0 (f : BitVec 64 → Nat → BitVec 64) (i : Nat) (x : BitVec 64) : iterB f 0 i x = x := rfl
theorem iterB_s (f : BitVec 64 → Nat → BitVec 64) (d i : Nat) (x : BitVec 64) : iterB f (d + 1) i x = iterB f d (i + 1) (f x i) := rfl
def sumB (s : ByteArray) (d i : Nat) (x : BitVec 64) : BitVec 64 := iterB (fun x i => stepB x (byt s i)) d i x
theorem sumB_0 (s : ByteArray) (i : Nat) (x : BitVec 64) : sumB s 0 i x = x := iterB_0 _ i x
theorem sumB_s (s : ByteArray) (d i : Nat) (x : BitVec 64) : sumB s (d + 1) i x = sumB s d (i + 1) (stepB x (byt s i)) := iterB_s (fun x i => stepB x (byt s i)) d i x
theorem sum_loops {s : ByteArray} (hs : s.size < 4611686018427387904) (k : Nat) : ∀ (i : Nat) (n : BitVec 64), i + k = s.size → hash_Sum_l0 s (n64 n) (i : Int) = some (n64 (sumB s k i n)) ∧ r05_Sum_l0 s (n64 n) (i : Int) = some (n64 (sumB s k i n)) := by
  induction k with
  | zero =>
    intro i n h
    have e : Ops.std.ilt (i : Int) (Ops.std.slen s) = false := iltF (by rw [slen_nat]; omega)
    refine ⟨hash_Sum_l0_r ?_, r05_Sum_l0_r ?_⟩
    · rw [hash_Sum_l0_b, e, cond_false, sumB_0]
    · rw [r05_Sum_l0_b, e, cond_false, sumB_0]
  | succ k ih =>
    intro i n h
    have e : Ops.std.ilt (i : Int) (Ops.std.slen s) = true := iltT (by rw [slen_nat]; omega)
    have g := xsget_nat (s := s) (i := i) (by omega)
    have a : Ops.std.iadd .i64 (i : Int) 1 = ((i + 1 : Nat) : Int) := iadd1 (by omega)
    have ih := ih (i + 1) (stepB n (byt s i)) (by omega)
    refine ⟨hash_Sum_l0_r ?_, r05_Sum_l0_r ?_⟩
    · rw [hash_Sum_l0_b, e, g, a, cond_true, Option.bind_some, step_n64, sumB_s]; exact ih.1
    · rw [r05_Sum_l0_b, e, g, a, cond_true, Option.bind_some, step_n64, sumB_s]; exact ih.2
def basis : BitVec 64 := 14695981039346656037#64
theorem basis_n64 : n64 basis = 14695981039346656037 := rfl
theorem sum_both {s : ByteArray} (hs : s.size < 4611686018427387904) : hash_Sum s = some (n64 (sumB s s.size 0 basis)) ∧ r05_Sum s = some (n64 (sumB s s.size 0 basis)) := by
  have h := sum_loops hs s.size 0 basis (by omega)
  rw [basis_n64] at h
  exact ⟨hash_Sum_r h.1, r05_Sum_r h.2⟩
def placeB (s : ByteArray) : BitVec 64 := mixB (sumB s s.size 0 basis)
def hplace (s : ByteArray) : Int := n64 (placeB s)
theorem hplace_rng (s : ByteArray) : 0 ≤ hplace s ∧ hplace s < 18446744073709551616 := n64_rng _
theorem hash_Place_eq {s : ByteArray} (hs : s.size < 4611686018427387904) : hash_Place s = some (hplace s) := hash_Place_r (by
  rw [hash_Place_b, (sum_both hs).1, Option.bind_some, hash_Mix_eq]; rfl)
theorem r05_Place_eq {s : ByteArray} (hs : s.size < 4611686018427387904) : r05_Place s = some (hplace s) := r05_Place_r (by
  rw [r05_Place_b, (sum_both hs).2, Option.bind_some, r05_Mix_eq]; rfl)
def upto (a x b : Int) : Bool := decide (a = b) || (decide (x = b) || (decide (x ≠ a) && decide ((x - a) % 18446744073709551616 < (b - a) % 18446744073709551616)))
theorem isub_u64 (a b : Int) : Ops.std.isub .u64 a b = (a - b) % 18446744073709551616 := u64_wrap _
theorem ring_Upto_eq (a x b : Int) : ring_Upto a x b = some (upto a x b) := ring_Upto_r (by
  have hd : ∀ u v, ring_Dist u v = some ((v - u) % 18446744073709551616) := fun u v => ring_Dist_r (by rw [ring_Dist_b, isub_u64])
  have hb : a ≠ b → ring_Between a x b = some (decide (x ≠ a) && decide ((x - a) % 18446744073709551616 < (b - a) % 18446744073709551616)) := fun h => ring_Between_r (by
    simp only [ring_Between_b, hd, Option.bind_some, ieq_dec, ilt_dec, decide_eq_false h, cond_false, bif_dec]
    by_cases hx : x = a <;> simp [hx])
  simp only [ring_Upto_b, ieq_dec, bif_dec, upto]
  by_cases h1 : a = b
  · simp [h1]
  · by_cases h2 : x = b
    · simp [h1, h2]
    · simp [h1, h2, hb h1])
theorem r03_Upto_eq {a x b : Int} (ha : 0 ≤ a ∧ a < 18446744073709551616) (hx : 0 ≤ x ∧ x < 18446744073709551616) (hb : 0 ≤ b ∧ b < 18446744073709551616) : r03_Upto a x b = some (upto a x b) := r03_Upto_r (by
  simp only [r03_Upto_b, ilt_dec, ile_dec, bif_dec, upto]
  split
  · split
    · rename_i h1 h2
      congr 1
      rw [decide_eq_false (by omega : ¬ a = b), Bool.false_or, Bool.eq_iff_iff]
      simp only [decide_eq_true_eq, Bool.or_eq_true, Bool.and_eq_true]
      omega
    · rename_i h1 h2
      congr 1
      rw [decide_eq_false (by omega : ¬ a = b), Bool.false_or]
      symm
      rw [Bool.eq_false_iff]
      intro h
      simp only [decide_eq_true_eq, Bool.or_eq_true, Bool.and_eq_true] at h
      omega
  · split
    · split
      · rename_i h1 h2 h3
        congr 1
        symm
        simp only [decide_eq_true_eq, Bool.or_eq_true, Bool.and_eq_true]
        omega
      · rename_i h1 h2 h3
        congr 1
        rw [Bool.eq_iff_iff]
        simp only [decide_eq_true_eq, Bool.or_eq_true, Bool.and_eq_true]
        omega
    · congr 1
      symm
      simp only [decide_eq_true_eq, Bool.or_eq_true, Bool.and_eq_true]
      omega)
theorem byt_list {s : ByteArray} {i : Nat} (h : i < s.size) : ∃ x, s.data.toList.drop i = x :: s.data.toList.drop (i + 1) ∧ byt s i = x.toNat := by
  have hl : i < s.data.toList.length := by simpa using h
  refine ⟨s.data.toList[i], List.drop_eq_getElem_cons hl, ?_⟩
  unfold byt
  congr 1
  cases s with
  | mk d =>
    show d[i]! = _
    rw [Array.getElem_toList]
    exact getElem!_pos d i (by simpa using hl)
theorem less_cons (x y : UInt8) (a b : List UInt8) : Op.bytesLess (x :: a) (y :: b) = (decide (x.toNat < y.toNat) || (decide (x.toNat = y.toNat) && Op.bytesLess a b)) := by
  show (decide (x < y) || (x == y && Op.bytesLess a b)) = _
  have e : (x == y) = decide (x.toNat = y.toNat) := by
    rw [Bool.eq_iff_iff, beq_iff_eq, decide_eq_true_eq]
    exact ⟨fun h => by rw [h], fun h => UInt8.toNat_inj.1 h⟩
  rw [e]
  rfl
theorem less_loop {a b : ByteArray} (ha : a.size < 4611686018427387904) : ∀ (k i : Nat), i + k = a.size → i ≤ b.size → ∃ r, r11_Less_l1 a b (i : Int) = some r ∧ (match r with | .inl t => t | .inr _ => Ops.std.ilt (Ops.std.slen a) (Ops.std.slen b)) = Op.bytesLess (a.data.toList.drop i) (b.data.toList.drop i)
  | 0, i, h, hi => by
    refine ⟨.inr (), r11_Less_l1_r ?_, ?_⟩
    · have e : Ops.std.ilt (i : Int) (Ops.std.slen a) = false := iltF (by rw [slen_nat]; omega)
      rw [r11_Less_l1_b, e]; rfl
    · rw [List.drop_of_length_le (by simp; omega : a.data.toList.length ≤ i)]
      show decide ((a.size : Int) < (b.size : Int)) = _
      by_cases hb : i < b.size
      · obtain ⟨y, hy, _⟩ := byt_list hb
        rw [hy, decide_eq_true (by omega)]; rfl
      · rw [List.drop_of_length_le (by simp; omega : b.data.toList.length ≤ i), decide_eq_false (by omega)]; rfl
  | k + 1, i, h, hi => by
    have e : Ops.std.ilt (i : Int) (Ops.std.slen a) = true := iltT (by rw [slen_nat]; omega)
    obtain ⟨x, hx, hxv⟩ := byt_list (s := a) (i := i) (by omega)
    by_cases hb : i < b.size
    · have e2 : Ops.std.ilt (i : Int) (Ops.std.slen b) = true := iltT (by rw [slen_nat]; omega)
      obtain ⟨y, hy, hyv⟩ := byt_list hb
      have g1 := xsget_nat (s := a) (i := i) (by omega)
      have g2 := xsget_nat hb
      have ad : Ops.std.iadd .i64 (i : Int) 1 = ((i + 1 : Nat) : Int) := iadd1 (by omega)
      rw [hx, hy, less_cons, ← hxv, ← hyv]
      by_cases he : byt a i = byt b i
      · obtain ⟨r, hr, hv⟩ := less_loop (a := a) (b := b) ha k (i + 1) (by omega) (by omega)
        have hs0 : r11_Less_s0 a b (i : Int) = some (.inl ((i + 1 : Nat) : Int)) := r11_Less_s0_r (by
          rw [r11_Less_s0_b, g1, g2, ad]
          simp only [Option.bind_some, ieqT (show (byt a i : Int) = byt b i by omega), cond_true])
        refine ⟨r, r11_Less_l1_r ?_, ?_⟩
        · rw [r11_Less_l1_b, e, e2, hs0]; exact hr
        · rw [hv, he]; simp
      · have hs0 : r11_Less_s0 a b (i : Int) = some (.inr (Ops.std.ilt (byt a i : Int) (byt b i : Int))) := r11_Less_s0_r (by
          rw [r11_Less_s0_b, g1, g2, ad]
          simp only [Option.bind_some, ieqF (show ¬ (byt a i : Int) = byt b i by omega), cond_false])
        refine ⟨.inl (Ops.std.ilt (byt a i : Int) (byt b i : Int)), r11_Less_l1_r ?_, ?_⟩
        · rw [r11_Less_l1_b, e, e2, hs0]; rfl
        · simp only [decide_eq_false he, Bool.false_and, Bool.or_false]
          exact decide_eq_decide.2 ⟨fun h => by omega, fun h => by omega⟩
    · have e2 : Ops.std.ilt (i : Int) (Ops.std.slen b) = false := iltF (by rw [slen_nat]; omega)
      refine ⟨.inr (), r11_Less_l1_r (by rw [r11_Less_l1_b, e, e2]; rfl), ?_⟩
      rw [hx, List.drop_of_length_le (by simp; omega : b.data.toList.length ≤ i)]
      show decide ((a.size : Int) < (b.size : Int)) = _
      rw [decide_eq_false (by omega)]; rfl
def lt (a b : ByteArray) : Bool := Op.bytesLess a.data.toList b.data.toList
theorem slt_lt (a b : ByteArray) : Ops.std.slt a b = lt a b := rfl
theorem r11_Less_eq {a b : ByteArray} (ha : a.size < 4611686018427387904) : r11_Less a b = some (lt a b) := r11_Less_r (by
  obtain ⟨r, hr, hv⟩ := less_loop (a := a) (b := b) ha a.size 0 (by omega) (by omega)
  have hr' : r11_Less_l1 a b 0 = some r := hr
  rw [r11_Less_b, hr', Option.bind_some]
  rw [List.drop_zero, List.drop_zero] at hv
  unfold lt
  rw [← hv]
  cases r <;> rfl)
theorem less_trans : ∀ {a b c : List UInt8}, Op.bytesLess a b = true → Op.bytesLess b c = true → Op.bytesLess a c = true
  | _, [], _, h, _ => by simp [Op.bytesLess] at h
  | _, _ :: _, [], _, h => by simp [Op.bytesLess] at h
  | [], _ :: _, _ :: _, _, _ => rfl
  | x :: a, y :: b, z :: c, h, h2 => by
    rw [less_cons, Bool.or_eq_true, Bool.and_eq_true, decide_eq_true_eq, decide_eq_true_eq] at h h2 ⊢
    rcases h with h | ⟨h, h'⟩
    · rcases h2 with h2 | ⟨h2, _⟩
      · exact .inl (by omega)
      · exact .inl (by omega)
    · rcases h2 with h2 | ⟨h2, h2'⟩
      · exact .inl (by omega)
      · exact .inr ⟨by omega, less_trans h' h2'⟩
theorem less_total : ∀ {a b : List UInt8}, Op.bytesLess a b = false → a ≠ b → Op.bytesLess b a = true
  | [], [], _, h => absurd rfl h
  | [], _ :: _, h, _ => by cases h
  | _ :: _, [], _, _ => rfl
  | x :: a, y :: b, h, hne => by
    rw [less_cons, Bool.or_eq_false_iff, Bool.and_eq_false_iff, decide_eq_false_iff_not, decide_eq_false_iff_not] at h
    rw [less_cons, Bool.or_eq_true, Bool.and_eq_true, decide_eq_true_eq, decide_eq_true_eq]
    by_cases hxy : x.toNat = y.toNat
    · refine .inr ⟨hxy.symm, less_total (h.2.resolve_left (fun h' => h' hxy)) (fun e => hne ?_)⟩
      rw [e, UInt8.toNat_inj.1 hxy]
    · exact .inl (by omega)
theorem lt_trans' {a b c : ByteArray} (h : lt a b = true) (h2 : lt b c = true) : lt a c = true := less_trans h h2
theorem lt_total {a b : ByteArray} (h : lt a b = false) (hne : a ≠ b) : lt b a = true := less_total h (fun e => hne (by
  cases a with | mk a => cases b with | mk b => exact congrArg ByteArray.mk (Array.toList_inj.1 e)))
end Go.Ab.Tryd
namespace Go.Ab.Tryd
open Go Go.Ab Go.Proofs Go.Lib
set_option linter.unusedVariables false
set_option linter.unusedSimpArgs false
theorem r08_Pairs_eq {a b : List Pair} (hl : a.length ≤ 1000000) : r08_Pairs a b = some (eqb a b) := r08_Pairs_r (by
  rw [r08_Pairs_b, xlen_eq, xlen_eq]
  by_cases he : a.length = b.length
  · have h := same_list ePair (l := a) (l' := b) (by omega) he (L := fun i => r08_Pairs_l0 a b i) (fun h => r08_Pairs_l0_r (by simp [r08_Pairs_l0_b, h]))
      (fun n x r _ h1 h2 h3 h => r08_Pairs_l0_r (by simp [r08_Pairs_l0_b, h1, h2, h3, seq_self]; exact h))
      (fun n x y _ h1 h2 h3 h => r08_Pairs_l0_r (by
        simp only [r08_Pairs_l0_b, h1, h2, h3, seq_dec, bif_dec, cond_true, Option.bind_some]
        rw [ne_eq, Pair.ext'] at h
        split
        · split
          · exact absurd ⟨‹_›, ‹_›⟩ h
          · rfl
        · rfl))
    rw [ieqT (by omega), cond_true]
    rcases h with ⟨h1, h2⟩ | ⟨h1, h2⟩
    · rw [h2, h1, eqb_self] <;> rfl
    · rw [h2, eqb_ne h1] <;> rfl
  · rw [ieqF (by omega), eqb_ne (fun h => he (by rw [h]))] <;> rfl)
def isAt (key : ByteArray) (p : Pair) : Bool := Ops.std.seq p.key key
theorem isAt_iff {key : ByteArray} {p : Pair} : isAt key p = true ↔ p.key = key := seq_iff
theorem isAt_ne {key : ByteArray} {p : Pair} : isAt key p = false ↔ p.key ≠ key := by
  rw [← Bool.not_eq_true, isAt_iff]
def pl (l : List Pair) (key : ByteArray) : Int := fstI (isAt key) l
theorem place_both {l : List Pair} {key : ByteArray} (hl : l.length ≤ 1000) : store_place l key = some (pl l key) ∧ r29_place l key = some (pl l key) := by
  have e1 := find_list ePair (l := l) (by omega) (p := isAt key) (L := fun i => IndexFunc_Pair_2_l0 l key i) (fun h => IndexFunc_Pair_2_l0_r (by simp [IndexFunc_Pair_2_l0_b, h]))
    (fun n x _ h1 h2 hp => IndexFunc_Pair_2_l0_r (by
      have : store_place_1 x key = some (isAt key x) := store_place_1_r rfl
      simp [IndexFunc_Pair_2_l0_b, h1, h2, this, hp]))
    (fun n x r _ h1 h2 hp h => IndexFunc_Pair_2_l0_r (by
      have : store_place_1 x key = some (isAt key x) := store_place_1_r rfl
      simp [IndexFunc_Pair_2_l0_b, h1, h2, this, hp]; exact h))
  have e0 := find_list ePair (l := l) (by omega) (p := isAt key) (L := fun i => r29_place_l0 l key i) (fun h => r29_place_l0_r (by simp [r29_place_l0_b, h]))
    (fun n x _ h1 h2 hp => r29_place_l0_r (by
      have : Ops.std.seq x.key key = true := hp
      simp [r29_place_l0_b, h1, h2, this]))
    (fun n x r _ h1 h2 hp h => r29_place_l0_r (by
      have : Ops.std.seq x.key key = false := hp
      simp [r29_place_l0_b, h1, h2, this]; exact h))
  refine ⟨store_place_r (IndexFunc_Pair_2_r ?_), r29_place_r ?_⟩
  · rw [IndexFunc_Pair_2_b, e1]; unfold pl fstI; cases fst (isAt key) l <;> rfl
  · rw [r29_place_b, e0]; unfold pl fstI; cases fst (isAt key) l <;> rfl
def getP (l : List Pair) (key : ByteArray) : ByteArray × Bool := match l.find? (isAt key) with
  | some x => (x.val, true)
  | none => (⟨#[]⟩, false)
theorem fst_find {p : Pair → Bool} : ∀ {l : List Pair}, match fst p l with
    | some n => ∃ x, l[n]? = some x ∧ l.find? p = some x ∧ p x = true ∧ n < l.length
    | none => l.find? p = none
  | [] => rfl
  | x :: l => by
    have ih := fst_find (p := p) (l := l)
    rw [fst, List.find?_cons]
    cases h : p x with
    | true => exact ⟨x, rfl, rfl, h, by simp⟩
    | false =>
      cases hf : fst p l with
      | none => rw [hf] at ih; exact ih
      | some n =>
        rw [hf] at ih
        obtain ⟨y, h1, h2, h3, h4⟩ := ih
        exact ⟨y, by simpa using h1, h2, h3, by simp; omega⟩
theorem get_both {l : List Pair} {key : ByteArray} (hl : l.length ≤ 1000) : store_Get l key = some (getP l key) ∧ r29_Get l key = some (getP l key) := by
  have h := fst_find (p := isAt key) (l := l)
  have h1 : store_Get_b l key = some (getP l key) ∧ r29_Get_b l key = some (getP l key) := by
    rw [store_Get_b, r29_Get_b, (place_both hl).1, (place_both hl).2, Option.bind_some]
    unfold pl fstI getP
    cases hf : fst (isAt key) l with
    | none =>
      rw [hf] at h
      simp only [h, iltT (show (-1 : Int) < 0 by omega), cond_true, and_self]
    | some n =>
      rw [hf] at h
      obtain ⟨x, h1, h2, h3, h4⟩ := h
      simp only [h2, iltF (show ¬ (n : Int) < 0 by omega), cond_false, xget_nat, h1, Option.bind_some, and_self]
  exact ⟨store_Get_r h1.1, r29_Get_r h1.2⟩
def isUp (key : ByteArray) (p : Pair) : Bool := lt key p.key
def setP (key val : ByteArray) : List Pair → List Pair
  | [] => []
  | x :: l => bif isAt key x then ⟨x.key, val⟩ :: l else x :: setP key val l
def insP (key val : ByteArray) : List Pair → List Pair
  | [] => [⟨key, val⟩]
  | x :: l => bif isUp key x then ⟨key, val⟩ :: x :: l else x :: insP key val l
def put (l : List Pair) (key val : ByteArray) : List Pair × Int :=
  bif isKey key then
    (if 512 < val.size then (l, 5) else
    if 0 ≤ pl l key then (setP key val l, 0) else
    if 64 ≤ l.length then (l, 10) else (insP key val l, 0))
  else (l, 7)
theorem setP_at {key val : ByteArray} : ∀ {l : List Pair} {n : Nat} {x : Pair}, fst (isAt key) l = some n → l[n]? = some x → l.set n ⟨x.key, val⟩ = setP key val l
  | [], n, x, h, _ => by cases h
  | y :: l, n, x, h, hx => by
    rw [fst] at h
    rw [setP]
    cases hy : isAt key y with
    | true =>
      rw [hy] at h
      cases h
      cases hx
      rfl
    | false =>
      rw [hy, cond_false] at h
      cases hf : fst (isAt key) l with
      | none => rw [hf] at h; cases h
      | some m =>
        rw [hf] at h
        cases h
        rw [cond_false, ← setP_at hf (by simpa using hx)]
        rfl
theorem insP_split (key val : ByteArray) (l : List Pair) : insP key val l = match fst (isUp key) l with | some n => l.take n ++ ⟨key, val⟩ :: l.drop n | none => l ++ [⟨key, val⟩] := by
  induction l with
  | nil => rfl
  | cons x l ih =>
    rw [insP, fst]
    cases isUp key x with
    | true => rfl
    | false =>
      rw [cond_false, cond_false, ih]
      cases fst (isUp key) l with
      | none => rfl
      | some n => simp
theorem insP_len (key val : ByteArray) (l : List Pair) : (insP key val l).length = l.length + 1 := by
  induction l with
  | nil => rfl
  | cons x l ih => rw [insP]; cases isUp key x <;> simp [ih]
theorem setP_len (key val : ByteArray) (l : List Pair) : (setP key val l).length = l.length := by
  induction l with
  | nil => rfl
  | cons x l ih => rw [setP]; cases isAt key x <;> simp [ih]
theorem put_len (l : List Pair) (key val : ByteArray) : (put l key val).1.length ≤ max l.length 64 := by
  unfold put
  cases isKey key
  · exact Nat.le_max_left _ _
  · rw [cond_true]
    split
    · exact Nat.le_max_left _ _
    · split
      · rw [setP_len]; exact Nat.le_max_left _ _
      · split
        · exact Nat.le_max_left _ _
        · rw [insP_len]; omega
theorem xsub_take (l : List Pair) (n : Nat) (h : n ≤ l.length) : xsub ePair l 0 (n : Int) = some (l.take n) := by
  rw [xsub_eq, if_pos (by omega)]; simp
theorem xsub_drop (l : List Pair) (n : Nat) (h : n ≤ l.length) : xsub ePair l (n : Int) (xlen ePair l) = some (l.drop n) := by
  rw [xsub_eq, xlen_eq, if_pos (by omega)]; simp
theorem IndexFunc_up {l : List Pair} {key : ByteArray} (hl : l.length ≤ 1000) : IndexFunc_Pair l key = some (fstI (isUp key) l) := IndexFunc_Pair_r (by
  have hc : ∀ x, store_Put_1 x key = some (isUp key x) := fun x => store_Put_1_r rfl
  have h := find_list ePair (l := l) (by omega) (p := isUp key) (L := fun i => IndexFunc_Pair_l0 l key i) (fun h => IndexFunc_Pair_l0_r (by simp [IndexFunc_Pair_l0_b, h]))
    (fun n x _ h1 h2 hp => IndexFunc_Pair_l0_r (by simp [IndexFunc_Pair_l0_b, h1, h2, hc, hp]))
    (fun n x r _ h1 h2 hp h => IndexFunc_Pair_l0_r (by simp [IndexFunc_Pair_l0_b, h1, h2, hc, hp]; exact h))
  rw [IndexFunc_Pair_b, h]
  unfold fstI
  cases fst (isUp key) l <;> rfl)
theorem store_Put_s0_eq {l : List Pair} {key val : ByteArray} (hl : l.length ≤ 1000) : store_Put_s0 l key val = some (insP key val l) := store_Put_s0_r (by
  have hroom : xroom ePair 32 l [⟨key, val⟩] = true := xroom_eq ePair (by simp; omega) (by omega)
  have h0 : xsub ePair l 0 (xlen ePair l) = some l := by
    rw [xlen_eq, xsub_take l l.length (Nat.le_refl _), List.take_length]
  have h1 : xsub ePair l (xlen ePair l) (xlen ePair l) = some [] := by
    have := xsub_drop l l.length (Nat.le_refl _)
    rw [xlen_eq] at this ⊢
    rw [this, List.drop_length]
  rw [store_Put_s0_b, IndexFunc_up hl, Option.bind_some, hroom, insP_split]
  have h := fst_find (p := isUp key) (l := l)
  unfold fstI
  cases hf : fst (isUp key) l with
  | none => simp only [iltT (show (-1 : Int) < 0 by omega), cond_true, h0, h1, Option.bind_some]; simp
  | some n =>
    rw [hf] at h
    obtain ⟨x, hx, _, _, hn⟩ := h
    simp only [iltF (show ¬ (n : Int) < 0 by omega), cond_false, cond_true, xsub_take l n (by omega), xsub_drop l n (by omega), Option.bind_some]; simp)
theorem pl_cases (l : List Pair) (key : ByteArray) : (pl l key = -1 ∧ fst (isAt key) l = none ∧ l.find? (isAt key) = none) ∨ ∃ n x, pl l key = (n : Nat) ∧ fst (isAt key) l = some n ∧ l[n]? = some x ∧ n < l.length ∧ l.find? (isAt key) = some x := by
  have h := fst_find (p := isAt key) (l := l)
  unfold pl fstI
  cases hf : fst (isAt key) l with
  | none => rw [hf] at h; exact .inl ⟨rfl, rfl, h⟩
  | some n =>
    rw [hf] at h
    obtain ⟨x, h1, h2, h3, h4⟩ := h
    exact .inr ⟨n, x, rfl, rfl, h1, h4, h2⟩
theorem ile_0 {a : Int} : Ops.std.ile 0 a = decide (0 ≤ a) := rfl
theorem store_Put_eq {l : List Pair} {key val : ByteArray} (hl : l.length ≤ 1000) (hk : key.size < 1000000) : store_Put l key val = some (put l key val) := store_Put_r (by
  have hroom : xroom ePair 32 [] l = true := xroom_eq ePair (by simp; omega) (by omega)
  rw [store_Put_b, hroom, cond_true, (place_both hl).1, Option.bind_some, msg_Key_eq hk, Option.bind_some]
  unfold put
  cases isKey key with
  | false => rfl
  | true =>
    rw [cond_true, cond_true, slen_nat, ilt_dec, bif_dec]
    by_cases h5 : 512 < val.size
    · rw [if_pos h5, if_pos (by omega)]
    · rw [if_neg h5, if_neg (by omega), ile_0, bif_dec]
      rcases pl_cases l key with ⟨hp, hf, _⟩ | ⟨n, x, hp, hf, hx, hn, _⟩
      · rw [hp, if_neg (by omega), if_neg (by omega), xlen_eq, ile_dec, bif_dec]
        by_cases h64 : 64 ≤ l.length
        · rw [if_pos h64, if_pos (by omega)]
        · rw [if_neg h64, if_neg (by omega), store_Put_s0_eq hl]; rfl
      · rw [hp, if_pos (by omega), if_pos (by omega), xget_nat, hx, Option.bind_some]
        congr 2
        exact setP_at hf hx)
theorem r29_Put_l0_eq {l : List Pair} {key val : ByteArray} (hl : l.length ≤ 1000) (hk : key.size < 1000000) : r29_Put_l0 l key val 0 = some (match fst (isUp key) l with | some n => (n : Int) | none => (l.length : Int)) := by
  have hc : ∀ x : Pair, r11_Less key x.key = some (isUp key x) := fun x => r11_Less_eq (by omega)
  have := for_list (σ := Unit) ePair (l := l) (by omega) (L := fun i _ => r29_Put_l0 l key val i) (res := fun n _ rest => match fst (isUp key) rest with | some m => ((n + m : Nat) : Int) | none => ((n + rest.length : Nat) : Int)) (Inv := fun _ _ => True)
    (fun _ _ h => r29_Put_l0_r (by rw [r29_Put_l0_b, h]; rfl))
    (fun n x rest s _ hn hx hd h1 h2 h3 ih => r29_Put_l0_r (by
      rw [r29_Put_l0_b, h1, h2, cond_true, Option.bind_some, hc, Option.bind_some, fst]
      cases hp : isUp key x with
      | true => rfl
      | false =>
        rw [cond_false, h3, cond_false]
        have := ih () trivial
        rw [this]
        cases fst (isUp key) rest with
        | none => simp only [Option.map_none, List.length_cons]; congr 1; omega
        | some m => simp only [Option.map_some]; congr 1; omega)) () trivial
  rw [this]
  cases fst (isUp key) l <;> simp
theorem r29_Put_eq {l : List Pair} {key val : ByteArray} (hl : l.length ≤ 1000) (hk : key.size < 1000000) : r29_Put l key val = some (put l key val) := r29_Put_r (by
  have hroom : xroom ePair 32 [] l = true := xroom_eq ePair (by simp; omega) (by omega)
  rw [r29_Put_b, r08_Key_eq hk, Option.bind_some]
  unfold put
  cases isKey key with
  | false => rfl
  | true =>
    rw [cond_true, cond_true, slen_nat, ilt_dec, bif_dec]
    by_cases h5 : 512 < val.size
    · rw [if_pos h5, if_pos (by omega)]
    · rw [if_neg h5, if_neg (by omega), (place_both hl).2, Option.bind_some, ile_0, bif_dec]
      rcases pl_cases l key with ⟨hp, hf, _⟩ | ⟨n, x, hp, hf, hx, hn, _⟩
      · rw [hp, if_neg (by omega), if_neg (by omega), xlen_eq, ilt_dec, bif_dec]
        by_cases h64 : 64 ≤ l.length
        · rw [if_pos h64, if_pos (by omega)]
        · rw [if_neg h64, if_neg (by omega), r29_Put_l0_eq hl hk, Option.bind_some]
          have key2 : ∀ n : Nat, n ≤ l.length → ((xsub ePair l 0 (n : Int)).bind fun ys => bif xroom ePair 32 [] ys then (bif xroom ePair 32 ys [(⟨key, val⟩ : Pair)] then (xsub ePair l (n : Int) (xlen ePair l)).bind fun ys1 => bif xroom ePair 32 (ys ++ [(⟨key, val⟩ : Pair)]) ys1 then some (((ys ++ [(⟨key, val⟩ : Pair)]) ++ ys1), (0 : Int)) else none else none) else none) = some (l.take n ++ ⟨key, val⟩ :: l.drop n, 0) := fun n hn => by
            rw [xsub_take l n hn, Option.bind_some, xroom_eq ePair (by simp; omega) (by omega), cond_true, xroom_eq ePair (by simp; omega) (by omega), cond_true, xsub_drop l n hn, Option.bind_some, xroom_eq ePair (by simp; omega) (by omega), cond_true]
            simp
          rw [insP_split]
          have h := fst_find (p := isUp key) (l := l)
          rw [xlen_eq] at key2
          cases hf2 : fst (isUp key) l with
          | none =>
            have := key2 l.length (Nat.le_refl _)
            rw [List.take_length, List.drop_length] at this
            simp only []
            exact this
          | some n =>
            rw [hf2] at h
            obtain ⟨x, hx, _, _, hn⟩ := h
            exact key2 n (by omega)
      · rw [hp, if_pos (by omega), if_pos (by omega), hroom, cond_true, xget_nat, hx, Option.bind_some]
        congr 2
        exact setP_at hf hx)
end Go.Ab.Tryd
namespace Go.Ab.Tryd
open Go Go.Ab Go.Proofs Go.Lib
set_option linter.unusedVariables false
set_option linter.unusedSimpArgs false
def mer : List Pair → Int → List Pair → List Pair × Int
  | l, met, [] => (l, met)
  | l, met, x :: r => if 0 ≤ pl l x.key then mer l met r else if (put l x.key x.val).2 = 0 then mer (put l x.key x.val).1 met r else mer l (put l x.key x.val).2 r
def Keys (l : List Pair) : Prop := ∀ p, p ∈ l → p.key.size < 1000000
theorem put_bad {l : List Pair} {key val : ByteArray} (h : (put l key val).2 ≠ 0) : (put l key val).1 = l := by
  unfold put at h ⊢
  cases hk : isKey key
  · rfl
  · rw [hk, cond_true] at h
    rw [cond_true]
    split
    · rfl
    · split
      · rename_i h1 h2
        rw [if_neg h1, if_pos h2] at h
        exact absurd rfl h
      · split
        · rfl
        · rename_i h1 h2 h3
          rw [if_neg h1, if_neg h2, if_neg h3] at h
          exact absurd rfl h
theorem r29_Merge_l0_eq {more : List Pair} (hm : more.length ≤ 1000) (hk : Keys more) {l : List Pair} {met : Int} (hl : l.length ≤ 200) : r29_Merge_l0 more l met 0 = some (mer l met more) := by
  have := for_list (σ := List Pair × Int) ePair (l := more) (by omega) (L := fun i s => r29_Merge_l0 more s.1 s.2 i) (res := fun n s rest => mer s.1 s.2 rest) (Inv := fun _ s => s.1.length ≤ 200)
    (fun s _ h => r29_Merge_l0_r (by rw [r29_Merge_l0_b, h]; rfl))
    (fun n x rest s hi hn hx hd h1 h2 h3 ih => r29_Merge_l0_r (by
      have hxk := hk x (List.mem_of_getElem? hx)
      rw [r29_Merge_l0_b, h1, h2, cond_true, Option.bind_some, (place_both (by omega)).2, Option.bind_some, mer, h3, ilt_dec, bif_dec]
      by_cases hp : 0 ≤ pl s.1 x.key
      · rw [if_neg (by omega), if_pos hp]; exact ih s hi
      · rw [if_pos (by omega), if_neg hp, r29_Put_eq (by omega) hxk, Option.bind_some]
        have hle := put_len s.1 x.key x.val
        have hbad := put_bad (l := s.1) (key := x.key) (val := x.val)
        obtain ⟨⟨q, e⟩, hq⟩ : ∃ z, put s.1 x.key x.val = z := ⟨_, rfl⟩
        rw [hq] at hle hbad ⊢
        dsimp only at hle hbad ⊢
        by_cases he : e = 0
        · rw [if_pos he, ieqT he, cond_true]
          exact ih (q, s.2) (by show q.length ≤ 200; omega)
        · rw [if_neg he, ieqF he, cond_false, hbad he]
          exact ih (s.1, e) hi)) (l, met) hl
  exact this
theorem r29_Merge_eq {l more : List Pair} (hl : l.length ≤ 200) (hm : more.length ≤ 1000) (hk : Keys more) : r29_Merge l more = some (mer l 0 more) := r29_Merge_r (r29_Merge_l0_eq hm hk hl)
theorem store_Merge_l1_from {l more : List Pair} (hm : more.length ≤ 1000) (hk : Keys more) : ∀ (k n : Nat), n + k = more.length → ∀ (out : List Pair) (met : Int), out.length ≤ 200 → store_Merge_l0_1 l more out met (n : Int) = some (.inr (.inl (mer out met (more.drop n)))) := by
  intro k
  induction k with
  | zero =>
    intro n hn out met ho
    obtain rfl : n = more.length := by omega
    have : Ops.std.ilt (more.length : Int) (xlen ePair more) = false := by rw [ilt_len]; simp
    exact store_Merge_l0_1_r (by rw [store_Merge_l0_1_b, this, List.drop_length]; rfl)
  | succ k ih =>
    intro n hn out met ho
    have hlt : n < more.length := by omega
    have h1 : Ops.std.ilt (n : Int) (xlen ePair more) = true := by rw [ilt_len]; simp [hlt]
    have h2 : xget ePair more (n : Int) = some more[n] := by rw [xget_nat]; exact List.getElem?_eq_getElem hlt
    have h3 : Ops.std.iadd .i64 (n : Int) 1 = ((n + 1 : Nat) : Int) := iadd1 (by omega)
    have hxk := hk more[n] (List.getElem_mem hlt)
    have hle := put_len out more[n].key more[n].val
    refine store_Merge_l0_1_r ?_
    rw [store_Merge_l0_1_b, h1, h2, cond_true, Option.bind_some, (place_both (l := out) (by omega)).1, Option.bind_some, List.drop_eq_getElem_cons hlt, mer, h3, ile_0, bif_dec]
    by_cases hp : 0 ≤ pl out more[n].key
    · rw [if_pos hp, if_pos hp]; exact ih (n + 1) (by omega) out met ho
    · rw [if_neg hp, if_neg hp, store_Put_eq (l := out) (by omega) hxk, Option.bind_some]
      obtain ⟨⟨q, e⟩, hq⟩ : ∃ z, put out more[n].key more[n].val = z := ⟨_, rfl⟩
      rw [hq] at hle ⊢
      dsimp only at hle ⊢
      by_cases he : e = 0
      · rw [ieqT he, cond_true, if_pos he]; exact ih (n + 1) (by omega) _ met (by omega)
      · rw [ieqF he, cond_false, if_neg he]; exact ih (n + 1) (by omega) out _ ho
def un (l : List Pair) : Unit ⊕ (((List Pair) × Int) ⊕ Int) → List Pair × Int
  | .inl () => (l, 0)
  | .inr (.inl r) => r
  | .inr (.inr met) => (l, met)
theorem store_Merge_l2_from {l more : List Pair} (hl : l.length ≤ 200) (hm : more.length ≤ 1000) (hk : Keys more) : ∀ (k n : Nat), n + k = more.length → ∀ (met : Int), ∃ r, store_Merge_l0_2 l more met (n : Int) = some r ∧ un l r = mer l met (more.drop n) := by
  intro k
  induction k with
  | zero =>
    intro n hn met
    obtain rfl : n = more.length := by omega
    have : Ops.std.ilt (more.length : Int) (xlen ePair more) = false := by rw [ilt_len]; simp
    exact ⟨.inr (.inr met), store_Merge_l0_2_r (by rw [store_Merge_l0_2_b, this]; rfl), by rw [List.drop_length]; rfl⟩
  | succ k ih =>
    intro n hn met
    have hlt : n < more.length := by omega
    have h1 : Ops.std.ilt (n : Int) (xlen ePair more) = true := by rw [ilt_len]; simp [hlt]
    have h2 : xget ePair more (n : Int) = some more[n] := by rw [xget_nat]; exact List.getElem?_eq_getElem hlt
    have h3 : Ops.std.iadd .i64 (n : Int) 1 = ((n + 1 : Nat) : Int) := iadd1 (by omega)
    have hxk := hk more[n] (List.getElem_mem hlt)
    have hle := put_len l more[n].key more[n].val
    have hu := fun r => store_Merge_l0_2_r (l := l) (more := more) (met := met) (t16 := (n : Int)) (r := r)
    rw [store_Merge_l0_2_b, h1, h2, cond_true, Option.bind_some, (place_both (l := l) (by omega)).1, Option.bind_some, h3, ile_0, bif_dec] at hu
    rw [List.drop_eq_getElem_cons hlt, mer]
    by_cases hp : 0 ≤ pl l more[n].key
    · rw [if_pos hp] at hu ⊢
      obtain ⟨r, hr, hv⟩ := ih (n + 1) (by omega) met
      exact ⟨r, hu _ hr, hv⟩
    · rw [if_neg hp, store_Put_eq (l := l) (by omega) hxk, Option.bind_some] at hu
      rw [if_neg hp]
      obtain ⟨⟨q, e⟩, hq⟩ : ∃ z, put l more[n].key more[n].val = z := ⟨_, rfl⟩
      rw [hq] at hle hu ⊢
      dsimp only at hle hu ⊢
      by_cases he : e = 0
      · rw [ieqT he, cond_true] at hu
        rw [if_pos he]
        exact ⟨_, hu _ (store_Merge_l1_from hm hk k (n + 1) (by omega) q met (by omega)), rfl⟩
      · rw [ieqF he, cond_false] at hu
        rw [if_neg he]
        obtain ⟨r, hr, hv⟩ := ih (n + 1) (by omega) e
        exact ⟨r, hu _ hr, hv⟩
theorem store_Merge_l0_from {l more : List Pair} (hl : l.length ≤ 200) (hm : more.length ≤ 1000) (hk : Keys more) : ∀ (k n : Nat), n + k = more.length → ∃ r, store_Merge_l0 l more (n : Int) = some r ∧ un l r = mer l 0 (more.drop n) := by
  intro k
  induction k with
  | zero =>
    intro n hn
    obtain rfl : n = more.length := by omega
    have : Ops.std.ilt (more.length : Int) (xlen ePair more) = false := by rw [ilt_len]; simp
    exact ⟨.inl (), store_Merge_l0_r (by rw [store_Merge_l0_b, this]; rfl), by rw [List.drop_length]; rfl⟩
  | succ k ih =>
    intro n hn
    have hlt : n < more.length := by omega
    have h1 : Ops.std.ilt (n : Int) (xlen ePair more) = true := by rw [ilt_len]; simp [hlt]
    have h2 : xget ePair more (n : Int) = some more[n] := by rw [xget_nat]; exact List.getElem?_eq_getElem hlt
    have h3 : Ops.std.iadd .i64 (n : Int) 1 = ((n + 1 : Nat) : Int) := iadd1 (by omega)
    have hxk := hk more[n] (List.getElem_mem hlt)
    have hle := put_len l more[n].key more[n].val
    have hu := fun r => store_Merge_l0_r (l := l) (more := more) (t16 := (n : Int)) (r := r)
    rw [store_Merge_l0_b, h1, h2, cond_true, Option.bind_some, (place_both (l := l) (by omega)).1, Option.bind_some, h3, ile_0, bif_dec] at hu
    rw [List.drop_eq_getElem_cons hlt, mer]
    by_cases hp : 0 ≤ pl l more[n].key
    · rw [if_pos hp] at hu ⊢
      obtain ⟨r, hr, hv⟩ := ih (n + 1) (by omega)
      exact ⟨r, hu _ hr, hv⟩
    · rw [if_neg hp, store_Put_eq (l := l) (by omega) hxk, Option.bind_some] at hu
      rw [if_neg hp]
      obtain ⟨⟨q, e⟩, hq⟩ : ∃ z, put l more[n].key more[n].val = z := ⟨_, rfl⟩
      rw [hq] at hle hu ⊢
      dsimp only at hle hu ⊢
      by_cases he : e = 0
      · rw [ieqT he, cond_true] at hu
        rw [if_pos he]
        exact ⟨_, hu _ (store_Merge_l1_from hm hk k (n + 1) (by omega) q 0 (by omega)), rfl⟩
      · rw [ieqF he, cond_false] at hu
        rw [if_neg he]
        obtain ⟨r, hr, hv⟩ := store_Merge_l2_from hl hm hk k (n + 1) (by omega) e
        exact ⟨r, hu _ hr, hv⟩
theorem store_Merge_eq {l more : List Pair} (hl : l.length ≤ 200) (hm : more.length ≤ 1000) (hk : Keys more) : store_Merge l more = some (mer l 0 more) := store_Merge_r (by
  obtain ⟨r, hr, hu⟩ := store_Merge_l0_from hl hm hk more.length 0 (by omega)
  have hr' : store_Merge_l0 l more 0 = some r := hr
  rw [store_Merge_b, xroom_eq ePair (by simp; omega) (by omega), cond_true, hr', Option.bind_some]
  rw [List.drop_zero] at hu
  rw [← hu]
  rcases r with _ | ⟨_, _⟩ | _ <;> rfl)
theorem mer_len (more : List Pair) : ∀ (l : List Pair) (met : Int), (mer l met more).1.length ≤ max l.length 64 := by
  induction more with
  | nil => intro l met; exact Nat.le_max_left _ _
  | cons x r ih =>
    intro l met
    rw [mer]
    split
    · exact ih l met
    · split
      · have := ih (put l x.key x.val).1 met
        have := put_len l x.key x.val
        omega
      · exact ih l _
def rightAt (l : List Pair) (n : Nat) (x : Pair) : Bool := isKey x.key && (decide (x.val.size ≤ 512) && (match n with | 0 => true | k + 1 => match l[k]? with | some y => lt y.key x.key | none => true))
def rightB (l : List Pair) : Bool := allI (rightAt l) 0 l && decide (l.length ≤ 64)
theorem right_both {l : List Pair} (hl : l.length ≤ 1000) (hk : Keys l) : store_Right l = some (rightB l) ∧ r29_Right l = some (rightB l) := by
  have hprev : ∀ {k : Nat} {x : Pair}, l[k + 1]? = some x → ∃ y, l[k]? = some y ∧ xget ePair l (Ops.std.isub .i64 ((k + 1 : Nat) : Int) 1) = some y := fun {k x} hx => by
    have hk' : k < l.length := by have := (List.getElem?_eq_some_iff.1 hx).1; omega
    refine ⟨l[k], List.getElem?_eq_getElem hk', ?_⟩
    have := i64_sub (a := k + 1) (b := 1) (by omega) (by omega)
    rw [show ((1 : Nat) : Int) = 1 from rfl] at this
    rw [this, xget_nat, show k + 1 - 1 = k by omega]; exact List.getElem?_eq_getElem hk'
  have hb : ∀ (n : Nat) (x : Pair), l[n]? = some x → ∀ {β : Type} (a b : Option β), (bif isKey x.key then bif Ops.std.ilt 512 (Ops.std.slen x.val) then b else bif Ops.std.ilt 0 (n : Int) then (xget ePair l (Ops.std.isub .i64 (n : Int) 1)).bind fun x1 => bif lt x1.key x.key then a else b else a else b) = bif rightAt l n x then a else b := fun n x hx {β} a b => by
    unfold rightAt
    cases isKey x.key with
    | false => rfl
    | true =>
      rw [cond_true, Bool.true_and, slen_nat, ilt_dec, bif_dec]
      by_cases h5 : 512 < x.val.size
      · rw [if_pos (by omega), decide_eq_false (by omega)]; rfl
      · rw [if_neg (by omega), decide_eq_true (by omega), Bool.true_and]
        cases n with
        | zero => rfl
        | succ k =>
          obtain ⟨y, hy, hg⟩ := hprev hx
          rw [iltT (by omega), cond_true, hg, Option.bind_some]
          dsimp only
          rw [hy]
  have e1 := all_list ePair (l := l) (by omega) (p := rightAt l) (L := fun i => store_Right_l0 l i)
    (fun h => store_Right_l0_r (by simp [store_Right_l0_b, h]))
    (fun n x r hx h1 h2 hp h => store_Right_l0_r (by
      have := hb n x hx (store_Right_l0 l (Ops.std.iadd .i64 (n : Int) 1)) (some (.inl ()))
      rw [store_Right_l0_b, h1, h2, cond_true, Option.bind_some, msg_Key_eq (hk x (List.mem_of_getElem? hx)), Option.bind_some]
      simp only [slt_lt]
      rw [this, hp, cond_true]; exact h))
    (fun n x hx h1 h2 hp => store_Right_l0_r (by
      have := hb n x hx (store_Right_l0 l (Ops.std.iadd .i64 (n : Int) 1)) (some (.inl ()))
      rw [store_Right_l0_b, h1, h2, cond_true, Option.bind_some, msg_Key_eq (hk x (List.mem_of_getElem? hx)), Option.bind_some]
      simp only [slt_lt]
      rw [this, hp, cond_false]))
  have hless : ∀ (n : Nat) (x : Pair), l[n]? = some x → ∀ {β : Type} (a b : Option β), ((xget ePair l (Ops.std.isub .i64 (n : Int) 1)).bind fun x1 => (r11_Less x1.key x.key).bind fun res1 => bif res1 then a else b) = (xget ePair l (Ops.std.isub .i64 (n : Int) 1)).bind fun x1 => bif lt x1.key x.key then a else b := fun n x hx {β} a b => by
    cases n with
    | zero =>
      have e : Ops.std.isub .i64 ((0 : Nat) : Int) 1 = -1 := rfl
      rw [e, xget_eq, if_neg (by omega)]; rfl
    | succ k =>
      obtain ⟨y, hy, hg⟩ := hprev hx
      have := hk y (List.mem_of_getElem? hy)
      rw [hg, Option.bind_some, Option.bind_some, r11_Less_eq (by omega), Option.bind_some]
  have e2 := all_list ePair (l := l) (by omega) (p := rightAt l) (L := fun i => r29_Right_l0 l i)
    (fun h => r29_Right_l0_r (by simp [r29_Right_l0_b, h]))
    (fun n x r hx h1 h2 hp h => r29_Right_l0_r (by
      have := hb n x hx (r29_Right_l0 l (Ops.std.iadd .i64 (n : Int) 1)) (some (.inl ()))
      rw [r29_Right_l0_b, h1, h2, cond_true, Option.bind_some, r08_Key_eq (hk x (List.mem_of_getElem? hx)), Option.bind_some, hless n x hx, this, hp, cond_true]; exact h))
    (fun n x hx h1 h2 hp => r29_Right_l0_r (by
      have := hb n x hx (r29_Right_l0 l (Ops.std.iadd .i64 (n : Int) 1)) (some (.inl ()))
      rw [r29_Right_l0_b, h1, h2, cond_true, Option.bind_some, r08_Key_eq (hk x (List.mem_of_getElem? hx)), Option.bind_some, hless n x hx, this, hp, cond_false]))
  unfold rightB
  refine ⟨store_Right_r ?_, r29_Right_r ?_⟩
  · rw [store_Right_b, e1, Option.bind_some, xlen_eq]
    cases allI (rightAt l) 0 l
    · rfl
    · rw [cond_true, Bool.true_and]
      show some (decide ((l.length : Int) ≤ 64)) = _
      congr 1
      exact decide_eq_decide.2 ⟨fun h => by omega, fun h => by omega⟩
  · rw [r29_Right_b, e2, Option.bind_some, xlen_eq]
    cases allI (rightAt l) 0 l
    · rfl
    · rw [cond_true, Bool.true_and]
      show some (decide ((l.length : Int) < 65)) = _
      congr 1
      exact decide_eq_decide.2 ⟨fun h => by omega, fun h => by omega⟩
end Go.Ab.Tryd
namespace Go.Ab.Tryd
open Go Go.Ab Go.Proofs Go.Lib
set_option linter.unusedVariables false
set_option linter.unusedSimpArgs false
def inP (a b : Int) (p : Pair) : Bool := upto a (hplace p.key) b
def outP (a b : Int) (p : Pair) : Bool := !inP a b p
def rng (l : List Pair) (a b : Int) : List Pair := l.filter (inP a b)
theorem rng_cons {a b : Int} {x : Pair} {l : List Pair} : rng (x :: l) a b = bif outP a b x then rng l a b else x :: rng l a b := by
  unfold rng outP
  cases h : inP a b x <;> simp [h]
theorem rng_all {a b : Int} {l : List Pair} (h : ∀ x, x ∈ l → outP a b x = false) : rng l a b = l := by
  unfold rng
  rw [List.filter_eq_self]
  intro x hx
  have := h x hx
  unfold outP at this
  simpa using this
theorem store_Range_1_eq {p : Pair} {a b : Int} (hk : p.key.size < 1000000) : store_Range_1 p a b = some (outP a b p) := store_Range_1_r (by
  rw [store_Range_1_b, hash_Place_eq (by omega), Option.bind_some, ring_Upto_eq, Option.bind_some]; rfl)
theorem IndexFunc_out {l : List Pair} {a b : Int} (hl : l.length ≤ 1000) (hk : Keys l) : IndexFunc_Pair_1 l a b = some (fstI (outP a b) l) := IndexFunc_Pair_1_r (by
  have h := find_list ePair (l := l) (by omega) (p := outP a b) (L := fun i => IndexFunc_Pair_1_l0 l a b i) (fun h => IndexFunc_Pair_1_l0_r (by simp [IndexFunc_Pair_1_l0_b, h]))
    (fun n x hx h1 h2 hp => IndexFunc_Pair_1_l0_r (by simp [IndexFunc_Pair_1_l0_b, h1, h2, store_Range_1_eq (hk x hx), hp]))
    (fun n x r hx h1 h2 hp h => IndexFunc_Pair_1_l0_r (by simp [IndexFunc_Pair_1_l0_b, h1, h2, store_Range_1_eq (hk x hx), hp]; exact h))
  rw [IndexFunc_Pair_1_b, h]
  unfold fstI
  cases fst (outP a b) l <;> rfl)
theorem delete_loop (a b : Int) (rest : List Pair) : ∀ (kept : List Pair) (j0 : Pair) (jt : List Pair), Keys rest → kept.length + (jt.length + 1) + rest.length ≤ 1000 →
    ∃ junk, DeleteFunc_Pair_l0 a b (kept.length : Nat) ((kept ++ j0 :: jt).length : Nat) (kept ++ j0 :: jt ++ rest) = some ((((kept ++ rng rest a b).length : Nat) : Int), kept ++ rng rest a b ++ junk) := by
  induction rest with
  | nil =>
    intro kept j0 jt hk h
    refine ⟨j0 :: jt, DeleteFunc_Pair_l0_r ?_⟩
    have : Ops.std.ilt ((kept ++ j0 :: jt).length : Nat) (xlen ePair (kept ++ j0 :: jt ++ [])) = false := by rw [ilt_len]; simp
    rw [DeleteFunc_Pair_l0_b, this]
    simp [rng]
  | cons x rest ih =>
    intro kept j0 jt hk h
    have hkr : Keys rest := fun p hp => hk p (List.mem_cons_of_mem _ hp)
    simp only [List.length_cons] at h
    have hlt : Ops.std.ilt ((kept ++ j0 :: jt).length : Nat) (xlen ePair (kept ++ j0 :: jt ++ x :: rest)) = true := by rw [ilt_len]; simp
    have hg : xget ePair (kept ++ j0 :: jt ++ x :: rest) ((kept ++ j0 :: jt).length : Nat) = some x := by rw [xget_nat]; simp
    have hadd : Ops.std.iadd .i64 ((kept ++ j0 :: jt).length : Nat) 1 = (((kept ++ j0 :: jt).length + 1 : Nat) : Int) := iadd1 (by simp; omega)
    have hd := store_Range_1_eq (p := x) (a := a) (b := b) (hk x (List.mem_cons_self ..))
    rw [rng_cons]
    cases hx : outP a b x with
    | true =>
      obtain ⟨junk, h2⟩ := ih kept j0 (jt ++ [x]) hkr (by simp; omega)
      refine ⟨junk, DeleteFunc_Pair_l0_r ?_⟩
      rw [DeleteFunc_Pair_l0_b, hlt, hg, hadd]
      simp only [cond_true, Option.bind_some, hd, hx]
      simpa [Nat.add_assoc] using h2
    | false =>
      have hg0 : xget ePair (kept ++ j0 :: jt ++ x :: rest) (kept.length : Nat) = some j0 := by rw [xget_nat]; simp
      have hadd2 : Ops.std.iadd .i64 (kept.length : Nat) 1 = ((kept.length + 1 : Nat) : Int) := iadd1 (by omega)
      have hset : xset (kept ++ j0 :: jt ++ x :: rest) (kept.length : Nat) x = (kept ++ [x]) ++ (jt ++ [x]) ++ rest := by
        unfold xset; simp
      have go : DeleteFunc_Pair_l0 a b ((kept.length + 1 : Nat) : Int) (((kept ++ j0 :: jt).length + 1 : Nat) : Int) ((kept ++ [x]) ++ (jt ++ [x]) ++ rest) = DeleteFunc_Pair_l0_b a b (kept.length : Nat) ((kept ++ j0 :: jt).length : Nat) (kept ++ j0 :: jt ++ x :: rest) := by
        rw [DeleteFunc_Pair_l0_b, hlt, hg, hadd]
        simp only [cond_true, Option.bind_some, hd, hx, cond_false, hg0, hadd2, hset]
      cases jt with
      | nil =>
        obtain ⟨junk, h2⟩ := ih (kept ++ [x]) x [] hkr (by simp; omega)
        refine ⟨junk, DeleteFunc_Pair_l0_r (go.symm.trans ?_)⟩
        simpa [Nat.add_assoc] using h2
      | cons j1 jt =>
        obtain ⟨junk, h2⟩ := ih (kept ++ [x]) j1 (jt ++ [x]) hkr (by simp at h ⊢; omega)
        refine ⟨junk, DeleteFunc_Pair_l0_r (go.symm.trans ?_)⟩
        simpa [Nat.add_assoc] using h2
theorem DeleteFunc_eq {l : List Pair} {a b : Int} (hl : l.length ≤ 1000) (hk : Keys l) : DeleteFunc_Pair l a b = some (rng l a b) := DeleteFunc_Pair_r (by
  rw [DeleteFunc_Pair_b, IndexFunc_out hl hk, Option.bind_some]
  unfold fstI
  cases hf : fst (outP a b) l with
  | none =>
    have : Ops.std.ieq (-1) (-1) = true := rfl
    simp [this, rng_all (fst_none hf)]
  | some n =>
    obtain ⟨x, hx, hp, hn, hb⟩ := fst_some hf
    have h1 : Ops.std.ieq (n : Int) (-1) = false := ieqF (by omega)
    obtain ⟨hn', hxe⟩ := List.getElem?_eq_some_iff.1 hx
    have hsplit : l = l.take n ++ x :: l.drop (n + 1) := by
      rw [← hxe, ← List.drop_eq_getElem_cons hn, List.take_append_drop]
    have hkl : (l.take n).length = n := by simp; omega
    have hbefore : rng (l.take n) a b = l.take n := rng_all fun y hy => by
      obtain ⟨i, hi, rfl⟩ := List.getElem_of_mem hy
      rw [hkl] at hi
      exact hb i _ hi (by rw [List.getElem_take]; exact List.getElem?_eq_getElem _)
    have hdrp : rng l a b = l.take n ++ rng (l.drop (n + 1)) a b := by
      conv => lhs; rw [hsplit]
      show List.filter _ _ = _
      rw [List.filter_append]
      show rng _ a b ++ rng (x :: _) a b = _
      rw [hbefore, rng_cons, hp, cond_true]
    obtain ⟨junk, hlo⟩ := delete_loop a b (l.drop (n + 1)) (l.take n) x [] (fun p hp => hk p (List.mem_of_mem_drop hp)) (by rw [hkl]; simp; omega)
    rw [← hdrp, List.append_assoc, List.singleton_append, ← hsplit, List.length_append, hkl, List.length_singleton] at hlo
    have hadd : Ops.std.iadd .i64 (n : Int) 1 = ((n + 1 : Nat) : Int) := iadd1 (by omega)
    have hz : Ops.std.ieq 0 0 = true := rfl
    have hfil : xfil (rng l a b ++ junk) ((rng l a b).length : Nat) (xlen ePair (rng l a b ++ junk)) ⟨⟨#[]⟩, ⟨#[]⟩⟩ = rng l a b ++ List.replicate junk.length ⟨⟨#[]⟩, ⟨#[]⟩⟩ := by
      unfold xfil; rw [xlen_eq]; simp only [Int.toNat_natCast]; simp
    simp only [h1, cond_false, hadd, hlo, Option.bind_some, xsub_drop (rng l a b ++ junk) (rng l a b).length (by simp), hfil, xsub_take (rng l a b ++ List.replicate junk.length ⟨⟨#[]⟩, ⟨#[]⟩⟩) (rng l a b).length (by simp), hz, cond_true]
    simp)
theorem store_Range_eq {l : List Pair} {a b : Int} (hl : l.length ≤ 1000) (hk : Keys l) : store_Range l a b = some (rng l a b) := store_Range_r (by
  rw [store_Range_b, xroom_eq ePair (by simp; omega) (by omega), cond_true, DeleteFunc_eq hl hk])
theorem rng_flat (a b : Int) (l : List Pair) : (l.flatMap fun x => bif inP a b x then [x] else []) = rng l a b := by
  induction l with
  | nil => rfl
  | cons x l ih => rw [List.flatMap_cons, ih, rng_cons, outP]; cases inP a b x <;> rfl
theorem r29_Range_eq {l : List Pair} {a b : Int} (ha : 0 ≤ a ∧ a < 18446744073709551616) (hb : 0 ≤ b ∧ b < 18446744073709551616) (hl : l.length ≤ 1000) (hk : Keys l) : r29_Range l a b = some (rng l a b) := r29_Range_r (by
  have h := gather_list ePair (l := l) (by omega) (f := fun x => bif inP a b x then [x] else []) (L := fun i acc => r29_Range_l0 l a b i acc) 1 (fun x _ => by cases inP a b x <;> simp)
    (fun acc h => r29_Range_l0_r (by simp [r29_Range_l0_b, h]))
    (fun n x acc r hac hn hx h1 h2 h => r29_Range_l0_r (by
      have hp := r05_Place_eq (s := x.key) (by have := hk x hx; omega)
      have hu : r03_Upto a (hplace x.key) b = some (inP a b x) := r03_Upto_eq ha (hplace_rng _) hb
      rw [r29_Range_l0_b, h1, h2, cond_true, Option.bind_some, hp, Option.bind_some, hu, Option.bind_some]
      cases hi : inP a b x with
      | true =>
        rw [hi, cond_true] at h
        rw [cond_true, xroom_eq ePair (by simp; omega) (by omega), cond_true]; exact h
      | false =>
        rw [hi, cond_false, List.append_nil] at h
        rw [cond_false]; exact h))
  rw [r29_Range_b, h, rng_flat])
theorem cut8_map {α β : Type} (f : α → β) (xs : List α) : cut8 (xs.map f) = (cut8 xs).map (List.map f) := by
  unfold cut8
  rw [List.length_map, List.map_map]
  apply List.map_congr_left
  intro k _
  simp
theorem xcut_eq {l : List Pair} (hl : l.length ≤ 1000000) : xcut ePair 41 l = some (cut8 l) := by
  refine ask_of ?_
  show (if (l.map ePair).length ≤ 1000000 then some ((cut8 (l.map ePair)).map (AV.lit 41 false)) else none) = _
  rw [if_pos (by rw [List.length_map]; exact hl), cut8_map, List.map_map]
  rfl
theorem cut8_le {l : List Pair} {c : List Pair} (hc : c ∈ cut8 l) : c.length ≤ 8 := by
  unfold cut8 at hc
  obtain ⟨k, _, rfl⟩ := List.mem_map.1 hc
  rw [List.length_take]; omega
theorem cut8_len (l : List Pair) : (cut8 l).length = (l.length + 7) / 8 := by
  unfold cut8; rw [List.length_map, List.length_range]
theorem parts_same {l : List Pair} {f t e g : Int} {a b : List Pair} (hl : l.length ≤ 1000) : w29_StoreParts_l0 l f t a e b g (cut8 l) (cut8 l) 0 = some (.inr (a, e, b, g)) :=
  for_list (σ := Unit) (eL 41 ePair) (l := cut8 l) (by rw [cut8_len]; omega) (L := fun i _ => w29_StoreParts_l0 l f t a e b g (cut8 l) (cut8 l) i) (res := fun _ _ _ => .inr (a, e, b, g)) (Inv := fun _ _ => True)
    (fun _ _ h => w29_StoreParts_l0_r (by rw [w29_StoreParts_l0_b, h]; rfl))
    (fun n x rest s _ hn hx hd h1 h2 h3 ih => w29_StoreParts_l0_r (by
      have := cut8_le (List.mem_of_getElem? hx)
      rw [w29_StoreParts_l0_b, h1, h2, cond_true, Option.bind_some, Option.bind_some, r08_Pairs_eq (by omega), Option.bind_some, eqb_self, cond_true, h3]
      exact ih () trivial)) () trivial
def large (l : List Pair) : Bool := decide (100 < l.length) || !allI (fun _ p => decide (p.key.size ≤ 300) && decide (p.val.size ≤ 700)) 0 l
theorem large_eq (l : List Pair) : w29_Large l = some (large l) := w29_Large_r (by
  rw [w29_Large_b, xlen_eq]
  unfold large
  by_cases h1 : 100 < l.length
  · rw [iltT (by omega), decide_eq_true h1]; rfl
  · have h := all_list ePair (l := l) (by omega) (p := fun _ p => decide (p.key.size ≤ 300) && decide (p.val.size ≤ 700)) (L := fun i => w29_Large_l0 l i)
      (fun h => w29_Large_l0_r (by simp [w29_Large_l0_b, h]))
      (fun n x r hx h1 h2 hp h => w29_Large_l0_r (by
        rw [Bool.and_eq_true, decide_eq_true_eq, decide_eq_true_eq] at hp
        rw [w29_Large_l0_b, h1, h2, cond_true, Option.bind_some, slen_nat, slen_nat, iltF (by omega), iltF (by omega)]; exact h))
      (fun n x hx h1 h2 hp => w29_Large_l0_r (by
        rw [Bool.and_eq_false_iff, decide_eq_false_iff_not, decide_eq_false_iff_not] at hp
        rw [w29_Large_l0_b, h1, h2, cond_true, Option.bind_some, slen_nat, slen_nat]
        rcases hp with hp | hp
        · rw [iltT (by omega)]; rfl
        · by_cases h3 : 300 < x.key.size
          · rw [iltT (by omega)]; rfl
          · rw [iltF (by omega), cond_false, iltT (by omega)]; rfl))
    rw [h, Option.bind_some, iltF (by omega), decide_eq_false h1, cond_false, Bool.false_or]
    cases allI (fun _ p => decide (p.key.size ≤ 300) && decide (p.val.size ≤ 700)) 0 l <;> rfl)
theorem large_not {l : List Pair} (h : large l = false) : l.length ≤ 100 ∧ Keys l := by
  unfold large at h
  rw [Bool.or_eq_false_iff, decide_eq_false_iff_not, Bool.not_eq_false'] at h
  refine ⟨by omega, fun p hp => ?_⟩
  obtain ⟨i, hi⟩ := List.getElem?_of_mem hp
  have := allI_iff.1 h.2 i p hi
  rw [Bool.and_eq_true, decide_eq_true_eq] at this
  omega
theorem awake29 : w29_awake = some true := ask_of ((le_lim 60).call _ _ _ _ (by kernel_rfl))
theorem law_Puts {l : List Pair} {key val : ByteArray} : w29_StorePuts l key val = some true := w29_StorePuts_r (by
  rw [w29_StorePuts_b, large_eq l, Option.bind_some, awake29, slen_nat, slen_nat]
  cases hL : large l with
  | true => rfl
  | false =>
    obtain ⟨h1, hk⟩ := large_not hL
    rw [cond_false, ilt_dec, ilt_dec, bif_dec, bif_dec]
    split
    · rfl
    · split
      · rfl
      · rename_i h2 h3
        have hle := put_len l key val
        refine w29_StorePuts_s0_r ?_
        obtain ⟨⟨q, e⟩, hq⟩ : ∃ z, put l key val = z := ⟨_, rfl⟩
        obtain ⟨⟨v, o⟩, hg⟩ : ∃ z, getP l key = z := ⟨_, rfl⟩
        have p1 : store_Put l key val = some (q, e) := by rw [store_Put_eq (by omega) (by omega), hq]
        have p2 : r29_Put l key val = some (q, e) := by rw [r29_Put_eq (by omega) (by omega), hq]
        have g1 : store_Get l key = some (v, o) := by rw [(get_both (l := l) (by omega)).1, hg]
        have g2 : r29_Get l key = some (v, o) := by rw [(get_both (l := l) (by omega)).2, hg]
        rw [hq] at hle
        dsimp only at hle
        rw [w29_StorePuts_s0_b, xroom_eq ePair (by simp; omega) (by omega), cond_true]
        simp only [p1, p2, g1, g2, Option.bind_some]
        have hb : Ops.std.beq o o = true := by cases o <;> rfl
        have hr := right_both (l := l) (by omega) hk
        have hb2 : Ops.std.beq (rightB l) (rightB l) = true := by cases rightB l <;> rfl
        rw [r08_Pairs_eq (by omega), Option.bind_some, eqb_self, cond_true, ieqT rfl, cond_true, seq_self, cond_true, hb, cond_true, hr.1, Option.bind_some, hr.2, Option.bind_some, hb2, cond_true, r08_Pairs_eq (by omega), Option.bind_some, eqb_self, cond_true, awake29])
theorem law_Parts {l more : List Pair} {f t : Int} (hf : 0 ≤ f ∧ f < 18446744073709551616) (ht : 0 ≤ t ∧ t < 18446744073709551616) : w29_StoreParts l more f t = some true := w29_StoreParts_r (by
  rw [w29_StoreParts_b, large_eq l, Option.bind_some, large_eq more, Option.bind_some, awake29]
  cases hL : large l with
  | true => rfl
  | false =>
    cases hM : large more with
    | true => rfl
    | false =>
      obtain ⟨h1, hk⟩ := large_not hL
      obtain ⟨h2, hkm⟩ := large_not hM
      rw [cond_false, cond_false]
      have hle := mer_len more l 0
      refine w29_StoreParts_s1_r ?_
      have hr := List.length_filter_le (inP f t) l
      obtain ⟨⟨q, e⟩, hq⟩ : ∃ z, mer l 0 more = z := ⟨_, rfl⟩
      have p1 : store_Merge l more = some (q, e) := by rw [store_Merge_eq (by omega) (by omega) hkm, hq]
      have p2 : r29_Merge l more = some (q, e) := by rw [r29_Merge_eq (by omega) (by omega) hkm, hq]
      rw [hq] at hle
      dsimp only at hle
      rw [w29_StoreParts_s1_b]
      simp only [p1, p2, Option.bind_some, xcut_eq (show l.length ≤ 1000000 by omega)]
      rw [ieqT rfl, cond_true]
      rw [parts_same (by omega), Option.bind_some]
      dsimp only
      rw [r08_Pairs_eq (by omega), Option.bind_some, eqb_self, cond_true, ieqT rfl, cond_true, store_Range_eq (by omega) hk, Option.bind_some, r29_Range_eq hf ht (by omega) hk, Option.bind_some, r08_Pairs_eq (by unfold rng; omega), Option.bind_some, eqb_self, cond_true, awake29])
theorem halves (l : List Pair) {a b : Int} (ha : 0 ≤ a ∧ a < 18446744073709551616) (hb : 0 ≤ b ∧ b < 18446744073709551616) (hne : a ≠ b) : (rng l a b).length + (rng l b a).length = l.length := by
  induction l with
  | nil => rfl
  | cons x l ih =>
    have h0 := hplace_rng x.key
    have hx : inP b a x = !inP a b x := by
      unfold inP upto
      rw [decide_eq_false hne, decide_eq_false (Ne.symm hne), Bool.false_or, Bool.false_or, Bool.eq_iff_iff]
      simp only [Bool.or_eq_true, Bool.and_eq_true, decide_eq_true_eq, Bool.not_eq_true', Bool.or_eq_false_iff, Bool.and_eq_false_iff, decide_eq_false_iff_not]
      omega
    rw [rng_cons, rng_cons, outP, outP, hx]
    cases inP a b x
    · simp only [Bool.not_false, Bool.not_true, cond_true, cond_false, List.length_cons]; omega
    · simp only [Bool.not_false, Bool.not_true, cond_true, cond_false, List.length_cons]; omega
theorem halves_loop {l : List Pair} {a b : Int} {q q2 : List Pair} (ha : 0 ≤ a ∧ a < 18446744073709551616) (hb : 0 ≤ b ∧ b < 18446744073709551616) (hne : a ≠ b) (hq : q.length ≤ 1000) (hk : Keys q) (hin : ∀ p, p ∈ q → inP a b p = true) : w29_StoreHalves_l0 l a b q q2 0 = some (.inr (q, q2)) :=
  for_list (σ := Unit) ePair (l := q) (by omega) (L := fun i _ => w29_StoreHalves_l0 l a b q q2 i) (res := fun _ _ _ => .inr (q, q2)) (Inv := fun _ _ => True)
    (fun _ _ h => w29_StoreHalves_l0_r (by rw [w29_StoreHalves_l0_b, h]; rfl))
    (fun n x rest s _ hn hx hd h1 h2 h3 ih => w29_StoreHalves_l0_r (by
      have hm := List.mem_of_getElem? hx
      have h0 := hplace_rng x.key
      have hi := hin x hm
      unfold inP upto at hi
      simp only [Bool.or_eq_true, Bool.and_eq_true, decide_eq_true_eq] at hi
      rw [w29_StoreHalves_l0_b, h1, h2, cond_true, Option.bind_some, r05_Place_eq (by have := hk x hm; omega), Option.bind_some, isub_u64, isub_u64, iltF (by omega), cond_false, ieqF (by omega), cond_false, h3]
      exact ih () trivial)) () trivial
theorem law_Halves {l : List Pair} {f t : Int} (hf : 0 ≤ f ∧ f < 18446744073709551616) (ht : 0 ≤ t ∧ t < 18446744073709551616) : w29_StoreHalves l f t = some true := w29_StoreHalves_r (by
  rw [w29_StoreHalves_b, large_eq l, Option.bind_some, awake29]
  cases hL : large l with
  | true => rfl
  | false =>
    obtain ⟨h1, hk⟩ := large_not hL
    rw [cond_false, ieq_dec, bif_dec]
    split
    · rfl
    · rename_i hne
      have hr := List.length_filter_le (inP f t) l
      have hh := halves l hf ht hne
      refine w29_StoreHalves_s1_r ?_
      rw [w29_StoreHalves_s1_b, store_Range_eq (by omega) hk, Option.bind_some, store_Range_eq (by omega) hk, Option.bind_some,
        halves_loop (q := rng l f t) hf ht hne (by unfold rng; omega) (fun p hp => hk p (List.mem_filter.1 hp).1) (fun p hp => (List.mem_filter.1 hp).2), Option.bind_some]
      dsimp only
      rw [xlen_eq, xlen_eq, xlen_eq, i64_add (by omega), hh, ieqT rfl, cond_true, awake29])
end Go.Ab.Tryd
namespace Go.Ab.Tryd
open Go Go.Ab Go.Proofs Go.Lib
set_option linter.unusedVariables false
set_option linter.unusedSimpArgs false
def Asc (l : List Pair) : Prop := (l.map Pair.key).Pairwise (fun a b => lt a b = true)
def FitP (p : Pair) : Prop := isKey p.key = true ∧ p.val.size ≤ 512
theorem asc_steps : ∀ {l : List Pair}, (∀ k x y, l[k]? = some x → l[k + 1]? = some y → lt x.key y.key = true) → Asc l
  | [], _ => List.Pairwise.nil
  | [x], _ => List.pairwise_singleton _ _
  | x :: y :: l, h => by
    have ih := asc_steps (l := y :: l) (fun k a b ha hb => h (k + 1) a b ha hb)
    have h0 := h 0 x y rfl rfl
    refine List.pairwise_cons.2 ⟨fun z hz => ?_, ih⟩
    rcases List.mem_cons.1 hz with rfl | hz'
    · exact h0
    · exact lt_trans' h0 ((List.pairwise_cons.1 ih).1 z hz')
theorem right_iff {l : List Pair} : rightB l = true ↔ l.length ≤ 64 ∧ (∀ p, p ∈ l → FitP p) ∧ Asc l := by
  unfold rightB
  rw [Bool.and_eq_true, decide_eq_true_eq, allI_iff]
  constructor
  · rintro ⟨h, hl⟩
    refine ⟨hl, fun p hp => ?_, asc_steps fun k x y hx hy => ?_⟩
    · obtain ⟨i, hi⟩ := List.getElem?_of_mem hp
      have := h i p hi
      unfold rightAt at this
      rw [Bool.and_eq_true, Bool.and_eq_true, decide_eq_true_eq] at this
      exact ⟨this.1, this.2.1⟩
    · have := h (k + 1) y hy
      rw [Nat.zero_add] at this
      unfold rightAt at this
      rw [Bool.and_eq_true, Bool.and_eq_true] at this
      have h3 := this.2.2
      dsimp only at h3
      rw [hx] at h3
      exact h3
  · rintro ⟨hl, hf, ha⟩
    refine ⟨fun i x hx => ?_, hl⟩
    obtain ⟨h1, h2⟩ := hf x (List.mem_of_getElem? hx)
    rw [Nat.zero_add]
    unfold rightAt
    rw [h1, decide_eq_true h2, Bool.true_and, Bool.true_and]
    cases i with
    | zero => rfl
    | succ k =>
      have hk : k + 1 < l.length := (List.getElem?_eq_some_iff.1 hx).1
      dsimp only
      rw [List.getElem?_eq_getElem (by omega : k < l.length)]
      dsimp only
      have := List.pairwise_iff_getElem.1 ha k (k + 1) (by simp; omega) (by simp; omega) (by omega)
      rw [List.getElem_map, List.getElem_map] at this
      rw [(List.getElem?_eq_some_iff.1 hx).2] at this
      exact this
theorem setP_keys (key val : ByteArray) (l : List Pair) : (setP key val l).map Pair.key = l.map Pair.key := by
  induction l with
  | nil => rfl
  | cons x l ih => rw [setP]; cases isAt key x <;> simp [ih]
theorem setP_mem {key val : ByteArray} {l : List Pair} {p : Pair} : p ∈ setP key val l → p ∈ l ∨ (p.val = val ∧ ∃ q, q ∈ l ∧ p.key = q.key) := by
  induction l with
  | nil => intro h; cases h
  | cons x l ih =>
    rw [setP]
    cases isAt key x with
    | true =>
      intro h
      rcases List.mem_cons.1 h with rfl | h
      · exact .inr ⟨rfl, x, List.mem_cons_self .., rfl⟩
      · exact .inl (List.mem_cons_of_mem _ h)
    | false =>
      intro h
      rcases List.mem_cons.1 h with rfl | h
      · exact .inl (List.mem_cons_self ..)
      · rcases ih h with h | ⟨h, q, hq, he⟩
        · exact .inl (List.mem_cons_of_mem _ h)
        · exact .inr ⟨h, q, List.mem_cons_of_mem _ hq, he⟩
theorem insP_mem {key val : ByteArray} {l : List Pair} {p : Pair} : p ∈ insP key val l → p = ⟨key, val⟩ ∨ p ∈ l := by
  induction l with
  | nil => intro h; exact .inl (by simpa [insP] using h)
  | cons x l ih =>
    rw [insP]
    cases isUp key x with
    | true => intro h; rcases List.mem_cons.1 h with h | h; exact .inl h; exact .inr h
    | false =>
      intro h
      rcases List.mem_cons.1 h with rfl | h
      · exact .inr (List.mem_cons_self ..)
      · rcases ih h with h | h
        · exact .inl h
        · exact .inr (List.mem_cons_of_mem _ h)
theorem insP_asc {key val : ByteArray} {l : List Pair} (h : Asc l) (hn : ∀ p, p ∈ l → p.key ≠ key) : Asc (insP key val l) := by
  induction l with
  | nil => exact List.pairwise_singleton _ _
  | cons x l ih =>
    obtain ⟨h1, h2⟩ := List.pairwise_cons.1 h
    rw [insP]
    cases hx : isUp key x with
    | true =>
      refine List.pairwise_cons.2 ⟨fun z hz => ?_, h⟩
      rcases List.mem_cons.1 hz with rfl | hz
      · exact hx
      · exact lt_trans' hx (h1 z hz)
    | false =>
      refine List.pairwise_cons.2 ⟨fun z hz => ?_, ih h2 (fun p hp => hn p (List.mem_cons_of_mem _ hp))⟩
      obtain ⟨q, hq, rfl⟩ := List.mem_map.1 hz
      rcases insP_mem hq with rfl | hq
      · exact lt_total hx (fun e => hn x (List.mem_cons_self ..) e.symm)
      · exact h1 _ (List.mem_map_of_mem hq)
theorem pl_none {l : List Pair} {key : ByteArray} (h : ¬ 0 ≤ pl l key) : (∀ p, p ∈ l → p.key ≠ key) ∧ l.find? (isAt key) = none := by
  rcases pl_cases l key with ⟨_, hf, hn⟩ | ⟨n, x, hp, _⟩
  · exact ⟨fun p hp => isAt_ne.1 (fst_none hf p hp), hn⟩
  · omega
theorem put_right {l : List Pair} {key val : ByteArray} (h : rightB l = true) : rightB (put l key val).1 = true := by
  have h' := right_iff.1 h
  obtain ⟨hl, hf, ha⟩ := h'
  unfold put
  cases hk : isKey key with
  | false => exact h
  | true =>
    rw [cond_true]
    split
    · exact h
    · rename_i h5
      split
      · refine right_iff.2 ⟨by rw [setP_len]; exact hl, fun p hp => ?_, by unfold Asc; rw [setP_keys]; exact ha⟩
        rcases setP_mem hp with hp | ⟨hv, q, hq, he⟩
        · exact hf p hp
        · exact ⟨by rw [he]; exact (hf q hq).1, by rw [hv]; omega⟩
      · rename_i hp
        split
        · exact h
        · rename_i h64
          refine right_iff.2 ⟨by rw [insP_len]; omega, fun p hp => ?_, insP_asc ha (pl_none hp).1⟩
          rcases insP_mem hp with rfl | hp
          · exact ⟨hk, by show val.size ≤ 512; omega⟩
          · exact hf p hp
theorem mer_right (more : List Pair) : ∀ {l : List Pair} {met : Int}, rightB l = true → rightB (mer l met more).1 = true := by
  induction more with
  | nil => intro l met h; exact h
  | cons x r ih =>
    intro l met h
    rw [mer]
    split
    · exact ih h
    · split
      · exact ih (put_right h)
      · exact ih h
theorem find_set {key val : ByteArray} {l : List Pair} (h0 : 0 ≤ pl l key) : (setP key val l).find? (isAt key) = some ⟨key, val⟩ := by
  have h : ∃ x, x ∈ l ∧ isAt key x = true := by
    rcases pl_cases l key with ⟨h1, _⟩ | ⟨n, x, _, _, hx, _, hf⟩
    · omega
    · exact ⟨x, List.mem_of_getElem? hx, List.find?_some hf⟩
  clear h0
  induction l with
  | nil => obtain ⟨x, hx, _⟩ := h; cases hx
  | cons x l ih =>
    rw [setP]
    cases hx : isAt key x with
    | true =>
      have hk := isAt_iff.1 hx
      rw [cond_true, List.find?_cons, show isAt key ⟨x.key, val⟩ = isAt key x from rfl, hx, hk]
    | false =>
      rw [cond_false, List.find?_cons, hx]
      obtain ⟨y, hy, hp⟩ := h
      rcases List.mem_cons.1 hy with rfl | hy
      · rw [hx] at hp; cases hp
      · exact ih ⟨y, hy, hp⟩
theorem find_set_ne {key val other : ByteArray} (hne : other ≠ key) (l : List Pair) : (setP key val l).find? (isAt other) = l.find? (isAt other) := by
  induction l with
  | nil => rfl
  | cons x l ih =>
    rw [setP]
    cases hx : isAt key x with
    | true =>
      have hk := isAt_iff.1 hx
      have hn : isAt other x = false := isAt_ne.2 (by rw [hk]; exact Ne.symm hne)
      rw [cond_true, List.find?_cons, List.find?_cons, show isAt other ⟨x.key, val⟩ = isAt other x from rfl, hn]
    | false => rw [cond_false, List.find?_cons, List.find?_cons, ih]
theorem find_ins {key val : ByteArray} {l : List Pair} (h : ∀ p, p ∈ l → p.key ≠ key) : (insP key val l).find? (isAt key) = some ⟨key, val⟩ := by
  have hs : isAt key ⟨key, val⟩ = true := isAt_iff.2 rfl
  induction l with
  | nil => rw [insP, List.find?_cons, hs]
  | cons x l ih =>
    rw [insP]
    cases isUp key x with
    | true => rw [cond_true, List.find?_cons, hs]
    | false => rw [cond_false, List.find?_cons, isAt_ne.2 (h x (List.mem_cons_self ..))]; exact ih (fun p hp => h p (List.mem_cons_of_mem _ hp))
theorem find_ins_ne {key val other : ByteArray} (hne : other ≠ key) (l : List Pair) : (insP key val l).find? (isAt other) = l.find? (isAt other) := by
  have hs : isAt other ⟨key, val⟩ = false := isAt_ne.2 (Ne.symm hne)
  induction l with
  | nil => rw [insP, List.find?_cons, hs]
  | cons x l ih =>
    rw [insP]
    cases isUp key x with
    | true => rw [cond_true, List.find?_cons, hs]
    | false => rw [cond_false, List.find?_cons, List.find?_cons, ih]
theorem get_put {l : List Pair} {key val : ByteArray} (h : (put l key val).2 = 0) : getP (put l key val).1 key = (val, true) := by
  unfold put at h ⊢
  cases hk : isKey key with
  | false => rw [hk] at h; exact absurd h (by show ¬ (7 : Int) = 0; decide)
  | true =>
    rw [hk, cond_true] at h
    rw [cond_true]
    split
    · rename_i h5; rw [if_pos h5] at h; exact absurd h (by show ¬ (5 : Int) = 0; decide)
    · rename_i h5
      rw [if_neg h5] at h
      split
      · rename_i hp; unfold getP; rw [find_set hp]
      · rename_i hp
        rw [if_neg hp] at h
        split
        · rename_i h6; rw [if_pos h6] at h; exact absurd h (by show ¬ (10 : Int) = 0; decide)
        · unfold getP; rw [find_ins (pl_none hp).1]
theorem get_put_ne {l : List Pair} {key val other : ByteArray} (hne : other ≠ key) : getP (put l key val).1 other = getP l other := by
  unfold put
  cases isKey key with
  | false => rfl
  | true =>
    rw [cond_true]
    split
    · rfl
    · split
      · unfold getP; rw [find_set_ne hne]
      · split
        · rfl
        · unfold getP; rw [find_ins_ne hne]
theorem get_mer {other : ByteArray} (more : List Pair) : ∀ {l : List Pair} {met : Int} {y : ByteArray}, getP l other = (y, true) → getP (mer l met more).1 other = (y, true) := by
  induction more with
  | nil => intro l met y h; exact h
  | cons x r ih =>
    intro l met y h
    rw [mer]
    split
    · exact ih h
    · rename_i hp
      split
      · have hne : other ≠ x.key := by
          rintro rfl
          unfold getP at h
          rw [(pl_none hp).2] at h
          cases h
        exact ih (by rw [get_put_ne hne]; exact h)
      · exact ih h
theorem law_Stays {l more : List Pair} {key val other : ByteArray} : w29_StoreStays l key val other more = some true := w29_StoreStays_r (by
  rw [w29_StoreStays_b, large_eq l, Option.bind_some, large_eq more, Option.bind_some, awake29, slen_nat, slen_nat, slen_nat]
  cases hL : large l with
  | true => rfl
  | false =>
    cases hM : large more with
    | true => rfl
    | false =>
      obtain ⟨h1, hk⟩ := large_not hL
      obtain ⟨h2, hkm⟩ := large_not hM
      rw [cond_false, cond_false, ilt_dec, ilt_dec, ilt_dec, bif_dec, bif_dec, bif_dec, (right_both (l := l) (by omega) hk).1, Option.bind_some]
      split
      · rfl
      · rename_i k3
        split
        · rfl
        · rename_i k7
          split
          · rfl
          · rename_i k0
            cases hR : rightB l with
            | false => rfl
            | true =>
              rw [cond_true]
              have hle := put_len l key val
              have hlm := mer_len more l 0
              have hra := put_right (key := key) (val := val) hR
              have hrm := mer_right more (met := 0) hR
              have hg0 := get_put (l := l) (key := key) (val := val)
              have hg1 := get_put_ne (l := l) (key := key) (val := val) (other := other)
              have hbad := put_bad (l := l) (key := key) (val := val)
              have hgm : ∀ y, getP l other = (y, true) → getP (mer l 0 more).1 other = (y, true) := fun y h => get_mer more h
              have keysOf : ∀ {q : List Pair}, rightB q = true → Keys q := fun {q} hq p hp => by
                have := ((right_iff.1 hq).2.1 p hp).1
                unfold isKey at this
                rw [Bool.and_eq_true, Bool.and_eq_true, decide_eq_true_eq] at this
                omega
              obtain ⟨⟨q, e⟩, hq⟩ : ∃ z, put l key val = z := ⟨_, rfl⟩
              obtain ⟨⟨m, e2⟩, hm⟩ : ∃ z, mer l 0 more = z := ⟨_, rfl⟩
              have p1 : store_Put l key val = some (q, e) := by rw [store_Put_eq (by omega) (by omega), hq]
              have p2 : store_Merge l more = some (m, e2) := by rw [store_Merge_eq (by omega) (by omega) hkm, hm]
              rw [hq] at hle hra hg0 hg1 hbad
              rw [hm] at hlm hrm hgm
              dsimp only at hle hra hg0 hg1 hbad hlm hrm hgm
              refine w29_StoreStays_s2_r ?_
              rw [w29_StoreStays_s2_b]
              simp only [p1, p2, Option.bind_some]
              rw [(right_both (l := q) (by omega) (keysOf hra)).1, Option.bind_some, hra, cond_true, (right_both (l := m) (by omega) (keysOf hrm)).1, Option.bind_some, hrm, cond_true]
              refine w29_StoreStays_s1_r ?_
              have s0 : w29_StoreStays_s0 l key other q m = some true := w29_StoreStays_s0_r (by
                obtain ⟨⟨va, oa⟩, ga⟩ : ∃ z, getP q other = z := ⟨_, rfl⟩
                obtain ⟨⟨vl, ol⟩, gl⟩ : ∃ z, getP l other = z := ⟨_, rfl⟩
                obtain ⟨⟨vm, om⟩, gm⟩ : ∃ z, getP m other = z := ⟨_, rfl⟩
                have c1 : store_Get q other = some (va, oa) := by rw [(get_both (l := q) (by omega)).1, ga]
                have c2 : store_Get l other = some (vl, ol) := by rw [(get_both (l := l) (by omega)).1, gl]
                have c3 : store_Get m other = some (vm, om) := by rw [(get_both (l := m) (by omega)).1, gm]
                have t : ol = true → vm = vl ∧ om = true := fun h => by
                  subst h
                  have := hgm vl gl
                  rw [gm] at this
                  cases this
                  exact ⟨rfl, rfl⟩
                rw [w29_StoreStays_s0_b]
                simp only [c1, c2, c3, Option.bind_some]
                have tail : (bif ol then bif Ops.std.seq vm vl then bif om then w29_awake else some false else some false else w29_awake) = some true := by
                  cases hol : ol with
                  | false => rw [cond_false, awake29]
                  | true =>
                    obtain ⟨rfl, rfl⟩ := t hol
                    rw [cond_true, seq_self, cond_true, cond_true, awake29]
                by_cases hok : other = key
                · subst hok
                  rw [seq_self, cond_true]; exact tail
                · have hs : Ops.std.seq other key = false := by rw [← Bool.not_eq_true, seq_iff]; exact hok
                  have := hg1 hok
                  rw [ga, gl] at this
                  cases this
                  have hb : Ops.std.beq oa oa = true := by cases oa <;> rfl
                  rw [hs, cond_false, seq_self, cond_true, hb, cond_true]; exact tail)
              rw [w29_StoreStays_s1_b, (get_both (l := q) (by omega)).1, Option.bind_some, s0]
              by_cases he : e = 0
              · rw [hg0 he]
                dsimp only
                rw [ieqT he, cond_true, seq_self, cond_true, cond_true]
              · obtain ⟨⟨v, o⟩, hv⟩ : ∃ z, getP q key = z := ⟨_, rfl⟩
                rw [hv]
                dsimp only
                rw [ieqF he, cond_false, r08_Pairs_eq (by omega), Option.bind_some, hbad he, eqb_self, cond_true])
end Go.Ab.Tryd
