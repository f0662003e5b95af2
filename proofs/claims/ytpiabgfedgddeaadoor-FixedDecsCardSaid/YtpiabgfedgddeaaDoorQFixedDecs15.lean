/- Our texts for this statement, merged: what its theorem leads to. -/
import Derived.Lib.RuneCountTail
import Derived.Lib.TrimU
import Derived.Test.YtpiabgfedgddeaaDoorQFixedDecs14
namespace Go.Ab.Tryd
open Go Go.Ab Go.Proofs Go.Lib
set_option linter.unusedVariables false
set_option linter.unusedSimpArgs false
def stray (s : ByteArray) (i : Nat) : Bool := decide (Utf8.decode s i = (65533, 1))
theorem xsdec_nat {s : ByteArray} {i : Nat} (h : i < s.size) : xsdec s (i : Int) = some (((Utf8.decode s i).1 : Int), ((i + (Utf8.decode s i).2 : Nat) : Int)) := by
  show (if 0 ≤ (i : Int) ∧ (i : Int).toNat < s.size then some (((Utf8.decode s (i : Int).toNat).1 : Int), (i : Int) + ((Utf8.decode s (i : Int).toNat).2 : Int)) else none) = _
  rw [if_pos ⟨by omega, by simpa using h⟩, Int.toNat_natCast]
  simp
theorem xsdec_end {s : ByteArray} {i : Nat} (h : ¬ i < s.size) : xsdec s (i : Int) = none := by
  show (if 0 ≤ (i : Int) ∧ (i : Int).toNat < s.size then some (((Utf8.decode s (i : Int).toNat).1 : Int), (i : Int) + ((Utf8.decode s (i : Int).toNat).2 : Int)) else none) = _
  rw [if_neg (by simpa using h)]
theorem utf_stray_eq {s : ByteArray} {i : Nat} (h : i < s.size) : utf_stray s (i : Int) ((Utf8.decode s i).1 : Int) = some (stray s i) := utf_stray_r (by
  unfold utf_stray_b
  simp only [ieq_dec, bif_dec]
  split
  · rename_i h1
    have e1 : xssub s (i : Int) (Ops.std.slen s) = some (s.extract i s.size) := by
      show (if 0 ≤ (i : Int) ∧ (i : Int) ≤ (s.size : Int) ∧ (s.size : Int) ≤ (s.size : Int) then some (s.extract (i : Int).toNat (s.size : Int).toNat) else none) = _
      rw [if_pos ⟨by omega, by omega, by omega⟩]; simp
    have e2 : xsdec (s.extract i s.size) 0 = some (((Utf8.decode s i).1 : Int), ((Utf8.decode s i).2 : Int)) := by
      have := xsdec_nat (s := s.extract i s.size) (i := 0) (by rw [tail_size]; omega)
      rw [tail_decode] at this
      simpa using this
    rw [e1, Option.bind_some, e2]
    simp only [xopt, stray]
    congr 1
    have h2 : (Utf8.decode s i).1 = 65533 := by omega
    refine decide_eq_decide.2 ⟨fun h => Prod.ext h2 (by show (Utf8.decode s i).2 = 1; omega), fun h => by rw [h]; rfl⟩
  · rename_i h1
    congr 1
    exact (decide_eq_false (fun h => h1 (by rw [h]; rfl))).symm)
def poss (s : ByteArray) : Nat → Nat → List Nat
  | 0, _ => []
  | n + 1, i => if i < s.size then i :: poss s n (i + (Utf8.decode s i).2) else []
theorem valid_l0 (s : ByteArray) : ∀ (n i : Nat), s.size - i < n → ∃ r, utf_Valid_l0 s (i : Int) = some r ∧ (match r with | .inl _ => false | .inr _ => true) = (poss s n i).all fun j => !stray s j := by
  intro n
  induction n with
  | zero => intro i h; omega
  | succ n ih =>
    intro i h
    by_cases hi : i < s.size
    · have hw := width_pos s i
      cases hst : stray s i
      · obtain ⟨r, hr, he⟩ := ih (i + (Utf8.decode s i).2) (by omega)
        refine ⟨r, utf_Valid_l0_r (by simp only [utf_Valid_l0_b, xsdec_nat hi, xopt, utf_stray_eq hi, Option.bind_some, hst, cond_false]; exact hr), ?_⟩
        rw [he]; simp [poss, hi, hst]
      · exact ⟨_, utf_Valid_l0_r (by simp only [utf_Valid_l0_b, xsdec_nat hi, xopt, utf_stray_eq hi, Option.bind_some, hst, cond_true]; rfl), by simp [poss, hi, hst]⟩
    · exact ⟨_, utf_Valid_l0_r (by simp only [utf_Valid_l0_b, xsdec_end hi, xopt]; rfl), by simp [poss, hi]⟩
theorem utf_Valid_eq (s : ByteArray) : utf_Valid s = some ((poss s (s.size + 1) 0).all fun j => !stray s j) := utf_Valid_r (by
  obtain ⟨r, hr, he⟩ := valid_l0 s (s.size + 1) 0 (by omega)
  have hr : utf_Valid_l0 s 0 = some r := hr
  simp only [utf_Valid_b, hr, Option.bind_some]
  cases r <;> exact congrArg some he)
theorem poss_len (s : ByteArray) : ∀ (n i : Nat), (poss s n i).length ≤ n := by
  intro n
  induction n with
  | zero => intro i; simp [poss]
  | succ n ih =>
    intro i
    unfold poss
    split
    · have := ih (i + (Utf8.decode s i).2); simp; omega
    · simp
theorem count_l0 (s : ByteArray) : ∀ (n i k : Nat), s.size - i < n → k + n < 9223372036854775808 → ∃ a, utf_Count_l0 s (k : Int) (i : Int) = some (((k + (poss s n i).length : Nat) : Int), a) := by
  intro n
  induction n with
  | zero => intro i k h; omega
  | succ n ih =>
    intro i k h hk
    by_cases hi : i < s.size
    · have hw := width_pos s i
      obtain ⟨a, ha⟩ := ih (i + (Utf8.decode s i).2) (k + 1) (by omega) (by omega)
      refine ⟨a, utf_Count_l0_r ?_⟩
      have e1 : Ops.std.iadd .i64 (k : Int) 1 = ((k + 1 : Nat) : Int) := i64_add (b := 1) (by omega)
      simp only [utf_Count_l0_b, xsdec_nat hi, xopt, e1, ha]
      simp [poss, hi]; omega
    · exact ⟨(i : Int), utf_Count_l0_r (by simp only [utf_Count_l0_b, xsdec_end hi, xopt]; simp [poss, hi])⟩
theorem utf_Count_eq {s : ByteArray} (hs : s.size < 4611686018427387904) : utf_Count s = some (((poss s (s.size + 1) 0).length : Nat) : Int) := utf_Count_r (by
  obtain ⟨a, ha⟩ := count_l0 s (s.size + 1) 0 0 (by omega) (by omega)
  have ha : utf_Count_l0 s 0 0 = some (((0 + (poss s (s.size + 1) 0).length : Nat) : Int), a) := ha
  simp only [utf_Count_b, ha, Option.bind_some, Nat.zero_add])
end Go.Ab.Tryd
namespace Go.Ab.Tryd
open Go Go.Ab Go.Proofs Go.Lib
set_option linter.unusedVariables false
set_option linter.unusedSimpArgs false
def piece (s : ByteArray) (i : Nat) : ByteArray := s.extract i (i + (Utf8.decode s i).2)
theorem wid_cases (s : ByteArray) (i : Nat) : (wid s i = 0 ∧ (Utf8.decode s i).2 = 1) ∨ (wid s i ≠ 0 ∧ wid s i = (Utf8.decode s i).2) := by
  unfold wid
  split
  · rename_i h; exact .inl ⟨rfl, by rw [h]⟩
  · have := width_pos s i; exact .inr ⟨by omega, rfl⟩
theorem parts_l0 (s : ByteArray) (hs : s.size < 1000000) : ∀ (n i : Nat) (l : List ByteArray), s.size - i < n → l.length ≤ i → i ≤ s.size → (∀ j, j < s.size → j + (Utf8.decode s j).2 ≤ s.size) → r04_Parts_l0 s (i : Int) l = some (l ++ (poss s n i).map (piece s)) := by
  intro n
  induction n with
  | zero => intro i l h; omega
  | succ n ih =>
    intro i l h hl hi0 hfit
    by_cases hi : i < s.size
    · have hw := width_pos s i
      have hf := hfit i hi
      have hr : ∀ z : ByteArray, xroom vT 16 l [z] = true := fun z => xroom_eq vT (by simp; omega) (by omega)
      have hx := ih (i + (Utf8.decode s i).2) (l ++ [piece s i]) (by omega) (by simp; omega) hf hfit
      have hsub : ∀ w : Nat, i + w ≤ s.size → xssub s (i : Int) ((i + w : Nat) : Int) = some (s.extract i (i + w)) := fun w hwl => by
        show (if 0 ≤ (i : Int) ∧ (i : Int) ≤ ((i + w : Nat) : Int) ∧ ((i + w : Nat) : Int) ≤ (s.size : Int) then some (s.extract (i : Int).toNat ((i + w : Nat) : Int).toNat) else none) = _
        rw [if_pos ⟨by omega, by omega, by omega⟩, Int.toNat_natCast, Int.toNat_natCast]
      refine r04_Parts_l0_r ?_
      unfold r04_Parts_l0_b
      simp only [ilt_dec, bif_dec, slen_nat, Width_eq hi (by omega), Option.bind_some, ieq_dec]
      rw [if_pos (by omega)]
      rcases wid_cases s i with ⟨h1, h2⟩ | ⟨h1, h2⟩
      · have e1 : Ops.std.iadd .i64 (i : Int) 1 = ((i + 1 : Nat) : Int) := i64_add (b := 1) (by omega)
        rw [if_pos (by omega), e1, hsub 1 (by omega), Option.bind_some, hr, cond_true]
        rw [h2] at hx
        simp only [poss, if_pos hi, List.map_cons, h2]
        rw [show s.extract i (i + 1) = piece s i from by unfold piece; rw [h2], hx]
        simp
      · have e1 : Ops.std.iadd .i64 (i : Int) (wid s i : Int) = ((i + wid s i : Nat) : Int) := i64_add (by omega)
        rw [if_neg (by omega), e1, hsub _ (by omega), Option.bind_some, hr, cond_true]
        rw [← h2] at hx
        simp only [poss, if_pos hi, List.map_cons, ← h2]
        rw [show s.extract i (i + wid s i) = piece s i from by unfold piece; rw [h2], hx]
        simp
    · exact r04_Parts_l0_r (by
        unfold r04_Parts_l0_b
        simp only [ilt_dec, bif_dec, slen_nat]
        rw [if_neg (by omega)]
        simp [poss, hi])
theorem fits {s : ByteArray} {i : Nat} (h : i < s.size) : i + (Utf8.decode s i).2 ≤ s.size := by
  rw [decode_at]
  have : ∀ n b0 b1 b2 b3, 1 ≤ n → (decodeN n b0 b1 b2 b3).2 ≤ n := fun n b0 b1 b2 b3 hn => by
    unfold decodeN
    repeat' split
    all_goals (simp only; omega)
  have := this (s.size - i) (s.get! i).toNat (s.get! (i + 1)).toNat (s.get! (i + 2)).toNat (s.get! (i + 3)).toNat (by omega)
  omega
theorem r04_Parts_eq {s : ByteArray} (hs : s.size < 1000000) : r04_Parts s = some ((poss s (s.size + 1) 0).map (piece s)) := r04_Parts_r (by
  have h := parts_l0 s hs (s.size + 1) 0 [] (by omega) (by simp) (by omega) (fun j hj => fits hj)
  have h : r04_Parts_l0 s 0 [] = some ((poss s (s.size + 1) 0).map (piece s)) := h
  simp only [r04_Parts_b, h, Option.bind_some])
end Go.Ab.Tryd
namespace Go.Ab.Tryd
open Go Go.Ab Go.Proofs Go.Lib
set_option linter.unusedVariables false
set_option linter.unusedSimpArgs false
set_option maxRecDepth 100000 in
set_option maxHeartbeats 4000000 in
theorem dec_self {n b0 b1 b2 b3 r w : Nat} (hn : 1 ≤ n) (hd : decodeN n b0 b1 b2 b3 = (r, w)) : decodeN w b0 (if 1 < w then b1 else 0) (if 2 < w then b2 else 0) (if 3 < w then b3 else 0) = (r, w) := by
  unfold decodeN at hd
  repeat' split at hd
  all_goals
    injection hd with e1 e2
    subst e1 e2
    unfold decodeN
    simp only [show ¬ 1 < 1 by omega, show ¬ 2 < 1 by omega, show ¬ 3 < 1 by omega, show 1 < 2 by omega, show ¬ 2 < 2 by omega, show ¬ 3 < 2 by omega, show 1 < 3 by omega, show 2 < 3 by omega, show ¬ 3 < 3 by omega, show 1 < 4 by omega, show 2 < 4 by omega, show 3 < 4 by omega, if_true, if_false, false_and, true_and, and_false]
    repeat' split
    all_goals first | rfl | (exfalso; omega)
end Go.Ab.Tryd
namespace Go.Ab.Tryd
open Go Go.Ab Go.Proofs Go.Lib
set_option linter.unusedVariables false
set_option linter.unusedSimpArgs false
theorem size_ext (s : ByteArray) (i j : Nat) (h : j ≤ s.size) : (s.extract i j).size = j - i := by
  simp [ByteArray.size_extract]; omega
theorem byt_ext (s : ByteArray) (i j k : Nat) (h : j ≤ s.size) (hk : i + k < j) : byt (s.extract i j) k = byt s (i + k) := by
  have h1 : k < (s.extract i j).size := by rw [size_ext s i j h]; omega
  have e1 := xsget_nat h1
  have e2 := xsget_nat (s := s) (i := i + k) (by omega)
  unfold byt
  have g1 : (s.extract i j).get! k = (s.extract i j)[k]'h1 := by
    generalize s.extract i j = z at h1 ⊢
    cases z with
    | mk d => exact getElem!_pos d k h1
  have g2 : s.get! (i + k) = s[i + k]'(by omega) := by
    have h2 : i + k < s.size := by omega
    clear e1 e2 g1 h1
    cases s with
    | mk d => exact getElem!_pos d (i + k) h2
  rw [g1, g2, ByteArray.getElem_extract]
theorem piece_dec {s : ByteArray} {i : Nat} (h : i < s.size) : Utf8.decode (piece s i) 0 = Utf8.decode s i := by
  have hf := fits h
  have hw := width_pos s i
  obtain ⟨r, w, hd⟩ : ∃ r w, Utf8.decode s i = (r, w) := ⟨_, _, rfl⟩
  have hsz : (piece s i).size = w := by unfold piece; rw [size_ext _ _ _ hf, hd]; simp only; omega
  have hb : ∀ k, byt (piece s i) k = if k < w then byt s (i + k) else 0 := fun k => by
    split
    · rename_i hk
      unfold piece
      rw [hd] at hf ⊢
      exact byt_ext s i (i + w) k hf (by omega)
    · exact get!_ge _ _ (by omega)
  rw [hd] at hw ⊢
  rw [decode_at] at hd ⊢
  have b0 := hb 0; have b1 := hb 1; have b2 := hb 2; have b3 := hb 3
  unfold byt at b0 b1 b2 b3
  simp only [Nat.zero_add, Nat.sub_zero, Nat.add_zero] at b0 b1 b2 b3 ⊢
  rw [hsz, b0, b1, b2, b3, if_pos (show 0 < w from hw)]
  exact dec_self (by omega) hd
end Go.Ab.Tryd
namespace Go.Ab.Tryd
open Go Go.Ab Go.Proofs Go.Lib
set_option linter.unusedVariables false
set_option linter.unusedSimpArgs false
theorem wid_stray (s : ByteArray) (i : Nat) : (wid s i = 0) ↔ stray s i = true := by
  unfold wid stray
  have := width_pos s i
  split
  · rename_i h; simp [h]
  · rename_i h; simp [h]; omega
theorem valid_l {l : List ByteArray} (hl : l.length ≤ 4611686018427387904) (hb : ∀ x, x ∈ l → 0 < x.size ∧ x.size < 1000000) : r04_Valid_l0 l 0 = some (bif allI (fun _ x => !stray x 0) 0 l then .inr () else .inl ()) :=
  all_list vT hl (L := fun i => r04_Valid_l0 l i)
    (fun h => r04_Valid_l0_r (by simp [r04_Valid_l0_b, h]))
    (fun n x r hx h1 h2 hp h => r04_Valid_l0_r (by
      have hm := hb x (List.mem_of_getElem? hx)
      have hw : r04_Width x 0 = some (wid x 0 : Int) := Width_eq hm.1 (by omega)
      have hz : ¬ (wid x 0 = 0) := fun h0 => by
        have := (wid_stray x 0).1 h0; simp [this] at hp
      simp [r04_Valid_l0_b, h1, h2, hw, ieq_dec, hz]; exact h))
    (fun n x hx h1 h2 hp => r04_Valid_l0_r (by
      have hm := hb x (List.mem_of_getElem? hx)
      have hw : r04_Width x 0 = some (wid x 0 : Int) := Width_eq hm.1 (by omega)
      have hz : wid x 0 = 0 := (wid_stray x 0).2 (by simpa using hp)
      simp [r04_Valid_l0_b, h1, h2, hw, ieq_dec, hz]))
end Go.Ab.Tryd
namespace Go.Ab.Tryd
open Go Go.Ab Go.Proofs Go.Lib
set_option linter.unusedVariables false
set_option linter.unusedSimpArgs false
theorem poss_in (s : ByteArray) : ∀ (n i : Nat), ∀ j, j ∈ poss s n i → j < s.size := by
  intro n
  induction n with
  | zero => intro i j h; simp [poss] at h
  | succ n ih =>
    intro i j h
    unfold poss at h
    split at h
    · rename_i hi
      rcases List.mem_cons.1 h with rfl | h
      · exact hi
      · exact ih _ j h
    · cases h
theorem allI_all {l : List ByteArray} {p : ByteArray → Bool} : ∀ n, allI (fun _ x => p x) n l = l.all p := by
  induction l with
  | nil => intro n; rfl
  | cons x l ih => intro n; simp [allI, ih]
theorem r04_Valid_eq {s : ByteArray} (hs : s.size < 1000000) : r04_Valid s = some ((poss s (s.size + 1) 0).all fun j => !stray s j) := r04_Valid_r (by
  have hl := poss_len s (s.size + 1) 0
  have hb : ∀ x, x ∈ (poss s (s.size + 1) 0).map (piece s) → 0 < x.size ∧ x.size < 1000000 := fun x hx => by
    obtain ⟨j, hj, rfl⟩ := List.mem_map.1 hx
    have h1 := poss_in s _ _ j hj
    have h2 := fits h1
    have h3 := width_pos s j
    unfold piece
    rw [size_ext _ _ _ h2]; omega
  have hv := valid_l (l := (poss s (s.size + 1) 0).map (piece s)) (by simp; omega) hb
  rw [allI_all] at hv
  have he : ((poss s (s.size + 1) 0).map (piece s)).all (fun x => !stray x 0) = (poss s (s.size + 1) 0).all fun j => !stray s j := by
    rw [List.all_map]
    refine Bool.eq_iff_iff.2 ?_
    simp only [List.all_eq_true, Function.comp]
    refine ⟨fun h j hj => ?_, fun h j hj => ?_⟩
    · have := h j hj; unfold stray at this ⊢; rwa [piece_dec (poss_in s _ _ j hj)] at this
    · have := h j hj; unfold stray at this ⊢; rwa [piece_dec (poss_in s _ _ j hj)]
  rw [he] at hv
  simp only [r04_Valid_b, r04_Parts_eq hs, Option.bind_some, hv]
  cases (poss s (s.size + 1) 0).all fun j => !stray s j <;> rfl)
end Go.Ab.Tryd
namespace Go.Ab.Tryd
open Go Go.Ab Go.Proofs Go.Lib
set_option linter.unusedVariables false
set_option linter.unusedSimpArgs false
def isKey (s : ByteArray) : Bool := decide (0 < s.size ∧ s.size ≤ 96) && ((poss s (s.size + 1) 0).all fun j => !stray s j) && decide ((poss s (s.size + 1) 0).length ≤ 32)
theorem r08_Key_eq {s : ByteArray} (hs : s.size < 1000000) : r08_Key s = some (isKey s) := r08_Key_r (by
  simp only [r08_Key_b, ilt_dec, bif_dec, slen_nat, r04_Valid_eq hs, r04_Parts_eq hs, Option.bind_some, isKey, xlen_eq, List.length_map]
  by_cases h1 : 0 < s.size
  · rw [if_pos (by omega)]
    by_cases h2 : s.size ≤ 96
    · rw [if_pos (by omega)]
      cases (poss s (s.size + 1) 0).all fun j => !stray s j
      · simp
      · simp [h1, h2]; omega
    · rw [if_neg (by omega)]; simp [h2]
  · rw [if_neg (by omega)]; simp [h1])
theorem msg_Key_eq {s : ByteArray} (hs : s.size < 1000000) : msg_Key s = some (isKey s) := msg_Key_r (by
  have h0 : Ops.std.seq s ⟨#[]⟩ = true ↔ s.size = 0 := by
    rw [seq_iff]
    constructor
    · rintro rfl; rfl
    · intro h
      cases s with
      | mk d =>
        have : d.size = 0 := h
        rw [Array.eq_empty_of_size_eq_zero this]
  simp only [msg_Key_b, ile_dec, bif_dec, slen_nat, utf_Valid_eq, utf_Count_eq (show s.size < 4611686018427387904 by omega), Option.bind_some, isKey]
  by_cases h1 : s.size = 0
  · rw [h0.2 h1]; simp [h1]
  · rw [Bool.eq_false_iff.2 (fun h => h1 (h0.1 h)), cond_false]
    by_cases h2 : s.size ≤ 96
    · rw [if_pos (by omega)]
      cases (poss s (s.size + 1) 0).all fun j => !stray s j
      · simp
      · have h3 : 0 < s.size := by omega
        simp only [cond_true, h2, h3, and_self, decide_true, Bool.true_and, Option.some.injEq]
        exact decide_eq_decide.2 ⟨fun h => by omega, fun h => by omega⟩
    · rw [if_neg (by omega)]; simp [h2])
end Go.Ab.Tryd
namespace Go.Ab.Tryd
open Go Go.Ab Go.Proofs Go.Lib
set_option linter.unusedVariables false
set_option linter.unusedSimpArgs false
theorem of_r {α : Type} {x y : Option α} (h : ∀ r, y = some r → x = some r) (hn : y ≠ none) : x = y := by
  cases y with
  | none => exact absurd rfl hn
  | some r => exact h r rfl
theorem kcases (k : Int) : (k < 1 ∨ 12 < k) ∨ k = 1 ∨ k = 2 ∨ k = 3 ∨ k = 4 ∨ k = 5 ∨ k = 6 ∨ k = 7 ∨ k = 8 ∨ k = 9 ∨ k = 10 ∨ k = 11 ∨ k = 12 := by omega
def kinds0 : List Msg_kind := [⟨⟨#[63]⟩, 0, []⟩, ⟨⟨#[102, 105, 110, 100]⟩, 4, [2, 12]⟩, ⟨⟨#[104, 111, 112]⟩, 18, []⟩, ⟨⟨#[97, 115, 107]⟩, 0, [4]⟩, ⟨⟨#[116, 101, 108, 108]⟩, 282, []⟩, ⟨⟨#[110, 111, 116, 101]⟩, 8, [6]⟩, ⟨⟨#[111, 107, 97, 121]⟩, 0, []⟩, ⟨⟨#[112, 117, 116]⟩, 96, [6, 12]⟩, ⟨⟨#[103, 101, 116]⟩, 32, [9, 12]⟩, ⟨⟨#[103, 111, 116]⟩, 322, []⟩, ⟨⟨#[109, 111, 118, 101]⟩, 130, [6]⟩, ⟨⟨#[112, 105, 110, 103]⟩, 0, [6]⟩, ⟨⟨#[110, 97, 121]⟩, 1, []⟩]
def kindOf (k : Int) : Msg_kind := kinds0[(if 1 ≤ k ∧ k ≤ 12 then k.toNat else 0)]?.getD ⟨⟨#[63]⟩, 0, []⟩
theorem kindOf_no {k : Int} (h : k < 1 ∨ 12 < k) : kindOf k = ⟨⟨#[63]⟩, 0, []⟩ := by
  unfold kindOf
  rw [if_neg (by omega)] <;> rfl
theorem msg_kinds_eq : msg_kinds = some kinds0 := msg_kinds_r rfl
theorem msg_of_eq (k : Int) : msg_of k = some (kindOf k) := msg_of_r (by
  have hx : ∀ (n : Nat) (x : Msg_kind), kinds0[n]? = some x → xget eMsg_kind kinds0 (n : Int) = some x := fun n x h => by rw [xget_nat, h]
  have hlen : xlen eMsg_kind kinds0 = 13 := by rw [xlen_eq] <;> rfl
  simp only [msg_of_b, msg_kinds_eq, Option.bind_some, hlen, ilt_dec, ile_dec, bif_dec]
  rcases kcases k with h | h
  · rw [kindOf_no h]
    have h0 := hx 0 _ rfl
    simp only [Int.natCast_zero, Int.cast_ofNat_Int] at h0
    split
    · rw [h0] <;> rfl
    · split
      · rw [h0] <;> rfl
      · have : k = 0 := by omega
        subst this; rw [h0] <;> rfl
  · rcases h with rfl | rfl | rfl | rfl | rfl | rfl | rfl | rfl | rfl | rfl | rfl | rfl
    · exact (congrArg (·.bind some) (hx 1 _ rfl))
    · exact (congrArg (·.bind some) (hx 2 _ rfl))
    · exact (congrArg (·.bind some) (hx 3 _ rfl))
    · exact (congrArg (·.bind some) (hx 4 _ rfl))
    · exact (congrArg (·.bind some) (hx 5 _ rfl))
    · exact (congrArg (·.bind some) (hx 6 _ rfl))
    · exact (congrArg (·.bind some) (hx 7 _ rfl))
    · exact (congrArg (·.bind some) (hx 8 _ rfl))
    · exact (congrArg (·.bind some) (hx 9 _ rfl))
    · exact (congrArg (·.bind some) (hx 10 _ rfl))
    · exact (congrArg (·.bind some) (hx 11 _ rfl))
    · exact (congrArg (·.bind some) (hx 12 _ rfl)))
theorem msg_Name_eq (k : Int) : msg_Name k = some (kindOf k).name := msg_Name_r (by rw [msg_Name_b, msg_of_eq] <;> rfl)
def fl (k : Int) (has : Bool) : Int := if k = 1 then 4 else if k = 2 then 18 else if k = 4 then (bif has then 26 else 18) else if k = 5 then 8 else if k = 7 then 96 else if k = 8 then 32 else if k = 9 then (bif has then 66 else 2) else if k = 10 then 130 else if k = 12 then 1 else 0
theorem msg_fields_eq (m : Msg) : msg_fields m = some (fl m.kind m.has) := msg_fields_r (by
  rw [msg_fields_b, msg_of_eq, Option.bind_some]
  obtain ⟨k, rid, code, has, id, key, val, peer, peers, pairs⟩ := m
  simp only
  rcases kcases k with h | h
  · rw [kindOf_no h]
    have : fl k has = 0 := by unfold fl; repeat' (first | rw [if_neg (by omega)])
    rw [this] <;> rfl
  · rcases h with rfl | rfl | rfl | rfl | rfl | rfl | rfl | rfl | rfl | rfl | rfl | rfl <;> cases has <;> rfl)
def bare (m : Msg) : Msg :=
  if m.kind = 1 then ⟨m.kind, m.rid, 0, false, m.id, ⟨#[]⟩, ⟨#[]⟩, ⟨0, 0⟩, [], []⟩ else
  if m.kind = 2 then ⟨m.kind, m.rid, 0, m.has, 0, ⟨#[]⟩, ⟨#[]⟩, ⟨0, 0⟩, m.peers, []⟩ else
  if m.kind = 4 then ⟨m.kind, m.rid, 0, m.has, 0, ⟨#[]⟩, ⟨#[]⟩, bif m.has then m.peer else ⟨0, 0⟩, m.peers, []⟩ else
  if m.kind = 5 then ⟨m.kind, m.rid, 0, false, 0, ⟨#[]⟩, ⟨#[]⟩, m.peer, [], []⟩ else
  if m.kind = 7 then ⟨m.kind, m.rid, 0, false, 0, m.key, m.val, ⟨0, 0⟩, [], []⟩ else
  if m.kind = 8 then ⟨m.kind, m.rid, 0, false, 0, m.key, ⟨#[]⟩, ⟨0, 0⟩, [], []⟩ else
  if m.kind = 9 then ⟨m.kind, m.rid, 0, m.has, 0, ⟨#[]⟩, bif m.has then m.val else ⟨#[]⟩, ⟨0, 0⟩, [], []⟩ else
  if m.kind = 10 then ⟨m.kind, m.rid, 0, m.has, 0, ⟨#[]⟩, ⟨#[]⟩, ⟨0, 0⟩, [], m.pairs⟩ else
  if m.kind = 12 then ⟨m.kind, m.rid, m.code, false, 0, ⟨#[]⟩, ⟨#[]⟩, ⟨0, 0⟩, [], []⟩ else
  ⟨m.kind, m.rid, 0, false, 0, ⟨#[]⟩, ⟨#[]⟩, ⟨0, 0⟩, [], []⟩
theorem r08_Bare_eq {m : Msg} (hp : m.peers.length ≤ 1000) (hq : m.pairs.length ≤ 1000) : r08_Bare m = some (bare m) := r08_Bare_r (by
  have h1 : xroom ePeer 16 [] m.peers = true := xroom_eq ePeer (by simp; omega) (by omega)
  have h2 : xroom ePair 32 [] m.pairs = true := xroom_eq ePair (by simp; omega) (by omega)
  simp only [r08_Bare_b, h1, h2, cond_true, ieq_dec, bif_dec]
  unfold bare
  repeat' split
  all_goals (first | rfl | (rename_i h; rw [h] <;> rfl)  | (cases hh : m.has <;> simp_all) | simp_all))
theorem msg_Bare_eq {m : Msg} (hp : m.peers.length ≤ 1000) (hq : m.pairs.length ≤ 1000) : msg_Bare m = some (bare m) := msg_Bare_r (by
  have h1 : xroom ePeer 16 [] m.peers = true := xroom_eq ePeer (by simp; omega) (by omega)
  have h2 : xroom ePair 32 [] m.pairs = true := xroom_eq ePair (by simp; omega) (by omega)
  have e0 : ∀ f a b c d p q, msg_Bare_s0 m f a b c d p q = msg_Bare_s0_b m f a b c d p q := fun f a b c d p q => of_r (fun r => msg_Bare_s0_r) (by
    simp only [msg_Bare_s0_b, h1, h2, cond_true, ieq_dec, bif_dec]
    repeat' split
    all_goals exact Option.some_ne_none _)
  have e01 : ∀ f a b c d p q, msg_Bare_s0_1 m f a b c d p q = msg_Bare_s0_1_b m f a b c d p q := fun f a b c d p q => of_r (fun r => msg_Bare_s0_1_r) (by
    simp only [msg_Bare_s0_1_b, h1, h2, cond_true, ieq_dec, bif_dec]
    repeat' split
    all_goals exact Option.some_ne_none _)
  have e1 : ∀ f a b c p q, msg_Bare_s1 m f a b c p q = msg_Bare_s1_b m f a b c p q := fun f a b c p q => of_r (fun r => msg_Bare_s1_r) (by
    simp only [msg_Bare_s1_b, e0, e01, msg_Bare_s0_b, msg_Bare_s0_1_b, h1, h2, cond_true, ieq_dec, bif_dec]
    by_cases q1 : Ops.std.ibit .and .i64 f 16 = 0 <;> by_cases q2 : Ops.std.ibit .and .i64 f 32 = 0 <;> by_cases q3 : Ops.std.ibit .and .i64 f 64 = 0 <;> by_cases q4 : Ops.std.ibit .and .i64 f 128 = 0 <;> simp [q1, q2, q3, q4])
  have e2 : ∀ f a b, msg_Bare_s2 m f a b = msg_Bare_s2_b m f a b := fun f a b => of_r (fun r => msg_Bare_s2_r) (by
    simp only [msg_Bare_s2_b, e1, msg_Bare_s1_b, e0, e01, msg_Bare_s0_b, msg_Bare_s0_1_b, h1, h2, cond_true, ieq_dec, bif_dec]
    by_cases q1 : Ops.std.ibit .and .i64 f 16 = 0 <;> by_cases q2 : Ops.std.ibit .and .i64 f 32 = 0 <;> by_cases q3 : Ops.std.ibit .and .i64 f 64 = 0 <;> by_cases q4 : Ops.std.ibit .and .i64 f 128 = 0 <;> by_cases q5 : Ops.std.ibit .and .i64 f 4 = 0 <;> by_cases q6 : Ops.std.ibit .and .i64 f 8 = 0 <;> simp [q1, q2, q3, q4, q5, q6])
  rw [msg_Bare_b, msg_fields_eq, Option.bind_some]
  simp only [e2, msg_Bare_s2_b, e1, msg_Bare_s1_b, e0, e01, msg_Bare_s0_b, msg_Bare_s0_1_b, h1, h2, cond_true, ieq_dec, bif_dec]
  obtain ⟨k, rid, code, has, id, key, val, ⟨pi, pa⟩, peers, pairs⟩ := m
  simp only
  rcases kcases k with h | h
  · have hf : fl k has = 0 := by unfold fl; repeat' (first | rw [if_neg (by omega)])
    have hb : bare ⟨k, rid, code, has, id, key, val, ⟨pi, pa⟩, peers, pairs⟩ = ⟨k, rid, 0, false, 0, ⟨#[]⟩, ⟨#[]⟩, ⟨0, 0⟩, [], []⟩ := by unfold bare; simp only; repeat' (first | rw [if_neg (by omega)])
    rw [hf, hb] <;> rfl
  · rcases h with rfl | rfl | rfl | rfl | rfl | rfl | rfl | rfl | rfl | rfl | rfl | rfl <;> cases has <;> rfl)
end Go.Ab.Tryd
namespace Go.Ab.Tryd
open Go Go.Ab Go.Proofs Go.Lib
set_option linter.unusedVariables false
set_option linter.unusedSimpArgs false
theorem iltT {a b : Int} (h : a < b) : Ops.std.ilt a b = true := decide_eq_true h
theorem iltF {a b : Int} (h : ¬ a < b) : Ops.std.ilt a b = false := decide_eq_false h
theorem ieqT {a b : Int} (h : a = b) : Ops.std.ieq a b = true := decide_eq_true h
theorem ieqF {a b : Int} (h : ¬ a = b) : Ops.std.ieq a b = false := decide_eq_false h
theorem r08_Peers_eq {a b : List Peer} (hl : a.length ≤ 1000000) : r08_Peers a b = some (eqb a b) := r08_Peers_r (by
  rw [r08_Peers_b, xlen_eq, xlen_eq]
  by_cases he : a.length = b.length
  · have h := same_list ePeer (l := a) (l' := b) (by omega) he (L := fun i => r08_Peers_l0 a b i) (fun h => r08_Peers_l0_r (by simp [r08_Peers_l0_b, h]))
      (fun n x r _ h1 h2 h3 h => r08_Peers_l0_r (by simp [r08_Peers_l0_b, h1, h2, h3, ieq_dec]; exact h))
      (fun n x y _ h1 h2 h3 h => r08_Peers_l0_r (by
        simp only [r08_Peers_l0_b, h1, h2, h3, ieq_dec, bif_dec, cond_true, Option.bind_some]
        rw [ne_eq, Peer.ext'] at h
        split
        · split
          · exact absurd ⟨‹_›, ‹_›⟩ h
          · rfl
        · rfl))
    rw [ieqT (by omega), cond_true]
    rcases h with ⟨h1, h2⟩ | ⟨h1, h2⟩
    · rw [h2, h1, eqb_self] <;> rfl
    · rw [h2, eqb_ne h1] <;> rfl
  · rw [ieqF (by omega), eqb_ne (fun h => he (by rw [h]))] <;> rfl)
theorem Equal_Peer_eq {a b : List Peer} (hl : a.length ≤ 1000000) : Equal_Peer a b = some (eqb a b) := Equal_Peer_r (by
  rw [Equal_Peer_b, xlen_eq, xlen_eq]
  by_cases he : a.length = b.length
  · have h := same_list ePeer (l := a) (l' := b) (by omega) he (L := fun i => Equal_Peer_l0 a b i) (fun h => Equal_Peer_l0_r (by simp [Equal_Peer_l0_b, h]))
      (fun n x r _ h1 h2 h3 h => Equal_Peer_l0_r (by simp [Equal_Peer_l0_b, h1, h2, h3, ieq_dec]; exact h))
      (fun n x y _ h1 h2 h3 h => Equal_Peer_l0_r (by
        simp only [Equal_Peer_l0_b, h1, h2, h3, ieq_dec, bif_dec, cond_true, Option.bind_some]
        rw [ne_eq, Peer.ext'] at h
        split
        · split
          · exact absurd ⟨‹_›, ‹_›⟩ h
          · rfl
        · rfl))
    rw [ieqT (by omega), cond_true]
    rcases h with ⟨h1, h2⟩ | ⟨h1, h2⟩
    · rw [h2, h1, eqb_self] <;> rfl
    · rw [h2, eqb_ne h1] <;> rfl
  · rw [ieqF (by omega), eqb_ne (fun h => he (by rw [h]))] <;> rfl)
theorem seq_self (a : ByteArray) : Ops.std.seq a a = true := seq_iff.2 rfl
theorem r08_Pairs_eq {a b : List Pair} (hl : a.length ≤ 1000000) : r08_Pairs a b = some (eqb a b) := r08_Pairs_r (by
  rw [r08_Pairs_b, xlen_eq, xlen_eq]
  by_cases he : a.length = b.length
  · have h := same_list ePair (l := a) (l' := b) (by omega) he (L := fun i => r08_Pairs_l0 a b i) (fun h => r08_Pairs_l0_r (by simp [r08_Pairs_l0_b, h]))
      (fun n x r _ h1 h2 h3 h => r08_Pairs_l0_r (by simp [r08_Pairs_l0_b, h1, h2, h3, seq_self]; exact h))
      (fun n x y _ h1 h2 h3 h => r08_Pairs_l0_r (by
        simp only [r08_Pairs_l0_b, h1, h2, h3, seq_dec, bif_dec, cond_true, Option.bind_some]
        rw [ne_eq, Pair.ext'] at h
        split
        · split
          · exact absurd ⟨‹_›, ‹_›⟩ h
          · rfl
        · rfl))
    rw [ieqT (by omega), cond_true]
    rcases h with ⟨h1, h2⟩ | ⟨h1, h2⟩
    · rw [h2, h1, eqb_self] <;> rfl
    · rw [h2, eqb_ne h1] <;> rfl
  · rw [ieqF (by omega), eqb_ne (fun h => he (by rw [h]))] <;> rfl)
theorem Equal_Pair_eq {a b : List Pair} (hl : a.length ≤ 1000000) : Equal_Pair a b = some (eqb a b) := Equal_Pair_r (by
  rw [Equal_Pair_b, xlen_eq, xlen_eq]
  by_cases he : a.length = b.length
  · have h := same_list ePair (l := a) (l' := b) (by omega) he (L := fun i => Equal_Pair_l0 a b i) (fun h => Equal_Pair_l0_r (by simp [Equal_Pair_l0_b, h]))
      (fun n x r _ h1 h2 h3 h => Equal_Pair_l0_r (by simp [Equal_Pair_l0_b, h1, h2, h3, seq_self]; exact h))
      (fun n x y _ h1 h2 h3 h => Equal_Pair_l0_r (by
        simp only [Equal_Pair_l0_b, h1, h2, h3, seq_dec, bif_dec, cond_true, Option.bind_some]
        rw [ne_eq, Pair.ext'] at h
        split
        · split
          · exact absurd ⟨‹_›, ‹_›⟩ h
          · rfl
        · rfl))
    rw [ieqT (by omega), cond_true]
    rcases h with ⟨h1, h2⟩ | ⟨h1, h2⟩
    · rw [h2, h1, eqb_self] <;> rfl
    · rw [h2, eqb_ne h1] <;> rfl
  · rw [ieqF (by omega), eqb_ne (fun h => he (by rw [h]))] <;> rfl)
theorem beq_dec' (a b : Bool) : Ops.std.beq a b = decide (a = b) := by cases a <;> cases b <;> rfl
theorem r08_Same_eq {a b : Msg} (hp : a.peers.length ≤ 1000000) (hq : a.pairs.length ≤ 1000000) : r08_Same a b = some (eqb a b) := r08_Same_r (by
  simp only [r08_Same_b, r08_Peers_eq hp, r08_Pairs_eq hq, Option.bind_some, ieq_dec, beq_dec', seq_dec, bif_dec]
  obtain ⟨k, rid, code, has, id, key, val, ⟨pi, pa⟩, peers, pairs⟩ := a
  obtain ⟨k', rid', code', has', id', key', val', ⟨pi', pa'⟩, peers', pairs'⟩ := b
  simp only [eqb, Msg.mk.injEq, Peer.mk.injEq]
  by_cases c1 : k = k' <;> by_cases c2 : rid = rid' <;> by_cases c3 : code = code' <;> by_cases c4 : has = has' <;> by_cases c5 : id = id' <;> simp only [c1, c2, c3, c4, c5, if_true, if_false, false_and, and_false, decide_false, true_and] <;> first | rfl | skip
  all_goals (by_cases c6 : key = key' <;> by_cases c7 : val = val' <;> by_cases c8 : pi = pi' <;> by_cases c9 : pa = pa' <;> by_cases c10 : peers = peers' <;> by_cases c11 : pairs = pairs' <;> simp_all))
theorem msg_Same_s0_eq {a b : Msg} (hp : a.peers.length ≤ 1000000) (hq : a.pairs.length ≤ 1000000) (t : Bool) : msg_Same_s0 a b t = some (t && (eqb a.key b.key && (eqb a.val b.val && (eqb a.peer b.peer && (eqb a.peers b.peers && eqb a.pairs b.pairs))))) := msg_Same_s0_r (by
  simp only [msg_Same_s0_b, Equal_Peer_eq hp, Equal_Pair_eq hq, Option.bind_some, ieq_dec, seq_dec, eqb, Peer.ext']
  cases t
  · rfl
  · simp only [cond_true, Bool.true_and]
    by_cases c6 : a.key = b.key <;> by_cases c7 : a.val = b.val <;> by_cases c8 : a.peer.id = b.peer.id <;> by_cases c9 : a.peer.addr = b.peer.addr <;> by_cases c10 : a.peers = b.peers <;> by_cases c11 : a.pairs = b.pairs <;> simp_all)
theorem msg_Same_eq {a b : Msg} (hp : a.peers.length ≤ 1000000) (hq : a.pairs.length ≤ 1000000) : msg_Same a b = some (eqb a b) := msg_Same_r (by
  simp only [msg_Same_b, msg_Same_s0_eq hp hq, Option.bind_some, ieq_dec, beq_dec', bif_dec, Bool.false_and]
  obtain ⟨k, rid, code, has, id, key, val, peer, peers, pairs⟩ := a
  obtain ⟨k', rid', code', has', id', key', val', peer', peers', pairs'⟩ := b
  simp only [eqb, Msg.mk.injEq]
  by_cases c1 : k = k' <;> by_cases c2 : rid = rid' <;> by_cases c3 : code = code' <;> by_cases c4 : has = has' <;> by_cases c5 : id = id' <;> simp only [c1, c2, c3, c4, c5, if_true, if_false, false_and, and_false, decide_false, true_and, decide_true, Bool.true_and, Bool.false_and] <;> first | rfl | skip
  all_goals (by_cases c6 : key = key' <;> by_cases c7 : val = val' <;> by_cases c8 : peer = peer' <;> by_cases c10 : peers = peers' <;> by_cases c11 : pairs = pairs' <;> simp_all))
def keyed (m : Msg) : Bool := m.kind == 7 || m.kind == 8
def badKeys (l : List Pair) : Bool := l.any fun p => !isKey p.key
def longs (l : List Pair) : Bool := l.any fun p => decide (512 < p.val.size)
def isLong (m : Msg) : Bool := decide (512 < m.val.size) || decide (16 < m.peers.length) || decide (8 < m.pairs.length) || longs m.pairs
def isShort (m : Msg) : Bool := (decide (m.kind = 2) && decide (m.peers.length = 0)) || (decide (m.kind = 10) && decide (m.pairs.length = 0)) || (decide (m.kind = 12) && decide (m.code = 0))
noncomputable def rightE (m : Msg) : Int :=
  if m.kind < 1 ∨ 12 < m.kind then 9 else bif eqb m (bare m) then
    bif (keyed m && !isKey m.key) || badKeys m.pairs then 7 else bif isLong m then 5 else bif isShort m then 2 else 0
  else 1
structure Fit (m : Msg) : Prop where
  key : m.key.size < 1000000
  val : m.val.size < 1000000
  peers : m.peers.length ≤ 1000
  pairs : m.pairs.length ≤ 1000
  keys : ∀ p, p ∈ m.pairs → p.key.size < 1000000
theorem fst_any {α : Type} {p : α → Bool} {l : List α} : decide (0 ≤ fstI p l) = l.any p := by
  unfold fstI
  cases h : fst p l with
  | none =>
    have := fst_none h
    have e : l.any p = false := by
      rw [List.any_eq_false]; intro x hx; simp [this x hx]
    rw [e] <;> rfl
  | some n =>
    obtain ⟨x, hx, hp, _⟩ := fst_some h
    rw [List.any_eq_true.2 ⟨x, List.mem_of_getElem? hx, hp⟩]
    exact decide_eq_true (show (0 : Int) ≤ (n : Int) by omega)
theorem msg_text_1_eq {p : Pair} (h : p.key.size < 1000000) : msg_text_1 p = some (!isKey p.key) := msg_text_1_r (by rw [msg_text_1_b, msg_Key_eq h] <;> rfl)
theorem msg_long_1_eq (p : Pair) : msg_long_1 p = some (decide (512 < p.val.size)) := msg_long_1_r (by
  rw [msg_long_1_b, slen_nat, ilt_dec]; congr 1; exact decide_eq_decide.2 ⟨fun h => by omega, fun h => by omega⟩)
theorem IndexFunc_Pair_eq {l : List Pair} (hl : l.length ≤ 1000) (hk : ∀ p, p ∈ l → p.key.size < 1000000) : IndexFunc_Pair l = some (fstI (fun p => !isKey p.key) l) := IndexFunc_Pair_r (by
  have h := find_list ePair (l := l) (by omega) (p := fun p => !isKey p.key) (L := fun i => IndexFunc_Pair_l0 l i) (fun h => IndexFunc_Pair_l0_r (by simp [IndexFunc_Pair_l0_b, h]))
    (fun n x hx h1 h2 hp => IndexFunc_Pair_l0_r (by simp only [IndexFunc_Pair_l0_b, h1, h2, msg_text_1_eq (hk x hx), hp, cond_true, Option.bind_some]))
    (fun n x r hx h1 h2 hp h => IndexFunc_Pair_l0_r (by simp only [IndexFunc_Pair_l0_b, h1, h2, msg_text_1_eq (hk x hx), hp, cond_true, cond_false, Option.bind_some]; exact h))
  rw [IndexFunc_Pair_b, h]
  unfold fstI
  cases fst (fun p : Pair => !isKey p.key) l <;> rfl)
theorem IndexFunc_Pair_1_eq {l : List Pair} (hl : l.length ≤ 1000) : IndexFunc_Pair_1 l = some (fstI (fun p => decide (512 < p.val.size)) l) := IndexFunc_Pair_1_r (by
  have h := find_list ePair (l := l) (by omega) (p := fun p => decide (512 < p.val.size)) (L := fun i => IndexFunc_Pair_1_l0 l i) (fun h => IndexFunc_Pair_1_l0_r (by simp [IndexFunc_Pair_1_l0_b, h]))
    (fun n x hx h1 h2 hp => IndexFunc_Pair_1_l0_r (by simp only [IndexFunc_Pair_1_l0_b, h1, h2, msg_long_1_eq, hp, cond_true, Option.bind_some]))
    (fun n x r hx h1 h2 hp h => IndexFunc_Pair_1_l0_r (by simp only [IndexFunc_Pair_1_l0_b, h1, h2, msg_long_1_eq, hp, cond_true, cond_false, Option.bind_some]; exact h))
  rw [IndexFunc_Pair_1_b, h]
  unfold fstI
  cases fst (fun p : Pair => decide (512 < p.val.size)) l <;> rfl)
theorem kind_name {k : Int} : Ops.std.seq (kindOf k).name ⟨#[63]⟩ = decide (k < 1 ∨ 12 < k) := by
  rcases kcases k with h | h
  · rw [kindOf_no h, decide_eq_true h] <;> rfl
  · rcases h with rfl | rfl | rfl | rfl | rfl | rfl | rfl | rfl | rfl | rfl | rfl | rfl <;> rfl
theorem fl_key (m : Msg) : Ops.std.ieq (Ops.std.ibit .and .i64 (fl m.kind m.has) 32) 0 = !keyed m := by
  unfold keyed
  rcases kcases m.kind with h | h
  · have : fl m.kind m.has = 0 := by unfold fl; repeat' (first | rw [if_neg (by omega)])
    have h7 : (m.kind == 7) = false := by rw [beq_eq_false_iff_ne]; omega
    have h8 : (m.kind == 8) = false := by rw [beq_eq_false_iff_ne]; omega
    rw [this, h7, h8] <;> rfl
  · rcases h with h | h | h | h | h | h | h | h | h | h | h | h <;> rw [h] <;> cases m.has <;> rfl
theorem msg_text_eq {m : Msg} (h : Fit m) : msg_text m (fl m.kind m.has) = some (!((keyed m && !isKey m.key) || badKeys m.pairs)) := msg_text_r (by
  have hc : ContainsFunc_Pair m.pairs = some (badKeys m.pairs) := ContainsFunc_Pair_r (by
    rw [ContainsFunc_Pair_b, IndexFunc_Pair_eq h.pairs h.keys]; exact congrArg some fst_any)
  simp only [msg_text_b, fl_key, msg_Key_eq h.key, hc, Option.bind_some]
  cases keyed m <;> cases isKey m.key <;> simp)
theorem msg_long_eq {m : Msg} (h : Fit m) : msg_long m = some (isLong m) := msg_long_r (by
  have hc : ContainsFunc_Pair_1 m.pairs = some (longs m.pairs) := ContainsFunc_Pair_1_r (by
    rw [ContainsFunc_Pair_1_b, IndexFunc_Pair_1_eq h.pairs]; exact congrArg some fst_any)
  simp only [msg_long_b, hc, Option.bind_some, slen_nat, xlen_eq, ilt_dec, bif_dec, isLong]
  by_cases h1 : 512 < m.val.size
  · rw [if_pos (by omega)]; simp [h1]
  · by_cases h2 : 16 < m.peers.length
    · rw [if_neg (by omega), if_pos (by omega)]; simp [h2]
    · by_cases h3 : 8 < m.pairs.length
      · rw [if_neg (by omega), if_neg (by omega), if_pos (by omega)]; simp [h3]
      · rw [if_neg (by omega), if_neg (by omega), if_neg (by omega)]; simp [h1, h2, h3])
theorem len0 {α : Type} {l : List α} : decide ((l.length : Int) = 0) = decide (l.length = 0) := decide_eq_decide.2 ⟨fun h => by omega, fun h => by omega⟩
theorem msg_short_eq (m : Msg) : msg_short m = some (isShort m) := msg_short_r (by
  simp only [msg_short_b, xlen_eq, ieq_dec, bif_dec, isShort, len0]
  by_cases h1 : m.kind = 2
  · have h2 : ¬ m.kind = 10 := by omega
    have h3 : ¬ m.kind = 12 := by omega
    simp [h1]
  · by_cases h2 : m.kind = 10
    · simp [h2]
    · by_cases h3 : m.kind = 12
      · simp [h3]
      · simp [h1, h2, h3])
theorem msg_Right_eq {m : Msg} (h : Fit m) : msg_Right m = some (rightE m) := msg_Right_r (by
  have h1 := h.peers; have h2 := h.pairs
  simp only [msg_Right_b, msg_fields_eq, msg_Name_eq, kind_name, msg_Bare_eq h.peers h.pairs, msg_Same_eq (a := m) (b := bare m) (by omega) (by omega), msg_text_eq h, msg_long_eq h, msg_short_eq, Option.bind_some, rightE, bif_dec]
  split
  · rfl
  · cases eqb m (bare m)
    · rfl
    · cases (keyed m && !isKey m.key) || badKeys m.pairs
      · cases isLong m <;> cases isShort m <;> rfl
      · rfl)
theorem r08_names_eq : r08_names = some (kinds0.map (·.name)) := r08_names_r rfl
theorem r08_Name_eq (k : Int) : r08_Name k = some (kindOf k).name := r08_Name_r (by
  simp only [r08_Name_b, ilt_dec, bif_dec, r08_names_eq, Option.bind_some]
  rcases kcases k with h | h
  · rw [kindOf_no h]
    rcases h with h | h
    · rw [if_pos h]
    · rw [if_neg (by omega), if_pos h]
  · have hx : ∀ n : Nat, 1 ≤ n → n ≤ 12 → xget vT (kinds0.map (·.name)) (n : Int) = some (kindOf n).name := fun n hn hm => by
      rw [xget_nat, List.getElem?_map]
      unfold kindOf
      rw [if_pos (by omega), Int.toNat_natCast]
      have hl : n < kinds0.length := by show n < 13; omega
      rw [List.getElem?_eq_getElem hl] <;> rfl
    rw [if_neg (by omega), if_neg (by omega)]
    have := hx k.toNat (by omega) (by omega)
    rw [show ((k.toNat : Nat) : Int) = k by omega] at this
    rw [this] <;> rfl)
theorem r08_Right_l0_eq {m : Msg} (h : Fit m) (lo : Bool) : r08_Right_l0 m lo 0 = some (bif badKeys m.pairs then .inl () else .inr (lo || longs m.pairs)) :=
  for_list (σ := Bool) ePair (l := m.pairs) (by have := h.pairs; omega) (L := fun i s => r08_Right_l0 m s i) (res := fun n s rest => bif badKeys rest then .inl () else .inr (s || longs rest)) (Inv := fun _ _ => True)
    (fun s _ hh => r08_Right_l0_r (by simp [r08_Right_l0_b, hh, badKeys, longs]))
    (fun n x rest s _ hn hx hd h1 h2 h3 ih => r08_Right_l0_r (by
      have hm : x ∈ m.pairs := List.mem_of_getElem? hx
      simp only [r08_Right_l0_b, h1, h2, h3, cond_true, Option.bind_some, r08_Key_eq (h.keys x hm), slen_nat, ilt_dec, bif_dec, ih _ trivial, badKeys, longs, List.any_cons]
      cases isKey x.key
      · rfl
      · by_cases hv : 512 < x.val.size
        · rw [if_pos (by omega)]; simp [hv]
        · rw [if_neg (by omega)]; simp [hv])) lo trivial
theorem r08_Right_s1_eq {m : Msg} (h : Fit m) (lo : Bool) : r08_Right_s1 m lo = some (bif badKeys m.pairs then 7 else bif lo || longs m.pairs then 5 else bif isShort m then 2 else 0) := r08_Right_s1_r (by
  simp only [r08_Right_s1_b, r08_Right_l0_eq h lo, Option.bind_some, xlen_eq, ieq_dec]
  cases badKeys m.pairs
  · cases lo || longs m.pairs
    · simp only [cond_false, isShort, len0]
      by_cases h1 : m.kind = 2
      · simp [h1]; cases decide (m.peers = []) <;> rfl
      · by_cases h2 : m.kind = 10
        · simp [h2]; cases decide (m.pairs = []) <;> rfl
        · by_cases h3 : m.kind = 12
          · simp [h3]; cases decide (m.code = 0) <;> rfl
          · simp [h1, h2, h3]
    · rfl
  · rfl)
theorem r08_Right_s2_eq {m : Msg} (h : Fit m) : r08_Right_s2 m = some (bif badKeys m.pairs then 7 else bif isLong m then 5 else bif isShort m then 2 else 0) := r08_Right_s2_r (by
  simp only [r08_Right_s2_b, r08_Right_s1_eq h, Option.bind_some, slen_nat, xlen_eq, ilt_dec, bif_dec, isLong]
  by_cases h1 : 512 < m.val.size
  · rw [if_pos (by omega)]; simp [h1]
  · by_cases h2 : 16 < m.peers.length
    · rw [if_neg (by omega), if_pos (by omega)]; simp [h2]
    · rw [if_neg (by omega), if_neg (by omega)]
      by_cases h3 : 8 < m.pairs.length
      · have : (8 : Int) < m.pairs.length := by omega
        simp [h1, h2, h3, this]
      · have : ¬ (8 : Int) < m.pairs.length := by omega
        simp [h1, h2, h3, this])
theorem r08_Right_eq {m : Msg} (h : Fit m) : r08_Right m = some (rightE m) := r08_Right_r (by
  have h1 := h.peers; have h2 := h.pairs
  simp only [r08_Right_b, r08_Name_eq, kind_name, r08_Bare_eq h.peers h.pairs, r08_Same_eq (a := m) (b := bare m) (by omega) (by omega), r08_Key_eq h.key, r08_Right_s2_eq h, Option.bind_some, rightE, bif_dec, ieq_dec, keyed]
  split
  · rfl
  · cases eqb m (bare m)
    · rfl
    · by_cases h7 : m.kind = 7
      · rw [h7]; cases isKey m.key <;> rfl
      · by_cases h8 : m.kind = 8
        · rw [h8]; cases isKey m.key <;> rfl
        · rw [if_neg h7, if_neg h8, beq_eq_false_iff_ne.2 h7, beq_eq_false_iff_ne.2 h8] <;> rfl)
end Go.Ab.Tryd
namespace Go.Ab.Tryd
open Go Go.Ab Go.Proofs Go.Lib
set_option linter.unusedVariables false
set_option linter.unusedSimpArgs false
def be : Nat → Int → List Int
  | 0, _ => []
  | k + 1, n => be k (n / 256) ++ [n % 256]
def bval (l : List Int) : Int := l.foldl (fun n b => n * 256 + b) 0
def Byt (l : List Int) : Prop := ∀ x, x ∈ l → 0 ≤ x ∧ x < 256
theorem bval_app (l l' : List Int) : bval (l ++ l') = l'.foldl (fun n b => n * 256 + b) (bval l) := by unfold bval; rw [List.foldl_append]
theorem bval_snoc (l : List Int) (x : Int) : bval (l ++ [x]) = bval l * 256 + x := by rw [bval_app] <;> rfl
theorem byt_app {l l' : List Int} : Byt (l ++ l') ↔ Byt l ∧ Byt l' := by
  constructor
  · intro h; exact ⟨fun x hx => h x (List.mem_append_left _ hx), fun x hx => h x (List.mem_append_right _ hx)⟩
  · rintro ⟨h1, h2⟩ x hx
    rcases List.mem_append.1 hx with h | h
    · exact h1 x h
    · exact h2 x h
theorem snoc_ind {P : List Int → Prop} (h0 : P []) (h1 : ∀ l x, P l → P (l ++ [x])) : ∀ l, P l := by
  have : ∀ n (l : List Int), l.length = n → P l := by
    intro n
    induction n with
    | zero => intro l hl; rw [List.length_eq_zero_iff.1 hl]; exact h0
    | succ n ih =>
      intro l hl
      have hne : l ≠ [] := fun h => by rw [h] at hl; cases hl
      rw [← List.dropLast_concat_getLast hne]
      exact h1 _ _ (ih _ (by rw [List.length_dropLast]; omega))
  exact fun l => this _ l rfl
theorem bval_lt : ∀ l : List Int, Byt l → 0 ≤ bval l ∧ bval l < 256 ^ l.length := by
  refine snoc_ind (fun _ => ⟨Int.le_refl 0, by decide⟩) fun l x ih h => ?_
  obtain ⟨h1, h2⟩ := byt_app.1 h
  obtain ⟨a, b⟩ := ih h1
  have := h2 x (List.mem_singleton.2 rfl)
  rw [bval_snoc, List.length_append, List.length_singleton, Int.pow_succ]
  omega
theorem textOf_len (l : List Int) : (textOf l).size = l.length := by
  show (List.toArray _).size = _
  simp
theorem wrap_u8 (x : Int) : Ops.std.iwrap .u8 x = x % 256 := u8_wrap x
theorem wrap_u64 {x : Int} (h0 : 0 ≤ x) (h1 : x < 18446744073709551616) : Ops.std.iwrap .u64 x = x := by
  show IntKind.u64.wrap x = x
  rw [u64_wrap]; omega
theorem wrap_u32 {x : Int} (h0 : 0 ≤ x) (h1 : x < 4294967296) : Ops.std.iwrap .u32 x = x := by
  show IntKind.u32.wrap x = x
  rw [u32_wrap]; omega
theorem wrap_u16 {x : Int} (h0 : 0 ≤ x) (h1 : x < 65536) : Ops.std.iwrap .u16 x = x := by
  show IntKind.u16.wrap x = x
  rw [u16_wrap]; omega
theorem wrap_i64 {x : Int} (h0 : 0 ≤ x) (h1 : x < 9223372036854775808) : Ops.std.iwrap .i64 x = x := wrap64 (by omega) (by omega)
theorem room1 {l l' : List Int} (h : l.length + l'.length ≤ 1000000) : xroom vB 1 l l' = true := xroom_eq vB h (by omega)
end Go.Ab.Tryd
namespace Go.Ab.Tryd
open Go Go.Ab Go.Proofs Go.Lib
set_option linter.unusedVariables false
set_option linter.unusedSimpArgs false
set_option linter.unusedSectionVars false
def pText (k : Nat) (s : ByteArray) : List Int := be k (s.size : Int) ++ sbytes s
def pPeer (p : Peer) : List Int := be 8 p.id ++ be 2 p.addr
def pPair (p : Pair) : List Int := pText 1 p.key ++ pText 2 p.val
def pFlag (b : Bool) : List Int := [bif b then 1 else 0]
def pCode (m : Msg) : List Int := if m.kind = 12 then [m.code] else []
def pHas (m : Msg) : List Int := if m.kind = 2 ∨ m.kind = 4 ∨ m.kind = 9 ∨ m.kind = 10 then pFlag m.has else []
def pId (m : Msg) : List Int := if m.kind = 1 then be 8 m.id else []
def pPr (m : Msg) : List Int := if m.kind = 5 ∨ (m.kind = 4 ∧ m.has = true) then pPeer m.peer else []
def pPs (m : Msg) : List Int := if m.kind = 2 ∨ m.kind = 4 then be 1 (m.peers.length : Int) ++ m.peers.flatMap pPeer else []
def pKy (m : Msg) : List Int := if m.kind = 7 ∨ m.kind = 8 then pText 1 m.key else []
def pVl (m : Msg) : List Int := if m.kind = 7 ∨ (m.kind = 9 ∧ m.has = true) then pText 2 m.val else []
def pQs (m : Msg) : List Int := if m.kind = 10 then be 1 (m.pairs.length : Int) ++ m.pairs.flatMap pPair else []
def put (m : Msg) : List Int := be 1 m.kind ++ (be 4 m.rid ++ (pCode m ++ (pHas m ++ (pId m ++ (pPr m ++ (pPs m ++ (pKy m ++ (pVl m ++ pQs m))))))))
structure PeOk (p : Peer) : Prop where
  id0 : 0 ≤ p.id
  id1 : p.id < 18446744073709551616
  ad0 : 0 ≤ p.addr
  ad1 : p.addr < 65536
structure Small (m : Msg) : Prop where
  key : m.key.size ≤ 1000
  val : m.val.size ≤ 1000
  peers : m.peers.length ≤ 100
  pairs : m.pairs.length ≤ 100
  each : ∀ p, p ∈ m.pairs → p.key.size ≤ 1000 ∧ p.val.size ≤ 1000
structure Rng (m : Msg) : Prop where
  rid0 : 0 ≤ m.rid
  rid1 : m.rid < 4294967296
  code0 : 0 ≤ m.code
  code1 : m.code < 256
  id0 : 0 ≤ m.id
  id1 : m.id < 18446744073709551616
  peer : PeOk m.peer
  peers : ∀ p, p ∈ m.peers → PeOk p
theorem Small.fit {m : Msg} (h : Small m) : Fit m where
  key := by have := h.key; omega
  val := by have := h.val; omega
  peers := by have := h.peers; omega
  pairs := by have := h.pairs; omega
  keys := fun p hp => by have := (h.each p hp).1; omega
section
variable {r : List Int}
end
section
variable {r : List Int}
end
section
variable {m : Msg} (hs : Small m) (hr : Rng m)
include hs hr
end
end Go.Ab.Tryd
namespace Go.Ab.Tryd
open Go Go.Ab Go.Proofs Go.Lib
set_option linter.unusedVariables false
set_option linter.unusedSimpArgs false
set_option linter.unusedSectionVars false
abbrev RS := List Int × Int
def rFix (k : Nat) (s : RS) : Int × RS := if s.2 ≠ 0 then (0, s) else if s.1.length < k then (0, (s.1, 2)) else (bval (s.1.take k), (s.1.drop k, 0))
def rFail (e : Int) (s : RS) : RS := if s.2 ≠ 0 then s else (s.1, e)
def rFlag (s : RS) : Bool × RS := if s.2 ≠ 0 then (false, s) else match s.1 with
  | [] => (false, ([], 2))
  | x :: r => if 1 < x then (false, (x :: r, 3)) else (decide (x = 1), (r, 0))
def rTake (n : Int) (s : RS) : List Int × RS := if s.2 ≠ 0 then ([], s) else if n < 0 then ([], (s.1, 1)) else if (s.1.length : Int) < n then ([], (s.1, 2)) else (s.1.take n.toNat, (s.1.drop n.toNat, 0))
def rEnd (s : RS) : Int := if s.2 ≠ 0 then s.2 else if s.1 = [] then 0 else 4
def rMany (most : Int) (s : RS) : Int × RS := if most < (rFix 1 s).1 then (0, rFail 5 (rFix 1 s).2) else rFix 1 s
def rText (k : Nat) (most : Int) (s : RS) : ByteArray × RS :=
  let p := rFix k s
  let q := rTake p.1 (if most < p.1 then rFail 5 p.2 else p.2)
  (textOf q.1, q.2)
def rPeer (s : RS) : Peer × RS := (⟨(rFix 8 s).1, (rFix 2 (rFix 8 s).2).1⟩, (rFix 2 (rFix 8 s).2).2)
def rPair (s : RS) : Pair × RS := (⟨(rText 1 96 s).1, (rText 2 512 (rText 1 96 s).2).1⟩, (rText 2 512 (rText 1 96 s).2).2)
def rRep {α : Type} (f : RS → α × RS) : Nat → RS → List α × RS
  | 0, s => ([], s)
  | n + 1, s => ((f s).1 :: (rRep f n (f s).2).1, (rRep f n (f s).2).2)
def rPeers (s : RS) : List Peer × RS := rRep rPeer (rMany 16 s).1.toNat (rMany 16 s).2
def rPairs (s : RS) : List Pair × RS := rRep rPair (rMany 8 s).1.toNat (rMany 8 s).2
theorem rFix_suf (k : Nat) (s : RS) : (rFix k s).2.1 <:+ s.1 := by
  unfold rFix; split
  · exact List.suffix_refl _
  · split
    · exact List.suffix_refl _
    · exact List.drop_suffix _ _
theorem rFail_suf (e : Int) (s : RS) : (rFail e s).1 = s.1 := by unfold rFail; split <;> rfl
theorem rFlag_suf (s : RS) : (rFlag s).2.1 <:+ s.1 := by
  unfold rFlag; split
  · exact List.suffix_refl _
  · split
    · rename_i h; rw [h]; exact List.suffix_refl _
    · rename_i x r h; rw [h]
      split
      · exact List.suffix_refl _
      · exact List.suffix_cons _ _
theorem rTake_suf (n : Int) (s : RS) : (rTake n s).2.1 <:+ s.1 := by
  unfold rTake; repeat' split
  · exact List.suffix_refl _
  · exact List.suffix_refl _
  · exact List.suffix_refl _
  · exact List.drop_suffix _ _
theorem rMany_suf (m : Int) (s : RS) : (rMany m s).2.1 <:+ s.1 := by
  unfold rMany; split
  · rw [rFail_suf]; exact rFix_suf 1 s
  · exact rFix_suf 1 s
theorem rText_suf (k : Nat) (m : Int) (s : RS) : (rText k m s).2.1 <:+ s.1 := by
  refine (rTake_suf _ _).trans ?_
  split
  · rw [rFail_suf]; exact rFix_suf k s
  · exact rFix_suf k s
theorem rPeer_suf (s : RS) : (rPeer s).2.1 <:+ s.1 := (rFix_suf 2 _).trans (rFix_suf 8 s)
theorem rPair_suf (s : RS) : (rPair s).2.1 <:+ s.1 := (rText_suf 2 512 _).trans (rText_suf 1 96 s)
theorem rRep_suf {α : Type} {f : RS → α × RS} (hf : ∀ s, (f s).2.1 <:+ s.1) : ∀ (n : Nat) (s : RS), (rRep f n s).2.1 <:+ s.1
  | 0, s => List.suffix_refl _
  | n + 1, s => (rRep_suf hf n _).trans (hf s)
theorem byt_suf {l l' : List Int} (h : Byt l) (hs : l' <:+ l) : Byt l' := fun x hx => h x (hs.subset hx)
theorem rFix_lt (k : Nat) (s : RS) (h : Byt s.1) : 0 ≤ (rFix k s).1 ∧ (rFix k s).1 < 256 ^ k := by
  have hp : (0 : Int) < 256 ^ k := Int.pow_pos (by omega)
  unfold rFix
  split
  · exact ⟨Int.le_refl 0, hp⟩
  · split
    · exact ⟨Int.le_refl 0, hp⟩
    · rename_i h1
      have := bval_lt (s.1.take k) (fun x hx => h x (List.mem_of_mem_take hx))
      rw [List.length_take, Nat.min_eq_left (by omega)] at this
      exact this
theorem rMany_lt {m : Int} (hm : 0 ≤ m) {s : RS} (h : Byt s.1) : 0 ≤ (rMany m s).1 ∧ (rMany m s).1 ≤ m := by
  have := rFix_lt 1 s h
  unfold rMany
  split
  · exact ⟨Int.le_refl 0, hm⟩
  · exact ⟨this.1, by omega⟩
theorem or256 {n x : Int} (n0 : 0 ≤ n) (n1 : n * 256 < 18446744073709551616) (x0 : 0 ≤ x) (x1 : x < 256) : Ops.std.ibit .or .u64 (n * 256) x = n * 256 + x := by
  obtain ⟨N, rfl⟩ := Int.eq_ofNat_of_zero_le n0
  obtain ⟨X, rfl⟩ := Int.eq_ofNat_of_zero_le x0
  show IntKind.u64.wrap (((BitVec.ofInt 64 ((N : Int) * 256) ||| BitVec.ofInt 64 (X : Int)).toNat : Nat) : Int) = _
  rw [show (N : Int) * 256 = ((256 * N : Nat) : Int) by omega, BitVec.ofInt_natCast, BitVec.ofInt_natCast, BitVec.toNat_or, BitVec.toNat_ofNat, BitVec.toNat_ofNat, Nat.mod_eq_of_lt (by omega), Nat.mod_eq_of_lt (by omega), u64_wrap]
  have := Nat.two_pow_add_eq_or_of_lt (i := 8) (b := X) (by omega) N
  rw [show 256 * N = 2 ^ 8 * N by omega, ← this]
  omega
section
variable {s : RS} (hb : Byt s.1) (hl : s.1.length ≤ 100000)
include hb hl
theorem fix_l0 {mt : Int} {md : Bool} {t : List Int} {l : List Int} (hl : l.length ≤ 8) (hb : Byt l) : buf_Reader_Fix_l0 0 (xlen vB l) 0 md t mt l = some (bval l, md, t, mt, l) := by
  have h := for_list (σ := Int) vB (l := l) (by omega) (L := fun i n => buf_Reader_Fix_l0 n (xlen vB l) i md t mt l) (res := fun k n rest => (rest.foldl (fun n b => n * 256 + b) n, md, t, mt, l)) (Inv := fun k n => k ≤ 8 → 0 ≤ n ∧ n < 256 ^ k)
    (fun n _ hh => buf_Reader_Fix_l0_r (by rw [buf_Reader_Fix_l0_b, hh] <;> rfl))
    (fun k x rest n hi hk hx hd h1 h2 h3 ih => buf_Reader_Fix_l0_r (by
      have hx' := hb x (List.mem_of_getElem? hx)
      obtain ⟨n0, n1⟩ := hi (by omega)
      have n2 : n * 256 + x < 256 ^ (k + 1) := by rw [Int.pow_succ]; omega
      have hk8 : (256 : Int) ^ (k + 1) ≤ 256 ^ 8 := by
        have : ∀ d : Nat, (256 : Int) ^ (k + 1) ≤ 256 ^ (k + 1 + d) := fun d => by
          induction d with
          | zero => exact Int.le_refl _
          | succ d ih => rw [← Nat.add_assoc, Int.pow_succ]; have : (0 : Int) < 256 ^ (k + 1 + d) := Int.pow_pos (by omega); omega
        have := this (8 - (k + 1))
        rwa [show k + 1 + (8 - (k + 1)) = 8 by omega] at this
      have h8 : (256 : Int) ^ 8 = 18446744073709551616 := by decide
      have e1 : Ops.std.ishl .u64 n 8 = n * 256 := by
        show IntKind.u64.wrap (n * 2 ^ (min (8 : Int).toNat 64)) = _
        rw [u64_wrap]
        show (n * 256) % 18446744073709551616 = _
        omega
      have e2 : Ops.std.ibit .or .u64 (n * 256) x = n * 256 + x := or256 n0 (by omega) hx'.1 hx'.2
      rw [buf_Reader_Fix_l0_b, h1, cond_true, h2, Option.bind_some, iltF (by omega), cond_false, h3, wrap_u64 hx'.1 (by omega), e1, e2, ih _ (fun _ => ⟨by omega, n2⟩)] <;> rfl)) 0 (fun _ => ⟨Int.le_refl 0, by decide⟩)
  exact h
theorem dead_eq (r : List Int) (e : Int) : buf_Reader_dead true r e = some (decide (e ≠ 0), true) := buf_Reader_dead_r (by
  rw [buf_Reader_dead_b, cond_true, ieq_dec]; congr 2; by_cases h : e = 0 <;> simp [h])
theorem take_eq {n : Nat} (hn : n ≤ s.1.length) (e : Int) : buf_Reader_take (n : Int) true s.1 e = some (s.1.drop n, s.1.take n) := buf_Reader_take_r (by
  rw [buf_Reader_take_b, xsub_eq, if_pos ⟨by omega, by omega, by omega⟩, Option.bind_some, xsub_eq, xlen_eq, if_pos ⟨by omega, by omega, by omega⟩]
  simp only [Int.toNat_natCast, Option.bind_some, List.take_length]
  rw [show (s.1.take n).drop (0 : Int).toNat = s.1.take n from rfl, room1 (by rw [List.length_take]; simp; omega), cond_true])
theorem lacks_eq (n : Nat) (e : Int) : buf_Reader_lacks (n : Int) true s.1 e = some (bif decide (s.1.length < n) then (true, 2) else (false, e)) := buf_Reader_lacks_r (by
  rw [buf_Reader_lacks_b, xlen_eq, ile_dec]
  by_cases h : s.1.length < n
  · rw [decide_eq_false (by omega), decide_eq_true h] <;> rfl
  · rw [decide_eq_true (by omega), decide_eq_false h] <;> rfl)
theorem Fix_eq {k : Nat} (h1 : 1 ≤ k) (hk : k ≤ 8) : buf_Reader_Fix (k : Int) true s.1 s.2 = some ((rFix k s).1, true, (rFix k s).2.1, (rFix k s).2.2) := buf_Reader_Fix_r (by
  rw [buf_Reader_Fix_b, dead_eq hb hl, Option.bind_some]
  dsimp only
  unfold rFix
  by_cases he : s.2 = 0
  · have hs1 : buf_Reader_Fix_s1 (k : Int) s.1 s.2 true = some (if s.1.length < k then (0, true, s.1, 2) else (bval (s.1.take k), true, s.1.drop k, 0)) := buf_Reader_Fix_s1_r (by
      rw [buf_Reader_Fix_s1_b, lacks_eq hb hl, Option.bind_some]
      by_cases h : s.1.length < k
      · rw [decide_eq_true h, if_pos h] <;> rfl
      · rw [decide_eq_false h, if_neg h, cond_false]
        dsimp only
        rw [cond_false, take_eq hb hl (n := k) (by omega), Option.bind_some]
        dsimp only
        rw [fix_l0 hb hl (by rw [List.length_take]; omega) (fun x hx => hb x (List.mem_of_mem_take hx)), he] <;> rfl)
    have hn : ¬ s.2 ≠ 0 := by simp [he]
    rw [decide_eq_false hn, cond_false, iltF (by omega), cond_false, iltF (by omega), cond_false, hs1, if_neg hn]
    by_cases h : s.1.length < k
    · rw [if_pos h, if_pos h] <;> rfl
    · rw [if_neg h, if_neg h] <;> rfl
  · rw [decide_eq_true he, cond_true, if_pos he])
theorem Fail_eq (e : Int) : buf_Reader_Fail e true s.1 s.2 = some (true, (rFail e s).2) := buf_Reader_Fail_r (by
  rw [buf_Reader_Fail_b, dead_eq hb hl, Option.bind_some]
  dsimp only
  unfold rFail
  by_cases he : s.2 = 0
  · rw [decide_eq_false (by simp [he]), if_neg (by simp [he])] <;> rfl
  · rw [decide_eq_true he, if_pos he] <;> rfl)
theorem Err_eq : buf_Reader_Err true s.1 s.2 = some (s.2, true) := buf_Reader_Err_r rfl
theorem End_eq : buf_Reader_End true s.1 s.2 = some (rEnd s, true) := buf_Reader_End_r (by
  rw [buf_Reader_End_b, Err_eq hb hl, Option.bind_some]
  dsimp only
  unfold rEnd
  by_cases he : s.2 = 0
  · rw [ieqT he, if_neg (by simp [he]), cond_true, xlen_eq]
    by_cases h0 : s.1 = []
    · rw [h0, if_pos rfl] <;> rfl
    · have : 0 < s.1.length := List.length_pos_iff.2 h0
      rw [iltT (by omega), if_neg h0] <;> rfl
  · rw [ieqF he, if_pos he] <;> rfl)
theorem Take_eq {n : Int} (hn : n < 9223372036854775808) : buf_Reader_Take n true s.1 s.2 = some (true, (rTake n s).2.1, (rTake n s).2.2, (rTake n s).1) := buf_Reader_Take_r (by
  rw [buf_Reader_Take_b, dead_eq hb hl, Option.bind_some]
  dsimp only
  unfold rTake
  by_cases he : s.2 = 0
  · rw [decide_eq_false (by simp [he]), if_neg (by simp [he]), cond_false]
    by_cases h0 : n < 0
    · rw [iltT h0, if_pos h0] <;> rfl
    · rw [iltF h0, if_neg h0, cond_false]
      obtain ⟨N, rfl⟩ := Int.eq_ofNat_of_zero_le (show 0 ≤ n by omega)
      have hlk := lacks_eq hb hl (s := s) N s.2
      by_cases h : s.1.length < N
      · rw [decide_eq_true h] at hlk
        rw [hlk, if_pos (by omega)] <;> rfl
      · rw [decide_eq_false h] at hlk
        rw [hlk, if_neg (by omega)]
        simp only [Option.bind_some, cond_false]
        rw [take_eq hb hl (by omega), he] <;> rfl
  · rw [decide_eq_true he, if_pos he] <;> rfl)
theorem Flag_eq : buf_Reader_Flag true s.1 s.2 = some ((rFlag s).1, true, (rFlag s).2.1, (rFlag s).2.2) := buf_Reader_Flag_r (by
  have hlk := lacks_eq hb hl (s := s) 1 s.2
  have hlk' : buf_Reader_lacks 1 true s.1 s.2 = _ := hlk
  rw [buf_Reader_Flag_b, dead_eq hb hl, Option.bind_some]
  dsimp only
  by_cases he : s.2 = 0
  · have hs0 : ∀ x r, s.1 = x :: r → buf_Reader_Flag_s0 s.1 true s.2 = some (if 1 < x then (false, true, x :: r, 3) else (decide (x = 1), true, r, 0)) := fun x r h => buf_Reader_Flag_s0_r (by
      have g : ∀ (y : Int) (q : List Int), xget vB (y :: q) 0 = some y := fun y q => xget_nat vB _ 0
      have tk := take_eq hb hl (s := s) (n := 1) (by rw [h]; simp) s.2
      have tk' : buf_Reader_take 1 true s.1 s.2 = _ := tk
      rw [buf_Reader_Flag_s0_b, tk', h, g, Option.bind_some, ilt_dec]
      by_cases hx : 1 < x
      · rw [decide_eq_true hx, if_pos hx] <;> rfl
      · rw [decide_eq_false hx, if_neg hx, cond_false, Option.bind_some]
        dsimp only
        rw [show (x :: r).take 1 = [x] from rfl, g, Option.bind_some, ieq_dec, he] <;> rfl)
    rw [decide_eq_false (by simp [he]), hlk', cond_false, Option.bind_some]
    unfold rFlag
    rw [if_neg (by simp [he])]
    cases h : s.1 with
    | nil => rfl
    | cons x r =>
      have hh := hs0 x r h
      rw [h] at hh
      rw [decide_eq_false (by simp), cond_false]
      dsimp only
      rw [cond_false, hh]
      by_cases hx : 1 < x
      · rw [if_pos hx, if_pos hx] <;> rfl
      · rw [if_neg hx, if_neg hx] <;> rfl
  · have : rFlag s = (false, s) := by unfold rFlag; rw [if_pos he]
    rw [decide_eq_true he, this] <;> rfl)
end
theorem rd_fact (f : RS → RS) {s : RS} (hb : Byt s.1) (hl : s.1.length ≤ 100000) (h : (f s).1 <:+ s.1) : Byt (f s).1 ∧ (f s).1.length ≤ 100000 := ⟨byt_suf hb h, Nat.le_trans h.length_le hl⟩
section
variable {s : RS} (hb : Byt s.1) (hl : s.1.length ≤ 100000)
include hb hl
theorem peerR_eq : fixed_peer true s.1 s.2 = some ((rPeer s).1, true, (rPeer s).2.1, (rPeer s).2.2) := fixed_peer_r (by
  obtain ⟨b1, l1⟩ := rd_fact (fun s => (rFix 8 s).2) hb hl (rFix_suf 8 s)
  have f1 : buf_Reader_Fix 8 true s.1 s.2 = _ := Fix_eq hb hl (k := 8) (by omega) (by omega)
  have f2 : buf_Reader_Fix 2 true (rFix 8 s).2.1 (rFix 8 s).2.2 = _ := Fix_eq b1 l1 (k := 2) (by omega) (by omega)
  have hlt := rFix_lt 2 (rFix 8 s).2 b1
  rw [fixed_peer_b, f1, Option.bind_some]
  dsimp only
  rw [f2, Option.bind_some]
  dsimp only
  rw [wrap_u16 hlt.1 hlt.2] <;> rfl)
theorem many_eq {m : Int} (hm : 0 ≤ m) : fixed_many m true s.1 s.2 = some ((rMany m s).1, true, (rMany m s).2.1, (rMany m s).2.2) := fixed_many_r (by
  obtain ⟨b1, l1⟩ := rd_fact (fun s => (rFix 1 s).2) hb hl (rFix_suf 1 s)
  have f1 : buf_Reader_Fix 1 true s.1 s.2 = _ := Fix_eq hb hl (k := 1) (by omega) (by omega)
  have hlt := rFix_lt 1 s hb
  have h256 : (256 : Int) ^ 1 = 256 := by decide
  rw [fixed_many_b, f1, Option.bind_some]
  dsimp only
  rw [wrap_i64 hlt.1 (by omega)]
  unfold rMany
  by_cases h : m < (rFix 1 s).1
  · have hne : (rFail 5 (rFix 1 s).2).2 ≠ 0 := by
      unfold rFail
      split
      · assumption
      · show (5 : Int) ≠ 0; omega
    have e1 := Err_eq (s := ((rFix 1 s).2.1, (rFail 5 (rFix 1 s).2).2)) b1 l1
    dsimp only at e1
    rw [iltT h, cond_true, Fail_eq b1 l1, Option.bind_some]
    dsimp only
    rw [e1, Option.bind_some, if_pos h]
    dsimp only
    rw [ieqF hne, cond_false, rFail_suf]
  · rw [iltF h, cond_false, Err_eq b1 l1, Option.bind_some, if_neg h]
    dsimp only
    by_cases h0 : (rFix 1 s).2.2 = 0
    · rw [ieqT h0] <;> rfl
    · have : (rFix 1 s).1 = 0 := by
        unfold rFix at h0 ⊢
        split
        · rfl
        · split
          · rfl
          · rename_i a b; rw [if_neg a, if_neg b] at h0; exact absurd rfl h0
      rw [ieqF h0, cond_false, this])
theorem textR_eq {k : Nat} {m : Int} (h1 : 1 ≤ k) (hk : k ≤ 7) (hm : 0 ≤ m) (hm1 : m < 1000000) : fixed_text (k : Int) m true s.1 s.2 = some ((rText k m s).1, true, (rText k m s).2.1, (rText k m s).2.2) := fixed_text_r (by
  obtain ⟨b1, l1⟩ := rd_fact (fun s => (rFix k s).2) hb hl (rFix_suf k s)
  have hlt := rFix_lt k s hb
  have h7 : (256 : Int) ^ k ≤ 256 ^ 7 := by
    have : ∀ d : Nat, (256 : Int) ^ k ≤ 256 ^ (k + d) := fun d => by
      induction d with
      | zero => exact Int.le_refl _
      | succ d ih => rw [← Nat.add_assoc, Int.pow_succ]; have : (0 : Int) < 256 ^ (k + d) := Int.pow_pos (by omega); omega
    have := this (7 - k)
    rwa [show k + (7 - k) = 7 by omega] at this
  have h7' : (256 : Int) ^ 7 = 72057594037927936 := by decide
  rw [fixed_text_b, Fix_eq hb hl h1 (by omega), Option.bind_some]
  dsimp only
  rw [wrap_u64 hm (by omega), wrap_i64 hlt.1 (by omega)]
  by_cases h : m < (rFix k s).1
  · have e : rText k m s = (textOf (rTake (rFix k s).1 (rFail 5 (rFix k s).2)).1, (rTake (rFix k s).1 (rFail 5 (rFix k s).2)).2) := by unfold rText; simp only [if_pos h]
    have t := Take_eq (s := rFail 5 (rFix k s).2) (n := (rFix k s).1) (by rw [rFail_suf]; exact b1) (by rw [rFail_suf]; exact l1) (by omega)
    rw [rFail_suf] at t
    rw [iltT h, cond_true, Fail_eq b1 l1, Option.bind_some]
    dsimp only
    rw [t, Option.bind_some, e]
    dsimp only
    rw [xsofb_eq] <;> rfl
  · have e : rText k m s = (textOf (rTake (rFix k s).1 (rFix k s).2).1, (rTake (rFix k s).1 (rFix k s).2).2) := by unfold rText; simp only [if_neg h]
    rw [iltF h, cond_false, Take_eq b1 l1 (by omega), Option.bind_some, e]
    dsimp only
    rw [xsofb_eq] <;> rfl)
end
end Go.Ab.Tryd
namespace Go.Ab.Tryd
open Go Go.Ab Go.Proofs Go.Lib
set_option linter.unusedVariables false
set_option linter.unusedSimpArgs false
set_option linter.unusedSectionVars false
theorem rTake_mem {n : Int} {s : RS} {x : Int} (h : x ∈ (rTake n s).1) : x ∈ s.1 := by
  unfold rTake at h
  split at h
  · cases h
  · split at h
    · cases h
    · split at h
      · cases h
      · exact List.mem_of_mem_take h
theorem rTake_len {n : Int} {s : RS} : (rTake n s).1.length ≤ n.toNat := by
  unfold rTake
  split
  · simp
  · split
    · simp
    · split
      · simp
      · rw [List.length_take]; omega
def atOf (B l : List Int) : Int := (B.length : Int) - l.length
section
variable {B : List Int} {s : RS} (hb : Byt B) (hl : B.length ≤ 100000) (hs : s.1 <:+ B)
include hb hl hs
theorem cLeft_eq : r06_Cur_left B (atOf B s.1) s.2 = some (s.1.length : Int) := r06_Cur_left_r (by
  have := hs.length_le
  rw [r06_Cur_left_b, xlen_eq, isubS (by unfold atOf; omega) (by unfold atOf; omega)]
  congr 1; unfold atOf; omega)
theorem drop_at {n : Nat} (hn : n ≤ s.1.length) : xsub vB B (atOf B s.1) (atOf B s.1 + n) = some (s.1.take n) := by
  have hle := hs.length_le
  have e : B.drop (B.length - s.1.length) = s.1 := (List.suffix_iff_eq_drop.1 hs).symm
  have e1 : atOf B s.1 = ((B.length - s.1.length : Nat) : Int) := by unfold atOf; omega
  have e2 : atOf B s.1 + n = ((B.length - s.1.length + n : Nat) : Int) := by unfold atOf; omega
  rw [e2, e1, xsub_eq, if_pos ⟨by omega, by omega, by omega⟩, Int.toNat_natCast, Int.toNat_natCast, List.drop_take, e]
  congr 2; omega
theorem at_drop {n : Nat} (hn : n ≤ s.1.length) : atOf B s.1 + n = atOf B (s.1.drop n) := by
  unfold atOf; rw [List.length_drop]; omega
theorem cTake_eq {n : Int} (hn : n < 9223372036854775808) : r06_Cur_Take n B (atOf B s.1) s.2 = some (atOf B (rTake n s).2.1, (rTake n s).2.2, (rTake n s).1) := r06_Cur_Take_r (by
  have hle := hs.length_le
  rw [r06_Cur_Take_b, cLeft_eq hb hl hs, Option.bind_some]
  unfold rTake
  by_cases he : s.2 = 0
  · have hn0 : ¬ s.2 ≠ 0 := by simp [he]
    rw [ieqT he, cond_true, if_neg hn0]
    by_cases h0 : n < 0
    · rw [iltT h0, if_pos h0] <;> rfl
    · rw [iltF h0, if_neg h0, cond_false]
      obtain ⟨N, rfl⟩ := Int.eq_ofNat_of_zero_le (show 0 ≤ n by omega)
      by_cases h : (s.1.length : Int) < N
      · rw [iltT h, if_pos h] <;> rfl
      · have ha : 0 ≤ atOf B s.1 := by unfold atOf; omega
        have hb' : atOf B s.1 ≤ 100000 := by unfold atOf; omega
        rw [iltF h, if_neg h, cond_false, iaddS (by omega) (by omega), isubS (by omega) (by omega), Int.add_sub_cancel, drop_at hb hl hs (by omega), Option.bind_some, room1 (by rw [List.length_take]; simp; omega), cond_true, at_drop hb hl hs (by omega), he, Int.toNat_natCast]
  · rw [ieqF he, if_pos he] <;> rfl)
theorem cFix_l0 {a e : Int} {l : List Int} (hl : l.length ≤ 8) (hb : Byt l) : r06_Cur_Fix_l0 B 0 0 a e l = some (bval l, a, e, l) := by
  have h := for_list (σ := Int) vB (l := l) (by omega) (L := fun i n => r06_Cur_Fix_l0 B n i a e l) (res := fun k n rest => (rest.foldl (fun n b => n * 256 + b) n, a, e, l)) (Inv := fun k n => k ≤ 8 → 0 ≤ n ∧ n < 256 ^ k)
    (fun n _ hh => r06_Cur_Fix_l0_r (by rw [r06_Cur_Fix_l0_b, hh] <;> rfl))
    (fun k x rest n hi hk hx hd h1 h2 h3 ih => r06_Cur_Fix_l0_r (by
      have hx' := hb x (List.mem_of_getElem? hx)
      obtain ⟨n0, n1⟩ := hi (by omega)
      have n2 : n * 256 + x < 256 ^ (k + 1) := by rw [Int.pow_succ]; omega
      have hk8 : (256 : Int) ^ (k + 1) ≤ 256 ^ 8 := by
        have : ∀ d : Nat, (256 : Int) ^ (k + 1) ≤ 256 ^ (k + 1 + d) := fun d => by
          induction d with
          | zero => exact Int.le_refl _
          | succ d ih => rw [← Nat.add_assoc, Int.pow_succ]; have : (0 : Int) < 256 ^ (k + 1 + d) := Int.pow_pos (by omega); omega
        have := this (8 - (k + 1))
        rwa [show k + 1 + (8 - (k + 1)) = 8 by omega] at this
      have h8 : (256 : Int) ^ 8 = 18446744073709551616 := by decide
      have e1 : Ops.std.imul .u64 n 256 = n * 256 := by
        show IntKind.u64.wrap (n * 256) = _
        rw [u64_wrap]; omega
      have e2 : Ops.std.iadd .u64 (n * 256) x = n * 256 + x := by
        show IntKind.u64.wrap (n * 256 + x) = _
        rw [u64_wrap]; omega
      rw [r06_Cur_Fix_l0_b, h1, cond_true, h2, Option.bind_some, h3, wrap_u64 hx'.1 (by omega), e1, e2, ih _ (fun _ => ⟨by omega, n2⟩)] <;> rfl)) 0 (fun _ => ⟨Int.le_refl 0, by decide⟩)
  exact h
theorem cFix_eq {k : Nat} (h1 : 1 ≤ k) (hk : k ≤ 8) : r06_Cur_Fix (k : Int) B (atOf B s.1) s.2 = some ((rFix k s).1, atOf B (rFix k s).2.1, (rFix k s).2.2) := r06_Cur_Fix_r (by
  have hs1 : r06_Cur_Fix_s1 (k : Int) B (atOf B s.1) s.2 = some ((rFix k s).1, atOf B (rFix k s).2.1, (rFix k s).2.2) := r06_Cur_Fix_s1_r (by
    rw [r06_Cur_Fix_s1_b, cTake_eq hb hl hs (by omega), Option.bind_some]
    dsimp only
    have hbt : Byt (rTake (k : Int) s).1 ∧ (rTake (k : Int) s).1.length ≤ 8 := ⟨fun x hx => hb x (hs.subset (rTake_mem hx)), by have := rTake_len (n := (k : Int)) (s := s); omega⟩
    rw [cFix_l0 hb hl hs hbt.2 hbt.1, Option.bind_some]
    dsimp only
    have e : ((bval (rTake (k : Int) s).1, (rTake (k : Int) s).2) : Int × RS) = rFix k s := by
      unfold rTake rFix
      by_cases he : s.2 ≠ 0
      · rw [if_pos he, if_pos he] <;> rfl
      · rw [if_neg he, if_neg he, if_neg (by omega)]
        by_cases h : s.1.length < k
        · rw [if_pos (by omega), if_pos h] <;> rfl
        · rw [if_neg (by omega), if_neg h, Int.toNat_natCast]
    rw [← e])
  rw [r06_Cur_Fix_b, iltF (by omega), cond_false, iltF (by omega), cond_false, hs1]
  cases Ops.std.ieq s.2 0 <;> rfl)
theorem cFail_eq (e : Int) (a : Int) : r06_Cur_Fail e B a s.2 = some (rFail e s).2 := r06_Cur_Fail_r (by
  rw [r06_Cur_Fail_b]; unfold rFail
  by_cases he : s.2 = 0
  · rw [ieqT he, if_neg (by simp [he])] <;> rfl
  · rw [ieqF he, if_pos he] <;> rfl)
theorem cFlag_eq : r06_Cur_Flag B (atOf B s.1) s.2 = some ((rFlag s).1, atOf B (rFlag s).2.1, (rFlag s).2.2) := r06_Cur_Flag_r (by
  have hle := hs.length_le
  rw [r06_Cur_Flag_b, cLeft_eq hb hl hs, Option.bind_some]
  unfold rFlag
  by_cases he : s.2 = 0
  · have hn0 : ¬ s.2 ≠ 0 := by simp [he]
    rw [ieqT he, cond_true, if_neg hn0]
    have e : B.drop (B.length - s.1.length) = s.1 := (List.suffix_iff_eq_drop.1 hs).symm
    have ha : atOf B s.1 = ((B.length - s.1.length : Nat) : Int) := by unfold atOf; omega
    cases h : s.1 with
    | nil => rfl
    | cons x r =>
      rw [h] at e ha hle
      rw [List.length_cons] at e ha hle
      have g : xget vB B (atOf B (x :: r)) = some x := by
        rw [ha, xget_nat, ← List.head?_drop, e] <;> rfl
      have hr : atOf B (x :: r) + 1 = atOf B r := by unfold atOf; rw [List.length_cons]; omega
      have h0 : 0 ≤ atOf B (x :: r) ∧ atOf B (x :: r) ≤ 100000 := by rw [ha]; omega
      rw [iltF (by rw [List.length_cons]; omega), cond_false, iaddS (by omega) (by omega), isubS (by omega) (by omega), Int.add_sub_cancel, g, Option.bind_some, Option.bind_some, ilt_dec, ieq_dec, hr, he]
      by_cases hx : 1 < x
      · rw [decide_eq_true hx]
        dsimp only
        rw [if_pos hx] <;> rfl
      · rw [decide_eq_false hx]
        dsimp only
        rw [if_neg hx] <;> rfl
  · rw [ieqF he, if_pos he] <;> rfl)
theorem cEnd_eq : r06_Cur_End B (atOf B s.1) s.2 = some (rEnd s) := r06_Cur_End_r (by
  rw [r06_Cur_End_b, cLeft_eq hb hl hs, Option.bind_some]
  unfold rEnd
  by_cases he : s.2 = 0
  · rw [ieqT he, if_neg (by simp [he]), cond_true]
    by_cases h0 : s.1 = []
    · rw [h0, if_pos rfl, he] <;> rfl
    · have : 0 < s.1.length := List.length_pos_iff.2 h0
      rw [iltT (by omega), if_neg h0] <;> rfl
  · rw [ieqF he, if_pos he] <;> rfl)
theorem cOne_eq : r09_one B (atOf B s.1) s.2 = some ((rPeer s).1, atOf B (rPeer s).2.1, (rPeer s).2.2) := r09_one_r (by
  have s1 := (rFix_suf 8 s).trans hs
  have f1 : r06_Cur_Fix 8 B (atOf B s.1) s.2 = _ := cFix_eq hb hl hs (k := 8) (by omega) (by omega)
  have f2 : r06_Cur_Fix 2 B (atOf B (rFix 8 s).2.1) (rFix 8 s).2.2 = _ := cFix_eq hb hl s1 (k := 2) (by omega) (by omega)
  have hlt := rFix_lt 2 (rFix 8 s).2 (byt_suf hb s1)
  rw [r09_one_b, f1, Option.bind_some]
  dsimp only
  rw [f2, Option.bind_some]
  dsimp only
  rw [wrap_u16 hlt.1 hlt.2] <;> rfl)
theorem cCount_eq (m : Int) : r09_count m B (atOf B s.1) s.2 = some ((rMany m s).1, atOf B (rMany m s).2.1, (rMany m s).2.2) := r09_count_r (by
  have s1 := (rFix_suf 1 s).trans hs
  have f1 : r06_Cur_Fix 1 B (atOf B s.1) s.2 = _ := cFix_eq hb hl hs (k := 1) (by omega) (by omega)
  have hlt := rFix_lt 1 s (byt_suf hb hs)
  have h256 : (256 : Int) ^ 1 = 256 := by decide
  rw [r09_count_b, f1, Option.bind_some]
  dsimp only
  rw [wrap_i64 hlt.1 (by omega)]
  unfold rMany
  by_cases h : m < (rFix 1 s).1
  · rw [iltT h, cond_true, cFail_eq hb hl s1, Option.bind_some, if_pos h, rFail_suf]
  · rw [iltF h, if_neg h] <;> rfl)
theorem cRead_eq {k : Nat} {m : Int} (h1 : 1 ≤ k) (hk : k ≤ 7) : r09_read (k : Int) m B (atOf B s.1) s.2 = some ((rText k m s).1, atOf B (rText k m s).2.1, (rText k m s).2.2) := r09_read_r (by
  have s1 := (rFix_suf k s).trans hs
  have hlt := rFix_lt k s (byt_suf hb hs)
  have h7 : (256 : Int) ^ k ≤ 256 ^ 7 := by
    have : ∀ d : Nat, (256 : Int) ^ k ≤ 256 ^ (k + d) := fun d => by
      induction d with
      | zero => exact Int.le_refl _
      | succ d ih => rw [← Nat.add_assoc, Int.pow_succ]; have : (0 : Int) < 256 ^ (k + d) := Int.pow_pos (by omega); omega
    have := this (7 - k)
    rwa [show k + (7 - k) = 7 by omega] at this
  have h7' : (256 : Int) ^ 7 = 72057594037927936 := by decide
  rw [r09_read_b, cFix_eq hb hl hs h1 (by omega), Option.bind_some]
  dsimp only
  rw [wrap_i64 hlt.1 (by omega)]
  by_cases h : m < (rFix k s).1
  · have e : rText k m s = (textOf (rTake (rFix k s).1 (rFail 5 (rFix k s).2)).1, (rTake (rFix k s).1 (rFail 5 (rFix k s).2)).2) := by unfold rText; simp only [if_pos h]
    have t := cTake_eq hb hl (s := rFail 5 (rFix k s).2) (n := (rFix k s).1) (by rw [rFail_suf]; exact s1) (by omega)
    rw [rFail_suf] at t
    rw [iltT h, cond_true, cFail_eq hb hl s1, Option.bind_some]
    try dsimp only
    rw [t, Option.bind_some, e]
    dsimp only
    rw [xsofb_eq] <;> rfl
  · have e : rText k m s = (textOf (rTake (rFix k s).1 (rFix k s).2).1, (rTake (rFix k s).1 (rFix k s).2).2) := by unfold rText; simp only [if_neg h]
    rw [iltF h, cond_false, cTake_eq hb hl s1 (by omega), Option.bind_some, e]
    dsimp only
    rw [xsofb_eq] <;> rfl)
end
theorem peers_l {n : Nat} (hn : n ≤ 1000) : ∀ (d i : Nat) (s : RS) (l : List Peer), i + d = n → Byt s.1 → s.1.length ≤ 100000 → l.length = i → fixed_peers_l0 (n : Int) (i : Int) true s.1 s.2 l = some (true, (rRep rPeer d s).2.1, (rRep rPeer d s).2.2, l ++ (rRep rPeer d s).1) := by
  intro d
  induction d with
  | zero => intro i s l hi hb hl hll; exact fixed_peers_l0_r (by rw [fixed_peers_l0_b, iltF (by omega)]; simp [rRep])
  | succ d ih =>
    intro i s l hi hb hl hll
    obtain ⟨b1, l1⟩ := rd_fact (fun s => (rPeer s).2) hb hl (rPeer_suf s)
    exact fixed_peers_l0_r (by
      rw [fixed_peers_l0_b, iltT (by omega), cond_true, peerR_eq hb hl, Option.bind_some]
      dsimp only
      rw [xroom_eq ePeer (by simp; omega) (by omega), cond_true, show Ops.std.iadd .i64 (i : Int) 1 = ((i + 1 : Nat) : Int) from iadd1 (by omega), ih (i + 1) _ _ (by omega) b1 l1 (by simp [hll]), rRep]
      simp only [List.append_assoc, List.singleton_append])
theorem peersR_eq {s : RS} (hb : Byt s.1) (hl : s.1.length ≤ 100000) : fixed_peers true s.1 s.2 = some (true, (rPeers s).2.1, (rPeers s).2.2, (rPeers s).1) := fixed_peers_r (by
  obtain ⟨b1, l1⟩ := rd_fact (fun s => (rMany 16 s).2) hb hl (rMany_suf 16 s)
  have hm := rMany_lt (m := 16) (by omega) hb
  have h := peers_l (n := (rMany 16 s).1.toNat) (by omega) (rMany 16 s).1.toNat 0 (rMany 16 s).2 [] (by omega) b1 l1 rfl
  rw [Int.toNat_of_nonneg hm.1] at h
  have h' : fixed_peers_l0 (rMany 16 s).1 0 true (rMany 16 s).2.1 (rMany 16 s).2.2 [] = _ := h
  rw [fixed_peers_b, many_eq hb hl (by omega), Option.bind_some]
  dsimp only
  rw [h'] <;> rfl)
theorem pairs_l {n : Nat} (hn : n ≤ 1000) : ∀ (d i : Nat) (s : RS) (l : List Pair), i + d = n → Byt s.1 → s.1.length ≤ 100000 → l.length = i → fixed_pairs_l0 (n : Int) (i : Int) true s.1 s.2 l = some (true, (rRep rPair d s).2.1, (rRep rPair d s).2.2, l ++ (rRep rPair d s).1) := by
  intro d
  induction d with
  | zero => intro i s l hi hb hl hll; exact fixed_pairs_l0_r (by rw [fixed_pairs_l0_b, iltF (by omega)]; simp [rRep])
  | succ d ih =>
    intro i s l hi hb hl hll
    obtain ⟨b0, l0⟩ := rd_fact (fun s => (rText 1 96 s).2) hb hl (rText_suf 1 96 s)
    obtain ⟨b1, l1⟩ := rd_fact (fun s => (rPair s).2) hb hl (rPair_suf s)
    have t1 : fixed_text 1 96 true s.1 s.2 = _ := textR_eq hb hl (k := 1) (m := 96) (by omega) (by omega) (by omega) (by omega)
    have t2 : fixed_text 2 512 true (rText 1 96 s).2.1 (rText 1 96 s).2.2 = _ := textR_eq b0 l0 (k := 2) (m := 512) (by omega) (by omega) (by omega) (by omega)
    exact fixed_pairs_l0_r (by
      rw [fixed_pairs_l0_b, iltT (by omega), cond_true, t1, Option.bind_some]
      dsimp only
      rw [t2, Option.bind_some]
      dsimp only
      have hx := ih (i + 1) (rPair s).2 (l ++ [(rPair s).1]) (by omega) b1 l1 (by simp [hll])
      rw [xroom_eq ePair (by simp; omega) (by omega), cond_true, show Ops.std.iadd .i64 (i : Int) 1 = ((i + 1 : Nat) : Int) from iadd1 (by omega)]
      refine hx.trans ?_
      rw [rRep]
      simp only [List.append_assoc, List.singleton_append])
theorem pairsR_eq {s : RS} (hb : Byt s.1) (hl : s.1.length ≤ 100000) : fixed_pairs true s.1 s.2 = some (true, (rPairs s).2.1, (rPairs s).2.2, (rPairs s).1) := fixed_pairs_r (by
  obtain ⟨b1, l1⟩ := rd_fact (fun s => (rMany 8 s).2) hb hl (rMany_suf 8 s)
  have hm := rMany_lt (m := 8) (by omega) hb
  have h := pairs_l (n := (rMany 8 s).1.toNat) (by omega) (rMany 8 s).1.toNat 0 (rMany 8 s).2 [] (by omega) b1 l1 rfl
  rw [Int.toNat_of_nonneg hm.1] at h
  have h' : fixed_pairs_l0 (rMany 8 s).1 0 true (rMany 8 s).2.1 (rMany 8 s).2.2 [] = _ := h
  rw [fixed_pairs_b, many_eq hb hl (by omega), Option.bind_some]
  dsimp only
  rw [h'] <;> rfl)
end Go.Ab.Tryd
namespace Go.Ab.Tryd
open Go Go.Ab Go.Proofs Go.Lib
set_option linter.unusedVariables false
set_option linter.unusedSimpArgs false
set_option linter.unusedSectionVars false
def fCode (k : Int) (s : RS) : Int × RS := if k = 12 then rFix 1 s else (0, s)
def fHas (k : Int) (s : RS) : Bool × RS := if k = 2 ∨ k = 4 ∨ k = 9 ∨ k = 10 then rFlag s else (false, s)
def fId (k : Int) (s : RS) : Int × RS := if k = 1 then rFix 8 s else (0, s)
def fPr (k : Int) (h : Bool) (s : RS) : Peer × RS := if k = 5 ∨ (k = 4 ∧ h = true) then rPeer s else (⟨0, 0⟩, s)
def fPs (k : Int) (s : RS) : List Peer × RS := if k = 2 ∨ k = 4 then rPeers s else ([], s)
def fKy (k : Int) (s : RS) : ByteArray × RS := if k = 7 ∨ k = 8 then rText 1 96 s else (⟨#[]⟩, s)
def fVl (k : Int) (h : Bool) (s : RS) : ByteArray × RS := if k = 7 ∨ (k = 9 ∧ h = true) then rText 2 512 s else (⟨#[]⟩, s)
def fQs (k : Int) (s : RS) : List Pair × RS := if k = 10 then rPairs s else ([], s)
def fields (k rid : Int) (s0 : RS) : Msg × RS :=
  let s1 := (fCode k s0).2
  let s2 := (fHas k s1).2
  let s3 := (fId k s2).2
  let h := (fHas k s1).1
  let s4 := (fPr k h s3).2
  let s5 := (fPs k s4).2
  let s6 := (fKy k s5).2
  let s7 := (fVl k h s6).2
  (⟨k, rid, (fCode k s0).1, h, (fId k s2).1, (fKy k s5).1, (fVl k h s6).1, (fPr k h s3).1, (fPs k s4).1, (fQs k s7).1⟩, (fQs k s7).2)
def kindOk (k : Int) (s : RS) : RS := if k < 1 ∨ 12 < k then rFail 9 s else s
def parse (b : List Int) : Msg × RS :=
  let k := rFix 1 (b, 0)
  let r := rFix 4 (kindOk k.1 k.2)
  fields k.1 r.1 r.2
def zeroMsg : Msg := ⟨0, 0, 0, false, 0, ⟨#[]⟩, ⟨#[]⟩, ⟨0, 0⟩, [], []⟩
noncomputable def fe (p : Msg × RS) : Int := if rEnd p.2 = 0 then rightE p.1 else rEnd p.2
noncomputable def decS (b : List Int) : Msg × Int := if fe (parse b) = 0 then ((parse b).1, 0) else (zeroMsg, fe (parse b))
section
variable {s : RS} (hb : Byt s.1) (hl : s.1.length ≤ 100000)
include hb hl
theorem fld1 (rid : Int) : fixed_fields true s.1 s.2 1 rid 0 false 0 ⟨#[]⟩ ⟨#[]⟩ 0 0 [] [] = some (true, (fields 1 rid s).2.1, (fields 1 rid s).2.2, (fields 1 rid s).1.code, (fields 1 rid s).1.has, (fields 1 rid s).1.id, (fields 1 rid s).1.key, (fields 1 rid s).1.val, (fields 1 rid s).1.peer.id, (fields 1 rid s).1.peer.addr, (fields 1 rid s).1.peers, (fields 1 rid s).1.pairs) := fixed_fields_r (by
  have f1 : buf_Reader_Fix 8 true s.1 s.2 = _ := Fix_eq hb hl (k := 8) (by omega) (by omega)
  rw [fixed_fields_b, ieqT rfl, cond_true, f1] <;> rfl)
def outF (p : Msg × RS) : Option (Bool × List Int × Int × Int × Bool × ByteArray × ByteArray × Int × Int × List Peer × List Pair) := some (true, p.2.1, p.2.2, p.1.code, p.1.has, p.1.key, p.1.val, p.1.peer.id, p.1.peer.addr, p.1.peers, p.1.pairs)
def outG (p : Msg × RS) : Option (Bool × List Int × Int × Int × Bool × ByteArray × ByteArray × List Pair) := some (true, p.2.1, p.2.2, p.1.code, p.1.has, p.1.key, p.1.val, p.1.pairs)
theorem fld_s0 {k : Int} (rid : Int) (h1 : k ≠ 1) (h2 : k ≠ 2) (h4 : k ≠ 4) (h5 : k ≠ 5) : fixed_fields_s0 true s.1 s.2 k rid 0 false 0 ⟨#[]⟩ ⟨#[]⟩ 0 0 [] [] (decide (k = 7 ∨ k = 8)) = outG (fields k rid s) := fixed_fields_s0_r (by
  have t1 : fixed_text 1 96 true s.1 s.2 = _ := textR_eq hb hl (k := 1) (m := 96) (by omega) (by omega) (by omega) (by omega)
  obtain ⟨b1, l1⟩ := rd_fact (fun s => (rText 1 96 s).2) hb hl (rText_suf 1 96 s)
  have t2 : fixed_text 2 512 true (rText 1 96 s).2.1 (rText 1 96 s).2.2 = _ := textR_eq b1 l1 (k := 2) (m := 512) (by omega) (by omega) (by omega) (by omega)
  obtain ⟨b2, l2⟩ := rd_fact (fun s => (rFlag s).2) hb hl (rFlag_suf s)
  have t3 : fixed_text 2 512 true (rFlag s).2.1 (rFlag s).2.2 = _ := textR_eq b2 l2 (k := 2) (m := 512) (by omega) (by omega) (by omega) (by omega)
  have t4 := pairsR_eq b2 l2
  have t5 : buf_Reader_Fix 1 true s.1 s.2 = _ := Fix_eq hb hl (k := 1) (by omega) (by omega)
  have hf := Flag_eq hb hl
  have hlt := rFix_lt 1 s hb
  have h256 : (256 : Int) ^ 1 = 256 := by decide
  rw [fixed_fields_s0_b]
  by_cases h7 : k = 7
  · subst h7
    simp only [show decide ((7 : Int) = 7 ∨ (7 : Int) = 8) = true from rfl, cond_true, t1, t2, Option.bind_some, ieqT]; try rfl
  · by_cases h8 : k = 8
    · subst h8
      simp only [show decide ((8 : Int) = 7 ∨ (8 : Int) = 8) = true from rfl, cond_true, t1, Option.bind_some, ieqF h7, cond_false]; try rfl
    · rw [decide_eq_false (by omega), cond_false]
      by_cases h9 : k = 9
      · subst h9
        rw [ieqT rfl, cond_true, hf, Option.bind_some]
        dsimp only
        cases hh : (rFlag s).1 with
        | true =>
          have e : fields 9 rid s = (⟨9, rid, 0, true, 0, ⟨#[]⟩, (rText 2 512 (rFlag s).2).1, ⟨0, 0⟩, [], []⟩, (rText 2 512 (rFlag s).2).2) := by
            simp [fields, fCode, fHas, fId, fPr, fPs, fKy, fVl, fQs, hh]
          rw [cond_true, t3, Option.bind_some, e] <;> rfl
        | false =>
          have e : fields 9 rid s = (⟨9, rid, 0, false, 0, ⟨#[]⟩, ⟨#[]⟩, ⟨0, 0⟩, [], []⟩, (rFlag s).2) := by
            simp [fields, fCode, fHas, fId, fPr, fPs, fKy, fVl, fQs, hh]
          rw [cond_false, e] <;> rfl
      · rw [ieqF h9, cond_false]
        by_cases h10 : k = 10
        · subst h10
          rw [ieqT rfl, cond_true, hf, Option.bind_some]
          dsimp only
          rw [t4]; try rfl
        · rw [ieqF h10, cond_false]
          by_cases h12 : k = 12
          · subst h12
            rw [ieqT rfl, cond_true, t5, Option.bind_some]
            dsimp only
            rw [wrap_u8, show (rFix 1 s).1 % 256 = (rFix 1 s).1 by omega] <;> rfl
          · have e : fields k rid s = (⟨k, rid, 0, false, 0, ⟨#[]⟩, ⟨#[]⟩, ⟨0, 0⟩, [], []⟩, s) := by
              simp [fields, fCode, fHas, fId, fPr, fPs, fKy, fVl, fQs, h1, h2, h4, h5, h7, h8, h9, h10, h12]
            rw [ieqF h12, cond_false, e] <;> rfl)
theorem fld_s1 {k : Int} (rid : Int) (h1 : k ≠ 1) : fixed_fields_s1 true s.1 s.2 k rid 0 false 0 ⟨#[]⟩ ⟨#[]⟩ 0 0 [] [] (decide (k = 2 ∨ k = 4)) = outF (fields k rid s) := fixed_fields_s1_r (by
  have hf := Flag_eq hb hl
  obtain ⟨b2, l2⟩ := rd_fact (fun s => (rFlag s).2) hb hl (rFlag_suf s)
  have p1 := peerR_eq b2 l2
  obtain ⟨b3, l3⟩ := rd_fact (fun s => (rPeer s).2) b2 l2 (rPeer_suf _)
  have p2 := peersR_eq b3 l3
  have p3 := peersR_eq b2 l2
  have p4 := peerR_eq hb hl
  rw [fixed_fields_s1_b]
  by_cases h2 : k = 2
  · subst h2
    rw [show decide ((2 : Int) = 2 ∨ (2 : Int) = 4) = true from rfl, cond_true, hf, Option.bind_some]
    dsimp only
    cases hh : (rFlag s).1 with
    | true =>
      have e : fields 2 rid s = (⟨2, rid, 0, true, 0, ⟨#[]⟩, ⟨#[]⟩, ⟨0, 0⟩, (rPeers (rFlag s).2).1, []⟩, (rPeers (rFlag s).2).2) := by
        simp [fields, fCode, fHas, fId, fPr, fPs, fKy, fVl, fQs, hh]
      rw [cond_true, ieqF (by omega), cond_false, p3, e] <;> rfl
    | false =>
      have e : fields 2 rid s = (⟨2, rid, 0, false, 0, ⟨#[]⟩, ⟨#[]⟩, ⟨0, 0⟩, (rPeers (rFlag s).2).1, []⟩, (rPeers (rFlag s).2).2) := by
        simp [fields, fCode, fHas, fId, fPr, fPs, fKy, fVl, fQs, hh]
      rw [cond_false, p3, e] <;> rfl
  · by_cases h4 : k = 4
    · subst h4
      rw [show decide ((4 : Int) = 2 ∨ (4 : Int) = 4) = true from rfl, cond_true, hf, Option.bind_some]
      dsimp only
      cases hh : (rFlag s).1 with
      | true =>
        have e : fields 4 rid s = (⟨4, rid, 0, true, 0, ⟨#[]⟩, ⟨#[]⟩, (rPeer (rFlag s).2).1, (rPeers (rPeer (rFlag s).2).2).1, []⟩, (rPeers (rPeer (rFlag s).2).2).2) := by
          simp [fields, fCode, fHas, fId, fPr, fPs, fKy, fVl, fQs, hh]
        rw [cond_true, ieqT rfl, cond_true, p1, Option.bind_some]
        dsimp only
        rw [p2, e] <;> rfl
      | false =>
        have e : fields 4 rid s = (⟨4, rid, 0, false, 0, ⟨#[]⟩, ⟨#[]⟩, ⟨0, 0⟩, (rPeers (rFlag s).2).1, []⟩, (rPeers (rFlag s).2).2) := by
          simp [fields, fCode, fHas, fId, fPr, fPs, fKy, fVl, fQs, hh]
        rw [cond_false, p3, e] <;> rfl
    · rw [decide_eq_false (by omega), cond_false]
      by_cases h5 : k = 5
      · subst h5
        rw [ieqT rfl, cond_true, p4] <;> rfl
      · rw [ieqF h5, cond_false]
        have hs0 := fld_s0 hb hl (k := k) rid h1 h2 h4 h5
        have e : (fields k rid s).1.peer = ⟨0, 0⟩ ∧ (fields k rid s).1.peers = [] := by
          simp [fields, fPr, fPs, h5, h2, h4]
        by_cases h7 : k = 7
        · rw [decide_eq_true (.inl h7)] at hs0
          rw [ieqT h7, cond_true, hs0]; simp only [outF, outG, Option.bind_some, e.1, e.2]
        · have e' : Ops.std.ieq k 8 = decide (k = 7 ∨ k = 8) := by rw [ieq_dec]; exact decide_eq_decide.2 ⟨.inr, fun h => by omega⟩
          rw [ieqF h7, cond_false, e', hs0]; simp only [outF, outG, Option.bind_some, e.1, e.2])
theorem fld_eq (k rid : Int) : fixed_fields true s.1 s.2 k rid 0 false 0 ⟨#[]⟩ ⟨#[]⟩ 0 0 [] [] = some (true, (fields k rid s).2.1, (fields k rid s).2.2, (fields k rid s).1.code, (fields k rid s).1.has, (fields k rid s).1.id, (fields k rid s).1.key, (fields k rid s).1.val, (fields k rid s).1.peer.id, (fields k rid s).1.peer.addr, (fields k rid s).1.peers, (fields k rid s).1.pairs) := by
  by_cases h1 : k = 1
  · subst h1; exact fld1 hb hl rid
  · refine fixed_fields_r ?_
    have hs1 := fld_s1 hb hl (k := k) rid h1
    have e : (fields k rid s).1.id = 0 := by simp [fields, fId, h1]
    rw [fixed_fields_b, ieqF h1, cond_false, e]
    by_cases h2 : k = 2
    · rw [decide_eq_true (.inl h2)] at hs1
      rw [ieqT h2, cond_true, hs1] <;> rfl
    · have e' : Ops.std.ieq k 4 = decide (k = 2 ∨ k = 4) := by rw [ieq_dec]; exact decide_eq_decide.2 ⟨.inr, fun h => by omega⟩
      rw [ieqF h2, cond_false, e', hs1] <;> rfl
end
theorem rText_size {k : Nat} {m : Int} (hm : 0 ≤ m) (s : RS) : ((rText k m s).1.size : Int) ≤ m := by
  unfold rText
  dsimp only
  rw [textOf_len]
  by_cases h : m < (rFix k s).1
  · rw [if_pos h]
    have hne : (rFail 5 (rFix k s).2).2 ≠ 0 := by
      unfold rFail
      split
      · assumption
      · show (5 : Int) ≠ 0; omega
    unfold rTake
    rw [if_pos hne]; exact hm
  · rw [if_neg h]
    have := rTake_len (n := (rFix k s).1) (s := (rFix k s).2)
    omega
theorem rRep_len {α : Type} {f : RS → α × RS} : ∀ (n : Nat) (s : RS), (rRep f n s).1.length = n
  | 0, _ => rfl
  | n + 1, s => by simp [rRep, rRep_len n]
theorem rRep_all {α : Type} {f : RS → α × RS} {P : α → Prop} {Q : RS → Prop} (hf : ∀ s, Q s → P (f s).1 ∧ Q (f s).2) : ∀ (n : Nat) (s : RS), Q s → ∀ x, x ∈ (rRep f n s).1 → P x
  | 0, s, _, x, hx => by cases hx
  | n + 1, s, hq, x, hx => by
    rcases List.mem_cons.1 hx with rfl | hx
    · exact (hf s hq).1
    · exact rRep_all hf n _ (hf s hq).2 x hx
theorem rPeer_ok {s : RS} (hb : Byt s.1) : PeOk (rPeer s).1 := by
  have h1 := rFix_lt 8 s hb
  have h2 := rFix_lt 2 (rFix 8 s).2 (byt_suf hb (rFix_suf 8 s))
  have e8 : (256 : Int) ^ 8 = 18446744073709551616 := by decide
  have e2 : (256 : Int) ^ 2 = 65536 := by decide
  exact ⟨h1.1, by have := h1.2; rw [e8] at this; exact this, h2.1, by have := h2.2; rw [e2] at this; exact this⟩
theorem rPeers_ok {s : RS} (hb : Byt s.1) : (rPeers s).1.length ≤ 16 ∧ ∀ p, p ∈ (rPeers s).1 → PeOk p := by
  have hm := rMany_lt (m := 16) (by omega) hb
  refine ⟨by unfold rPeers; rw [rRep_len]; omega, ?_⟩
  exact rRep_all (Q := fun s => Byt s.1) (fun s h => ⟨rPeer_ok h, byt_suf h (rPeer_suf s)⟩) _ _ (byt_suf hb (rMany_suf 16 s))
theorem rPairs_ok {s : RS} (hb : Byt s.1) : (rPairs s).1.length ≤ 8 ∧ ∀ p, p ∈ (rPairs s).1 → p.key.size ≤ 1000 ∧ p.val.size ≤ 1000 := by
  have hm := rMany_lt (m := 8) (by omega) hb
  refine ⟨by unfold rPairs; rw [rRep_len]; omega, ?_⟩
  refine rRep_all (Q := fun _ => True) (fun s _ => ⟨⟨?_, ?_⟩, trivial⟩) _ _ trivial
  · have := rText_size (k := 1) (m := 96) (by omega) s
    show (rText 1 96 s).1.size ≤ 1000; omega
  · have := rText_size (k := 2) (m := 512) (by omega) (rText 1 96 s).2
    show (rText 2 512 (rText 1 96 s).2).1.size ≤ 1000; omega
section
variable {s : RS} (hb : Byt s.1)
include hb
theorem sufs (k rid : Int) : (fCode k s).2.1 <:+ s.1 ∧ (∀ t : RS, (fHas k t).2.1 <:+ t.1) ∧ (∀ t : RS, (fId k t).2.1 <:+ t.1) ∧ (∀ h (t : RS), (fPr k h t).2.1 <:+ t.1) ∧ (∀ t : RS, (fPs k t).2.1 <:+ t.1) ∧ (∀ t : RS, (fKy k t).2.1 <:+ t.1) ∧ (∀ h (t : RS), (fVl k h t).2.1 <:+ t.1) ∧ (∀ t : RS, (fQs k t).2.1 <:+ t.1) := by
  refine ⟨?_, fun t => ?_, fun t => ?_, fun h t => ?_, fun t => ?_, fun t => ?_, fun h t => ?_, fun t => ?_⟩
  · unfold fCode; split
    · exact rFix_suf 1 s
    · exact List.suffix_refl _
  · unfold fHas; split
    · exact rFlag_suf t
    · exact List.suffix_refl _
  · unfold fId; split
    · exact rFix_suf 8 t
    · exact List.suffix_refl _
  · unfold fPr; split
    · exact rPeer_suf t
    · exact List.suffix_refl _
  · unfold fPs; split
    · exact (rRep_suf rPeer_suf _ _).trans (rMany_suf 16 t)
    · exact List.suffix_refl _
  · unfold fKy; split
    · exact rText_suf 1 96 t
    · exact List.suffix_refl _
  · unfold fVl; split
    · exact rText_suf 2 512 t
    · exact List.suffix_refl _
  · unfold fQs; split
    · exact (rRep_suf rPair_suf _ _).trans (rMany_suf 8 t)
    · exact List.suffix_refl _
theorem fields_ok (k : Int) {rid : Int} (r0 : 0 ≤ rid) (r1 : rid < 4294967296) : Small (fields k rid s).1 ∧ Rng (fields k rid s).1 ∧ (fields k rid s).2.1 <:+ s.1 := by
  obtain ⟨a1, a2, a3, a4, a5, a6, a7, a8⟩ := sufs hb k rid
  have B1 := byt_suf hb a1
  have B2 := byt_suf B1 (a2 _)
  have B3 := byt_suf B2 (a3 _)
  have B4 := byt_suf B3 (a4 (fHas k (fCode k s).2).1 _)
  have B5 := byt_suf B4 (a5 _)
  have B6 := byt_suf B5 (a6 _)
  have B7 := byt_suf B6 (a7 (fHas k (fCode k s).2).1 _)
  have z : PeOk ⟨0, 0⟩ := ⟨Int.le_refl 0, by decide, Int.le_refl 0, by decide⟩
  refine ⟨⟨?_, ?_, ?_, ?_, ?_⟩, ⟨r0, r1, ?_, ?_, ?_, ?_, ?_, ?_⟩, (a8 _).trans ((a7 _ _).trans ((a6 _).trans ((a5 _).trans ((a4 _ _).trans ((a3 _).trans ((a2 _).trans a1))))))⟩
  · simp only [fields, fKy]; split
    · have := rText_size (k := 1) (m := 96) (by omega) (fPs k (fPr k (fHas k (fCode k s).2).1 (fId k (fHas k (fCode k s).2).2).2).2).2; omega
    · show 0 ≤ 1000; omega
  · simp only [fields, fVl]; split
    · have := rText_size (k := 2) (m := 512) (by omega) (fKy k (fPs k (fPr k (fHas k (fCode k s).2).1 (fId k (fHas k (fCode k s).2).2).2).2).2).2; omega
    · show 0 ≤ 1000; omega
  · simp only [fields, fPs]; split
    · have := (rPeers_ok B4).1; omega
    · simp
  · simp only [fields, fQs]; split
    · have := (rPairs_ok B7).1; omega
    · simp
  · simp only [fields, fQs]; split
    · exact (rPairs_ok B7).2
    · intro p hp; cases hp
  · simp only [fields, fCode]; split
    · exact (rFix_lt 1 s hb).1
    · exact Int.le_refl 0
  · simp only [fields, fCode]; split
    · exact (rFix_lt 1 s hb).2
    · show (0 : Int) < 256; omega
  · simp only [fields, fId]; split
    · exact (rFix_lt 8 _ B2).1
    · exact Int.le_refl 0
  · simp only [fields, fId]; split
    · have := (rFix_lt 8 _ B2).2
      have e8 : (256 : Int) ^ 8 = 18446744073709551616 := by decide
      rw [e8] at this; exact this
    · show (0 : Int) < 18446744073709551616; omega
  · simp only [fields, fPr]; split
    · exact rPeer_ok B3
    · exact z
  · simp only [fields, fPs]; split
    · exact (rPeers_ok B4).2
    · intro p hp; cases hp
end
theorem kindOk_suf (k : Int) (s : RS) : (kindOk k s).1 = s.1 := by unfold kindOk; split; exact rFail_suf 9 s; rfl
theorem parse_ok {b : List Int} (hb : Byt b) : Small (parse b).1 ∧ Rng (parse b).1 := by
  have b1 : Byt (kindOk (rFix 1 (b, 0)).1 (rFix 1 (b, 0)).2).1 := by rw [kindOk_suf]; exact byt_suf hb (rFix_suf 1 (b, 0))
  have b2 := byt_suf b1 (rFix_suf 4 _)
  have hlt := rFix_lt 4 _ b1
  have e4 : (256 : Int) ^ 4 = 4294967296 := by decide
  rw [e4] at hlt
  have := fields_ok b2 (rFix 1 (b, 0)).1 hlt.1 hlt.2
  exact ⟨this.1, this.2.1⟩
theorem fixed_Dec_eq {b : List Int} (hb : Byt b) (hl : b.length ≤ 100000) : fixed_Dec b = some (decS b) := fixed_Dec_r (by
  have ho : buf_Open b = some (true, 0) := buf_Open_r (by rw [buf_Open_b, room1 (by simp; omega)] <;> rfl)
  have f1 : buf_Reader_Fix 1 true b 0 = _ := Fix_eq (s := (b, 0)) hb hl (k := 1) (by omega) (by omega)
  obtain ⟨b1, l1⟩ := rd_fact (fun s => (rFix 1 s).2) (s := (b, 0)) hb hl (rFix_suf 1 _)
  have hlt := rFix_lt 1 (b, 0) hb
  have h256 : (256 : Int) ^ 1 = 256 := by decide
  have e4 : (256 : Int) ^ 4 = 4294967296 := by decide
  have s0 : ∀ (k : Int) (t : RS), Byt t.1 → t.1.length ≤ 100000 → ∃ x, fixed_Dec_s0 true t.1 t.2 k = some x ∧
      (match x with
      | .inl (b0_kind, b0_rid, b0_code, b0_has, b0_id, b0_key, b0_val, b0_peer_id, b0_peer_addr, b0_peers, b0_pairs, b1_made, b1_rest, b1_met, b2_kind, b2_rid, b2_code, b2_has, b2_id, b2_key, b2_val, b2_peer_id, b2_peer_addr, b2_peers, b2_pairs) => (((⟨b0_kind, b0_rid, b0_code, b0_has, b0_id, b0_key, b0_val, (⟨b0_peer_id, b0_peer_addr⟩ : Peer), b0_peers, b0_pairs⟩ : Msg), 0) : Msg × Int)
      | .inr (t3, b1_made, b1_rest, b1_met, b2_kind, b2_rid, b2_code, b2_has, b2_id, b2_key, b2_val, b2_peer_id, b2_peer_addr, b2_peers, b2_pairs) => ((⟨0, 0, 0, false, 0, ⟨#[]⟩, ⟨#[]⟩, (⟨0, 0⟩ : Peer), [], []⟩ : Msg), t3)) =
      (let p := fields k (rFix 4 t).1 (rFix 4 t).2; if fe p = 0 then (p.1, 0) else (zeroMsg, fe p)) := fun k t tb tl => by
    obtain ⟨b4, l4⟩ := rd_fact (fun s => (rFix 4 s).2) tb tl (rFix_suf 4 _)
    have f4 : buf_Reader_Fix 4 true t.1 t.2 = _ := Fix_eq tb tl (k := 4) (by omega) (by omega)
    have hl4 := rFix_lt 4 t tb
    rw [e4] at hl4
    obtain ⟨hsm, hrg, hsf⟩ := fields_ok b4 k hl4.1 hl4.2
    have bE := byt_suf b4 hsf
    have lE := Nat.le_trans hsf.length_le l4
    have hE := End_eq bE lE
    have hR := msg_Right_eq hsm.fit
    have hbd : fixed_Dec_s0_b true t.1 t.2 k = fixed_Dec_s0_b true t.1 t.2 k := rfl
    conv at hbd =>
      rhs
      rw [fixed_Dec_s0_b, f4, Option.bind_some]
      dsimp only
      rw [wrap_u32 hl4.1 hl4.2, fld_eq b4 l4, Option.bind_some]
      dsimp only
      rw [hE, Option.bind_some]
    by_cases c0 : rEnd (fields k (rFix 4 t).1 (rFix 4 t).2).2 = 0
    · rw [ieqT c0, cond_true] at hbd
      replace hbd := hbd.trans (congrArg (fun z => Option.bind z _) hR)
      rw [Option.bind_some] at hbd
      by_cases c1 : rightE (fields k (rFix 4 t).1 (rFix 4 t).2).1 = 0
      · rw [ieqT c1, cond_true] at hbd
        exact ⟨_, fixed_Dec_s0_r hbd, by simp only [fe, if_pos c0, if_pos c1] <;> rfl⟩
      · rw [ieqF c1, cond_false] at hbd
        exact ⟨_, fixed_Dec_s0_r hbd, by simp only [fe, if_pos c0, if_neg c1] <;> rfl⟩
    · rw [ieqF c0, cond_false] at hbd
      exact ⟨_, fixed_Dec_s0_r hbd, by simp only [fe, if_neg c0] <;> rfl⟩
  rw [fixed_Dec_b, ho, Option.bind_some]
  dsimp only
  rw [f1, Option.bind_some]
  dsimp only
  rw [wrap_i64 hlt.1 (by omega), msg_Name_eq, Option.bind_some, kind_name, Fail_eq b1 l1, Option.bind_some, decS, parse]
  by_cases hk : (rFix 1 (b, 0)).1 < 1 ∨ 12 < (rFix 1 (b, 0)).1
  · obtain ⟨x, hx, e⟩ := s0 (rFix 1 (b, 0)).1 (rFail 9 (rFix 1 (b, 0)).2) (by rw [rFail_suf]; exact b1) (by rw [rFail_suf]; exact l1)
    rw [rFail_suf] at hx
    rw [decide_eq_true hk, cond_true]
    dsimp only
    rw [hx, Option.bind_some]
    dsimp only at e ⊢
    rw [kindOk, if_pos hk, ← e]
    cases x <;> rfl
  · obtain ⟨x, hx, e⟩ := s0 (rFix 1 (b, 0)).1 (rFix 1 (b, 0)).2 b1 l1
    rw [decide_eq_false hk, cond_false, hx, Option.bind_some]
    dsimp only at e ⊢
    rw [kindOk, if_neg hk, ← e]
    cases x <;> rfl)
end Go.Ab.Tryd
namespace Go.Ab.Tryd
open Go Go.Ab Go.Proofs Go.Lib
set_option linter.unusedVariables false
set_option linter.unusedSimpArgs false
set_option linter.unusedSectionVars false
noncomputable def dOut (b : List Int) (p : Msg × RS) : (Int × Int × Int × Bool × Int × ByteArray × ByteArray × Int × Int × Int × Int × (List Peer) × (List Pair) × Int × Int × Int × Bool × Int × ByteArray × ByteArray × Int × Int) ⊕ (Int × Int × Int × (List Peer) × (List Pair) × Int × Int × Int × Bool × Int × ByteArray × ByteArray × Int × Int) :=
  if fe p = 0 then .inl (p.1.kind, p.1.rid, p.1.code, p.1.has, p.1.id, p.1.key, p.1.val, p.1.peer.id, p.1.peer.addr, atOf b p.2.1, p.2.2, p.1.peers, p.1.pairs, p.1.kind, p.1.rid, p.1.code, p.1.has, p.1.id, p.1.key, p.1.val, p.1.peer.id, p.1.peer.addr)
  else .inr (fe p, atOf b p.2.1, p.2.2, p.1.peers, p.1.pairs, p.1.kind, p.1.rid, p.1.code, p.1.has, p.1.id, p.1.key, p.1.val, p.1.peer.id, p.1.peer.addr)
def T4 (k rid code : Int) (has : Bool) (id : Int) (pr : Peer) (ps : List Peer) (key val : ByteArray) (s : RS) : Msg × RS := (⟨k, rid, code, has, id, key, val, pr, ps, (fQs k s).1⟩, (fQs k s).2)
def T5 (k rid code : Int) (has : Bool) (id : Int) (pr : Peer) (ps : List Peer) (key : ByteArray) (s : RS) : Msg × RS := T4 k rid code has id pr ps key (fVl k has s).1 (fVl k has s).2
def T6 (k rid code : Int) (has : Bool) (id : Int) (pr : Peer) (ps : List Peer) (s : RS) : Msg × RS := T5 k rid code has id pr ps (fKy k s).1 (fKy k s).2
def T7 (k rid code : Int) (has : Bool) (id : Int) (pr : Peer) (s : RS) : Msg × RS := T6 k rid code has id pr (fPs k s).1 (fPs k s).2
def T8 (k rid code : Int) (has : Bool) (id : Int) (s : RS) : Msg × RS := T7 k rid code has id (fPr k has s).1 (fPr k has s).2
def T9 (k rid code : Int) (s : RS) : Msg × RS := T8 k rid code (fHas k s).1 (fId k (fHas k s).2).1 (fId k (fHas k s).2).2
theorem T10 (k rid : Int) (s : RS) : fields k rid s = T9 k rid (fCode k s).1 (fCode k s).2 := rfl
section
variable {b : List Int} {s : RS} (hb : Byt b) (hl : b.length ≤ 100000) (hs : s.1 <:+ b)
include hb hl hs
theorem d_s3 {k rid code id pi pa : Int} {has : Bool} {key val : ByteArray} {ps : List Peer} {qs : List Pair} (hf : Fit ⟨k, rid, code, has, id, key, val, ⟨pi, pa⟩, ps, qs⟩) :
    r09_Dec_s3 b (atOf b s.1) s.2 ps qs k rid code has id key val pi pa = some (dOut b (⟨k, rid, code, has, id, key, val, ⟨pi, pa⟩, ps, qs⟩, s)) := r09_Dec_s3_r (by
  rw [r09_Dec_s3_b, cEnd_eq hb hl hs, Option.bind_some, r08_Right_eq hf, Option.bind_some, dOut]
  by_cases c0 : rEnd s = 0
  · rw [ieqT c0, cond_true]
    by_cases c1 : rightE ⟨k, rid, code, has, id, key, val, ⟨pi, pa⟩, ps, qs⟩ = 0
    · rw [ieqT c1, cond_true, if_pos (by unfold fe; rw [if_pos c0]; exact c1)]
    · rw [ieqF c1, cond_false, if_neg (by unfold fe; rw [if_pos c0]; exact c1)]
      unfold fe; rw [if_pos c0]
  · rw [ieqF c0, cond_false, if_neg (by unfold fe; rw [if_neg c0]; exact c0)]
    unfold fe; rw [if_neg c0])
end
theorem d_l2 {b : List Int} (hb : Byt b) (hl : b.length ≤ 100000) {k rid code id pi pa : Int} {has : Bool} {key val : ByteArray} {ps : List Peer} {n : Nat} (hn : n ≤ 1000) : ∀ (d i : Nat) (s : RS) (l : List Pair), i + d = n → s.1 <:+ b → l.length = i →
    r09_Dec_l2 b (n : Int) (i : Int) (atOf b s.1) s.2 ps l k rid code has id key val pi pa = some (atOf b (rRep rPair d s).2.1, (rRep rPair d s).2.2, ps, l ++ (rRep rPair d s).1, k, rid, code, has, id, key, val, pi, pa) := by
  intro d
  induction d with
  | zero => intro i s l hi hs hll; exact r09_Dec_l2_r (by rw [r09_Dec_l2_b, iltF (by omega)]; simp [rRep])
  | succ d ih =>
    intro i s l hi hs hll
    have s1 := (rText_suf 1 96 s).trans hs
    have t1 : r09_read 1 96 b (atOf b s.1) s.2 = _ := cRead_eq hb hl hs (k := 1) (m := 96) (by omega) (by omega)
    have t2 : r09_read 2 512 b (atOf b (rText 1 96 s).2.1) (rText 1 96 s).2.2 = _ := cRead_eq hb hl s1 (k := 2) (m := 512) (by omega) (by omega)
    exact r09_Dec_l2_r (by
      rw [r09_Dec_l2_b, iltT (by omega), cond_true, t1, Option.bind_some]
      dsimp only
      rw [t2, Option.bind_some]
      dsimp only
      have hx := ih (i + 1) (rPair s).2 (l ++ [(rPair s).1]) (by omega) ((rPair_suf s).trans hs) (by simp [hll])
      rw [xroom_eq ePair (by simp; omega) (by omega), cond_true, show Ops.std.iadd .i64 (i : Int) 1 = ((i + 1 : Nat) : Int) from iadd1 (by omega)]
      refine hx.trans ?_
      rw [rRep]
      simp only [List.append_assoc, List.singleton_append])
theorem d_l0 {b : List Int} (hb : Byt b) (hl : b.length ≤ 100000) {k rid code id pi pa : Int} {has : Bool} {n : Nat} (hn : n ≤ 1000) : ∀ (d i : Nat) (s : RS) (l : List Peer), i + d = n → s.1 <:+ b → l.length = i →
    r09_Dec_l0 b (n : Int) (i : Int) (atOf b s.1) s.2 l k rid code has id pi pa = some (atOf b (rRep rPeer d s).2.1, (rRep rPeer d s).2.2, l ++ (rRep rPeer d s).1, k, rid, code, has, id, pi, pa) := by
  intro d
  induction d with
  | zero => intro i s l hi hs hll; exact r09_Dec_l0_r (by rw [r09_Dec_l0_b, iltF (by omega)]; simp [rRep])
  | succ d ih =>
    intro i s l hi hs hll
    exact r09_Dec_l0_r (by
      rw [r09_Dec_l0_b, iltT (by omega), cond_true, cOne_eq hb hl hs, Option.bind_some]
      dsimp only
      have hx := ih (i + 1) (rPeer s).2 (l ++ [(rPeer s).1]) (by omega) ((rPeer_suf s).trans hs) (by simp [hll])
      rw [xroom_eq ePeer (by simp; omega) (by omega), cond_true, show Ops.std.iadd .i64 (i : Int) 1 = ((i + 1 : Nat) : Int) from iadd1 (by omega)]
      refine hx.trans ?_
      rw [rRep]
      simp only [List.append_assoc, List.singleton_append])
section
variable {b : List Int} {s : RS} (hb : Byt b) (hl : b.length ≤ 100000) (hs : s.1 <:+ b)
include hb hl hs
theorem d_s4 {k rid code id pi pa : Int} {has : Bool} {key val : ByteArray} {ps : List Peer} (h1 : key.size ≤ 1000) (h2 : val.size ≤ 1000) (h3 : ps.length ≤ 100) :
    r09_Dec_s4 b (atOf b s.1) s.2 ps k rid code has id key val pi pa = some (dOut b (T4 k rid code has id ⟨pi, pa⟩ ps key val s)) := r09_Dec_s4_r (by
  rw [r09_Dec_s4_b, T4, fQs]
  by_cases hk : k = 10
  · have B := byt_suf hb hs
    have hm := rMany_lt (m := 8) (by omega) B
    have hq := rPairs_ok B
    have s1 := (rMany_suf 8 s).trans hs
    have s2 : (rPairs s).2.1 <:+ b := (rRep_suf rPair_suf (rMany 8 s).1.toNat (rMany 8 s).2).trans s1
    have h := d_l2 hb hl (k := k) (rid := rid) (code := code) (id := id) (pi := pi) (pa := pa) (has := has) (key := key) (val := val) (ps := ps) (n := (rMany 8 s).1.toNat) (by omega) (rMany 8 s).1.toNat 0 (rMany 8 s).2 [] (by omega) s1 rfl
    rw [Int.toNat_of_nonneg hm.1] at h
    have h' : r09_Dec_l2 b (rMany 8 s).1 0 (atOf b (rMany 8 s).2.1) (rMany 8 s).2.2 ps [] k rid code has id key val pi pa = some (atOf b (rPairs s).2.1, (rPairs s).2.2, ps, (rPairs s).1, k, rid, code, has, id, key, val, pi, pa) := h
    rw [ieqT hk, cond_true, cCount_eq hb hl hs, Option.bind_some, if_pos hk]
    dsimp only
    rw [h', Option.bind_some]
    dsimp only
    rw [d_s3 hb hl s2 (qs := (rPairs s).1) ⟨by show key.size < _; omega, by show val.size < _; omega, by show ps.length ≤ _; omega, by have := hq.1; show (rPairs s).1.length ≤ 1000; omega, fun p hp => by have := (hq.2 p hp).1; omega⟩]
  · rw [ieqF hk, cond_false, if_neg hk, d_s3 hb hl hs ⟨by show key.size < _; omega, by show val.size < _; omega, by show ps.length ≤ _; omega, by simp, fun p hp => by cases hp⟩])
theorem d_s5 {k rid code id pi pa : Int} {has : Bool} {key : ByteArray} {ps : List Peer} (h1 : key.size ≤ 1000) (h3 : ps.length ≤ 100) :
    r09_Dec_s5 b (atOf b s.1) s.2 ps k rid code has id key pi pa = some (dOut b (T5 k rid code has id ⟨pi, pa⟩ ps key s)) := r09_Dec_s5_r (by
  have t1 : r09_read 2 512 b (atOf b s.1) s.2 = _ := cRead_eq hb hl hs (k := 2) (m := 512) (by omega) (by omega)
  have hz := rText_size (k := 2) (m := 512) (by omega) s
  have s1 := (rText_suf 2 512 s).trans hs
  have g1 : ∀ h, r09_Dec_s4 b (atOf b (rText 2 512 s).2.1) (rText 2 512 s).2.2 ps k rid code h id key (rText 2 512 s).1 pi pa = _ := fun h => d_s4 hb hl s1 h1 (by omega) h3
  have g2 : ∀ h, r09_Dec_s4 b (atOf b s.1) s.2 ps k rid code h id key ⟨#[]⟩ pi pa = _ := fun h => d_s4 hb hl hs h1 (by show 0 ≤ 1000; omega) h3
  rw [r09_Dec_s5_b, T5, fVl]
  by_cases hk : k = 7
  · rw [ieqT hk, cond_true, t1, Option.bind_some, if_pos (.inl hk)]
    dsimp only
    rw [g1]
  · rw [ieqF hk, cond_false]
    by_cases h9 : k = 9
    · rw [ieqT h9, cond_true]
      cases has with
      | true =>
        rw [cond_true, t1, Option.bind_some, if_pos (.inr ⟨h9, rfl⟩)]
        dsimp only
        rw [g1]
      | false =>
        rw [cond_false, g2, if_neg (by rintro (h | ⟨_, h⟩); exact hk h; cases h)]
    · rw [ieqF h9, cond_false, g2, if_neg (by rintro (h | ⟨h, _⟩); exact hk h; exact h9 h)])
theorem d_s6 {k rid code id pi pa : Int} {has : Bool} {ps : List Peer} (h3 : ps.length ≤ 100) :
    r09_Dec_s6 b (atOf b s.1) s.2 ps k rid code has id pi pa = some (dOut b (T6 k rid code has id ⟨pi, pa⟩ ps s)) := r09_Dec_s6_r (by
  have t1 : r09_read 1 96 b (atOf b s.1) s.2 = _ := cRead_eq hb hl hs (k := 1) (m := 96) (by omega) (by omega)
  have hz := rText_size (k := 1) (m := 96) (by omega) s
  have s1 := (rText_suf 1 96 s).trans hs
  have g1 : r09_Dec_s5 b (atOf b (rText 1 96 s).2.1) (rText 1 96 s).2.2 ps k rid code has id (rText 1 96 s).1 pi pa = _ := d_s5 hb hl s1 (by omega) h3
  have g2 : r09_Dec_s5 b (atOf b s.1) s.2 ps k rid code has id ⟨#[]⟩ pi pa = _ := d_s5 hb hl hs (by show 0 ≤ 1000; omega) h3
  rw [r09_Dec_s6_b, T6, fKy, t1, Option.bind_some]
  dsimp only
  rw [g1, g2]
  by_cases hk : k = 7
  · rw [ieqT hk, cond_true, if_pos (.inl hk)]
  · rw [ieqF hk, cond_false]
    by_cases h9 : k = 8
    · rw [ieqT h9, cond_true, if_pos (.inr h9)]
    · rw [ieqF h9, cond_false, if_neg (by rintro (h | h); exact hk h; exact h9 h)])
theorem d_s1 {k rid code id pi pa : Int} {has : Bool} : r09_Dec_s1 b true (atOf b s.1) s.2 k rid code has id pi pa = some (atOf b (rPeers s).2.1, (rPeers s).2.2, (rPeers s).1, k, rid, code, has, id, pi, pa) := r09_Dec_s1_r (by
  have B := byt_suf hb hs
  have hm := rMany_lt (m := 16) (by omega) B
  have s1 := (rMany_suf 16 s).trans hs
  have h := d_l0 hb hl (k := k) (rid := rid) (code := code) (id := id) (pi := pi) (pa := pa) (has := has) (n := (rMany 16 s).1.toNat) (by omega) (rMany 16 s).1.toNat 0 (rMany 16 s).2 [] (by omega) s1 rfl
  rw [Int.toNat_of_nonneg hm.1] at h
  have h' : r09_Dec_l0 b (rMany 16 s).1 0 (atOf b (rMany 16 s).2.1) (rMany 16 s).2.2 [] k rid code has id pi pa = _ := h
  rw [r09_Dec_s1_b, cond_true, cCount_eq hb hl hs, Option.bind_some]
  dsimp only
  rw [h'] <;> rfl)
theorem d_s7 {k rid code id pi pa : Int} {has : Bool} :
    r09_Dec_s7 b (atOf b s.1) s.2 k rid code has id pi pa = some (dOut b (T7 k rid code has id ⟨pi, pa⟩ s)) := r09_Dec_s7_r (by
  have B := byt_suf hb hs
  have s2 : (rPeers s).2.1 <:+ b := ((rRep_suf rPeer_suf (rMany 16 s).1.toNat (rMany 16 s).2).trans (rMany_suf 16 s)).trans hs
  have g1 : r09_Dec_s6 b (atOf b (rPeers s).2.1) (rPeers s).2.2 (rPeers s).1 k rid code has id pi pa = _ := d_s6 hb hl s2 (by have := (rPeers_ok B).1; omega)
  have g2 : r09_Dec_s6 b (atOf b s.1) s.2 [] k rid code has id pi pa = _ := d_s6 hb hl hs (by simp)
  have gf : r09_Dec_s1 b false (atOf b s.1) s.2 k rid code has id pi pa = some (atOf b s.1, s.2, [], k, rid, code, has, id, pi, pa) := r09_Dec_s1_r rfl
  rw [r09_Dec_s7_b, T7, fPs]
  by_cases hk : k = 2
  · rw [ieqT hk, cond_true, d_s1 hb hl hs, Option.bind_some, if_pos (.inl hk)]
    dsimp only
    rw [g1]
  · rw [ieqF hk, cond_false]
    by_cases h9 : k = 4
    · rw [ieqT h9, d_s1 hb hl hs, Option.bind_some, if_pos (.inr h9)]
      dsimp only
      rw [g1]
    · rw [ieqF h9, gf, Option.bind_some, if_neg (by rintro (h | h); exact hk h; exact h9 h)]
      dsimp only
      rw [g2])
theorem d_s8 {k rid code id : Int} {has : Bool} :
    r09_Dec_s8 b (atOf b s.1) s.2 k rid code has id = some (dOut b (T8 k rid code has id s)) := r09_Dec_s8_r (by
  have s1 := (rPeer_suf s).trans hs
  have g1 : ∀ h, r09_Dec_s7 b (atOf b (rPeer s).2.1) (rPeer s).2.2 k rid code h id (rPeer s).1.id (rPeer s).1.addr = _ := fun h => d_s7 hb hl s1
  have g2 : ∀ h, r09_Dec_s7 b (atOf b s.1) s.2 k rid code h id 0 0 = _ := fun h => d_s7 hb hl hs
  rw [r09_Dec_s8_b, T8, fPr, cOne_eq hb hl hs, Option.bind_some, Option.bind_some]
  dsimp only
  by_cases hk : k = 5
  · rw [ieqT hk, cond_true, if_pos (.inl hk), g1]
  · rw [ieqF hk, cond_false]
    by_cases h9 : k = 4
    · rw [ieqT h9, cond_true]
      cases has with
      | true =>
        rw [cond_true, if_pos (.inr ⟨h9, rfl⟩), g1]
      | false =>
        rw [cond_false, if_neg (by rintro (h | ⟨_, h⟩); exact hk h; cases h), g2]
    · rw [ieqF h9, cond_false, if_neg (by rintro (h | ⟨h, _⟩); exact hk h; exact h9 h), g2])
theorem d_s9 {k rid code : Int} :
    r09_Dec_s9 b (atOf b s.1) s.2 k rid code = some (dOut b (T9 k rid code s)) := r09_Dec_s9_r (by
  have s1 := (rFlag_suf s).trans hs
  have s2 := (rFix_suf 8 s).trans hs
  have f8 : r06_Cur_Fix 8 b (atOf b s.1) s.2 = _ := cFix_eq hb hl hs (k := 8) (by omega) (by omega)
  have g1 : r09_Dec_s8 b (atOf b (rFlag s).2.1) (rFlag s).2.2 k rid code (rFlag s).1 0 = _ := d_s8 hb hl s1
  have g2 : r09_Dec_s8 b (atOf b (rFix 8 s).2.1) (rFix 8 s).2.2 k rid code false (rFix 8 s).1 = _ := d_s8 hb hl s2
  have g3 : r09_Dec_s8 b (atOf b s.1) s.2 k rid code false 0 = _ := d_s8 hb hl hs
  rw [r09_Dec_s9_b, T9, fId, cFlag_eq hb hl hs, Option.bind_some, f8, Option.bind_some]
  dsimp only
  rw [g1, g2, g3]
  by_cases h2 : k = 2
  · rw [ieqT h2, cond_true, if_neg (by omega), fHas, if_pos (.inl h2)]
  · rw [ieqF h2, cond_false]
    by_cases h4 : k = 4
    · rw [ieqT h4, cond_true, if_neg (by omega), fHas, if_pos (.inr (.inl h4))]
    · rw [ieqF h4, cond_false]
      by_cases h9 : k = 9
      · rw [ieqT h9, cond_true, if_neg (by omega), fHas, if_pos (.inr (.inr (.inl h9)))]
      · rw [ieqF h9, cond_false]
        by_cases h10 : k = 10
        · rw [ieqT h10, cond_true, if_neg (by omega), fHas, if_pos (.inr (.inr (.inr h10)))]
        · rw [ieqF h10, cond_false, fHas, if_neg (by omega)]
          by_cases h1 : k = 1
          · rw [ieqT h1, cond_true, if_pos h1]
          · rw [ieqF h1, cond_false, if_neg h1])
theorem d_s10 (k : Int) : r09_Dec_s10 b (atOf b s.1) s.2 k = some (dOut b (fields k (rFix 4 s).1 (rFix 4 s).2)) := r09_Dec_s10_r (by
  have B := byt_suf hb hs
  have s1 := (rFix_suf 4 s).trans hs
  have s2 := (rFix_suf 1 (rFix 4 s).2).trans s1
  have hl4 := rFix_lt 4 s B
  have e4 : (256 : Int) ^ 4 = 4294967296 := by decide
  have hl1 := rFix_lt 1 (rFix 4 s).2 (byt_suf hb s1)
  have h256 : (256 : Int) ^ 1 = 256 := by decide
  have f4 : r06_Cur_Fix 4 b (atOf b s.1) s.2 = _ := cFix_eq hb hl hs (k := 4) (by omega) (by omega)
  have f1 : r06_Cur_Fix 1 b (atOf b (rFix 4 s).2.1) (rFix 4 s).2.2 = _ := cFix_eq hb hl s1 (k := 1) (by omega) (by omega)
  rw [r09_Dec_s10_b, f4, Option.bind_some, T10]
  dsimp only
  rw [f1, Option.bind_some]
  dsimp only
  rw [wrap_u32 hl4.1 (by omega), wrap_u8, Int.emod_eq_of_lt hl1.1 (by omega), d_s9 hb hl s2, d_s9 hb hl s1, fCode]
  by_cases h : k = 12
  · rw [ieqT h, cond_true, if_pos h]
  · rw [ieqF h, cond_false, if_neg h])
end
theorem r09_Dec_eq {b : List Int} (hb : Byt b) (hl : b.length ≤ 100000) : r09_Dec b = some (decS b) := r09_Dec_r (by
  have hs : ((b, 0) : RS).1 <:+ b := List.suffix_refl _
  have s1 := (rFix_suf 1 (b, 0)).trans hs
  have f1 : r06_Cur_Fix 1 b 0 0 = some ((rFix 1 (b, 0)).1, atOf b (rFix 1 (b, 0)).2.1, (rFix 1 (b, 0)).2.2) := by
    have := cFix_eq (s := (b, 0)) hb hl hs (k := 1) (by omega) (by omega)
    rwa [show atOf b b = 0 by unfold atOf; omega] at this
  have hlt := rFix_lt 1 (b, 0) hb
  have h256 : (256 : Int) ^ 1 = 256 := by decide
  have e1 := d_s10 hb hl s1 (rFix 1 (b, 0)).1
  have e2 := d_s10 hb hl (s := rFail 9 (rFix 1 (b, 0)).2) (by rw [rFail_suf]; exact s1) (rFix 1 (b, 0)).1
  rw [rFail_suf] at e2
  rw [r09_Dec_b, f1, Option.bind_some]
  dsimp only
  rw [wrap_i64 hlt.1 (by omega), cFail_eq hb hl s1, Option.bind_some, e1, e2, Option.bind_some, Option.bind_some, decS]
  have key : ∀ p : Msg × RS, fe p = 0 ∧ dOut b p = .inl (p.1.kind, p.1.rid, p.1.code, p.1.has, p.1.id, p.1.key, p.1.val, p.1.peer.id, p.1.peer.addr, atOf b p.2.1, p.2.2, p.1.peers, p.1.pairs, p.1.kind, p.1.rid, p.1.code, p.1.has, p.1.id, p.1.key, p.1.val, p.1.peer.id, p.1.peer.addr) ∨ fe p ≠ 0 ∧ dOut b p = .inr (fe p, atOf b p.2.1, p.2.2, p.1.peers, p.1.pairs, p.1.kind, p.1.rid, p.1.code, p.1.has, p.1.id, p.1.key, p.1.val, p.1.peer.id, p.1.peer.addr) := fun p => by
    by_cases h : fe p = 0
    · exact .inl ⟨h, by rw [dOut, if_pos h]⟩
    · exact .inr ⟨h, by rw [dOut, if_neg h]⟩
  by_cases ha : (rFix 1 (b, 0)).1 < 1
  · have hp : parse b = fields (rFix 1 (b, 0)).1 (rFix 4 (rFail 9 (rFix 1 (b, 0)).2)).1 (rFix 4 (rFail 9 (rFix 1 (b, 0)).2)).2 := by unfold parse kindOk; dsimp only; rw [if_pos (Or.inl ha)]
    rw [iltT ha, cond_true, ← hp]
    rcases key (parse b) with ⟨h, e⟩ | ⟨h, e⟩
    · rw [e, if_pos h]
    · rw [e, if_neg h] <;> rfl
  · rw [iltF ha, cond_false]
    by_cases hc : 12 < (rFix 1 (b, 0)).1
    · have hp : parse b = fields (rFix 1 (b, 0)).1 (rFix 4 (rFail 9 (rFix 1 (b, 0)).2)).1 (rFix 4 (rFail 9 (rFix 1 (b, 0)).2)).2 := by unfold parse kindOk; dsimp only; rw [if_pos (Or.inr hc)]
      rw [iltT hc, cond_true, ← hp]
      rcases key (parse b) with ⟨h, e⟩ | ⟨h, e⟩
      · rw [e, if_pos h]
      · rw [e, if_neg h] <;> rfl
    · have hp : parse b = fields (rFix 1 (b, 0)).1 (rFix 4 (rFix 1 (b, 0)).2).1 (rFix 4 (rFix 1 (b, 0)).2).2 := by unfold parse kindOk; dsimp only; rw [if_neg (by omega)]
      rw [iltF hc, cond_false, ← hp]
      rcases key (parse b) with ⟨h, e⟩ | ⟨h, e⟩
      · rw [e, if_pos h]
      · rw [e, if_neg h] <;> rfl)
end Go.Ab.Tryd
namespace Go.Ab.Tryd
open Go Go.Ab Go.Proofs Go.Lib
set_option linter.unusedVariables false
set_option linter.unusedSimpArgs false
set_option linter.unusedSectionVars false
section
variable {t : List Int}
end
structure Ok (m : Msg) : Prop where
  kind : 1 ≤ m.kind ∧ m.kind ≤ 12
  bare : m = bare m
  key : m.kind = 7 ∨ m.kind = 8 → isKey m.key = true
  keys : ∀ p, p ∈ m.pairs → isKey p.key = true
  val : m.val.size ≤ 512
  vals : ∀ p, p ∈ m.pairs → p.val.size ≤ 512
  peers : m.peers.length ≤ 16
  pairs : m.pairs.length ≤ 8
section
end
end Go.Ab.Tryd
namespace Go.Ab.Tryd
open Go Go.Ab Go.Proofs Go.Lib
set_option linter.unusedVariables false
set_option linter.unusedSimpArgs false
set_option linter.unusedSectionVars false
theorem awake09 : w09_awake = some true := ask_of ((le_lim 60).call _ _ _ _ (by kernel_rfl))
theorem law_Decs {b : List Int} (hb : Byt b) : w09_FixedDecs b = some true := w09_FixedDecs_r (by
  rw [w09_FixedDecs_b, xlen_eq, awake09]
  by_cases hl : 6000 < b.length
  · rw [iltT (by omega)] <;> rfl
  · have hd : (decS b).1.peers.length ≤ 1000000 ∧ (decS b).1.pairs.length ≤ 1000000 := by
      have hp := (parse_ok hb).1
      unfold decS
      split
      · exact ⟨Nat.le_trans hp.peers (by omega), Nat.le_trans hp.pairs (by omega)⟩
      · exact ⟨Nat.zero_le _, Nat.zero_le _⟩
    rw [iltF (by omega), cond_false, fixed_Dec_eq hb (by omega), Option.bind_some]
    try dsimp only
    rw [r09_Dec_eq hb (by omega), Option.bind_some]
    try dsimp only
    rw [r08_Same_eq hd.1 hd.2, Option.bind_some, eqb_self, ieqT rfl] <;> rfl)
end Go.Ab.Tryd
namespace Go.Ab.Tryd
open Go Go.Ab
theorem bytOk {l : List Int} (h : OkL OkB l) : Byt l := fun x hx => ⟨(h.1 x hx).1, by have := (h.1 x hx).2; omega⟩
end Go.Ab.Tryd
