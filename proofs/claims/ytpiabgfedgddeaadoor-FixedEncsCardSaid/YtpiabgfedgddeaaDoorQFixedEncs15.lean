/- Our texts for this statement, merged: what its theorem leads to. -/
import Derived.Lib.RuneCountTail
import Derived.Lib.TrimU
import Derived.Test.YtpiabgfedgddeaaDoorQFixedEncs14
namespace Go.Ab.Tryd
open Go Go.Ab Go.Proofs Go.Lib
set_option linter.unusedVariables false
set_option linter.unusedSimpArgs false
def stray (s : ByteArray) (i : Nat) : Bool := decide (Utf8.decode s i = (65533, 1))
theorem xsdec_nat {s : ByteArray} {i : Nat} (h : i < s.size) : xsdec s (i : Int) = some (((Utf8.decode s i).1 : Int), ((i + (Utf8.decode s i).2 : Nat) : Int)) := by
  show (if 0 ≤ (i : Int) ∧ (i : Int).toNat < s.size then some (((Utf8.decode s (i : Int).toNat).1 : Int), (i : Int) + ((Utf8.decode s (i : Int).toNat).2 : Int)) else none) = _
  rw [if_pos ⟨by omega, by simpa using h⟩, Int.toNat_natCast]
  simp
theorem xsdec_end {s : ByteArray} {i : Nat} (h : ¬ i < s.size) : xsdec s (i : Int) = none := by
  show (if 0 ≤ (i : Int) ∧ (i : Int).toNat < s.size then some (((Utf8.decode s (i : Int).toNat).1 : Int), (i : Int) + ((Utf8.decode s (i : Int).toNat).2 : Int)) else none) = _
  rw [if_neg (by simpa using h)]
theorem utf_stray_eq {s : ByteArray} {i : Nat} (h : i < s.size) : utf_stray s (i : Int) ((Utf8.decode s i).1 : Int) = some (stray s i) := utf_stray_r (by
  unfold utf_stray_b
  simp only [ieq_dec, bif_dec]
  split
  · rename_i h1
    have e1 : xssub s (i : Int) (Ops.std.slen s) = some (s.extract i s.size) := by
      show (if 0 ≤ (i : Int) ∧ (i : Int) ≤ (s.size : Int) ∧ (s.size : Int) ≤ (s.size : Int) then some (s.extract (i : Int).toNat (s.size : Int).toNat) else none) = _
      rw [if_pos ⟨by omega, by omega, by omega⟩]; simp
    have e2 : xsdec (s.extract i s.size) 0 = some (((Utf8.decode s i).1 : Int), ((Utf8.decode s i).2 : Int)) := by
      have := xsdec_nat (s := s.extract i s.size) (i := 0) (by rw [tail_size]; omega)
      rw [tail_decode] at this
      simpa using this
    rw [e1, Option.bind_some, e2]
    simp only [xopt, stray]
    congr 1
    have h2 : (Utf8.decode s i).1 = 65533 := by omega
    refine decide_eq_decide.2 ⟨fun h => Prod.ext h2 (by show (Utf8.decode s i).2 = 1; omega), fun h => by rw [h]; rfl⟩
  · rename_i h1
    congr 1
    exact (decide_eq_false (fun h => h1 (by rw [h]; rfl))).symm)
def poss (s : ByteArray) : Nat → Nat → List Nat
  | 0, _ => []
  | n + 1, i => if i < s.size then i :: poss s n (i + (Utf8.decode s i).2) else []
theorem valid_l0 (s : ByteArray) : ∀ (n i : Nat), s.size - i < n → ∃ r, utf_Valid_l0 s (i : Int) = some r ∧ (match r with | .inl _ => false | .inr _ => true) = (poss s n i).all fun j => !stray s j := by
  intro n
  induction n with
  | zero => intro i h; omega
  | succ n ih =>
    intro i h
    by_cases hi : i < s.size
    · have hw := width_pos s i
      cases hst : stray s i
      · obtain ⟨r, hr, he⟩ := ih (i + (Utf8.decode s i).2) (by omega)
        refine ⟨r, utf_Valid_l0_r (by simp only [utf_Valid_l0_b, xsdec_nat hi, xopt, utf_stray_eq hi, Option.bind_some, hst, cond_false]; exact hr), ?_⟩
        rw [he]; simp [poss, hi, hst]
      · exact ⟨_, utf_Valid_l0_r (by simp only [utf_Valid_l0_b, xsdec_nat hi, xopt, utf_stray_eq hi, Option.bind_some, hst, cond_true]; rfl), by simp [poss, hi, hst]⟩
    · exact ⟨_, utf_Valid_l0_r (by simp only [utf_Valid_l0_b, xsdec_end hi, xopt]; rfl), by simp [poss, hi]⟩
theorem utf_Valid_eq (s : ByteArray) : utf_Valid s = some ((poss s (s.size + 1) 0).all fun j => !stray s j) := utf_Valid_r (by
  obtain ⟨r, hr, he⟩ := valid_l0 s (s.size + 1) 0 (by omega)
  have hr : utf_Valid_l0 s 0 = some r := hr
  simp only [utf_Valid_b, hr, Option.bind_some]
  cases r <;> exact congrArg some he)
theorem poss_len (s : ByteArray) : ∀ (n i : Nat), (poss s n i).length ≤ n := by
  intro n
  induction n with
  | zero => intro i; simp [poss]
  | succ n ih =>
    intro i
    unfold poss
    split
    · have := ih (i + (Utf8.decode s i).2); simp; omega
    · simp
theorem count_l0 (s : ByteArray) : ∀ (n i k : Nat), s.size - i < n → k + n < 9223372036854775808 → ∃ a, utf_Count_l0 s (k : Int) (i : Int) = some (((k + (poss s n i).length : Nat) : Int), a) := by
  intro n
  induction n with
  | zero => intro i k h; omega
  | succ n ih =>
    intro i k h hk
    by_cases hi : i < s.size
    · have hw := width_pos s i
      obtain ⟨a, ha⟩ := ih (i + (Utf8.decode s i).2) (k + 1) (by omega) (by omega)
      refine ⟨a, utf_Count_l0_r ?_⟩
      have e1 : Ops.std.iadd .i64 (k : Int) 1 = ((k + 1 : Nat) : Int) := i64_add (b := 1) (by omega)
      simp only [utf_Count_l0_b, xsdec_nat hi, xopt, e1, ha]
      simp [poss, hi]; omega
    · exact ⟨(i : Int), utf_Count_l0_r (by simp only [utf_Count_l0_b, xsdec_end hi, xopt]; simp [poss, hi])⟩
theorem utf_Count_eq {s : ByteArray} (hs : s.size < 4611686018427387904) : utf_Count s = some (((poss s (s.size + 1) 0).length : Nat) : Int) := utf_Count_r (by
  obtain ⟨a, ha⟩ := count_l0 s (s.size + 1) 0 0 (by omega) (by omega)
  have ha : utf_Count_l0 s 0 0 = some (((0 + (poss s (s.size + 1) 0).length : Nat) : Int), a) := ha
  simp only [utf_Count_b, ha, Option.bind_some, Nat.zero_add])
end Go.Ab.Tryd
namespace Go.Ab.Tryd
open Go Go.Ab Go.Proofs Go.Lib
set_option linter.unusedVariables false
set_option linter.unusedSimpArgs false
def piece (s : ByteArray) (i : Nat) : ByteArray := s.extract i (i + (Utf8.decode s i).2)
theorem wid_cases (s : ByteArray) (i : Nat) : (wid s i = 0 ∧ (Utf8.decode s i).2 = 1) ∨ (wid s i ≠ 0 ∧ wid s i = (Utf8.decode s i).2) := by
  unfold wid
  split
  · rename_i h; exact .inl ⟨rfl, by rw [h]⟩
  · have := width_pos s i; exact .inr ⟨by omega, rfl⟩
theorem parts_l0 (s : ByteArray) (hs : s.size < 1000000) : ∀ (n i : Nat) (l : List ByteArray), s.size - i < n → l.length ≤ i → i ≤ s.size → (∀ j, j < s.size → j + (Utf8.decode s j).2 ≤ s.size) → r04_Parts_l0 s (i : Int) l = some (l ++ (poss s n i).map (piece s)) := by
  intro n
  induction n with
  | zero => intro i l h; omega
  | succ n ih =>
    intro i l h hl hi0 hfit
    by_cases hi : i < s.size
    · have hw := width_pos s i
      have hf := hfit i hi
      have hr : ∀ z : ByteArray, xroom vT 16 l [z] = true := fun z => xroom_eq vT (by simp; omega) (by omega)
      have hx := ih (i + (Utf8.decode s i).2) (l ++ [piece s i]) (by omega) (by simp; omega) hf hfit
      have hsub : ∀ w : Nat, i + w ≤ s.size → xssub s (i : Int) ((i + w : Nat) : Int) = some (s.extract i (i + w)) := fun w hwl => by
        show (if 0 ≤ (i : Int) ∧ (i : Int) ≤ ((i + w : Nat) : Int) ∧ ((i + w : Nat) : Int) ≤ (s.size : Int) then some (s.extract (i : Int).toNat ((i + w : Nat) : Int).toNat) else none) = _
        rw [if_pos ⟨by omega, by omega, by omega⟩, Int.toNat_natCast, Int.toNat_natCast]
      refine r04_Parts_l0_r ?_
      unfold r04_Parts_l0_b
      simp only [ilt_dec, bif_dec, slen_nat, Width_eq hi (by omega), Option.bind_some, ieq_dec]
      rw [if_pos (by omega)]
      rcases wid_cases s i with ⟨h1, h2⟩ | ⟨h1, h2⟩
      · have e1 : Ops.std.iadd .i64 (i : Int) 1 = ((i + 1 : Nat) : Int) := i64_add (b := 1) (by omega)
        rw [if_pos (by omega), e1, hsub 1 (by omega), Option.bind_some, hr, cond_true]
        rw [h2] at hx
        simp only [poss, if_pos hi, List.map_cons, h2]
        rw [show s.extract i (i + 1) = piece s i from by unfold piece; rw [h2], hx]
        simp
      · have e1 : Ops.std.iadd .i64 (i : Int) (wid s i : Int) = ((i + wid s i : Nat) : Int) := i64_add (by omega)
        rw [if_neg (by omega), e1, hsub _ (by omega), Option.bind_some, hr, cond_true]
        rw [← h2] at hx
        simp only [poss, if_pos hi, List.map_cons, ← h2]
        rw [show s.extract i (i + wid s i) = piece s i from by unfold piece; rw [h2], hx]
        simp
    · exact r04_Parts_l0_r (by
        unfold r04_Parts_l0_b
        simp only [ilt_dec, bif_dec, slen_nat]
        rw [if_neg (by omega)]
        simp [poss, hi])
theorem fits {s : ByteArray} {i : Nat} (h : i < s.size) : i + (Utf8.decode s i).2 ≤ s.size := by
  rw [decode_at]
  have : ∀ n b0 b1 b2 b3, 1 ≤ n → (decodeN n b0 b1 b2 b3).2 ≤ n := fun n b0 b1 b2 b3 hn => by
    unfold decodeN
    repeat' split
    all_goals (simp only; omega)
  have := this (s.size - i) (s.get! i).toNat (s.get! (i + 1)).toNat (s.get! (i + 2)).toNat (s.get! (i + 3)).toNat (by omega)
  omega
theorem r04_Parts_eq {s : ByteArray} (hs : s.size < 1000000) : r04_Parts s = some ((poss s (s.size + 1) 0).map (piece s)) := r04_Parts_r (by
  have h := parts_l0 s hs (s.size + 1) 0 [] (by omega) (by simp) (by omega) (fun j hj => fits hj)
  have h : r04_Parts_l0 s 0 [] = some ((poss s (s.size + 1) 0).map (piece s)) := h
  simp only [r04_Parts_b, h, Option.bind_some])
end Go.Ab.Tryd
namespace Go.Ab.Tryd
open Go Go.Ab Go.Proofs Go.Lib
set_option linter.unusedVariables false
set_option linter.unusedSimpArgs false
set_option maxRecDepth 100000 in
set_option maxHeartbeats 4000000 in
theorem dec_self {n b0 b1 b2 b3 r w : Nat} (hn : 1 ≤ n) (hd : decodeN n b0 b1 b2 b3 = (r, w)) : decodeN w b0 (if 1 < w then b1 else 0) (if 2 < w then b2 else 0) (if 3 < w then b3 else 0) = (r, w) := by
  unfold decodeN at hd
  repeat' split at hd
  all_goals
    injection hd with e1 e2
    subst e1 e2
    unfold decodeN
    simp only [show ¬ 1 < 1 by omega, show ¬ 2 < 1 by omega, show ¬ 3 < 1 by omega, show 1 < 2 by omega, show ¬ 2 < 2 by omega, show ¬ 3 < 2 by omega, show 1 < 3 by omega, show 2 < 3 by omega, show ¬ 3 < 3 by omega, show 1 < 4 by omega, show 2 < 4 by omega, show 3 < 4 by omega, if_true, if_false, false_and, true_and, and_false]
    repeat' split
    all_goals first | rfl | (exfalso; omega)
end Go.Ab.Tryd
namespace Go.Ab.Tryd
open Go Go.Ab Go.Proofs Go.Lib
set_option linter.unusedVariables false
set_option linter.unusedSimpArgs false
theorem size_ext (s : ByteArray) (i j : Nat) (h : j ≤ s.size) : (s.extract i j).size = j - i := by
  simp [ByteArray.size_extract]; omega
theorem byt_ext (s : ByteArray) (i j k : Nat) (h : j ≤ s.size) (hk : i + k < j) : byt (s.extract i j) k = byt s (i + k) := by
  have h1 : k < (s.extract i j).size := by rw [size_ext s i j h]; omega
  have e1 := xsget_nat h1
  have e2 := xsget_nat (s := s) (i := i + k) (by omega)
  unfold byt
  have g1 : (s.extract i j).get! k = (s.extract i j)[k]'h1 := by
    generalize s.extract i j = z at h1 ⊢
    cases z with
    | mk d => exact getElem!_pos d k h1
  have g2 : s.get! (i + k) = s[i + k]'(by omega) := by
    have h2 : i + k < s.size := by omega
    clear e1 e2 g1 h1
    cases s with
    | mk d => exact getElem!_pos d (i + k) h2
  rw [g1, g2, ByteArray.getElem_extract]
theorem piece_dec {s : ByteArray} {i : Nat} (h : i < s.size) : Utf8.decode (piece s i) 0 = Utf8.decode s i := by
  have hf := fits h
  have hw := width_pos s i
  obtain ⟨r, w, hd⟩ : ∃ r w, Utf8.decode s i = (r, w) := ⟨_, _, rfl⟩
  have hsz : (piece s i).size = w := by unfold piece; rw [size_ext _ _ _ hf, hd]; simp only; omega
  have hb : ∀ k, byt (piece s i) k = if k < w then byt s (i + k) else 0 := fun k => by
    split
    · rename_i hk
      unfold piece
      rw [hd] at hf ⊢
      exact byt_ext s i (i + w) k hf (by omega)
    · exact get!_ge _ _ (by omega)
  rw [hd] at hw ⊢
  rw [decode_at] at hd ⊢
  have b0 := hb 0; have b1 := hb 1; have b2 := hb 2; have b3 := hb 3
  unfold byt at b0 b1 b2 b3
  simp only [Nat.zero_add, Nat.sub_zero, Nat.add_zero] at b0 b1 b2 b3 ⊢
  rw [hsz, b0, b1, b2, b3, if_pos (show 0 < w from hw)]
  exact dec_self (by omega) hd
end Go.Ab.Tryd
namespace Go.Ab.Tryd
open Go Go.Ab Go.Proofs Go.Lib
set_option linter.unusedVariables false
set_option linter.unusedSimpArgs false
theorem wid_stray (s : ByteArray) (i : Nat) : (wid s i = 0) ↔ stray s i = true := by
  unfold wid stray
  have := width_pos s i
  split
  · rename_i h; simp [h]
  · rename_i h; simp [h]; omega
theorem valid_l {l : List ByteArray} (hl : l.length ≤ 4611686018427387904) (hb : ∀ x, x ∈ l → 0 < x.size ∧ x.size < 1000000) : r04_Valid_l0 l 0 = some (bif allI (fun _ x => !stray x 0) 0 l then .inr () else .inl ()) :=
  all_list vT hl (L := fun i => r04_Valid_l0 l i)
    (fun h => r04_Valid_l0_r (by simp [r04_Valid_l0_b, h]))
    (fun n x r hx h1 h2 hp h => r04_Valid_l0_r (by
      have hm := hb x (List.mem_of_getElem? hx)
      have hw : r04_Width x 0 = some (wid x 0 : Int) := Width_eq hm.1 (by omega)
      have hz : ¬ (wid x 0 = 0) := fun h0 => by
        have := (wid_stray x 0).1 h0; simp [this] at hp
      simp [r04_Valid_l0_b, h1, h2, hw, ieq_dec, hz]; exact h))
    (fun n x hx h1 h2 hp => r04_Valid_l0_r (by
      have hm := hb x (List.mem_of_getElem? hx)
      have hw : r04_Width x 0 = some (wid x 0 : Int) := Width_eq hm.1 (by omega)
      have hz : wid x 0 = 0 := (wid_stray x 0).2 (by simpa using hp)
      simp [r04_Valid_l0_b, h1, h2, hw, ieq_dec, hz]))
end Go.Ab.Tryd
namespace Go.Ab.Tryd
open Go Go.Ab Go.Proofs Go.Lib
set_option linter.unusedVariables false
set_option linter.unusedSimpArgs false
theorem poss_in (s : ByteArray) : ∀ (n i : Nat), ∀ j, j ∈ poss s n i → j < s.size := by
  intro n
  induction n with
  | zero => intro i j h; simp [poss] at h
  | succ n ih =>
    intro i j h
    unfold poss at h
    split at h
    · rename_i hi
      rcases List.mem_cons.1 h with rfl | h
      · exact hi
      · exact ih _ j h
    · cases h
theorem allI_all {l : List ByteArray} {p : ByteArray → Bool} : ∀ n, allI (fun _ x => p x) n l = l.all p := by
  induction l with
  | nil => intro n; rfl
  | cons x l ih => intro n; simp [allI, ih]
theorem r04_Valid_eq {s : ByteArray} (hs : s.size < 1000000) : r04_Valid s = some ((poss s (s.size + 1) 0).all fun j => !stray s j) := r04_Valid_r (by
  have hl := poss_len s (s.size + 1) 0
  have hb : ∀ x, x ∈ (poss s (s.size + 1) 0).map (piece s) → 0 < x.size ∧ x.size < 1000000 := fun x hx => by
    obtain ⟨j, hj, rfl⟩ := List.mem_map.1 hx
    have h1 := poss_in s _ _ j hj
    have h2 := fits h1
    have h3 := width_pos s j
    unfold piece
    rw [size_ext _ _ _ h2]; omega
  have hv := valid_l (l := (poss s (s.size + 1) 0).map (piece s)) (by simp; omega) hb
  rw [allI_all] at hv
  have he : ((poss s (s.size + 1) 0).map (piece s)).all (fun x => !stray x 0) = (poss s (s.size + 1) 0).all fun j => !stray s j := by
    rw [List.all_map]
    refine Bool.eq_iff_iff.2 ?_
    simp only [List.all_eq_true, Function.comp]
    refine ⟨fun h j hj => ?_, fun h j hj => ?_⟩
    · have := h j hj; unfold stray at this ⊢; rwa [piece_dec (poss_in s _ _ j hj)] at this
    · have := h j hj; unfold stray at this ⊢; rwa [piece_dec (poss_in s _ _ j hj)]
  rw [he] at hv
  simp only [r04_Valid_b, r04_Parts_eq hs, Option.bind_some, hv]
  cases (poss s (s.size + 1) 0).all fun j => !stray s j <;> rfl)
end Go.Ab.Tryd
namespace Go.Ab.Tryd
open Go Go.Ab Go.Proofs Go.Lib
set_option linter.unusedVariables false
set_option linter.unusedSimpArgs false
def isKey (s : ByteArray) : Bool := decide (0 < s.size ∧ s.size ≤ 96) && ((poss s (s.size + 1) 0).all fun j => !stray s j) && decide ((poss s (s.size + 1) 0).length ≤ 32)
theorem r08_Key_eq {s : ByteArray} (hs : s.size < 1000000) : r08_Key s = some (isKey s) := r08_Key_r (by
  simp only [r08_Key_b, ilt_dec, bif_dec, slen_nat, r04_Valid_eq hs, r04_Parts_eq hs, Option.bind_some, isKey, xlen_eq, List.length_map]
  by_cases h1 : 0 < s.size
  · rw [if_pos (by omega)]
    by_cases h2 : s.size ≤ 96
    · rw [if_pos (by omega)]
      cases (poss s (s.size + 1) 0).all fun j => !stray s j
      · simp
      · simp [h1, h2]; omega
    · rw [if_neg (by omega)]; simp [h2]
  · rw [if_neg (by omega)]; simp [h1])
theorem msg_Key_eq {s : ByteArray} (hs : s.size < 1000000) : msg_Key s = some (isKey s) := msg_Key_r (by
  have h0 : Ops.std.seq s ⟨#[]⟩ = true ↔ s.size = 0 := by
    rw [seq_iff]
    constructor
    · rintro rfl; rfl
    · intro h
      cases s with
      | mk d =>
        have : d.size = 0 := h
        rw [Array.eq_empty_of_size_eq_zero this]
  simp only [msg_Key_b, ile_dec, bif_dec, slen_nat, utf_Valid_eq, utf_Count_eq (show s.size < 4611686018427387904 by omega), Option.bind_some, isKey]
  by_cases h1 : s.size = 0
  · rw [h0.2 h1]; simp [h1]
  · rw [Bool.eq_false_iff.2 (fun h => h1 (h0.1 h)), cond_false]
    by_cases h2 : s.size ≤ 96
    · rw [if_pos (by omega)]
      cases (poss s (s.size + 1) 0).all fun j => !stray s j
      · simp
      · have h3 : 0 < s.size := by omega
        simp only [cond_true, h2, h3, and_self, decide_true, Bool.true_and, Option.some.injEq]
        exact decide_eq_decide.2 ⟨fun h => by omega, fun h => by omega⟩
    · rw [if_neg (by omega)]; simp [h2])
end Go.Ab.Tryd
namespace Go.Ab.Tryd
open Go Go.Ab Go.Proofs Go.Lib
set_option linter.unusedVariables false
set_option linter.unusedSimpArgs false
theorem of_r {α : Type} {x y : Option α} (h : ∀ r, y = some r → x = some r) (hn : y ≠ none) : x = y := by
  cases y with
  | none => exact absurd rfl hn
  | some r => exact h r rfl
theorem kcases (k : Int) : (k < 1 ∨ 12 < k) ∨ k = 1 ∨ k = 2 ∨ k = 3 ∨ k = 4 ∨ k = 5 ∨ k = 6 ∨ k = 7 ∨ k = 8 ∨ k = 9 ∨ k = 10 ∨ k = 11 ∨ k = 12 := by omega
def kinds0 : List Msg_kind := [⟨⟨#[63]⟩, 0, []⟩, ⟨⟨#[102, 105, 110, 100]⟩, 4, [2, 12]⟩, ⟨⟨#[104, 111, 112]⟩, 18, []⟩, ⟨⟨#[97, 115, 107]⟩, 0, [4]⟩, ⟨⟨#[116, 101, 108, 108]⟩, 282, []⟩, ⟨⟨#[110, 111, 116, 101]⟩, 8, [6]⟩, ⟨⟨#[111, 107, 97, 121]⟩, 0, []⟩, ⟨⟨#[112, 117, 116]⟩, 96, [6, 12]⟩, ⟨⟨#[103, 101, 116]⟩, 32, [9, 12]⟩, ⟨⟨#[103, 111, 116]⟩, 322, []⟩, ⟨⟨#[109, 111, 118, 101]⟩, 130, [6]⟩, ⟨⟨#[112, 105, 110, 103]⟩, 0, [6]⟩, ⟨⟨#[110, 97, 121]⟩, 1, []⟩]
def kindOf (k : Int) : Msg_kind := kinds0[(if 1 ≤ k ∧ k ≤ 12 then k.toNat else 0)]?.getD ⟨⟨#[63]⟩, 0, []⟩
theorem kindOf_no {k : Int} (h : k < 1 ∨ 12 < k) : kindOf k = ⟨⟨#[63]⟩, 0, []⟩ := by
  unfold kindOf
  rw [if_neg (by omega)] <;> rfl
theorem msg_kinds_eq : msg_kinds = some kinds0 := msg_kinds_r rfl
theorem msg_of_eq (k : Int) : msg_of k = some (kindOf k) := msg_of_r (by
  have hx : ∀ (n : Nat) (x : Msg_kind), kinds0[n]? = some x → xget eMsg_kind kinds0 (n : Int) = some x := fun n x h => by rw [xget_nat, h]
  have hlen : xlen eMsg_kind kinds0 = 13 := by rw [xlen_eq] <;> rfl
  simp only [msg_of_b, msg_kinds_eq, Option.bind_some, hlen, ilt_dec, ile_dec, bif_dec]
  rcases kcases k with h | h
  · rw [kindOf_no h]
    have h0 := hx 0 _ rfl
    simp only [Int.natCast_zero, Int.cast_ofNat_Int] at h0
    split
    · rw [h0] <;> rfl
    · split
      · rw [h0] <;> rfl
      · have : k = 0 := by omega
        subst this; rw [h0] <;> rfl
  · rcases h with rfl | rfl | rfl | rfl | rfl | rfl | rfl | rfl | rfl | rfl | rfl | rfl
    · exact (congrArg (·.bind some) (hx 1 _ rfl))
    · exact (congrArg (·.bind some) (hx 2 _ rfl))
    · exact (congrArg (·.bind some) (hx 3 _ rfl))
    · exact (congrArg (·.bind some) (hx 4 _ rfl))
    · exact (congrArg (·.bind some) (hx 5 _ rfl))
    · exact (congrArg (·.bind some) (hx 6 _ rfl))
    · exact (congrArg (·.bind some) (hx 7 _ rfl))
    · exact (congrArg (·.bind some) (hx 8 _ rfl))
    · exact (congrArg (·.bind some) (hx 9 _ rfl))
    · exact (congrArg (·.bind some) (hx 10 _ rfl))
    · exact (congrArg (·.bind some) (hx 11 _ rfl))
    · exact (congrArg (·.bind some) (hx 12 _ rfl)))
theorem msg_Name_eq (k : Int) : msg_Name k = some (kindOf k).name := msg_Name_r (by rw [msg_Name_b, msg_of_eq] <;> rfl)
def fl (k : Int) (has : Bool) : Int := if k = 1 then 4 else if k = 2 then 18 else if k = 4 then (bif has then 26 else 18) else if k = 5 then 8 else if k = 7 then 96 else if k = 8 then 32 else if k = 9 then (bif has then 66 else 2) else if k = 10 then 130 else if k = 12 then 1 else 0
theorem msg_fields_eq (m : Msg) : msg_fields m = some (fl m.kind m.has) := msg_fields_r (by
  rw [msg_fields_b, msg_of_eq, Option.bind_some]
  obtain ⟨k, rid, code, has, id, key, val, peer, peers, pairs⟩ := m
  simp only
  rcases kcases k with h | h
  · rw [kindOf_no h]
    have : fl k has = 0 := by unfold fl; repeat' (first | rw [if_neg (by omega)])
    rw [this] <;> rfl
  · rcases h with rfl | rfl | rfl | rfl | rfl | rfl | rfl | rfl | rfl | rfl | rfl | rfl <;> cases has <;> rfl)
def bare (m : Msg) : Msg :=
  if m.kind = 1 then ⟨m.kind, m.rid, 0, false, m.id, ⟨#[]⟩, ⟨#[]⟩, ⟨0, 0⟩, [], []⟩ else
  if m.kind = 2 then ⟨m.kind, m.rid, 0, m.has, 0, ⟨#[]⟩, ⟨#[]⟩, ⟨0, 0⟩, m.peers, []⟩ else
  if m.kind = 4 then ⟨m.kind, m.rid, 0, m.has, 0, ⟨#[]⟩, ⟨#[]⟩, bif m.has then m.peer else ⟨0, 0⟩, m.peers, []⟩ else
  if m.kind = 5 then ⟨m.kind, m.rid, 0, false, 0, ⟨#[]⟩, ⟨#[]⟩, m.peer, [], []⟩ else
  if m.kind = 7 then ⟨m.kind, m.rid, 0, false, 0, m.key, m.val, ⟨0, 0⟩, [], []⟩ else
  if m.kind = 8 then ⟨m.kind, m.rid, 0, false, 0, m.key, ⟨#[]⟩, ⟨0, 0⟩, [], []⟩ else
  if m.kind = 9 then ⟨m.kind, m.rid, 0, m.has, 0, ⟨#[]⟩, bif m.has then m.val else ⟨#[]⟩, ⟨0, 0⟩, [], []⟩ else
  if m.kind = 10 then ⟨m.kind, m.rid, 0, m.has, 0, ⟨#[]⟩, ⟨#[]⟩, ⟨0, 0⟩, [], m.pairs⟩ else
  if m.kind = 12 then ⟨m.kind, m.rid, m.code, false, 0, ⟨#[]⟩, ⟨#[]⟩, ⟨0, 0⟩, [], []⟩ else
  ⟨m.kind, m.rid, 0, false, 0, ⟨#[]⟩, ⟨#[]⟩, ⟨0, 0⟩, [], []⟩
theorem r08_Bare_eq {m : Msg} (hp : m.peers.length ≤ 1000) (hq : m.pairs.length ≤ 1000) : r08_Bare m = some (bare m) := r08_Bare_r (by
  have h1 : xroom ePeer 16 [] m.peers = true := xroom_eq ePeer (by simp; omega) (by omega)
  have h2 : xroom ePair 32 [] m.pairs = true := xroom_eq ePair (by simp; omega) (by omega)
  simp only [r08_Bare_b, h1, h2, cond_true, ieq_dec, bif_dec]
  unfold bare
  repeat' split
  all_goals (first | rfl | (rename_i h; rw [h] <;> rfl)  | (cases hh : m.has <;> simp_all) | simp_all))
theorem msg_Bare_eq {m : Msg} (hp : m.peers.length ≤ 1000) (hq : m.pairs.length ≤ 1000) : msg_Bare m = some (bare m) := msg_Bare_r (by
  have h1 : xroom ePeer 16 [] m.peers = true := xroom_eq ePeer (by simp; omega) (by omega)
  have h2 : xroom ePair 32 [] m.pairs = true := xroom_eq ePair (by simp; omega) (by omega)
  have e0 : ∀ f a b c d p q, msg_Bare_s0 m f a b c d p q = msg_Bare_s0_b m f a b c d p q := fun f a b c d p q => of_r (fun r => msg_Bare_s0_r) (by
    simp only [msg_Bare_s0_b, h1, h2, cond_true, ieq_dec, bif_dec]
    repeat' split
    all_goals exact Option.some_ne_none _)
  have e01 : ∀ f a b c d p q, msg_Bare_s0_1 m f a b c d p q = msg_Bare_s0_1_b m f a b c d p q := fun f a b c d p q => of_r (fun r => msg_Bare_s0_1_r) (by
    simp only [msg_Bare_s0_1_b, h1, h2, cond_true, ieq_dec, bif_dec]
    repeat' split
    all_goals exact Option.some_ne_none _)
  have e1 : ∀ f a b c p q, msg_Bare_s1 m f a b c p q = msg_Bare_s1_b m f a b c p q := fun f a b c p q => of_r (fun r => msg_Bare_s1_r) (by
    simp only [msg_Bare_s1_b, e0, e01, msg_Bare_s0_b, msg_Bare_s0_1_b, h1, h2, cond_true, ieq_dec, bif_dec]
    by_cases q1 : Ops.std.ibit .and .i64 f 16 = 0 <;> by_cases q2 : Ops.std.ibit .and .i64 f 32 = 0 <;> by_cases q3 : Ops.std.ibit .and .i64 f 64 = 0 <;> by_cases q4 : Ops.std.ibit .and .i64 f 128 = 0 <;> simp [q1, q2, q3, q4])
  have e2 : ∀ f a b, msg_Bare_s2 m f a b = msg_Bare_s2_b m f a b := fun f a b => of_r (fun r => msg_Bare_s2_r) (by
    simp only [msg_Bare_s2_b, e1, msg_Bare_s1_b, e0, e01, msg_Bare_s0_b, msg_Bare_s0_1_b, h1, h2, cond_true, ieq_dec, bif_dec]
    by_cases q1 : Ops.std.ibit .and .i64 f 16 = 0 <;> by_cases q2 : Ops.std.ibit .and .i64 f 32 = 0 <;> by_cases q3 : Ops.std.ibit .and .i64 f 64 = 0 <;> by_cases q4 : Ops.std.ibit .and .i64 f 128 = 0 <;> by_cases q5 : Ops.std.ibit .and .i64 f 4 = 0 <;> by_cases q6 : Ops.std.ibit .and .i64 f 8 = 0 <;> simp [q1, q2, q3, q4, q5, q6])
  rw [msg_Bare_b, msg_fields_eq, Option.bind_some]
  simp only [e2, msg_Bare_s2_b, e1, msg_Bare_s1_b, e0, e01, msg_Bare_s0_b, msg_Bare_s0_1_b, h1, h2, cond_true, ieq_dec, bif_dec]
  obtain ⟨k, rid, code, has, id, key, val, ⟨pi, pa⟩, peers, pairs⟩ := m
  simp only
  rcases kcases k with h | h
  · have hf : fl k has = 0 := by unfold fl; repeat' (first | rw [if_neg (by omega)])
    have hb : bare ⟨k, rid, code, has, id, key, val, ⟨pi, pa⟩, peers, pairs⟩ = ⟨k, rid, 0, false, 0, ⟨#[]⟩, ⟨#[]⟩, ⟨0, 0⟩, [], []⟩ := by unfold bare; simp only; repeat' (first | rw [if_neg (by omega)])
    rw [hf, hb] <;> rfl
  · rcases h with rfl | rfl | rfl | rfl | rfl | rfl | rfl | rfl | rfl | rfl | rfl | rfl <;> cases has <;> rfl)
end Go.Ab.Tryd
namespace Go.Ab.Tryd
open Go Go.Ab Go.Proofs Go.Lib
set_option linter.unusedVariables false
set_option linter.unusedSimpArgs false
theorem iltT {a b : Int} (h : a < b) : Ops.std.ilt a b = true := decide_eq_true h
theorem iltF {a b : Int} (h : ¬ a < b) : Ops.std.ilt a b = false := decide_eq_false h
theorem ieqT {a b : Int} (h : a = b) : Ops.std.ieq a b = true := decide_eq_true h
theorem ieqF {a b : Int} (h : ¬ a = b) : Ops.std.ieq a b = false := decide_eq_false h
theorem r08_Peers_eq {a b : List Peer} (hl : a.length ≤ 1000000) : r08_Peers a b = some (eqb a b) := r08_Peers_r (by
  rw [r08_Peers_b, xlen_eq, xlen_eq]
  by_cases he : a.length = b.length
  · have h := same_list ePeer (l := a) (l' := b) (by omega) he (L := fun i => r08_Peers_l0 a b i) (fun h => r08_Peers_l0_r (by simp [r08_Peers_l0_b, h]))
      (fun n x r _ h1 h2 h3 h => r08_Peers_l0_r (by simp [r08_Peers_l0_b, h1, h2, h3, ieq_dec]; exact h))
      (fun n x y _ h1 h2 h3 h => r08_Peers_l0_r (by
        simp only [r08_Peers_l0_b, h1, h2, h3, ieq_dec, bif_dec, cond_true, Option.bind_some]
        rw [ne_eq, Peer.ext'] at h
        split
        · split
          · exact absurd ⟨‹_›, ‹_›⟩ h
          · rfl
        · rfl))
    rw [ieqT (by omega), cond_true]
    rcases h with ⟨h1, h2⟩ | ⟨h1, h2⟩
    · rw [h2, h1, eqb_self] <;> rfl
    · rw [h2, eqb_ne h1] <;> rfl
  · rw [ieqF (by omega), eqb_ne (fun h => he (by rw [h]))] <;> rfl)
theorem Equal_Peer_eq {a b : List Peer} (hl : a.length ≤ 1000000) : Equal_Peer a b = some (eqb a b) := Equal_Peer_r (by
  rw [Equal_Peer_b, xlen_eq, xlen_eq]
  by_cases he : a.length = b.length
  · have h := same_list ePeer (l := a) (l' := b) (by omega) he (L := fun i => Equal_Peer_l0 a b i) (fun h => Equal_Peer_l0_r (by simp [Equal_Peer_l0_b, h]))
      (fun n x r _ h1 h2 h3 h => Equal_Peer_l0_r (by simp [Equal_Peer_l0_b, h1, h2, h3, ieq_dec]; exact h))
      (fun n x y _ h1 h2 h3 h => Equal_Peer_l0_r (by
        simp only [Equal_Peer_l0_b, h1, h2, h3, ieq_dec, bif_dec, cond_true, Option.bind_some]
        rw [ne_eq, Peer.ext'] at h
        split
        · split
          · exact absurd ⟨‹_›, ‹_›⟩ h
          · rfl
        · rfl))
    rw [ieqT (by omega), cond_true]
    rcases h with ⟨h1, h2⟩ | ⟨h1, h2⟩
    · rw [h2, h1, eqb_self] <;> rfl
    · rw [h2, eqb_ne h1] <;> rfl
  · rw [ieqF (by omega), eqb_ne (fun h => he (by rw [h]))] <;> rfl)
theorem seq_self (a : ByteArray) : Ops.std.seq a a = true := seq_iff.2 rfl
theorem r08_Pairs_eq {a b : List Pair} (hl : a.length ≤ 1000000) : r08_Pairs a b = some (eqb a b) := r08_Pairs_r (by
  rw [r08_Pairs_b, xlen_eq, xlen_eq]
  by_cases he : a.length = b.length
  · have h := same_list ePair (l := a) (l' := b) (by omega) he (L := fun i => r08_Pairs_l0 a b i) (fun h => r08_Pairs_l0_r (by simp [r08_Pairs_l0_b, h]))
      (fun n x r _ h1 h2 h3 h => r08_Pairs_l0_r (by simp [r08_Pairs_l0_b, h1, h2, h3, seq_self]; exact h))
      (fun n x y _ h1 h2 h3 h => r08_Pairs_l0_r (by
        simp only [r08_Pairs_l0_b, h1, h2, h3, seq_dec, bif_dec, cond_true, Option.bind_some]
        rw [ne_eq, Pair.ext'] at h
        split
        · split
          · exact absurd ⟨‹_›, ‹_›⟩ h
          · rfl
        · rfl))
    rw [ieqT (by omega), cond_true]
    rcases h with ⟨h1, h2⟩ | ⟨h1, h2⟩
    · rw [h2, h1, eqb_self] <;> rfl
    · rw [h2, eqb_ne h1] <;> rfl
  · rw [ieqF (by omega), eqb_ne (fun h => he (by rw [h]))] <;> rfl)
theorem Equal_Pair_eq {a b : List Pair} (hl : a.length ≤ 1000000) : Equal_Pair a b = some (eqb a b) := Equal_Pair_r (by
  rw [Equal_Pair_b, xlen_eq, xlen_eq]
  by_cases he : a.length = b.length
  · have h := same_list ePair (l := a) (l' := b) (by omega) he (L := fun i => Equal_Pair_l0 a b i) (fun h => Equal_Pair_l0_r (by simp [Equal_Pair_l0_b, h]))
      (fun n x r _ h1 h2 h3 h => Equal_Pair_l0_r (by simp [Equal_Pair_l0_b, h1, h2, h3, seq_self]; exact h))
      (fun n x y _ h1 h2 h3 h => Equal_Pair_l0_r (by
        simp only [Equal_Pair_l0_b, h1, h2, h3, seq_dec, bif_dec, cond_true, Option.bind_some]
        rw [ne_eq, Pair.ext'] at h
        split
        · split
          · exact absurd ⟨‹_›, ‹_›⟩ h
          · rfl
        · rfl))
    rw [ieqT (by omega), cond_true]
    rcases h with ⟨h1, h2⟩ | ⟨h1, h2⟩
    · rw [h2, h1, eqb_self] <;> rfl
    · rw [h2, eqb_ne h1] <;> rfl
  · rw [ieqF (by omega), eqb_ne (fun h => he (by rw [h]))] <;> rfl)
theorem beq_dec' (a b : Bool) : Ops.std.beq a b = decide (a = b) := by cases a <;> cases b <;> rfl
theorem r08_Same_eq {a b : Msg} (hp : a.peers.length ≤ 1000000) (hq : a.pairs.length ≤ 1000000) : r08_Same a b = some (eqb a b) := r08_Same_r (by
  simp only [r08_Same_b, r08_Peers_eq hp, r08_Pairs_eq hq, Option.bind_some, ieq_dec, beq_dec', seq_dec, bif_dec]
  obtain ⟨k, rid, code, has, id, key, val, ⟨pi, pa⟩, peers, pairs⟩ := a
  obtain ⟨k', rid', code', has', id', key', val', ⟨pi', pa'⟩, peers', pairs'⟩ := b
  simp only [eqb, Msg.mk.injEq, Peer.mk.injEq]
  by_cases c1 : k = k' <;> by_cases c2 : rid = rid' <;> by_cases c3 : code = code' <;> by_cases c4 : has = has' <;> by_cases c5 : id = id' <;> simp only [c1, c2, c3, c4, c5, if_true, if_false, false_and, and_false, decide_false, true_and] <;> first | rfl | skip
  all_goals (by_cases c6 : key = key' <;> by_cases c7 : val = val' <;> by_cases c8 : pi = pi' <;> by_cases c9 : pa = pa' <;> by_cases c10 : peers = peers' <;> by_cases c11 : pairs = pairs' <;> simp_all))
theorem msg_Same_s0_eq {a b : Msg} (hp : a.peers.length ≤ 1000000) (hq : a.pairs.length ≤ 1000000) (t : Bool) : msg_Same_s0 a b t = some (t && (eqb a.key b.key && (eqb a.val b.val && (eqb a.peer b.peer && (eqb a.peers b.peers && eqb a.pairs b.pairs))))) := msg_Same_s0_r (by
  simp only [msg_Same_s0_b, Equal_Peer_eq hp, Equal_Pair_eq hq, Option.bind_some, ieq_dec, seq_dec, eqb, Peer.ext']
  cases t
  · rfl
  · simp only [cond_true, Bool.true_and]
    by_cases c6 : a.key = b.key <;> by_cases c7 : a.val = b.val <;> by_cases c8 : a.peer.id = b.peer.id <;> by_cases c9 : a.peer.addr = b.peer.addr <;> by_cases c10 : a.peers = b.peers <;> by_cases c11 : a.pairs = b.pairs <;> simp_all)
theorem msg_Same_eq {a b : Msg} (hp : a.peers.length ≤ 1000000) (hq : a.pairs.length ≤ 1000000) : msg_Same a b = some (eqb a b) := msg_Same_r (by
  simp only [msg_Same_b, msg_Same_s0_eq hp hq, Option.bind_some, ieq_dec, beq_dec', bif_dec, Bool.false_and]
  obtain ⟨k, rid, code, has, id, key, val, peer, peers, pairs⟩ := a
  obtain ⟨k', rid', code', has', id', key', val', peer', peers', pairs'⟩ := b
  simp only [eqb, Msg.mk.injEq]
  by_cases c1 : k = k' <;> by_cases c2 : rid = rid' <;> by_cases c3 : code = code' <;> by_cases c4 : has = has' <;> by_cases c5 : id = id' <;> simp only [c1, c2, c3, c4, c5, if_true, if_false, false_and, and_false, decide_false, true_and, decide_true, Bool.true_and, Bool.false_and] <;> first | rfl | skip
  all_goals (by_cases c6 : key = key' <;> by_cases c7 : val = val' <;> by_cases c8 : peer = peer' <;> by_cases c10 : peers = peers' <;> by_cases c11 : pairs = pairs' <;> simp_all))
def keyed (m : Msg) : Bool := m.kind == 7 || m.kind == 8
def badKeys (l : List Pair) : Bool := l.any fun p => !isKey p.key
def longs (l : List Pair) : Bool := l.any fun p => decide (512 < p.val.size)
def isLong (m : Msg) : Bool := decide (512 < m.val.size) || decide (16 < m.peers.length) || decide (8 < m.pairs.length) || longs m.pairs
def isShort (m : Msg) : Bool := (decide (m.kind = 2) && decide (m.peers.length = 0)) || (decide (m.kind = 10) && decide (m.pairs.length = 0)) || (decide (m.kind = 12) && decide (m.code = 0))
noncomputable def rightE (m : Msg) : Int :=
  if m.kind < 1 ∨ 12 < m.kind then 9 else bif eqb m (bare m) then
    bif (keyed m && !isKey m.key) || badKeys m.pairs then 7 else bif isLong m then 5 else bif isShort m then 2 else 0
  else 1
structure Fit (m : Msg) : Prop where
  key : m.key.size < 1000000
  val : m.val.size < 1000000
  peers : m.peers.length ≤ 1000
  pairs : m.pairs.length ≤ 1000
  keys : ∀ p, p ∈ m.pairs → p.key.size < 1000000
theorem fst_any {α : Type} {p : α → Bool} {l : List α} : decide (0 ≤ fstI p l) = l.any p := by
  unfold fstI
  cases h : fst p l with
  | none =>
    have := fst_none h
    have e : l.any p = false := by
      rw [List.any_eq_false]; intro x hx; simp [this x hx]
    rw [e] <;> rfl
  | some n =>
    obtain ⟨x, hx, hp, _⟩ := fst_some h
    rw [List.any_eq_true.2 ⟨x, List.mem_of_getElem? hx, hp⟩]
    exact decide_eq_true (show (0 : Int) ≤ (n : Int) by omega)
theorem msg_text_1_eq {p : Pair} (h : p.key.size < 1000000) : msg_text_1 p = some (!isKey p.key) := msg_text_1_r (by rw [msg_text_1_b, msg_Key_eq h] <;> rfl)
theorem msg_long_1_eq (p : Pair) : msg_long_1 p = some (decide (512 < p.val.size)) := msg_long_1_r (by
  rw [msg_long_1_b, slen_nat, ilt_dec]; congr 1; exact decide_eq_decide.2 ⟨fun h => by omega, fun h => by omega⟩)
theorem IndexFunc_Pair_eq {l : List Pair} (hl : l.length ≤ 1000) (hk : ∀ p, p ∈ l → p.key.size < 1000000) : IndexFunc_Pair l = some (fstI (fun p => !isKey p.key) l) := IndexFunc_Pair_r (by
  have h := find_list ePair (l := l) (by omega) (p := fun p => !isKey p.key) (L := fun i => IndexFunc_Pair_l0 l i) (fun h => IndexFunc_Pair_l0_r (by simp [IndexFunc_Pair_l0_b, h]))
    (fun n x hx h1 h2 hp => IndexFunc_Pair_l0_r (by simp only [IndexFunc_Pair_l0_b, h1, h2, msg_text_1_eq (hk x hx), hp, cond_true, Option.bind_some]))
    (fun n x r hx h1 h2 hp h => IndexFunc_Pair_l0_r (by simp only [IndexFunc_Pair_l0_b, h1, h2, msg_text_1_eq (hk x hx), hp, cond_true, cond_false, Option.bind_some]; exact h))
  rw [IndexFunc_Pair_b, h]
  unfold fstI
  cases fst (fun p : Pair => !isKey p.key) l <;> rfl)
theorem IndexFunc_Pair_1_eq {l : List Pair} (hl : l.length ≤ 1000) : IndexFunc_Pair_1 l = some (fstI (fun p => decide (512 < p.val.size)) l) := IndexFunc_Pair_1_r (by
  have h := find_list ePair (l := l) (by omega) (p := fun p => decide (512 < p.val.size)) (L := fun i => IndexFunc_Pair_1_l0 l i) (fun h => IndexFunc_Pair_1_l0_r (by simp [IndexFunc_Pair_1_l0_b, h]))
    (fun n x hx h1 h2 hp => IndexFunc_Pair_1_l0_r (by simp only [IndexFunc_Pair_1_l0_b, h1, h2, msg_long_1_eq, hp, cond_true, Option.bind_some]))
    (fun n x r hx h1 h2 hp h => IndexFunc_Pair_1_l0_r (by simp only [IndexFunc_Pair_1_l0_b, h1, h2, msg_long_1_eq, hp, cond_true, cond_false, Option.bind_some]; exact h))
  rw [IndexFunc_Pair_1_b, h]
  unfold fstI
  cases fst (fun p : Pair => decide (512 < p.val.size)) l <;> rfl)
theorem kind_name {k : Int} : Ops.std.seq (kindOf k).name ⟨#[63]⟩ = decide (k < 1 ∨ 12 < k) := by
  rcases kcases k with h | h
  · rw [kindOf_no h, decide_eq_true h] <;> rfl
  · rcases h with rfl | rfl | rfl | rfl | rfl | rfl | rfl | rfl | rfl | rfl | rfl | rfl <;> rfl
theorem fl_key (m : Msg) : Ops.std.ieq (Ops.std.ibit .and .i64 (fl m.kind m.has) 32) 0 = !keyed m := by
  unfold keyed
  rcases kcases m.kind with h | h
  · have : fl m.kind m.has = 0 := by unfold fl; repeat' (first | rw [if_neg (by omega)])
    have h7 : (m.kind == 7) = false := by rw [beq_eq_false_iff_ne]; omega
    have h8 : (m.kind == 8) = false := by rw [beq_eq_false_iff_ne]; omega
    rw [this, h7, h8] <;> rfl
  · rcases h with h | h | h | h | h | h | h | h | h | h | h | h <;> rw [h] <;> cases m.has <;> rfl
theorem msg_text_eq {m : Msg} (h : Fit m) : msg_text m (fl m.kind m.has) = some (!((keyed m && !isKey m.key) || badKeys m.pairs)) := msg_text_r (by
  have hc : ContainsFunc_Pair m.pairs = some (badKeys m.pairs) := ContainsFunc_Pair_r (by
    rw [ContainsFunc_Pair_b, IndexFunc_Pair_eq h.pairs h.keys]; exact congrArg some fst_any)
  simp only [msg_text_b, fl_key, msg_Key_eq h.key, hc, Option.bind_some]
  cases keyed m <;> cases isKey m.key <;> simp)
theorem msg_long_eq {m : Msg} (h : Fit m) : msg_long m = some (isLong m) := msg_long_r (by
  have hc : ContainsFunc_Pair_1 m.pairs = some (longs m.pairs) := ContainsFunc_Pair_1_r (by
    rw [ContainsFunc_Pair_1_b, IndexFunc_Pair_1_eq h.pairs]; exact congrArg some fst_any)
  simp only [msg_long_b, hc, Option.bind_some, slen_nat, xlen_eq, ilt_dec, bif_dec, isLong]
  by_cases h1 : 512 < m.val.size
  · rw [if_pos (by omega)]; simp [h1]
  · by_cases h2 : 16 < m.peers.length
    · rw [if_neg (by omega), if_pos (by omega)]; simp [h2]
    · by_cases h3 : 8 < m.pairs.length
      · rw [if_neg (by omega), if_neg (by omega), if_pos (by omega)]; simp [h3]
      · rw [if_neg (by omega), if_neg (by omega), if_neg (by omega)]; simp [h1, h2, h3])
theorem len0 {α : Type} {l : List α} : decide ((l.length : Int) = 0) = decide (l.length = 0) := decide_eq_decide.2 ⟨fun h => by omega, fun h => by omega⟩
theorem msg_short_eq (m : Msg) : msg_short m = some (isShort m) := msg_short_r (by
  simp only [msg_short_b, xlen_eq, ieq_dec, bif_dec, isShort, len0]
  by_cases h1 : m.kind = 2
  · have h2 : ¬ m.kind = 10 := by omega
    have h3 : ¬ m.kind = 12 := by omega
    simp [h1]
  · by_cases h2 : m.kind = 10
    · simp [h2]
    · by_cases h3 : m.kind = 12
      · simp [h3]
      · simp [h1, h2, h3])
theorem msg_Right_eq {m : Msg} (h : Fit m) : msg_Right m = some (rightE m) := msg_Right_r (by
  have h1 := h.peers; have h2 := h.pairs
  simp only [msg_Right_b, msg_fields_eq, msg_Name_eq, kind_name, msg_Bare_eq h.peers h.pairs, msg_Same_eq (a := m) (b := bare m) (by omega) (by omega), msg_text_eq h, msg_long_eq h, msg_short_eq, Option.bind_some, rightE, bif_dec]
  split
  · rfl
  · cases eqb m (bare m)
    · rfl
    · cases (keyed m && !isKey m.key) || badKeys m.pairs
      · cases isLong m <;> cases isShort m <;> rfl
      · rfl)
theorem r08_names_eq : r08_names = some (kinds0.map (·.name)) := r08_names_r rfl
theorem r08_Name_eq (k : Int) : r08_Name k = some (kindOf k).name := r08_Name_r (by
  simp only [r08_Name_b, ilt_dec, bif_dec, r08_names_eq, Option.bind_some]
  rcases kcases k with h | h
  · rw [kindOf_no h]
    rcases h with h | h
    · rw [if_pos h]
    · rw [if_neg (by omega), if_pos h]
  · have hx : ∀ n : Nat, 1 ≤ n → n ≤ 12 → xget vT (kinds0.map (·.name)) (n : Int) = some (kindOf n).name := fun n hn hm => by
      rw [xget_nat, List.getElem?_map]
      unfold kindOf
      rw [if_pos (by omega), Int.toNat_natCast]
      have hl : n < kinds0.length := by show n < 13; omega
      rw [List.getElem?_eq_getElem hl] <;> rfl
    rw [if_neg (by omega), if_neg (by omega)]
    have := hx k.toNat (by omega) (by omega)
    rw [show ((k.toNat : Nat) : Int) = k by omega] at this
    rw [this] <;> rfl)
theorem r08_Right_l0_eq {m : Msg} (h : Fit m) (lo : Bool) : r08_Right_l0 m lo 0 = some (bif badKeys m.pairs then .inl () else .inr (lo || longs m.pairs)) :=
  for_list (σ := Bool) ePair (l := m.pairs) (by have := h.pairs; omega) (L := fun i s => r08_Right_l0 m s i) (res := fun n s rest => bif badKeys rest then .inl () else .inr (s || longs rest)) (Inv := fun _ _ => True)
    (fun s _ hh => r08_Right_l0_r (by simp [r08_Right_l0_b, hh, badKeys, longs]))
    (fun n x rest s _ hn hx hd h1 h2 h3 ih => r08_Right_l0_r (by
      have hm : x ∈ m.pairs := List.mem_of_getElem? hx
      simp only [r08_Right_l0_b, h1, h2, h3, cond_true, Option.bind_some, r08_Key_eq (h.keys x hm), slen_nat, ilt_dec, bif_dec, ih _ trivial, badKeys, longs, List.any_cons]
      cases isKey x.key
      · rfl
      · by_cases hv : 512 < x.val.size
        · rw [if_pos (by omega)]; simp [hv]
        · rw [if_neg (by omega)]; simp [hv])) lo trivial
theorem r08_Right_s1_eq {m : Msg} (h : Fit m) (lo : Bool) : r08_Right_s1 m lo = some (bif badKeys m.pairs then 7 else bif lo || longs m.pairs then 5 else bif isShort m then 2 else 0) := r08_Right_s1_r (by
  simp only [r08_Right_s1_b, r08_Right_l0_eq h lo, Option.bind_some, xlen_eq, ieq_dec]
  cases badKeys m.pairs
  · cases lo || longs m.pairs
    · simp only [cond_false, isShort, len0]
      by_cases h1 : m.kind = 2
      · simp [h1]; cases decide (m.peers = []) <;> rfl
      · by_cases h2 : m.kind = 10
        · simp [h2]; cases decide (m.pairs = []) <;> rfl
        · by_cases h3 : m.kind = 12
          · simp [h3]; cases decide (m.code = 0) <;> rfl
          · simp [h1, h2, h3]
    · rfl
  · rfl)
theorem r08_Right_s2_eq {m : Msg} (h : Fit m) : r08_Right_s2 m = some (bif badKeys m.pairs then 7 else bif isLong m then 5 else bif isShort m then 2 else 0) := r08_Right_s2_r (by
  simp only [r08_Right_s2_b, r08_Right_s1_eq h, Option.bind_some, slen_nat, xlen_eq, ilt_dec, bif_dec, isLong]
  by_cases h1 : 512 < m.val.size
  · rw [if_pos (by omega)]; simp [h1]
  · by_cases h2 : 16 < m.peers.length
    · rw [if_neg (by omega), if_pos (by omega)]; simp [h2]
    · rw [if_neg (by omega), if_neg (by omega)]
      by_cases h3 : 8 < m.pairs.length
      · have : (8 : Int) < m.pairs.length := by omega
        simp [h1, h2, h3, this]
      · have : ¬ (8 : Int) < m.pairs.length := by omega
        simp [h1, h2, h3, this])
theorem r08_Right_eq {m : Msg} (h : Fit m) : r08_Right m = some (rightE m) := r08_Right_r (by
  have h1 := h.peers; have h2 := h.pairs
  simp only [r08_Right_b, r08_Name_eq, kind_name, r08_Bare_eq h.peers h.pairs, r08_Same_eq (a := m) (b := bare m) (by omega) (by omega), r08_Key_eq h.key, r08_Right_s2_eq h, Option.bind_some, rightE, bif_dec, ieq_dec, keyed]
  split
  · rfl
  · cases eqb m (bare m)
    · rfl
    · by_cases h7 : m.kind = 7
      · rw [h7]; cases isKey m.key <;> rfl
      · by_cases h8 : m.kind = 8
        · rw [h8]; cases isKey m.key <;> rfl
        · rw [if_neg h7, if_neg h8, beq_eq_false_iff_ne.2 h7, beq_eq_false_iff_ne.2 h8] <;> rfl)
end Go.Ab.Tryd
namespace Go.Ab.Tryd
open Go Go.Ab Go.Proofs Go.Lib
set_option linter.unusedVariables false
set_option linter.unusedSimpArgs false
def be : Nat → Int → List Int
  | 0, _ => []
  | k + 1, n => be k (n / 256) ++ [n % 256]
def bval (l : List Int) : Int := l.foldl (fun n b => n * 256 + b) 0
def Byt (l : List Int) : Prop := ∀ x, x ∈ l → 0 ≤ x ∧ x < 256
theorem be_len : ∀ (k : Nat) (n : Int), (be k n).length = k
  | 0, _ => rfl
  | k + 1, n => by rw [be, List.length_append, be_len k] <;> rfl
theorem be_cons : ∀ (k : Nat) (n : Int), be (k + 1) n = (n / 256 ^ k) % 256 :: be k n
  | 0, n => by simp [be]
  | k + 1, n => by
    rw [be, be_cons k (n / 256), be]
    rw [Int.ediv_ediv_of_nonneg (by omega), Int.mul_comm, ← Int.pow_succ] <;> rfl
theorem sbytes_len (s : ByteArray) : (sbytes s).length = s.size := by
  unfold sbytes; rw [List.length_map] <;> rfl
theorem ishr_u64 {n : Int} {i : Nat} (h0 : 0 ≤ n) (hi : i ≤ 7) : Ops.std.ishr .u64 n (Ops.std.imul .i64 8 (i : Int)) = n / 256 ^ i := by
  have e : Ops.std.imul .i64 8 (i : Int) = ((8 * i : Nat) : Int) := by
    show IntKind.i64.wrap (8 * (i : Int)) = _
    rw [show (8 * (i : Int)) = ((8 * i : Nat) : Int) by omega]
    exact wrap64 (by omega) (by omega)
  rw [e]
  show n.fdiv (2 ^ (min (((8 * i : Nat) : Int)).toNat 64)) = _
  rw [Int.toNat_natCast, show min (8 * i) 64 = 8 * i by omega, Int.fdiv_eq_ediv_of_nonneg _ (by exact Int.pow_nonneg (by omega)), Int.pow_mul] <;> rfl
theorem wrap_u8 (x : Int) : Ops.std.iwrap .u8 x = x % 256 := u8_wrap x
theorem wrap_u64 {x : Int} (h0 : 0 ≤ x) (h1 : x < 18446744073709551616) : Ops.std.iwrap .u64 x = x := by
  show IntKind.u64.wrap x = x
  rw [u64_wrap]; omega
theorem wrap_i64 {x : Int} (h0 : 0 ≤ x) (h1 : x < 9223372036854775808) : Ops.std.iwrap .i64 x = x := wrap64 (by omega) (by omega)
theorem room1 {l l' : List Int} (h : l.length + l'.length ≤ 1000000) : xroom vB 1 l l' = true := xroom_eq vB h (by omega)
theorem buf_Fix_l0_eq {n : Int} (h0 : 0 ≤ n) : ∀ (k : Nat) (r : List Int), k ≤ 8 → r.length + k ≤ 900008 → buf_Fix_l0 n ((k : Int) - 1) r = some (r ++ be k n)
  | 0, r, _, _ => buf_Fix_l0_r (by rw [buf_Fix_l0_b, ile_dec]; simp [be])
  | k + 1, r, hk, hr => buf_Fix_l0_r (by
    have e : (((k + 1 : Nat) : Int) - 1) = (k : Int) := by omega
    have hm : Ops.std.ilt (Ops.std.imul .i64 8 (k : Int)) 0 = false := by
      have e : Ops.std.imul .i64 8 (k : Int) = ((8 * k : Nat) : Int) := by
        show IntKind.i64.wrap (8 * (k : Int)) = _
        rw [show (8 * (k : Int)) = ((8 * k : Nat) : Int) by omega]
        exact wrap64 (by omega) (by omega)
      rw [e]; exact iltF (by omega)
    rw [e, buf_Fix_l0_b, ile_dec, decide_eq_true (by omega), cond_true, hm, cond_false, ishr_u64 h0 (by omega), wrap_u8, room1 (by simp; omega), cond_true]
    have hs : Ops.std.isub .i64 (k : Int) 1 = (k : Int) - 1 := wrap64 (by omega) (by omega)
    rw [hs, buf_Fix_l0_eq h0 k _ (by omega) (by rw [List.length_append]; simp; omega), be_cons, List.append_assoc] <;> rfl)
theorem buf_Fix_eq {n : Int} {k : Nat} {r : List Int} (h0 : 0 ≤ n) (h1 : 1 ≤ k) (hk : k ≤ 8) (hr : r.length ≤ 900000) : buf_Fix n (k : Int) r = some (r ++ be k n) := buf_Fix_r (by
  have hs : Ops.std.isub .i64 (k : Int) 1 = (k : Int) - 1 := wrap64 (by omega) (by omega)
  rw [buf_Fix_b, iltF (by omega), cond_false, iltF (by omega), cond_false, hs, buf_Fix_l0_eq h0 k r hk (by omega)] <;> rfl)
theorem r06_Fix_l0_1_eq (k : Nat) (hk : k ≤ 8) : ∀ (d i : Nat) (n : Int) (b : List Int), i + d = k → 0 ≤ n → n < 18446744073709551616 → b.length ≤ i → r06_Fix_l0_1 (k : Int) n b (i : Int) = some (.inr (be d n ++ b)) := by
  intro d
  induction d with
  | zero =>
    intro i n b hi h0 h1 hb
    exact r06_Fix_l0_1_r (by rw [r06_Fix_l0_1_b, iltF (by omega)] <;> rfl)
  | succ d ih =>
    intro i n b hi h0 h1 hb
    refine r06_Fix_l0_1_r ?_
    have e1 : Ops.std.iwrap .u8 (Ops.std.irem n 256) = n % 256 := by
      show Ops.std.iwrap .u8 (n.tmod 256) = _
      rw [wrap_u8, Int.tmod_eq_emod_of_nonneg h0]; omega
    have e2 : Ops.std.iquo .u64 n 256 = n / 256 := by
      show IntKind.u64.wrap (n.tdiv 256) = _
      rw [u64_wrap, Int.tdiv_eq_ediv_of_nonneg h0]; omega
    have e3 : Ops.std.iadd .i64 (i : Int) 1 = ((i + 1 : Nat) : Int) := iadd1 (by omega)
    rw [r06_Fix_l0_1_b, iltT (by omega), cond_true, e1, e2, e3, show Ops.std.ieq 256 0 = false from rfl, cond_false, room1 (by simp; omega), cond_true, ih (i + 1) (n / 256) _ (by omega) (by omega) (by omega) (by simp; omega), be, List.append_assoc]
theorem r06_Fix_eq {n : Int} {k : Nat} (h0 : 0 ≤ n) (h1 : n < 18446744073709551616) (hk1 : 1 ≤ k) (hk : k ≤ 8) : r06_Fix n (k : Int) = some (be k n) := r06_Fix_r (by
  have e1 : Ops.std.iwrap .u8 (Ops.std.irem n 256) = n % 256 := by
    show Ops.std.iwrap .u8 (n.tmod 256) = _
    rw [wrap_u8, Int.tmod_eq_emod_of_nonneg h0]; omega
  have e2 : Ops.std.iquo .u64 n 256 = n / 256 := by
    show IntKind.u64.wrap (n.tdiv 256) = _
    rw [u64_wrap, Int.tdiv_eq_ediv_of_nonneg h0]; omega
  have e3 : Ops.std.iadd .i64 0 1 = ((1 : Nat) : Int) := rfl
  have hl : r06_Fix_l0 n (k : Int) = some (.inr (be k n)) := r06_Fix_l0_r (by
    rw [r06_Fix_l0_b, iltT (by omega), cond_true, e1, e2, e3, show Ops.std.ieq 256 0 = false from rfl, cond_false, room1 (by simp), cond_true, r06_Fix_l0_1_eq k hk (k - 1) 1 _ _ (by omega) (by omega) (by omega) (by simp)]
    obtain ⟨j, rfl⟩ : ∃ j, k = j + 1 := ⟨k - 1, by omega⟩
    rw [Nat.add_sub_cancel, be, List.append_nil])
  rw [r06_Fix_b, iltF (by omega), cond_false, hl] <;> rfl)
end Go.Ab.Tryd
namespace Go.Ab.Tryd
open Go Go.Ab Go.Proofs Go.Lib
set_option linter.unusedVariables false
set_option linter.unusedSimpArgs false
set_option linter.unusedSectionVars false
def pText (k : Nat) (s : ByteArray) : List Int := be k (s.size : Int) ++ sbytes s
def pPeer (p : Peer) : List Int := be 8 p.id ++ be 2 p.addr
def pPair (p : Pair) : List Int := pText 1 p.key ++ pText 2 p.val
def pFlag (b : Bool) : List Int := [bif b then 1 else 0]
def pCode (m : Msg) : List Int := if m.kind = 12 then [m.code] else []
def pHas (m : Msg) : List Int := if m.kind = 2 ∨ m.kind = 4 ∨ m.kind = 9 ∨ m.kind = 10 then pFlag m.has else []
def pId (m : Msg) : List Int := if m.kind = 1 then be 8 m.id else []
def pPr (m : Msg) : List Int := if m.kind = 5 ∨ (m.kind = 4 ∧ m.has = true) then pPeer m.peer else []
def pPs (m : Msg) : List Int := if m.kind = 2 ∨ m.kind = 4 then be 1 (m.peers.length : Int) ++ m.peers.flatMap pPeer else []
def pKy (m : Msg) : List Int := if m.kind = 7 ∨ m.kind = 8 then pText 1 m.key else []
def pVl (m : Msg) : List Int := if m.kind = 7 ∨ (m.kind = 9 ∧ m.has = true) then pText 2 m.val else []
def pQs (m : Msg) : List Int := if m.kind = 10 then be 1 (m.pairs.length : Int) ++ m.pairs.flatMap pPair else []
def put (m : Msg) : List Int := be 1 m.kind ++ (be 4 m.rid ++ (pCode m ++ (pHas m ++ (pId m ++ (pPr m ++ (pPs m ++ (pKy m ++ (pVl m ++ pQs m))))))))
structure PeOk (p : Peer) : Prop where
  id0 : 0 ≤ p.id
  id1 : p.id < 18446744073709551616
  ad0 : 0 ≤ p.addr
  ad1 : p.addr < 65536
structure Small (m : Msg) : Prop where
  key : m.key.size ≤ 1000
  val : m.val.size ≤ 1000
  peers : m.peers.length ≤ 100
  pairs : m.pairs.length ≤ 100
  each : ∀ p, p ∈ m.pairs → p.key.size ≤ 1000 ∧ p.val.size ≤ 1000
structure Rng (m : Msg) : Prop where
  rid0 : 0 ≤ m.rid
  rid1 : m.rid < 4294967296
  code0 : 0 ≤ m.code
  code1 : m.code < 256
  id0 : 0 ≤ m.id
  id1 : m.id < 18446744073709551616
  peer : PeOk m.peer
  peers : ∀ p, p ∈ m.peers → PeOk p
theorem Small.fit {m : Msg} (h : Small m) : Fit m where
  key := by have := h.key; omega
  val := by have := h.val; omega
  peers := by have := h.peers; omega
  pairs := by have := h.pairs; omega
  keys := fun p hp => by have := (h.each p hp).1; omega
theorem pText_len (k : Nat) (s : ByteArray) : (pText k s).length = k + s.size := by rw [pText, List.length_append, be_len, sbytes_len]
theorem pPeer_len (p : Peer) : (pPeer p).length = 10 := by rw [pPeer, List.length_append, be_len, be_len]
section
variable {r : List Int}
theorem num_eq {n : Int} {k : Nat} (h0 : 0 ≤ n) (h1 : 1 ≤ k) (hk : k ≤ 8) (hr : r.length ≤ 900000) : fixed_writer_num n (k : Int) r = some (r ++ be k n) := fixed_writer_num_r (by
  rw [fixed_writer_num_b, buf_Fix_eq h0 h1 hk hr] <;> rfl)
theorem flag_eq (b : Bool) (hr : r.length ≤ 900000) : fixed_writer_flag b r = some (r ++ pFlag b) := fixed_writer_flag_r (by
  have h0 := num_eq (r := r) (n := 0) (k := 1) (by omega) (by omega) (by omega) hr
  have h1 := num_eq (r := r) (n := 1) (k := 1) (by omega) (by omega) (by omega) hr
  cases b
  · exact h0
  · exact h1)
theorem peer_eq {p : Peer} (h : PeOk p) (hr : r.length ≤ 800000) : fixed_writer_peer p r = some (r ++ pPeer p) := fixed_writer_peer_r (by
  have h0 := num_eq (r := r) (n := p.id) (k := 8) h.id0 (by omega) (by omega) (by omega)
  have h1 := num_eq (r := r ++ be 8 p.id) (n := p.addr) (k := 2) h.ad0 (by omega) (by omega) (by rw [List.length_append, be_len]; omega)
  have h0' : fixed_writer_num p.id 8 r = _ := h0
  have h1' : fixed_writer_num p.addr 2 (r ++ be 8 p.id) = _ := h1
  have := h.ad1
  rw [fixed_writer_peer_b, h0', Option.bind_some, wrap_u64 h.ad0 (by omega), h1', pPeer, List.append_assoc])
theorem peers_l0_eq {l : List Peer} (hl : l.length ≤ 100) (h : ∀ p, p ∈ l → PeOk p) (hr : r.length ≤ 10000) : fixed_writer_peers_l0 l 0 r = some (r ++ l.flatMap pPeer) :=
  for_list (σ := List Int) ePeer (l := l) (by omega) (L := fun i s => fixed_writer_peers_l0 l i s) (res := fun _ s rest => s ++ rest.flatMap pPeer) (Inv := fun n s => s.length ≤ 10000 + 10 * n)
    (fun s _ hh => fixed_writer_peers_l0_r (by simp [fixed_writer_peers_l0_b, hh]))
    (fun n x rest s hi hn hx hd h1 h2 h3 ih => fixed_writer_peers_l0_r (by
      have hm : x ∈ l := List.mem_of_getElem? hx
      rw [fixed_writer_peers_l0_b, h1, cond_true, h2, Option.bind_some, peer_eq (h x hm) (by omega), Option.bind_some, h3, ih _ (by rw [List.length_append, pPeer_len]; omega), List.flatMap_cons, List.append_assoc])) r (by omega)
theorem peers_eq {l : List Peer} (hl : l.length ≤ 100) (h : ∀ p, p ∈ l → PeOk p) (hr : r.length ≤ 9000) : fixed_writer_peers l r = some (r ++ (be 1 (l.length : Int) ++ l.flatMap pPeer)) := fixed_writer_peers_r (by
  have h0 := num_eq (r := r) (n := (l.length : Int)) (k := 1) (by omega) (by omega) (by omega) (by omega)
  have h0' : fixed_writer_num (l.length : Int) 1 r = _ := h0
  rw [fixed_writer_peers_b, xlen_eq, wrap_u64 (by omega) (by omega), h0', Option.bind_some, peers_l0_eq hl h (by rw [List.length_append, be_len]; omega), List.append_assoc])
theorem text_eq {s : ByteArray} {k : Nat} (h1 : 1 ≤ k) (hk : k ≤ 8) (hs : s.size ≤ 1000) (hr : r.length ≤ 900000) : fixed_writer_text s (k : Int) r = some (r ++ pText k s) := fixed_writer_text_r (by
  rw [fixed_writer_text_b, slen_nat, wrap_u64 (by omega) (by omega), num_eq (by omega) h1 hk hr, Option.bind_some, room1 (by rw [List.length_append, be_len, sbytes_len]; omega), cond_true, pText, List.append_assoc])
theorem pairs_l0_eq {l : List Pair} (hl : l.length ≤ 100) (h : ∀ p, p ∈ l → p.key.size ≤ 1000 ∧ p.val.size ≤ 1000) (hr : r.length ≤ 10000) : fixed_writer_pairs_l0 l 0 r = some (r ++ l.flatMap pPair) :=
  for_list (σ := List Int) ePair (l := l) (by omega) (L := fun i s => fixed_writer_pairs_l0 l i s) (res := fun _ s rest => s ++ rest.flatMap pPair) (Inv := fun n s => s.length ≤ 10000 + 2003 * n)
    (fun s _ hh => fixed_writer_pairs_l0_r (by simp [fixed_writer_pairs_l0_b, hh]))
    (fun n x rest s hi hn hx hd h1 h2 h3 ih => fixed_writer_pairs_l0_r (by
      have hm := h x (List.mem_of_getElem? hx)
      have a1 := text_eq (r := s) (s := x.key) (k := 1) (by omega) (by omega) hm.1 (by omega)
      have a2 := text_eq (r := s ++ pText 1 x.key) (s := x.val) (k := 2) (by omega) (by omega) hm.2 (by rw [List.length_append, pText_len]; omega)
      have a1' : fixed_writer_text x.key 1 s = _ := a1
      have a2' : fixed_writer_text x.val 2 (s ++ pText 1 x.key) = _ := a2
      rw [fixed_writer_pairs_l0_b, h1, cond_true, h2, Option.bind_some, a1', Option.bind_some, a2', Option.bind_some, h3, ih _ (by rw [List.length_append, List.length_append, pText_len, pText_len]; omega), List.flatMap_cons, pPair]
      simp only [List.append_assoc])) r (by omega)
theorem pairs_eq {l : List Pair} (hl : l.length ≤ 100) (h : ∀ p, p ∈ l → p.key.size ≤ 1000 ∧ p.val.size ≤ 1000) (hr : r.length ≤ 9000) : fixed_writer_pairs l r = some (r ++ (be 1 (l.length : Int) ++ l.flatMap pPair)) := fixed_writer_pairs_r (by
  have h0 := num_eq (r := r) (n := (l.length : Int)) (k := 1) (by omega) (by omega) (by omega) (by omega)
  have h0' : fixed_writer_num (l.length : Int) 1 r = _ := h0
  rw [fixed_writer_pairs_b, xlen_eq, wrap_u64 (by omega) (by omega), h0', Option.bind_some, pairs_l0_eq hl h (by rw [List.length_append, be_len]; omega), List.append_assoc])
end
section
variable {r : List Int}
theorem nums_eq {n : Int} {k : Nat} (h0 : 0 ≤ n) (hn : n < 18446744073709551616) (h1 : 1 ≤ k) (hk : k ≤ 8) (hr : r.length ≤ 900000) : r09_nums_1 n (k : Int) r = some (r ++ be k n) := r09_nums_1_r (by
  rw [r09_nums_1_b, r06_Fix_eq h0 hn h1 hk, Option.bind_some, room1 (by rw [be_len]; omega), cond_true])
theorem nums0_eq {n : Int} {k : Nat} (h0 : 0 ≤ n) (hn : n < 18446744073709551616) (h1 : 1 ≤ k) (hk : k ≤ 8) : r09_nums n (k : Int) = some (be k n) := r09_nums_r (by
  rw [r09_nums_b, r06_Fix_eq h0 hn h1 hk, Option.bind_some, room1 (by rw [be_len]; simp; omega), cond_true])
theorem rflag_eq (b : Bool) (hr : r.length ≤ 900000) : r09_flag b r = some (r ++ pFlag b) := r09_flag_r (by
  rw [r09_flag_b, room1 (by simp; omega), room1 (by simp; omega)]; cases b <;> rfl)
theorem rpeer_eq {p : Peer} (h : PeOk p) (hr : r.length ≤ 800000) : r09_peer p r = some (r ++ pPeer p) := r09_peer_r (by
  have h0 := nums_eq (r := r) (n := p.id) (k := 8) h.id0 h.id1 (by omega) (by omega) (by omega)
  have h2 := h.ad1
  have h1 := nums_eq (r := r ++ be 8 p.id) (n := p.addr) (k := 2) h.ad0 (by omega) (by omega) (by omega) (by rw [List.length_append, be_len]; omega)
  have h0' : r09_nums_1 p.id 8 r = _ := h0
  have h1' : r09_nums_1 p.addr 2 (r ++ be 8 p.id) = _ := h1
  rw [r09_peer_b, h0', Option.bind_some, wrap_u64 h.ad0 (by omega), h1', pPeer, List.append_assoc])
theorem rtext_eq {s : ByteArray} {k : Nat} (h1 : 1 ≤ k) (hk : k ≤ 8) (hs : s.size ≤ 1000) (hr : r.length ≤ 900000) : r09_text s (k : Int) r = some (r ++ pText k s) := r09_text_r (by
  rw [r09_text_b, slen_nat, wrap_u64 (by omega) (by omega), nums_eq (by omega) (by omega) h1 hk hr, Option.bind_some, room1 (by rw [sbytes_len]; simp; omega), cond_true, room1 (by rw [List.length_append, be_len, sbytes_len]; omega), cond_true, pText, List.append_assoc])
theorem put_l0_eq {m : Msg} {h : Bool} (hl : m.peers.length ≤ 100) (ho : ∀ p, p ∈ m.peers → PeOk p) (hr : r.length ≤ 10000) : r09_Put_l0 m 0 h r = some (h, r ++ m.peers.flatMap pPeer) :=
  for_list (σ := List Int) ePeer (l := m.peers) (by omega) (L := fun i s => r09_Put_l0 m i h s) (res := fun _ s rest => (h, s ++ rest.flatMap pPeer)) (Inv := fun n s => s.length ≤ 10000 + 10 * n)
    (fun s _ hh => r09_Put_l0_r (by simp [r09_Put_l0_b, hh]))
    (fun n x rest s hi hn hx hd h1 h2 h3 ih => r09_Put_l0_r (by
      have hm : x ∈ m.peers := List.mem_of_getElem? hx
      rw [r09_Put_l0_b, h1, cond_true, h2, Option.bind_some, rpeer_eq (ho x hm) (by omega), Option.bind_some, h3, ih _ (by rw [List.length_append, pPeer_len]; omega), List.flatMap_cons, List.append_assoc])) r (by omega)
theorem put_l2_eq {m : Msg} {b : Bool} (hl : m.pairs.length ≤ 100) (h : ∀ p, p ∈ m.pairs → p.key.size ≤ 1000 ∧ p.val.size ≤ 1000) (hr : r.length ≤ 10000) : r09_Put_l2 m 0 b r = some (b, r ++ m.pairs.flatMap pPair) :=
  for_list (σ := List Int) ePair (l := m.pairs) (by omega) (L := fun i s => r09_Put_l2 m i b s) (res := fun _ s rest => (b, s ++ rest.flatMap pPair)) (Inv := fun n s => s.length ≤ 10000 + 2003 * n)
    (fun s _ hh => r09_Put_l2_r (by simp [r09_Put_l2_b, hh]))
    (fun n x rest s hi hn hx hd h1 h2 h3 ih => r09_Put_l2_r (by
      have hm := h x (List.mem_of_getElem? hx)
      have a1 := rtext_eq (r := s) (s := x.key) (k := 1) (by omega) (by omega) hm.1 (by omega)
      have a2 := rtext_eq (r := s ++ pText 1 x.key) (s := x.val) (k := 2) (by omega) (by omega) hm.2 (by rw [List.length_append, pText_len]; omega)
      have a1' : r09_text x.key 1 s = _ := a1
      have a2' : r09_text x.val 2 (s ++ pText 1 x.key) = _ := a2
      rw [r09_Put_l2_b, h1, cond_true, h2, Option.bind_some, a1', Option.bind_some, a2', Option.bind_some, h3, ih _ (by rw [List.length_append, List.length_append, pText_len, pText_len]; omega), List.flatMap_cons, pPair]
      simp only [List.append_assoc])) r (by omega)
end
theorem be1 {x : Int} : be 1 x = [x % 256] := rfl
section
variable {m : Msg} (hs : Small m) (hr : Rng m)
include hs hr
theorem psl_len : (m.peers.flatMap pPeer).length ≤ 1000 := by
  have : ∀ l : List Peer, (l.flatMap pPeer).length = 10 * l.length := fun l => by
    induction l with
    | nil => rfl
    | cons x l ih => rw [List.flatMap_cons, List.length_append, pPeer_len, ih]; simp; omega
  rw [this]; have := hs.peers; omega
theorem put_s3 {r : List Int} {b : Bool} (hl : r.length ≤ 9000) : r09_Put_s3 m b r = some (b, r ++ pQs m) := r09_Put_s3_r (by
  rw [r09_Put_s3_b]
  by_cases hk : m.kind = 10
  · rw [ieqT hk, cond_true, xlen_eq, wrap_u8, room1 (by simp; omega), cond_true, put_l2_eq hs.pairs hs.each (by simp; omega), pQs, if_pos hk, be1, List.append_assoc] <;> rfl
  · rw [ieqF hk, cond_false, pQs, if_neg hk, List.append_nil])
theorem put_s4 {r : List Int} (hl : r.length ≤ 7000) : r09_Put_s4 m m.has r = some (m.has, r ++ (pVl m ++ pQs m)) := r09_Put_s4_r (by
  have a5 : r09_text m.val 2 r = some (r ++ pText 2 m.val) := rtext_eq (k := 2) (by omega) (by omega) hs.val (by omega)
  have h3 := put_s3 hs hr (r := r) (b := m.has) (by omega)
  have h4 := put_s3 hs hr (r := r ++ pText 2 m.val) (b := m.has) (by rw [List.length_append, pText_len]; have := hs.val; omega)
  rw [r09_Put_s4_b, a5, pVl]
  by_cases hk : m.kind = 7
  · rw [ieqT hk, cond_true, Option.bind_some, h4, if_pos (.inl hk), List.append_assoc] <;> rfl
  · rw [ieqF hk, cond_false]
    by_cases hk9 : m.kind = 9
    · rw [ieqT hk9, cond_true]
      cases hh : m.has with
      | true => rw [hh] at h4; rw [cond_true, Option.bind_some, h4, if_pos (.inr ⟨hk9, rfl⟩), List.append_assoc] <;> rfl
      | false => rw [hh] at h3; rw [cond_false, h3, if_neg (by rintro (h | ⟨_, h⟩); exact hk h; cases h)] <;> rfl
    · rw [ieqF hk9, cond_false, h3, if_neg (by rintro (h | ⟨h, _⟩); exact hk h; exact hk9 h)] <;> rfl)
theorem put_s5 {r : List Int} (hl : r.length ≤ 5000) : r09_Put_s5 m m.has r = some (m.has, r ++ (pKy m ++ (pVl m ++ pQs m))) := r09_Put_s5_r (by
  have a5 : r09_text m.key 1 r = some (r ++ pText 1 m.key) := rtext_eq (k := 1) (by omega) (by omega) hs.key (by omega)
  have h3 := put_s4 hs hr (r := r) (by omega)
  have h4 := put_s4 hs hr (r := r ++ pText 1 m.key) (by rw [List.length_append, pText_len]; have := hs.key; omega)
  rw [r09_Put_s5_b, a5, Option.bind_some, h4, h3, pKy]
  by_cases hk : m.kind = 7
  · rw [ieqT hk, cond_true, if_pos (.inl hk), List.append_assoc] <;> rfl
  · rw [ieqF hk, cond_false]
    by_cases hk9 : m.kind = 8
    · rw [ieqT hk9, cond_true, if_pos (.inr hk9), List.append_assoc] <;> rfl
    · rw [ieqF hk9, cond_false, if_neg (by rintro (h | h); exact hk h; exact hk9 h)] <;> rfl)
theorem put_s1 {r : List Int} {b t : Bool} (hl : r.length ≤ 3000) : r09_Put_s1 m t b r = some (b, bif t then r ++ (be 1 (m.peers.length : Int) ++ m.peers.flatMap pPeer) else r) := r09_Put_s1_r (by
  rw [r09_Put_s1_b]
  cases t
  · rfl
  · rw [cond_true, xlen_eq, wrap_u8, room1 (by simp; omega), cond_true, put_l0_eq hs.peers hr.peers (by simp; omega), be1, cond_true, List.append_assoc] <;> rfl)
theorem put_s6 {r : List Int} (hl : r.length ≤ 3000) : r09_Put_s6 m m.has r = some (m.has, r ++ (pPs m ++ (pKy m ++ (pVl m ++ pQs m)))) := r09_Put_s6_r (by
  have hp := psl_len hs hr
  have h5 := put_s5 hs hr (r := r) (by omega)
  have h6 := put_s5 hs hr (r := r ++ (be 1 (m.peers.length : Int) ++ m.peers.flatMap pPeer)) (by rw [List.length_append, List.length_append, be_len]; omega)
  rw [r09_Put_s6_b, put_s1 hs hr hl, put_s1 hs hr hl, Option.bind_some, Option.bind_some, pPs]
  by_cases hk : m.kind = 2
  · rw [ieqT hk, cond_true, cond_true]; dsimp only; rw [h6, if_pos (.inl hk)]; simp only [Option.bind_some, List.append_assoc]
  · rw [ieqF hk, cond_false]
    by_cases hk4 : m.kind = 4
    · rw [ieqT hk4, cond_true]; dsimp only; rw [h6, if_pos (.inr hk4)]; simp only [Option.bind_some, List.append_assoc]
    · rw [ieqF hk4, cond_false]; dsimp only; rw [h5, if_neg (by rintro (h | h); exact hk h; exact hk4 h)] <;> rfl)
theorem put_s7 {r : List Int} (hl : r.length ≤ 2900) : r09_Put_s7 m r = some (m.has, r ++ (pPr m ++ (pPs m ++ (pKy m ++ (pVl m ++ pQs m))))) := r09_Put_s7_r (by
  have h5 := put_s6 hs hr (r := r) (by omega)
  have h6 := put_s6 hs hr (r := r ++ pPeer m.peer) (by rw [List.length_append, pPeer_len]; omega)
  rw [r09_Put_s7_b, rpeer_eq hr.peer (by omega), Option.bind_some, Option.bind_some, pPr]
  by_cases hk : m.kind = 5
  · rw [ieqT hk, cond_true, h6, if_pos (.inl hk)]; simp only [Option.bind_some, List.append_assoc]
  · rw [ieqF hk, cond_false]
    by_cases hk4 : m.kind = 4
    · rw [ieqT hk4, cond_true]
      cases hh : m.has with
      | true => rw [hh] at h6; rw [cond_true, h6, if_pos (.inr ⟨hk4, rfl⟩)]; simp only [Option.bind_some, List.append_assoc]
      | false => rw [hh] at h5; rw [cond_false, h5, if_neg (by rintro (h | ⟨_, h⟩); exact hk h; cases h)] <;> rfl
    · rw [ieqF hk4, cond_false, h5, if_neg (by rintro (h | ⟨h, _⟩); exact hk h; exact hk4 h)] <;> rfl)
theorem put_s8 {r : List Int} (hl : r.length ≤ 2800) : r09_Put_s8 m r = some (m.has, r ++ (pId m ++ (pPr m ++ (pPs m ++ (pKy m ++ (pVl m ++ pQs m)))))) := r09_Put_s8_r (by
  have a : r09_nums_1 m.id 8 r = some (r ++ be 8 m.id) := nums_eq (k := 8) hr.id0 hr.id1 (by omega) (by omega) (by omega)
  have h5 := put_s7 hs hr (r := r) (by omega)
  have h6 := put_s7 hs hr (r := r ++ be 8 m.id) (by rw [List.length_append, be_len]; omega)
  rw [r09_Put_s8_b, a, Option.bind_some, h5, h6, pId]
  by_cases hk : m.kind = 1
  · rw [ieqT hk, cond_true, if_pos hk]; simp only [Option.bind_some, List.append_assoc]
  · rw [ieqF hk, cond_false, if_neg hk] <;> rfl)
theorem put_s9 {r : List Int} (hl : r.length ≤ 2700) : r09_Put_s9 m r = some (m.has, r ++ (pHas m ++ (pId m ++ (pPr m ++ (pPs m ++ (pKy m ++ (pVl m ++ pQs m))))))) := r09_Put_s9_r (by
  have h5 := put_s8 hs hr (r := r) (by omega)
  have h6 := put_s8 hs hr (r := r ++ pFlag m.has) (by rw [List.length_append]; show _ + 1 ≤ 2800; omega)
  rw [r09_Put_s9_b, rflag_eq m.has (by omega), Option.bind_some, h5, h6, pHas]
  by_cases h2 : m.kind = 2
  · rw [ieqT h2, cond_true, if_pos (.inl h2)]; simp only [Option.bind_some, List.append_assoc]
  · rw [ieqF h2, cond_false]
    by_cases h4 : m.kind = 4
    · rw [ieqT h4, cond_true, if_pos (.inr (.inl h4))]; simp only [Option.bind_some, List.append_assoc]
    · rw [ieqF h4, cond_false]
      by_cases h9 : m.kind = 9
      · rw [ieqT h9, cond_true, if_pos (.inr (.inr (.inl h9)))]; simp only [Option.bind_some, List.append_assoc]
      · rw [ieqF h9, cond_false]
        by_cases h10 : m.kind = 10
        · rw [ieqT h10, cond_true, if_pos (.inr (.inr (.inr h10)))]; simp only [Option.bind_some, List.append_assoc]
        · rw [ieqF h10, cond_false, if_neg (by omega)] <;> rfl)
theorem r09_Put_eq (hk : 1 ≤ m.kind ∧ m.kind ≤ 12) : r09_Put m = some (put m) := r09_Put_r (by
  have a1 : r09_nums (Ops.std.iwrap .u64 m.kind) 1 = some (be 1 m.kind) := by
    rw [wrap_u64 (by omega) (by omega)]; exact nums0_eq (k := 1) (by omega) (by omega) (by omega) (by omega)
  have a2 : r09_nums_1 (Ops.std.iwrap .u64 m.rid) 4 (be 1 m.kind) = some (be 1 m.kind ++ be 4 m.rid) := by
    have := hr.rid0; have := hr.rid1
    rw [wrap_u64 (by omega) (by omega)]; exact nums_eq (k := 4) (by omega) (by omega) (by omega) (by omega) (by rw [be_len]; omega)
  have hlen : (be 1 m.kind ++ be 4 m.rid).length = 5 := by rw [List.length_append, be_len, be_len]
  rw [r09_Put_b, a1, Option.bind_some, a2, Option.bind_some, put_s9 hs hr (by rw [List.length_append, hlen]; simp), put_s9 hs hr (by omega), room1 (by rw [hlen]; simp), put, pCode]
  by_cases hk : m.kind = 12
  · rw [ieqT hk, cond_true, cond_true, if_pos hk]; simp only [Option.bind_some, List.append_assoc]
  · rw [ieqF hk, cond_false, if_neg hk]; simp only [Option.bind_some, List.append_assoc, List.nil_append])
theorem fixed_s0_eq {r : List Int} (hl : r.length ≤ 3000) (h5 : m.kind ≠ 1 ∧ m.kind ≠ 2 ∧ m.kind ≠ 4 ∧ m.kind ≠ 5) : ∃ b, fixed_Enc_s0 m (decide (m.kind = 7 ∨ m.kind = 8)) r = some (b, r ++ (pCode m ++ (pHas m ++ (pKy m ++ (pVl m ++ pQs m))))) := by
  have t1 : fixed_writer_text m.key 1 r = some (r ++ pText 1 m.key) := text_eq (k := 1) (by omega) (by omega) hs.key (by omega)
  have t2 : fixed_writer_text m.val 2 (r ++ pText 1 m.key) = some (r ++ pText 1 m.key ++ pText 2 m.val) := text_eq (k := 2) (by omega) (by omega) hs.val (by rw [List.length_append, pText_len]; have := hs.key; omega)
  have t3 : fixed_writer_text m.val 2 (r ++ pFlag m.has) = some (r ++ pFlag m.has ++ pText 2 m.val) := text_eq (k := 2) (by omega) (by omega) hs.val (by rw [List.length_append]; show _ + 1 ≤ 900000; omega)
  have t4 := pairs_eq (r := r ++ pFlag m.has) hs.pairs hs.each (by rw [List.length_append]; show _ + 1 ≤ 9000; omega)
  have c0 := hr.code0; have c1 := hr.code1
  have t5 : fixed_writer_num (Ops.std.iwrap .u64 m.code) 1 r = some (r ++ be 1 m.code) := by
    rw [wrap_u64 c0 (by omega)]; exact num_eq (k := 1) c0 (by omega) (by omega) (by omega)
  have t6 : be 1 m.code = [m.code] := by rw [be1]; congr 1; omega
  have key : ∀ {x}, fixed_Enc_s0_b m (decide (m.kind = 7 ∨ m.kind = 8)) r = some x → x.2 = r ++ (pCode m ++ (pHas m ++ (pKy m ++ (pVl m ++ pQs m)))) → ∃ b, fixed_Enc_s0 m (decide (m.kind = 7 ∨ m.kind = 8)) r = some (b, r ++ (pCode m ++ (pHas m ++ (pKy m ++ (pVl m ++ pQs m))))) := fun {x} h e => ⟨x.1, fixed_Enc_s0_r (h.trans (by rw [← e]))⟩
  by_cases h7 : m.kind = 7
  · refine key (x := (m.has, r ++ pText 1 m.key ++ pText 2 m.val)) ?_ ?_
    · simp only [fixed_Enc_s0_b, h7, true_or, decide_true, cond_true, t1, t2, Option.bind_some, ieqT]
    · simp [pCode, pHas, pKy, pVl, pQs, h7]
  · by_cases h8 : m.kind = 8
    · refine key (x := (m.has, r ++ pText 1 m.key)) ?_ ?_
      · simp only [fixed_Enc_s0_b, h8, or_true, decide_true, cond_true, t1, Option.bind_some, ieqF (show ¬ (8 : Int) = 7 by omega), cond_false]
      · simp [pCode, pHas, pKy, pVl, pQs, h8]
    · have hn : decide (m.kind = 7 ∨ m.kind = 8) = false := decide_eq_false (by omega)
      by_cases h9 : m.kind = 9
      · cases hh : m.has with
        | true =>
          rw [hh] at t3
          refine key (x := (true, r ++ pFlag true ++ pText 2 m.val)) ?_ ?_
          · rw [hn]; simp only [fixed_Enc_s0_b, h9, cond_false, ieqT, cond_true, hh, flag_eq true (show r.length ≤ 900000 by omega), t3, Option.bind_some]
          · simp [pCode, pHas, pKy, pVl, pQs, h9, hh]
        | false =>
          refine key (x := (false, r ++ pFlag false)) ?_ ?_
          · rw [hn]; simp only [fixed_Enc_s0_b, h9, cond_false, ieqT, cond_true, hh, flag_eq false (show r.length ≤ 900000 by omega), Option.bind_some]
          · simp [pCode, pHas, pKy, pVl, pQs, h9, hh]
      · by_cases h10 : m.kind = 10
        · refine key (x := (m.has, r ++ pFlag m.has ++ (be 1 (m.pairs.length : Int) ++ m.pairs.flatMap pPair))) ?_ ?_
          · rw [hn]; simp only [fixed_Enc_s0_b, h10, cond_false, ieqT, cond_true, flag_eq m.has (show r.length ≤ 900000 by omega), t4, Option.bind_some, ieqF (show ¬ (10 : Int) = 9 by omega)]
          · simp [pCode, pHas, pKy, pVl, pQs, h10]
        · by_cases h12 : m.kind = 12
          · refine key (x := (m.has, r ++ be 1 m.code)) ?_ ?_
            · rw [hn]; simp only [fixed_Enc_s0_b, h12, cond_false, ieqT, cond_true, t5, Option.bind_some, ieqF (show ¬ (12 : Int) = 9 by omega), ieqF (show ¬ (12 : Int) = 10 by omega)]
            · simp [pCode, pHas, pKy, pVl, pQs, h12, t6]
          · refine key (x := (m.has, r)) ?_ ?_
            · rw [hn]; simp only [fixed_Enc_s0_b, ieqF h9, ieqF h10, ieqF h12, cond_false]
            · simp [pCode, pHas, pKy, pVl, pQs, h7, h8, h9, h10, h12, h5.2.1, h5.2.2.1]
theorem fixed_s1_eq {r : List Int} (hl : r.length ≤ 2000) (h1 : m.kind ≠ 1) : ∃ b, fixed_Enc_s1 m (decide (m.kind = 2 ∨ m.kind = 4)) r = some (b, r ++ (pCode m ++ (pHas m ++ (pPr m ++ (pPs m ++ (pKy m ++ (pVl m ++ pQs m))))))) := by
  have f : ∀ b, fixed_writer_flag b r = some (r ++ pFlag b) := fun b => flag_eq b (by omega)
  have p1 : ∀ b, fixed_writer_peers m.peers (r ++ pFlag b) = some (r ++ pFlag b ++ (be 1 (m.peers.length : Int) ++ m.peers.flatMap pPeer)) := fun b => peers_eq hs.peers hr.peers (by rw [List.length_append]; show _ + 1 ≤ 9000; omega)
  have p2 : fixed_writer_peer m.peer (r ++ pFlag true) = some (r ++ pFlag true ++ pPeer m.peer) := peer_eq hr.peer (by rw [List.length_append]; show _ + 1 ≤ 800000; omega)
  have p3 : fixed_writer_peers m.peers (r ++ pFlag true ++ pPeer m.peer) = some (r ++ pFlag true ++ pPeer m.peer ++ (be 1 (m.peers.length : Int) ++ m.peers.flatMap pPeer)) := peers_eq hs.peers hr.peers (by rw [List.length_append, List.length_append, pPeer_len]; show _ + 1 + 10 ≤ 9000; omega)
  have p4 : fixed_writer_peer m.peer r = some (r ++ pPeer m.peer) := peer_eq hr.peer (by omega)
  have key : ∀ {x}, fixed_Enc_s1_b m (decide (m.kind = 2 ∨ m.kind = 4)) r = some x → x.2 = r ++ (pCode m ++ (pHas m ++ (pPr m ++ (pPs m ++ (pKy m ++ (pVl m ++ pQs m)))))) → ∃ b, fixed_Enc_s1 m (decide (m.kind = 2 ∨ m.kind = 4)) r = some (b, r ++ (pCode m ++ (pHas m ++ (pPr m ++ (pPs m ++ (pKy m ++ (pVl m ++ pQs m))))))) := fun {x} h e => ⟨x.1, fixed_Enc_s1_r (h.trans (by rw [← e]))⟩
  by_cases h2 : m.kind = 2
  · refine key (x := (m.has, r ++ pFlag m.has ++ (be 1 (m.peers.length : Int) ++ m.peers.flatMap pPeer))) ?_ ?_
    · simp only [fixed_Enc_s1_b, h2, true_or, decide_true, cond_true, f, p1, Option.bind_some, ieqF (show ¬ (2 : Int) = 4 by omega), cond_false]
    · simp [pCode, pHas, pPr, pPs, pKy, pVl, pQs, h2]
  · by_cases h4 : m.kind = 4
    · cases hh : m.has with
      | true =>
        refine key (x := (true, r ++ pFlag true ++ pPeer m.peer ++ (be 1 (m.peers.length : Int) ++ m.peers.flatMap pPeer))) ?_ ?_
        · simp only [fixed_Enc_s1_b, h4, or_true, decide_true, cond_true, f, p2, p3, hh, Option.bind_some, ieqT]
        · simp [pCode, pHas, pPr, pPs, pKy, pVl, pQs, h4, hh]
      | false =>
        refine key (x := (false, r ++ pFlag false ++ (be 1 (m.peers.length : Int) ++ m.peers.flatMap pPeer))) ?_ ?_
        · simp only [fixed_Enc_s1_b, h4, or_true, decide_true, cond_true, f, p1, hh, Option.bind_some, ieqT, cond_false]
        · simp [pCode, pHas, pPr, pPs, pKy, pVl, pQs, h4, hh]
    · have hn : decide (m.kind = 2 ∨ m.kind = 4) = false := decide_eq_false (by omega)
      by_cases h5 : m.kind = 5
      · refine key (x := (m.has, r ++ pPeer m.peer)) ?_ ?_
        · rw [hn]; simp only [fixed_Enc_s1_b, h5, cond_false, ieqT, cond_true, p4, Option.bind_some]
        · simp [pCode, pHas, pPr, pPs, pKy, pVl, pQs, h5]
      · obtain ⟨b, hb⟩ := fixed_s0_eq hs hr (r := r) (by omega) ⟨h1, h2, h4, h5⟩
        have e1 : pPr m = [] := by rw [pPr, if_neg (by omega)]
        have e2 : pPs m = [] := by rw [pPs, if_neg (by omega)]
        refine key (x := (b, r ++ (pCode m ++ (pHas m ++ (pKy m ++ (pVl m ++ pQs m)))))) ?_ (by rw [e1, e2] <;> rfl)
        rw [hn, fixed_Enc_s1_b, cond_false, ieqF h5, cond_false]
        by_cases h7 : m.kind = 7
        · rw [decide_eq_true (.inl h7)] at hb
          rw [ieqT h7, cond_true, hb] <;> rfl
        · have e : Ops.std.ieq m.kind 8 = decide (m.kind = 7 ∨ m.kind = 8) := by rw [ieq_dec]; exact decide_eq_decide.2 ⟨.inr, fun h => by omega⟩
          rw [ieqF h7, cond_false, e, hb] <;> rfl
theorem rightE_kind (h : rightE m = 0) : 1 ≤ m.kind ∧ m.kind ≤ 12 := by
  unfold rightE at h
  by_cases hk : m.kind < 1 ∨ 12 < m.kind
  · rw [if_pos hk] at h; omega
  · omega
noncomputable def encS (m : Msg) : List Int × Int := if rightE m = 0 then (put m, 0) else ([], rightE m)
theorem fixed_Enc_eq : fixed_Enc m = some (encS m) := fixed_Enc_r (by
  rw [fixed_Enc_b, msg_Right_eq hs.fit, Option.bind_some, encS]
  by_cases h0 : rightE m = 0
  · obtain ⟨k1, k2⟩ := rightE_kind hs hr h0
    have q1 := hr.rid0; have q2 := hr.rid1
    have n1 : fixed_writer_num (Ops.std.iwrap .u64 m.kind) 1 [] = some (be 1 m.kind) := by
      rw [wrap_u64 (by omega) (by omega)]; exact num_eq (r := []) (k := 1) (by omega) (by omega) (by omega) (by simp)
    have n2 : fixed_writer_num (Ops.std.iwrap .u64 m.rid) 4 (be 1 m.kind) = some (be 1 m.kind ++ be 4 m.rid) := by
      rw [wrap_u64 (by omega) (by omega)]; exact num_eq (k := 4) (by omega) (by omega) (by omega) (by rw [be_len]; omega)
    have hlen : (be 1 m.kind ++ be 4 m.rid).length = 5 := by rw [List.length_append, be_len, be_len]
    have n3 : fixed_writer_num m.id 8 (be 1 m.kind ++ be 4 m.rid) = some (be 1 m.kind ++ be 4 m.rid ++ be 8 m.id) := num_eq (k := 8) hr.id0 (by omega) (by omega) (by omega)
    rw [ieqT h0, cond_true, if_pos h0, n1, Option.bind_some, n2, Option.bind_some]
    by_cases h1 : m.kind = 1
    · rw [ieqT h1, cond_true, n3, Option.bind_some]
      simp [put, pCode, pHas, pId, pPr, pPs, pKy, pVl, pQs, h1]
    · obtain ⟨b, hb⟩ := fixed_s1_eq hs hr (r := be 1 m.kind ++ be 4 m.rid) (by omega) h1
      have e1 : pId m = [] := by rw [pId, if_neg h1]
      have fin : (fixed_Enc_s1 m (decide (m.kind = 2 ∨ m.kind = 4)) (be 1 m.kind ++ be 4 m.rid)).bind (fun ⟨b0_has, r3⟩ => some (r3, (0 : Int))) = some (put m, 0) := by
        rw [hb]; simp only [Option.bind_some, put, e1, List.nil_append, List.append_assoc]
      rw [ieqF h1, cond_false, ← fin]
      by_cases h2 : m.kind = 2
      · rw [ieqT h2, cond_true, decide_eq_true (.inl h2)]
      · have e : Ops.std.ieq m.kind 4 = decide (m.kind = 2 ∨ m.kind = 4) := by rw [ieq_dec]; exact decide_eq_decide.2 ⟨.inr, fun h => by omega⟩
        rw [ieqF h2, cond_false, e]
  · rw [ieqF h0, cond_false, if_neg h0])
theorem r09_Enc_eq : r09_Enc m = some (encS m) := r09_Enc_r (by
  rw [r09_Enc_b, r08_Right_eq hs.fit, Option.bind_some, encS]
  by_cases h0 : rightE m = 0
  · rw [ieqT h0, cond_true, if_pos h0, r09_Put_eq hs hr (rightE_kind hs hr h0)] <;> rfl
  · rw [ieqF h0, cond_false, if_neg h0])
end
end Go.Ab.Tryd
namespace Go.Ab.Tryd
open Go Go.Ab Go.Proofs Go.Lib
set_option linter.unusedVariables false
set_option linter.unusedSimpArgs false
set_option linter.unusedSectionVars false
abbrev RS := List Int × Int
def rFix (k : Nat) (s : RS) : Int × RS := if s.2 ≠ 0 then (0, s) else if s.1.length < k then (0, (s.1, 2)) else (bval (s.1.take k), (s.1.drop k, 0))
def rFail (e : Int) (s : RS) : RS := if s.2 ≠ 0 then s else (s.1, e)
def rFlag (s : RS) : Bool × RS := if s.2 ≠ 0 then (false, s) else match s.1 with
  | [] => (false, ([], 2))
  | x :: r => if 1 < x then (false, (x :: r, 3)) else (decide (x = 1), (r, 0))
def rTake (n : Int) (s : RS) : List Int × RS := if s.2 ≠ 0 then ([], s) else if n < 0 then ([], (s.1, 1)) else if (s.1.length : Int) < n then ([], (s.1, 2)) else (s.1.take n.toNat, (s.1.drop n.toNat, 0))
def rMany (most : Int) (s : RS) : Int × RS := if most < (rFix 1 s).1 then (0, rFail 5 (rFix 1 s).2) else rFix 1 s
def rText (k : Nat) (most : Int) (s : RS) : ByteArray × RS :=
  let p := rFix k s
  let q := rTake p.1 (if most < p.1 then rFail 5 p.2 else p.2)
  (textOf q.1, q.2)
def rPeer (s : RS) : Peer × RS := (⟨(rFix 8 s).1, (rFix 2 (rFix 8 s).2).1⟩, (rFix 2 (rFix 8 s).2).2)
def rPair (s : RS) : Pair × RS := (⟨(rText 1 96 s).1, (rText 2 512 (rText 1 96 s).2).1⟩, (rText 2 512 (rText 1 96 s).2).2)
def rRep {α : Type} (f : RS → α × RS) : Nat → RS → List α × RS
  | 0, s => ([], s)
  | n + 1, s => ((f s).1 :: (rRep f n (f s).2).1, (rRep f n (f s).2).2)
def rPeers (s : RS) : List Peer × RS := rRep rPeer (rMany 16 s).1.toNat (rMany 16 s).2
def rPairs (s : RS) : List Pair × RS := rRep rPair (rMany 8 s).1.toNat (rMany 8 s).2
section
variable {s : RS} (hb : Byt s.1) (hl : s.1.length ≤ 100000)
include hb hl
end
section
variable {s : RS} (hb : Byt s.1) (hl : s.1.length ≤ 100000)
include hb hl
end
end Go.Ab.Tryd
namespace Go.Ab.Tryd
open Go Go.Ab Go.Proofs Go.Lib
set_option linter.unusedVariables false
set_option linter.unusedSimpArgs false
set_option linter.unusedSectionVars false
def fCode (k : Int) (s : RS) : Int × RS := if k = 12 then rFix 1 s else (0, s)
def fHas (k : Int) (s : RS) : Bool × RS := if k = 2 ∨ k = 4 ∨ k = 9 ∨ k = 10 then rFlag s else (false, s)
def fId (k : Int) (s : RS) : Int × RS := if k = 1 then rFix 8 s else (0, s)
def fPr (k : Int) (h : Bool) (s : RS) : Peer × RS := if k = 5 ∨ (k = 4 ∧ h = true) then rPeer s else (⟨0, 0⟩, s)
def fPs (k : Int) (s : RS) : List Peer × RS := if k = 2 ∨ k = 4 then rPeers s else ([], s)
def fKy (k : Int) (s : RS) : ByteArray × RS := if k = 7 ∨ k = 8 then rText 1 96 s else (⟨#[]⟩, s)
def fVl (k : Int) (h : Bool) (s : RS) : ByteArray × RS := if k = 7 ∨ (k = 9 ∧ h = true) then rText 2 512 s else (⟨#[]⟩, s)
def fQs (k : Int) (s : RS) : List Pair × RS := if k = 10 then rPairs s else ([], s)
def fields (k rid : Int) (s0 : RS) : Msg × RS :=
  let s1 := (fCode k s0).2
  let s2 := (fHas k s1).2
  let s3 := (fId k s2).2
  let h := (fHas k s1).1
  let s4 := (fPr k h s3).2
  let s5 := (fPs k s4).2
  let s6 := (fKy k s5).2
  let s7 := (fVl k h s6).2
  (⟨k, rid, (fCode k s0).1, h, (fId k s2).1, (fKy k s5).1, (fVl k h s6).1, (fPr k h s3).1, (fPs k s4).1, (fQs k s7).1⟩, (fQs k s7).2)
section
variable {s : RS} (hb : Byt s.1) (hl : s.1.length ≤ 100000)
include hb hl
end
section
variable {s : RS} (hb : Byt s.1)
include hb
end
end Go.Ab.Tryd
namespace Go.Ab.Tryd
open Go Go.Ab Go.Proofs Go.Lib
set_option linter.unusedVariables false
set_option linter.unusedSimpArgs false
set_option linter.unusedSectionVars false
section
variable {t : List Int}
end
structure Ok (m : Msg) : Prop where
  kind : 1 ≤ m.kind ∧ m.kind ≤ 12
  bare : m = bare m
  key : m.kind = 7 ∨ m.kind = 8 → isKey m.key = true
  keys : ∀ p, p ∈ m.pairs → isKey p.key = true
  val : m.val.size ≤ 512
  vals : ∀ p, p ∈ m.pairs → p.val.size ≤ 512
  peers : m.peers.length ≤ 16
  pairs : m.pairs.length ≤ 8
section
end
end Go.Ab.Tryd
namespace Go.Ab.Tryd
open Go Go.Ab Go.Proofs Go.Lib
set_option linter.unusedVariables false
set_option linter.unusedSimpArgs false
set_option linter.unusedSectionVars false
theorem awake09 : w09_awake = some true := ask_of ((le_lim 60).call _ _ _ _ (by kernel_rfl))
def large (m : Msg) : Bool := decide (300 < m.key.size) || (decide (700 < m.val.size) || (decide (40 < m.peers.length) || (decide (20 < m.pairs.length) || m.pairs.any fun p => decide (300 < p.key.size) || decide (700 < p.val.size))))
theorem large_l0 {m : Msg} (h : m.pairs.length ≤ 1000) : w08_Large_l0 m 0 = some (bif m.pairs.any fun p => decide (300 < p.key.size) || decide (700 < p.val.size) then .inl () else .inr ()) :=
  for_list (σ := Unit) ePair (l := m.pairs) (by omega) (L := fun i _ => w08_Large_l0 m i) (res := fun _ _ rest => bif rest.any fun p => decide (300 < p.key.size) || decide (700 < p.val.size) then .inl () else .inr ()) (Inv := fun _ _ => True)
    (fun _ _ hh => w08_Large_l0_r (by rw [w08_Large_l0_b, hh] <;> rfl))
    (fun n x rest s _ hn hx hd h1 h2 h3 ih => w08_Large_l0_r (by
      rw [w08_Large_l0_b, h1, cond_true, h2, Option.bind_some, slen_nat, slen_nat, List.any_cons]
      by_cases a : 300 < x.key.size
      · rw [iltT (by omega), decide_eq_true a] <;> rfl
      · rw [iltF (by omega), decide_eq_false a, cond_false]
        by_cases b : 700 < x.val.size
        · rw [iltT (by omega), decide_eq_true b] <;> rfl
        · rw [iltF (by omega), decide_eq_false b, cond_false, h3, ih () trivial] <;> rfl)) () trivial
theorem Large_eq (m : Msg) : w08_Large m = some (large m) := w08_Large_r (by
  rw [w08_Large_b, slen_nat, slen_nat, xlen_eq, xlen_eq, large]
  by_cases h1 : 300 < m.key.size
  · rw [iltT (by omega), decide_eq_true h1] <;> rfl
  · rw [iltF (by omega), decide_eq_false h1, cond_false, Bool.false_or]
    by_cases h2 : 700 < m.val.size
    · rw [iltT (by omega), decide_eq_true h2] <;> rfl
    · rw [iltF (by omega), decide_eq_false h2, cond_false, Bool.false_or]
      by_cases h3 : 40 < m.peers.length
      · rw [iltT (by omega), decide_eq_true h3] <;> rfl
      · rw [iltF (by omega), decide_eq_false h3, cond_false, Bool.false_or]
        by_cases h4 : 20 < m.pairs.length
        · rw [iltT (by omega), decide_eq_true h4] <;> rfl
        · rw [iltF (by omega), decide_eq_false h4, cond_false, Bool.false_or, large_l0 (by omega), Option.bind_some]
          cases m.pairs.any fun p => decide (300 < p.key.size) || decide (700 < p.val.size) <;> rfl)
theorem small_of {m : Msg} (h : large m = false) : Small m := by
  simp only [large, Bool.or_eq_false_iff, decide_eq_false_iff_not, List.any_eq_false, Bool.or_eq_true, decide_eq_true_eq, not_or] at h
  obtain ⟨h1, h2, h3, h4, h5⟩ := h
  exact ⟨by omega, by omega, by omega, by omega, fun p hp => by have := h5 p hp; omega⟩
theorem law_Encs {m : Msg} (hr : Rng m) : w09_FixedEncs m = some true := w09_FixedEncs_r (by
  rw [w09_FixedEncs_b, Large_eq, Option.bind_some, awake09]
  cases hl : large m with
  | true => rfl
  | false =>
    have hs := small_of hl
    rw [cond_false, fixed_Enc_eq hs hr, Option.bind_some]
    try dsimp only
    rw [r09_Enc_eq hs hr, Option.bind_some]
    try dsimp only
    rw [xsofb_eq, Option.bind_some, Option.bind_some, seq_self, ieqT rfl] <;> rfl)
end Go.Ab.Tryd
namespace Go.Ab.Tryd
open Go Go.Ab
theorem peOk {p : Peer} (h : p.Ok) : PeOk p := ⟨h.1.1, by have := h.1.2; omega, h.2.1, by have := h.2.2; omega⟩
theorem rngOk {m : Msg} (h : m.Ok) : Rng m := by
  obtain ⟨h1, h2, h3, h4, h5, h6, h7, h8, h9, h10⟩ := h
  exact ⟨h2.1, by have := h2.2; omega, h3.1, by have := h3.2; omega, h5.1, by have := h5.2; omega, peOk h8, fun p hp => peOk (h9.1 p hp)⟩
end Go.Ab.Tryd
