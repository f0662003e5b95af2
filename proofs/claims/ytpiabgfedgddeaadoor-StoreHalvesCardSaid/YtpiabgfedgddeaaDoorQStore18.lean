/- Our texts for this statement, merged: what its theorem leads to. -/
import Derived.Lib.DecodeN
import Derived.Test.YtpiabgfedgddeaaDoorQStore17
namespace Go.Ab.Tryd
open Go Go.Ab Go.Proofs Go.Lib
set_option linter.unusedVariables false
set_option linter.unusedSimpArgs false
def byt (s : ByteArray) (i : Nat) : Nat := (s.get! i).toNat
theorem byt_lt (s : ByteArray) (i : Nat) : byt s i < 256 := (s.get! i).toNat_lt
theorem get!_ge (s : ByteArray) (i : Nat) (h : s.size ≤ i) : byt s i = 0 := by
  cases s with
  | mk d =>
    have h' : d.size ≤ i := h
    show (d[i]!).toNat = 0
    rw [getElem!_neg d i (by omega)]; rfl
theorem xsget_nat {s : ByteArray} {i : Nat} (h : i < s.size) : xsget s (i : Int) = some (byt s i : Int) := by
  show (if (0 : Int) ≤ (i : Int) then (s[(i : Int).toNat]?).map fun c => (c.toNat : Int) else none) = _
  rw [if_pos (by omega), Int.toNat_natCast]
  have e1 : s[i]? = some (s[i]'h) := getElem?_pos s i h
  have e2 : s.get! i = s[i]'h := by
    cases s with
    | mk d => exact getElem!_pos d i h
  rw [e1]
  show some ((s[i]'h).toNat : Int) = _
  rw [← e2]; rfl
theorem i64_add {a b : Nat} (h : a + b < 9223372036854775808) : Ops.std.iadd .i64 (a : Int) (b : Int) = ((a + b : Nat) : Int) := by
  show IntKind.i64.wrap _ = _
  unfold IntKind.wrap
  simp [IntKind.signed, IntKind.bits]
  omega
theorem i64_sub {a b : Nat} (h : b ≤ a) (h2 : a < 9223372036854775808) : Ops.std.isub .i64 (a : Int) (b : Int) = ((a - b : Nat) : Int) := by
  show IntKind.i64.wrap _ = _
  unfold IntKind.wrap
  simp [IntKind.signed, IntKind.bits]
  omega
theorem slen_nat (s : ByteArray) : Ops.std.slen s = (s.size : Int) := rfl
def wid (s : ByteArray) (i : Nat) : Nat := if Utf8.decode s i = (65533, 1) then 0 else (Utf8.decode s i).2
def tl (b : Nat) : Bool := decide (128 ≤ b ∧ b ≤ 191)
theorem r04_tail_eq (b : Nat) : r04_tail (b : Int) = some (tl b) := r04_tail_r (by
  simp only [r04_tail_b, ile_dec, bif_dec, tl]
  split
  · rename_i h
    congr 1
    exact decide_eq_decide.2 ⟨fun h2 => ⟨by omega, by omega⟩, fun h2 => by omega⟩
  · rename_i h
    congr 1
    exact (decide_eq_false (by omega)).symm)
def wd3 (b0 b1 : Nat) (t : Bool) : Option Nat := bif t then (if b0 = 224 then (if b1 < 160 then some 0 else some 3) else if b0 = 237 then (if 159 < b1 then some 0 else some 3) else some 3) else none
def wd4 (b0 b1 : Nat) (t : Bool) : Nat := bif t then (if b0 = 240 then (if b1 < 144 then 0 else 4) else if b0 = 244 then (if 143 < b1 then 0 else 4) else 4) else 0
section
variable {s : ByteArray} {i : Nat} (hi : i < s.size) (hs : s.size < 4611686018427387904)
include hi hs
theorem left_eq : Ops.std.isub .i64 (Ops.std.slen s) (i : Int) = ((s.size - i : Nat) : Int) := i64_sub (by omega) (by omega)
theorem at_eq {k : Nat} (h : k < s.size - i) (hk : k < 8) : xsget s (Ops.std.iadd .i64 (i : Int) (k : Int)) = some (byt s (i + k) : Int) := by
  rw [i64_add (by omega)]; exact xsget_nat (by omega)
theorem s0_eq (h : 1 < s.size - i) (b : Nat) (t : Bool) : r04_Width_s0 s (i : Int) (b : Int) t = some (match wd3 b (byt s (i + 1)) t with | some n => .inl (n : Int) | none => .inr (b : Int)) := r04_Width_s0_r (by
  have e1 : xsget s (Ops.std.iadd .i64 (i : Int) 1) = some (byt s (i + 1) : Int) := at_eq (k := 1) hi hs h (by decide)
  unfold r04_Width_s0_b
  cases t
  · rfl
  · simp only [cond_true, ieq_dec, ilt_dec, bif_dec, wd3, e1, Option.bind_some]
    by_cases h1 : b = 224
    · subst h1
      by_cases h2 : byt s (i + 1) < 160
      · simp [h2, show (byt s (i + 1) : Int) < 160 by omega]
      · simp [h2, show ¬ (byt s (i + 1) : Int) < 160 by omega]
    · by_cases h3 : b = 237
      · subst h3
        by_cases h2 : 159 < byt s (i + 1)
        · simp [h2, show (159 : Int) < byt s (i + 1) by omega]
        · simp [h2, show ¬ (159 : Int) < byt s (i + 1) by omega]
      · simp [h1, h3, show ¬ (b : Int) = 224 by omega, show ¬ (b : Int) = 237 by omega])
omit hi hs in
theorem s0_false (b : Nat) : r04_Width_s0 s (i : Int) (b : Int) false = some (.inr (b : Int)) := r04_Width_s0_r rfl
theorem s1_eq (h : 1 < s.size - i) (b : Nat) : r04_Width_s1 s (i : Int) (b : Int) true = some (.inl (wd4 b (byt s (i + 1)) true : Nat)) := r04_Width_s1_r (by
  have e1 : xsget s (Ops.std.iadd .i64 (i : Int) 1) = some (byt s (i + 1) : Int) := at_eq (k := 1) hi hs h (by decide)
  unfold r04_Width_s1_b
  simp only [cond_true, ieq_dec, ilt_dec, bif_dec, wd4, e1, Option.bind_some]
  by_cases h1 : b = 240
  · subst h1
    by_cases h2 : byt s (i + 1) < 144
    · simp [h2, show (byt s (i + 1) : Int) < 144 by omega]
    · simp [h2, show ¬ (byt s (i + 1) : Int) < 144 by omega]
  · by_cases h3 : b = 244
    · subst h3
      by_cases h2 : 143 < byt s (i + 1)
      · simp [h2, show (143 : Int) < byt s (i + 1) by omega]
      · simp [h2, show ¬ (143 : Int) < byt s (i + 1) by omega]
    · simp [h1, h3, show ¬ (b : Int) = 240 by omega, show ¬ (b : Int) = 244 by omega])
omit hi hs in
theorem s1_false (b : Nat) : r04_Width_s1 s (i : Int) (b : Int) false = some (.inr ()) := r04_Width_s1_r rfl
theorem s2_eq (b : Nat) : r04_Width_s2 s (i : Int) (b : Int) = some ((if 240 ≤ b ∧ b ≤ 244 ∧ 3 < s.size - i ∧ tl (byt s (i + 1)) = true ∧ tl (byt s (i + 2)) = true ∧ tl (byt s (i + 3)) = true then wd4 b (byt s (i + 1)) true else 0 : Nat) : Int) := r04_Width_s2_r (by
  unfold r04_Width_s2_b
  simp only [ile_dec, ilt_dec, bif_dec, left_eq hi hs, s1_false, Option.bind_some]
  split
  · split
    · split
      · have e1 : xsget s (Ops.std.iadd .i64 (i : Int) 1) = some (byt s (i + 1) : Int) := at_eq (k := 1) hi hs (by omega) (by decide)
        have e2 : xsget s (Ops.std.iadd .i64 (i : Int) 2) = some (byt s (i + 2) : Int) := at_eq (k := 2) hi hs (by omega) (by decide)
        have e3 : xsget s (Ops.std.iadd .i64 (i : Int) 3) = some (byt s (i + 3) : Int) := at_eq (k := 3) hi hs (by omega) (by decide)
        simp only [e1, e2, e3, Option.bind_some, r04_tail_eq]
        cases t1 : tl (byt s (i + 1))
        · simp
        · cases t2 : tl (byt s (i + 2))
          · simp
          · cases t3 : tl (byt s (i + 3))
            · simp [s1_false]
            · simp only [cond_true, s1_eq hi hs (by omega : 1 < s.size - i), Option.bind_some]
              rw [if_pos ⟨by omega, by omega, by omega, trivial, trivial, trivial⟩]
      · rw [if_neg (by omega)]; rfl
    · rw [if_neg (by omega)]; rfl
  · rw [if_neg (by omega)]; rfl)
theorem s3_eq (b : Nat) : r04_Width_s3 s (i : Int) (b : Int) = some ((if 224 ≤ b ∧ b ≤ 239 ∧ 2 < s.size - i ∧ tl (byt s (i + 1)) = true ∧ tl (byt s (i + 2)) = true then (wd3 b (byt s (i + 1)) true).getD 0
    else if 240 ≤ b ∧ b ≤ 244 ∧ 3 < s.size - i ∧ tl (byt s (i + 1)) = true ∧ tl (byt s (i + 2)) = true ∧ tl (byt s (i + 3)) = true then wd4 b (byt s (i + 1)) true else 0 : Nat) : Int) := r04_Width_s3_r (by
  unfold r04_Width_s3_b
  simp only [ile_dec, ilt_dec, bif_dec, left_eq hi hs, s0_false, Option.bind_some, s2_eq hi hs]
  split
  · split
    · split
      · have e1 : xsget s (Ops.std.iadd .i64 (i : Int) 1) = some (byt s (i + 1) : Int) := at_eq (k := 1) hi hs (by omega) (by decide)
        have e2 : xsget s (Ops.std.iadd .i64 (i : Int) 2) = some (byt s (i + 2) : Int) := at_eq (k := 2) hi hs (by omega) (by decide)
        simp only [e1, e2, Option.bind_some, r04_tail_eq]
        cases t1 : tl (byt s (i + 1))
        · simp
        · cases t2 : tl (byt s (i + 2))
          · simp [s0_false, s2_eq hi hs, t1, t2]
          · simp only [cond_true, s0_eq hi hs (by omega : 1 < s.size - i), Option.bind_some]
            rw [if_pos ⟨by omega, by omega, by omega, trivial, trivial⟩]
            unfold wd3
            simp only [cond_true]
            repeat' split
            all_goals first | rfl | simp_all
      · rw [if_neg (c := 224 ≤ b ∧ _) (by omega)]
    · rw [if_neg (c := 224 ≤ b ∧ _) (by omega)]
  · rw [if_neg (c := 224 ≤ b ∧ _) (by omega)])
def widN (n b0 b1 b2 b3 : Nat) : Nat :=
  if b0 < 128 then 1
  else if 194 ≤ b0 ∧ b0 ≤ 223 ∧ 1 < n ∧ tl b1 = true then 2
  else if 224 ≤ b0 ∧ b0 ≤ 239 ∧ 2 < n ∧ tl b1 = true ∧ tl b2 = true then (wd3 b0 b1 true).getD 0
  else if 240 ≤ b0 ∧ b0 ≤ 244 ∧ 3 < n ∧ tl b1 = true ∧ tl b2 = true ∧ tl b3 = true then wd4 b0 b1 true else 0
theorem Width_eq' : r04_Width s (i : Int) = some (widN (s.size - i) (byt s i) (byt s (i + 1)) (byt s (i + 2)) (byt s (i + 3)) : Int) := r04_Width_r (by
  unfold r04_Width_b widN
  simp only [xsget_nat hi, Option.bind_some, ile_dec, ilt_dec, bif_dec, left_eq hi hs, s3_eq hi hs]
  by_cases h1 : byt s i < 128
  · rw [if_pos (by omega), if_pos h1]; rfl
  · rw [if_neg (by omega), if_neg h1]
    split
    · split
      · split
        · have e1 : xsget s (Ops.std.iadd .i64 (i : Int) 1) = some (byt s (i + 1) : Int) := at_eq (k := 1) hi hs (by omega) (by decide)
          simp only [e1, Option.bind_some, r04_tail_eq]
          cases t1 : tl (byt s (i + 1))
          · simp
          · simp only [cond_true]
            rw [if_pos ⟨by omega, by omega, by omega, trivial⟩]; rfl
        · rw [if_neg (c := 194 ≤ byt s i ∧ _) (by omega)]
      · rw [if_neg (c := 194 ≤ byt s i ∧ _) (by omega)]
    · rw [if_neg (c := 194 ≤ byt s i ∧ _) (by omega)])
end
theorem tl_iff {b : Nat} (h : b < 256) : tl b = true ↔ b / 64 = 2 := by unfold tl; rw [decide_eq_true_eq]; omega
set_option maxRecDepth 100000 in
set_option maxHeartbeats 4000000 in
theorem widN_eq {n b0 b1 b2 b3 : Nat} (h0 : b0 < 256) (h1 : b1 < 256) (h2 : b2 < 256) (h3 : b3 < 256) : widN n b0 b1 b2 b3 = if decodeN n b0 b1 b2 b3 = (65533, 1) then 0 else (decodeN n b0 b1 b2 b3).2 := by
  unfold widN wd3 wd4
  simp only [tl_iff h1, tl_iff h2, tl_iff h3, cond_true]
  unfold decodeN
  repeat' split
  all_goals first | rfl | omega | (simp_all; done) | (simp_all; omega)
theorem Width_eq {s : ByteArray} {i : Nat} (hi : i < s.size) (hs : s.size < 4611686018427387904) : r04_Width s (i : Int) = some (wid s i : Int) := by
  rw [Width_eq' hi hs, widN_eq (byt_lt _ _) (byt_lt _ _) (byt_lt _ _) (byt_lt _ _)]
  unfold wid
  rw [decode_at]; rfl
end Go.Ab.Tryd
