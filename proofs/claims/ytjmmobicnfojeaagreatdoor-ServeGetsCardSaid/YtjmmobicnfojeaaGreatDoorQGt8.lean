/- Our texts for this statement, merged: what its theorem leads to. -/
import Derived.Lib.DecodeN
import Derived.Lib.RuneCountTail
import Derived.Lib.TrimU
import Derived.Test.YtjmmobicnfojeaaGreatDoorQGt2
import Derived.Test.YtjmmobicnfojeaaGreatDoorQGt3
import Derived.Test.YtjmmobicnfojeaaGreatDoorQGt4
import Derived.Test.YtjmmobicnfojeaaGreatDoorQGt5
import Derived.Test.YtjmmobicnfojeaaGreatDoorQGt6
import Derived.Test.YtjmmobicnfojeaaGreatDoorQGt7
namespace Go.Ab.Tryz.Pe
open Go.Ab.Tryz Go Go.Ab Go.Proofs
set_option linter.unusedVariables false
set_option linter.unusedSimpArgs false
def PeOk (p : Peer) : Prop := 0 ≤ p.id ∧ p.id < 18446744073709551616
def dist (a b : Int) : Int := (b - a) % 18446744073709551616
theorem ring_Dist_eq (a b : Int) : ring_Dist a b = some (dist a b) := ring_Dist_r (by
  show some (IntKind.u64.wrap (b - a)) = _
  rw [u64_wrap]; rfl)
theorem r03_Dist_eq {a b : Int} (ha : 0 ≤ a) (ha2 : a < 18446744073709551616) (hb : 0 ≤ b) (hb2 : b < 18446744073709551616) : r03_Dist a b = some (dist a b) := r03_Dist_r (by
  unfold r03_Dist_b
  show (bif Ops.std.ile a b then some (IntKind.u64.wrap (b - a)) else some (IntKind.u64.wrap (IntKind.u64.wrap (18446744073709551615 - IntKind.u64.wrap (a - b)) + 1))) = _
  simp only [u64_wrap, dist, ile_dec, bif_dec]
  split
  · rfl
  · congr 1; omega)
def ahead (me a b : Peer) : Bool := decide (dist me.id a.id < dist me.id b.id ∨ dist me.id a.id = dist me.id b.id ∧ a.addr < b.addr)
def isAt (addr : Int) (e : Entry) : Bool := decide (e.peer.addr = addr)
def place (l : List Entry) (addr : Int) : Int := fstI (isAt addr) l
def drp (addr : Int) (l : List Entry) : List Entry := l.filter fun e => !isAt addr e
theorem xsub_take (l : List Entry) (n : Nat) (h : n ≤ l.length) : xsub eEntry l 0 (n : Int) = some (l.take n) := by
  rw [xsub_eq, if_pos (by omega)]; simp
theorem xsub_drop (l : List Entry) (n : Nat) (h : n ≤ l.length) : xsub eEntry l (n : Int) (xlen eEntry l) = some (l.drop n) := by
  rw [xsub_eq, xlen_eq, if_pos (by omega)]; simp
def firms (l : List Entry) : List Peer := l.flatMap fun x => bif Ops.std.ile x.misses 0 then [x.peer] else []
theorem flat_map (l : List Entry) : (l.flatMap fun x => [x.peer]) = l.map Entry.peer := by
  induction l with
  | nil => rfl
  | cons x l ih => rw [List.flatMap_cons, ih]; rfl
theorem some_eq {l : List Entry} (hl : l.length ≤ 1000) : peers_Firm l = some (firms l) ∧ r27_Firm l = some (firms l) ∧ peers_All l = some (l.map Entry.peer) ∧ r27_All l = some (l.map Entry.peer) := by
  have h1 := gather_list eEntry (l := l) (by omega) (f := fun x => bif Ops.std.ile x.misses 0 then [x.peer] else []) (L := fun i acc => peers_some_1_l0 l i acc) 1 (fun x _ => by cases Ops.std.ile x.misses 0 <;> simp)
    (fun acc h => peers_some_1_l0_r (by simp [peers_some_1_l0_b, h]))
    (fun n x acc r ha hn _ h1 h2 h => peers_some_1_l0_r (by
      have hf : peers_firm x = some (Ops.std.ile x.misses 0) := peers_firm_r rfl
      cases hx : Ops.std.ile x.misses 0 with
      | false => simp only [hx, cond_false, List.append_nil] at h; simp [peers_some_1_l0_b, h1, h2, hf, hx, h]
      | true => simp only [hx, cond_true] at h; simp [peers_some_1_l0_b, h1, h2, hf, hx, h, xroom_eq ePeer (b := 16) (l := acc) (l' := [x.peer]) (by simp; omega) (by omega)]))
  have h2 := gather_list eEntry (l := l) (by omega) (f := fun x => bif Ops.std.ile x.misses 0 then [x.peer] else []) (L := fun i acc => r27_Firm_l0 l i acc) 1 (fun x _ => by cases Ops.std.ile x.misses 0 <;> simp)
    (fun acc h => r27_Firm_l0_r (by simp [r27_Firm_l0_b, h]))
    (fun n x acc r ha hn _ h1 h2 h => r27_Firm_l0_r (by
      have hf : Ops.std.ilt x.misses 1 = Ops.std.ile x.misses 0 := by rw [ilt_dec, ile_dec]; exact decide_eq_decide.2 (by omega)
      cases hx : Ops.std.ile x.misses 0 with
      | false => simp only [hx, cond_false, List.append_nil] at h; simp [r27_Firm_l0_b, h1, h2, hf, hx, h]
      | true => simp only [hx, cond_true] at h; simp [r27_Firm_l0_b, h1, h2, hf, hx, h, xroom_eq ePeer (b := 16) (l := acc) (l' := [x.peer]) (by simp; omega) (by omega)]))
  have h3 := gather_list eEntry (l := l) (by omega) (f := fun x => [x.peer]) (L := fun i acc => peers_some_l0 l i acc) 1 (fun x _ => by simp)
    (fun acc h => peers_some_l0_r (by simp [peers_some_l0_b, h]))
    (fun n x acc r ha hn _ h1 h2 h => peers_some_l0_r (by
      have hf : peers_All_1 x = some true := peers_All_1_r rfl
      simp [peers_some_l0_b, h1, h2, hf, h, xroom_eq ePeer (b := 16) (l := acc) (l' := [x.peer]) (by simp; omega) (by omega)]))
  have h4 := gather_list eEntry (l := l) (by omega) (f := fun x => [x.peer]) (L := fun i acc => r27_All_l0 l i acc) 1 (fun x _ => by simp)
    (fun acc h => r27_All_l0_r (by simp [r27_All_l0_b, h]))
    (fun n x acc r ha hn _ h1 h2 h => r27_All_l0_r (by
      simp [r27_All_l0_b, h1, h2, h, xroom_eq ePeer (b := 16) (l := acc) (l' := [x.peer]) (by simp; omega) (by omega)]))
  rw [flat_map] at h3 h4
  refine ⟨peers_Firm_r ?_, r27_Firm_r ?_, peers_All_r ?_, r27_All_r ?_⟩
  · simp [peers_Firm_b, peers_some_1_r (l := l) (r := firms l) (by simp [peers_some_1_b, h1, firms])]
  · simp [r27_Firm_b, h2, firms]
  · simp [peers_All_b, peers_some_r (l := l) (r := l.map Entry.peer) (by simp [peers_some_b, h3])]
  · simp [r27_All_b, h4]
theorem firms_le (l : List Entry) : (firms l).length ≤ l.length := by
  unfold firms
  induction l with
  | nil => exact Nat.le_refl _
  | cons x l ih => rw [List.flatMap_cons, List.length_append, List.length_cons]; cases Ops.std.ile x.misses 0 <;> simp only [cond_true, cond_false, List.length_cons, List.length_nil] <;> omega
theorem Entry.ext3 {a b : Entry} : a = b ↔ a.peer.id = b.peer.id ∧ a.peer.addr = b.peer.addr ∧ a.misses = b.misses := by
  rw [Entry.ext', Peer.ext', and_assoc]
theorem r27_Same_eq {a b : List Entry} (hl : a.length ≤ 1000) : r27_Same a b = some (eqb a b) := r27_Same_r (by
  rw [r27_Same_b, xlen_eq, xlen_eq]
  by_cases he : a.length = b.length
  · have h := same_list eEntry (l := a) (l' := b) (by omega) he (L := fun i => r27_Same_l0 a b i) (fun h => r27_Same_l0_r (by simp [r27_Same_l0_b, h]))
      (fun n x r _ h1 h2 h3 h => r27_Same_l0_r (by simp [r27_Same_l0_b, h1, h2, h3, ieq_dec]; exact h))
      (fun n x y _ h1 h2 h3 h => r27_Same_l0_r (by
        simp only [r27_Same_l0_b, h1, h2, h3, ieq_dec, bif_dec, cond_true, Option.bind_some]
        rw [ne_eq, Entry.ext3] at h
        split
        · split
          · split
            · exact absurd ⟨‹_›, ‹_›, ‹_›⟩ h
            · rfl
          · rfl
        · rfl))
    rw [ieqT (by omega), cond_true]
    rcases h with ⟨h1, h2⟩ | ⟨h1, h2⟩
    · rw [h2, h1, eqb_self]; rfl
    · rw [h2, eqb_ne h1]; rfl
  · rw [ieqF (by omega), eqb_ne (fun h => he (by rw [h]))]; rfl)
end Go.Ab.Tryz.Pe
namespace Go.Ab.Tryz.Pe
open Go.Ab.Tryz Go Go.Ab Go.Proofs
set_option linter.unusedVariables false
set_option linter.unusedSimpArgs false
def EnOk (l : List Entry) : Prop := ∀ x, x ∈ l → PeOk x.peer
def isAh (me p : Peer) (x : Entry) : Bool := ahead me p x.peer
def ins (me p : Peer) : List Entry → List Entry
  | [] => [⟨p, 0⟩]
  | x :: l => bif isAh me p x then ⟨p, 0⟩ :: x :: l else x :: ins me p l
def cut (l : List Entry) : List Entry := if 15 < l.length then l.take (l.length - 1) else l
def add (me : Peer) (l : List Entry) (p : Peer) : List Entry :=
  if p.addr = me.addr then l else
  match fst (isAt p.addr) l with
  | none => cut (ins me p (drp p.addr l))
  | some n => match l[n]? with
    | none => l
    | some x => if x.peer = p then l.set n ⟨x.peer, 0⟩ else cut (ins me p (drp p.addr l))
end Go.Ab.Tryz.Pe
namespace Go.Ab.Tryz
open Go Go.Ab Go.Proofs Go.Lib
set_option linter.unusedVariables false
set_option linter.unusedSimpArgs false
def byt (s : ByteArray) (i : Nat) : Nat := (s.get! i).toNat
theorem xsget_nat {s : ByteArray} {i : Nat} (h : i < s.size) : xsget s (i : Int) = some (byt s i : Int) := by
  show (if (0 : Int) ≤ (i : Int) then (s[(i : Int).toNat]?).map fun c => (c.toNat : Int) else none) = _
  rw [if_pos (by omega), Int.toNat_natCast]
  have e1 : s[i]? = some (s[i]'h) := getElem?_pos s i h
  have e2 : s.get! i = s[i]'h := by
    cases s with
    | mk d => exact getElem!_pos d i h
  rw [e1]
  show some ((s[i]'h).toNat : Int) = _
  rw [← e2]; rfl
theorem i64_add {a b : Nat} (h : a + b < 9223372036854775808) : Ops.std.iadd .i64 (a : Int) (b : Int) = ((a + b : Nat) : Int) := by
  show IntKind.i64.wrap _ = _
  unfold IntKind.wrap
  simp [IntKind.signed, IntKind.bits]
  omega
theorem slen_nat (s : ByteArray) : Ops.std.slen s = (s.size : Int) := rfl
section
variable {s : ByteArray} {i : Nat} (hi : i < s.size) (hs : s.size < 4611686018427387904)
include hi hs
end
end Go.Ab.Tryz
namespace Go.Ab.Tryz
open Go Go.Ab Go.Proofs Go.Lib
set_option linter.unusedVariables false
set_option linter.unusedSimpArgs false
def stray (s : ByteArray) (i : Nat) : Bool := decide (Utf8.decode s i = (65533, 1))
theorem xsdec_nat {s : ByteArray} {i : Nat} (h : i < s.size) : xsdec s (i : Int) = some (((Utf8.decode s i).1 : Int), ((i + (Utf8.decode s i).2 : Nat) : Int)) := by
  show (if 0 ≤ (i : Int) ∧ (i : Int).toNat < s.size then some (((Utf8.decode s (i : Int).toNat).1 : Int), (i : Int) + ((Utf8.decode s (i : Int).toNat).2 : Int)) else none) = _
  rw [if_pos ⟨by omega, by simpa using h⟩, Int.toNat_natCast]
  simp
theorem xsdec_end {s : ByteArray} {i : Nat} (h : ¬ i < s.size) : xsdec s (i : Int) = none := by
  show (if 0 ≤ (i : Int) ∧ (i : Int).toNat < s.size then some (((Utf8.decode s (i : Int).toNat).1 : Int), (i : Int) + ((Utf8.decode s (i : Int).toNat).2 : Int)) else none) = _
  rw [if_neg (by simpa using h)]
theorem utf_stray_eq {s : ByteArray} {i : Nat} (h : i < s.size) : utf_stray s (i : Int) ((Utf8.decode s i).1 : Int) = some (stray s i) := utf_stray_r (by
  unfold utf_stray_b
  simp only [ieq_dec, bif_dec]
  split
  · rename_i h1
    have e1 : xssub s (i : Int) (Ops.std.slen s) = some (s.extract i s.size) := by
      show (if 0 ≤ (i : Int) ∧ (i : Int) ≤ (s.size : Int) ∧ (s.size : Int) ≤ (s.size : Int) then some (s.extract (i : Int).toNat (s.size : Int).toNat) else none) = _
      rw [if_pos ⟨by omega, by omega, by omega⟩]; simp
    have e2 : xsdec (s.extract i s.size) 0 = some (((Utf8.decode s i).1 : Int), ((Utf8.decode s i).2 : Int)) := by
      have := xsdec_nat (s := s.extract i s.size) (i := 0) (by rw [tail_size]; omega)
      rw [tail_decode] at this
      simpa using this
    rw [e1, Option.bind_some, e2]
    simp only [xopt, stray]
    congr 1
    have h2 : (Utf8.decode s i).1 = 65533 := by omega
    refine decide_eq_decide.2 ⟨fun h => Prod.ext h2 (by show (Utf8.decode s i).2 = 1; omega), fun h => by rw [h]; rfl⟩
  · rename_i h1
    congr 1
    exact (decide_eq_false (fun h => h1 (by rw [h]; rfl))).symm)
def poss (s : ByteArray) : Nat → Nat → List Nat
  | 0, _ => []
  | n + 1, i => if i < s.size then i :: poss s n (i + (Utf8.decode s i).2) else []
theorem valid_l0 (s : ByteArray) : ∀ (n i : Nat), s.size - i < n → ∃ r, utf_Valid_l0 s (i : Int) = some r ∧ (match r with | .inl _ => false | .inr _ => true) = (poss s n i).all fun j => !stray s j := by
  intro n
  induction n with
  | zero => intro i h; omega
  | succ n ih =>
    intro i h
    by_cases hi : i < s.size
    · have hw := width_pos s i
      cases hst : stray s i
      · obtain ⟨r, hr, he⟩ := ih (i + (Utf8.decode s i).2) (by omega)
        refine ⟨r, utf_Valid_l0_r (by simp only [utf_Valid_l0_b, xsdec_nat hi, xopt, utf_stray_eq hi, Option.bind_some, hst, cond_false]; exact hr), ?_⟩
        rw [he]; simp [poss, hi, hst]
      · exact ⟨_, utf_Valid_l0_r (by simp only [utf_Valid_l0_b, xsdec_nat hi, xopt, utf_stray_eq hi, Option.bind_some, hst, cond_true]; rfl), by simp [poss, hi, hst]⟩
    · exact ⟨_, utf_Valid_l0_r (by simp only [utf_Valid_l0_b, xsdec_end hi, xopt]; rfl), by simp [poss, hi]⟩
theorem utf_Valid_eq (s : ByteArray) : utf_Valid s = some ((poss s (s.size + 1) 0).all fun j => !stray s j) := utf_Valid_r (by
  obtain ⟨r, hr, he⟩ := valid_l0 s (s.size + 1) 0 (by omega)
  have hr : utf_Valid_l0 s 0 = some r := hr
  simp only [utf_Valid_b, hr, Option.bind_some]
  cases r <;> exact congrArg some he)
theorem count_l0 (s : ByteArray) : ∀ (n i k : Nat), s.size - i < n → k + n < 9223372036854775808 → ∃ a, utf_Count_l0 s (k : Int) (i : Int) = some (((k + (poss s n i).length : Nat) : Int), a) := by
  intro n
  induction n with
  | zero => intro i k h; omega
  | succ n ih =>
    intro i k h hk
    by_cases hi : i < s.size
    · have hw := width_pos s i
      obtain ⟨a, ha⟩ := ih (i + (Utf8.decode s i).2) (k + 1) (by omega) (by omega)
      refine ⟨a, utf_Count_l0_r ?_⟩
      have e1 : Ops.std.iadd .i64 (k : Int) 1 = ((k + 1 : Nat) : Int) := i64_add (b := 1) (by omega)
      simp only [utf_Count_l0_b, xsdec_nat hi, xopt, e1, ha]
      simp [poss, hi]; omega
    · exact ⟨(i : Int), utf_Count_l0_r (by simp only [utf_Count_l0_b, xsdec_end hi, xopt]; simp [poss, hi])⟩
theorem utf_Count_eq {s : ByteArray} (hs : s.size < 4611686018427387904) : utf_Count s = some (((poss s (s.size + 1) 0).length : Nat) : Int) := utf_Count_r (by
  obtain ⟨a, ha⟩ := count_l0 s (s.size + 1) 0 0 (by omega) (by omega)
  have ha : utf_Count_l0 s 0 0 = some (((0 + (poss s (s.size + 1) 0).length : Nat) : Int), a) := ha
  simp only [utf_Count_b, ha, Option.bind_some, Nat.zero_add])
end Go.Ab.Tryz
namespace Go.Ab.Tryz
open Go Go.Ab Go.Proofs Go.Lib
set_option linter.unusedVariables false
set_option linter.unusedSimpArgs false
def isKey (s : ByteArray) : Bool := decide (0 < s.size ∧ s.size ≤ 96) && ((poss s (s.size + 1) 0).all fun j => !stray s j) && decide ((poss s (s.size + 1) 0).length ≤ 32)
theorem msg_Key_eq {s : ByteArray} (hs : s.size < 1000000) : msg_Key s = some (isKey s) := msg_Key_r (by
  have h0 : Ops.std.seq s ⟨#[]⟩ = true ↔ s.size = 0 := by
    rw [seq_iff]
    constructor
    · rintro rfl; rfl
    · intro h
      cases s with
      | mk d =>
        have : d.size = 0 := h
        rw [Array.eq_empty_of_size_eq_zero this]
  simp only [msg_Key_b, ile_dec, bif_dec, slen_nat, utf_Valid_eq, utf_Count_eq (show s.size < 4611686018427387904 by omega), Option.bind_some, isKey]
  by_cases h1 : s.size = 0
  · rw [h0.2 h1]; simp [h1]
  · rw [Bool.eq_false_iff.2 (fun h => h1 (h0.1 h)), cond_false]
    by_cases h2 : s.size ≤ 96
    · rw [if_pos (by omega)]
      cases (poss s (s.size + 1) 0).all fun j => !stray s j
      · simp
      · have h3 : 0 < s.size := by omega
        simp only [cond_true, h2, h3, and_self, decide_true, Bool.true_and, Option.some.injEq]
        exact decide_eq_decide.2 ⟨fun h => by omega, fun h => by omega⟩
    · rw [if_neg (by omega)]; simp [h2])
end Go.Ab.Tryz
namespace Go.Ab.Tryz
open Go Go.Ab Go.Proofs Go.Lib
set_option linter.unusedVariables false
set_option linter.unusedSimpArgs false
theorem iltT {a b : Int} (h : a < b) : Ops.std.ilt a b = true := decide_eq_true h
theorem iltF {a b : Int} (h : ¬ a < b) : Ops.std.ilt a b = false := decide_eq_false h
theorem ieqT {a b : Int} (h : a = b) : Ops.std.ieq a b = true := decide_eq_true h
theorem ieqF {a b : Int} (h : ¬ a = b) : Ops.std.ieq a b = false := decide_eq_false h
theorem seq_self (a : ByteArray) : Ops.std.seq a a = true := seq_iff.2 rfl
def n64 (x : BitVec 64) : Int := (x.toNat : Int)
theorem n64_rng (x : BitVec 64) : 0 ≤ n64 x ∧ n64 x < 18446744073709551616 := by
  have := x.isLt
  unfold n64; omega
theorem wrap_nat (n : Nat) : IntKind.u64.wrap (n : Int) = n64 (BitVec.ofNat 64 n) := by
  rw [u64_wrap]; unfold n64; rw [BitVec.toNat_ofNat]; omega
theorem wrap_self (x : BitVec 64) : IntKind.u64.wrap (n64 x) = n64 x := by
  have := x.isLt
  rw [u64_wrap]; unfold n64; omega
theorem xor_n64 (x y : BitVec 64) : Ops.std.ibit .xor .u64 (n64 x) (n64 y) = n64 (x ^^^ y) := by
  show Go.bits .xor .u64 (n64 x) (n64 y) = _
  unfold n64
  simp only [Go.bits, IntKind.bits, BitVec.ofInt_natCast, BitVec.ofNat_toNat, BitVec.setWidth_eq]
  exact wrap_self (x ^^^ y)
theorem mul_n64 (x y : BitVec 64) : Ops.std.imul .u64 (n64 x) (n64 y) = n64 (x * y) := by
  show IntKind.u64.wrap (n64 x * n64 y) = _
  unfold n64
  rw [← Int.natCast_mul, wrap_nat]; unfold n64
  rw [BitVec.toNat_mul, BitVec.toNat_ofNat]
theorem shr_div (x : BitVec 64) (k : Nat) : n64 x / ((2 ^ k : Nat) : Int) = n64 (x >>> k) := by
  unfold n64
  rw [BitVec.toNat_ushiftRight, Nat.shiftRight_eq_div_pow]; exact (Int.natCast_ediv _ _).symm
theorem shr_n64 (x : BitVec 64) (k : Nat) (hk : k ≤ 64) : Ops.std.ishr .u64 (n64 x) (k : Int) = n64 (x >>> k) := by
  show Int.fdiv (n64 x) (2 ^ (min ((k : Int)).toNat IntKind.u64.bits)) = _
  have e : min ((k : Int)).toNat IntKind.u64.bits = k := by simp only [Int.toNat_natCast]; exact Nat.min_eq_left hk
  have e2 : ((2 : Int) ^ k) = ((2 ^ k : Nat) : Int) := (Int.natCast_pow 2 k).symm
  rw [e, e2, Int.fdiv_eq_ediv_of_nonneg _ (Int.natCast_nonneg _)]
  exact shr_div x k
def mc1 : BitVec 64 := 13787848793156543929#64
def mc2 : BitVec 64 := 10723151780598845931#64
def mixB (u : BitVec 64) : BitVec 64 :=
  let a := (u ^^^ (u >>> 30)) * mc1
  let b := (a ^^^ (a >>> 27)) * mc2
  b ^^^ (b >>> 31)
theorem sh30 (x : BitVec 64) : Ops.std.ishr .u64 (n64 x) 30 = n64 (x >>> 30) := shr_n64 x 30 (by omega)
theorem sh27 (x : BitVec 64) : Ops.std.ishr .u64 (n64 x) 27 = n64 (x >>> 27) := shr_n64 x 27 (by omega)
theorem sh31 (x : BitVec 64) : Ops.std.ishr .u64 (n64 x) 31 = n64 (x >>> 31) := shr_n64 x 31 (by omega)
theorem mulc1 (x : BitVec 64) : Ops.std.imul .u64 (n64 x) 13787848793156543929 = n64 (x * mc1) := mul_n64 x mc1
theorem mulc2 (x : BitVec 64) : Ops.std.imul .u64 (n64 x) 10723151780598845931 = n64 (x * mc2) := mul_n64 x mc2
theorem hash_Mix_eq (u : BitVec 64) : hash_Mix (n64 u) = some (n64 (mixB u)) := hash_Mix_r (by
  have h1 : Ops.std.ilt 30 0 = false := rfl
  have h2 : Ops.std.ilt 27 0 = false := rfl
  have h3 : Ops.std.ilt 31 0 = false := rfl
  simp only [hash_Mix_b, h1, h2, h3, cond_false, sh30, sh27, sh31, xor_n64, mulc1, mulc2, mixB])
def stepB (n : BitVec 64) (c : Nat) : BitVec 64 := (n ^^^ BitVec.ofNat 64 c) * 1099511628211#64
theorem step_n64 (n : BitVec 64) (c : Nat) : Ops.std.imul .u64 (Ops.std.ibit .xor .u64 (n64 n) (Ops.std.iwrap .u64 (c : Int))) 1099511628211 = n64 (stepB n c) := by
  have e : Ops.std.iwrap .u64 (c : Int) = n64 (BitVec.ofNat 64 c) := wrap_nat c
  rw [e, xor_n64]
  exact mul_n64 _ 1099511628211#64
def iterB (f : BitVec 64 → Nat → BitVec 64) : Nat → Nat → BitVec 64 → BitVec 64
  | 0, _, x => x
  | d + 1, i, x => iterB f d (i + 1) (f x i)
theorem iterB_0 (f : BitVec 64 → Nat → BitVec 64) (i : Nat) (x : BitVec 64) : iterB f 0 i x = x := rfl
theorem iterB_s (f : BitVec 64 → Nat → BitVec 64) (d i : Nat) (x : BitVec 64) : iterB f (d + 1) i x = iterB f d (i + 1) (f x i) := rfl
def sumB (s : ByteArray) (d i : Nat) (x : BitVec 64) : BitVec 64 := iterB (fun x i => stepB x (byt s i)) d i x
theorem sumB_0 (s : ByteArray) (i : Nat) (x : BitVec 64) : sumB s 0 i x = x := iterB_0 _ i x
theorem sumB_s (s : ByteArray) (d i : Nat) (x : BitVec 64) : sumB s (d + 1) i x = sumB s d (i + 1) (stepB x (byt s i)) := iterB_s (fun x i => stepB x (byt s i)) d i x
theorem sum_loops {s : ByteArray} (hs : s.size < 4611686018427387904) (k : Nat) : ∀ (i : Nat) (n : BitVec 64), i + k = s.size → hash_Sum_l0 s (n64 n) (i : Int) = some (n64 (sumB s k i n)) ∧ r05_Sum_l0 s (n64 n) (i : Int) = some (n64 (sumB s k i n)) := by
  induction k with
  | zero =>
    intro i n h
    have e : Ops.std.ilt (i : Int) (Ops.std.slen s) = false := iltF (by rw [slen_nat]; omega)
    refine ⟨hash_Sum_l0_r ?_, r05_Sum_l0_r ?_⟩
    · rw [hash_Sum_l0_b, e, cond_false, sumB_0]
    · rw [r05_Sum_l0_b, e, cond_false, sumB_0]
  | succ k ih =>
    intro i n h
    have e : Ops.std.ilt (i : Int) (Ops.std.slen s) = true := iltT (by rw [slen_nat]; omega)
    have g := xsget_nat (s := s) (i := i) (by omega)
    have a : Ops.std.iadd .i64 (i : Int) 1 = ((i + 1 : Nat) : Int) := iadd1 (by omega)
    have ih := ih (i + 1) (stepB n (byt s i)) (by omega)
    refine ⟨hash_Sum_l0_r ?_, r05_Sum_l0_r ?_⟩
    · rw [hash_Sum_l0_b, e, g, a, cond_true, Option.bind_some, step_n64, sumB_s]; exact ih.1
    · rw [r05_Sum_l0_b, e, g, a, cond_true, Option.bind_some, step_n64, sumB_s]; exact ih.2
def basis : BitVec 64 := 14695981039346656037#64
theorem basis_n64 : n64 basis = 14695981039346656037 := rfl
theorem sum_both {s : ByteArray} (hs : s.size < 4611686018427387904) : hash_Sum s = some (n64 (sumB s s.size 0 basis)) ∧ r05_Sum s = some (n64 (sumB s s.size 0 basis)) := by
  have h := sum_loops hs s.size 0 basis (by omega)
  rw [basis_n64] at h
  exact ⟨hash_Sum_r h.1, r05_Sum_r h.2⟩
def placeB (s : ByteArray) : BitVec 64 := mixB (sumB s s.size 0 basis)
def hplace (s : ByteArray) : Int := n64 (placeB s)
theorem hplace_rng (s : ByteArray) : 0 ≤ hplace s ∧ hplace s < 18446744073709551616 := n64_rng _
theorem hash_Place_eq {s : ByteArray} (hs : s.size < 4611686018427387904) : hash_Place s = some (hplace s) := hash_Place_r (by
  rw [hash_Place_b, (sum_both hs).1, Option.bind_some, hash_Mix_eq]; rfl)
def upto (a x b : Int) : Bool := decide (a = b) || (decide (x = b) || (decide (x ≠ a) && decide ((x - a) % 18446744073709551616 < (b - a) % 18446744073709551616)))
theorem isub_u64 (a b : Int) : Ops.std.isub .u64 a b = (a - b) % 18446744073709551616 := u64_wrap _
theorem ring_Upto_eq (a x b : Int) : ring_Upto a x b = some (upto a x b) := ring_Upto_r (by
  have hd : ∀ u v, ring_Dist u v = some ((v - u) % 18446744073709551616) := fun u v => ring_Dist_r (by rw [ring_Dist_b, isub_u64])
  have hb : a ≠ b → ring_Between a x b = some (decide (x ≠ a) && decide ((x - a) % 18446744073709551616 < (b - a) % 18446744073709551616)) := fun h => ring_Between_r (by
    simp only [ring_Between_b, hd, Option.bind_some, ieq_dec, ilt_dec, decide_eq_false h, cond_false, bif_dec]
    by_cases hx : x = a <;> simp [hx])
  simp only [ring_Upto_b, ieq_dec, bif_dec, upto]
  by_cases h1 : a = b
  · simp [h1]
  · by_cases h2 : x = b
    · simp [h1, h2]
    · simp [h1, h2, hb h1])
theorem r03_Upto_eq {a x b : Int} (ha : 0 ≤ a ∧ a < 18446744073709551616) (hx : 0 ≤ x ∧ x < 18446744073709551616) (hb : 0 ≤ b ∧ b < 18446744073709551616) : r03_Upto a x b = some (upto a x b) := r03_Upto_r (by
  simp only [r03_Upto_b, ilt_dec, ile_dec, bif_dec, upto]
  split
  · split
    · rename_i h1 h2
      congr 1
      rw [decide_eq_false (by omega : ¬ a = b), Bool.false_or, Bool.eq_iff_iff]
      simp only [decide_eq_true_eq, Bool.or_eq_true, Bool.and_eq_true]
      omega
    · rename_i h1 h2
      congr 1
      rw [decide_eq_false (by omega : ¬ a = b), Bool.false_or]
      symm
      rw [Bool.eq_false_iff]
      intro h
      simp only [decide_eq_true_eq, Bool.or_eq_true, Bool.and_eq_true] at h
      omega
  · split
    · split
      · rename_i h1 h2 h3
        congr 1
        symm
        simp only [decide_eq_true_eq, Bool.or_eq_true, Bool.and_eq_true]
        omega
      · rename_i h1 h2 h3
        congr 1
        rw [Bool.eq_iff_iff]
        simp only [decide_eq_true_eq, Bool.or_eq_true, Bool.and_eq_true]
        omega
    · congr 1
      symm
      simp only [decide_eq_true_eq, Bool.or_eq_true, Bool.and_eq_true]
      omega)
def lt (a b : ByteArray) : Bool := Op.bytesLess a.data.toList b.data.toList
end Go.Ab.Tryz
namespace Go.Ab.Tryz
open Go Go.Ab Go.Proofs Go.Lib
set_option linter.unusedVariables false
set_option linter.unusedSimpArgs false
theorem r08_Pairs_eq {a b : List Pair} (hl : a.length ≤ 1000000) : r08_Pairs a b = some (eqb a b) := r08_Pairs_r (by
  rw [r08_Pairs_b, xlen_eq, xlen_eq]
  by_cases he : a.length = b.length
  · have h := same_list ePair (l := a) (l' := b) (by omega) he (L := fun i => r08_Pairs_l0 a b i) (fun h => r08_Pairs_l0_r (by simp [r08_Pairs_l0_b, h]))
      (fun n x r _ h1 h2 h3 h => r08_Pairs_l0_r (by simp [r08_Pairs_l0_b, h1, h2, h3, seq_self]; exact h))
      (fun n x y _ h1 h2 h3 h => r08_Pairs_l0_r (by
        simp only [r08_Pairs_l0_b, h1, h2, h3, seq_dec, bif_dec, cond_true, Option.bind_some]
        rw [ne_eq, Pair.ext'] at h
        split
        · split
          · exact absurd ⟨‹_›, ‹_›⟩ h
          · rfl
        · rfl))
    rw [ieqT (by omega), cond_true]
    rcases h with ⟨h1, h2⟩ | ⟨h1, h2⟩
    · rw [h2, h1, eqb_self] <;> rfl
    · rw [h2, eqb_ne h1] <;> rfl
  · rw [ieqF (by omega), eqb_ne (fun h => he (by rw [h]))] <;> rfl)
def isAt (key : ByteArray) (p : Pair) : Bool := Ops.std.seq p.key key
theorem isAt_iff {key : ByteArray} {p : Pair} : isAt key p = true ↔ p.key = key := seq_iff
theorem isAt_ne {key : ByteArray} {p : Pair} : isAt key p = false ↔ p.key ≠ key := by
  rw [← Bool.not_eq_true, isAt_iff]
def pl (l : List Pair) (key : ByteArray) : Int := fstI (isAt key) l
theorem place_both {l : List Pair} {key : ByteArray} (hl : l.length ≤ 1000) : store_place l key = some (pl l key) ∧ r29_place l key = some (pl l key) := by
  have e1 := find_list ePair (l := l) (by omega) (p := isAt key) (L := fun i => IndexFunc_Pair_2_l0 l key i) (fun h => IndexFunc_Pair_2_l0_r (by simp [IndexFunc_Pair_2_l0_b, h]))
    (fun n x _ h1 h2 hp => IndexFunc_Pair_2_l0_r (by
      have : store_place_1 x key = some (isAt key x) := store_place_1_r rfl
      simp [IndexFunc_Pair_2_l0_b, h1, h2, this, hp]))
    (fun n x r _ h1 h2 hp h => IndexFunc_Pair_2_l0_r (by
      have : store_place_1 x key = some (isAt key x) := store_place_1_r rfl
      simp [IndexFunc_Pair_2_l0_b, h1, h2, this, hp]; exact h))
  have e0 := find_list ePair (l := l) (by omega) (p := isAt key) (L := fun i => r29_place_l0 l key i) (fun h => r29_place_l0_r (by simp [r29_place_l0_b, h]))
    (fun n x _ h1 h2 hp => r29_place_l0_r (by
      have : Ops.std.seq x.key key = true := hp
      simp [r29_place_l0_b, h1, h2, this]))
    (fun n x r _ h1 h2 hp h => r29_place_l0_r (by
      have : Ops.std.seq x.key key = false := hp
      simp [r29_place_l0_b, h1, h2, this]; exact h))
  refine ⟨store_place_r (IndexFunc_Pair_2_r ?_), r29_place_r ?_⟩
  · rw [IndexFunc_Pair_2_b, e1]; unfold pl fstI; cases fst (isAt key) l <;> rfl
  · rw [r29_place_b, e0]; unfold pl fstI; cases fst (isAt key) l <;> rfl
def getP (l : List Pair) (key : ByteArray) : ByteArray × Bool := match l.find? (isAt key) with
  | some x => (x.val, true)
  | none => (⟨#[]⟩, false)
theorem fst_find {p : Pair → Bool} : ∀ {l : List Pair}, match fst p l with
    | some n => ∃ x, l[n]? = some x ∧ l.find? p = some x ∧ p x = true ∧ n < l.length
    | none => l.find? p = none
  | [] => rfl
  | x :: l => by
    have ih := fst_find (p := p) (l := l)
    rw [fst, List.find?_cons]
    cases h : p x with
    | true => exact ⟨x, rfl, rfl, h, by simp⟩
    | false =>
      cases hf : fst p l with
      | none => rw [hf] at ih; exact ih
      | some n =>
        rw [hf] at ih
        obtain ⟨y, h1, h2, h3, h4⟩ := ih
        exact ⟨y, by simpa using h1, h2, h3, by simp; omega⟩
theorem get_both {l : List Pair} {key : ByteArray} (hl : l.length ≤ 1000) : store_Get l key = some (getP l key) ∧ r29_Get l key = some (getP l key) := by
  have h := fst_find (p := isAt key) (l := l)
  have h1 : store_Get_b l key = some (getP l key) ∧ r29_Get_b l key = some (getP l key) := by
    rw [store_Get_b, r29_Get_b, (place_both hl).1, (place_both hl).2, Option.bind_some]
    unfold pl fstI getP
    cases hf : fst (isAt key) l with
    | none =>
      rw [hf] at h
      simp only [h, iltT (show (-1 : Int) < 0 by omega), cond_true, and_self]
    | some n =>
      rw [hf] at h
      obtain ⟨x, h1, h2, h3, h4⟩ := h
      simp only [h2, iltF (show ¬ (n : Int) < 0 by omega), cond_false, xget_nat, h1, Option.bind_some, and_self]
  exact ⟨store_Get_r h1.1, r29_Get_r h1.2⟩
def isUp (key : ByteArray) (p : Pair) : Bool := lt key p.key
def setP (key val : ByteArray) : List Pair → List Pair
  | [] => []
  | x :: l => bif isAt key x then ⟨x.key, val⟩ :: l else x :: setP key val l
def insP (key val : ByteArray) : List Pair → List Pair
  | [] => [⟨key, val⟩]
  | x :: l => bif isUp key x then ⟨key, val⟩ :: x :: l else x :: insP key val l
def put (l : List Pair) (key val : ByteArray) : List Pair × Int :=
  bif isKey key then
    (if 512 < val.size then (l, 5) else
    if 0 ≤ pl l key then (setP key val l, 0) else
    if 64 ≤ l.length then (l, 10) else (insP key val l, 0))
  else (l, 7)
theorem setP_at {key val : ByteArray} : ∀ {l : List Pair} {n : Nat} {x : Pair}, fst (isAt key) l = some n → l[n]? = some x → l.set n ⟨x.key, val⟩ = setP key val l
  | [], n, x, h, _ => by cases h
  | y :: l, n, x, h, hx => by
    rw [fst] at h
    rw [setP]
    cases hy : isAt key y with
    | true =>
      rw [hy] at h
      cases h
      cases hx
      rfl
    | false =>
      rw [hy, cond_false] at h
      cases hf : fst (isAt key) l with
      | none => rw [hf] at h; cases h
      | some m =>
        rw [hf] at h
        cases h
        rw [cond_false, ← setP_at hf (by simpa using hx)]
        rfl
theorem insP_split (key val : ByteArray) (l : List Pair) : insP key val l = match fst (isUp key) l with | some n => l.take n ++ ⟨key, val⟩ :: l.drop n | none => l ++ [⟨key, val⟩] := by
  induction l with
  | nil => rfl
  | cons x l ih =>
    rw [insP, fst]
    cases isUp key x with
    | true => rfl
    | false =>
      rw [cond_false, cond_false, ih]
      cases fst (isUp key) l with
      | none => rfl
      | some n => simp
theorem insP_len (key val : ByteArray) (l : List Pair) : (insP key val l).length = l.length + 1 := by
  induction l with
  | nil => rfl
  | cons x l ih => rw [insP]; cases isUp key x <;> simp [ih]
theorem setP_len (key val : ByteArray) (l : List Pair) : (setP key val l).length = l.length := by
  induction l with
  | nil => rfl
  | cons x l ih => rw [setP]; cases isAt key x <;> simp [ih]
theorem put_len (l : List Pair) (key val : ByteArray) : (put l key val).1.length ≤ max l.length 64 := by
  unfold put
  cases isKey key
  · exact Nat.le_max_left _ _
  · rw [cond_true]
    split
    · exact Nat.le_max_left _ _
    · split
      · rw [setP_len]; exact Nat.le_max_left _ _
      · split
        · exact Nat.le_max_left _ _
        · rw [insP_len]; omega
theorem xsub_take (l : List Pair) (n : Nat) (h : n ≤ l.length) : xsub ePair l 0 (n : Int) = some (l.take n) := by
  rw [xsub_eq, if_pos (by omega)]; simp
theorem xsub_drop (l : List Pair) (n : Nat) (h : n ≤ l.length) : xsub ePair l (n : Int) (xlen ePair l) = some (l.drop n) := by
  rw [xsub_eq, xlen_eq, if_pos (by omega)]; simp
theorem IndexFunc_up {l : List Pair} {key : ByteArray} (hl : l.length ≤ 1000) : IndexFunc_Pair_1 l key = some (fstI (isUp key) l) := IndexFunc_Pair_1_r (by
  have hc : ∀ x, store_Put_1 x key = some (isUp key x) := fun x => store_Put_1_r rfl
  have h := find_list ePair (l := l) (by omega) (p := isUp key) (L := fun i => IndexFunc_Pair_1_l0 l key i) (fun h => IndexFunc_Pair_1_l0_r (by simp [IndexFunc_Pair_1_l0_b, h]))
    (fun n x _ h1 h2 hp => IndexFunc_Pair_1_l0_r (by simp [IndexFunc_Pair_1_l0_b, h1, h2, hc, hp]))
    (fun n x r _ h1 h2 hp h => IndexFunc_Pair_1_l0_r (by simp [IndexFunc_Pair_1_l0_b, h1, h2, hc, hp]; exact h))
  rw [IndexFunc_Pair_1_b, h]
  unfold fstI
  cases fst (isUp key) l <;> rfl)
theorem store_Put_s0_eq {l : List Pair} {key val : ByteArray} (hl : l.length ≤ 1000) : store_Put_s0 l key val = some (insP key val l) := store_Put_s0_r (by
  have hroom : xroom ePair 32 l [⟨key, val⟩] = true := xroom_eq ePair (by simp; omega) (by omega)
  have h0 : xsub ePair l 0 (xlen ePair l) = some l := by
    rw [xlen_eq, xsub_take l l.length (Nat.le_refl _), List.take_length]
  have h1 : xsub ePair l (xlen ePair l) (xlen ePair l) = some [] := by
    have := xsub_drop l l.length (Nat.le_refl _)
    rw [xlen_eq] at this ⊢
    rw [this, List.drop_length]
  rw [store_Put_s0_b, IndexFunc_up hl, Option.bind_some, hroom, insP_split]
  have h := fst_find (p := isUp key) (l := l)
  unfold fstI
  cases hf : fst (isUp key) l with
  | none => simp only [iltT (show (-1 : Int) < 0 by omega), cond_true, h0, h1, Option.bind_some]; simp
  | some n =>
    rw [hf] at h
    obtain ⟨x, hx, _, _, hn⟩ := h
    simp only [iltF (show ¬ (n : Int) < 0 by omega), cond_false, cond_true, xsub_take l n (by omega), xsub_drop l n (by omega), Option.bind_some]; simp)
theorem pl_cases (l : List Pair) (key : ByteArray) : (pl l key = -1 ∧ fst (isAt key) l = none ∧ l.find? (isAt key) = none) ∨ ∃ n x, pl l key = (n : Nat) ∧ fst (isAt key) l = some n ∧ l[n]? = some x ∧ n < l.length ∧ l.find? (isAt key) = some x := by
  have h := fst_find (p := isAt key) (l := l)
  unfold pl fstI
  cases hf : fst (isAt key) l with
  | none => rw [hf] at h; exact .inl ⟨rfl, rfl, h⟩
  | some n =>
    rw [hf] at h
    obtain ⟨x, h1, h2, h3, h4⟩ := h
    exact .inr ⟨n, x, rfl, rfl, h1, h4, h2⟩
theorem ile_0 {a : Int} : Ops.std.ile 0 a = decide (0 ≤ a) := rfl
theorem store_Put_eq {l : List Pair} {key val : ByteArray} (hl : l.length ≤ 1000) (hk : key.size < 1000000) : store_Put l key val = some (put l key val) := store_Put_r (by
  have hroom : xroom ePair 32 [] l = true := xroom_eq ePair (by simp; omega) (by omega)
  rw [store_Put_b, hroom, cond_true, (place_both hl).1, Option.bind_some, msg_Key_eq hk, Option.bind_some]
  unfold put
  cases isKey key with
  | false => rfl
  | true =>
    rw [cond_true, cond_true, slen_nat, ilt_dec, bif_dec]
    by_cases h5 : 512 < val.size
    · rw [if_pos h5, if_pos (by omega)]
    · rw [if_neg h5, if_neg (by omega), ile_0, bif_dec]
      rcases pl_cases l key with ⟨hp, hf, _⟩ | ⟨n, x, hp, hf, hx, hn, _⟩
      · rw [hp, if_neg (by omega), if_neg (by omega), xlen_eq, ile_dec, bif_dec]
        by_cases h64 : 64 ≤ l.length
        · rw [if_pos h64, if_pos (by omega)]
        · rw [if_neg h64, if_neg (by omega), store_Put_s0_eq hl]; rfl
      · rw [hp, if_pos (by omega), if_pos (by omega), xget_nat, hx, Option.bind_some]
        congr 2
        exact setP_at hf hx)
end Go.Ab.Tryz
namespace Go.Ab.Tryz
open Go Go.Ab Go.Proofs Go.Lib
set_option linter.unusedVariables false
set_option linter.unusedSimpArgs false
def Keys (l : List Pair) : Prop := ∀ p, p ∈ l → p.key.size < 1000000
def un (l : List Pair) : Unit ⊕ (((List Pair) × Int) ⊕ Int) → List Pair × Int
  | .inl () => (l, 0)
  | .inr (.inl r) => r
  | .inr (.inr met) => (l, met)
end Go.Ab.Tryz
namespace Go.Ab.Tryz
open Go Go.Ab Go.Proofs Go.Lib
set_option linter.unusedVariables false
set_option linter.unusedSimpArgs false
def inP (a b : Int) (p : Pair) : Bool := upto a (hplace p.key) b
def rng (l : List Pair) (a b : Int) : List Pair := l.filter (inP a b)
theorem cut8_map {α β : Type} (f : α → β) (xs : List α) : cut8 (xs.map f) = (cut8 xs).map (List.map f) := by
  unfold cut8
  rw [List.length_map, List.map_map]
  apply List.map_congr_left
  intro k _
  simp
theorem xcut_eq {l : List Pair} (hl : l.length ≤ 1000000) : xcut ePair 78 l = some (cut8 l) := by
  refine ask_of ?_
  show (if (l.map ePair).length ≤ 1000000 then some ((cut8 (l.map ePair)).map (AV.lit 78 false)) else none) = _
  rw [if_pos (by rw [List.length_map]; exact hl), cut8_map, List.map_map]
  rfl
theorem cut8_le {l : List Pair} {c : List Pair} (hc : c ∈ cut8 l) : c.length ≤ 8 := by
  unfold cut8 at hc
  obtain ⟨k, _, rfl⟩ := List.mem_map.1 hc
  rw [List.length_take]; omega
theorem cut8_len (l : List Pair) : (cut8 l).length = (l.length + 7) / 8 := by
  unfold cut8; rw [List.length_map, List.length_range]
def large (l : List Pair) : Bool := decide (100 < l.length) || !allI (fun _ p => decide (p.key.size ≤ 300) && decide (p.val.size ≤ 700)) 0 l
theorem large_eq (l : List Pair) : w29_Large l = some (large l) := w29_Large_r (by
  rw [w29_Large_b, xlen_eq]
  unfold large
  by_cases h1 : 100 < l.length
  · rw [iltT (by omega), decide_eq_true h1]; rfl
  · have h := all_list ePair (l := l) (by omega) (p := fun _ p => decide (p.key.size ≤ 300) && decide (p.val.size ≤ 700)) (L := fun i => w29_Large_l0 l i)
      (fun h => w29_Large_l0_r (by simp [w29_Large_l0_b, h]))
      (fun n x r hx h1 h2 hp h => w29_Large_l0_r (by
        rw [Bool.and_eq_true, decide_eq_true_eq, decide_eq_true_eq] at hp
        rw [w29_Large_l0_b, h1, h2, cond_true, Option.bind_some, slen_nat, slen_nat, iltF (by omega), iltF (by omega)]; exact h))
      (fun n x hx h1 h2 hp => w29_Large_l0_r (by
        rw [Bool.and_eq_false_iff, decide_eq_false_iff_not, decide_eq_false_iff_not] at hp
        rw [w29_Large_l0_b, h1, h2, cond_true, Option.bind_some, slen_nat, slen_nat]
        rcases hp with hp | hp
        · rw [iltT (by omega)]; rfl
        · by_cases h3 : 300 < x.key.size
          · rw [iltT (by omega)]; rfl
          · rw [iltF (by omega), cond_false, iltT (by omega)]; rfl))
    rw [h, Option.bind_some, iltF (by omega), decide_eq_false h1, cond_false, Bool.false_or]
    cases allI (fun _ p => decide (p.key.size ≤ 300) && decide (p.val.size ≤ 700)) 0 l <;> rfl)
theorem large_not {l : List Pair} (h : large l = false) : l.length ≤ 100 ∧ Keys l := by
  unfold large at h
  rw [Bool.or_eq_false_iff, decide_eq_false_iff_not, Bool.not_eq_false'] at h
  refine ⟨by omega, fun p hp => ?_⟩
  obtain ⟨i, hi⟩ := List.getElem?_of_mem hp
  have := allI_iff.1 h.2 i p hi
  rw [Bool.and_eq_true, decide_eq_true_eq] at this
  omega
end Go.Ab.Tryz
namespace Go.Ab.Tryz
open Go Go.Ab Go.Proofs Go.Lib
set_option linter.unusedVariables false
set_option linter.unusedSimpArgs false
theorem kcases (k : Int) : (k < 1 ∨ 12 < k) ∨ k = 1 ∨ k = 2 ∨ k = 3 ∨ k = 4 ∨ k = 5 ∨ k = 6 ∨ k = 7 ∨ k = 8 ∨ k = 9 ∨ k = 10 ∨ k = 11 ∨ k = 12 := by omega
def kinds0 : List Msg_kind := [⟨⟨#[63]⟩, 0, []⟩, ⟨⟨#[102, 105, 110, 100]⟩, 4, [2, 12]⟩, ⟨⟨#[104, 111, 112]⟩, 18, []⟩, ⟨⟨#[97, 115, 107]⟩, 0, [4]⟩, ⟨⟨#[116, 101, 108, 108]⟩, 282, []⟩, ⟨⟨#[110, 111, 116, 101]⟩, 8, [6]⟩, ⟨⟨#[111, 107, 97, 121]⟩, 0, []⟩, ⟨⟨#[112, 117, 116]⟩, 96, [6, 12]⟩, ⟨⟨#[103, 101, 116]⟩, 32, [9, 12]⟩, ⟨⟨#[103, 111, 116]⟩, 322, []⟩, ⟨⟨#[109, 111, 118, 101]⟩, 130, [6]⟩, ⟨⟨#[112, 105, 110, 103]⟩, 0, [6]⟩, ⟨⟨#[110, 97, 121]⟩, 1, []⟩]
def kindOf (k : Int) : Msg_kind := kinds0[(if 1 ≤ k ∧ k ≤ 12 then k.toNat else 0)]?.getD ⟨⟨#[63]⟩, 0, []⟩
theorem kindOf_no {k : Int} (h : k < 1 ∨ 12 < k) : kindOf k = ⟨⟨#[63]⟩, 0, []⟩ := by
  unfold kindOf
  rw [if_neg (by omega)] <;> rfl
theorem msg_kinds_eq : msg_kinds = some kinds0 := msg_kinds_r rfl
theorem msg_of_eq (k : Int) : msg_of k = some (kindOf k) := msg_of_r (by
  have hx : ∀ (n : Nat) (x : Msg_kind), kinds0[n]? = some x → xget eMsg_kind kinds0 (n : Int) = some x := fun n x h => by rw [xget_nat, h]
  have hlen : xlen eMsg_kind kinds0 = 13 := by rw [xlen_eq] <;> rfl
  simp only [msg_of_b, msg_kinds_eq, Option.bind_some, hlen, ilt_dec, ile_dec, bif_dec]
  rcases kcases k with h | h
  · rw [kindOf_no h]
    have h0 := hx 0 _ rfl
    simp only [Int.natCast_zero, Int.cast_ofNat_Int] at h0
    split
    · rw [h0] <;> rfl
    · split
      · rw [h0] <;> rfl
      · have : k = 0 := by omega
        subst this; rw [h0] <;> rfl
  · rcases h with rfl | rfl | rfl | rfl | rfl | rfl | rfl | rfl | rfl | rfl | rfl | rfl
    · exact (congrArg (·.bind some) (hx 1 _ rfl))
    · exact (congrArg (·.bind some) (hx 2 _ rfl))
    · exact (congrArg (·.bind some) (hx 3 _ rfl))
    · exact (congrArg (·.bind some) (hx 4 _ rfl))
    · exact (congrArg (·.bind some) (hx 5 _ rfl))
    · exact (congrArg (·.bind some) (hx 6 _ rfl))
    · exact (congrArg (·.bind some) (hx 7 _ rfl))
    · exact (congrArg (·.bind some) (hx 8 _ rfl))
    · exact (congrArg (·.bind some) (hx 9 _ rfl))
    · exact (congrArg (·.bind some) (hx 10 _ rfl))
    · exact (congrArg (·.bind some) (hx 11 _ rfl))
    · exact (congrArg (·.bind some) (hx 12 _ rfl)))
def fl (k : Int) (has : Bool) : Int := if k = 1 then 4 else if k = 2 then 18 else if k = 4 then (bif has then 26 else 18) else if k = 5 then 8 else if k = 7 then 96 else if k = 8 then 32 else if k = 9 then (bif has then 66 else 2) else if k = 10 then 130 else if k = 12 then 1 else 0
end Go.Ab.Tryz
namespace Go.Ab.Tryz
open Go Go.Ab Go.Proofs Go.Lib
set_option linter.unusedVariables false
set_option linter.unusedSimpArgs false
structure Fit (m : Msg) : Prop where
  key : m.key.size < 1000000
  val : m.val.size < 1000000
  peers : m.peers.length ≤ 1000
  pairs : m.pairs.length ≤ 1000
  keys : ∀ p, p ∈ m.pairs → p.key.size < 1000000
end Go.Ab.Tryz
namespace Go.Ab.Tryz
open Go Go.Ab Go.Proofs Go.Lib
set_option linter.unusedVariables false
set_option linter.unusedSimpArgs false
theorem eta2 {α β : Type} {x : Option (α × β)} {p : α × β} (h : x = some p) : x = some (p.1, p.2) := h
structure Sz (n : Node) : Prop where
  pred : n.pred.length ≤ 1000
  list : n.list.length ≤ 1000
  fingers : n.fingers.length ≤ 1000
  store : n.store.length ≤ 200
  pends : n.pends.length ≤ 1000
  jobs : n.jobs.length ≤ 1000
  results : n.results.length ≤ 1000
theorem pend_Copy_eq {n : Node} (h : Sz n) : pend_Copy n = some (n.me.id, n.me.addr, n.clock, n.joined, n.pred, n.list, n.fingers, n.store, n.pends, n.jobs, n.results, n.rid, n.jobID, n.nextBit) := pend_Copy_r (by
  obtain ⟨h1, h2, h3, h4, h5, h6, h7⟩ := h
  rw [pend_Copy_b, xroom_eq eEntry (by simp; omega) (by omega), xroom_eq eEntry (by simp; omega) (by omega), xroom_eq eFinger (by simp; omega) (by omega), xroom_eq ePair (by simp; omega) (by omega), xroom_eq ePend (by simp; omega) (by omega), xroom_eq eJob (by simp; omega) (by omega), xroom_eq eResult (by simp; omega) (by omega)]
  rfl)
def now (n : Node) : Int := if 0 ≤ n.clock ∧ n.clock ≤ 1099511627776 then n.clock else 0
theorem now_both (n : Node) : pend_Now n = some (now n) ∧ r30_Now n = some (now n) := by
  unfold now
  constructor
  · refine pend_Now_r ?_
    simp only [pend_Now_b, ilt_dec, bif_dec]
    (repeat' split) <;> first | rfl | (exfalso; omega)
  · refine r30_Now_r ?_
    simp only [r30_Now_b, ilt_dec, ile_dec, bif_dec]
    (repeat' split) <;> first | rfl | (exfalso; omega) | (congr 1; omega)
theorem msg_Copy_eq {m : Msg} (hp : m.peers.length ≤ 1000000) (hq : m.pairs.length ≤ 1000000) : msg_Copy m = some m := msg_Copy_r (by
  rw [msg_Copy_b, xroom_eq ePeer (by simpa using hp) (by omega), xroom_eq ePair (by simpa using hq) (by omega)]
  rfl)
def askN (n : Node) (to_ : Peer) (m : Msg) (why job : Int) : Node × List Out :=
  if 63 < n.pends.length then (n, []) else
  (⟨n.me, n.clock, n.joined, n.pred, n.list, n.fingers, n.store, n.pends ++ [⟨Ops.std.iadd .u32 n.rid 1, m.kind, why, job, to_, Ops.std.iadd .i64 (now n) 8⟩], n.jobs, n.results, Ops.std.iadd .u32 n.rid 1, n.jobID, n.nextBit⟩,
    [⟨to_, ⟨m.kind, Ops.std.iadd .u32 n.rid 1, m.code, m.has, m.id, m.key, m.val, m.peer, m.peers, m.pairs⟩⟩])
theorem pend_Ask_eq {n : Node} {to_ : Peer} {m : Msg} {why job : Int} (h : Sz n) (hp : m.peers.length ≤ 1000000) (hq : m.pairs.length ≤ 1000000) : pend_Ask n to_ m why job = some (askN n to_ m why job) := pend_Ask_r (by
  have h5 := h.pends
  rw [pend_Ask_b, pend_Copy_eq h, Option.bind_some]
  dsimp only
  rw [xlen_eq, ile_dec, bif_dec, askN]
  by_cases hc : 63 < n.pends.length
  · rw [if_pos (by omega), if_pos hc]
  · rw [if_neg (by omega), if_neg hc, msg_Copy_eq hp hq, Option.bind_some, (now_both _).1, Option.bind_some, xroom_eq ePend (by simp; omega) (by omega)]
    rfl)
theorem askN_sz {n : Node} {to_ : Peer} {m : Msg} {why job : Int} (h : Sz n) : Sz (askN n to_ m why job).1 ∧ (askN n to_ m why job).2.length ≤ 1 := by
  unfold askN
  split
  · exact ⟨h, by simp⟩
  · exact ⟨⟨h.pred, h.list, h.fingers, h.store, by simp; omega, h.jobs, h.results⟩, by simp⟩
def moveM (fresh : Bool) (c : List Pair) : Msg := ⟨10, 0, 0, fresh, 0, ⟨#[]⟩, ⟨#[]⟩, ⟨0, 0⟩, [], c⟩
def handN (to_ : Peer) (fresh : Bool) : List (List Pair) → Node → Node × List Out
  | [], n => (n, [])
  | c :: cs, n => ((handN to_ fresh cs (askN n to_ (moveM fresh c) 6 0).1).1, (askN n to_ (moveM fresh c) 6 0).2 ++ (handN to_ fresh cs (askN n to_ (moveM fresh c) 6 0).1).2)
theorem handN_sz (to_ : Peer) (fresh : Bool) : ∀ (cs : List (List Pair)) {n : Node}, Sz n → Sz (handN to_ fresh cs n).1 ∧ (handN to_ fresh cs n).2.length ≤ cs.length
  | [], n, h => ⟨h, by simp [handN]⟩
  | c :: cs, n, h => by
    obtain ⟨h1, h2⟩ := askN_sz (to_ := to_) (m := moveM fresh c) (why := 6) (job := 0) h
    obtain ⟨h3, h4⟩ := handN_sz to_ fresh cs h1
    refine ⟨h3, ?_⟩
    simp only [handN, List.length_append, List.length_cons]
    omega
def hand (n : Node) (to_ : Peer) (l : List Pair) (fresh : Bool) : Node × List Out := handN to_ fresh (cut8 l) n
theorem xcut_eq' {l : List Pair} (hl : l.length ≤ 1000000) : xcut ePair 78 l = some (cut8 l) := xcut_eq hl
theorem serve_Hand_eq {n : Node} {to_ : Peer} {l : List Pair} {fresh : Bool} (h : Sz n) (hl : l.length ≤ 1000) : serve_Hand n to_ l fresh = some (hand n to_ l fresh) := serve_Hand_r (by
  have hc : (cut8 l).length ≤ 1000 := by rw [cut8_len]; omega
  have hcs : ∀ c, c ∈ cut8 l → c.length ≤ 8 := fun c hc => cut8_le hc
  rw [serve_Hand_b, pend_Copy_eq h, Option.bind_some]
  dsimp only
  rw [xcut_eq' (by omega), Option.bind_some]
  have := for_list (σ := Node × List Out) (eL 78 ePair) (l := cut8 l) (by omega) (L := fun i s => serve_Hand_l0 to_ fresh (cut8 l) (xlen (eL 78 ePair) (cut8 l)) i s.1 n.pred n.list n.fingers n.store n.pends n.jobs n.results s.2)
    (res := fun k s rest => ((handN to_ fresh rest s.1).1, n.pred, n.list, n.fingers, n.store, n.pends, n.jobs, n.results, s.2 ++ (handN to_ fresh rest s.1).2)) (Inv := fun k s => Sz s.1 ∧ s.2.length ≤ k)
    (fun s hi h0 => serve_Hand_l0_r (by rw [serve_Hand_l0_b, h0]; simp [handN]))
    (fun k x rest s hi hn hx hd h1 h2 h3 ih => serve_Hand_l0_r (by
      have hx8 := hcs x (List.mem_of_getElem? hx)
      obtain ⟨h4, h5⟩ := askN_sz (to_ := to_) (m := moveM fresh x) (why := 6) (job := 0) hi.1
      have h6 := hi.2
      rw [serve_Hand_l0_b, h1, h2, cond_true, Option.bind_some]
      rw [show (⟨10, 0, 0, fresh, 0, ⟨#[]⟩, ⟨#[]⟩, ⟨0, 0⟩, [], x⟩ : Msg) = moveM fresh x from rfl, eta2 (pend_Ask_eq hi.1 (by simp [moveM]) (by simp [moveM]; omega)), Option.bind_some]
      dsimp only
      rw [xroom_eq eOut (by omega) (by omega), cond_true, h3]
      rw [ih ((askN s.1 to_ (moveM fresh x) 6 0).1, s.2 ++ (askN s.1 to_ (moveM fresh x) 6 0).2) ⟨h4, by simp only [List.length_append]; omega⟩]
      simp only [handN, List.append_assoc])) (n, []) ⟨h, by simp⟩
  dsimp only at this
  have e : (⟨⟨n.me.id, n.me.addr⟩, n.clock, n.joined, n.pred, n.list, n.fingers, n.store, n.pends, n.jobs, n.results, n.rid, n.jobID, n.nextBit⟩ : Node) = n := rfl
  rw [e, this, Option.bind_some]
  simp [hand])
def keepN (key val : ByteArray) : List Peer → Node → Node × List Out
  | [], n => (n, [])
  | p :: ps, n => ((keepN key val ps (hand n p [⟨key, val⟩] true).1).1, (hand n p [⟨key, val⟩] true).2 ++ (keepN key val ps (hand n p [⟨key, val⟩] true).1).2)
def withStore (n : Node) (l : List Pair) : Node := ⟨n.me, n.clock, n.joined, n.pred, n.list, n.fingers, l, n.pends, n.jobs, n.results, n.rid, n.jobID, n.nextBit⟩
def keep' (n : Node) (key val : ByteArray) : Node × List Out × Int :=
  if (put n.store key val).2 = 0 then ((keepN key val ((Pe.firms n.list).take 2) (withStore n (put n.store key val).1)).1, (keepN key val ((Pe.firms n.list).take 2) (withStore n (put n.store key val).1)).2, 0)
  else (n, [], (put n.store key val).2)
theorem hand1_sz {n : Node} {p : Peer} {q : Pair} {fresh : Bool} (h : Sz n) : Sz (hand n p [q] fresh).1 ∧ (hand n p [q] fresh).2.length ≤ 1 := by
  obtain ⟨h1, h2⟩ := handN_sz p fresh (cut8 [q]) h
  exact ⟨h1, Nat.le_trans h2 (by rw [cut8_len]; simp)⟩
theorem keepN_sz (key val : ByteArray) : ∀ (ps : List Peer) {n : Node}, Sz n → Sz (keepN key val ps n).1 ∧ (keepN key val ps n).2.length ≤ ps.length
  | [], n, h => ⟨h, by simp [keepN]⟩
  | p :: ps, n, h => by
    obtain ⟨h1, h2⟩ := hand1_sz (p := p) (q := ⟨key, val⟩) (fresh := true) h
    obtain ⟨h3, h4⟩ := keepN_sz key val ps h1
    refine ⟨h3, ?_⟩
    simp only [keepN, List.length_append, List.length_cons]
    omega
theorem withStore_sz {n : Node} {l : List Pair} (h : Sz n) (hl : l.length ≤ 200) : Sz (withStore n l) := ⟨h.pred, h.list, h.fingers, hl, h.pends, h.jobs, h.results⟩
theorem put_sz {n : Node} (h : Sz n) (key val : ByteArray) : Sz (withStore n (put n.store key val).1) := withStore_sz h (by have := put_len n.store key val; have := h.store; omega)
theorem xsub_takeP (l : List Peer) (n : Nat) (h : n ≤ l.length) : xsub ePeer l 0 (n : Int) = some (l.take n) := by
  rw [xsub_eq, if_pos (by omega)]; simp
theorem serve_Keep_eq {n : Node} {key val : ByteArray} (h : Sz n) (hk : key.size < 1000000) : serve_Keep n key val = some (keep' n key val) := serve_Keep_r (by
  have hs := h.store
  have hf := Pe.firms_le n.list
  have hll := h.list
  have hz := put_sz h key val
  rw [serve_Keep_b, pend_Copy_eq h, Option.bind_some]
  dsimp only
  rw [store_Put_eq (by omega) hk, keep']
  obtain ⟨⟨q, e⟩, hq⟩ : ∃ z, put n.store key val = z := ⟨_, rfl⟩
  rw [hq] at hz ⊢
  rw [Option.bind_some]
  dsimp only at hz ⊢
  by_cases he : e = 0
  · rw [if_pos he, ieqT he, cond_true, (Pe.some_eq hll).1, Option.bind_some]
    have loop : ∀ (ys : List Peer), ys.length ≤ 2 → serve_Keep_l0 key val ys (xlen ePeer ys) 0 (withStore n q) n.pred n.list n.fingers n.store n.pends n.jobs n.results (Pe.firms n.list) [] = some ((keepN key val ys (withStore n q)).1, n.pred, n.list, n.fingers, n.store, n.pends, n.jobs, n.results, Pe.firms n.list, (keepN key val ys (withStore n q)).2) := fun ys hy => by
      have := for_list (σ := Node × List Out) ePeer (l := ys) (by omega) (L := fun i s => serve_Keep_l0 key val ys (xlen ePeer ys) i s.1 n.pred n.list n.fingers n.store n.pends n.jobs n.results (Pe.firms n.list) s.2)
        (res := fun k s rest => ((keepN key val rest s.1).1, n.pred, n.list, n.fingers, n.store, n.pends, n.jobs, n.results, Pe.firms n.list, s.2 ++ (keepN key val rest s.1).2)) (Inv := fun k s => Sz s.1 ∧ s.2.length ≤ k)
        (fun s hi h0 => serve_Keep_l0_r (by rw [serve_Keep_l0_b, h0]; simp [keepN]))
        (fun k x rest s hi hn hx hd h1 h2 h3 ih => serve_Keep_l0_r (by
          obtain ⟨h4, h5⟩ := hand1_sz (p := x) (q := ⟨key, val⟩) (fresh := true) hi.1
          have h6 := hi.2
          rw [serve_Keep_l0_b, h1, h2, cond_true, Option.bind_some, eta2 (serve_Hand_eq hi.1 (by simp)), Option.bind_some]
          dsimp only
          rw [xroom_eq eOut (by omega) (by omega), cond_true, h3]
          rw [ih ((hand s.1 x [⟨key, val⟩] true).1, s.2 ++ (hand s.1 x [⟨key, val⟩] true).2) ⟨h4, by simp only [List.length_append]; omega⟩]
          simp only [keepN, List.append_assoc])) (withStore n q, []) ⟨hz, by simp⟩
      simpa using this
    have e0 : (⟨⟨n.me.id, n.me.addr⟩, n.clock, n.joined, n.pred, n.list, n.fingers, q, n.pends, n.jobs, n.results, n.rid, n.jobID, n.nextBit⟩ : Node) = withStore n q := rfl
    rw [e0, xlen_eq, ilt_dec, bif_dec]
    by_cases h2 : 2 < (Pe.firms n.list).length
    · rw [if_pos (by omega), show (2 : Int) = ((2 : Nat) : Int) from rfl, xsub_takeP _ 2 (by omega), Option.bind_some, loop _ (by rw [List.length_take]; omega), Option.bind_some]
    · rw [if_neg (by omega), xsub_takeP _ _ (Nat.le_refl _), Option.bind_some, List.take_length, loop _ (by omega), Option.bind_some, List.take_of_length_le (by omega)]
  · rw [if_neg he, ieqF he, cond_false])
theorem keep_sz {n : Node} {key val : ByteArray} (h : Sz n) : Sz (keep' n key val).1 ∧ (keep' n key val).2.1.length ≤ 2 := by
  unfold keep'
  split
  · obtain ⟨h1, h2⟩ := keepN_sz key val ((Pe.firms n.list).take 2) (put_sz h key val)
    exact ⟨h1, Nat.le_trans h2 (by rw [List.length_take]; omega)⟩
  · exact ⟨h, by simp⟩
theorem beq_self (a : Bool) : Ops.std.beq a a = true := by cases a <;> rfl
theorem r28_Same_self {l : List Finger} (hl : l.length ≤ 1000) : r28_Same l l = some true := r28_Same_r (by
  have := for_list (σ := Unit) eFinger (l := l) (by omega) (L := fun i _ => r28_Same_l0 l l i) (res := fun _ _ _ => .inr ()) (Inv := fun _ _ => True)
    (fun _ _ h => r28_Same_l0_r (by rw [r28_Same_l0_b, h]; rfl))
    (fun n x rest s _ hn hx hd h1 h2 h3 ih => r28_Same_l0_r (by
      simp only [r28_Same_l0_b, h1, h2, cond_true, Option.bind_some, ieqT, h3]; exact ih () trivial)) () trivial
  rw [r28_Same_b, ieqT rfl, cond_true, this]; rfl)
theorem r30_Pends_self {l : List Pend} (hl : l.length ≤ 1000) : r30_Pends l l = some true := r30_Pends_r (by
  have := for_list (σ := Unit) ePend (l := l) (by omega) (L := fun i _ => r30_Pends_l0 l l i) (res := fun _ _ _ => .inr ()) (Inv := fun _ _ => True)
    (fun _ _ h => r30_Pends_l0_r (by rw [r30_Pends_l0_b, h]; rfl))
    (fun n x rest s _ hn hx hd h1 h2 h3 ih => r30_Pends_l0_r (by
      simp only [r30_Pends_l0_b, h1, h2, cond_true, Option.bind_some, ieqT, h3]; exact ih () trivial)) () trivial
  rw [r30_Pends_b, ieqT rfl, cond_true, this]; rfl)
theorem r30_jobs_self {n : Node} (hj : n.jobs.length ≤ 1000) (hr : n.results.length ≤ 1000) : r30_jobs n n = some true := r30_jobs_r (by
  have e0 := for_list (σ := Unit) eJob (l := n.jobs) (by omega) (L := fun i _ => r30_jobs_l0 n n i) (res := fun _ _ _ => .inr ()) (Inv := fun _ _ => True)
    (fun _ _ h => r30_jobs_l0_r (by rw [r30_jobs_l0_b, h]; rfl))
    (fun k x rest s _ hn hx hd h1 h2 h3 ih => r30_jobs_l0_r (by
      simp only [r30_jobs_l0_b, h1, h2, cond_true, Option.bind_some, ieqT, seq_self, beq_self, h3]; exact ih () trivial)) () trivial
  have e1 := for_list (σ := Unit) eResult (l := n.results) (by omega) (L := fun i _ => r30_jobs_l1 n n i) (res := fun _ _ _ => .inr ()) (Inv := fun _ _ => True)
    (fun _ _ h => r30_jobs_l1_r (by rw [r30_jobs_l1_b, h]; rfl))
    (fun k x rest s _ hn hx hd h1 h2 h3 ih => r30_jobs_l1_r (by
      simp only [r30_jobs_l1_b, h1, h2, cond_true, Option.bind_some, ieqT, seq_self, beq_self, h3]; exact ih () trivial)) () trivial
  rw [r30_jobs_b, ieqT rfl, ieqT rfl, cond_true, cond_true]
  refine r30_jobs_s2_r ?_
  rw [r30_jobs_s2_b, e0, Option.bind_some]
  dsimp only
  rw [e1]; rfl)
theorem r30_Same_self {n : Node} (h : Sz n) : r30_Same n n = some true := r30_Same_r (by
  have h1 : r30_Same_s0 n n = some true := r30_Same_s0_r (by
    rw [r30_Same_s0_b, r08_Pairs_eq (by have := h.store; omega), Option.bind_some, eqb_self, cond_true, r30_Pends_self h.pends, Option.bind_some, cond_true, r30_jobs_self h.jobs h.results])
  have h2 : r30_Same_s1 n n = some true := r30_Same_s1_r (by
    rw [r30_Same_s1_b, Pe.r27_Same_eq h.pred, Option.bind_some, eqb_self, cond_true, Pe.r27_Same_eq h.list, Option.bind_some, eqb_self, cond_true, r28_Same_self h.fingers, Option.bind_some, cond_true, h1])
  simp only [r30_Same_b, ieqT, beq_self, cond_true, h2])
end Go.Ab.Tryz
namespace Go.Ab.Tryz
open Go Go.Ab Go.Proofs Go.Lib
open Pe (dist PeOk)
set_option linter.unusedVariables false
set_option linter.unusedSimpArgs false
def btw (a x b : Int) : Bool := decide (x ≠ a) && (decide (a = b) || decide (dist a x < dist a b))
theorem ring_Between_eq (a x b : Int) : ring_Between a x b = some (btw a x b) := ring_Between_r (by
  simp only [ring_Between_b, Pe.ring_Dist_eq, Option.bind_some, ieq_dec, ilt_dec, bif_dec, btw]
  by_cases h1 : x = a <;> by_cases h2 : a = b <;> simp [h1, h2]
  all_goals (by_cases h3 : x = b <;> simp [h3]))
theorem r03_Between_eq {a x b : Int} (ha : 0 ≤ a ∧ a < 18446744073709551616) (hx : 0 ≤ x ∧ x < 18446744073709551616) (hb : 0 ≤ b ∧ b < 18446744073709551616) : r03_Between a x b = some (btw a x b) := r03_Between_r (by
  simp only [r03_Between_b, r03_Upto_eq ha hx hb, ieq_dec, bif_dec, btw, upto, dist]
  by_cases h1 : a = b
  · subst h1; simp
  · by_cases h2 : x = b
    · subst h2; simp [h1]
    · simp [h1, h2]
      first | done | rfl | (congr 1; exact decide_eq_decide.2 Iff.rfl) | (congr 2))
def hLe (me : Peer) (x y : Peer) : Bool := !hopLt me.id (y.id, y.addr) (x.id, x.addr)
theorem hLe_iff {me x y : Peer} : hLe me x y = true ↔ dist me.id y.id < dist me.id x.id ∨ (dist me.id x.id = dist me.id y.id ∧ x.addr ≤ y.addr) := by
  simp only [hLe, hopLt, dist, Bool.not_eq_true', Bool.or_eq_false_iff, Bool.and_eq_false_iff, decide_eq_false_iff_not]
  omega
def hSort (me : Peer) (l : List Peer) : List Peer := l.mergeSort (hLe me)
theorem peers_av : ∀ {l : List Peer}, (∀ p, p ∈ l → PeOk p) → avPeers (l.map ePeer) = some (l.map fun p => (p.id, p.addr))
  | [], _ => rfl
  | p :: l, h => by
    have hp := h p (by simp)
    have ih := peers_av (l := l) fun q hq => h q (by simp [hq])
    have e : avPeer (ePeer p) = some (p.id, p.addr) := by
      show (if 0 ≤ p.id ∧ p.id < 18446744073709551616 then some (p.id, p.addr) else none) = _
      exact if_pos hp
    simp only [List.map_cons, avPeers, e, ih]
theorem xsrt_eq {me : Peer} {l : List Peer} (hl : l.length ≤ 1000000) (ho : ∀ p, p ∈ l → PeOk p) : xsrt ePeer me.id l = some (hSort me l) := by
  refine ask_of ?_
  show (match avPeers (l.map ePeer) with
    | some l => if l.length ≤ 1000000 then some ((hopSort me.id l).map peerAV) else none
    | none => none) = _
  rw [peers_av ho]
  simp only [List.length_map, hl, if_true]
  congr 1
  have hm : (l.mergeSort (hLe me)).map (fun p => (p.id, p.addr)) = (l.map fun p => (p.id, p.addr)).mergeSort fun x y => !hopLt me.id y x := List.map_mergeSort (fun a _ b _ => rfl)
  rw [hopSort, ← hm, List.map_map]
  rfl
def bef (me y p : Peer) : Bool := decide (dist me.id p.id < dist me.id y.id) || (decide (dist me.id y.id = dist me.id p.id) && decide (y.addr < p.addr))
def posH (me p : Peer) : List Peer → Nat
  | [] => 0
  | y :: r => if bef me y p = true then posH me p r + 1 else 0
def insH (me p : Peer) : List Peer → List Peer
  | [] => [p]
  | y :: r => if bef me y p = true then y :: insH me p r else p :: y :: r
theorem posH_le (me p : Peer) : ∀ l, posH me p l ≤ l.length
  | [] => Nat.le_refl _
  | y :: r => by
    have := posH_le me p r
    simp only [posH]; split <;> simp <;> omega
theorem insH_split (me p : Peer) : ∀ l, l.take (posH me p l) ++ [p] ++ l.drop (posH me p l) = insH me p l
  | [] => rfl
  | y :: r => by
    have ih := insH_split me p r
    simp only [posH, insH]
    split
    · simp only [List.take_succ_cons, List.drop_succ_cons, List.cons_append, ih]
    · rfl
theorem insH_perm (me p : Peer) : ∀ l, (insH me p l).Perm (p :: l)
  | [] => List.Perm.refl _
  | y :: r => by
    simp only [insH]
    split
    · exact ((insH_perm me p r).cons y).trans (List.Perm.swap p y r)
    · exact List.Perm.refl _
theorem insH_sorted (me p : Peer) : ∀ {l}, l.Pairwise (fun a b => hLe me a b = true) → (insH me p l).Pairwise (fun a b => hLe me a b = true)
  | [], _ => by simp [insH]
  | y :: r, h => by
    rw [List.pairwise_cons] at h
    simp only [insH]
    split
    · rename_i hb
      refine List.pairwise_cons.2 ⟨fun z hz => ?_, insH_sorted me p h.2⟩
      rcases List.mem_cons.1 ((insH_perm me p r).mem_iff.1 hz) with rfl | hz
      · rw [hLe_iff]
        simp only [bef, Bool.or_eq_true, Bool.and_eq_true, decide_eq_true_eq] at hb
        omega
      · exact h.1 z hz
    · rename_i hb
      have hpy : hLe me p y = true := by
        rw [hLe_iff]
        simp only [bef, Bool.or_eq_true, Bool.and_eq_true, decide_eq_true_eq] at hb
        omega
      refine List.pairwise_cons.2 ⟨fun z hz => ?_, List.pairwise_cons.2 h⟩
      rcases List.mem_cons.1 hz with rfl | hz
      · exact hpy
      · have := h.1 z hz
        rw [hLe_iff] at *
        omega
def insAll (me : Peer) (out cs : List Peer) : List Peer := cs.foldl (fun o p => insH me p o) out
theorem insAll_props (me : Peer) : ∀ (cs : List Peer) {out : List Peer}, out.Pairwise (fun a b => hLe me a b = true) → (insAll me out cs).Pairwise (fun a b => hLe me a b = true) ∧ (insAll me out cs).Perm (out ++ cs)
  | [], out, h => ⟨h, by simp [insAll]⟩
  | p :: cs, out, h => by
    obtain ⟨h1, h2⟩ := insAll_props me cs (insH_sorted me p h)
    refine ⟨h1, h2.trans ?_⟩
    exact ((insH_perm me p out).append_right cs).trans ((List.perm_middle (l₁ := out) (l₂ := cs) (a := p)).symm)
theorem sorted_one {me : Peer} (hm : PeOk me) {l : List Peer} (ho : ∀ p, p ∈ l → PeOk p) : insAll me [] l = hSort me l := by
  obtain ⟨h1, h2⟩ := insAll_props me l (out := []) List.Pairwise.nil
  rw [List.nil_append] at h2
  have h3 : (hSort me l).Pairwise (fun a b => hLe me a b = true) := List.pairwise_mergeSort (fun a b c hab hbc => by rw [hLe_iff] at *; omega) (fun a b => by
    rw [Bool.or_eq_true, hLe_iff, hLe_iff]; omega) l
  have h4 : (hSort me l).Perm l := List.mergeSort_perm l (hLe me)
  refine List.Perm.eq_of_pairwise (le := fun a b => hLe me a b = true) (fun a b ha hb hab hba => ?_) h1 h3 (h2.trans h4.symm)
  have oa := ho a (h2.mem_iff.1 ha)
  have ob := ho b (h4.mem_iff.1 hb)
  rw [hLe_iff] at hab hba
  have e1 : dist me.id a.id = dist me.id b.id := by omega
  have e2 : a.addr = b.addr := by omega
  have e3 : a.id = b.id := by
    simp only [dist, PeOk] at *
    omega
  obtain ⟨ai, aa⟩ := a
  obtain ⟨bi, ba⟩ := b
  simp only at e2 e3
  rw [e2, e3]
def has (l : List Peer) (a : Int) : Bool := l.any fun q => decide (q.addr = a)
def filt (me : Peer) (key : Int) : List Peer → List Peer → List Peer
  | _, [] => []
  | pre, p :: r => if has pre p.addr = false ∧ p.addr ≠ me.addr ∧ btw me.id p.id key = true then p :: filt me key (pre ++ [p]) r else filt me key (pre ++ [p]) r
def candR (me : Peer) (key : Int) : List Peer → List Peer → List Peer
  | _, [] => []
  | met, p :: r => if has met p.addr = true ∨ p.addr = me.addr then candR me key met r else if btw me.id p.id key = true then p :: candR me key (met ++ [p]) r else candR me key (met ++ [p]) r
def metR (me : Peer) : List Peer → List Peer → List Peer
  | met, [] => met
  | met, p :: r => if has met p.addr = true ∨ p.addr = me.addr then metR me met r else metR me (met ++ [p]) r
theorem has_app (l : List Peer) (p : Peer) (a : Int) : has (l ++ [p]) a = (has l a || decide (p.addr = a)) := by simp [has]
theorem cand_filt (me : Peer) (key : Int) : ∀ (l met pre : List Peer), (∀ a, a ≠ me.addr → has met a = has pre a) → candR me key met l = filt me key pre l
  | [], _, _, _ => rfl
  | p :: r, met, pre, h => by
    simp only [candR, filt]
    by_cases hm : p.addr = me.addr
    · rw [if_pos (.inr hm), if_neg (fun h => h.2.1 hm)]
      refine cand_filt me key r met _ fun a ha => ?_
      rw [has_app, h a ha]
      have : decide (p.addr = a) = false := by rw [decide_eq_false_iff_not]; omega
      rw [this, Bool.or_false]
    · have hp := h p.addr hm
      cases hh : has pre p.addr with
      | true =>
        rw [if_pos (.inl (hp.trans hh)), if_neg (fun h => by cases h.1)]
        refine cand_filt me key r met _ fun a ha => ?_
        rw [has_app, h a ha]
        by_cases hpa : p.addr = a
        · rw [← hpa, hh]; rfl
        · rw [decide_eq_false hpa, Bool.or_false]
      | false =>
        have ih := cand_filt me key r (met ++ [p]) (pre ++ [p]) fun a ha => by rw [has_app, has_app, h a ha]
        rw [if_neg (fun h2 => by rcases h2 with h2 | h2; rw [hp, hh] at h2; cases h2; exact hm h2)]
        by_cases hb : btw me.id p.id key = true
        · rw [if_pos hb, if_pos ⟨rfl, hm, hb⟩, ih]
        · rw [if_neg hb, if_neg (fun h => hb h.2.2), ih]
theorem filt_sub (me : Peer) (key : Int) : ∀ (l pre : List Peer) (p : Peer), p ∈ filt me key pre l → p ∈ l
  | [], _, _, h => by cases h
  | q :: r, pre, p, h => by
    simp only [filt] at h
    split at h
    · rcases List.mem_cons.1 h with rfl | h
      · simp
      · exact List.mem_cons_of_mem _ (filt_sub me key r _ p h)
    · exact List.mem_cons_of_mem _ (filt_sub me key r _ p h)
theorem filt_len (me : Peer) (key : Int) : ∀ (l pre : List Peer), (filt me key pre l).length ≤ l.length
  | [], _ => Nat.le_refl _
  | q :: r, pre => by
    have := filt_len me key r (pre ++ [q])
    simp only [filt]; split <;> simp <;> omega
theorem first_iff {all : List Peer} {n : Nat} {x : Peer} (hx : all[n]? = some x) : fstI (fun q => decide (q.addr = x.addr)) all = (n : Int) ↔ has (all.take n) x.addr = false := by
  have hxm := List.mem_of_getElem? hx
  obtain ⟨k, hk⟩ := fst_ex (p := fun q : Peer => decide (q.addr = x.addr)) (l := all) ⟨x, hxm, by simp⟩
  obtain ⟨y, hy, hpy, hkl, hbe⟩ := fst_some hk
  have e : fstI (fun q : Peer => decide (q.addr = x.addr)) all = (k : Int) := by unfold fstI; rw [hk]
  rw [e]
  constructor
  · intro hkn
    have hkn : k = n := by omega
    subst hkn
    rw [has, List.any_eq_false]
    intro q hq
    obtain ⟨i, hi⟩ := List.mem_iff_getElem?.1 hq
    rw [List.getElem?_take] at hi
    split at hi
    · rename_i hlt
      have := hbe i q hlt hi
      simpa using this
    · cases hi
  · intro hh
    rw [has, List.any_eq_false] at hh
    rcases Nat.lt_trichotomy k n with h1 | h1 | h1
    · exfalso
      have hyt : y ∈ all.take n := List.mem_iff_getElem?.2 ⟨k, by rw [List.getElem?_take, if_pos h1]; exact hy⟩
      exact hh y hyt hpy
    · omega
    · exfalso
      have := hbe n x h1 hx
      simp at this
theorem IndexFunc_addr {l : List Peer} {id addr : Int} (hl : l.length ≤ 10000) : IndexFunc_Peer l id addr = some (fstI (fun q => decide (q.addr = addr)) l) := IndexFunc_Peer_r (by
  have hf : ∀ x : Peer, fings_Hops_1 x id addr = some (decide (x.addr = addr)) := fun x => fings_Hops_1_r rfl
  have := find_list ePeer (l := l) (by omega) (p := fun q => decide (q.addr = addr)) (L := fun i => IndexFunc_Peer_l0 l id addr i) (fun h => IndexFunc_Peer_l0_r (by simp [IndexFunc_Peer_l0_b, h]))
    (fun n x _ h1 h2 hp => IndexFunc_Peer_l0_r (by simp [IndexFunc_Peer_l0_b, h1, h2, hf, hp]))
    (fun n x r _ h1 h2 hp h => IndexFunc_Peer_l0_r (by simp [IndexFunc_Peer_l0_b, h1, h2, hf, hp, h]))
  rw [IndexFunc_Peer_b, this]
  unfold fstI
  cases fst (fun q : Peer => decide (q.addr = addr)) l <;> rfl)
def allP (l : List Entry) (f : List Finger) : List Peer := Pe.firms l ++ f.map Finger.peer
def hops (me : Peer) (l : List Entry) (f : List Finger) (key most : Int) : List Peer := (hSort me (filt me key [] (allP l f))).take most.toNat
theorem hSort_len (me : Peer) (l : List Peer) : (hSort me l).length = l.length := List.length_mergeSort ..
theorem fings_Hops_eq {me : Peer} {l : List Entry} {f : List Finger} {key most : Int} (hl : l.length ≤ 1000) (hf : f.length ≤ 1000) (ho : ∀ p, p ∈ allP l f → PeOk p) (hmost : most < 1000) : fings_Hops me l f key most = some (hops me l f key most) := fings_Hops_r (by
  have hfl := Pe.firms_le l
  rw [fings_Hops_b, (Pe.some_eq hl).1, Option.bind_some]
  have e0 := for_list (σ := List Peer) eFinger (l := f) (by omega) (L := fun i s => fings_Hops_l0 me f key most i s) (res := fun _ s rest => s ++ rest.map Finger.peer) (Inv := fun n s => s.length ≤ (Pe.firms l).length + n)
    (fun s _ h => fings_Hops_l0_r (by rw [fings_Hops_l0_b, h]; simp))
    (fun n x rest s hi hn hx hd h1 h2 h3 ih => fings_Hops_l0_r (by
      rw [fings_Hops_l0_b, h1, h2, cond_true, Option.bind_some, xroom_eq ePeer (by simp; omega) (by omega), cond_true, h3, ih _ (by simp; omega)]
      simp)) (Pe.firms l) (by omega)
  rw [e0, Option.bind_some]
  show ((fings_Hops_l1 me key most (allP l f) (xlen ePeer (allP l f)) 0 (allP l f) []).bind _) = _
  have hal : (allP l f).length ≤ 2000 := by simp only [allP, List.length_append, List.length_map]; omega
  have e1 := for_list (σ := List Peer) ePeer (l := allP l f) (by omega) (L := fun i s => fings_Hops_l1 me key most (allP l f) (xlen ePeer (allP l f)) i (allP l f) s)
    (res := fun n s rest => (allP l f, s ++ filt me key ((allP l f).take n) rest)) (Inv := fun n s => s.length ≤ n)
    (fun s _ h => fings_Hops_l1_r (by rw [fings_Hops_l1_b, h]; simp [filt]))
    (fun n x rest s hi hn hx hd h1 h2 h3 ih => fings_Hops_l1_r (by
      have ht : (allP l f).take (n + 1) = (allP l f).take n ++ [x] := by rw [List.take_add_one, hx]; rfl
      rw [fings_Hops_l1_b, h1, h2, cond_true, Option.bind_some, IndexFunc_addr (by omega), Option.bind_some, h3, ieq_dec, bif_dec]
      have hfi := first_iff hx
      simp only [filt]
      by_cases c1 : has ((allP l f).take n) x.addr = false
      · rw [if_pos (hfi.2 c1), ieq_dec, bif_dec]
        by_cases c2 : x.addr = me.addr
        · rw [if_pos c2, if_neg (fun h => h.2.1 c2), ih s (by omega), ht]
        · rw [if_neg c2, ring_Between_eq, Option.bind_some]
          cases c3 : btw me.id x.id key with
          | true =>
            rw [cond_true, xroom_eq ePeer (by simp; omega) (by omega), cond_true, if_pos ⟨c1, c2, rfl⟩, ih _ (by simp; omega), ht]
            simp
          | false =>
            rw [cond_false, if_neg (fun h => by cases h.2.2), ih s (by omega), ht]
      · rw [if_neg (fun h => c1 (hfi.1 h)), if_neg (fun h => c1 h.1), ih s (by omega), ht])) [] (by simp)
  rw [e1, Option.bind_some]
  dsimp only
  rw [List.nil_append, List.take_zero]
  have hfo : ∀ p, p ∈ filt me key [] (allP l f) → PeOk p := fun p hp => ho p (filt_sub me key _ _ p hp)
  have hfl2 := filt_len me key (allP l f) []
  rw [xsrt_eq (by omega) hfo, Option.bind_some, hops]
  have hsl := hSort_len me (filt me key [] (allP l f))
  obtain ⟨q, hq⟩ : ∃ q, hSort me (filt me key [] (allP l f)) = q := ⟨_, rfl⟩
  rw [hq] at hsl ⊢
  rw [ilt_dec, bif_dec, xlen_eq, ilt_dec, bif_dec, ilt_dec, bif_dec]
  by_cases c1 : most < 0
  · rw [if_pos c1, show most.toNat = 0 by omega, List.take_zero]
    by_cases c2 : (0 : Int) < (q.length : Int)
    · rw [if_pos c2, show xsub ePeer q 0 0 = some (q.take 0) from xsub_takeP q 0 (Nat.zero_le _)]; rfl
    · rw [if_neg c2, xsub_takeP q _ (Nat.le_refl _), List.take_length]
      have : q = [] := List.eq_nil_of_length_eq_zero (by omega)
      rw [this]; rfl
  · rw [if_neg c1]
    by_cases c2 : most < (q.length : Int)
    · rw [if_pos c2]
      obtain ⟨m, rfl⟩ : ∃ m : Nat, most = (m : Int) := ⟨most.toNat, by omega⟩
      rw [xsub_takeP q m (by omega)]; rfl
    · rw [if_neg c2, xsub_takeP q _ (Nat.le_refl _), List.take_length, Option.bind_some, List.take_of_length_le (by omega)])
theorem r28_there_eq {l : List Peer} {a : Int} (hl : l.length ≤ 10000) : r28_there l a = some (has l a) := r28_there_r (by
  have := for_list (σ := Unit) ePeer (l := l) (by omega) (L := fun i _ => r28_there_l0 l a i) (res := fun _ _ rest => bif has rest a then .inl () else .inr ()) (Inv := fun _ _ => True)
    (fun _ _ h => r28_there_l0_r (by rw [r28_there_l0_b, h]; rfl))
    (fun n x rest s _ hn hx hd h1 h2 h3 ih => r28_there_l0_r (by
      rw [r28_there_l0_b, h1, h2, cond_true, Option.bind_some, ieq_dec, bif_dec, h3]
      by_cases c : x.addr = a
      · rw [if_pos c]; simp [has, c]
      · rw [if_neg c, ih () trivial]; simp [has, c])) () trivial
  rw [r28_there_b, this, Option.bind_some]
  cases has l a <;> rfl)
theorem pos_loop {me p : Peer} {key most i : Int} {out r2 r3 : List Peer} (hm : PeOk me) (ho : ∀ q, q ∈ out → PeOk q) (hl : out.length ≤ 10000) :
    r28_Hops_l1 me key most out i 0 (dist me.id p.id) r2 r3 p.id p.addr = some (out, i, (posH me p out : Int), r2, r3, p.id, p.addr) := by
  have := for_list (σ := Unit) ePeer (l := out) (by omega) (L := fun k _ => r28_Hops_l1 me key most out i k (dist me.id p.id) r2 r3 p.id p.addr) (res := fun n _ rest => (out, i, ((n + posH me p rest : Nat) : Int), r2, r3, p.id, p.addr)) (Inv := fun _ _ => True)
    (fun _ _ h => r28_Hops_l1_r (by rw [r28_Hops_l1_b, h]; rfl))
    (fun n x rest s _ hn hx hd h1 h2 h3 ih => r28_Hops_l1_r (by
      have hxo := ho x (List.mem_of_getElem? hx)
      rw [r28_Hops_l1_b, h1, h2, cond_true, Option.bind_some, Pe.r03_Dist_eq hm.1 hm.2 hxo.1 hxo.2, Option.bind_some, ilt_dec, bif_dec, ieq_dec, bif_dec, ilt_dec, bif_dec, h3]
      have ihh := ih () trivial
      (try dsimp only at ihh)
      have e : ((n + 1 + posH me p rest : Nat) : Int) = ((n + (posH me p rest + 1) : Nat) : Int) := by omega
      rw [e] at ihh
      simp only [posH, bef, Bool.or_eq_true, Bool.and_eq_true, decide_eq_true_eq]
      by_cases c1 : dist me.id p.id < dist me.id x.id
      · rw [if_pos c1, if_pos (.inl c1)]; exact ihh
      · rw [if_neg c1]
        by_cases c2 : dist me.id x.id = dist me.id p.id
        · rw [if_pos c2]
          by_cases c3 : x.addr < p.addr
          · rw [if_pos c3, if_pos (.inr ⟨c2, c3⟩)]; exact ihh
          · rw [if_neg c3, if_neg (by omega)]; rfl
        · rw [if_neg c2, if_neg (by omega)]; rfl)) () trivial
  simpa using this
theorem r28_s2_eq {me p : Peer} {key most i : Int} {out r2 r3 : List Peer} (hm : PeOk me) (hp : PeOk p) (hk : 0 ≤ key ∧ key < 18446744073709551616) (ho : ∀ q, q ∈ out → PeOk q) (hl : out.length ≤ 5000) (h3 : r3.length ≤ 5000) :
    r28_Hops_s2 me key most out i r2 r3 p.id p.addr = some (if btw me.id p.id key = true then .inl (insH me p out, i, r2, r3 ++ [p], p.id, p.addr) else .inr (out, i, r2, r3 ++ [p], p.id, p.addr)) := r28_Hops_s2_r (by
  have hpl := posH_le me p out
  rw [r28_Hops_s2_b, xroom_eq ePeer (by simp; omega) (by omega), cond_true, r03_Between_eq hm hp hk, Option.bind_some]
  have ep : (⟨p.id, p.addr⟩ : Peer) = p := rfl
  rw [ep]
  cases hb : btw me.id p.id key with
  | false => rfl
  | true =>
    rw [cond_true, Pe.r03_Dist_eq hm.1 hm.2 hp.1 hp.2, Option.bind_some, pos_loop hm ho (by omega), Option.bind_some]
    dsimp only
    have hxd : xsub ePeer out ((posH me p out : Nat) : Int) (xlen ePeer out) = some (out.drop (posH me p out)) := by
      rw [xsub_eq, xlen_eq, if_pos (by omega)]; simp
    rw [xsub_takeP out _ hpl, Option.bind_some, xroom_eq ePeer (by simp; omega) (by omega), cond_true, xroom_eq ePeer (by simp; omega) (by omega), cond_true, hxd, Option.bind_some, xroom_eq ePeer (by simp; omega) (by omega), cond_true, ep, insH_split]
    rfl)
theorem insH_len (me p : Peer) (l : List Peer) : (insH me p l).length = l.length + 1 := by rw [(insH_perm me p l).length_eq]; rfl
theorem r28_Hops_eq {me : Peer} {l : List Entry} {f : List Finger} {key most : Int} (hl : l.length ≤ 1000) (hf : f.length ≤ 1000) (hm : PeOk me) (hk : 0 ≤ key ∧ key < 18446744073709551616) (ho : ∀ p, p ∈ allP l f → PeOk p) : r28_Hops me l f key most = some (hops me l f key most) := r28_Hops_r (by
  have hfl := Pe.firms_le l
  rw [r28_Hops_b, (Pe.some_eq hl).2.1, Option.bind_some]
  have e0 := for_list (σ := List Peer) eFinger (l := f) (by omega) (L := fun i s => r28_Hops_l0 me f key most i s) (res := fun _ s rest => s ++ rest.map Finger.peer) (Inv := fun n s => s.length ≤ (Pe.firms l).length + n)
    (fun s _ h => r28_Hops_l0_r (by rw [r28_Hops_l0_b, h]; simp))
    (fun n x rest s hi hn hx hd h1 h2 h3 ih => r28_Hops_l0_r (by
      rw [r28_Hops_l0_b, h1, h2, cond_true, Option.bind_some, xroom_eq ePeer (by simp; omega) (by omega), cond_true, h3, ih _ (by simp; omega)]
      simp)) (Pe.firms l) (by omega)
  rw [e0, Option.bind_some]
  show ((r28_Hops_l3 me key most [] 0 (allP l f) []).bind _) = _
  have hal : (allP l f).length ≤ 2000 := by simp only [allP, List.length_append, List.length_map]; omega
  have e1 := for_list (σ := List Peer × List Peer) ePeer (l := allP l f) (by omega) (L := fun i s => r28_Hops_l3 me key most s.1 i (allP l f) s.2)
    (res := fun n s rest => (insAll me s.1 (candR me key s.2 rest), allP l f, metR me s.2 rest)) (Inv := fun n s => s.1.length ≤ n ∧ s.2.length ≤ n ∧ ∀ q, q ∈ s.1 → PeOk q)
    (fun s _ h => r28_Hops_l3_r (by rw [r28_Hops_l3_b, h]; rfl))
    (fun n x rest s hi hn hx hd h1 h2 h3 ih => r28_Hops_l3_r (by
      obtain ⟨hi1, hi2, hi3⟩ := hi
      have hxo := ho x (List.mem_of_getElem? hx)
      rw [r28_Hops_l3_b, h1, h2, cond_true, Option.bind_some, r28_there_eq (by omega), Option.bind_some, h3]
      simp only [candR, metR]
      cases c1 : has s.2 x.addr with
      | true => rw [cond_true, if_pos (.inl rfl), if_pos (.inl rfl)]; exact ih s ⟨by omega, by omega, hi3⟩
      | false =>
        rw [cond_false, ieq_dec, bif_dec]
        by_cases c2 : x.addr = me.addr
        · rw [if_pos c2, if_pos (.inr c2), if_pos (.inr c2)]; exact ih s ⟨by omega, by omega, hi3⟩
        · have hno : ¬ (false = true ∨ x.addr = me.addr) := fun h => h.elim (fun h => by cases h) c2
          rw [if_neg c2, if_neg hno, if_neg hno, r28_s2_eq hm hxo hk hi3 (by omega) (by omega), Option.bind_some]
          by_cases c3 : btw me.id x.id key = true
          · rw [if_pos c3, if_pos c3]
            dsimp only
            rw [h3]
            exact ih (insH me x s.1, s.2 ++ [x]) ⟨by rw [insH_len]; omega, by simp; omega, fun q hq => by
              rcases List.mem_cons.1 ((insH_perm me x s.1).mem_iff.1 hq) with rfl | hq
              · exact hxo
              · exact hi3 q hq⟩
          · rw [if_neg c3, if_neg c3]
            dsimp only
            rw [h3]
            exact ih (s.1, s.2 ++ [x]) ⟨by show s.1.length ≤ _; omega, by simp; omega, hi3⟩)) ([], []) ⟨by simp, by simp, fun q hq => by cases hq⟩
  dsimp only at e1
  rw [e1, Option.bind_some]
  dsimp only
  have hfo : ∀ p, p ∈ filt me key [] (allP l f) → PeOk p := fun p hp => ho p (filt_sub me key _ _ p hp)
  rw [cand_filt me key (allP l f) [] [] (fun _ _ => rfl), sorted_one hm hfo, hops]
  obtain ⟨q, hq⟩ : ∃ q, hSort me (filt me key [] (allP l f)) = q := ⟨_, rfl⟩
  rw [hq, ilt_dec, bif_dec, xlen_eq, ilt_dec, bif_dec]
  by_cases c1 : most < 0
  · rw [if_pos c1, show most.toNat = 0 by omega, List.take_zero]
  · rw [if_neg c1]
    by_cases c2 : most < (q.length : Int)
    · rw [if_pos c2]
      obtain ⟨m, rfl⟩ : ∃ m : Nat, most = (m : Int) := ⟨most.toNat, by omega⟩
      rw [xsub_takeP q m (by omega)]; rfl
    · rw [if_neg c2, List.take_of_length_le (by omega)])
end Go.Ab.Tryz
namespace Go.Ab.Tryz
open Go Go.Ab Go.Proofs Go.Lib
open Pe (dist PeOk EnOk)
set_option linter.unusedVariables false
set_option linter.unusedSimpArgs false
structure NOk (n : Node) : Prop where
  me : PeOk n.me
  pred : EnOk n.pred
  list : EnOk n.list
  fingers : ∀ x, x ∈ n.fingers → PeOk x.peer
theorem firms_ok {l : List Entry} (h : EnOk l) : ∀ p, p ∈ Pe.firms l → PeOk p := fun p hp => by
  unfold Pe.firms at hp
  obtain ⟨x, hx, hpx⟩ := List.mem_flatMap.1 hp
  cases hb : Ops.std.ile x.misses 0 <;> rw [hb] at hpx
  · cases hpx
  · simp only [cond_true, List.mem_singleton] at hpx
    subst hpx; exact h x hx
theorem allP_ok {n : Node} (h : NOk n) : ∀ p, p ∈ allP n.list n.fingers → PeOk p := fun p hp => by
  rcases List.mem_append.1 hp with hp | hp
  · exact firms_ok h.list p hp
  · obtain ⟨x, hx, rfl⟩ := List.mem_map.1 hp; exact h.fingers x hx
def behindN (n : Node) (key : Int) : Bool := match n.pred with
  | [] => false
  | x :: _ => decide (x.misses ≤ 0) && upto x.peer.id key n.me.id
theorem route_behind_eq (n : Node) (key : Int) : route_behind n key = some (behindN n key) := route_behind_r (by
  rw [route_behind_b, xlen_eq, ilt_dec, bif_dec, behindN]
  cases hp : n.pred with
  | nil => rfl
  | cons x r =>
    rw [if_pos (by simp <;> omega), show (0 : Int) = ((0 : Nat) : Int) from rfl, xget_nat]
    show (bif Ops.std.ile x.misses 0 then ring_Upto x.peer.id key n.me.id else some false) = _
    rw [ile_dec, bif_dec, ring_Upto_eq]
    by_cases c : x.misses ≤ 0 <;> simp [c])
def lastN (n : Node) (key : Int) : Peer × List Peer × Bool := if (hops n.me n.list n.fingers key 4).length = 0 then (n.me, [], true) else (⟨0, 0⟩, hops n.me n.list n.fingers key 4, false)
def stepN (n : Node) (key : Int) : Peer × List Peer × Bool := match Pe.firms n.list with
  | [] => (n.me, [], true)
  | f :: _ => if key = n.me.id then (n.me, [], true) else if upto n.me.id key f.id = true then (f, [], true) else if behindN n key = true then (n.me, [], true) else lastN n key
theorem route_Step_eq {n : Node} {key : Int} (h : Sz n) (ok : NOk n) : route_Step n key = some (stepN n key) := route_Step_r (by
  have hl := h.list
  rw [route_Step_b, (Pe.some_eq hl).1, Option.bind_some, xlen_eq, ieq_dec, bif_dec, ieq_dec, bif_dec, stepN]
  cases hf : Pe.firms n.list with
  | nil => rfl
  | cons f r =>
    rw [if_neg (by simp <;> omega)]
    dsimp only
    by_cases c1 : key = n.me.id
    · rw [if_pos c1, if_pos c1]
    · rw [if_neg c1, if_neg c1]
      have e : route_Step_s0 n key (f :: r) = some (if upto n.me.id key f.id = true then .inl (f.id, f.addr, f :: r) else if behindN n key = true then .inl (n.me.id, n.me.addr, f :: r) else if (hops n.me n.list n.fingers key 4).length = 0 then .inl (n.me.id, n.me.addr, f :: r) else .inr (hops n.me n.list n.fingers key 4, f :: r)) := route_Step_s0_r (by
        rw [route_Step_s0_b, show (0 : Int) = ((0 : Nat) : Int) from rfl, xget_nat]
        show (ring_Upto n.me.id key f.id).bind _ = _
        rw [ring_Upto_eq, Option.bind_some, route_behind_eq, Option.bind_some, fings_Hops_eq hl h.fingers (allP_ok ok) (by omega), Option.bind_some, xlen_eq, ilt_dec]
        cases upto n.me.id key f.id
        · cases behindN n key
          · by_cases c : (hops n.me n.list n.fingers key 4).length = 0
            · rw [decide_eq_false (by omega)]; simp [c]
            · rw [decide_eq_true (by omega)]; simp [c]
          · rfl
        · rfl)
      rw [e, Option.bind_some, lastN]
      by_cases c2 : upto n.me.id key f.id = true
      · rw [if_pos c2, if_pos c2]
      · rw [if_neg c2, if_neg c2]
        by_cases c3 : behindN n key = true
        · rw [if_pos c3, if_pos c3]
        · rw [if_neg c3, if_neg c3]
          by_cases c4 : (hops n.me n.list n.fingers key 4).length = 0
          · rw [if_pos c4, if_pos c4]
          · rw [if_neg c4, if_neg c4])
theorem r32_Step_eq {n : Node} {key : Int} (h : Sz n) (ok : NOk n) (hk : 0 ≤ key ∧ key < 18446744073709551616) : r32_Step n key = some (stepN n key) := r32_Step_r (by
  have hl := h.list
  have hfo := firms_ok ok.list
  rw [r32_Step_b, (Pe.some_eq hl).2.1, Option.bind_some, xlen_eq, ieq_dec, bif_dec, ieq_dec, bif_dec, stepN]
  cases hf : Pe.firms n.list with
  | nil => rfl
  | cons f r =>
    rw [hf] at hfo
    have hfp := hfo f (by simp)
    rw [if_neg (by simp <;> omega)]
    dsimp only
    by_cases c1 : key = n.me.id
    · rw [if_pos c1, if_pos c1]
    · rw [if_neg c1, if_neg c1]
      have e0 : r32_Step_s0 n key (f :: r) = some (if (hops n.me n.list n.fingers key 4).length = 0 then .inl (f :: r) else .inr (hops n.me n.list n.fingers key 4, f :: r)) := r32_Step_s0_r (by
        rw [r32_Step_s0_b, r28_Hops_eq hl h.fingers ok.me hk (allP_ok ok), Option.bind_some, xlen_eq, ieq_dec, bif_dec]
        by_cases c : (hops n.me n.list n.fingers key 4).length = 0
        · rw [if_pos (by omega), if_pos c]
        · rw [if_neg (by omega), if_neg c])
      obtain ⟨w, hw, hwz⟩ : ∃ w, r32_Step_s0 n key (f :: r) = some w ∧ (match w with | .inl _ => ((n.me, [], true) : Peer × List Peer × Bool) | .inr (t, _) => (⟨0, 0⟩, t, false)) = lastN n key := by
        by_cases c : (hops n.me n.list n.fingers key 4).length = 0
        · exact ⟨.inl (f :: r), by rw [e0, if_pos c], by rw [lastN, if_pos c]⟩
        · exact ⟨.inr (hops n.me n.list n.fingers key 4, f :: r), by rw [e0, if_neg c], by rw [lastN, if_neg c]⟩
      have e : ∃ z, r32_Step_s1 n key (f :: r) = some z ∧ (match z with | .inl (a, b, _) => ((⟨a, b⟩, [], true) : Peer × List Peer × Bool) | .inr (t, _) => (⟨0, 0⟩, t, false)) = (if upto n.me.id key f.id = true then (f, [], true) else if behindN n key = true then (n.me, [], true) else lastN n key) := by
        refine Exists.elim (?_ : ∃ z, r32_Step_s1_b n key (f :: r) = some z ∧ _) fun z hz => ⟨z, r32_Step_s1_r hz.1, hz.2⟩
        have hx0 : xget ePeer (f :: r) 0 = some f := xget_nat ePeer (f :: r) 0
        rw [r32_Step_s1_b, hx0, Option.bind_some, r03_Upto_eq ok.me hk hfp, Option.bind_some]
        cases hu : upto n.me.id key f.id with
        | true => exact ⟨_, rfl, rfl⟩
        | false =>
          rw [cond_false, hw, Option.bind_some, if_neg (by simp), xlen_eq, ilt_dec, bif_dec]
          cases hp : n.pred with
          | nil =>
            have hb : behindN n key = false := by rw [behindN, hp]
            rw [if_neg (by simp), hb, if_neg (by simp)]
            rcases w with a | ⟨t, b⟩ <;> exact ⟨_, rfl, hwz⟩
          | cons x rr =>
            have hb : behindN n key = (decide (x.misses ≤ 0) && upto x.peer.id key n.me.id) := by rw [behindN, hp]
            have hxo := ok.pred x (by rw [hp]; simp)
            have hx1 : xget eEntry (x :: rr) 0 = some x := xget_nat eEntry (x :: rr) 0
            rw [if_pos (by simp <;> omega), hx1, Option.bind_some, ilt_dec, bif_dec]
            by_cases c2 : x.misses < 1
            · rw [decide_eq_true (by omega : x.misses ≤ 0), Bool.true_and] at hb
              rw [if_pos c2, r03_Upto_eq hxo hk ok.me, Option.bind_some, hb]
              cases upto x.peer.id key n.me.id with
              | true => exact ⟨_, rfl, rfl⟩
              | false =>
                rw [cond_false, if_neg (by simp)]
                rcases w with a | ⟨t, b⟩ <;> exact ⟨_, rfl, hwz⟩
            · rw [decide_eq_false (by omega : ¬ x.misses ≤ 0), Bool.false_and] at hb
              rw [if_neg c2, hb, if_neg (by simp)]
              rcases w with a | ⟨t, b⟩ <;> exact ⟨_, rfl, hwz⟩
      obtain ⟨z, hz, hzz⟩ := e
      rw [hz, Option.bind_some, ← hzz]
      rcases z with ⟨a, b, c⟩ | ⟨a, b⟩ <;> rfl)
def mineN (n : Node) (key : Int) : Bool := (stepN n key).2.2 && (decide ((stepN n key).1.id = n.me.id) && decide ((stepN n key).1.addr = n.me.addr))
theorem mine_both {n : Node} {key : Int} (h : Sz n) (ok : NOk n) (hk : 0 ≤ key ∧ key < 18446744073709551616) : route_Mine n key = some (mineN n key) ∧ r32_Mine n key = some (mineN n key) := by
  constructor
  · refine route_Mine_r ?_
    rw [route_Mine_b, route_Step_eq h ok, Option.bind_some, mineN]
    obtain ⟨p, l, b⟩ := stepN n key
    dsimp only
    rw [ieq_dec, ieq_dec]
    cases b <;> cases decide (p.id = n.me.id) <;> cases decide (p.addr = n.me.addr) <;> rfl
  · refine r32_Mine_r ?_
    rw [r32_Mine_b, r32_Step_eq h ok hk, Option.bind_some, mineN]
    obtain ⟨p, l, b⟩ := stepN n key
    dsimp only
    rw [ieq_dec, ieq_dec]
    cases b <;> cases decide (p.id = n.me.id) <;> cases decide (p.addr = n.me.addr) <;> rfl
theorem node_joined {n : Node} {b : Bool} (h : n.joined = b) : (⟨n.me, n.clock, b, n.pred, n.list, n.fingers, n.store, n.pends, n.jobs, n.results, n.rid, n.jobID, n.nextBit⟩ : Node) = n := by subst h; rfl
def asksB (k : Int) : Bool := decide (k = 1 ∨ k = 3 ∨ k = 5 ∨ k = 7 ∨ k = 8 ∨ k = 10 ∨ k = 11)
theorem msg_Asks_eq (k : Int) : msg_Asks k = some (asksB k) := msg_Asks_r (by
  rw [msg_Asks_b, msg_of_eq, Option.bind_some, xlen_eq, ilt_dec, asksB]
  congr 1
  rcases kcases k with h | h
  · rw [kindOf_no h, decide_eq_false (by omega : ¬ (k = 1 ∨ k = 3 ∨ k = 5 ∨ k = 7 ∨ k = 8 ∨ k = 10 ∨ k = 11))]
    rfl
  · rcases h with rfl | rfl | rfl | rfl | rfl | rfl | rfl | rfl | rfl | rfl | rfl | rfl <;> rfl)
end Go.Ab.Tryz
namespace Go.Ab.Tryz
open Go Go.Ab Go.Proofs Go.Lib
open Pe (dist PeOk EnOk)
set_option linter.unusedVariables false
set_option linter.unusedSimpArgs false
def tellO (from_ rid : Int) (m : Msg) : Out := ⟨⟨0, from_⟩, ⟨m.kind, rid, m.code, m.has, m.id, m.key, m.val, m.peer, m.peers, m.pairs⟩⟩
theorem serve_tell_eq {m M : Msg} {n : Node} {from_ : Int} {r : List Out} (hr : r.length ≤ 1000) : serve_answer_tell m n from_ M r = some (r ++ [tellO from_ M.rid m]) := serve_answer_tell_r (by
  rw [serve_answer_tell_b, xroom_eq eOut (by simp <;> omega) (by omega)]; rfl)
def okM : Msg := ⟨6, 0, 0, false, 0, ⟨#[]⟩, ⟨#[]⟩, ⟨0, 0⟩, [], []⟩
def nayM (e : Int) : Msg := ⟨12, 0, Ops.std.iwrap .u8 e, false, 0, ⟨#[]⟩, ⟨#[]⟩, ⟨0, 0⟩, [], []⟩
theorem serve_okay_eq {M : Msg} {n : Node} {from_ : Int} {r : List Out} (hr : r.length ≤ 1000) : serve_answer_okay n from_ M r = some (r ++ [tellO from_ M.rid okM]) := serve_answer_okay_r (serve_tell_eq hr)
theorem serve_nay_eq {M : Msg} {n : Node} {from_ e : Int} {r : List Out} (hr : r.length ≤ 1000) : serve_answer_nay e n from_ M r = some (r ++ [tellO from_ M.rid (nayM e)]) := serve_answer_nay_r (serve_tell_eq hr)
def mayN (n : Node) (key : ByteArray) : Int := if n.joined = true then (if mineN n (hplace key) = true then 0 else 14) else 17
theorem serve_may_eq {n : Node} {from_ : Int} {M : Msg} (h : Sz n) (ok : NOk n) (hk : M.key.size < 1000000) : serve_answer_may n from_ M [] = some (if mayN n M.key = 0 then (true, n, []) else (false, n, [tellO from_ M.rid (nayM (mayN n M.key))])) := serve_answer_may_r (by
  rw [serve_answer_may_b, mayN]
  cases hj : n.joined with
  | true =>
    rw [node_joined hj, cond_true, if_pos rfl, hash_Place_eq (by omega), Option.bind_some, (mine_both h ok (hplace_rng M.key)).1, Option.bind_some]
    cases mineN n (hplace M.key) with
    | true => rfl
    | false => rw [cond_false, serve_nay_eq (by simp)]; rfl
  | false => rw [node_joined hj, cond_false, serve_nay_eq (by simp)]; rfl)
def putN (n : Node) (from_ : Int) (M : Msg) : Node × List Out :=
  if mayN n M.key = 0 then (if (keep' n M.key M.val).2.2 = 0 then ((keep' n M.key M.val).1, tellO from_ M.rid okM :: (keep' n M.key M.val).2.1) else (n, [tellO from_ M.rid (nayM (keep' n M.key M.val).2.2)]))
  else (n, [tellO from_ M.rid (nayM (mayN n M.key))])
theorem serve_put_eq {n : Node} {from_ : Int} {M : Msg} (h : Sz n) (ok : NOk n) (hk : M.key.size < 1000000) : serve_answer_put n from_ M [] = some (putN n from_ M) := serve_answer_put_r (by
  have hks := (keep_sz (key := M.key) (val := M.val) h).2
  rw [serve_answer_put_b, serve_may_eq h ok hk, Option.bind_some, putN]
  by_cases c : mayN n M.key = 0
  · rw [if_pos c, if_pos c]
    dsimp only
    rw [cond_true, serve_Keep_eq h hk, Option.bind_some]
    obtain ⟨⟨a, o, e⟩, hq⟩ : ∃ z, keep' n M.key M.val = z := ⟨_, rfl⟩
    rw [hq] at hks ⊢
    dsimp only at hks ⊢
    by_cases he : e = 0
    · rw [if_pos he, ieqT he, cond_true, serve_okay_eq (by simp), Option.bind_some, xroom_eq eOut (by simp <;> omega) (by omega)]; rfl
    · rw [if_neg he, ieqF he, cond_false, serve_nay_eq (by simp)]; rfl
  · rw [if_neg c, if_neg c]; rfl)
def gotM (n : Node) (key : ByteArray) : Msg := ⟨9, 0, 0, (getP n.store key).2, 0, ⟨#[]⟩, (getP n.store key).1, ⟨0, 0⟩, [], []⟩
def getN (n : Node) (from_ : Int) (M : Msg) : Node × List Out :=
  (n, [tellO from_ M.rid (if mayN n M.key = 0 then gotM n M.key else nayM (mayN n M.key))])
theorem serve_get_eq {n : Node} {from_ : Int} {M : Msg} (h : Sz n) (ok : NOk n) (hk : M.key.size < 1000000) : serve_answer_get n from_ M [] = some (getN n from_ M) := serve_answer_get_r (by
  have hs := h.store
  rw [serve_answer_get_b, serve_may_eq h ok hk, Option.bind_some, getN]
  by_cases c : mayN n M.key = 0
  · rw [if_pos c, if_pos c]
    dsimp only
    rw [cond_true, (get_both (by omega)).1, Option.bind_some, serve_tell_eq (by simp)]; rfl
  · rw [if_neg c, if_neg c]; rfl)
end Go.Ab.Tryz
namespace Go.Ab.Tryz
open Go Go.Ab Go.Proofs Go.Lib
open Pe (dist PeOk EnOk)
set_option linter.unusedVariables false
set_option linter.unusedSimpArgs false
structure MSz (M : Msg) : Prop where
  key : M.key.size < 1000000
  pairs : M.pairs.length ≤ 1000
  keys : Keys M.pairs
structure MPl (M : Msg) : Prop where
  id : 0 ≤ M.id ∧ M.id < 18446744073709551616
  peer : PeOk M.peer
end Go.Ab.Tryz
namespace Go.Ab.Tryz
open Go Go.Ab Go.Proofs Go.Lib
open Pe (dist PeOk EnOk)
set_option linter.unusedVariables false
set_option linter.unusedSimpArgs false
def MFit (m : Msg) : Prop := m.peers.length ≤ 1000000 ∧ m.pairs.length ≤ 1000000
def AFit (l : List Out) : Prop := ∀ o, o ∈ l → MFit o.msg
theorem AFit.nil : AFit [] := fun o ho => by cases ho
theorem AFit.one {o : Out} (h : MFit o.msg) : AFit [o] := fun q hq => by rw [List.mem_singleton.1 hq]; exact h
theorem AFit.cons {o : Out} {l : List Out} (h : MFit o.msg) (hl : AFit l) : AFit (o :: l) := fun q hq => by
  rcases List.mem_cons.1 hq with e | e
  · rw [e]; exact h
  · exact hl q e
theorem AFit.app {a b : List Out} (ha : AFit a) (hb : AFit b) : AFit (a ++ b) := fun q hq => (List.mem_append.1 hq).elim (ha q) (hb q)
def bigJ (x : Job) : Bool := decide (300 < x.key.size) || decide (700 < x.val.size)
def bigR (x : Result) : Bool := decide (300 < x.key.size) || decide (700 < x.val.size)
theorem nlarge_l0 {n : Node} (h : n.jobs.length ≤ 1000) : w30_Large_l0 n 0 = some (bif n.jobs.any bigJ then .inl () else .inr ()) :=
  for_list (σ := Unit) eJob (l := n.jobs) (by omega) (L := fun i _ => w30_Large_l0 n i) (res := fun _ _ rest => bif rest.any bigJ then .inl () else .inr ()) (Inv := fun _ _ => True)
    (fun _ _ hh => w30_Large_l0_r (by rw [w30_Large_l0_b, hh] <;> rfl))
    (fun k x rest s _ hn hx hd h1 h2 h3 ih => w30_Large_l0_r (by
      rw [w30_Large_l0_b, h1, cond_true, h2, Option.bind_some, slen_nat, slen_nat, List.any_cons, bigJ]
      by_cases a : 300 < x.key.size
      · rw [iltT (by omega), decide_eq_true a] <;> rfl
      · rw [iltF (by omega), decide_eq_false a, cond_false]
        by_cases b : 700 < x.val.size
        · rw [iltT (by omega), decide_eq_true b] <;> rfl
        · rw [iltF (by omega), decide_eq_false b, cond_false, h3, ih () trivial] <;> rfl)) () trivial
theorem nlarge_l1 {n : Node} (h : n.results.length ≤ 1000) : w30_Large_l1 n 0 = some (bif n.results.any bigR then .inl () else .inr ()) :=
  for_list (σ := Unit) eResult (l := n.results) (by omega) (L := fun i _ => w30_Large_l1 n i) (res := fun _ _ rest => bif rest.any bigR then .inl () else .inr ()) (Inv := fun _ _ => True)
    (fun _ _ hh => w30_Large_l1_r (by rw [w30_Large_l1_b, hh] <;> rfl))
    (fun k x rest s _ hn hx hd h1 h2 h3 ih => w30_Large_l1_r (by
      rw [w30_Large_l1_b, h1, cond_true, h2, Option.bind_some, slen_nat, slen_nat, List.any_cons, bigR]
      by_cases a : 300 < x.key.size
      · rw [iltT (by omega), decide_eq_true a] <;> rfl
      · rw [iltF (by omega), decide_eq_false a, cond_false]
        by_cases b : 700 < x.val.size
        · rw [iltT (by omega), decide_eq_true b] <;> rfl
        · rw [iltF (by omega), decide_eq_false b, cond_false, h3, ih () trivial] <;> rfl)) () trivial
structure Sm (n : Node) : Prop where
  pred : n.pred.length ≤ 5
  list : n.list.length ≤ 40
  fingers : n.fingers.length ≤ 80
  pends : n.pends.length ≤ 100
  jobs : n.jobs.length ≤ 20
  results : n.results.length ≤ 40
  store : n.store.length ≤ 100
  keys : Keys n.store
theorem Sm.sz {n : Node} (h : Sm n) : Sz n := by
  obtain ⟨h1, h2, h3, h4, h5, h6, h7, _⟩ := h
  exact ⟨by omega, by omega, by omega, by omega, by omega, by omega, by omega⟩
theorem nlarge_eq (n : Node) : ∃ b, w30_Large n = some b ∧ (b = false → Sm n) := by
  refine Exists.elim (?_ : ∃ b, w30_Large_b n = some b ∧ (b = false → Sm n)) fun b hb => ⟨b, w30_Large_r hb.1, hb.2⟩
  rw [w30_Large_b, xlen_eq, xlen_eq, xlen_eq, xlen_eq, xlen_eq, xlen_eq, ilt_dec, ilt_dec, ilt_dec, ilt_dec, ilt_dec, ilt_dec, bif_dec, bif_dec, bif_dec, bif_dec, bif_dec, bif_dec, large_eq, Option.bind_some]
  have no : ∃ b, some true = some b ∧ (b = false → Sm n) := ⟨true, rfl, fun h => by cases h⟩
  by_cases h1 : (5 : Int) < (n.pred.length : Int)
  · rw [if_pos h1]; exact no
  rw [if_neg h1]
  by_cases h2 : (40 : Int) < (n.list.length : Int)
  · rw [if_pos h2]; exact no
  rw [if_neg h2]
  by_cases h3 : (80 : Int) < (n.fingers.length : Int)
  · rw [if_pos h3]; exact no
  rw [if_neg h3]
  by_cases h4 : (100 : Int) < (n.pends.length : Int)
  · rw [if_pos h4]; exact no
  rw [if_neg h4]
  by_cases h5 : (20 : Int) < (n.jobs.length : Int)
  · rw [if_pos h5]; exact no
  rw [if_neg h5]
  by_cases h6 : (40 : Int) < (n.results.length : Int)
  · rw [if_pos h6]; exact no
  rw [if_neg h6]
  cases h7 : large n.store with
  | true => exact no
  | false =>
    obtain ⟨h8, h9⟩ := large_not h7
    have e : w30_Large_s2 n = some (bif n.jobs.any bigJ then true else bif n.results.any bigR then true else false) := w30_Large_s2_r (by
      rw [w30_Large_s2_b, nlarge_l0 (by omega), Option.bind_some]
      cases n.jobs.any bigJ
      · dsimp only [cond_false]
        rw [nlarge_l1 (by omega), Option.bind_some]
        cases n.results.any bigR <;> rfl
      · rfl)
    rw [cond_false, e]
    exact ⟨_, rfl, fun _ => ⟨by omega, by omega, by omega, by omega, by omega, by omega, h8, h9⟩⟩
structure MSm (m : Msg) : Prop where
  key : m.key.size ≤ 300
  val : m.val.size ≤ 700
  peers : m.peers.length ≤ 40
  pairs : m.pairs.length ≤ 20
  all : ∀ p, p ∈ m.pairs → p.key.size ≤ 300 ∧ p.val.size ≤ 700
theorem awake33 : w33_awake = some true := ask_of ((le_lim 60).call _ _ _ _ (by kernel_rfl))
end Go.Ab.Tryz
namespace Go.Ab.Tryz
open Go Go.Ab Go.Proofs Go.Lib
set_option linter.unusedVariables false
set_option linter.unusedSimpArgs false
theorem pl_none {l : List Pair} {key : ByteArray} (h : ¬ 0 ≤ pl l key) : (∀ p, p ∈ l → p.key ≠ key) ∧ l.find? (isAt key) = none := by
  rcases pl_cases l key with ⟨_, hf, hn⟩ | ⟨n, x, hp, _⟩
  · exact ⟨fun p hp => isAt_ne.1 (fst_none hf p hp), hn⟩
  · omega
theorem find_set {key val : ByteArray} {l : List Pair} (h0 : 0 ≤ pl l key) : (setP key val l).find? (isAt key) = some ⟨key, val⟩ := by
  have h : ∃ x, x ∈ l ∧ isAt key x = true := by
    rcases pl_cases l key with ⟨h1, _⟩ | ⟨n, x, _, _, hx, _, hf⟩
    · omega
    · exact ⟨x, List.mem_of_getElem? hx, List.find?_some hf⟩
  clear h0
  induction l with
  | nil => obtain ⟨x, hx, _⟩ := h; cases hx
  | cons x l ih =>
    rw [setP]
    cases hx : isAt key x with
    | true =>
      have hk := isAt_iff.1 hx
      rw [cond_true, List.find?_cons, show isAt key ⟨x.key, val⟩ = isAt key x from rfl, hx, hk]
    | false =>
      rw [cond_false, List.find?_cons, hx]
      obtain ⟨y, hy, hp⟩ := h
      rcases List.mem_cons.1 hy with rfl | hy
      · rw [hx] at hp; cases hp
      · exact ih ⟨y, hy, hp⟩
theorem find_ins {key val : ByteArray} {l : List Pair} (h : ∀ p, p ∈ l → p.key ≠ key) : (insP key val l).find? (isAt key) = some ⟨key, val⟩ := by
  have hs : isAt key ⟨key, val⟩ = true := isAt_iff.2 rfl
  induction l with
  | nil => rw [insP, List.find?_cons, hs]
  | cons x l ih =>
    rw [insP]
    cases isUp key x with
    | true => rw [cond_true, List.find?_cons, hs]
    | false => rw [cond_false, List.find?_cons, isAt_ne.2 (h x (List.mem_cons_self ..))]; exact ih (fun p hp => h p (List.mem_cons_of_mem _ hp))
theorem get_put {l : List Pair} {key val : ByteArray} (h : (put l key val).2 = 0) : getP (put l key val).1 key = (val, true) := by
  unfold put at h ⊢
  cases hk : isKey key with
  | false => rw [hk] at h; exact absurd h (by show ¬ (7 : Int) = 0; decide)
  | true =>
    rw [hk, cond_true] at h
    rw [cond_true]
    split
    · rename_i h5; rw [if_pos h5] at h; exact absurd h (by show ¬ (5 : Int) = 0; decide)
    · rename_i h5
      rw [if_neg h5] at h
      split
      · rename_i hp; unfold getP; rw [find_set hp]
      · rename_i hp
        rw [if_neg hp] at h
        split
        · rename_i h6; rw [if_pos h6] at h; exact absurd h (by show ¬ (10 : Int) = 0; decide)
        · unfold getP; rw [find_ins (pl_none hp).1]
end Go.Ab.Tryz
namespace Go.Ab.Tryz
open Go Go.Ab Go.Proofs Go.Lib
open Pe (dist PeOk EnOk)
set_option linter.unusedVariables false
set_option linter.unusedSimpArgs false
structure Like (a n : Node) : Prop where
  me : a.me = n.me
  joined : a.joined = n.joined
  pred : a.pred = n.pred
  list : a.list = n.list
  fingers : a.fingers = n.fingers
theorem Like.rfl' {n : Node} : Like n n := ⟨rfl, rfl, rfl, rfl, rfl⟩
theorem Like.trans {a b c : Node} (h : Like a b) (k : Like b c) : Like a c := ⟨h.me.trans k.me, h.joined.trans k.joined, h.pred.trans k.pred, h.list.trans k.list, h.fingers.trans k.fingers⟩
theorem Like.step {a n : Node} (h : Like a n) (key : Int) : stepN a key = stepN n key := by
  unfold stepN lastN behindN
  rw [h.me, h.pred, h.list, h.fingers]
theorem Like.may {a n : Node} (h : Like a n) (key : ByteArray) : mayN a key = mayN n key := by
  unfold mayN mineN
  rw [h.step, h.me, h.joined]
theorem Like.ok {a n : Node} (h : Like a n) (ok : NOk n) : NOk a := ⟨by rw [h.me]; exact ok.me, by rw [h.pred]; exact ok.pred, by rw [h.list]; exact ok.list, by rw [h.fingers]; exact ok.fingers⟩
theorem askN_like {n : Node} {to_ : Peer} {m : Msg} {why job : Int} : Like (askN n to_ m why job).1 n ∧ (askN n to_ m why job).1.store = n.store := by
  unfold askN
  split <;> exact ⟨⟨rfl, rfl, rfl, rfl, rfl⟩, rfl⟩
theorem handN_like (to_ : Peer) (fresh : Bool) : ∀ (cs : List (List Pair)) (n : Node), Like (handN to_ fresh cs n).1 n ∧ (handN to_ fresh cs n).1.store = n.store
  | [], n => ⟨Like.rfl', rfl⟩
  | c :: cs, n => by
    obtain ⟨h1, h2⟩ := askN_like (n := n) (to_ := to_) (m := moveM fresh c) (why := 6) (job := 0)
    obtain ⟨h3, h4⟩ := handN_like to_ fresh cs (askN n to_ (moveM fresh c) 6 0).1
    exact ⟨h3.trans h1, h4.trans h2⟩
theorem keepN_like (key val : ByteArray) : ∀ (ps : List Peer) (n : Node), Like (keepN key val ps n).1 n ∧ (keepN key val ps n).1.store = n.store
  | [], n => ⟨Like.rfl', rfl⟩
  | p :: ps, n => by
    obtain ⟨h1, h2⟩ := handN_like p true (cut8 [⟨key, val⟩]) n
    obtain ⟨h3, h4⟩ := keepN_like key val ps (hand n p [⟨key, val⟩] true).1
    exact ⟨h3.trans h1, h4.trans h2⟩
theorem keep_like {n : Node} {key val : ByteArray} (h : (keep' n key val).2.2 = 0) : Like (keep' n key val).1 n ∧ (keep' n key val).1.store = (put n.store key val).1 ∧ (put n.store key val).2 = 0 := by
  unfold keep' at h ⊢
  by_cases c : (put n.store key val).2 = 0
  · rw [if_pos c]
    obtain ⟨h1, h2⟩ := keepN_like key val ((Pe.firms n.list).take 2) (withStore n (put n.store key val).1)
    exact ⟨h1.trans ⟨rfl, rfl, rfl, rfl, rfl⟩, h2, c⟩
  · rw [if_neg c] at h
    exact absurd h c
theorem put_codes (l : List Pair) (key val : ByteArray) : (put l key val).2 = 0 ∨ (put l key val).2 = 5 ∨ (put l key val).2 = 10 ∨ (put l key val).2 = 7 := by
  unfold put
  cases isKey key with
  | false => exact .inr (.inr (.inr rfl))
  | true =>
    rw [cond_true]
    split
    · exact .inr (.inl rfl)
    · split
      · exact .inl rfl
      · split
        · exact .inr (.inr (.inl rfl))
        · exact .inl rfl
theorem keep_code {n : Node} {key val : ByteArray} (h : (keep' n key val).2.2 ≠ 0) : Ops.std.iwrap .u8 (keep' n key val).2.2 ≠ 17 ∧ Ops.std.iwrap .u8 (keep' n key val).2.2 ≠ 14 := by
  unfold keep' at h ⊢
  by_cases c : (put n.store key val).2 = 0
  · rw [if_pos c] at h; exact absurd rfl h
  · rw [if_neg c]
    show Ops.std.iwrap .u8 (put n.store key val).2 ≠ 17 ∧ Ops.std.iwrap .u8 (put n.store key val).2 ≠ 14
    rcases put_codes n.store key val with e | e | e | e
    · exact absurd e c
    · rw [e]; exact ⟨by decide, by decide⟩
    · rw [e]; exact ⟨by decide, by decide⟩
    · rw [e]; exact ⟨by decide, by decide⟩
def putM (key val : ByteArray) : Msg := ⟨7, 0, 0, false, 0, key, val, ⟨0, 0⟩, [], []⟩
def getM (key : ByteArray) : Msg := ⟨8, 0, 0, false, 0, key, ⟨#[]⟩, ⟨0, 0⟩, [], []⟩
theorem node_eta (n : Node) : (⟨⟨n.me.id, n.me.addr⟩, n.clock, n.joined, n.pred, n.list, n.fingers, n.store, n.pends, n.jobs, n.results, n.rid, n.jobID, n.nextBit⟩ : Node) = n := rfl
theorem serve_Answer_put {n : Node} {from_ : Int} {key val : ByteArray} (h : Sz n) (ok : NOk n) (hk : key.size < 1000000) : serve_Answer n from_ (putM key val) = some (putN n from_ (putM key val)) := serve_Answer_r (by
  rw [serve_Answer_b, pend_Copy_eq h, Option.bind_some]
  dsimp only
  rw [msg_Asks_eq, Option.bind_some, node_eta, show asksB (putM key val).kind = true from rfl, cond_true, show (putM key val).kind = 7 from rfl]
  rw [ieqF (by decide), cond_false, ieqF (by decide), cond_false, ieqF (by decide), cond_false, ieqT rfl, cond_true, serve_put_eq h ok hk])
theorem serve_Answer_get {n : Node} {from_ : Int} {key : ByteArray} (h : Sz n) (ok : NOk n) (hk : key.size < 1000000) : serve_Answer n from_ (getM key) = some (getN n from_ (getM key)) := serve_Answer_r (by
  rw [serve_Answer_b, pend_Copy_eq h, Option.bind_some]
  dsimp only
  rw [msg_Asks_eq, Option.bind_some, node_eta, show asksB (getM key).kind = true from rfl, cond_true, show (getM key).kind = 8 from rfl]
  rw [ieqF (by decide), cond_false, ieqF (by decide), cond_false, ieqF (by decide), cond_false, ieqF (by decide), cond_false, ieqT rfl, cond_true, serve_get_eq h ok hk])
def okPair (x t : Msg) (val : ByteArray) : Prop := (x.kind = 6 ∧ t.kind = 9 ∧ t.has = true ∧ t.val = val) ∨ (x.kind = 12 ∧ x.code ≠ 17 ∧ x.code ≠ 14) ∨ (x.kind = 12 ∧ t.kind = 12 ∧ t.code = x.code)
def toldM (a : Node) (key : ByteArray) : Msg := if mayN a key = 0 then gotM a key else nayM (mayN a key)
theorem put_told {n : Node} {from_ : Int} {key val : ByteArray} (h : Sz n) (ok : NOk n) : ∃ a x rest, putN n from_ (putM key val) = (a, x :: rest) ∧ rest.length ≤ 2 ∧ Sz a ∧ NOk a ∧ okPair x.msg (toldM a key) val := by
  have hk := keep_sz (key := key) (val := val) h
  rw [putN]
  show ∃ a x rest, (if mayN n key = 0 then (if (keep' n key val).2.2 = 0 then ((keep' n key val).1, tellO from_ 0 okM :: (keep' n key val).2.1) else (n, [tellO from_ 0 (nayM (keep' n key val).2.2)])) else (n, [tellO from_ 0 (nayM (mayN n key))]) : Node × List Out) = (a, x :: rest) ∧ _
  by_cases c1 : mayN n key = 0
  · rw [if_pos c1]
    by_cases c2 : (keep' n key val).2.2 = 0
    · rw [if_pos c2]
      obtain ⟨h1, h2, h3⟩ := keep_like c2
      refine ⟨_, _, _, rfl, hk.2, hk.1, h1.ok ok, .inl ?_⟩
      have hg := get_put (l := n.store) (key := key) (val := val) h3
      rw [toldM, h1.may, if_pos c1, gotM, h2, hg]
      exact ⟨rfl, rfl, rfl, rfl⟩
    · rw [if_neg c2]
      exact ⟨_, _, _, rfl, Nat.zero_le _, h, ok, .inr (.inl ⟨rfl, keep_code c2⟩)⟩
  · rw [if_neg c1]
    refine ⟨_, _, _, rfl, Nat.zero_le _, h, ok, .inr (.inr ?_)⟩
    rw [toldM, if_neg c1]
    exact ⟨rfl, rfl, rfl⟩
theorem gets_s0 {n a : Node} {from_ : Int} {val : ByteArray} {x : Out} {rest : List Out} {t : Msg} (h : okPair x.msg t val) : w33_ServeGets_s0 n val (x :: rest) [tellO from_ 0 t] a a = some (true, a, a) := w33_ServeGets_s0_r (by
  have h0 : xget eOut (x :: rest) 0 = some x := xget_nat eOut (x :: rest) 0
  have h1 : xget eOut [tellO from_ 0 t] 0 = some (tellO from_ 0 t) := xget_nat eOut [tellO from_ 0 t] 0
  rw [w33_ServeGets_s0_b, h0, Option.bind_some, h1, Option.bind_some, awake33]
  show (bif Ops.std.ieq x.msg.kind 6 then (bif Ops.std.ieq t.kind 9 then (bif t.has then (bif Ops.std.seq t.val val then _ else _) else _) else _) else _) = _
  rcases h with ⟨k1, k2, k3, k4⟩ | ⟨k1, k2, k3⟩ | ⟨k1, k2, k3⟩
  · rw [ieqT k1, cond_true, ieqT k2, cond_true, k3, cond_true, k4, seq_self]; rfl
  · rw [k1, ieqF (by decide), cond_false, ieqT rfl, cond_true, ieqF k2, cond_false, ieqF k3]; rfl
  · rw [k1, ieqF (by decide), cond_false, ieqT rfl, cond_true]
    show (bif Ops.std.ieq x.msg.code 17 then (bif Ops.std.ieq t.kind 12 then (bif Ops.std.ieq t.code x.msg.code then _ else _) else _) else (bif Ops.std.ieq x.msg.code 14 then (bif Ops.std.ieq t.kind 12 then (bif Ops.std.ieq t.code x.msg.code then _ else _) else _) else _)) = _
    rw [ieqT k2, ieqT k3]
    cases Ops.std.ieq x.msg.code 17 <;> cases Ops.std.ieq x.msg.code 14 <;> rfl)
theorem msg_Key_all (s : ByteArray) : msg_Key s = some (isKey s) := by
  by_cases h : s.size < 1000000
  · exact msg_Key_eq h
  · refine msg_Key_r ?_
    have h0 : Ops.std.seq s ⟨#[]⟩ = false := by
      cases hs : Ops.std.seq s ⟨#[]⟩ with
      | false => rfl
      | true =>
        rw [seq_iff] at hs
        exfalso
        rw [hs] at h
        exact h (by decide)
    have h1 : isKey s = false := by
      unfold isKey
      rw [decide_eq_false (by omega : ¬ (0 < s.size ∧ s.size ≤ 96)), Bool.false_and, Bool.false_and]
    rw [msg_Key_b, h0, cond_false, slen_nat, ile_dec, decide_eq_false (by omega), cond_false, h1]
theorem isKey_len {s : ByteArray} (h : isKey s = true) : s.size ≤ 96 := by
  unfold isKey at h
  rw [Bool.and_eq_true, Bool.and_eq_true, decide_eq_true_eq] at h
  exact h.1.1.2
theorem law_Gets {n : Node} {from_ : Int} {key val : ByteArray} (ok : NOk n) : w33_ServeGets n from_ key val = some true := w33_ServeGets_r (by
  obtain ⟨b, hb, hs⟩ := nlarge_eq n
  rw [w33_ServeGets_b, hb, Option.bind_some, awake33, msg_Key_all, Option.bind_some, slen_nat, ilt_dec, bif_dec]
  cases hbb : b with
  | true => rfl
  | false =>
    rw [cond_false]
    cases hk : isKey key with
    | false => rfl
    | true =>
      rw [cond_true]
      by_cases c : (512 : Int) < (val.size : Int)
      · rw [if_pos c]
      · rw [if_neg c]
        have h := (hs hbb).sz
        have hkl := isKey_len hk
        obtain ⟨a, x, rest, hq, hr, hz, hok, hp⟩ := put_told (from_ := from_) (key := key) (val := val) h ok
        have e1 := serve_Answer_put (from_ := from_) (key := key) (val := val) h ok (by omega)
        have e2 := serve_Answer_get (from_ := from_) (key := key) hz hok (by omega)
        rw [hq] at e1
        have e3 : getN a from_ (getM key) = (a, [tellO from_ 0 (toldM a key)]) := rfl
        rw [e3] at e2
        refine w33_ServeGets_s1_r ?_
        rw [w33_ServeGets_s1_b, show (⟨7, 0, 0, false, 0, key, val, ⟨0, 0⟩, [], []⟩ : Msg) = putM key val from rfl, e1, Option.bind_some]
        dsimp only
        rw [show (⟨8, 0, 0, false, 0, key, ⟨#[]⟩, ⟨0, 0⟩, [], []⟩ : Msg) = getM key from rfl, e2, Option.bind_some]
        dsimp only
        rw [xlen_eq, xlen_eq, ieqF (by simp <;> omega), cond_false, ieqT (by simp), cond_true, r30_Same_self hz, Option.bind_some, cond_true, gets_s0 hp]
        rfl)
end Go.Ab.Tryz
namespace Go.Ab.Tryz
open Go Go.Ab
open Pe (PeOk EnOk)
theorem peOk {p : Peer} (h : p.Ok) : PeOk p := ⟨h.1.1, by have := h.1.2; omega⟩
theorem enOk {l : List Entry} (h : OkL Entry.Ok l) : EnOk l := fun x hx => peOk (h.1 x hx).1
theorem nodeOk {n : Node} (h : n.Ok) : NOk n := by
  obtain ⟨h1, h2, h3, h4, h5, h6, h7⟩ := h
  exact ⟨peOk h1, enOk h4, enOk h5, fun x hx => peOk (h6.1 x hx).2⟩
end Go.Ab.Tryz
