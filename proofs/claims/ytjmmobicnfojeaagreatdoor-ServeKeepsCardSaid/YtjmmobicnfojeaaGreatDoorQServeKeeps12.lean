/- Our texts for this statement, merged: what its theorem leads to. -/
import Derived.Lib.DecodeN
import Derived.Lib.RuneCountTail
import Derived.Lib.TrimU
import Derived.Test.YtjmmobicnfojeaaGreatDoorQServeKeeps5
import Derived.Test.YtjmmobicnfojeaaGreatDoorQServeKeeps6
import Derived.Test.YtjmmobicnfojeaaGreatDoorQServeKeeps7
import Derived.Test.YtjmmobicnfojeaaGreatDoorQServeKeeps8
import Derived.Test.YtjmmobicnfojeaaGreatDoorQServeKeeps9
import Derived.Test.YtjmmobicnfojeaaGreatDoorQServeKeeps10
import Derived.Test.YtjmmobicnfojeaaGreatDoorQServeKeeps11
namespace Go.Ab.Tryz.Pe
open Go.Ab.Tryz Go Go.Ab Go.Proofs
set_option linter.unusedVariables false
set_option linter.unusedSimpArgs false
def PeOk (p : Peer) : Prop := 0 ≤ p.id ∧ p.id < 18446744073709551616
def dist (a b : Int) : Int := (b - a) % 18446744073709551616
def ahead (me a b : Peer) : Bool := decide (dist me.id a.id < dist me.id b.id ∨ dist me.id a.id = dist me.id b.id ∧ a.addr < b.addr)
def isAt (addr : Int) (e : Entry) : Bool := decide (e.peer.addr = addr)
def place (l : List Entry) (addr : Int) : Int := fstI (isAt addr) l
def drp (addr : Int) (l : List Entry) : List Entry := l.filter fun e => !isAt addr e
theorem xsub_take (l : List Entry) (n : Nat) (h : n ≤ l.length) : xsub eEntry l 0 (n : Int) = some (l.take n) := by
  rw [xsub_eq, if_pos (by omega)]; simp
theorem xsub_drop (l : List Entry) (n : Nat) (h : n ≤ l.length) : xsub eEntry l (n : Int) (xlen eEntry l) = some (l.drop n) := by
  rw [xsub_eq, xlen_eq, if_pos (by omega)]; simp
def firms (l : List Entry) : List Peer := l.flatMap fun x => bif Ops.std.ile x.misses 0 then [x.peer] else []
theorem flat_map (l : List Entry) : (l.flatMap fun x => [x.peer]) = l.map Entry.peer := by
  induction l with
  | nil => rfl
  | cons x l ih => rw [List.flatMap_cons, ih]; rfl
theorem some_eq {l : List Entry} (hl : l.length ≤ 1000) : peers_Firm l = some (firms l) ∧ r27_Firm l = some (firms l) ∧ peers_All l = some (l.map Entry.peer) ∧ r27_All l = some (l.map Entry.peer) := by
  have h1 := gather_list eEntry (l := l) (by omega) (f := fun x => bif Ops.std.ile x.misses 0 then [x.peer] else []) (L := fun i acc => peers_some_1_l0 l i acc) 1 (fun x _ => by cases Ops.std.ile x.misses 0 <;> simp)
    (fun acc h => peers_some_1_l0_r (by simp [peers_some_1_l0_b, h]))
    (fun n x acc r ha hn _ h1 h2 h => peers_some_1_l0_r (by
      have hf : peers_firm x = some (Ops.std.ile x.misses 0) := peers_firm_r rfl
      cases hx : Ops.std.ile x.misses 0 with
      | false => simp only [hx, cond_false, List.append_nil] at h; simp [peers_some_1_l0_b, h1, h2, hf, hx, h]
      | true => simp only [hx, cond_true] at h; simp [peers_some_1_l0_b, h1, h2, hf, hx, h, xroom_eq ePeer (b := 16) (l := acc) (l' := [x.peer]) (by simp; omega) (by omega)]))
  have h2 := gather_list eEntry (l := l) (by omega) (f := fun x => bif Ops.std.ile x.misses 0 then [x.peer] else []) (L := fun i acc => r27_Firm_l0 l i acc) 1 (fun x _ => by cases Ops.std.ile x.misses 0 <;> simp)
    (fun acc h => r27_Firm_l0_r (by simp [r27_Firm_l0_b, h]))
    (fun n x acc r ha hn _ h1 h2 h => r27_Firm_l0_r (by
      have hf : Ops.std.ilt x.misses 1 = Ops.std.ile x.misses 0 := by rw [ilt_dec, ile_dec]; exact decide_eq_decide.2 (by omega)
      cases hx : Ops.std.ile x.misses 0 with
      | false => simp only [hx, cond_false, List.append_nil] at h; simp [r27_Firm_l0_b, h1, h2, hf, hx, h]
      | true => simp only [hx, cond_true] at h; simp [r27_Firm_l0_b, h1, h2, hf, hx, h, xroom_eq ePeer (b := 16) (l := acc) (l' := [x.peer]) (by simp; omega) (by omega)]))
  have h3 := gather_list eEntry (l := l) (by omega) (f := fun x => [x.peer]) (L := fun i acc => peers_some_l0 l i acc) 1 (fun x _ => by simp)
    (fun acc h => peers_some_l0_r (by simp [peers_some_l0_b, h]))
    (fun n x acc r ha hn _ h1 h2 h => peers_some_l0_r (by
      have hf : peers_All_1 x = some true := peers_All_1_r rfl
      simp [peers_some_l0_b, h1, h2, hf, h, xroom_eq ePeer (b := 16) (l := acc) (l' := [x.peer]) (by simp; omega) (by omega)]))
  have h4 := gather_list eEntry (l := l) (by omega) (f := fun x => [x.peer]) (L := fun i acc => r27_All_l0 l i acc) 1 (fun x _ => by simp)
    (fun acc h => r27_All_l0_r (by simp [r27_All_l0_b, h]))
    (fun n x acc r ha hn _ h1 h2 h => r27_All_l0_r (by
      simp [r27_All_l0_b, h1, h2, h, xroom_eq ePeer (b := 16) (l := acc) (l' := [x.peer]) (by simp; omega) (by omega)]))
  rw [flat_map] at h3 h4
  refine ⟨peers_Firm_r ?_, r27_Firm_r ?_, peers_All_r ?_, r27_All_r ?_⟩
  · simp [peers_Firm_b, peers_some_1_r (l := l) (r := firms l) (by simp [peers_some_1_b, h1, firms])]
  · simp [r27_Firm_b, h2, firms]
  · simp [peers_All_b, peers_some_r (l := l) (r := l.map Entry.peer) (by simp [peers_some_b, h3])]
  · simp [r27_All_b, h4]
theorem firms_le (l : List Entry) : (firms l).length ≤ l.length := by
  unfold firms
  induction l with
  | nil => exact Nat.le_refl _
  | cons x l ih => rw [List.flatMap_cons, List.length_append, List.length_cons]; cases Ops.std.ile x.misses 0 <;> simp only [cond_true, cond_false, List.length_cons, List.length_nil] <;> omega
theorem Entry.ext3 {a b : Entry} : a = b ↔ a.peer.id = b.peer.id ∧ a.peer.addr = b.peer.addr ∧ a.misses = b.misses := by
  rw [Entry.ext', Peer.ext', and_assoc]
theorem r27_Same_eq {a b : List Entry} (hl : a.length ≤ 1000) : r27_Same a b = some (eqb a b) := r27_Same_r (by
  rw [r27_Same_b, xlen_eq, xlen_eq]
  by_cases he : a.length = b.length
  · have h := same_list eEntry (l := a) (l' := b) (by omega) he (L := fun i => r27_Same_l0 a b i) (fun h => r27_Same_l0_r (by simp [r27_Same_l0_b, h]))
      (fun n x r _ h1 h2 h3 h => r27_Same_l0_r (by simp [r27_Same_l0_b, h1, h2, h3, ieq_dec]; exact h))
      (fun n x y _ h1 h2 h3 h => r27_Same_l0_r (by
        simp only [r27_Same_l0_b, h1, h2, h3, ieq_dec, bif_dec, cond_true, Option.bind_some]
        rw [ne_eq, Entry.ext3] at h
        split
        · split
          · split
            · exact absurd ⟨‹_›, ‹_›, ‹_›⟩ h
            · rfl
          · rfl
        · rfl))
    rw [ieqT (by omega), cond_true]
    rcases h with ⟨h1, h2⟩ | ⟨h1, h2⟩
    · rw [h2, h1, eqb_self]; rfl
    · rw [h2, eqb_ne h1]; rfl
  · rw [ieqF (by omega), eqb_ne (fun h => he (by rw [h]))]; rfl)
theorem r08_Peers_eq {a b : List Peer} (hl : a.length ≤ 1000) : r08_Peers a b = some (eqb a b) := r08_Peers_r (by
  rw [r08_Peers_b, xlen_eq, xlen_eq]
  by_cases he : a.length = b.length
  · have h := same_list ePeer (l := a) (l' := b) (by omega) he (L := fun i => r08_Peers_l0 a b i) (fun h => r08_Peers_l0_r (by simp [r08_Peers_l0_b, h]))
      (fun n x r _ h1 h2 h3 h => r08_Peers_l0_r (by simp [r08_Peers_l0_b, h1, h2, h3, ieq_dec]; exact h))
      (fun n x y _ h1 h2 h3 h => r08_Peers_l0_r (by
        simp only [r08_Peers_l0_b, h1, h2, h3, ieq_dec, bif_dec, cond_true, Option.bind_some]
        rw [ne_eq, Peer.ext'] at h
        split
        · split
          · exact absurd ⟨‹_›, ‹_›⟩ h
          · rfl
        · rfl))
    rw [ieqT (by omega), cond_true]
    rcases h with ⟨h1, h2⟩ | ⟨h1, h2⟩
    · rw [h2, h1, eqb_self]; rfl
    · rw [h2, eqb_ne h1]; rfl
  · rw [ieqF (by omega), eqb_ne (fun h => he (by rw [h]))]; rfl)
end Go.Ab.Tryz.Pe
namespace Go.Ab.Tryz.Pe
open Go.Ab.Tryz Go Go.Ab Go.Proofs
set_option linter.unusedVariables false
set_option linter.unusedSimpArgs false
def EnOk (l : List Entry) : Prop := ∀ x, x ∈ l → PeOk x.peer
def isAh (me p : Peer) (x : Entry) : Bool := ahead me p x.peer
def ins (me p : Peer) : List Entry → List Entry
  | [] => [⟨p, 0⟩]
  | x :: l => bif isAh me p x then ⟨p, 0⟩ :: x :: l else x :: ins me p l
def cut (l : List Entry) : List Entry := if 15 < l.length then l.take (l.length - 1) else l
def add (me : Peer) (l : List Entry) (p : Peer) : List Entry :=
  if p.addr = me.addr then l else
  match fst (isAt p.addr) l with
  | none => cut (ins me p (drp p.addr l))
  | some n => match l[n]? with
    | none => l
    | some x => if x.peer = p then l.set n ⟨x.peer, 0⟩ else cut (ins me p (drp p.addr l))
end Go.Ab.Tryz.Pe
namespace Go.Ab.Tryz
open Go Go.Ab Go.Proofs Go.Lib
set_option linter.unusedVariables false
set_option linter.unusedSimpArgs false
def byt (s : ByteArray) (i : Nat) : Nat := (s.get! i).toNat
theorem byt_lt (s : ByteArray) (i : Nat) : byt s i < 256 := (s.get! i).toNat_lt
theorem get!_ge (s : ByteArray) (i : Nat) (h : s.size ≤ i) : byt s i = 0 := by
  cases s with
  | mk d =>
    have h' : d.size ≤ i := h
    show (d[i]!).toNat = 0
    rw [getElem!_neg d i (by omega)]; rfl
theorem xsget_nat {s : ByteArray} {i : Nat} (h : i < s.size) : xsget s (i : Int) = some (byt s i : Int) := by
  show (if (0 : Int) ≤ (i : Int) then (s[(i : Int).toNat]?).map fun c => (c.toNat : Int) else none) = _
  rw [if_pos (by omega), Int.toNat_natCast]
  have e1 : s[i]? = some (s[i]'h) := getElem?_pos s i h
  have e2 : s.get! i = s[i]'h := by
    cases s with
    | mk d => exact getElem!_pos d i h
  rw [e1]
  show some ((s[i]'h).toNat : Int) = _
  rw [← e2]; rfl
theorem i64_add {a b : Nat} (h : a + b < 9223372036854775808) : Ops.std.iadd .i64 (a : Int) (b : Int) = ((a + b : Nat) : Int) := by
  show IntKind.i64.wrap _ = _
  unfold IntKind.wrap
  simp [IntKind.signed, IntKind.bits]
  omega
theorem i64_sub {a b : Nat} (h : b ≤ a) (h2 : a < 9223372036854775808) : Ops.std.isub .i64 (a : Int) (b : Int) = ((a - b : Nat) : Int) := by
  show IntKind.i64.wrap _ = _
  unfold IntKind.wrap
  simp [IntKind.signed, IntKind.bits]
  omega
theorem slen_nat (s : ByteArray) : Ops.std.slen s = (s.size : Int) := rfl
def wid (s : ByteArray) (i : Nat) : Nat := if Utf8.decode s i = (65533, 1) then 0 else (Utf8.decode s i).2
def tl (b : Nat) : Bool := decide (128 ≤ b ∧ b ≤ 191)
theorem r04_tail_eq (b : Nat) : r04_tail (b : Int) = some (tl b) := r04_tail_r (by
  simp only [r04_tail_b, ile_dec, bif_dec, tl]
  split
  · rename_i h
    congr 1
    exact decide_eq_decide.2 ⟨fun h2 => ⟨by omega, by omega⟩, fun h2 => by omega⟩
  · rename_i h
    congr 1
    exact (decide_eq_false (by omega)).symm)
def wd3 (b0 b1 : Nat) (t : Bool) : Option Nat := bif t then (if b0 = 224 then (if b1 < 160 then some 0 else some 3) else if b0 = 237 then (if 159 < b1 then some 0 else some 3) else some 3) else none
def wd4 (b0 b1 : Nat) (t : Bool) : Nat := bif t then (if b0 = 240 then (if b1 < 144 then 0 else 4) else if b0 = 244 then (if 143 < b1 then 0 else 4) else 4) else 0
section
variable {s : ByteArray} {i : Nat} (hi : i < s.size) (hs : s.size < 4611686018427387904)
include hi hs
theorem left_eq : Ops.std.isub .i64 (Ops.std.slen s) (i : Int) = ((s.size - i : Nat) : Int) := i64_sub (by omega) (by omega)
theorem at_eq {k : Nat} (h : k < s.size - i) (hk : k < 8) : xsget s (Ops.std.iadd .i64 (i : Int) (k : Int)) = some (byt s (i + k) : Int) := by
  rw [i64_add (by omega)]; exact xsget_nat (by omega)
theorem s0_eq (h : 1 < s.size - i) (b : Nat) (t : Bool) : r04_Width_s0 s (i : Int) (b : Int) t = some (match wd3 b (byt s (i + 1)) t with | some n => .inl (n : Int) | none => .inr (b : Int)) := r04_Width_s0_r (by
  have e1 : xsget s (Ops.std.iadd .i64 (i : Int) 1) = some (byt s (i + 1) : Int) := at_eq (k := 1) hi hs h (by decide)
  unfold r04_Width_s0_b
  cases t
  · rfl
  · simp only [cond_true, ieq_dec, ilt_dec, bif_dec, wd3, e1, Option.bind_some]
    by_cases h1 : b = 224
    · subst h1
      by_cases h2 : byt s (i + 1) < 160
      · simp [h2, show (byt s (i + 1) : Int) < 160 by omega]
      · simp [h2, show ¬ (byt s (i + 1) : Int) < 160 by omega]
    · by_cases h3 : b = 237
      · subst h3
        by_cases h2 : 159 < byt s (i + 1)
        · simp [h2, show (159 : Int) < byt s (i + 1) by omega]
        · simp [h2, show ¬ (159 : Int) < byt s (i + 1) by omega]
      · simp [h1, h3, show ¬ (b : Int) = 224 by omega, show ¬ (b : Int) = 237 by omega])
omit hi hs in
theorem s0_false (b : Nat) : r04_Width_s0 s (i : Int) (b : Int) false = some (.inr (b : Int)) := r04_Width_s0_r rfl
theorem s1_eq (h : 1 < s.size - i) (b : Nat) : r04_Width_s1 s (i : Int) (b : Int) true = some (.inl (wd4 b (byt s (i + 1)) true : Nat)) := r04_Width_s1_r (by
  have e1 : xsget s (Ops.std.iadd .i64 (i : Int) 1) = some (byt s (i + 1) : Int) := at_eq (k := 1) hi hs h (by decide)
  unfold r04_Width_s1_b
  simp only [cond_true, ieq_dec, ilt_dec, bif_dec, wd4, e1, Option.bind_some]
  by_cases h1 : b = 240
  · subst h1
    by_cases h2 : byt s (i + 1) < 144
    · simp [h2, show (byt s (i + 1) : Int) < 144 by omega]
    · simp [h2, show ¬ (byt s (i + 1) : Int) < 144 by omega]
  · by_cases h3 : b = 244
    · subst h3
      by_cases h2 : 143 < byt s (i + 1)
      · simp [h2, show (143 : Int) < byt s (i + 1) by omega]
      · simp [h2, show ¬ (143 : Int) < byt s (i + 1) by omega]
    · simp [h1, h3, show ¬ (b : Int) = 240 by omega, show ¬ (b : Int) = 244 by omega])
omit hi hs in
theorem s1_false (b : Nat) : r04_Width_s1 s (i : Int) (b : Int) false = some (.inr ()) := r04_Width_s1_r rfl
theorem s2_eq (b : Nat) : r04_Width_s2 s (i : Int) (b : Int) = some ((if 240 ≤ b ∧ b ≤ 244 ∧ 3 < s.size - i ∧ tl (byt s (i + 1)) = true ∧ tl (byt s (i + 2)) = true ∧ tl (byt s (i + 3)) = true then wd4 b (byt s (i + 1)) true else 0 : Nat) : Int) := r04_Width_s2_r (by
  unfold r04_Width_s2_b
  simp only [ile_dec, ilt_dec, bif_dec, left_eq hi hs, s1_false, Option.bind_some]
  split
  · split
    · split
      · have e1 : xsget s (Ops.std.iadd .i64 (i : Int) 1) = some (byt s (i + 1) : Int) := at_eq (k := 1) hi hs (by omega) (by decide)
        have e2 : xsget s (Ops.std.iadd .i64 (i : Int) 2) = some (byt s (i + 2) : Int) := at_eq (k := 2) hi hs (by omega) (by decide)
        have e3 : xsget s (Ops.std.iadd .i64 (i : Int) 3) = some (byt s (i + 3) : Int) := at_eq (k := 3) hi hs (by omega) (by decide)
        simp only [e1, e2, e3, Option.bind_some, r04_tail_eq]
        cases t1 : tl (byt s (i + 1))
        · simp
        · cases t2 : tl (byt s (i + 2))
          · simp
          · cases t3 : tl (byt s (i + 3))
            · simp [s1_false]
            · simp only [cond_true, s1_eq hi hs (by omega : 1 < s.size - i), Option.bind_some]
              rw [if_pos ⟨by omega, by omega, by omega, trivial, trivial, trivial⟩]
      · rw [if_neg (by omega)]; rfl
    · rw [if_neg (by omega)]; rfl
  · rw [if_neg (by omega)]; rfl)
theorem s3_eq (b : Nat) : r04_Width_s3 s (i : Int) (b : Int) = some ((if 224 ≤ b ∧ b ≤ 239 ∧ 2 < s.size - i ∧ tl (byt s (i + 1)) = true ∧ tl (byt s (i + 2)) = true then (wd3 b (byt s (i + 1)) true).getD 0
    else if 240 ≤ b ∧ b ≤ 244 ∧ 3 < s.size - i ∧ tl (byt s (i + 1)) = true ∧ tl (byt s (i + 2)) = true ∧ tl (byt s (i + 3)) = true then wd4 b (byt s (i + 1)) true else 0 : Nat) : Int) := r04_Width_s3_r (by
  unfold r04_Width_s3_b
  simp only [ile_dec, ilt_dec, bif_dec, left_eq hi hs, s0_false, Option.bind_some, s2_eq hi hs]
  split
  · split
    · split
      · have e1 : xsget s (Ops.std.iadd .i64 (i : Int) 1) = some (byt s (i + 1) : Int) := at_eq (k := 1) hi hs (by omega) (by decide)
        have e2 : xsget s (Ops.std.iadd .i64 (i : Int) 2) = some (byt s (i + 2) : Int) := at_eq (k := 2) hi hs (by omega) (by decide)
        simp only [e1, e2, Option.bind_some, r04_tail_eq]
        cases t1 : tl (byt s (i + 1))
        · simp
        · cases t2 : tl (byt s (i + 2))
          · simp [s0_false, s2_eq hi hs, t1, t2]
          · simp only [cond_true, s0_eq hi hs (by omega : 1 < s.size - i), Option.bind_some]
            rw [if_pos ⟨by omega, by omega, by omega, trivial, trivial⟩]
            unfold wd3
            simp only [cond_true]
            repeat' split
            all_goals first | rfl | simp_all
      · rw [if_neg (c := 224 ≤ b ∧ _) (by omega)]
    · rw [if_neg (c := 224 ≤ b ∧ _) (by omega)]
  · rw [if_neg (c := 224 ≤ b ∧ _) (by omega)])
def widN (n b0 b1 b2 b3 : Nat) : Nat :=
  if b0 < 128 then 1
  else if 194 ≤ b0 ∧ b0 ≤ 223 ∧ 1 < n ∧ tl b1 = true then 2
  else if 224 ≤ b0 ∧ b0 ≤ 239 ∧ 2 < n ∧ tl b1 = true ∧ tl b2 = true then (wd3 b0 b1 true).getD 0
  else if 240 ≤ b0 ∧ b0 ≤ 244 ∧ 3 < n ∧ tl b1 = true ∧ tl b2 = true ∧ tl b3 = true then wd4 b0 b1 true else 0
theorem Width_eq' : r04_Width s (i : Int) = some (widN (s.size - i) (byt s i) (byt s (i + 1)) (byt s (i + 2)) (byt s (i + 3)) : Int) := r04_Width_r (by
  unfold r04_Width_b widN
  simp only [xsget_nat hi, Option.bind_some, ile_dec, ilt_dec, bif_dec, left_eq hi hs, s3_eq hi hs]
  by_cases h1 : byt s i < 128
  · rw [if_pos (by omega), if_pos h1]; rfl
  · rw [if_neg (by omega), if_neg h1]
    split
    · split
      · split
        · have e1 : xsget s (Ops.std.iadd .i64 (i : Int) 1) = some (byt s (i + 1) : Int) := at_eq (k := 1) hi hs (by omega) (by decide)
          simp only [e1, Option.bind_some, r04_tail_eq]
          cases t1 : tl (byt s (i + 1))
          · simp
          · simp only [cond_true]
            rw [if_pos ⟨by omega, by omega, by omega, trivial⟩]; rfl
        · rw [if_neg (c := 194 ≤ byt s i ∧ _) (by omega)]
      · rw [if_neg (c := 194 ≤ byt s i ∧ _) (by omega)]
    · rw [if_neg (c := 194 ≤ byt s i ∧ _) (by omega)])
end
theorem tl_iff {b : Nat} (h : b < 256) : tl b = true ↔ b / 64 = 2 := by unfold tl; rw [decide_eq_true_eq]; omega
set_option maxRecDepth 100000 in
set_option maxHeartbeats 4000000 in
theorem widN_eq {n b0 b1 b2 b3 : Nat} (h0 : b0 < 256) (h1 : b1 < 256) (h2 : b2 < 256) (h3 : b3 < 256) : widN n b0 b1 b2 b3 = if decodeN n b0 b1 b2 b3 = (65533, 1) then 0 else (decodeN n b0 b1 b2 b3).2 := by
  unfold widN wd3 wd4
  simp only [tl_iff h1, tl_iff h2, tl_iff h3, cond_true]
  unfold decodeN
  repeat' split
  all_goals first | rfl | omega | (simp_all; done) | (simp_all; omega)
theorem Width_eq {s : ByteArray} {i : Nat} (hi : i < s.size) (hs : s.size < 4611686018427387904) : r04_Width s (i : Int) = some (wid s i : Int) := by
  rw [Width_eq' hi hs, widN_eq (byt_lt _ _) (byt_lt _ _) (byt_lt _ _) (byt_lt _ _)]
  unfold wid
  rw [decode_at]; rfl
end Go.Ab.Tryz
namespace Go.Ab.Tryz
open Go Go.Ab Go.Proofs Go.Lib
set_option linter.unusedVariables false
set_option linter.unusedSimpArgs false
def stray (s : ByteArray) (i : Nat) : Bool := decide (Utf8.decode s i = (65533, 1))
theorem xsdec_nat {s : ByteArray} {i : Nat} (h : i < s.size) : xsdec s (i : Int) = some (((Utf8.decode s i).1 : Int), ((i + (Utf8.decode s i).2 : Nat) : Int)) := by
  show (if 0 ≤ (i : Int) ∧ (i : Int).toNat < s.size then some (((Utf8.decode s (i : Int).toNat).1 : Int), (i : Int) + ((Utf8.decode s (i : Int).toNat).2 : Int)) else none) = _
  rw [if_pos ⟨by omega, by simpa using h⟩, Int.toNat_natCast]
  simp
theorem xsdec_end {s : ByteArray} {i : Nat} (h : ¬ i < s.size) : xsdec s (i : Int) = none := by
  show (if 0 ≤ (i : Int) ∧ (i : Int).toNat < s.size then some (((Utf8.decode s (i : Int).toNat).1 : Int), (i : Int) + ((Utf8.decode s (i : Int).toNat).2 : Int)) else none) = _
  rw [if_neg (by simpa using h)]
theorem utf_stray_eq {s : ByteArray} {i : Nat} (h : i < s.size) : utf_stray s (i : Int) ((Utf8.decode s i).1 : Int) = some (stray s i) := utf_stray_r (by
  unfold utf_stray_b
  simp only [ieq_dec, bif_dec]
  split
  · rename_i h1
    have e1 : xssub s (i : Int) (Ops.std.slen s) = some (s.extract i s.size) := by
      show (if 0 ≤ (i : Int) ∧ (i : Int) ≤ (s.size : Int) ∧ (s.size : Int) ≤ (s.size : Int) then some (s.extract (i : Int).toNat (s.size : Int).toNat) else none) = _
      rw [if_pos ⟨by omega, by omega, by omega⟩]; simp
    have e2 : xsdec (s.extract i s.size) 0 = some (((Utf8.decode s i).1 : Int), ((Utf8.decode s i).2 : Int)) := by
      have := xsdec_nat (s := s.extract i s.size) (i := 0) (by rw [tail_size]; omega)
      rw [tail_decode] at this
      simpa using this
    rw [e1, Option.bind_some, e2]
    simp only [xopt, stray]
    congr 1
    have h2 : (Utf8.decode s i).1 = 65533 := by omega
    refine decide_eq_decide.2 ⟨fun h => Prod.ext h2 (by show (Utf8.decode s i).2 = 1; omega), fun h => by rw [h]; rfl⟩
  · rename_i h1
    congr 1
    exact (decide_eq_false (fun h => h1 (by rw [h]; rfl))).symm)
def poss (s : ByteArray) : Nat → Nat → List Nat
  | 0, _ => []
  | n + 1, i => if i < s.size then i :: poss s n (i + (Utf8.decode s i).2) else []
theorem valid_l0 (s : ByteArray) : ∀ (n i : Nat), s.size - i < n → ∃ r, utf_Valid_l0 s (i : Int) = some r ∧ (match r with | .inl _ => false | .inr _ => true) = (poss s n i).all fun j => !stray s j := by
  intro n
  induction n with
  | zero => intro i h; omega
  | succ n ih =>
    intro i h
    by_cases hi : i < s.size
    · have hw := width_pos s i
      cases hst : stray s i
      · obtain ⟨r, hr, he⟩ := ih (i + (Utf8.decode s i).2) (by omega)
        refine ⟨r, utf_Valid_l0_r (by simp only [utf_Valid_l0_b, xsdec_nat hi, xopt, utf_stray_eq hi, Option.bind_some, hst, cond_false]; exact hr), ?_⟩
        rw [he]; simp [poss, hi, hst]
      · exact ⟨_, utf_Valid_l0_r (by simp only [utf_Valid_l0_b, xsdec_nat hi, xopt, utf_stray_eq hi, Option.bind_some, hst, cond_true]; rfl), by simp [poss, hi, hst]⟩
    · exact ⟨_, utf_Valid_l0_r (by simp only [utf_Valid_l0_b, xsdec_end hi, xopt]; rfl), by simp [poss, hi]⟩
theorem utf_Valid_eq (s : ByteArray) : utf_Valid s = some ((poss s (s.size + 1) 0).all fun j => !stray s j) := utf_Valid_r (by
  obtain ⟨r, hr, he⟩ := valid_l0 s (s.size + 1) 0 (by omega)
  have hr : utf_Valid_l0 s 0 = some r := hr
  simp only [utf_Valid_b, hr, Option.bind_some]
  cases r <;> exact congrArg some he)
theorem poss_len (s : ByteArray) : ∀ (n i : Nat), (poss s n i).length ≤ n := by
  intro n
  induction n with
  | zero => intro i; simp [poss]
  | succ n ih =>
    intro i
    unfold poss
    split
    · have := ih (i + (Utf8.decode s i).2); simp; omega
    · simp
theorem count_l0 (s : ByteArray) : ∀ (n i k : Nat), s.size - i < n → k + n < 9223372036854775808 → ∃ a, utf_Count_l0 s (k : Int) (i : Int) = some (((k + (poss s n i).length : Nat) : Int), a) := by
  intro n
  induction n with
  | zero => intro i k h; omega
  | succ n ih =>
    intro i k h hk
    by_cases hi : i < s.size
    · have hw := width_pos s i
      obtain ⟨a, ha⟩ := ih (i + (Utf8.decode s i).2) (k + 1) (by omega) (by omega)
      refine ⟨a, utf_Count_l0_r ?_⟩
      have e1 : Ops.std.iadd .i64 (k : Int) 1 = ((k + 1 : Nat) : Int) := i64_add (b := 1) (by omega)
      simp only [utf_Count_l0_b, xsdec_nat hi, xopt, e1, ha]
      simp [poss, hi]; omega
    · exact ⟨(i : Int), utf_Count_l0_r (by simp only [utf_Count_l0_b, xsdec_end hi, xopt]; simp [poss, hi])⟩
theorem utf_Count_eq {s : ByteArray} (hs : s.size < 4611686018427387904) : utf_Count s = some (((poss s (s.size + 1) 0).length : Nat) : Int) := utf_Count_r (by
  obtain ⟨a, ha⟩ := count_l0 s (s.size + 1) 0 0 (by omega) (by omega)
  have ha : utf_Count_l0 s 0 0 = some (((0 + (poss s (s.size + 1) 0).length : Nat) : Int), a) := ha
  simp only [utf_Count_b, ha, Option.bind_some, Nat.zero_add])
end Go.Ab.Tryz
namespace Go.Ab.Tryz
open Go Go.Ab Go.Proofs Go.Lib
set_option linter.unusedVariables false
set_option linter.unusedSimpArgs false
def piece (s : ByteArray) (i : Nat) : ByteArray := s.extract i (i + (Utf8.decode s i).2)
theorem wid_cases (s : ByteArray) (i : Nat) : (wid s i = 0 ∧ (Utf8.decode s i).2 = 1) ∨ (wid s i ≠ 0 ∧ wid s i = (Utf8.decode s i).2) := by
  unfold wid
  split
  · rename_i h; exact .inl ⟨rfl, by rw [h]⟩
  · have := width_pos s i; exact .inr ⟨by omega, rfl⟩
theorem parts_l0 (s : ByteArray) (hs : s.size < 1000000) : ∀ (n i : Nat) (l : List ByteArray), s.size - i < n → l.length ≤ i → i ≤ s.size → (∀ j, j < s.size → j + (Utf8.decode s j).2 ≤ s.size) → r04_Parts_l0 s (i : Int) l = some (l ++ (poss s n i).map (piece s)) := by
  intro n
  induction n with
  | zero => intro i l h; omega
  | succ n ih =>
    intro i l h hl hi0 hfit
    by_cases hi : i < s.size
    · have hw := width_pos s i
      have hf := hfit i hi
      have hr : ∀ z : ByteArray, xroom vT 16 l [z] = true := fun z => xroom_eq vT (by simp; omega) (by omega)
      have hx := ih (i + (Utf8.decode s i).2) (l ++ [piece s i]) (by omega) (by simp; omega) hf hfit
      have hsub : ∀ w : Nat, i + w ≤ s.size → xssub s (i : Int) ((i + w : Nat) : Int) = some (s.extract i (i + w)) := fun w hwl => by
        show (if 0 ≤ (i : Int) ∧ (i : Int) ≤ ((i + w : Nat) : Int) ∧ ((i + w : Nat) : Int) ≤ (s.size : Int) then some (s.extract (i : Int).toNat ((i + w : Nat) : Int).toNat) else none) = _
        rw [if_pos ⟨by omega, by omega, by omega⟩, Int.toNat_natCast, Int.toNat_natCast]
      refine r04_Parts_l0_r ?_
      unfold r04_Parts_l0_b
      simp only [ilt_dec, bif_dec, slen_nat, Width_eq hi (by omega), Option.bind_some, ieq_dec]
      rw [if_pos (by omega)]
      rcases wid_cases s i with ⟨h1, h2⟩ | ⟨h1, h2⟩
      · have e1 : Ops.std.iadd .i64 (i : Int) 1 = ((i + 1 : Nat) : Int) := i64_add (b := 1) (by omega)
        rw [if_pos (by omega), e1, hsub 1 (by omega), Option.bind_some, hr, cond_true]
        rw [h2] at hx
        simp only [poss, if_pos hi, List.map_cons, h2]
        rw [show s.extract i (i + 1) = piece s i from by unfold piece; rw [h2], hx]
        simp
      · have e1 : Ops.std.iadd .i64 (i : Int) (wid s i : Int) = ((i + wid s i : Nat) : Int) := i64_add (by omega)
        rw [if_neg (by omega), e1, hsub _ (by omega), Option.bind_some, hr, cond_true]
        rw [← h2] at hx
        simp only [poss, if_pos hi, List.map_cons, ← h2]
        rw [show s.extract i (i + wid s i) = piece s i from by unfold piece; rw [h2], hx]
        simp
    · exact r04_Parts_l0_r (by
        unfold r04_Parts_l0_b
        simp only [ilt_dec, bif_dec, slen_nat]
        rw [if_neg (by omega)]
        simp [poss, hi])
theorem fits {s : ByteArray} {i : Nat} (h : i < s.size) : i + (Utf8.decode s i).2 ≤ s.size := by
  rw [decode_at]
  have : ∀ n b0 b1 b2 b3, 1 ≤ n → (decodeN n b0 b1 b2 b3).2 ≤ n := fun n b0 b1 b2 b3 hn => by
    unfold decodeN
    repeat' split
    all_goals (simp only; omega)
  have := this (s.size - i) (s.get! i).toNat (s.get! (i + 1)).toNat (s.get! (i + 2)).toNat (s.get! (i + 3)).toNat (by omega)
  omega
theorem r04_Parts_eq {s : ByteArray} (hs : s.size < 1000000) : r04_Parts s = some ((poss s (s.size + 1) 0).map (piece s)) := r04_Parts_r (by
  have h := parts_l0 s hs (s.size + 1) 0 [] (by omega) (by simp) (by omega) (fun j hj => fits hj)
  have h : r04_Parts_l0 s 0 [] = some ((poss s (s.size + 1) 0).map (piece s)) := h
  simp only [r04_Parts_b, h, Option.bind_some])
end Go.Ab.Tryz
namespace Go.Ab.Tryz
open Go Go.Ab Go.Proofs Go.Lib
set_option linter.unusedVariables false
set_option linter.unusedSimpArgs false
set_option maxRecDepth 100000 in
set_option maxHeartbeats 4000000 in
theorem dec_self {n b0 b1 b2 b3 r w : Nat} (hn : 1 ≤ n) (hd : decodeN n b0 b1 b2 b3 = (r, w)) : decodeN w b0 (if 1 < w then b1 else 0) (if 2 < w then b2 else 0) (if 3 < w then b3 else 0) = (r, w) := by
  unfold decodeN at hd
  repeat' split at hd
  all_goals
    injection hd with e1 e2
    subst e1 e2
    unfold decodeN
    simp only [show ¬ 1 < 1 by omega, show ¬ 2 < 1 by omega, show ¬ 3 < 1 by omega, show 1 < 2 by omega, show ¬ 2 < 2 by omega, show ¬ 3 < 2 by omega, show 1 < 3 by omega, show 2 < 3 by omega, show ¬ 3 < 3 by omega, show 1 < 4 by omega, show 2 < 4 by omega, show 3 < 4 by omega, if_true, if_false, false_and, true_and, and_false]
    repeat' split
    all_goals first | rfl | (exfalso; omega)
end Go.Ab.Tryz
namespace Go.Ab.Tryz
open Go Go.Ab Go.Proofs Go.Lib
set_option linter.unusedVariables false
set_option linter.unusedSimpArgs false
theorem size_ext (s : ByteArray) (i j : Nat) (h : j ≤ s.size) : (s.extract i j).size = j - i := by
  simp [ByteArray.size_extract]; omega
theorem byt_ext (s : ByteArray) (i j k : Nat) (h : j ≤ s.size) (hk : i + k < j) : byt (s.extract i j) k = byt s (i + k) := by
  have h1 : k < (s.extract i j).size := by rw [size_ext s i j h]; omega
  have e1 := xsget_nat h1
  have e2 := xsget_nat (s := s) (i := i + k) (by omega)
  unfold byt
  have g1 : (s.extract i j).get! k = (s.extract i j)[k]'h1 := by
    generalize s.extract i j = z at h1 ⊢
    cases z with
    | mk d => exact getElem!_pos d k h1
  have g2 : s.get! (i + k) = s[i + k]'(by omega) := by
    have h2 : i + k < s.size := by omega
    clear e1 e2 g1 h1
    cases s with
    | mk d => exact getElem!_pos d (i + k) h2
  rw [g1, g2, ByteArray.getElem_extract]
theorem piece_dec {s : ByteArray} {i : Nat} (h : i < s.size) : Utf8.decode (piece s i) 0 = Utf8.decode s i := by
  have hf := fits h
  have hw := width_pos s i
  obtain ⟨r, w, hd⟩ : ∃ r w, Utf8.decode s i = (r, w) := ⟨_, _, rfl⟩
  have hsz : (piece s i).size = w := by unfold piece; rw [size_ext _ _ _ hf, hd]; simp only; omega
  have hb : ∀ k, byt (piece s i) k = if k < w then byt s (i + k) else 0 := fun k => by
    split
    · rename_i hk
      unfold piece
      rw [hd] at hf ⊢
      exact byt_ext s i (i + w) k hf (by omega)
    · exact get!_ge _ _ (by omega)
  rw [hd] at hw ⊢
  rw [decode_at] at hd ⊢
  have b0 := hb 0; have b1 := hb 1; have b2 := hb 2; have b3 := hb 3
  unfold byt at b0 b1 b2 b3
  simp only [Nat.zero_add, Nat.sub_zero, Nat.add_zero] at b0 b1 b2 b3 ⊢
  rw [hsz, b0, b1, b2, b3, if_pos (show 0 < w from hw)]
  exact dec_self (by omega) hd
end Go.Ab.Tryz
namespace Go.Ab.Tryz
open Go Go.Ab Go.Proofs Go.Lib
set_option linter.unusedVariables false
set_option linter.unusedSimpArgs false
theorem wid_stray (s : ByteArray) (i : Nat) : (wid s i = 0) ↔ stray s i = true := by
  unfold wid stray
  have := width_pos s i
  split
  · rename_i h; simp [h]
  · rename_i h; simp [h]; omega
theorem valid_l {l : List ByteArray} (hl : l.length ≤ 4611686018427387904) (hb : ∀ x, x ∈ l → 0 < x.size ∧ x.size < 1000000) : r04_Valid_l0 l 0 = some (bif allI (fun _ x => !stray x 0) 0 l then .inr () else .inl ()) :=
  all_list vT hl (L := fun i => r04_Valid_l0 l i)
    (fun h => r04_Valid_l0_r (by simp [r04_Valid_l0_b, h]))
    (fun n x r hx h1 h2 hp h => r04_Valid_l0_r (by
      have hm := hb x (List.mem_of_getElem? hx)
      have hw : r04_Width x 0 = some (wid x 0 : Int) := Width_eq hm.1 (by omega)
      have hz : ¬ (wid x 0 = 0) := fun h0 => by
        have := (wid_stray x 0).1 h0; simp [this] at hp
      simp [r04_Valid_l0_b, h1, h2, hw, ieq_dec, hz]; exact h))
    (fun n x hx h1 h2 hp => r04_Valid_l0_r (by
      have hm := hb x (List.mem_of_getElem? hx)
      have hw : r04_Width x 0 = some (wid x 0 : Int) := Width_eq hm.1 (by omega)
      have hz : wid x 0 = 0 := (wid_stray x 0).2 (by simpa using hp)
      simp [r04_Valid_l0_b, h1, h2, hw, ieq_dec, hz]))
end Go.Ab.Tryz
namespace Go.Ab.Tryz
open Go Go.Ab Go.Proofs Go.Lib
set_option linter.unusedVariables false
set_option linter.unusedSimpArgs false
theorem poss_in (s : ByteArray) : ∀ (n i : Nat), ∀ j, j ∈ poss s n i → j < s.size := by
  intro n
  induction n with
  | zero => intro i j h; simp [poss] at h
  | succ n ih =>
    intro i j h
    unfold poss at h
    split at h
    · rename_i hi
      rcases List.mem_cons.1 h with rfl | h
      · exact hi
      · exact ih _ j h
    · cases h
theorem allI_all {l : List ByteArray} {p : ByteArray → Bool} : ∀ n, allI (fun _ x => p x) n l = l.all p := by
  induction l with
  | nil => intro n; rfl
  | cons x l ih => intro n; simp [allI, ih]
theorem r04_Valid_eq {s : ByteArray} (hs : s.size < 1000000) : r04_Valid s = some ((poss s (s.size + 1) 0).all fun j => !stray s j) := r04_Valid_r (by
  have hl := poss_len s (s.size + 1) 0
  have hb : ∀ x, x ∈ (poss s (s.size + 1) 0).map (piece s) → 0 < x.size ∧ x.size < 1000000 := fun x hx => by
    obtain ⟨j, hj, rfl⟩ := List.mem_map.1 hx
    have h1 := poss_in s _ _ j hj
    have h2 := fits h1
    have h3 := width_pos s j
    unfold piece
    rw [size_ext _ _ _ h2]; omega
  have hv := valid_l (l := (poss s (s.size + 1) 0).map (piece s)) (by simp; omega) hb
  rw [allI_all] at hv
  have he : ((poss s (s.size + 1) 0).map (piece s)).all (fun x => !stray x 0) = (poss s (s.size + 1) 0).all fun j => !stray s j := by
    rw [List.all_map]
    refine Bool.eq_iff_iff.2 ?_
    simp only [List.all_eq_true, Function.comp]
    refine ⟨fun h j hj => ?_, fun h j hj => ?_⟩
    · have := h j hj; unfold stray at this ⊢; rwa [piece_dec (poss_in s _ _ j hj)] at this
    · have := h j hj; unfold stray at this ⊢; rwa [piece_dec (poss_in s _ _ j hj)]
  rw [he] at hv
  simp only [r04_Valid_b, r04_Parts_eq hs, Option.bind_some, hv]
  cases (poss s (s.size + 1) 0).all fun j => !stray s j <;> rfl)
end Go.Ab.Tryz
namespace Go.Ab.Tryz
open Go Go.Ab Go.Proofs Go.Lib
set_option linter.unusedVariables false
set_option linter.unusedSimpArgs false
def isKey (s : ByteArray) : Bool := decide (0 < s.size ∧ s.size ≤ 96) && ((poss s (s.size + 1) 0).all fun j => !stray s j) && decide ((poss s (s.size + 1) 0).length ≤ 32)
theorem r08_Key_eq {s : ByteArray} (hs : s.size < 1000000) : r08_Key s = some (isKey s) := r08_Key_r (by
  simp only [r08_Key_b, ilt_dec, bif_dec, slen_nat, r04_Valid_eq hs, r04_Parts_eq hs, Option.bind_some, isKey, xlen_eq, List.length_map]
  by_cases h1 : 0 < s.size
  · rw [if_pos (by omega)]
    by_cases h2 : s.size ≤ 96
    · rw [if_pos (by omega)]
      cases (poss s (s.size + 1) 0).all fun j => !stray s j
      · simp
      · simp [h1, h2]; omega
    · rw [if_neg (by omega)]; simp [h2]
  · rw [if_neg (by omega)]; simp [h1])
theorem msg_Key_eq {s : ByteArray} (hs : s.size < 1000000) : msg_Key s = some (isKey s) := msg_Key_r (by
  have h0 : Ops.std.seq s ⟨#[]⟩ = true ↔ s.size = 0 := by
    rw [seq_iff]
    constructor
    · rintro rfl; rfl
    · intro h
      cases s with
      | mk d =>
        have : d.size = 0 := h
        rw [Array.eq_empty_of_size_eq_zero this]
  simp only [msg_Key_b, ile_dec, bif_dec, slen_nat, utf_Valid_eq, utf_Count_eq (show s.size < 4611686018427387904 by omega), Option.bind_some, isKey]
  by_cases h1 : s.size = 0
  · rw [h0.2 h1]; simp [h1]
  · rw [Bool.eq_false_iff.2 (fun h => h1 (h0.1 h)), cond_false]
    by_cases h2 : s.size ≤ 96
    · rw [if_pos (by omega)]
      cases (poss s (s.size + 1) 0).all fun j => !stray s j
      · simp
      · have h3 : 0 < s.size := by omega
        simp only [cond_true, h2, h3, and_self, decide_true, Bool.true_and, Option.some.injEq]
        exact decide_eq_decide.2 ⟨fun h => by omega, fun h => by omega⟩
    · rw [if_neg (by omega)]; simp [h2])
end Go.Ab.Tryz
namespace Go.Ab.Tryz
open Go Go.Ab Go.Proofs Go.Lib
set_option linter.unusedVariables false
set_option linter.unusedSimpArgs false
theorem iltT {a b : Int} (h : a < b) : Ops.std.ilt a b = true := decide_eq_true h
theorem iltF {a b : Int} (h : ¬ a < b) : Ops.std.ilt a b = false := decide_eq_false h
theorem ieqT {a b : Int} (h : a = b) : Ops.std.ieq a b = true := decide_eq_true h
theorem ieqF {a b : Int} (h : ¬ a = b) : Ops.std.ieq a b = false := decide_eq_false h
theorem seq_self (a : ByteArray) : Ops.std.seq a a = true := seq_iff.2 rfl
theorem beq_dec' (a b : Bool) : Ops.std.beq a b = decide (a = b) := by cases a <;> cases b <;> rfl
def n64 (x : BitVec 64) : Int := (x.toNat : Int)
def mc1 : BitVec 64 := 13787848793156543929#64
def mc2 : BitVec 64 := 10723151780598845931#64
def mixB (u : BitVec 64) : BitVec 64 :=
  let a := (u ^^^ (u >>> 30)) * mc1
  let b := (a ^^^ (a >>> 27)) * mc2
  b ^^^ (b >>> 31)
def stepB (n : BitVec 64) (c : Nat) : BitVec 64 := (n ^^^ BitVec.ofNat 64 c) * 1099511628211#64
def iterB (f : BitVec 64 → Nat → BitVec 64) : Nat → Nat → BitVec 64 → BitVec 64
  | 0, _, x => x
  | d + 1, i, x => iterB f d (i + 1) (f x i)
def sumB (s : ByteArray) (d i : Nat) (x : BitVec 64) : BitVec 64 := iterB (fun x i => stepB x (byt s i)) d i x
def basis : BitVec 64 := 14695981039346656037#64
def placeB (s : ByteArray) : BitVec 64 := mixB (sumB s s.size 0 basis)
def hplace (s : ByteArray) : Int := n64 (placeB s)
def upto (a x b : Int) : Bool := decide (a = b) || (decide (x = b) || (decide (x ≠ a) && decide ((x - a) % 18446744073709551616 < (b - a) % 18446744073709551616)))
theorem byt_list {s : ByteArray} {i : Nat} (h : i < s.size) : ∃ x, s.data.toList.drop i = x :: s.data.toList.drop (i + 1) ∧ byt s i = x.toNat := by
  have hl : i < s.data.toList.length := by simpa using h
  refine ⟨s.data.toList[i], List.drop_eq_getElem_cons hl, ?_⟩
  unfold byt
  congr 1
  cases s with
  | mk d =>
    show d[i]! = _
    rw [Array.getElem_toList]
    exact getElem!_pos d i (by simpa using hl)
theorem less_cons (x y : UInt8) (a b : List UInt8) : Op.bytesLess (x :: a) (y :: b) = (decide (x.toNat < y.toNat) || (decide (x.toNat = y.toNat) && Op.bytesLess a b)) := by
  show (decide (x < y) || (x == y && Op.bytesLess a b)) = _
  have e : (x == y) = decide (x.toNat = y.toNat) := by
    rw [Bool.eq_iff_iff, beq_iff_eq, decide_eq_true_eq]
    exact ⟨fun h => by rw [h], fun h => UInt8.toNat_inj.1 h⟩
  rw [e]
  rfl
theorem less_loop {a b : ByteArray} (ha : a.size < 4611686018427387904) : ∀ (k i : Nat), i + k = a.size → i ≤ b.size → ∃ r, r11_Less_l1 a b (i : Int) = some r ∧ (match r with | .inl t => t | .inr _ => Ops.std.ilt (Ops.std.slen a) (Ops.std.slen b)) = Op.bytesLess (a.data.toList.drop i) (b.data.toList.drop i)
  | 0, i, h, hi => by
    refine ⟨.inr (), r11_Less_l1_r ?_, ?_⟩
    · have e : Ops.std.ilt (i : Int) (Ops.std.slen a) = false := iltF (by rw [slen_nat]; omega)
      rw [r11_Less_l1_b, e]; rfl
    · rw [List.drop_of_length_le (by simp; omega : a.data.toList.length ≤ i)]
      show decide ((a.size : Int) < (b.size : Int)) = _
      by_cases hb : i < b.size
      · obtain ⟨y, hy, _⟩ := byt_list hb
        rw [hy, decide_eq_true (by omega)]; rfl
      · rw [List.drop_of_length_le (by simp; omega : b.data.toList.length ≤ i), decide_eq_false (by omega)]; rfl
  | k + 1, i, h, hi => by
    have e : Ops.std.ilt (i : Int) (Ops.std.slen a) = true := iltT (by rw [slen_nat]; omega)
    obtain ⟨x, hx, hxv⟩ := byt_list (s := a) (i := i) (by omega)
    by_cases hb : i < b.size
    · have e2 : Ops.std.ilt (i : Int) (Ops.std.slen b) = true := iltT (by rw [slen_nat]; omega)
      obtain ⟨y, hy, hyv⟩ := byt_list hb
      have g1 := xsget_nat (s := a) (i := i) (by omega)
      have g2 := xsget_nat hb
      have ad : Ops.std.iadd .i64 (i : Int) 1 = ((i + 1 : Nat) : Int) := iadd1 (by omega)
      rw [hx, hy, less_cons, ← hxv, ← hyv]
      by_cases he : byt a i = byt b i
      · obtain ⟨r, hr, hv⟩ := less_loop (a := a) (b := b) ha k (i + 1) (by omega) (by omega)
        have hs0 : r11_Less_s0 a b (i : Int) = some (.inl ((i + 1 : Nat) : Int)) := r11_Less_s0_r (by
          rw [r11_Less_s0_b, g1, g2, ad]
          simp only [Option.bind_some, ieqT (show (byt a i : Int) = byt b i by omega), cond_true])
        refine ⟨r, r11_Less_l1_r ?_, ?_⟩
        · rw [r11_Less_l1_b, e, e2, hs0]; exact hr
        · rw [hv, he]; simp
      · have hs0 : r11_Less_s0 a b (i : Int) = some (.inr (Ops.std.ilt (byt a i : Int) (byt b i : Int))) := r11_Less_s0_r (by
          rw [r11_Less_s0_b, g1, g2, ad]
          simp only [Option.bind_some, ieqF (show ¬ (byt a i : Int) = byt b i by omega), cond_false])
        refine ⟨.inl (Ops.std.ilt (byt a i : Int) (byt b i : Int)), r11_Less_l1_r ?_, ?_⟩
        · rw [r11_Less_l1_b, e, e2, hs0]; rfl
        · simp only [decide_eq_false he, Bool.false_and, Bool.or_false]
          exact decide_eq_decide.2 ⟨fun h => by omega, fun h => by omega⟩
    · have e2 : Ops.std.ilt (i : Int) (Ops.std.slen b) = false := iltF (by rw [slen_nat]; omega)
      refine ⟨.inr (), r11_Less_l1_r (by rw [r11_Less_l1_b, e, e2]; rfl), ?_⟩
      rw [hx, List.drop_of_length_le (by simp; omega : b.data.toList.length ≤ i)]
      show decide ((a.size : Int) < (b.size : Int)) = _
      rw [decide_eq_false (by omega)]; rfl
def lt (a b : ByteArray) : Bool := Op.bytesLess a.data.toList b.data.toList
theorem r11_Less_eq {a b : ByteArray} (ha : a.size < 4611686018427387904) : r11_Less a b = some (lt a b) := r11_Less_r (by
  obtain ⟨r, hr, hv⟩ := less_loop (a := a) (b := b) ha a.size 0 (by omega) (by omega)
  have hr' : r11_Less_l1 a b 0 = some r := hr
  rw [r11_Less_b, hr', Option.bind_some]
  rw [List.drop_zero, List.drop_zero] at hv
  unfold lt
  rw [← hv]
  cases r <;> rfl)
end Go.Ab.Tryz
namespace Go.Ab.Tryz
open Go Go.Ab Go.Proofs Go.Lib
set_option linter.unusedVariables false
set_option linter.unusedSimpArgs false
theorem r08_Pairs_eq {a b : List Pair} (hl : a.length ≤ 1000000) : r08_Pairs a b = some (eqb a b) := r08_Pairs_r (by
  rw [r08_Pairs_b, xlen_eq, xlen_eq]
  by_cases he : a.length = b.length
  · have h := same_list ePair (l := a) (l' := b) (by omega) he (L := fun i => r08_Pairs_l0 a b i) (fun h => r08_Pairs_l0_r (by simp [r08_Pairs_l0_b, h]))
      (fun n x r _ h1 h2 h3 h => r08_Pairs_l0_r (by simp [r08_Pairs_l0_b, h1, h2, h3, seq_self]; exact h))
      (fun n x y _ h1 h2 h3 h => r08_Pairs_l0_r (by
        simp only [r08_Pairs_l0_b, h1, h2, h3, seq_dec, bif_dec, cond_true, Option.bind_some]
        rw [ne_eq, Pair.ext'] at h
        split
        · split
          · exact absurd ⟨‹_›, ‹_›⟩ h
          · rfl
        · rfl))
    rw [ieqT (by omega), cond_true]
    rcases h with ⟨h1, h2⟩ | ⟨h1, h2⟩
    · rw [h2, h1, eqb_self] <;> rfl
    · rw [h2, eqb_ne h1] <;> rfl
  · rw [ieqF (by omega), eqb_ne (fun h => he (by rw [h]))] <;> rfl)
def isAt (key : ByteArray) (p : Pair) : Bool := Ops.std.seq p.key key
def pl (l : List Pair) (key : ByteArray) : Int := fstI (isAt key) l
theorem place_both {l : List Pair} {key : ByteArray} (hl : l.length ≤ 1000) : store_place l key = some (pl l key) ∧ r29_place l key = some (pl l key) := by
  have e1 := find_list ePair (l := l) (by omega) (p := isAt key) (L := fun i => IndexFunc_Pair_2_l0 l key i) (fun h => IndexFunc_Pair_2_l0_r (by simp [IndexFunc_Pair_2_l0_b, h]))
    (fun n x _ h1 h2 hp => IndexFunc_Pair_2_l0_r (by
      have : store_place_1 x key = some (isAt key x) := store_place_1_r rfl
      simp [IndexFunc_Pair_2_l0_b, h1, h2, this, hp]))
    (fun n x r _ h1 h2 hp h => IndexFunc_Pair_2_l0_r (by
      have : store_place_1 x key = some (isAt key x) := store_place_1_r rfl
      simp [IndexFunc_Pair_2_l0_b, h1, h2, this, hp]; exact h))
  have e0 := find_list ePair (l := l) (by omega) (p := isAt key) (L := fun i => r29_place_l0 l key i) (fun h => r29_place_l0_r (by simp [r29_place_l0_b, h]))
    (fun n x _ h1 h2 hp => r29_place_l0_r (by
      have : Ops.std.seq x.key key = true := hp
      simp [r29_place_l0_b, h1, h2, this]))
    (fun n x r _ h1 h2 hp h => r29_place_l0_r (by
      have : Ops.std.seq x.key key = false := hp
      simp [r29_place_l0_b, h1, h2, this]; exact h))
  refine ⟨store_place_r (IndexFunc_Pair_2_r ?_), r29_place_r ?_⟩
  · rw [IndexFunc_Pair_2_b, e1]; unfold pl fstI; cases fst (isAt key) l <;> rfl
  · rw [r29_place_b, e0]; unfold pl fstI; cases fst (isAt key) l <;> rfl
theorem fst_find {p : Pair → Bool} : ∀ {l : List Pair}, match fst p l with
    | some n => ∃ x, l[n]? = some x ∧ l.find? p = some x ∧ p x = true ∧ n < l.length
    | none => l.find? p = none
  | [] => rfl
  | x :: l => by
    have ih := fst_find (p := p) (l := l)
    rw [fst, List.find?_cons]
    cases h : p x with
    | true => exact ⟨x, rfl, rfl, h, by simp⟩
    | false =>
      cases hf : fst p l with
      | none => rw [hf] at ih; exact ih
      | some n =>
        rw [hf] at ih
        obtain ⟨y, h1, h2, h3, h4⟩ := ih
        exact ⟨y, by simpa using h1, h2, h3, by simp; omega⟩
def isUp (key : ByteArray) (p : Pair) : Bool := lt key p.key
def setP (key val : ByteArray) : List Pair → List Pair
  | [] => []
  | x :: l => bif isAt key x then ⟨x.key, val⟩ :: l else x :: setP key val l
def insP (key val : ByteArray) : List Pair → List Pair
  | [] => [⟨key, val⟩]
  | x :: l => bif isUp key x then ⟨key, val⟩ :: x :: l else x :: insP key val l
def put (l : List Pair) (key val : ByteArray) : List Pair × Int :=
  bif isKey key then
    (if 512 < val.size then (l, 5) else
    if 0 ≤ pl l key then (setP key val l, 0) else
    if 64 ≤ l.length then (l, 10) else (insP key val l, 0))
  else (l, 7)
theorem setP_at {key val : ByteArray} : ∀ {l : List Pair} {n : Nat} {x : Pair}, fst (isAt key) l = some n → l[n]? = some x → l.set n ⟨x.key, val⟩ = setP key val l
  | [], n, x, h, _ => by cases h
  | y :: l, n, x, h, hx => by
    rw [fst] at h
    rw [setP]
    cases hy : isAt key y with
    | true =>
      rw [hy] at h
      cases h
      cases hx
      rfl
    | false =>
      rw [hy, cond_false] at h
      cases hf : fst (isAt key) l with
      | none => rw [hf] at h; cases h
      | some m =>
        rw [hf] at h
        cases h
        rw [cond_false, ← setP_at hf (by simpa using hx)]
        rfl
theorem insP_split (key val : ByteArray) (l : List Pair) : insP key val l = match fst (isUp key) l with | some n => l.take n ++ ⟨key, val⟩ :: l.drop n | none => l ++ [⟨key, val⟩] := by
  induction l with
  | nil => rfl
  | cons x l ih =>
    rw [insP, fst]
    cases isUp key x with
    | true => rfl
    | false =>
      rw [cond_false, cond_false, ih]
      cases fst (isUp key) l with
      | none => rfl
      | some n => simp
theorem insP_len (key val : ByteArray) (l : List Pair) : (insP key val l).length = l.length + 1 := by
  induction l with
  | nil => rfl
  | cons x l ih => rw [insP]; cases isUp key x <;> simp [ih]
theorem setP_len (key val : ByteArray) (l : List Pair) : (setP key val l).length = l.length := by
  induction l with
  | nil => rfl
  | cons x l ih => rw [setP]; cases isAt key x <;> simp [ih]
theorem put_len (l : List Pair) (key val : ByteArray) : (put l key val).1.length ≤ max l.length 64 := by
  unfold put
  cases isKey key
  · exact Nat.le_max_left _ _
  · rw [cond_true]
    split
    · exact Nat.le_max_left _ _
    · split
      · rw [setP_len]; exact Nat.le_max_left _ _
      · split
        · exact Nat.le_max_left _ _
        · rw [insP_len]; omega
theorem xsub_take (l : List Pair) (n : Nat) (h : n ≤ l.length) : xsub ePair l 0 (n : Int) = some (l.take n) := by
  rw [xsub_eq, if_pos (by omega)]; simp
theorem xsub_drop (l : List Pair) (n : Nat) (h : n ≤ l.length) : xsub ePair l (n : Int) (xlen ePair l) = some (l.drop n) := by
  rw [xsub_eq, xlen_eq, if_pos (by omega)]; simp
theorem IndexFunc_up {l : List Pair} {key : ByteArray} (hl : l.length ≤ 1000) : IndexFunc_Pair_1 l key = some (fstI (isUp key) l) := IndexFunc_Pair_1_r (by
  have hc : ∀ x, store_Put_1 x key = some (isUp key x) := fun x => store_Put_1_r rfl
  have h := find_list ePair (l := l) (by omega) (p := isUp key) (L := fun i => IndexFunc_Pair_1_l0 l key i) (fun h => IndexFunc_Pair_1_l0_r (by simp [IndexFunc_Pair_1_l0_b, h]))
    (fun n x _ h1 h2 hp => IndexFunc_Pair_1_l0_r (by simp [IndexFunc_Pair_1_l0_b, h1, h2, hc, hp]))
    (fun n x r _ h1 h2 hp h => IndexFunc_Pair_1_l0_r (by simp [IndexFunc_Pair_1_l0_b, h1, h2, hc, hp]; exact h))
  rw [IndexFunc_Pair_1_b, h]
  unfold fstI
  cases fst (isUp key) l <;> rfl)
theorem store_Put_s0_eq {l : List Pair} {key val : ByteArray} (hl : l.length ≤ 1000) : store_Put_s0 l key val = some (insP key val l) := store_Put_s0_r (by
  have hroom : xroom ePair 32 l [⟨key, val⟩] = true := xroom_eq ePair (by simp; omega) (by omega)
  have h0 : xsub ePair l 0 (xlen ePair l) = some l := by
    rw [xlen_eq, xsub_take l l.length (Nat.le_refl _), List.take_length]
  have h1 : xsub ePair l (xlen ePair l) (xlen ePair l) = some [] := by
    have := xsub_drop l l.length (Nat.le_refl _)
    rw [xlen_eq] at this ⊢
    rw [this, List.drop_length]
  rw [store_Put_s0_b, IndexFunc_up hl, Option.bind_some, hroom, insP_split]
  have h := fst_find (p := isUp key) (l := l)
  unfold fstI
  cases hf : fst (isUp key) l with
  | none => simp only [iltT (show (-1 : Int) < 0 by omega), cond_true, h0, h1, Option.bind_some]; simp
  | some n =>
    rw [hf] at h
    obtain ⟨x, hx, _, _, hn⟩ := h
    simp only [iltF (show ¬ (n : Int) < 0 by omega), cond_false, cond_true, xsub_take l n (by omega), xsub_drop l n (by omega), Option.bind_some]; simp)
theorem pl_cases (l : List Pair) (key : ByteArray) : (pl l key = -1 ∧ fst (isAt key) l = none ∧ l.find? (isAt key) = none) ∨ ∃ n x, pl l key = (n : Nat) ∧ fst (isAt key) l = some n ∧ l[n]? = some x ∧ n < l.length ∧ l.find? (isAt key) = some x := by
  have h := fst_find (p := isAt key) (l := l)
  unfold pl fstI
  cases hf : fst (isAt key) l with
  | none => rw [hf] at h; exact .inl ⟨rfl, rfl, h⟩
  | some n =>
    rw [hf] at h
    obtain ⟨x, h1, h2, h3, h4⟩ := h
    exact .inr ⟨n, x, rfl, rfl, h1, h4, h2⟩
theorem ile_0 {a : Int} : Ops.std.ile 0 a = decide (0 ≤ a) := rfl
theorem store_Put_eq {l : List Pair} {key val : ByteArray} (hl : l.length ≤ 1000) (hk : key.size < 1000000) : store_Put l key val = some (put l key val) := store_Put_r (by
  have hroom : xroom ePair 32 [] l = true := xroom_eq ePair (by simp; omega) (by omega)
  rw [store_Put_b, hroom, cond_true, (place_both hl).1, Option.bind_some, msg_Key_eq hk, Option.bind_some]
  unfold put
  cases isKey key with
  | false => rfl
  | true =>
    rw [cond_true, cond_true, slen_nat, ilt_dec, bif_dec]
    by_cases h5 : 512 < val.size
    · rw [if_pos h5, if_pos (by omega)]
    · rw [if_neg h5, if_neg (by omega), ile_0, bif_dec]
      rcases pl_cases l key with ⟨hp, hf, _⟩ | ⟨n, x, hp, hf, hx, hn, _⟩
      · rw [hp, if_neg (by omega), if_neg (by omega), xlen_eq, ile_dec, bif_dec]
        by_cases h64 : 64 ≤ l.length
        · rw [if_pos h64, if_pos (by omega)]
        · rw [if_neg h64, if_neg (by omega), store_Put_s0_eq hl]; rfl
      · rw [hp, if_pos (by omega), if_pos (by omega), xget_nat, hx, Option.bind_some]
        congr 2
        exact setP_at hf hx)
theorem r29_Put_l0_eq {l : List Pair} {key val : ByteArray} (hl : l.length ≤ 1000) (hk : key.size < 1000000) : r29_Put_l0 l key val 0 = some (match fst (isUp key) l with | some n => (n : Int) | none => (l.length : Int)) := by
  have hc : ∀ x : Pair, r11_Less key x.key = some (isUp key x) := fun x => r11_Less_eq (by omega)
  have := for_list (σ := Unit) ePair (l := l) (by omega) (L := fun i _ => r29_Put_l0 l key val i) (res := fun n _ rest => match fst (isUp key) rest with | some m => ((n + m : Nat) : Int) | none => ((n + rest.length : Nat) : Int)) (Inv := fun _ _ => True)
    (fun _ _ h => r29_Put_l0_r (by rw [r29_Put_l0_b, h]; rfl))
    (fun n x rest s _ hn hx hd h1 h2 h3 ih => r29_Put_l0_r (by
      rw [r29_Put_l0_b, h1, h2, cond_true, Option.bind_some, hc, Option.bind_some, fst]
      cases hp : isUp key x with
      | true => rfl
      | false =>
        rw [cond_false, h3, cond_false]
        have := ih () trivial
        rw [this]
        cases fst (isUp key) rest with
        | none => simp only [Option.map_none, List.length_cons]; congr 1; omega
        | some m => simp only [Option.map_some]; congr 1; omega)) () trivial
  rw [this]
  cases fst (isUp key) l <;> simp
theorem r29_Put_eq {l : List Pair} {key val : ByteArray} (hl : l.length ≤ 1000) (hk : key.size < 1000000) : r29_Put l key val = some (put l key val) := r29_Put_r (by
  have hroom : xroom ePair 32 [] l = true := xroom_eq ePair (by simp; omega) (by omega)
  rw [r29_Put_b, r08_Key_eq hk, Option.bind_some]
  unfold put
  cases isKey key with
  | false => rfl
  | true =>
    rw [cond_true, cond_true, slen_nat, ilt_dec, bif_dec]
    by_cases h5 : 512 < val.size
    · rw [if_pos h5, if_pos (by omega)]
    · rw [if_neg h5, if_neg (by omega), (place_both hl).2, Option.bind_some, ile_0, bif_dec]
      rcases pl_cases l key with ⟨hp, hf, _⟩ | ⟨n, x, hp, hf, hx, hn, _⟩
      · rw [hp, if_neg (by omega), if_neg (by omega), xlen_eq, ilt_dec, bif_dec]
        by_cases h64 : 64 ≤ l.length
        · rw [if_pos h64, if_pos (by omega)]
        · rw [if_neg h64, if_neg (by omega), r29_Put_l0_eq hl hk, Option.bind_some]
          have key2 : ∀ n : Nat, n ≤ l.length → ((xsub ePair l 0 (n : Int)).bind fun ys => bif xroom ePair 32 [] ys then (bif xroom ePair 32 ys [(⟨key, val⟩ : Pair)] then (xsub ePair l (n : Int) (xlen ePair l)).bind fun ys1 => bif xroom ePair 32 (ys ++ [(⟨key, val⟩ : Pair)]) ys1 then some (((ys ++ [(⟨key, val⟩ : Pair)]) ++ ys1), (0 : Int)) else none else none) else none) = some (l.take n ++ ⟨key, val⟩ :: l.drop n, 0) := fun n hn => by
            rw [xsub_take l n hn, Option.bind_some, xroom_eq ePair (by simp; omega) (by omega), cond_true, xroom_eq ePair (by simp; omega) (by omega), cond_true, xsub_drop l n hn, Option.bind_some, xroom_eq ePair (by simp; omega) (by omega), cond_true]
            simp
          rw [insP_split]
          have h := fst_find (p := isUp key) (l := l)
          rw [xlen_eq] at key2
          cases hf2 : fst (isUp key) l with
          | none =>
            have := key2 l.length (Nat.le_refl _)
            rw [List.take_length, List.drop_length] at this
            simp only []
            exact this
          | some n =>
            rw [hf2] at h
            obtain ⟨x, hx, _, _, hn⟩ := h
            exact key2 n (by omega)
      · rw [hp, if_pos (by omega), if_pos (by omega), hroom, cond_true, xget_nat, hx, Option.bind_some]
        congr 2
        exact setP_at hf hx)
end Go.Ab.Tryz
namespace Go.Ab.Tryz
open Go Go.Ab Go.Proofs Go.Lib
set_option linter.unusedVariables false
set_option linter.unusedSimpArgs false
def Keys (l : List Pair) : Prop := ∀ p, p ∈ l → p.key.size < 1000000
def un (l : List Pair) : Unit ⊕ (((List Pair) × Int) ⊕ Int) → List Pair × Int
  | .inl () => (l, 0)
  | .inr (.inl r) => r
  | .inr (.inr met) => (l, met)
end Go.Ab.Tryz
namespace Go.Ab.Tryz
open Go Go.Ab Go.Proofs Go.Lib
set_option linter.unusedVariables false
set_option linter.unusedSimpArgs false
def inP (a b : Int) (p : Pair) : Bool := upto a (hplace p.key) b
def rng (l : List Pair) (a b : Int) : List Pair := l.filter (inP a b)
theorem cut8_map {α β : Type} (f : α → β) (xs : List α) : cut8 (xs.map f) = (cut8 xs).map (List.map f) := by
  unfold cut8
  rw [List.length_map, List.map_map]
  apply List.map_congr_left
  intro k _
  simp
theorem xcut_eq {l : List Pair} (hl : l.length ≤ 1000000) : xcut ePair 78 l = some (cut8 l) := by
  refine ask_of ?_
  show (if (l.map ePair).length ≤ 1000000 then some ((cut8 (l.map ePair)).map (AV.lit 78 false)) else none) = _
  rw [if_pos (by rw [List.length_map]; exact hl), cut8_map, List.map_map]
  rfl
theorem cut8_le {l : List Pair} {c : List Pair} (hc : c ∈ cut8 l) : c.length ≤ 8 := by
  unfold cut8 at hc
  obtain ⟨k, _, rfl⟩ := List.mem_map.1 hc
  rw [List.length_take]; omega
theorem cut8_len (l : List Pair) : (cut8 l).length = (l.length + 7) / 8 := by
  unfold cut8; rw [List.length_map, List.length_range]
def large (l : List Pair) : Bool := decide (100 < l.length) || !allI (fun _ p => decide (p.key.size ≤ 300) && decide (p.val.size ≤ 700)) 0 l
theorem large_eq (l : List Pair) : w29_Large l = some (large l) := w29_Large_r (by
  rw [w29_Large_b, xlen_eq]
  unfold large
  by_cases h1 : 100 < l.length
  · rw [iltT (by omega), decide_eq_true h1]; rfl
  · have h := all_list ePair (l := l) (by omega) (p := fun _ p => decide (p.key.size ≤ 300) && decide (p.val.size ≤ 700)) (L := fun i => w29_Large_l0 l i)
      (fun h => w29_Large_l0_r (by simp [w29_Large_l0_b, h]))
      (fun n x r hx h1 h2 hp h => w29_Large_l0_r (by
        rw [Bool.and_eq_true, decide_eq_true_eq, decide_eq_true_eq] at hp
        rw [w29_Large_l0_b, h1, h2, cond_true, Option.bind_some, slen_nat, slen_nat, iltF (by omega), iltF (by omega)]; exact h))
      (fun n x hx h1 h2 hp => w29_Large_l0_r (by
        rw [Bool.and_eq_false_iff, decide_eq_false_iff_not, decide_eq_false_iff_not] at hp
        rw [w29_Large_l0_b, h1, h2, cond_true, Option.bind_some, slen_nat, slen_nat]
        rcases hp with hp | hp
        · rw [iltT (by omega)]; rfl
        · by_cases h3 : 300 < x.key.size
          · rw [iltT (by omega)]; rfl
          · rw [iltF (by omega), cond_false, iltT (by omega)]; rfl))
    rw [h, Option.bind_some, iltF (by omega), decide_eq_false h1, cond_false, Bool.false_or]
    cases allI (fun _ p => decide (p.key.size ≤ 300) && decide (p.val.size ≤ 700)) 0 l <;> rfl)
theorem large_not {l : List Pair} (h : large l = false) : l.length ≤ 100 ∧ Keys l := by
  unfold large at h
  rw [Bool.or_eq_false_iff, decide_eq_false_iff_not, Bool.not_eq_false'] at h
  refine ⟨by omega, fun p hp => ?_⟩
  obtain ⟨i, hi⟩ := List.getElem?_of_mem hp
  have := allI_iff.1 h.2 i p hi
  rw [Bool.and_eq_true, decide_eq_true_eq] at this
  omega
end Go.Ab.Tryz
namespace Go.Ab.Tryz
open Go Go.Ab Go.Proofs Go.Lib
set_option linter.unusedVariables false
set_option linter.unusedSimpArgs false
def kinds0 : List Msg_kind := [⟨⟨#[63]⟩, 0, []⟩, ⟨⟨#[102, 105, 110, 100]⟩, 4, [2, 12]⟩, ⟨⟨#[104, 111, 112]⟩, 18, []⟩, ⟨⟨#[97, 115, 107]⟩, 0, [4]⟩, ⟨⟨#[116, 101, 108, 108]⟩, 282, []⟩, ⟨⟨#[110, 111, 116, 101]⟩, 8, [6]⟩, ⟨⟨#[111, 107, 97, 121]⟩, 0, []⟩, ⟨⟨#[112, 117, 116]⟩, 96, [6, 12]⟩, ⟨⟨#[103, 101, 116]⟩, 32, [9, 12]⟩, ⟨⟨#[103, 111, 116]⟩, 322, []⟩, ⟨⟨#[109, 111, 118, 101]⟩, 130, [6]⟩, ⟨⟨#[112, 105, 110, 103]⟩, 0, [6]⟩, ⟨⟨#[110, 97, 121]⟩, 1, []⟩]
def kindOf (k : Int) : Msg_kind := kinds0[(if 1 ≤ k ∧ k ≤ 12 then k.toNat else 0)]?.getD ⟨⟨#[63]⟩, 0, []⟩
def fl (k : Int) (has : Bool) : Int := if k = 1 then 4 else if k = 2 then 18 else if k = 4 then (bif has then 26 else 18) else if k = 5 then 8 else if k = 7 then 96 else if k = 8 then 32 else if k = 9 then (bif has then 66 else 2) else if k = 10 then 130 else if k = 12 then 1 else 0
end Go.Ab.Tryz
namespace Go.Ab.Tryz
open Go Go.Ab Go.Proofs Go.Lib
set_option linter.unusedVariables false
set_option linter.unusedSimpArgs false
theorem r08_Peers_eq {a b : List Peer} (hl : a.length ≤ 1000000) : r08_Peers a b = some (eqb a b) := r08_Peers_r (by
  rw [r08_Peers_b, xlen_eq, xlen_eq]
  by_cases he : a.length = b.length
  · have h := same_list ePeer (l := a) (l' := b) (by omega) he (L := fun i => r08_Peers_l0 a b i) (fun h => r08_Peers_l0_r (by simp [r08_Peers_l0_b, h]))
      (fun n x r _ h1 h2 h3 h => r08_Peers_l0_r (by simp [r08_Peers_l0_b, h1, h2, h3, ieq_dec]; exact h))
      (fun n x y _ h1 h2 h3 h => r08_Peers_l0_r (by
        simp only [r08_Peers_l0_b, h1, h2, h3, ieq_dec, bif_dec, cond_true, Option.bind_some]
        rw [ne_eq, Peer.ext'] at h
        split
        · split
          · exact absurd ⟨‹_›, ‹_›⟩ h
          · rfl
        · rfl))
    rw [ieqT (by omega), cond_true]
    rcases h with ⟨h1, h2⟩ | ⟨h1, h2⟩
    · rw [h2, h1, eqb_self] <;> rfl
    · rw [h2, eqb_ne h1] <;> rfl
  · rw [ieqF (by omega), eqb_ne (fun h => he (by rw [h]))] <;> rfl)
theorem r08_Same_eq {a b : Msg} (hp : a.peers.length ≤ 1000000) (hq : a.pairs.length ≤ 1000000) : r08_Same a b = some (eqb a b) := r08_Same_r (by
  simp only [r08_Same_b, r08_Peers_eq hp, r08_Pairs_eq hq, Option.bind_some, ieq_dec, beq_dec', seq_dec, bif_dec]
  obtain ⟨k, rid, code, has, id, key, val, ⟨pi, pa⟩, peers, pairs⟩ := a
  obtain ⟨k', rid', code', has', id', key', val', ⟨pi', pa'⟩, peers', pairs'⟩ := b
  simp only [eqb, Msg.mk.injEq, Peer.mk.injEq]
  by_cases c1 : k = k' <;> by_cases c2 : rid = rid' <;> by_cases c3 : code = code' <;> by_cases c4 : has = has' <;> by_cases c5 : id = id' <;> simp only [c1, c2, c3, c4, c5, if_true, if_false, false_and, and_false, decide_false, true_and] <;> first | rfl | skip
  all_goals (by_cases c6 : key = key' <;> by_cases c7 : val = val' <;> by_cases c8 : pi = pi' <;> by_cases c9 : pa = pa' <;> by_cases c10 : peers = peers' <;> by_cases c11 : pairs = pairs' <;> simp_all))
structure Fit (m : Msg) : Prop where
  key : m.key.size < 1000000
  val : m.val.size < 1000000
  peers : m.peers.length ≤ 1000
  pairs : m.pairs.length ≤ 1000
  keys : ∀ p, p ∈ m.pairs → p.key.size < 1000000
end Go.Ab.Tryz
namespace Go.Ab.Tryz
open Go Go.Ab Go.Proofs Go.Lib
set_option linter.unusedVariables false
set_option linter.unusedSimpArgs false
theorem eta2 {α β : Type} {x : Option (α × β)} {p : α × β} (h : x = some p) : x = some (p.1, p.2) := h
structure Sz (n : Node) : Prop where
  pred : n.pred.length ≤ 1000
  list : n.list.length ≤ 1000
  fingers : n.fingers.length ≤ 1000
  store : n.store.length ≤ 200
  pends : n.pends.length ≤ 1000
  jobs : n.jobs.length ≤ 1000
  results : n.results.length ≤ 1000
theorem pend_Copy_eq {n : Node} (h : Sz n) : pend_Copy n = some (n.me.id, n.me.addr, n.clock, n.joined, n.pred, n.list, n.fingers, n.store, n.pends, n.jobs, n.results, n.rid, n.jobID, n.nextBit) := pend_Copy_r (by
  obtain ⟨h1, h2, h3, h4, h5, h6, h7⟩ := h
  rw [pend_Copy_b, xroom_eq eEntry (by simp; omega) (by omega), xroom_eq eEntry (by simp; omega) (by omega), xroom_eq eFinger (by simp; omega) (by omega), xroom_eq ePair (by simp; omega) (by omega), xroom_eq ePend (by simp; omega) (by omega), xroom_eq eJob (by simp; omega) (by omega), xroom_eq eResult (by simp; omega) (by omega)]
  rfl)
def now (n : Node) : Int := if 0 ≤ n.clock ∧ n.clock ≤ 1099511627776 then n.clock else 0
theorem now_both (n : Node) : pend_Now n = some (now n) ∧ r30_Now n = some (now n) := by
  unfold now
  constructor
  · refine pend_Now_r ?_
    simp only [pend_Now_b, ilt_dec, bif_dec]
    (repeat' split) <;> first | rfl | (exfalso; omega)
  · refine r30_Now_r ?_
    simp only [r30_Now_b, ilt_dec, ile_dec, bif_dec]
    (repeat' split) <;> first | rfl | (exfalso; omega) | (congr 1; omega)
theorem msg_Copy_eq {m : Msg} (hp : m.peers.length ≤ 1000000) (hq : m.pairs.length ≤ 1000000) : msg_Copy m = some m := msg_Copy_r (by
  rw [msg_Copy_b, xroom_eq ePeer (by simpa using hp) (by omega), xroom_eq ePair (by simpa using hq) (by omega)]
  rfl)
def askN (n : Node) (to_ : Peer) (m : Msg) (why job : Int) : Node × List Out :=
  if 63 < n.pends.length then (n, []) else
  (⟨n.me, n.clock, n.joined, n.pred, n.list, n.fingers, n.store, n.pends ++ [⟨Ops.std.iadd .u32 n.rid 1, m.kind, why, job, to_, Ops.std.iadd .i64 (now n) 8⟩], n.jobs, n.results, Ops.std.iadd .u32 n.rid 1, n.jobID, n.nextBit⟩,
    [⟨to_, ⟨m.kind, Ops.std.iadd .u32 n.rid 1, m.code, m.has, m.id, m.key, m.val, m.peer, m.peers, m.pairs⟩⟩])
theorem pend_Ask_eq {n : Node} {to_ : Peer} {m : Msg} {why job : Int} (h : Sz n) (hp : m.peers.length ≤ 1000000) (hq : m.pairs.length ≤ 1000000) : pend_Ask n to_ m why job = some (askN n to_ m why job) := pend_Ask_r (by
  have h5 := h.pends
  rw [pend_Ask_b, pend_Copy_eq h, Option.bind_some]
  dsimp only
  rw [xlen_eq, ile_dec, bif_dec, askN]
  by_cases hc : 63 < n.pends.length
  · rw [if_pos (by omega), if_pos hc]
  · rw [if_neg (by omega), if_neg hc, msg_Copy_eq hp hq, Option.bind_some, (now_both _).1, Option.bind_some, xroom_eq ePend (by simp; omega) (by omega)]
    rfl)
theorem r30_Ask_eq {n : Node} {to_ : Peer} {m : Msg} {why job : Int} (h : Sz n) : r30_Ask n to_ m why job = some (askN n to_ m why job) := r30_Ask_r (by
  have h5 := h.pends
  rw [r30_Ask_b, xlen_eq, ilt_dec, bif_dec, askN]
  by_cases hc : 63 < n.pends.length
  · rw [if_pos (by omega), if_pos hc]
  · rw [if_neg (by omega), if_neg hc, xroom_eq ePend (by simp; omega) (by omega), cond_true, (now_both _).2, Option.bind_some, xroom_eq ePend (by simp; omega) (by omega)]
    rfl)
theorem askN_sz {n : Node} {to_ : Peer} {m : Msg} {why job : Int} (h : Sz n) : Sz (askN n to_ m why job).1 ∧ (askN n to_ m why job).2.length ≤ 1 := by
  unfold askN
  split
  · exact ⟨h, by simp⟩
  · exact ⟨⟨h.pred, h.list, h.fingers, h.store, by simp; omega, h.jobs, h.results⟩, by simp⟩
def moveM (fresh : Bool) (c : List Pair) : Msg := ⟨10, 0, 0, fresh, 0, ⟨#[]⟩, ⟨#[]⟩, ⟨0, 0⟩, [], c⟩
def handN (to_ : Peer) (fresh : Bool) : List (List Pair) → Node → Node × List Out
  | [], n => (n, [])
  | c :: cs, n => ((handN to_ fresh cs (askN n to_ (moveM fresh c) 6 0).1).1, (askN n to_ (moveM fresh c) 6 0).2 ++ (handN to_ fresh cs (askN n to_ (moveM fresh c) 6 0).1).2)
theorem handN_sz (to_ : Peer) (fresh : Bool) : ∀ (cs : List (List Pair)) {n : Node}, Sz n → Sz (handN to_ fresh cs n).1 ∧ (handN to_ fresh cs n).2.length ≤ cs.length
  | [], n, h => ⟨h, by simp [handN]⟩
  | c :: cs, n, h => by
    obtain ⟨h1, h2⟩ := askN_sz (to_ := to_) (m := moveM fresh c) (why := 6) (job := 0) h
    obtain ⟨h3, h4⟩ := handN_sz to_ fresh cs h1
    refine ⟨h3, ?_⟩
    simp only [handN, List.length_append, List.length_cons]
    omega
def hand (n : Node) (to_ : Peer) (l : List Pair) (fresh : Bool) : Node × List Out := handN to_ fresh (cut8 l) n
theorem xcut_eq' {l : List Pair} (hl : l.length ≤ 1000000) : xcut ePair 78 l = some (cut8 l) := xcut_eq hl
theorem serve_Hand_eq {n : Node} {to_ : Peer} {l : List Pair} {fresh : Bool} (h : Sz n) (hl : l.length ≤ 1000) : serve_Hand n to_ l fresh = some (hand n to_ l fresh) := serve_Hand_r (by
  have hc : (cut8 l).length ≤ 1000 := by rw [cut8_len]; omega
  have hcs : ∀ c, c ∈ cut8 l → c.length ≤ 8 := fun c hc => cut8_le hc
  rw [serve_Hand_b, pend_Copy_eq h, Option.bind_some]
  dsimp only
  rw [xcut_eq' (by omega), Option.bind_some]
  have := for_list (σ := Node × List Out) (eL 78 ePair) (l := cut8 l) (by omega) (L := fun i s => serve_Hand_l0 to_ fresh (cut8 l) (xlen (eL 78 ePair) (cut8 l)) i s.1 n.pred n.list n.fingers n.store n.pends n.jobs n.results s.2)
    (res := fun k s rest => ((handN to_ fresh rest s.1).1, n.pred, n.list, n.fingers, n.store, n.pends, n.jobs, n.results, s.2 ++ (handN to_ fresh rest s.1).2)) (Inv := fun k s => Sz s.1 ∧ s.2.length ≤ k)
    (fun s hi h0 => serve_Hand_l0_r (by rw [serve_Hand_l0_b, h0]; simp [handN]))
    (fun k x rest s hi hn hx hd h1 h2 h3 ih => serve_Hand_l0_r (by
      have hx8 := hcs x (List.mem_of_getElem? hx)
      obtain ⟨h4, h5⟩ := askN_sz (to_ := to_) (m := moveM fresh x) (why := 6) (job := 0) hi.1
      have h6 := hi.2
      rw [serve_Hand_l0_b, h1, h2, cond_true, Option.bind_some]
      rw [show (⟨10, 0, 0, fresh, 0, ⟨#[]⟩, ⟨#[]⟩, ⟨0, 0⟩, [], x⟩ : Msg) = moveM fresh x from rfl, eta2 (pend_Ask_eq hi.1 (by simp [moveM]) (by simp [moveM]; omega)), Option.bind_some]
      dsimp only
      rw [xroom_eq eOut (by omega) (by omega), cond_true, h3]
      rw [ih ((askN s.1 to_ (moveM fresh x) 6 0).1, s.2 ++ (askN s.1 to_ (moveM fresh x) 6 0).2) ⟨h4, by simp only [List.length_append]; omega⟩]
      simp only [handN, List.append_assoc])) (n, []) ⟨h, by simp⟩
  dsimp only at this
  have e : (⟨⟨n.me.id, n.me.addr⟩, n.clock, n.joined, n.pred, n.list, n.fingers, n.store, n.pends, n.jobs, n.results, n.rid, n.jobID, n.nextBit⟩ : Node) = n := rfl
  rw [e, this, Option.bind_some]
  simp [hand])
theorem r33_Hand_eq {n : Node} {to_ : Peer} {l : List Pair} {fresh : Bool} (h : Sz n) (hl : l.length ≤ 1000) : r33_Hand n to_ l fresh = some (hand n to_ l fresh) := r33_Hand_r (by
  have hc : (cut8 l).length ≤ 1000 := by rw [cut8_len]; omega
  rw [r33_Hand_b, xcut_eq' (by omega), Option.bind_some]
  have := for_list (σ := Node × List Out) (eL 78 ePair) (l := cut8 l) (by omega) (L := fun i s => r33_Hand_l0 to_ fresh (cut8 l) i s.1 s.2)
    (res := fun k s rest => ((handN to_ fresh rest s.1).1, s.2 ++ (handN to_ fresh rest s.1).2)) (Inv := fun k s => Sz s.1 ∧ s.2.length ≤ k)
    (fun s hi h0 => r33_Hand_l0_r (by rw [r33_Hand_l0_b, h0]; simp [handN]))
    (fun k x rest s hi hn hx hd h1 h2 h3 ih => r33_Hand_l0_r (by
      obtain ⟨h4, h5⟩ := askN_sz (to_ := to_) (m := moveM fresh x) (why := 6) (job := 0) hi.1
      have h6 := hi.2
      rw [r33_Hand_l0_b, h1, h2, cond_true, Option.bind_some]
      rw [show (⟨10, 0, 0, fresh, 0, ⟨#[]⟩, ⟨#[]⟩, ⟨0, 0⟩, [], x⟩ : Msg) = moveM fresh x from rfl, eta2 (r30_Ask_eq hi.1), Option.bind_some]
      dsimp only
      rw [xroom_eq eOut (by omega) (by omega), cond_true, h3]
      rw [ih ((askN s.1 to_ (moveM fresh x) 6 0).1, s.2 ++ (askN s.1 to_ (moveM fresh x) 6 0).2) ⟨h4, by simp only [List.length_append]; omega⟩]
      simp only [handN, List.append_assoc])) (n, []) ⟨h, by simp⟩
  rw [this]
  simp [hand])
theorem hand_sz {n : Node} {to_ : Peer} {l : List Pair} {fresh : Bool} (h : Sz n) (hl : l.length ≤ 1000) : Sz (hand n to_ l fresh).1 ∧ (hand n to_ l fresh).2.length ≤ 126 := by
  obtain ⟨h1, h2⟩ := handN_sz to_ fresh (cut8 l) h
  exact ⟨h1, Nat.le_trans h2 (by rw [cut8_len]; omega)⟩
def keepN (key val : ByteArray) : List Peer → Node → Node × List Out
  | [], n => (n, [])
  | p :: ps, n => ((keepN key val ps (hand n p [⟨key, val⟩] true).1).1, (hand n p [⟨key, val⟩] true).2 ++ (keepN key val ps (hand n p [⟨key, val⟩] true).1).2)
def withStore (n : Node) (l : List Pair) : Node := ⟨n.me, n.clock, n.joined, n.pred, n.list, n.fingers, l, n.pends, n.jobs, n.results, n.rid, n.jobID, n.nextBit⟩
def keep' (n : Node) (key val : ByteArray) : Node × List Out × Int :=
  if (put n.store key val).2 = 0 then ((keepN key val ((Pe.firms n.list).take 2) (withStore n (put n.store key val).1)).1, (keepN key val ((Pe.firms n.list).take 2) (withStore n (put n.store key val).1)).2, 0)
  else (n, [], (put n.store key val).2)
theorem hand1_sz {n : Node} {p : Peer} {q : Pair} {fresh : Bool} (h : Sz n) : Sz (hand n p [q] fresh).1 ∧ (hand n p [q] fresh).2.length ≤ 1 := by
  obtain ⟨h1, h2⟩ := handN_sz p fresh (cut8 [q]) h
  exact ⟨h1, Nat.le_trans h2 (by rw [cut8_len]; simp)⟩
theorem keepN_sz (key val : ByteArray) : ∀ (ps : List Peer) {n : Node}, Sz n → Sz (keepN key val ps n).1 ∧ (keepN key val ps n).2.length ≤ ps.length
  | [], n, h => ⟨h, by simp [keepN]⟩
  | p :: ps, n, h => by
    obtain ⟨h1, h2⟩ := hand1_sz (p := p) (q := ⟨key, val⟩) (fresh := true) h
    obtain ⟨h3, h4⟩ := keepN_sz key val ps h1
    refine ⟨h3, ?_⟩
    simp only [keepN, List.length_append, List.length_cons]
    omega
theorem withStore_sz {n : Node} {l : List Pair} (h : Sz n) (hl : l.length ≤ 200) : Sz (withStore n l) := ⟨h.pred, h.list, h.fingers, hl, h.pends, h.jobs, h.results⟩
theorem put_sz {n : Node} (h : Sz n) (key val : ByteArray) : Sz (withStore n (put n.store key val).1) := withStore_sz h (by have := put_len n.store key val; have := h.store; omega)
theorem xsub_takeP (l : List Peer) (n : Nat) (h : n ≤ l.length) : xsub ePeer l 0 (n : Int) = some (l.take n) := by
  rw [xsub_eq, if_pos (by omega)]; simp
theorem serve_Keep_eq {n : Node} {key val : ByteArray} (h : Sz n) (hk : key.size < 1000000) : serve_Keep n key val = some (keep' n key val) := serve_Keep_r (by
  have hs := h.store
  have hf := Pe.firms_le n.list
  have hll := h.list
  have hz := put_sz h key val
  rw [serve_Keep_b, pend_Copy_eq h, Option.bind_some]
  dsimp only
  rw [store_Put_eq (by omega) hk, keep']
  obtain ⟨⟨q, e⟩, hq⟩ : ∃ z, put n.store key val = z := ⟨_, rfl⟩
  rw [hq] at hz ⊢
  rw [Option.bind_some]
  dsimp only at hz ⊢
  by_cases he : e = 0
  · rw [if_pos he, ieqT he, cond_true, (Pe.some_eq hll).1, Option.bind_some]
    have loop : ∀ (ys : List Peer), ys.length ≤ 2 → serve_Keep_l0 key val ys (xlen ePeer ys) 0 (withStore n q) n.pred n.list n.fingers n.store n.pends n.jobs n.results (Pe.firms n.list) [] = some ((keepN key val ys (withStore n q)).1, n.pred, n.list, n.fingers, n.store, n.pends, n.jobs, n.results, Pe.firms n.list, (keepN key val ys (withStore n q)).2) := fun ys hy => by
      have := for_list (σ := Node × List Out) ePeer (l := ys) (by omega) (L := fun i s => serve_Keep_l0 key val ys (xlen ePeer ys) i s.1 n.pred n.list n.fingers n.store n.pends n.jobs n.results (Pe.firms n.list) s.2)
        (res := fun k s rest => ((keepN key val rest s.1).1, n.pred, n.list, n.fingers, n.store, n.pends, n.jobs, n.results, Pe.firms n.list, s.2 ++ (keepN key val rest s.1).2)) (Inv := fun k s => Sz s.1 ∧ s.2.length ≤ k)
        (fun s hi h0 => serve_Keep_l0_r (by rw [serve_Keep_l0_b, h0]; simp [keepN]))
        (fun k x rest s hi hn hx hd h1 h2 h3 ih => serve_Keep_l0_r (by
          obtain ⟨h4, h5⟩ := hand1_sz (p := x) (q := ⟨key, val⟩) (fresh := true) hi.1
          have h6 := hi.2
          rw [serve_Keep_l0_b, h1, h2, cond_true, Option.bind_some, eta2 (serve_Hand_eq hi.1 (by simp)), Option.bind_some]
          dsimp only
          rw [xroom_eq eOut (by omega) (by omega), cond_true, h3]
          rw [ih ((hand s.1 x [⟨key, val⟩] true).1, s.2 ++ (hand s.1 x [⟨key, val⟩] true).2) ⟨h4, by simp only [List.length_append]; omega⟩]
          simp only [keepN, List.append_assoc])) (withStore n q, []) ⟨hz, by simp⟩
      simpa using this
    have e0 : (⟨⟨n.me.id, n.me.addr⟩, n.clock, n.joined, n.pred, n.list, n.fingers, q, n.pends, n.jobs, n.results, n.rid, n.jobID, n.nextBit⟩ : Node) = withStore n q := rfl
    rw [e0, xlen_eq, ilt_dec, bif_dec]
    by_cases h2 : 2 < (Pe.firms n.list).length
    · rw [if_pos (by omega), show (2 : Int) = ((2 : Nat) : Int) from rfl, xsub_takeP _ 2 (by omega), Option.bind_some, loop _ (by rw [List.length_take]; omega), Option.bind_some]
    · rw [if_neg (by omega), xsub_takeP _ _ (Nat.le_refl _), Option.bind_some, List.take_length, loop _ (by omega), Option.bind_some, List.take_of_length_le (by omega)]
  · rw [if_neg he, ieqF he, cond_false])
theorem r33_Keep_eq {n : Node} {key val : ByteArray} (h : Sz n) (hk : key.size < 1000000) : r33_Keep n key val = some (keep' n key val) := r33_Keep_r (by
  have hs := h.store
  have hf := Pe.firms_le n.list
  have hll := h.list
  have hz := put_sz h key val
  rw [r33_Keep_b, r29_Put_eq (by omega) hk, keep']
  obtain ⟨⟨q, e⟩, hq⟩ : ∃ z, put n.store key val = z := ⟨_, rfl⟩
  rw [hq] at hz ⊢
  rw [Option.bind_some]
  dsimp only at hz ⊢
  by_cases he : e = 0
  · rw [if_pos he, ieqT he, cond_true, (Pe.some_eq hll).2.1, Option.bind_some]
    have e0 : (⟨n.me, n.clock, n.joined, n.pred, n.list, n.fingers, q, n.pends, n.jobs, n.results, n.rid, n.jobID, n.nextBit⟩ : Node) = withStore n q := rfl
    rw [e0]
    have loop : ∀ (ps : List Peer) (k : Nat) (m : Node) (o : List Out), Sz m → o.length ≤ k → k ≤ 2 → (Pe.firms n.list).drop k = ps → r33_Keep_l1 key val (k : Int) m o (Pe.firms n.list) = some ((keepN key val (ps.take (2 - k)) m).1, o ++ (keepN key val (ps.take (2 - k)) m).2, Pe.firms n.list) := by
      intro ps
      induction ps with
      | nil =>
        intro k m o hm ho hk2 hd
        have hle : (Pe.firms n.list).length ≤ k := by simpa using hd
        refine r33_Keep_l1_r ?_
        rw [r33_Keep_l1_b, ilt_len, bif_dec, if_neg (by omega)]
        simp [keepN]
      | cons p ps ih =>
        intro k m o hm ho hk2 hd
        have hlt : k < (Pe.firms n.list).length := by
          rcases Nat.lt_or_ge k (Pe.firms n.list).length with h1 | h1
          · exact h1
          · rw [List.drop_eq_nil_of_le h1] at hd; cases hd
        have hx : (Pe.firms n.list)[k]? = some p := by
          have : ((Pe.firms n.list).drop k)[0]? = some p := by rw [hd]; rfl
          simpa using this
        have hd2 : (Pe.firms n.list).drop (k + 1) = ps := by
          rw [← List.drop_drop, hd]; rfl
        refine r33_Keep_l1_r ?_
        rw [r33_Keep_l1_b, ilt_len, bif_dec, if_pos hlt, ilt_dec, bif_dec]
        by_cases hk3 : k < 2
        · rw [if_pos (by omega)]
          obtain ⟨h4, h5⟩ := hand1_sz (p := p) (q := ⟨key, val⟩) (fresh := true) hm
          have hs0 : r33_Keep_s0 key val (k : Int) m o (Pe.firms n.list) = some (((k + 1 : Nat) : Int), (hand m p [⟨key, val⟩] true).1, o ++ (hand m p [⟨key, val⟩] true).2, Pe.firms n.list) := r33_Keep_s0_r (by
            rw [r33_Keep_s0_b, xget_nat, hx, Option.bind_some, eta2 (r33_Hand_eq hm (by simp)), Option.bind_some]
            dsimp only
            rw [xroom_eq eOut (by omega) (by omega), cond_true]
            rw [show Ops.std.iadd .i64 (k : Int) 1 = ((k + 1 : Nat) : Int) from iadd1 (by omega)])
          rw [hs0, Option.bind_some]
          dsimp only
          rw [ih (k + 1) _ _ h4 (by simp only [List.length_append]; omega) (by omega) hd2, show 2 - k = (2 - (k + 1)) + 1 by omega]
          simp only [List.take_succ_cons, keepN, List.append_assoc]
        · rw [if_neg (by omega), show 2 - k = 0 by omega]
          simp [keepN]
    have := loop (Pe.firms n.list) 0 (withStore n q) [] hz (by simp) (by omega) rfl
    rw [show ((0 : Nat) : Int) = 0 from rfl] at this
    rw [this, Option.bind_some]
    simp
  · rw [if_neg he, ieqF he, cond_false])
theorem keep_sz {n : Node} {key val : ByteArray} (h : Sz n) : Sz (keep' n key val).1 ∧ (keep' n key val).2.1.length ≤ 2 := by
  unfold keep'
  split
  · obtain ⟨h1, h2⟩ := keepN_sz key val ((Pe.firms n.list).take 2) (put_sz h key val)
    exact ⟨h1, Nat.le_trans h2 (by rw [List.length_take]; omega)⟩
  · exact ⟨h, by simp⟩
theorem beq_self (a : Bool) : Ops.std.beq a a = true := by cases a <;> rfl
theorem r28_Same_self {l : List Finger} (hl : l.length ≤ 1000) : r28_Same l l = some true := r28_Same_r (by
  have := for_list (σ := Unit) eFinger (l := l) (by omega) (L := fun i _ => r28_Same_l0 l l i) (res := fun _ _ _ => .inr ()) (Inv := fun _ _ => True)
    (fun _ _ h => r28_Same_l0_r (by rw [r28_Same_l0_b, h]; rfl))
    (fun n x rest s _ hn hx hd h1 h2 h3 ih => r28_Same_l0_r (by
      simp only [r28_Same_l0_b, h1, h2, cond_true, Option.bind_some, ieqT, h3]; exact ih () trivial)) () trivial
  rw [r28_Same_b, ieqT rfl, cond_true, this]; rfl)
theorem r30_Pends_self {l : List Pend} (hl : l.length ≤ 1000) : r30_Pends l l = some true := r30_Pends_r (by
  have := for_list (σ := Unit) ePend (l := l) (by omega) (L := fun i _ => r30_Pends_l0 l l i) (res := fun _ _ _ => .inr ()) (Inv := fun _ _ => True)
    (fun _ _ h => r30_Pends_l0_r (by rw [r30_Pends_l0_b, h]; rfl))
    (fun n x rest s _ hn hx hd h1 h2 h3 ih => r30_Pends_l0_r (by
      simp only [r30_Pends_l0_b, h1, h2, cond_true, Option.bind_some, ieqT, h3]; exact ih () trivial)) () trivial
  rw [r30_Pends_b, ieqT rfl, cond_true, this]; rfl)
theorem r30_jobs_self {n : Node} (hj : n.jobs.length ≤ 1000) (hr : n.results.length ≤ 1000) : r30_jobs n n = some true := r30_jobs_r (by
  have e0 := for_list (σ := Unit) eJob (l := n.jobs) (by omega) (L := fun i _ => r30_jobs_l0 n n i) (res := fun _ _ _ => .inr ()) (Inv := fun _ _ => True)
    (fun _ _ h => r30_jobs_l0_r (by rw [r30_jobs_l0_b, h]; rfl))
    (fun k x rest s _ hn hx hd h1 h2 h3 ih => r30_jobs_l0_r (by
      simp only [r30_jobs_l0_b, h1, h2, cond_true, Option.bind_some, ieqT, seq_self, beq_self, h3]; exact ih () trivial)) () trivial
  have e1 := for_list (σ := Unit) eResult (l := n.results) (by omega) (L := fun i _ => r30_jobs_l1 n n i) (res := fun _ _ _ => .inr ()) (Inv := fun _ _ => True)
    (fun _ _ h => r30_jobs_l1_r (by rw [r30_jobs_l1_b, h]; rfl))
    (fun k x rest s _ hn hx hd h1 h2 h3 ih => r30_jobs_l1_r (by
      simp only [r30_jobs_l1_b, h1, h2, cond_true, Option.bind_some, ieqT, seq_self, beq_self, h3]; exact ih () trivial)) () trivial
  rw [r30_jobs_b, ieqT rfl, ieqT rfl, cond_true, cond_true]
  refine r30_jobs_s2_r ?_
  rw [r30_jobs_s2_b, e0, Option.bind_some]
  dsimp only
  rw [e1]; rfl)
theorem r30_Same_self {n : Node} (h : Sz n) : r30_Same n n = some true := r30_Same_r (by
  have h1 : r30_Same_s0 n n = some true := r30_Same_s0_r (by
    rw [r30_Same_s0_b, r08_Pairs_eq (by have := h.store; omega), Option.bind_some, eqb_self, cond_true, r30_Pends_self h.pends, Option.bind_some, cond_true, r30_jobs_self h.jobs h.results])
  have h2 : r30_Same_s1 n n = some true := r30_Same_s1_r (by
    rw [r30_Same_s1_b, Pe.r27_Same_eq h.pred, Option.bind_some, eqb_self, cond_true, Pe.r27_Same_eq h.list, Option.bind_some, eqb_self, cond_true, r28_Same_self h.fingers, Option.bind_some, cond_true, h1])
  simp only [r30_Same_b, ieqT, beq_self, cond_true, h2])
def OutsFit (l : List Out) : Prop := l.length ≤ 1000 ∧ ∀ o, o ∈ l → o.msg.peers.length ≤ 1000000 ∧ o.msg.pairs.length ≤ 1000000
theorem r30_Outs_self {l : List Out} (h : OutsFit l) : r30_Outs l l = some true := r30_Outs_r (by
  have := for_list (σ := Unit) eOut (l := l) (by have := h.1; omega) (L := fun i _ => r30_Outs_l0 l l i) (res := fun _ _ _ => .inr ()) (Inv := fun _ _ => True)
    (fun _ _ h => r30_Outs_l0_r (by rw [r30_Outs_l0_b, h]; rfl))
    (fun k x rest s _ hn hx hd h1 h2 h3 ih => r30_Outs_l0_r (by
      obtain ⟨hp, hq⟩ := h.2 x (List.mem_of_getElem? hx)
      simp only [r30_Outs_l0_b, h1, h2, cond_true, Option.bind_some, ieqT, r08_Same_eq hp hq, eqb_self, h3]; exact ih () trivial)) () trivial
  rw [r30_Outs_b, ieqT rfl, cond_true, this]; rfl)
end Go.Ab.Tryz
namespace Go.Ab.Tryz
open Go Go.Ab Go.Proofs Go.Lib
open Pe (dist PeOk)
set_option linter.unusedVariables false
set_option linter.unusedSimpArgs false
def btw (a x b : Int) : Bool := decide (x ≠ a) && (decide (a = b) || decide (dist a x < dist a b))
def hLe (me : Peer) (x y : Peer) : Bool := !hopLt me.id (y.id, y.addr) (x.id, x.addr)
def hSort (me : Peer) (l : List Peer) : List Peer := l.mergeSort (hLe me)
def bef (me y p : Peer) : Bool := decide (dist me.id p.id < dist me.id y.id) || (decide (dist me.id y.id = dist me.id p.id) && decide (y.addr < p.addr))
def insH (me p : Peer) : List Peer → List Peer
  | [] => [p]
  | y :: r => if bef me y p = true then y :: insH me p r else p :: y :: r
def insAll (me : Peer) (out cs : List Peer) : List Peer := cs.foldl (fun o p => insH me p o) out
def has (l : List Peer) (a : Int) : Bool := l.any fun q => decide (q.addr = a)
def filt (me : Peer) (key : Int) : List Peer → List Peer → List Peer
  | _, [] => []
  | pre, p :: r => if has pre p.addr = false ∧ p.addr ≠ me.addr ∧ btw me.id p.id key = true then p :: filt me key (pre ++ [p]) r else filt me key (pre ++ [p]) r
def allP (l : List Entry) (f : List Finger) : List Peer := Pe.firms l ++ f.map Finger.peer
def hops (me : Peer) (l : List Entry) (f : List Finger) (key most : Int) : List Peer := (hSort me (filt me key [] (allP l f))).take most.toNat
end Go.Ab.Tryz
namespace Go.Ab.Tryz
open Go Go.Ab Go.Proofs Go.Lib
open Pe (dist PeOk EnOk)
set_option linter.unusedVariables false
set_option linter.unusedSimpArgs false
structure NOk (n : Node) : Prop where
  me : PeOk n.me
  pred : EnOk n.pred
  list : EnOk n.list
  fingers : ∀ x, x ∈ n.fingers → PeOk x.peer
end Go.Ab.Tryz
namespace Go.Ab.Tryz
open Go Go.Ab Go.Proofs Go.Lib
open Pe (dist PeOk EnOk)
set_option linter.unusedVariables false
set_option linter.unusedSimpArgs false
structure MSz (M : Msg) : Prop where
  key : M.key.size < 1000000
  pairs : M.pairs.length ≤ 1000
  keys : Keys M.pairs
structure MPl (M : Msg) : Prop where
  id : 0 ≤ M.id ∧ M.id < 18446744073709551616
  peer : PeOk M.peer
end Go.Ab.Tryz
namespace Go.Ab.Tryz
open Go Go.Ab Go.Proofs Go.Lib
open Pe (dist PeOk EnOk)
set_option linter.unusedVariables false
set_option linter.unusedSimpArgs false
def MFit (m : Msg) : Prop := m.peers.length ≤ 1000000 ∧ m.pairs.length ≤ 1000000
def AFit (l : List Out) : Prop := ∀ o, o ∈ l → MFit o.msg
theorem AFit.nil : AFit [] := fun o ho => by cases ho
theorem AFit.one {o : Out} (h : MFit o.msg) : AFit [o] := fun q hq => by rw [List.mem_singleton.1 hq]; exact h
theorem AFit.cons {o : Out} {l : List Out} (h : MFit o.msg) (hl : AFit l) : AFit (o :: l) := fun q hq => by
  rcases List.mem_cons.1 hq with e | e
  · rw [e]; exact h
  · exact hl q e
theorem AFit.app {a b : List Out} (ha : AFit a) (hb : AFit b) : AFit (a ++ b) := fun q hq => (List.mem_append.1 hq).elim (ha q) (hb q)
theorem askN_fit {n : Node} {to_ : Peer} {m : Msg} {why job : Int} (h : MFit m) : AFit (askN n to_ m why job).2 := by
  unfold askN
  split
  · exact AFit.nil
  · exact AFit.one h
theorem handN_fit (to_ : Peer) (fresh : Bool) : ∀ (cs : List (List Pair)) (n : Node), (∀ c, c ∈ cs → c.length ≤ 1000000) → AFit (handN to_ fresh cs n).2
  | [], n, h => AFit.nil
  | c :: cs, n, h => AFit.app (askN_fit ⟨Nat.zero_le _, h c (by simp)⟩) (handN_fit to_ fresh cs _ fun x hx => h x (by simp [hx]))
theorem hand_fit {n : Node} {to_ : Peer} {l : List Pair} {fresh : Bool} : AFit (hand n to_ l fresh).2 := handN_fit to_ fresh (cut8 l) n fun c hc => by have := cut8_le hc; omega
theorem keepN_fit (key val : ByteArray) : ∀ (ps : List Peer) (n : Node), AFit (keepN key val ps n).2
  | [], n => AFit.nil
  | p :: ps, n => AFit.app hand_fit (keepN_fit key val ps _)
theorem keep_fit {n : Node} {key val : ByteArray} : AFit (keep' n key val).2.1 := by
  unfold keep'
  split
  · exact keepN_fit key val _ _
  · exact AFit.nil
def bigJ (x : Job) : Bool := decide (300 < x.key.size) || decide (700 < x.val.size)
def bigR (x : Result) : Bool := decide (300 < x.key.size) || decide (700 < x.val.size)
theorem nlarge_l0 {n : Node} (h : n.jobs.length ≤ 1000) : w30_Large_l0 n 0 = some (bif n.jobs.any bigJ then .inl () else .inr ()) :=
  for_list (σ := Unit) eJob (l := n.jobs) (by omega) (L := fun i _ => w30_Large_l0 n i) (res := fun _ _ rest => bif rest.any bigJ then .inl () else .inr ()) (Inv := fun _ _ => True)
    (fun _ _ hh => w30_Large_l0_r (by rw [w30_Large_l0_b, hh] <;> rfl))
    (fun k x rest s _ hn hx hd h1 h2 h3 ih => w30_Large_l0_r (by
      rw [w30_Large_l0_b, h1, cond_true, h2, Option.bind_some, slen_nat, slen_nat, List.any_cons, bigJ]
      by_cases a : 300 < x.key.size
      · rw [iltT (by omega), decide_eq_true a] <;> rfl
      · rw [iltF (by omega), decide_eq_false a, cond_false]
        by_cases b : 700 < x.val.size
        · rw [iltT (by omega), decide_eq_true b] <;> rfl
        · rw [iltF (by omega), decide_eq_false b, cond_false, h3, ih () trivial] <;> rfl)) () trivial
theorem nlarge_l1 {n : Node} (h : n.results.length ≤ 1000) : w30_Large_l1 n 0 = some (bif n.results.any bigR then .inl () else .inr ()) :=
  for_list (σ := Unit) eResult (l := n.results) (by omega) (L := fun i _ => w30_Large_l1 n i) (res := fun _ _ rest => bif rest.any bigR then .inl () else .inr ()) (Inv := fun _ _ => True)
    (fun _ _ hh => w30_Large_l1_r (by rw [w30_Large_l1_b, hh] <;> rfl))
    (fun k x rest s _ hn hx hd h1 h2 h3 ih => w30_Large_l1_r (by
      rw [w30_Large_l1_b, h1, cond_true, h2, Option.bind_some, slen_nat, slen_nat, List.any_cons, bigR]
      by_cases a : 300 < x.key.size
      · rw [iltT (by omega), decide_eq_true a] <;> rfl
      · rw [iltF (by omega), decide_eq_false a, cond_false]
        by_cases b : 700 < x.val.size
        · rw [iltT (by omega), decide_eq_true b] <;> rfl
        · rw [iltF (by omega), decide_eq_false b, cond_false, h3, ih () trivial] <;> rfl)) () trivial
structure Sm (n : Node) : Prop where
  pred : n.pred.length ≤ 5
  list : n.list.length ≤ 40
  fingers : n.fingers.length ≤ 80
  pends : n.pends.length ≤ 100
  jobs : n.jobs.length ≤ 20
  results : n.results.length ≤ 40
  store : n.store.length ≤ 100
  keys : Keys n.store
theorem Sm.sz {n : Node} (h : Sm n) : Sz n := by
  obtain ⟨h1, h2, h3, h4, h5, h6, h7, _⟩ := h
  exact ⟨by omega, by omega, by omega, by omega, by omega, by omega, by omega⟩
theorem nlarge_eq (n : Node) : ∃ b, w30_Large n = some b ∧ (b = false → Sm n) := by
  refine Exists.elim (?_ : ∃ b, w30_Large_b n = some b ∧ (b = false → Sm n)) fun b hb => ⟨b, w30_Large_r hb.1, hb.2⟩
  rw [w30_Large_b, xlen_eq, xlen_eq, xlen_eq, xlen_eq, xlen_eq, xlen_eq, ilt_dec, ilt_dec, ilt_dec, ilt_dec, ilt_dec, ilt_dec, bif_dec, bif_dec, bif_dec, bif_dec, bif_dec, bif_dec, large_eq, Option.bind_some]
  have no : ∃ b, some true = some b ∧ (b = false → Sm n) := ⟨true, rfl, fun h => by cases h⟩
  by_cases h1 : (5 : Int) < (n.pred.length : Int)
  · rw [if_pos h1]; exact no
  rw [if_neg h1]
  by_cases h2 : (40 : Int) < (n.list.length : Int)
  · rw [if_pos h2]; exact no
  rw [if_neg h2]
  by_cases h3 : (80 : Int) < (n.fingers.length : Int)
  · rw [if_pos h3]; exact no
  rw [if_neg h3]
  by_cases h4 : (100 : Int) < (n.pends.length : Int)
  · rw [if_pos h4]; exact no
  rw [if_neg h4]
  by_cases h5 : (20 : Int) < (n.jobs.length : Int)
  · rw [if_pos h5]; exact no
  rw [if_neg h5]
  by_cases h6 : (40 : Int) < (n.results.length : Int)
  · rw [if_pos h6]; exact no
  rw [if_neg h6]
  cases h7 : large n.store with
  | true => exact no
  | false =>
    obtain ⟨h8, h9⟩ := large_not h7
    have e : w30_Large_s2 n = some (bif n.jobs.any bigJ then true else bif n.results.any bigR then true else false) := w30_Large_s2_r (by
      rw [w30_Large_s2_b, nlarge_l0 (by omega), Option.bind_some]
      cases n.jobs.any bigJ
      · dsimp only [cond_false]
        rw [nlarge_l1 (by omega), Option.bind_some]
        cases n.results.any bigR <;> rfl
      · rfl)
    rw [cond_false, e]
    exact ⟨_, rfl, fun _ => ⟨by omega, by omega, by omega, by omega, by omega, by omega, h8, h9⟩⟩
structure MSm (m : Msg) : Prop where
  key : m.key.size ≤ 300
  val : m.val.size ≤ 700
  peers : m.peers.length ≤ 40
  pairs : m.pairs.length ≤ 20
  all : ∀ p, p ∈ m.pairs → p.key.size ≤ 300 ∧ p.val.size ≤ 700
theorem awake33 : w33_awake = some true := ask_of ((le_lim 60).call _ _ _ _ (by kernel_rfl))
theorem law_Keeps {n : Node} {key val : ByteArray} {to_ : Peer} {l : List Pair} {fresh : Bool} : w33_ServeKeeps n key val to_ l fresh = some true := w33_ServeKeeps_r (by
  obtain ⟨b, hb, hs⟩ := nlarge_eq n
  rw [w33_ServeKeeps_b, hb, Option.bind_some, awake33, large_eq, Option.bind_some, slen_nat, slen_nat, ilt_dec, ilt_dec, bif_dec, bif_dec]
  cases hbb : b with
  | true => rfl
  | false =>
    rw [cond_false]
    by_cases c1 : (300 : Int) < (key.size : Int)
    · rw [if_pos c1]
    rw [if_neg c1]
    by_cases c2 : (700 : Int) < (val.size : Int)
    · rw [if_pos c2]
    rw [if_neg c2]
    cases hL : large l with
    | true => rfl
    | false =>
      have h := (hs hbb).sz
      have hl := (large_not hL).1
      obtain ⟨hk1, hk2⟩ := keep_sz (key := key) (val := val) h
      have hk3 := keep_fit (n := n) (key := key) (val := val)
      obtain ⟨hh1, hh2⟩ := hand_sz (to_ := to_) (l := l) (fresh := fresh) h (by omega)
      have hh3 := hand_fit (n := n) (to_ := to_) (l := l) (fresh := fresh)
      have e1 := serve_Keep_eq (key := key) (val := val) h (by omega)
      have e2 := r33_Keep_eq (key := key) (val := val) h (by omega)
      have e3 := serve_Hand_eq (to_ := to_) (l := l) (fresh := fresh) h (by omega)
      have e4 := r33_Hand_eq (to_ := to_) (l := l) (fresh := fresh) h (by omega)
      obtain ⟨⟨a, o, e⟩, hq⟩ : ∃ z, keep' n key val = z := ⟨_, rfl⟩
      obtain ⟨⟨a', o'⟩, hq'⟩ : ∃ z, hand n to_ l fresh = z := ⟨_, rfl⟩
      rw [hq] at hk1 hk2 hk3 e1 e2
      rw [hq'] at hh1 hh2 hh3 e3 e4
      dsimp only at hk1 hk2 hk3 hh1 hh2 hh3
      rw [cond_false]
      exact w33_ServeKeeps_s0_r (by
        rw [w33_ServeKeeps_s0_b, e1, Option.bind_some]
        dsimp only
        rw [e2, Option.bind_some]
        dsimp only
        rw [e3, Option.bind_some]
        dsimp only
        rw [e4, Option.bind_some]
        dsimp only
        rw [r30_Same_self hk1, Option.bind_some, cond_true, r30_Outs_self ⟨by omega, hk3⟩, Option.bind_some, cond_true, ieqT rfl, cond_true, r30_Same_self hh1, Option.bind_some, cond_true, r30_Outs_self ⟨by omega, hh3⟩, Option.bind_some, cond_true, awake33]))
end Go.Ab.Tryz
