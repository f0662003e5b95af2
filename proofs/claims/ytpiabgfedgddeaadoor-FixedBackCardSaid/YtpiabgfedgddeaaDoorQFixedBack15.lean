/- Our texts for this statement, merged: what its theorem leads to. -/
import Derived.Lib.RuneCountTail
import Derived.Lib.TrimU
import Derived.Test.YtpiabgfedgddeaaDoorQFixedBack14
namespace Go.Ab.Tryd
open Go Go.Ab Go.Proofs Go.Lib
set_option linter.unusedVariables false
set_option linter.unusedSimpArgs false
def stray (s : ByteArray) (i : Nat) : Bool := decide (Utf8.decode s i = (65533, 1))
theorem xsdec_nat {s : ByteArray} {i : Nat} (h : i < s.size) : xsdec s (i : Int) = some (((Utf8.decode s i).1 : Int), ((i + (Utf8.decode s i).2 : Nat) : Int)) := by
  show (if 0 ≤ (i : Int) ∧ (i : Int).toNat < s.size then some (((Utf8.decode s (i : Int).toNat).1 : Int), (i : Int) + ((Utf8.decode s (i : Int).toNat).2 : Int)) else none) = _
  rw [if_pos ⟨by omega, by simpa using h⟩, Int.toNat_natCast]
  simp
theorem xsdec_end {s : ByteArray} {i : Nat} (h : ¬ i < s.size) : xsdec s (i : Int) = none := by
  show (if 0 ≤ (i : Int) ∧ (i : Int).toNat < s.size then some (((Utf8.decode s (i : Int).toNat).1 : Int), (i : Int) + ((Utf8.decode s (i : Int).toNat).2 : Int)) else none) = _
  rw [if_neg (by simpa using h)]
theorem utf_stray_eq {s : ByteArray} {i : Nat} (h : i < s.size) : utf_stray s (i : Int) ((Utf8.decode s i).1 : Int) = some (stray s i) := utf_stray_r (by
  unfold utf_stray_b
  simp only [ieq_dec, bif_dec]
  split
  · rename_i h1
    have e1 : xssub s (i : Int) (Ops.std.slen s) = some (s.extract i s.size) := by
      show (if 0 ≤ (i : Int) ∧ (i : Int) ≤ (s.size : Int) ∧ (s.size : Int) ≤ (s.size : Int) then some (s.extract (i : Int).toNat (s.size : Int).toNat) else none) = _
      rw [if_pos ⟨by omega, by omega, by omega⟩]; simp
    have e2 : xsdec (s.extract i s.size) 0 = some (((Utf8.decode s i).1 : Int), ((Utf8.decode s i).2 : Int)) := by
      have := xsdec_nat (s := s.extract i s.size) (i := 0) (by rw [tail_size]; omega)
      rw [tail_decode] at this
      simpa using this
    rw [e1, Option.bind_some, e2]
    simp only [xopt, stray]
    congr 1
    have h2 : (Utf8.decode s i).1 = 65533 := by omega
    refine decide_eq_decide.2 ⟨fun h => Prod.ext h2 (by show (Utf8.decode s i).2 = 1; omega), fun h => by rw [h]; rfl⟩
  · rename_i h1
    congr 1
    exact (decide_eq_false (fun h => h1 (by rw [h]; rfl))).symm)
def poss (s : ByteArray) : Nat → Nat → List Nat
  | 0, _ => []
  | n + 1, i => if i < s.size then i :: poss s n (i + (Utf8.decode s i).2) else []
theorem valid_l0 (s : ByteArray) : ∀ (n i : Nat), s.size - i < n → ∃ r, utf_Valid_l0 s (i : Int) = some r ∧ (match r with | .inl _ => false | .inr _ => true) = (poss s n i).all fun j => !stray s j := by
  intro n
  induction n with
  | zero => intro i h; omega
  | succ n ih =>
    intro i h
    by_cases hi : i < s.size
    · have hw := width_pos s i
      cases hst : stray s i
      · obtain ⟨r, hr, he⟩ := ih (i + (Utf8.decode s i).2) (by omega)
        refine ⟨r, utf_Valid_l0_r (by simp only [utf_Valid_l0_b, xsdec_nat hi, xopt, utf_stray_eq hi, Option.bind_some, hst, cond_false]; exact hr), ?_⟩
        rw [he]; simp [poss, hi, hst]
      · exact ⟨_, utf_Valid_l0_r (by simp only [utf_Valid_l0_b, xsdec_nat hi, xopt, utf_stray_eq hi, Option.bind_some, hst, cond_true]; rfl), by simp [poss, hi, hst]⟩
    · exact ⟨_, utf_Valid_l0_r (by simp only [utf_Valid_l0_b, xsdec_end hi, xopt]; rfl), by simp [poss, hi]⟩
theorem utf_Valid_eq (s : ByteArray) : utf_Valid s = some ((poss s (s.size + 1) 0).all fun j => !stray s j) := utf_Valid_r (by
  obtain ⟨r, hr, he⟩ := valid_l0 s (s.size + 1) 0 (by omega)
  have hr : utf_Valid_l0 s 0 = some r := hr
  simp only [utf_Valid_b, hr, Option.bind_some]
  cases r <;> exact congrArg some he)
theorem count_l0 (s : ByteArray) : ∀ (n i k : Nat), s.size - i < n → k + n < 9223372036854775808 → ∃ a, utf_Count_l0 s (k : Int) (i : Int) = some (((k + (poss s n i).length : Nat) : Int), a) := by
  intro n
  induction n with
  | zero => intro i k h; omega
  | succ n ih =>
    intro i k h hk
    by_cases hi : i < s.size
    · have hw := width_pos s i
      obtain ⟨a, ha⟩ := ih (i + (Utf8.decode s i).2) (k + 1) (by omega) (by omega)
      refine ⟨a, utf_Count_l0_r ?_⟩
      have e1 : Ops.std.iadd .i64 (k : Int) 1 = ((k + 1 : Nat) : Int) := i64_add (b := 1) (by omega)
      simp only [utf_Count_l0_b, xsdec_nat hi, xopt, e1, ha]
      simp [poss, hi]; omega
    · exact ⟨(i : Int), utf_Count_l0_r (by simp only [utf_Count_l0_b, xsdec_end hi, xopt]; simp [poss, hi])⟩
theorem utf_Count_eq {s : ByteArray} (hs : s.size < 4611686018427387904) : utf_Count s = some (((poss s (s.size + 1) 0).length : Nat) : Int) := utf_Count_r (by
  obtain ⟨a, ha⟩ := count_l0 s (s.size + 1) 0 0 (by omega) (by omega)
  have ha : utf_Count_l0 s 0 0 = some (((0 + (poss s (s.size + 1) 0).length : Nat) : Int), a) := ha
  simp only [utf_Count_b, ha, Option.bind_some, Nat.zero_add])
end Go.Ab.Tryd
namespace Go.Ab.Tryd
open Go Go.Ab Go.Proofs Go.Lib
set_option linter.unusedVariables false
set_option linter.unusedSimpArgs false
def isKey (s : ByteArray) : Bool := decide (0 < s.size ∧ s.size ≤ 96) && ((poss s (s.size + 1) 0).all fun j => !stray s j) && decide ((poss s (s.size + 1) 0).length ≤ 32)
theorem msg_Key_eq {s : ByteArray} (hs : s.size < 1000000) : msg_Key s = some (isKey s) := msg_Key_r (by
  have h0 : Ops.std.seq s ⟨#[]⟩ = true ↔ s.size = 0 := by
    rw [seq_iff]
    constructor
    · rintro rfl; rfl
    · intro h
      cases s with
      | mk d =>
        have : d.size = 0 := h
        rw [Array.eq_empty_of_size_eq_zero this]
  simp only [msg_Key_b, ile_dec, bif_dec, slen_nat, utf_Valid_eq, utf_Count_eq (show s.size < 4611686018427387904 by omega), Option.bind_some, isKey]
  by_cases h1 : s.size = 0
  · rw [h0.2 h1]; simp [h1]
  · rw [Bool.eq_false_iff.2 (fun h => h1 (h0.1 h)), cond_false]
    by_cases h2 : s.size ≤ 96
    · rw [if_pos (by omega)]
      cases (poss s (s.size + 1) 0).all fun j => !stray s j
      · simp
      · have h3 : 0 < s.size := by omega
        simp only [cond_true, h2, h3, and_self, decide_true, Bool.true_and, Option.some.injEq]
        exact decide_eq_decide.2 ⟨fun h => by omega, fun h => by omega⟩
    · rw [if_neg (by omega)]; simp [h2])
end Go.Ab.Tryd
namespace Go.Ab.Tryd
open Go Go.Ab Go.Proofs Go.Lib
set_option linter.unusedVariables false
set_option linter.unusedSimpArgs false
theorem of_r {α : Type} {x y : Option α} (h : ∀ r, y = some r → x = some r) (hn : y ≠ none) : x = y := by
  cases y with
  | none => exact absurd rfl hn
  | some r => exact h r rfl
theorem kcases (k : Int) : (k < 1 ∨ 12 < k) ∨ k = 1 ∨ k = 2 ∨ k = 3 ∨ k = 4 ∨ k = 5 ∨ k = 6 ∨ k = 7 ∨ k = 8 ∨ k = 9 ∨ k = 10 ∨ k = 11 ∨ k = 12 := by omega
def kinds0 : List Msg_kind := [⟨⟨#[63]⟩, 0, []⟩, ⟨⟨#[102, 105, 110, 100]⟩, 4, [2, 12]⟩, ⟨⟨#[104, 111, 112]⟩, 18, []⟩, ⟨⟨#[97, 115, 107]⟩, 0, [4]⟩, ⟨⟨#[116, 101, 108, 108]⟩, 282, []⟩, ⟨⟨#[110, 111, 116, 101]⟩, 8, [6]⟩, ⟨⟨#[111, 107, 97, 121]⟩, 0, []⟩, ⟨⟨#[112, 117, 116]⟩, 96, [6, 12]⟩, ⟨⟨#[103, 101, 116]⟩, 32, [9, 12]⟩, ⟨⟨#[103, 111, 116]⟩, 322, []⟩, ⟨⟨#[109, 111, 118, 101]⟩, 130, [6]⟩, ⟨⟨#[112, 105, 110, 103]⟩, 0, [6]⟩, ⟨⟨#[110, 97, 121]⟩, 1, []⟩]
def kindOf (k : Int) : Msg_kind := kinds0[(if 1 ≤ k ∧ k ≤ 12 then k.toNat else 0)]?.getD ⟨⟨#[63]⟩, 0, []⟩
theorem kindOf_no {k : Int} (h : k < 1 ∨ 12 < k) : kindOf k = ⟨⟨#[63]⟩, 0, []⟩ := by
  unfold kindOf
  rw [if_neg (by omega)] <;> rfl
theorem msg_kinds_eq : msg_kinds = some kinds0 := msg_kinds_r rfl
theorem msg_of_eq (k : Int) : msg_of k = some (kindOf k) := msg_of_r (by
  have hx : ∀ (n : Nat) (x : Msg_kind), kinds0[n]? = some x → xget eMsg_kind kinds0 (n : Int) = some x := fun n x h => by rw [xget_nat, h]
  have hlen : xlen eMsg_kind kinds0 = 13 := by rw [xlen_eq] <;> rfl
  simp only [msg_of_b, msg_kinds_eq, Option.bind_some, hlen, ilt_dec, ile_dec, bif_dec]
  rcases kcases k with h | h
  · rw [kindOf_no h]
    have h0 := hx 0 _ rfl
    simp only [Int.natCast_zero, Int.cast_ofNat_Int] at h0
    split
    · rw [h0] <;> rfl
    · split
      · rw [h0] <;> rfl
      · have : k = 0 := by omega
        subst this; rw [h0] <;> rfl
  · rcases h with rfl | rfl | rfl | rfl | rfl | rfl | rfl | rfl | rfl | rfl | rfl | rfl
    · exact (congrArg (·.bind some) (hx 1 _ rfl))
    · exact (congrArg (·.bind some) (hx 2 _ rfl))
    · exact (congrArg (·.bind some) (hx 3 _ rfl))
    · exact (congrArg (·.bind some) (hx 4 _ rfl))
    · exact (congrArg (·.bind some) (hx 5 _ rfl))
    · exact (congrArg (·.bind some) (hx 6 _ rfl))
    · exact (congrArg (·.bind some) (hx 7 _ rfl))
    · exact (congrArg (·.bind some) (hx 8 _ rfl))
    · exact (congrArg (·.bind some) (hx 9 _ rfl))
    · exact (congrArg (·.bind some) (hx 10 _ rfl))
    · exact (congrArg (·.bind some) (hx 11 _ rfl))
    · exact (congrArg (·.bind some) (hx 12 _ rfl)))
theorem msg_Name_eq (k : Int) : msg_Name k = some (kindOf k).name := msg_Name_r (by rw [msg_Name_b, msg_of_eq] <;> rfl)
def fl (k : Int) (has : Bool) : Int := if k = 1 then 4 else if k = 2 then 18 else if k = 4 then (bif has then 26 else 18) else if k = 5 then 8 else if k = 7 then 96 else if k = 8 then 32 else if k = 9 then (bif has then 66 else 2) else if k = 10 then 130 else if k = 12 then 1 else 0
theorem msg_fields_eq (m : Msg) : msg_fields m = some (fl m.kind m.has) := msg_fields_r (by
  rw [msg_fields_b, msg_of_eq, Option.bind_some]
  obtain ⟨k, rid, code, has, id, key, val, peer, peers, pairs⟩ := m
  simp only
  rcases kcases k with h | h
  · rw [kindOf_no h]
    have : fl k has = 0 := by unfold fl; repeat' (first | rw [if_neg (by omega)])
    rw [this] <;> rfl
  · rcases h with rfl | rfl | rfl | rfl | rfl | rfl | rfl | rfl | rfl | rfl | rfl | rfl <;> cases has <;> rfl)
def bare (m : Msg) : Msg :=
  if m.kind = 1 then ⟨m.kind, m.rid, 0, false, m.id, ⟨#[]⟩, ⟨#[]⟩, ⟨0, 0⟩, [], []⟩ else
  if m.kind = 2 then ⟨m.kind, m.rid, 0, m.has, 0, ⟨#[]⟩, ⟨#[]⟩, ⟨0, 0⟩, m.peers, []⟩ else
  if m.kind = 4 then ⟨m.kind, m.rid, 0, m.has, 0, ⟨#[]⟩, ⟨#[]⟩, bif m.has then m.peer else ⟨0, 0⟩, m.peers, []⟩ else
  if m.kind = 5 then ⟨m.kind, m.rid, 0, false, 0, ⟨#[]⟩, ⟨#[]⟩, m.peer, [], []⟩ else
  if m.kind = 7 then ⟨m.kind, m.rid, 0, false, 0, m.key, m.val, ⟨0, 0⟩, [], []⟩ else
  if m.kind = 8 then ⟨m.kind, m.rid, 0, false, 0, m.key, ⟨#[]⟩, ⟨0, 0⟩, [], []⟩ else
  if m.kind = 9 then ⟨m.kind, m.rid, 0, m.has, 0, ⟨#[]⟩, bif m.has then m.val else ⟨#[]⟩, ⟨0, 0⟩, [], []⟩ else
  if m.kind = 10 then ⟨m.kind, m.rid, 0, m.has, 0, ⟨#[]⟩, ⟨#[]⟩, ⟨0, 0⟩, [], m.pairs⟩ else
  if m.kind = 12 then ⟨m.kind, m.rid, m.code, false, 0, ⟨#[]⟩, ⟨#[]⟩, ⟨0, 0⟩, [], []⟩ else
  ⟨m.kind, m.rid, 0, false, 0, ⟨#[]⟩, ⟨#[]⟩, ⟨0, 0⟩, [], []⟩
theorem msg_Bare_eq {m : Msg} (hp : m.peers.length ≤ 1000) (hq : m.pairs.length ≤ 1000) : msg_Bare m = some (bare m) := msg_Bare_r (by
  have h1 : xroom ePeer 16 [] m.peers = true := xroom_eq ePeer (by simp; omega) (by omega)
  have h2 : xroom ePair 32 [] m.pairs = true := xroom_eq ePair (by simp; omega) (by omega)
  have e0 : ∀ f a b c d p q, msg_Bare_s0 m f a b c d p q = msg_Bare_s0_b m f a b c d p q := fun f a b c d p q => of_r (fun r => msg_Bare_s0_r) (by
    simp only [msg_Bare_s0_b, h1, h2, cond_true, ieq_dec, bif_dec]
    repeat' split
    all_goals exact Option.some_ne_none _)
  have e01 : ∀ f a b c d p q, msg_Bare_s0_1 m f a b c d p q = msg_Bare_s0_1_b m f a b c d p q := fun f a b c d p q => of_r (fun r => msg_Bare_s0_1_r) (by
    simp only [msg_Bare_s0_1_b, h1, h2, cond_true, ieq_dec, bif_dec]
    repeat' split
    all_goals exact Option.some_ne_none _)
  have e1 : ∀ f a b c p q, msg_Bare_s1 m f a b c p q = msg_Bare_s1_b m f a b c p q := fun f a b c p q => of_r (fun r => msg_Bare_s1_r) (by
    simp only [msg_Bare_s1_b, e0, e01, msg_Bare_s0_b, msg_Bare_s0_1_b, h1, h2, cond_true, ieq_dec, bif_dec]
    by_cases q1 : Ops.std.ibit .and .i64 f 16 = 0 <;> by_cases q2 : Ops.std.ibit .and .i64 f 32 = 0 <;> by_cases q3 : Ops.std.ibit .and .i64 f 64 = 0 <;> by_cases q4 : Ops.std.ibit .and .i64 f 128 = 0 <;> simp [q1, q2, q3, q4])
  have e2 : ∀ f a b, msg_Bare_s2 m f a b = msg_Bare_s2_b m f a b := fun f a b => of_r (fun r => msg_Bare_s2_r) (by
    simp only [msg_Bare_s2_b, e1, msg_Bare_s1_b, e0, e01, msg_Bare_s0_b, msg_Bare_s0_1_b, h1, h2, cond_true, ieq_dec, bif_dec]
    by_cases q1 : Ops.std.ibit .and .i64 f 16 = 0 <;> by_cases q2 : Ops.std.ibit .and .i64 f 32 = 0 <;> by_cases q3 : Ops.std.ibit .and .i64 f 64 = 0 <;> by_cases q4 : Ops.std.ibit .and .i64 f 128 = 0 <;> by_cases q5 : Ops.std.ibit .and .i64 f 4 = 0 <;> by_cases q6 : Ops.std.ibit .and .i64 f 8 = 0 <;> simp [q1, q2, q3, q4, q5, q6])
  rw [msg_Bare_b, msg_fields_eq, Option.bind_some]
  simp only [e2, msg_Bare_s2_b, e1, msg_Bare_s1_b, e0, e01, msg_Bare_s0_b, msg_Bare_s0_1_b, h1, h2, cond_true, ieq_dec, bif_dec]
  obtain ⟨k, rid, code, has, id, key, val, ⟨pi, pa⟩, peers, pairs⟩ := m
  simp only
  rcases kcases k with h | h
  · have hf : fl k has = 0 := by unfold fl; repeat' (first | rw [if_neg (by omega)])
    have hb : bare ⟨k, rid, code, has, id, key, val, ⟨pi, pa⟩, peers, pairs⟩ = ⟨k, rid, 0, false, 0, ⟨#[]⟩, ⟨#[]⟩, ⟨0, 0⟩, [], []⟩ := by unfold bare; simp only; repeat' (first | rw [if_neg (by omega)])
    rw [hf, hb] <;> rfl
  · rcases h with rfl | rfl | rfl | rfl | rfl | rfl | rfl | rfl | rfl | rfl | rfl | rfl <;> cases has <;> rfl)
end Go.Ab.Tryd
namespace Go.Ab.Tryd
open Go Go.Ab Go.Proofs Go.Lib
set_option linter.unusedVariables false
set_option linter.unusedSimpArgs false
theorem iltT {a b : Int} (h : a < b) : Ops.std.ilt a b = true := decide_eq_true h
theorem iltF {a b : Int} (h : ¬ a < b) : Ops.std.ilt a b = false := decide_eq_false h
theorem ieqT {a b : Int} (h : a = b) : Ops.std.ieq a b = true := decide_eq_true h
theorem ieqF {a b : Int} (h : ¬ a = b) : Ops.std.ieq a b = false := decide_eq_false h
theorem r08_Peers_eq {a b : List Peer} (hl : a.length ≤ 1000000) : r08_Peers a b = some (eqb a b) := r08_Peers_r (by
  rw [r08_Peers_b, xlen_eq, xlen_eq]
  by_cases he : a.length = b.length
  · have h := same_list ePeer (l := a) (l' := b) (by omega) he (L := fun i => r08_Peers_l0 a b i) (fun h => r08_Peers_l0_r (by simp [r08_Peers_l0_b, h]))
      (fun n x r _ h1 h2 h3 h => r08_Peers_l0_r (by simp [r08_Peers_l0_b, h1, h2, h3, ieq_dec]; exact h))
      (fun n x y _ h1 h2 h3 h => r08_Peers_l0_r (by
        simp only [r08_Peers_l0_b, h1, h2, h3, ieq_dec, bif_dec, cond_true, Option.bind_some]
        rw [ne_eq, Peer.ext'] at h
        split
        · split
          · exact absurd ⟨‹_›, ‹_›⟩ h
          · rfl
        · rfl))
    rw [ieqT (by omega), cond_true]
    rcases h with ⟨h1, h2⟩ | ⟨h1, h2⟩
    · rw [h2, h1, eqb_self] <;> rfl
    · rw [h2, eqb_ne h1] <;> rfl
  · rw [ieqF (by omega), eqb_ne (fun h => he (by rw [h]))] <;> rfl)
theorem Equal_Peer_eq {a b : List Peer} (hl : a.length ≤ 1000000) : Equal_Peer a b = some (eqb a b) := Equal_Peer_r (by
  rw [Equal_Peer_b, xlen_eq, xlen_eq]
  by_cases he : a.length = b.length
  · have h := same_list ePeer (l := a) (l' := b) (by omega) he (L := fun i => Equal_Peer_l0 a b i) (fun h => Equal_Peer_l0_r (by simp [Equal_Peer_l0_b, h]))
      (fun n x r _ h1 h2 h3 h => Equal_Peer_l0_r (by simp [Equal_Peer_l0_b, h1, h2, h3, ieq_dec]; exact h))
      (fun n x y _ h1 h2 h3 h => Equal_Peer_l0_r (by
        simp only [Equal_Peer_l0_b, h1, h2, h3, ieq_dec, bif_dec, cond_true, Option.bind_some]
        rw [ne_eq, Peer.ext'] at h
        split
        · split
          · exact absurd ⟨‹_›, ‹_›⟩ h
          · rfl
        · rfl))
    rw [ieqT (by omega), cond_true]
    rcases h with ⟨h1, h2⟩ | ⟨h1, h2⟩
    · rw [h2, h1, eqb_self] <;> rfl
    · rw [h2, eqb_ne h1] <;> rfl
  · rw [ieqF (by omega), eqb_ne (fun h => he (by rw [h]))] <;> rfl)
theorem seq_self (a : ByteArray) : Ops.std.seq a a = true := seq_iff.2 rfl
theorem r08_Pairs_eq {a b : List Pair} (hl : a.length ≤ 1000000) : r08_Pairs a b = some (eqb a b) := r08_Pairs_r (by
  rw [r08_Pairs_b, xlen_eq, xlen_eq]
  by_cases he : a.length = b.length
  · have h := same_list ePair (l := a) (l' := b) (by omega) he (L := fun i => r08_Pairs_l0 a b i) (fun h => r08_Pairs_l0_r (by simp [r08_Pairs_l0_b, h]))
      (fun n x r _ h1 h2 h3 h => r08_Pairs_l0_r (by simp [r08_Pairs_l0_b, h1, h2, h3, seq_self]; exact h))
      (fun n x y _ h1 h2 h3 h => r08_Pairs_l0_r (by
        simp only [r08_Pairs_l0_b, h1, h2, h3, seq_dec, bif_dec, cond_true, Option.bind_some]
        rw [ne_eq, Pair.ext'] at h
        split
        · split
          · exact absurd ⟨‹_›, ‹_›⟩ h
          · rfl
        · rfl))
    rw [ieqT (by omega), cond_true]
    rcases h with ⟨h1, h2⟩ | ⟨h1, h2⟩
    · rw [h2, h1, eqb_self] <;> rfl
    · rw [h2, eqb_ne h1] <;> rfl
  · rw [ieqF (by omega), eqb_ne (fun h => he (by rw [h]))] <;> rfl)
theorem Equal_Pair_eq {a b : List Pair} (hl : a.length ≤ 1000000) : Equal_Pair a b = some (eqb a b) := Equal_Pair_r (by
  rw [Equal_Pair_b, xlen_eq, xlen_eq]
  by_cases he : a.length = b.length
  · have h := same_list ePair (l := a) (l' := b) (by omega) he (L := fun i => Equal_Pair_l0 a b i) (fun h => Equal_Pair_l0_r (by simp [Equal_Pair_l0_b, h]))
      (fun n x r _ h1 h2 h3 h => Equal_Pair_l0_r (by simp [Equal_Pair_l0_b, h1, h2, h3, seq_self]; exact h))
      (fun n x y _ h1 h2 h3 h => Equal_Pair_l0_r (by
        simp only [Equal_Pair_l0_b, h1, h2, h3, seq_dec, bif_dec, cond_true, Option.bind_some]
        rw [ne_eq, Pair.ext'] at h
        split
        · split
          · exact absurd ⟨‹_›, ‹_›⟩ h
          · rfl
        · rfl))
    rw [ieqT (by omega), cond_true]
    rcases h with ⟨h1, h2⟩ | ⟨h1, h2⟩
    · rw [h2, h1, eqb_self] <;> rfl
    · rw [h2, eqb_ne h1] <;> rfl
  · rw [ieqF (by omega), eqb_ne (fun h => he (by rw [h]))] <;> rfl)
theorem beq_dec' (a b : Bool) : Ops.std.beq a b = decide (a = b) := by cases a <;> cases b <;> rfl
theorem r08_Same_eq {a b : Msg} (hp : a.peers.length ≤ 1000000) (hq : a.pairs.length ≤ 1000000) : r08_Same a b = some (eqb a b) := r08_Same_r (by
  simp only [r08_Same_b, r08_Peers_eq hp, r08_Pairs_eq hq, Option.bind_some, ieq_dec, beq_dec', seq_dec, bif_dec]
  obtain ⟨k, rid, code, has, id, key, val, ⟨pi, pa⟩, peers, pairs⟩ := a
  obtain ⟨k', rid', code', has', id', key', val', ⟨pi', pa'⟩, peers', pairs'⟩ := b
  simp only [eqb, Msg.mk.injEq, Peer.mk.injEq]
  by_cases c1 : k = k' <;> by_cases c2 : rid = rid' <;> by_cases c3 : code = code' <;> by_cases c4 : has = has' <;> by_cases c5 : id = id' <;> simp only [c1, c2, c3, c4, c5, if_true, if_false, false_and, and_false, decide_false, true_and] <;> first | rfl | skip
  all_goals (by_cases c6 : key = key' <;> by_cases c7 : val = val' <;> by_cases c8 : pi = pi' <;> by_cases c9 : pa = pa' <;> by_cases c10 : peers = peers' <;> by_cases c11 : pairs = pairs' <;> simp_all))
theorem msg_Same_s0_eq {a b : Msg} (hp : a.peers.length ≤ 1000000) (hq : a.pairs.length ≤ 1000000) (t : Bool) : msg_Same_s0 a b t = some (t && (eqb a.key b.key && (eqb a.val b.val && (eqb a.peer b.peer && (eqb a.peers b.peers && eqb a.pairs b.pairs))))) := msg_Same_s0_r (by
  simp only [msg_Same_s0_b, Equal_Peer_eq hp, Equal_Pair_eq hq, Option.bind_some, ieq_dec, seq_dec, eqb, Peer.ext']
  cases t
  · rfl
  · simp only [cond_true, Bool.true_and]
    by_cases c6 : a.key = b.key <;> by_cases c7 : a.val = b.val <;> by_cases c8 : a.peer.id = b.peer.id <;> by_cases c9 : a.peer.addr = b.peer.addr <;> by_cases c10 : a.peers = b.peers <;> by_cases c11 : a.pairs = b.pairs <;> simp_all)
theorem msg_Same_eq {a b : Msg} (hp : a.peers.length ≤ 1000000) (hq : a.pairs.length ≤ 1000000) : msg_Same a b = some (eqb a b) := msg_Same_r (by
  simp only [msg_Same_b, msg_Same_s0_eq hp hq, Option.bind_some, ieq_dec, beq_dec', bif_dec, Bool.false_and]
  obtain ⟨k, rid, code, has, id, key, val, peer, peers, pairs⟩ := a
  obtain ⟨k', rid', code', has', id', key', val', peer', peers', pairs'⟩ := b
  simp only [eqb, Msg.mk.injEq]
  by_cases c1 : k = k' <;> by_cases c2 : rid = rid' <;> by_cases c3 : code = code' <;> by_cases c4 : has = has' <;> by_cases c5 : id = id' <;> simp only [c1, c2, c3, c4, c5, if_true, if_false, false_and, and_false, decide_false, true_and, decide_true, Bool.true_and, Bool.false_and] <;> first | rfl | skip
  all_goals (by_cases c6 : key = key' <;> by_cases c7 : val = val' <;> by_cases c8 : peer = peer' <;> by_cases c10 : peers = peers' <;> by_cases c11 : pairs = pairs' <;> simp_all))
def keyed (m : Msg) : Bool := m.kind == 7 || m.kind == 8
def badKeys (l : List Pair) : Bool := l.any fun p => !isKey p.key
def longs (l : List Pair) : Bool := l.any fun p => decide (512 < p.val.size)
def isLong (m : Msg) : Bool := decide (512 < m.val.size) || decide (16 < m.peers.length) || decide (8 < m.pairs.length) || longs m.pairs
def isShort (m : Msg) : Bool := (decide (m.kind = 2) && decide (m.peers.length = 0)) || (decide (m.kind = 10) && decide (m.pairs.length = 0)) || (decide (m.kind = 12) && decide (m.code = 0))
noncomputable def rightE (m : Msg) : Int :=
  if m.kind < 1 ∨ 12 < m.kind then 9 else bif eqb m (bare m) then
    bif (keyed m && !isKey m.key) || badKeys m.pairs then 7 else bif isLong m then 5 else bif isShort m then 2 else 0
  else 1
structure Fit (m : Msg) : Prop where
  key : m.key.size < 1000000
  val : m.val.size < 1000000
  peers : m.peers.length ≤ 1000
  pairs : m.pairs.length ≤ 1000
  keys : ∀ p, p ∈ m.pairs → p.key.size < 1000000
theorem fst_any {α : Type} {p : α → Bool} {l : List α} : decide (0 ≤ fstI p l) = l.any p := by
  unfold fstI
  cases h : fst p l with
  | none =>
    have := fst_none h
    have e : l.any p = false := by
      rw [List.any_eq_false]; intro x hx; simp [this x hx]
    rw [e] <;> rfl
  | some n =>
    obtain ⟨x, hx, hp, _⟩ := fst_some h
    rw [List.any_eq_true.2 ⟨x, List.mem_of_getElem? hx, hp⟩]
    exact decide_eq_true (show (0 : Int) ≤ (n : Int) by omega)
theorem msg_text_1_eq {p : Pair} (h : p.key.size < 1000000) : msg_text_1 p = some (!isKey p.key) := msg_text_1_r (by rw [msg_text_1_b, msg_Key_eq h] <;> rfl)
theorem msg_long_1_eq (p : Pair) : msg_long_1 p = some (decide (512 < p.val.size)) := msg_long_1_r (by
  rw [msg_long_1_b, slen_nat, ilt_dec]; congr 1; exact decide_eq_decide.2 ⟨fun h => by omega, fun h => by omega⟩)
theorem IndexFunc_Pair_eq {l : List Pair} (hl : l.length ≤ 1000) (hk : ∀ p, p ∈ l → p.key.size < 1000000) : IndexFunc_Pair l = some (fstI (fun p => !isKey p.key) l) := IndexFunc_Pair_r (by
  have h := find_list ePair (l := l) (by omega) (p := fun p => !isKey p.key) (L := fun i => IndexFunc_Pair_l0 l i) (fun h => IndexFunc_Pair_l0_r (by simp [IndexFunc_Pair_l0_b, h]))
    (fun n x hx h1 h2 hp => IndexFunc_Pair_l0_r (by simp only [IndexFunc_Pair_l0_b, h1, h2, msg_text_1_eq (hk x hx), hp, cond_true, Option.bind_some]))
    (fun n x r hx h1 h2 hp h => IndexFunc_Pair_l0_r (by simp only [IndexFunc_Pair_l0_b, h1, h2, msg_text_1_eq (hk x hx), hp, cond_true, cond_false, Option.bind_some]; exact h))
  rw [IndexFunc_Pair_b, h]
  unfold fstI
  cases fst (fun p : Pair => !isKey p.key) l <;> rfl)
theorem IndexFunc_Pair_1_eq {l : List Pair} (hl : l.length ≤ 1000) : IndexFunc_Pair_1 l = some (fstI (fun p => decide (512 < p.val.size)) l) := IndexFunc_Pair_1_r (by
  have h := find_list ePair (l := l) (by omega) (p := fun p => decide (512 < p.val.size)) (L := fun i => IndexFunc_Pair_1_l0 l i) (fun h => IndexFunc_Pair_1_l0_r (by simp [IndexFunc_Pair_1_l0_b, h]))
    (fun n x hx h1 h2 hp => IndexFunc_Pair_1_l0_r (by simp only [IndexFunc_Pair_1_l0_b, h1, h2, msg_long_1_eq, hp, cond_true, Option.bind_some]))
    (fun n x r hx h1 h2 hp h => IndexFunc_Pair_1_l0_r (by simp only [IndexFunc_Pair_1_l0_b, h1, h2, msg_long_1_eq, hp, cond_true, cond_false, Option.bind_some]; exact h))
  rw [IndexFunc_Pair_1_b, h]
  unfold fstI
  cases fst (fun p : Pair => decide (512 < p.val.size)) l <;> rfl)
theorem kind_name {k : Int} : Ops.std.seq (kindOf k).name ⟨#[63]⟩ = decide (k < 1 ∨ 12 < k) := by
  rcases kcases k with h | h
  · rw [kindOf_no h, decide_eq_true h] <;> rfl
  · rcases h with rfl | rfl | rfl | rfl | rfl | rfl | rfl | rfl | rfl | rfl | rfl | rfl <;> rfl
theorem fl_key (m : Msg) : Ops.std.ieq (Ops.std.ibit .and .i64 (fl m.kind m.has) 32) 0 = !keyed m := by
  unfold keyed
  rcases kcases m.kind with h | h
  · have : fl m.kind m.has = 0 := by unfold fl; repeat' (first | rw [if_neg (by omega)])
    have h7 : (m.kind == 7) = false := by rw [beq_eq_false_iff_ne]; omega
    have h8 : (m.kind == 8) = false := by rw [beq_eq_false_iff_ne]; omega
    rw [this, h7, h8] <;> rfl
  · rcases h with h | h | h | h | h | h | h | h | h | h | h | h <;> rw [h] <;> cases m.has <;> rfl
theorem msg_text_eq {m : Msg} (h : Fit m) : msg_text m (fl m.kind m.has) = some (!((keyed m && !isKey m.key) || badKeys m.pairs)) := msg_text_r (by
  have hc : ContainsFunc_Pair m.pairs = some (badKeys m.pairs) := ContainsFunc_Pair_r (by
    rw [ContainsFunc_Pair_b, IndexFunc_Pair_eq h.pairs h.keys]; exact congrArg some fst_any)
  simp only [msg_text_b, fl_key, msg_Key_eq h.key, hc, Option.bind_some]
  cases keyed m <;> cases isKey m.key <;> simp)
theorem msg_long_eq {m : Msg} (h : Fit m) : msg_long m = some (isLong m) := msg_long_r (by
  have hc : ContainsFunc_Pair_1 m.pairs = some (longs m.pairs) := ContainsFunc_Pair_1_r (by
    rw [ContainsFunc_Pair_1_b, IndexFunc_Pair_1_eq h.pairs]; exact congrArg some fst_any)
  simp only [msg_long_b, hc, Option.bind_some, slen_nat, xlen_eq, ilt_dec, bif_dec, isLong]
  by_cases h1 : 512 < m.val.size
  · rw [if_pos (by omega)]; simp [h1]
  · by_cases h2 : 16 < m.peers.length
    · rw [if_neg (by omega), if_pos (by omega)]; simp [h2]
    · by_cases h3 : 8 < m.pairs.length
      · rw [if_neg (by omega), if_neg (by omega), if_pos (by omega)]; simp [h3]
      · rw [if_neg (by omega), if_neg (by omega), if_neg (by omega)]; simp [h1, h2, h3])
theorem len0 {α : Type} {l : List α} : decide ((l.length : Int) = 0) = decide (l.length = 0) := decide_eq_decide.2 ⟨fun h => by omega, fun h => by omega⟩
theorem msg_short_eq (m : Msg) : msg_short m = some (isShort m) := msg_short_r (by
  simp only [msg_short_b, xlen_eq, ieq_dec, bif_dec, isShort, len0]
  by_cases h1 : m.kind = 2
  · have h2 : ¬ m.kind = 10 := by omega
    have h3 : ¬ m.kind = 12 := by omega
    simp [h1]
  · by_cases h2 : m.kind = 10
    · simp [h2]
    · by_cases h3 : m.kind = 12
      · simp [h3]
      · simp [h1, h2, h3])
theorem msg_Right_eq {m : Msg} (h : Fit m) : msg_Right m = some (rightE m) := msg_Right_r (by
  have h1 := h.peers; have h2 := h.pairs
  simp only [msg_Right_b, msg_fields_eq, msg_Name_eq, kind_name, msg_Bare_eq h.peers h.pairs, msg_Same_eq (a := m) (b := bare m) (by omega) (by omega), msg_text_eq h, msg_long_eq h, msg_short_eq, Option.bind_some, rightE, bif_dec]
  split
  · rfl
  · cases eqb m (bare m)
    · rfl
    · cases (keyed m && !isKey m.key) || badKeys m.pairs
      · cases isLong m <;> cases isShort m <;> rfl
      · rfl)
end Go.Ab.Tryd
namespace Go.Ab.Tryd
open Go Go.Ab Go.Proofs Go.Lib
set_option linter.unusedVariables false
set_option linter.unusedSimpArgs false
def be : Nat → Int → List Int
  | 0, _ => []
  | k + 1, n => be k (n / 256) ++ [n % 256]
def bval (l : List Int) : Int := l.foldl (fun n b => n * 256 + b) 0
def Byt (l : List Int) : Prop := ∀ x, x ∈ l → 0 ≤ x ∧ x < 256
theorem be_len : ∀ (k : Nat) (n : Int), (be k n).length = k
  | 0, _ => rfl
  | k + 1, n => by rw [be, List.length_append, be_len k] <;> rfl
theorem be_byt : ∀ (k : Nat) (n : Int), Byt (be k n)
  | 0, _ => fun x h => by cases h
  | k + 1, n => fun x h => by
    rw [be, List.mem_append] at h
    rcases h with h | h
    · exact be_byt k _ x h
    · rw [List.mem_singleton] at h; subst h; omega
theorem be_cons : ∀ (k : Nat) (n : Int), be (k + 1) n = (n / 256 ^ k) % 256 :: be k n
  | 0, n => by simp [be]
  | k + 1, n => by
    rw [be, be_cons k (n / 256), be]
    rw [Int.ediv_ediv_of_nonneg (by omega), Int.mul_comm, ← Int.pow_succ] <;> rfl
theorem bval_app (l l' : List Int) : bval (l ++ l') = l'.foldl (fun n b => n * 256 + b) (bval l) := by unfold bval; rw [List.foldl_append]
theorem bval_be : ∀ (k : Nat) (n : Int), 0 ≤ n → n < 256 ^ k → bval (be k n) = n
  | 0, n, h0, h => by have h : n < 1 := h; show (0 : Int) = n; omega
  | k + 1, n, h0, h => by
    have h : n < 256 ^ k * 256 := by rw [← Int.pow_succ]; exact h
    rw [be, bval_app, bval_be k (n / 256) (by omega) (Int.ediv_lt_of_lt_mul (by omega) h)]
    show n / 256 * 256 + n % 256 = n
    omega
theorem bval_snoc (l : List Int) (x : Int) : bval (l ++ [x]) = bval l * 256 + x := by rw [bval_app] <;> rfl
theorem byt_app {l l' : List Int} : Byt (l ++ l') ↔ Byt l ∧ Byt l' := by
  constructor
  · intro h; exact ⟨fun x hx => h x (List.mem_append_left _ hx), fun x hx => h x (List.mem_append_right _ hx)⟩
  · rintro ⟨h1, h2⟩ x hx
    rcases List.mem_append.1 hx with h | h
    · exact h1 x h
    · exact h2 x h
theorem snoc_ind {P : List Int → Prop} (h0 : P []) (h1 : ∀ l x, P l → P (l ++ [x])) : ∀ l, P l := by
  have : ∀ n (l : List Int), l.length = n → P l := by
    intro n
    induction n with
    | zero => intro l hl; rw [List.length_eq_zero_iff.1 hl]; exact h0
    | succ n ih =>
      intro l hl
      have hne : l ≠ [] := fun h => by rw [h] at hl; cases hl
      rw [← List.dropLast_concat_getLast hne]
      exact h1 _ _ (ih _ (by rw [List.length_dropLast]; omega))
  exact fun l => this _ l rfl
theorem bval_lt : ∀ l : List Int, Byt l → 0 ≤ bval l ∧ bval l < 256 ^ l.length := by
  refine snoc_ind (fun _ => ⟨Int.le_refl 0, by decide⟩) fun l x ih h => ?_
  obtain ⟨h1, h2⟩ := byt_app.1 h
  obtain ⟨a, b⟩ := ih h1
  have := h2 x (List.mem_singleton.2 rfl)
  rw [bval_snoc, List.length_append, List.length_singleton, Int.pow_succ]
  omega
theorem be_bval : ∀ l : List Int, Byt l → be l.length (bval l) = l := by
  refine snoc_ind (fun _ => rfl) fun l x ih h => ?_
  obtain ⟨h1, h2⟩ := byt_app.1 h
  have := h2 x (List.mem_singleton.2 rfl)
  rw [bval_snoc, List.length_append, List.length_singleton, be]
  rw [show (bval l * 256 + x) / 256 = bval l by omega, show (bval l * 256 + x) % 256 = x by omega, ih h1]
theorem textOf_sbytes (s : ByteArray) : textOf (sbytes s) = s := by
  cases s with
  | mk d =>
    cases d with
    | mk l =>
      unfold textOf sbytes
      congr 1
      simp only [List.map_map, Array.mk.injEq]
      show List.map _ l = l
      conv => rhs; rw [← List.map_id l]
      refine List.map_congr_left fun x _ => ?_
      simp
theorem sbytes_textOf {l : List Int} (h : Byt l) : sbytes (textOf l) = l := by
  unfold textOf sbytes
  simp only [List.map_map]
  conv => rhs; rw [← List.map_id l]
  refine List.map_congr_left fun x hx => ?_
  obtain ⟨h0, h1⟩ := h x hx
  show (((UInt8.ofNat x.toNat).toNat : Nat) : Int) = x
  rw [UInt8.toNat_ofNat']
  omega
theorem byt_sbytes (s : ByteArray) : Byt (sbytes s) := fun x hx => by
  unfold sbytes at hx
  obtain ⟨c, _, rfl⟩ := List.mem_map.1 hx
  have := c.toNat_lt
  exact ⟨by omega, by omega⟩
theorem sbytes_len (s : ByteArray) : (sbytes s).length = s.size := by
  unfold sbytes; rw [List.length_map] <;> rfl
theorem textOf_len (l : List Int) : (textOf l).size = l.length := by
  show (List.toArray _).size = _
  simp
theorem ishr_u64 {n : Int} {i : Nat} (h0 : 0 ≤ n) (hi : i ≤ 7) : Ops.std.ishr .u64 n (Ops.std.imul .i64 8 (i : Int)) = n / 256 ^ i := by
  have e : Ops.std.imul .i64 8 (i : Int) = ((8 * i : Nat) : Int) := by
    show IntKind.i64.wrap (8 * (i : Int)) = _
    rw [show (8 * (i : Int)) = ((8 * i : Nat) : Int) by omega]
    exact wrap64 (by omega) (by omega)
  rw [e]
  show n.fdiv (2 ^ (min (((8 * i : Nat) : Int)).toNat 64)) = _
  rw [Int.toNat_natCast, show min (8 * i) 64 = 8 * i by omega, Int.fdiv_eq_ediv_of_nonneg _ (by exact Int.pow_nonneg (by omega)), Int.pow_mul] <;> rfl
theorem wrap_u8 (x : Int) : Ops.std.iwrap .u8 x = x % 256 := u8_wrap x
theorem wrap_u64 {x : Int} (h0 : 0 ≤ x) (h1 : x < 18446744073709551616) : Ops.std.iwrap .u64 x = x := by
  show IntKind.u64.wrap x = x
  rw [u64_wrap]; omega
theorem wrap_u32 {x : Int} (h0 : 0 ≤ x) (h1 : x < 4294967296) : Ops.std.iwrap .u32 x = x := by
  show IntKind.u32.wrap x = x
  rw [u32_wrap]; omega
theorem wrap_u16 {x : Int} (h0 : 0 ≤ x) (h1 : x < 65536) : Ops.std.iwrap .u16 x = x := by
  show IntKind.u16.wrap x = x
  rw [u16_wrap]; omega
theorem wrap_i64 {x : Int} (h0 : 0 ≤ x) (h1 : x < 9223372036854775808) : Ops.std.iwrap .i64 x = x := wrap64 (by omega) (by omega)
theorem room1 {l l' : List Int} (h : l.length + l'.length ≤ 1000000) : xroom vB 1 l l' = true := xroom_eq vB h (by omega)
theorem buf_Fix_l0_eq {n : Int} (h0 : 0 ≤ n) : ∀ (k : Nat) (r : List Int), k ≤ 8 → r.length + k ≤ 900008 → buf_Fix_l0 n ((k : Int) - 1) r = some (r ++ be k n)
  | 0, r, _, _ => buf_Fix_l0_r (by rw [buf_Fix_l0_b, ile_dec]; simp [be])
  | k + 1, r, hk, hr => buf_Fix_l0_r (by
    have e : (((k + 1 : Nat) : Int) - 1) = (k : Int) := by omega
    have hm : Ops.std.ilt (Ops.std.imul .i64 8 (k : Int)) 0 = false := by
      have e : Ops.std.imul .i64 8 (k : Int) = ((8 * k : Nat) : Int) := by
        show IntKind.i64.wrap (8 * (k : Int)) = _
        rw [show (8 * (k : Int)) = ((8 * k : Nat) : Int) by omega]
        exact wrap64 (by omega) (by omega)
      rw [e]; exact iltF (by omega)
    rw [e, buf_Fix_l0_b, ile_dec, decide_eq_true (by omega), cond_true, hm, cond_false, ishr_u64 h0 (by omega), wrap_u8, room1 (by simp; omega), cond_true]
    have hs : Ops.std.isub .i64 (k : Int) 1 = (k : Int) - 1 := wrap64 (by omega) (by omega)
    rw [hs, buf_Fix_l0_eq h0 k _ (by omega) (by rw [List.length_append]; simp; omega), be_cons, List.append_assoc] <;> rfl)
theorem buf_Fix_eq {n : Int} {k : Nat} {r : List Int} (h0 : 0 ≤ n) (h1 : 1 ≤ k) (hk : k ≤ 8) (hr : r.length ≤ 900000) : buf_Fix n (k : Int) r = some (r ++ be k n) := buf_Fix_r (by
  have hs : Ops.std.isub .i64 (k : Int) 1 = (k : Int) - 1 := wrap64 (by omega) (by omega)
  rw [buf_Fix_b, iltF (by omega), cond_false, iltF (by omega), cond_false, hs, buf_Fix_l0_eq h0 k r hk (by omega)] <;> rfl)
end Go.Ab.Tryd
namespace Go.Ab.Tryd
open Go Go.Ab Go.Proofs Go.Lib
set_option linter.unusedVariables false
set_option linter.unusedSimpArgs false
set_option linter.unusedSectionVars false
def pText (k : Nat) (s : ByteArray) : List Int := be k (s.size : Int) ++ sbytes s
def pPeer (p : Peer) : List Int := be 8 p.id ++ be 2 p.addr
def pPair (p : Pair) : List Int := pText 1 p.key ++ pText 2 p.val
def pFlag (b : Bool) : List Int := [bif b then 1 else 0]
def pCode (m : Msg) : List Int := if m.kind = 12 then [m.code] else []
def pHas (m : Msg) : List Int := if m.kind = 2 ∨ m.kind = 4 ∨ m.kind = 9 ∨ m.kind = 10 then pFlag m.has else []
def pId (m : Msg) : List Int := if m.kind = 1 then be 8 m.id else []
def pPr (m : Msg) : List Int := if m.kind = 5 ∨ (m.kind = 4 ∧ m.has = true) then pPeer m.peer else []
def pPs (m : Msg) : List Int := if m.kind = 2 ∨ m.kind = 4 then be 1 (m.peers.length : Int) ++ m.peers.flatMap pPeer else []
def pKy (m : Msg) : List Int := if m.kind = 7 ∨ m.kind = 8 then pText 1 m.key else []
def pVl (m : Msg) : List Int := if m.kind = 7 ∨ (m.kind = 9 ∧ m.has = true) then pText 2 m.val else []
def pQs (m : Msg) : List Int := if m.kind = 10 then be 1 (m.pairs.length : Int) ++ m.pairs.flatMap pPair else []
def put (m : Msg) : List Int := be 1 m.kind ++ (be 4 m.rid ++ (pCode m ++ (pHas m ++ (pId m ++ (pPr m ++ (pPs m ++ (pKy m ++ (pVl m ++ pQs m))))))))
structure PeOk (p : Peer) : Prop where
  id0 : 0 ≤ p.id
  id1 : p.id < 18446744073709551616
  ad0 : 0 ≤ p.addr
  ad1 : p.addr < 65536
structure Small (m : Msg) : Prop where
  key : m.key.size ≤ 1000
  val : m.val.size ≤ 1000
  peers : m.peers.length ≤ 100
  pairs : m.pairs.length ≤ 100
  each : ∀ p, p ∈ m.pairs → p.key.size ≤ 1000 ∧ p.val.size ≤ 1000
structure Rng (m : Msg) : Prop where
  rid0 : 0 ≤ m.rid
  rid1 : m.rid < 4294967296
  code0 : 0 ≤ m.code
  code1 : m.code < 256
  id0 : 0 ≤ m.id
  id1 : m.id < 18446744073709551616
  peer : PeOk m.peer
  peers : ∀ p, p ∈ m.peers → PeOk p
theorem Small.fit {m : Msg} (h : Small m) : Fit m where
  key := by have := h.key; omega
  val := by have := h.val; omega
  peers := by have := h.peers; omega
  pairs := by have := h.pairs; omega
  keys := fun p hp => by have := (h.each p hp).1; omega
theorem pText_len (k : Nat) (s : ByteArray) : (pText k s).length = k + s.size := by rw [pText, List.length_append, be_len, sbytes_len]
theorem pPeer_len (p : Peer) : (pPeer p).length = 10 := by rw [pPeer, List.length_append, be_len, be_len]
section
variable {r : List Int}
theorem num_eq {n : Int} {k : Nat} (h0 : 0 ≤ n) (h1 : 1 ≤ k) (hk : k ≤ 8) (hr : r.length ≤ 900000) : fixed_writer_num n (k : Int) r = some (r ++ be k n) := fixed_writer_num_r (by
  rw [fixed_writer_num_b, buf_Fix_eq h0 h1 hk hr] <;> rfl)
theorem flag_eq (b : Bool) (hr : r.length ≤ 900000) : fixed_writer_flag b r = some (r ++ pFlag b) := fixed_writer_flag_r (by
  have h0 := num_eq (r := r) (n := 0) (k := 1) (by omega) (by omega) (by omega) hr
  have h1 := num_eq (r := r) (n := 1) (k := 1) (by omega) (by omega) (by omega) hr
  cases b
  · exact h0
  · exact h1)
theorem peer_eq {p : Peer} (h : PeOk p) (hr : r.length ≤ 800000) : fixed_writer_peer p r = some (r ++ pPeer p) := fixed_writer_peer_r (by
  have h0 := num_eq (r := r) (n := p.id) (k := 8) h.id0 (by omega) (by omega) (by omega)
  have h1 := num_eq (r := r ++ be 8 p.id) (n := p.addr) (k := 2) h.ad0 (by omega) (by omega) (by rw [List.length_append, be_len]; omega)
  have h0' : fixed_writer_num p.id 8 r = _ := h0
  have h1' : fixed_writer_num p.addr 2 (r ++ be 8 p.id) = _ := h1
  have := h.ad1
  rw [fixed_writer_peer_b, h0', Option.bind_some, wrap_u64 h.ad0 (by omega), h1', pPeer, List.append_assoc])
theorem peers_l0_eq {l : List Peer} (hl : l.length ≤ 100) (h : ∀ p, p ∈ l → PeOk p) (hr : r.length ≤ 10000) : fixed_writer_peers_l0 l 0 r = some (r ++ l.flatMap pPeer) :=
  for_list (σ := List Int) ePeer (l := l) (by omega) (L := fun i s => fixed_writer_peers_l0 l i s) (res := fun _ s rest => s ++ rest.flatMap pPeer) (Inv := fun n s => s.length ≤ 10000 + 10 * n)
    (fun s _ hh => fixed_writer_peers_l0_r (by simp [fixed_writer_peers_l0_b, hh]))
    (fun n x rest s hi hn hx hd h1 h2 h3 ih => fixed_writer_peers_l0_r (by
      have hm : x ∈ l := List.mem_of_getElem? hx
      rw [fixed_writer_peers_l0_b, h1, cond_true, h2, Option.bind_some, peer_eq (h x hm) (by omega), Option.bind_some, h3, ih _ (by rw [List.length_append, pPeer_len]; omega), List.flatMap_cons, List.append_assoc])) r (by omega)
theorem peers_eq {l : List Peer} (hl : l.length ≤ 100) (h : ∀ p, p ∈ l → PeOk p) (hr : r.length ≤ 9000) : fixed_writer_peers l r = some (r ++ (be 1 (l.length : Int) ++ l.flatMap pPeer)) := fixed_writer_peers_r (by
  have h0 := num_eq (r := r) (n := (l.length : Int)) (k := 1) (by omega) (by omega) (by omega) (by omega)
  have h0' : fixed_writer_num (l.length : Int) 1 r = _ := h0
  rw [fixed_writer_peers_b, xlen_eq, wrap_u64 (by omega) (by omega), h0', Option.bind_some, peers_l0_eq hl h (by rw [List.length_append, be_len]; omega), List.append_assoc])
theorem text_eq {s : ByteArray} {k : Nat} (h1 : 1 ≤ k) (hk : k ≤ 8) (hs : s.size ≤ 1000) (hr : r.length ≤ 900000) : fixed_writer_text s (k : Int) r = some (r ++ pText k s) := fixed_writer_text_r (by
  rw [fixed_writer_text_b, slen_nat, wrap_u64 (by omega) (by omega), num_eq (by omega) h1 hk hr, Option.bind_some, room1 (by rw [List.length_append, be_len, sbytes_len]; omega), cond_true, pText, List.append_assoc])
theorem pairs_l0_eq {l : List Pair} (hl : l.length ≤ 100) (h : ∀ p, p ∈ l → p.key.size ≤ 1000 ∧ p.val.size ≤ 1000) (hr : r.length ≤ 10000) : fixed_writer_pairs_l0 l 0 r = some (r ++ l.flatMap pPair) :=
  for_list (σ := List Int) ePair (l := l) (by omega) (L := fun i s => fixed_writer_pairs_l0 l i s) (res := fun _ s rest => s ++ rest.flatMap pPair) (Inv := fun n s => s.length ≤ 10000 + 2003 * n)
    (fun s _ hh => fixed_writer_pairs_l0_r (by simp [fixed_writer_pairs_l0_b, hh]))
    (fun n x rest s hi hn hx hd h1 h2 h3 ih => fixed_writer_pairs_l0_r (by
      have hm := h x (List.mem_of_getElem? hx)
      have a1 := text_eq (r := s) (s := x.key) (k := 1) (by omega) (by omega) hm.1 (by omega)
      have a2 := text_eq (r := s ++ pText 1 x.key) (s := x.val) (k := 2) (by omega) (by omega) hm.2 (by rw [List.length_append, pText_len]; omega)
      have a1' : fixed_writer_text x.key 1 s = _ := a1
      have a2' : fixed_writer_text x.val 2 (s ++ pText 1 x.key) = _ := a2
      rw [fixed_writer_pairs_l0_b, h1, cond_true, h2, Option.bind_some, a1', Option.bind_some, a2', Option.bind_some, h3, ih _ (by rw [List.length_append, List.length_append, pText_len, pText_len]; omega), List.flatMap_cons, pPair]
      simp only [List.append_assoc])) r (by omega)
theorem pairs_eq {l : List Pair} (hl : l.length ≤ 100) (h : ∀ p, p ∈ l → p.key.size ≤ 1000 ∧ p.val.size ≤ 1000) (hr : r.length ≤ 9000) : fixed_writer_pairs l r = some (r ++ (be 1 (l.length : Int) ++ l.flatMap pPair)) := fixed_writer_pairs_r (by
  have h0 := num_eq (r := r) (n := (l.length : Int)) (k := 1) (by omega) (by omega) (by omega) (by omega)
  have h0' : fixed_writer_num (l.length : Int) 1 r = _ := h0
  rw [fixed_writer_pairs_b, xlen_eq, wrap_u64 (by omega) (by omega), h0', Option.bind_some, pairs_l0_eq hl h (by rw [List.length_append, be_len]; omega), List.append_assoc])
end
section
variable {r : List Int}
end
theorem be1 {x : Int} : be 1 x = [x % 256] := rfl
section
variable {m : Msg} (hs : Small m) (hr : Rng m)
include hs hr
theorem fixed_s0_eq {r : List Int} (hl : r.length ≤ 3000) (h5 : m.kind ≠ 1 ∧ m.kind ≠ 2 ∧ m.kind ≠ 4 ∧ m.kind ≠ 5) : ∃ b, fixed_Enc_s0 m (decide (m.kind = 7 ∨ m.kind = 8)) r = some (b, r ++ (pCode m ++ (pHas m ++ (pKy m ++ (pVl m ++ pQs m))))) := by
  have t1 : fixed_writer_text m.key 1 r = some (r ++ pText 1 m.key) := text_eq (k := 1) (by omega) (by omega) hs.key (by omega)
  have t2 : fixed_writer_text m.val 2 (r ++ pText 1 m.key) = some (r ++ pText 1 m.key ++ pText 2 m.val) := text_eq (k := 2) (by omega) (by omega) hs.val (by rw [List.length_append, pText_len]; have := hs.key; omega)
  have t3 : fixed_writer_text m.val 2 (r ++ pFlag m.has) = some (r ++ pFlag m.has ++ pText 2 m.val) := text_eq (k := 2) (by omega) (by omega) hs.val (by rw [List.length_append]; show _ + 1 ≤ 900000; omega)
  have t4 := pairs_eq (r := r ++ pFlag m.has) hs.pairs hs.each (by rw [List.length_append]; show _ + 1 ≤ 9000; omega)
  have c0 := hr.code0; have c1 := hr.code1
  have t5 : fixed_writer_num (Ops.std.iwrap .u64 m.code) 1 r = some (r ++ be 1 m.code) := by
    rw [wrap_u64 c0 (by omega)]; exact num_eq (k := 1) c0 (by omega) (by omega) (by omega)
  have t6 : be 1 m.code = [m.code] := by rw [be1]; congr 1; omega
  have key : ∀ {x}, fixed_Enc_s0_b m (decide (m.kind = 7 ∨ m.kind = 8)) r = some x → x.2 = r ++ (pCode m ++ (pHas m ++ (pKy m ++ (pVl m ++ pQs m)))) → ∃ b, fixed_Enc_s0 m (decide (m.kind = 7 ∨ m.kind = 8)) r = some (b, r ++ (pCode m ++ (pHas m ++ (pKy m ++ (pVl m ++ pQs m))))) := fun {x} h e => ⟨x.1, fixed_Enc_s0_r (h.trans (by rw [← e]))⟩
  by_cases h7 : m.kind = 7
  · refine key (x := (m.has, r ++ pText 1 m.key ++ pText 2 m.val)) ?_ ?_
    · simp only [fixed_Enc_s0_b, h7, true_or, decide_true, cond_true, t1, t2, Option.bind_some, ieqT]
    · simp [pCode, pHas, pKy, pVl, pQs, h7]
  · by_cases h8 : m.kind = 8
    · refine key (x := (m.has, r ++ pText 1 m.key)) ?_ ?_
      · simp only [fixed_Enc_s0_b, h8, or_true, decide_true, cond_true, t1, Option.bind_some, ieqF (show ¬ (8 : Int) = 7 by omega), cond_false]
      · simp [pCode, pHas, pKy, pVl, pQs, h8]
    · have hn : decide (m.kind = 7 ∨ m.kind = 8) = false := decide_eq_false (by omega)
      by_cases h9 : m.kind = 9
      · cases hh : m.has with
        | true =>
          rw [hh] at t3
          refine key (x := (true, r ++ pFlag true ++ pText 2 m.val)) ?_ ?_
          · rw [hn]; simp only [fixed_Enc_s0_b, h9, cond_false, ieqT, cond_true, hh, flag_eq true (show r.length ≤ 900000 by omega), t3, Option.bind_some]
          · simp [pCode, pHas, pKy, pVl, pQs, h9, hh]
        | false =>
          refine key (x := (false, r ++ pFlag false)) ?_ ?_
          · rw [hn]; simp only [fixed_Enc_s0_b, h9, cond_false, ieqT, cond_true, hh, flag_eq false (show r.length ≤ 900000 by omega), Option.bind_some]
          · simp [pCode, pHas, pKy, pVl, pQs, h9, hh]
      · by_cases h10 : m.kind = 10
        · refine key (x := (m.has, r ++ pFlag m.has ++ (be 1 (m.pairs.length : Int) ++ m.pairs.flatMap pPair))) ?_ ?_
          · rw [hn]; simp only [fixed_Enc_s0_b, h10, cond_false, ieqT, cond_true, flag_eq m.has (show r.length ≤ 900000 by omega), t4, Option.bind_some, ieqF (show ¬ (10 : Int) = 9 by omega)]
          · simp [pCode, pHas, pKy, pVl, pQs, h10]
        · by_cases h12 : m.kind = 12
          · refine key (x := (m.has, r ++ be 1 m.code)) ?_ ?_
            · rw [hn]; simp only [fixed_Enc_s0_b, h12, cond_false, ieqT, cond_true, t5, Option.bind_some, ieqF (show ¬ (12 : Int) = 9 by omega), ieqF (show ¬ (12 : Int) = 10 by omega)]
            · simp [pCode, pHas, pKy, pVl, pQs, h12, t6]
          · refine key (x := (m.has, r)) ?_ ?_
            · rw [hn]; simp only [fixed_Enc_s0_b, ieqF h9, ieqF h10, ieqF h12, cond_false]
            · simp [pCode, pHas, pKy, pVl, pQs, h7, h8, h9, h10, h12, h5.2.1, h5.2.2.1]
theorem fixed_s1_eq {r : List Int} (hl : r.length ≤ 2000) (h1 : m.kind ≠ 1) : ∃ b, fixed_Enc_s1 m (decide (m.kind = 2 ∨ m.kind = 4)) r = some (b, r ++ (pCode m ++ (pHas m ++ (pPr m ++ (pPs m ++ (pKy m ++ (pVl m ++ pQs m))))))) := by
  have f : ∀ b, fixed_writer_flag b r = some (r ++ pFlag b) := fun b => flag_eq b (by omega)
  have p1 : ∀ b, fixed_writer_peers m.peers (r ++ pFlag b) = some (r ++ pFlag b ++ (be 1 (m.peers.length : Int) ++ m.peers.flatMap pPeer)) := fun b => peers_eq hs.peers hr.peers (by rw [List.length_append]; show _ + 1 ≤ 9000; omega)
  have p2 : fixed_writer_peer m.peer (r ++ pFlag true) = some (r ++ pFlag true ++ pPeer m.peer) := peer_eq hr.peer (by rw [List.length_append]; show _ + 1 ≤ 800000; omega)
  have p3 : fixed_writer_peers m.peers (r ++ pFlag true ++ pPeer m.peer) = some (r ++ pFlag true ++ pPeer m.peer ++ (be 1 (m.peers.length : Int) ++ m.peers.flatMap pPeer)) := peers_eq hs.peers hr.peers (by rw [List.length_append, List.length_append, pPeer_len]; show _ + 1 + 10 ≤ 9000; omega)
  have p4 : fixed_writer_peer m.peer r = some (r ++ pPeer m.peer) := peer_eq hr.peer (by omega)
  have key : ∀ {x}, fixed_Enc_s1_b m (decide (m.kind = 2 ∨ m.kind = 4)) r = some x → x.2 = r ++ (pCode m ++ (pHas m ++ (pPr m ++ (pPs m ++ (pKy m ++ (pVl m ++ pQs m)))))) → ∃ b, fixed_Enc_s1 m (decide (m.kind = 2 ∨ m.kind = 4)) r = some (b, r ++ (pCode m ++ (pHas m ++ (pPr m ++ (pPs m ++ (pKy m ++ (pVl m ++ pQs m))))))) := fun {x} h e => ⟨x.1, fixed_Enc_s1_r (h.trans (by rw [← e]))⟩
  by_cases h2 : m.kind = 2
  · refine key (x := (m.has, r ++ pFlag m.has ++ (be 1 (m.peers.length : Int) ++ m.peers.flatMap pPeer))) ?_ ?_
    · simp only [fixed_Enc_s1_b, h2, true_or, decide_true, cond_true, f, p1, Option.bind_some, ieqF (show ¬ (2 : Int) = 4 by omega), cond_false]
    · simp [pCode, pHas, pPr, pPs, pKy, pVl, pQs, h2]
  · by_cases h4 : m.kind = 4
    · cases hh : m.has with
      | true =>
        refine key (x := (true, r ++ pFlag true ++ pPeer m.peer ++ (be 1 (m.peers.length : Int) ++ m.peers.flatMap pPeer))) ?_ ?_
        · simp only [fixed_Enc_s1_b, h4, or_true, decide_true, cond_true, f, p2, p3, hh, Option.bind_some, ieqT]
        · simp [pCode, pHas, pPr, pPs, pKy, pVl, pQs, h4, hh]
      | false =>
        refine key (x := (false, r ++ pFlag false ++ (be 1 (m.peers.length : Int) ++ m.peers.flatMap pPeer))) ?_ ?_
        · simp only [fixed_Enc_s1_b, h4, or_true, decide_true, cond_true, f, p1, hh, Option.bind_some, ieqT, cond_false]
        · simp [pCode, pHas, pPr, pPs, pKy, pVl, pQs, h4, hh]
    · have hn : decide (m.kind = 2 ∨ m.kind = 4) = false := decide_eq_false (by omega)
      by_cases h5 : m.kind = 5
      · refine key (x := (m.has, r ++ pPeer m.peer)) ?_ ?_
        · rw [hn]; simp only [fixed_Enc_s1_b, h5, cond_false, ieqT, cond_true, p4, Option.bind_some]
        · simp [pCode, pHas, pPr, pPs, pKy, pVl, pQs, h5]
      · obtain ⟨b, hb⟩ := fixed_s0_eq hs hr (r := r) (by omega) ⟨h1, h2, h4, h5⟩
        have e1 : pPr m = [] := by rw [pPr, if_neg (by omega)]
        have e2 : pPs m = [] := by rw [pPs, if_neg (by omega)]
        refine key (x := (b, r ++ (pCode m ++ (pHas m ++ (pKy m ++ (pVl m ++ pQs m)))))) ?_ (by rw [e1, e2] <;> rfl)
        rw [hn, fixed_Enc_s1_b, cond_false, ieqF h5, cond_false]
        by_cases h7 : m.kind = 7
        · rw [decide_eq_true (.inl h7)] at hb
          rw [ieqT h7, cond_true, hb] <;> rfl
        · have e : Ops.std.ieq m.kind 8 = decide (m.kind = 7 ∨ m.kind = 8) := by rw [ieq_dec]; exact decide_eq_decide.2 ⟨.inr, fun h => by omega⟩
          rw [ieqF h7, cond_false, e, hb] <;> rfl
theorem rightE_kind (h : rightE m = 0) : 1 ≤ m.kind ∧ m.kind ≤ 12 := by
  unfold rightE at h
  by_cases hk : m.kind < 1 ∨ 12 < m.kind
  · rw [if_pos hk] at h; omega
  · omega
noncomputable def encS (m : Msg) : List Int × Int := if rightE m = 0 then (put m, 0) else ([], rightE m)
theorem fixed_Enc_eq : fixed_Enc m = some (encS m) := fixed_Enc_r (by
  rw [fixed_Enc_b, msg_Right_eq hs.fit, Option.bind_some, encS]
  by_cases h0 : rightE m = 0
  · obtain ⟨k1, k2⟩ := rightE_kind hs hr h0
    have q1 := hr.rid0; have q2 := hr.rid1
    have n1 : fixed_writer_num (Ops.std.iwrap .u64 m.kind) 1 [] = some (be 1 m.kind) := by
      rw [wrap_u64 (by omega) (by omega)]; exact num_eq (r := []) (k := 1) (by omega) (by omega) (by omega) (by simp)
    have n2 : fixed_writer_num (Ops.std.iwrap .u64 m.rid) 4 (be 1 m.kind) = some (be 1 m.kind ++ be 4 m.rid) := by
      rw [wrap_u64 (by omega) (by omega)]; exact num_eq (k := 4) (by omega) (by omega) (by omega) (by rw [be_len]; omega)
    have hlen : (be 1 m.kind ++ be 4 m.rid).length = 5 := by rw [List.length_append, be_len, be_len]
    have n3 : fixed_writer_num m.id 8 (be 1 m.kind ++ be 4 m.rid) = some (be 1 m.kind ++ be 4 m.rid ++ be 8 m.id) := num_eq (k := 8) hr.id0 (by omega) (by omega) (by omega)
    rw [ieqT h0, cond_true, if_pos h0, n1, Option.bind_some, n2, Option.bind_some]
    by_cases h1 : m.kind = 1
    · rw [ieqT h1, cond_true, n3, Option.bind_some]
      simp [put, pCode, pHas, pId, pPr, pPs, pKy, pVl, pQs, h1]
    · obtain ⟨b, hb⟩ := fixed_s1_eq hs hr (r := be 1 m.kind ++ be 4 m.rid) (by omega) h1
      have e1 : pId m = [] := by rw [pId, if_neg h1]
      have fin : (fixed_Enc_s1 m (decide (m.kind = 2 ∨ m.kind = 4)) (be 1 m.kind ++ be 4 m.rid)).bind (fun ⟨b0_has, r3⟩ => some (r3, (0 : Int))) = some (put m, 0) := by
        rw [hb]; simp only [Option.bind_some, put, e1, List.nil_append, List.append_assoc]
      rw [ieqF h1, cond_false, ← fin]
      by_cases h2 : m.kind = 2
      · rw [ieqT h2, cond_true, decide_eq_true (.inl h2)]
      · have e : Ops.std.ieq m.kind 4 = decide (m.kind = 2 ∨ m.kind = 4) := by rw [ieq_dec]; exact decide_eq_decide.2 ⟨.inr, fun h => by omega⟩
        rw [ieqF h2, cond_false, e]
  · rw [ieqF h0, cond_false, if_neg h0])
end
end Go.Ab.Tryd
namespace Go.Ab.Tryd
open Go Go.Ab Go.Proofs Go.Lib
set_option linter.unusedVariables false
set_option linter.unusedSimpArgs false
set_option linter.unusedSectionVars false
abbrev RS := List Int × Int
def rFix (k : Nat) (s : RS) : Int × RS := if s.2 ≠ 0 then (0, s) else if s.1.length < k then (0, (s.1, 2)) else (bval (s.1.take k), (s.1.drop k, 0))
def rFail (e : Int) (s : RS) : RS := if s.2 ≠ 0 then s else (s.1, e)
def rFlag (s : RS) : Bool × RS := if s.2 ≠ 0 then (false, s) else match s.1 with
  | [] => (false, ([], 2))
  | x :: r => if 1 < x then (false, (x :: r, 3)) else (decide (x = 1), (r, 0))
def rTake (n : Int) (s : RS) : List Int × RS := if s.2 ≠ 0 then ([], s) else if n < 0 then ([], (s.1, 1)) else if (s.1.length : Int) < n then ([], (s.1, 2)) else (s.1.take n.toNat, (s.1.drop n.toNat, 0))
def rEnd (s : RS) : Int := if s.2 ≠ 0 then s.2 else if s.1 = [] then 0 else 4
def rMany (most : Int) (s : RS) : Int × RS := if most < (rFix 1 s).1 then (0, rFail 5 (rFix 1 s).2) else rFix 1 s
def rText (k : Nat) (most : Int) (s : RS) : ByteArray × RS :=
  let p := rFix k s
  let q := rTake p.1 (if most < p.1 then rFail 5 p.2 else p.2)
  (textOf q.1, q.2)
def rPeer (s : RS) : Peer × RS := (⟨(rFix 8 s).1, (rFix 2 (rFix 8 s).2).1⟩, (rFix 2 (rFix 8 s).2).2)
def rPair (s : RS) : Pair × RS := (⟨(rText 1 96 s).1, (rText 2 512 (rText 1 96 s).2).1⟩, (rText 2 512 (rText 1 96 s).2).2)
def rRep {α : Type} (f : RS → α × RS) : Nat → RS → List α × RS
  | 0, s => ([], s)
  | n + 1, s => ((f s).1 :: (rRep f n (f s).2).1, (rRep f n (f s).2).2)
def rPeers (s : RS) : List Peer × RS := rRep rPeer (rMany 16 s).1.toNat (rMany 16 s).2
def rPairs (s : RS) : List Pair × RS := rRep rPair (rMany 8 s).1.toNat (rMany 8 s).2
theorem rFix_suf (k : Nat) (s : RS) : (rFix k s).2.1 <:+ s.1 := by
  unfold rFix; split
  · exact List.suffix_refl _
  · split
    · exact List.suffix_refl _
    · exact List.drop_suffix _ _
theorem rFail_suf (e : Int) (s : RS) : (rFail e s).1 = s.1 := by unfold rFail; split <;> rfl
theorem rFlag_suf (s : RS) : (rFlag s).2.1 <:+ s.1 := by
  unfold rFlag; split
  · exact List.suffix_refl _
  · split
    · rename_i h; rw [h]; exact List.suffix_refl _
    · rename_i x r h; rw [h]
      split
      · exact List.suffix_refl _
      · exact List.suffix_cons _ _
theorem rTake_suf (n : Int) (s : RS) : (rTake n s).2.1 <:+ s.1 := by
  unfold rTake; repeat' split
  · exact List.suffix_refl _
  · exact List.suffix_refl _
  · exact List.suffix_refl _
  · exact List.drop_suffix _ _
theorem rMany_suf (m : Int) (s : RS) : (rMany m s).2.1 <:+ s.1 := by
  unfold rMany; split
  · rw [rFail_suf]; exact rFix_suf 1 s
  · exact rFix_suf 1 s
theorem rText_suf (k : Nat) (m : Int) (s : RS) : (rText k m s).2.1 <:+ s.1 := by
  refine (rTake_suf _ _).trans ?_
  split
  · rw [rFail_suf]; exact rFix_suf k s
  · exact rFix_suf k s
theorem rPeer_suf (s : RS) : (rPeer s).2.1 <:+ s.1 := (rFix_suf 2 _).trans (rFix_suf 8 s)
theorem rPair_suf (s : RS) : (rPair s).2.1 <:+ s.1 := (rText_suf 2 512 _).trans (rText_suf 1 96 s)
theorem rRep_suf {α : Type} {f : RS → α × RS} (hf : ∀ s, (f s).2.1 <:+ s.1) : ∀ (n : Nat) (s : RS), (rRep f n s).2.1 <:+ s.1
  | 0, s => List.suffix_refl _
  | n + 1, s => (rRep_suf hf n _).trans (hf s)
theorem byt_suf {l l' : List Int} (h : Byt l) (hs : l' <:+ l) : Byt l' := fun x hx => h x (hs.subset hx)
theorem rFix_lt (k : Nat) (s : RS) (h : Byt s.1) : 0 ≤ (rFix k s).1 ∧ (rFix k s).1 < 256 ^ k := by
  have hp : (0 : Int) < 256 ^ k := Int.pow_pos (by omega)
  unfold rFix
  split
  · exact ⟨Int.le_refl 0, hp⟩
  · split
    · exact ⟨Int.le_refl 0, hp⟩
    · rename_i h1
      have := bval_lt (s.1.take k) (fun x hx => h x (List.mem_of_mem_take hx))
      rw [List.length_take, Nat.min_eq_left (by omega)] at this
      exact this
theorem rMany_lt {m : Int} (hm : 0 ≤ m) {s : RS} (h : Byt s.1) : 0 ≤ (rMany m s).1 ∧ (rMany m s).1 ≤ m := by
  have := rFix_lt 1 s h
  unfold rMany
  split
  · exact ⟨Int.le_refl 0, hm⟩
  · exact ⟨this.1, by omega⟩
theorem or256 {n x : Int} (n0 : 0 ≤ n) (n1 : n * 256 < 18446744073709551616) (x0 : 0 ≤ x) (x1 : x < 256) : Ops.std.ibit .or .u64 (n * 256) x = n * 256 + x := by
  obtain ⟨N, rfl⟩ := Int.eq_ofNat_of_zero_le n0
  obtain ⟨X, rfl⟩ := Int.eq_ofNat_of_zero_le x0
  show IntKind.u64.wrap (((BitVec.ofInt 64 ((N : Int) * 256) ||| BitVec.ofInt 64 (X : Int)).toNat : Nat) : Int) = _
  rw [show (N : Int) * 256 = ((256 * N : Nat) : Int) by omega, BitVec.ofInt_natCast, BitVec.ofInt_natCast, BitVec.toNat_or, BitVec.toNat_ofNat, BitVec.toNat_ofNat, Nat.mod_eq_of_lt (by omega), Nat.mod_eq_of_lt (by omega), u64_wrap]
  have := Nat.two_pow_add_eq_or_of_lt (i := 8) (b := X) (by omega) N
  rw [show 256 * N = 2 ^ 8 * N by omega, ← this]
  omega
section
variable {s : RS} (hb : Byt s.1) (hl : s.1.length ≤ 100000)
include hb hl
theorem fix_l0 {mt : Int} {md : Bool} {t : List Int} {l : List Int} (hl : l.length ≤ 8) (hb : Byt l) : buf_Reader_Fix_l0 0 (xlen vB l) 0 md t mt l = some (bval l, md, t, mt, l) := by
  have h := for_list (σ := Int) vB (l := l) (by omega) (L := fun i n => buf_Reader_Fix_l0 n (xlen vB l) i md t mt l) (res := fun k n rest => (rest.foldl (fun n b => n * 256 + b) n, md, t, mt, l)) (Inv := fun k n => k ≤ 8 → 0 ≤ n ∧ n < 256 ^ k)
    (fun n _ hh => buf_Reader_Fix_l0_r (by rw [buf_Reader_Fix_l0_b, hh] <;> rfl))
    (fun k x rest n hi hk hx hd h1 h2 h3 ih => buf_Reader_Fix_l0_r (by
      have hx' := hb x (List.mem_of_getElem? hx)
      obtain ⟨n0, n1⟩ := hi (by omega)
      have n2 : n * 256 + x < 256 ^ (k + 1) := by rw [Int.pow_succ]; omega
      have hk8 : (256 : Int) ^ (k + 1) ≤ 256 ^ 8 := by
        have : ∀ d : Nat, (256 : Int) ^ (k + 1) ≤ 256 ^ (k + 1 + d) := fun d => by
          induction d with
          | zero => exact Int.le_refl _
          | succ d ih => rw [← Nat.add_assoc, Int.pow_succ]; have : (0 : Int) < 256 ^ (k + 1 + d) := Int.pow_pos (by omega); omega
        have := this (8 - (k + 1))
        rwa [show k + 1 + (8 - (k + 1)) = 8 by omega] at this
      have h8 : (256 : Int) ^ 8 = 18446744073709551616 := by decide
      have e1 : Ops.std.ishl .u64 n 8 = n * 256 := by
        show IntKind.u64.wrap (n * 2 ^ (min (8 : Int).toNat 64)) = _
        rw [u64_wrap]
        show (n * 256) % 18446744073709551616 = _
        omega
      have e2 : Ops.std.ibit .or .u64 (n * 256) x = n * 256 + x := or256 n0 (by omega) hx'.1 hx'.2
      rw [buf_Reader_Fix_l0_b, h1, cond_true, h2, Option.bind_some, iltF (by omega), cond_false, h3, wrap_u64 hx'.1 (by omega), e1, e2, ih _ (fun _ => ⟨by omega, n2⟩)] <;> rfl)) 0 (fun _ => ⟨Int.le_refl 0, by decide⟩)
  exact h
theorem dead_eq (r : List Int) (e : Int) : buf_Reader_dead true r e = some (decide (e ≠ 0), true) := buf_Reader_dead_r (by
  rw [buf_Reader_dead_b, cond_true, ieq_dec]; congr 2; by_cases h : e = 0 <;> simp [h])
theorem take_eq {n : Nat} (hn : n ≤ s.1.length) (e : Int) : buf_Reader_take (n : Int) true s.1 e = some (s.1.drop n, s.1.take n) := buf_Reader_take_r (by
  rw [buf_Reader_take_b, xsub_eq, if_pos ⟨by omega, by omega, by omega⟩, Option.bind_some, xsub_eq, xlen_eq, if_pos ⟨by omega, by omega, by omega⟩]
  simp only [Int.toNat_natCast, Option.bind_some, List.take_length]
  rw [show (s.1.take n).drop (0 : Int).toNat = s.1.take n from rfl, room1 (by rw [List.length_take]; simp; omega), cond_true])
theorem lacks_eq (n : Nat) (e : Int) : buf_Reader_lacks (n : Int) true s.1 e = some (bif decide (s.1.length < n) then (true, 2) else (false, e)) := buf_Reader_lacks_r (by
  rw [buf_Reader_lacks_b, xlen_eq, ile_dec]
  by_cases h : s.1.length < n
  · rw [decide_eq_false (by omega), decide_eq_true h] <;> rfl
  · rw [decide_eq_true (by omega), decide_eq_false h] <;> rfl)
theorem Fix_eq {k : Nat} (h1 : 1 ≤ k) (hk : k ≤ 8) : buf_Reader_Fix (k : Int) true s.1 s.2 = some ((rFix k s).1, true, (rFix k s).2.1, (rFix k s).2.2) := buf_Reader_Fix_r (by
  rw [buf_Reader_Fix_b, dead_eq hb hl, Option.bind_some]
  dsimp only
  unfold rFix
  by_cases he : s.2 = 0
  · have hs1 : buf_Reader_Fix_s1 (k : Int) s.1 s.2 true = some (if s.1.length < k then (0, true, s.1, 2) else (bval (s.1.take k), true, s.1.drop k, 0)) := buf_Reader_Fix_s1_r (by
      rw [buf_Reader_Fix_s1_b, lacks_eq hb hl, Option.bind_some]
      by_cases h : s.1.length < k
      · rw [decide_eq_true h, if_pos h] <;> rfl
      · rw [decide_eq_false h, if_neg h, cond_false]
        dsimp only
        rw [cond_false, take_eq hb hl (n := k) (by omega), Option.bind_some]
        dsimp only
        rw [fix_l0 hb hl (by rw [List.length_take]; omega) (fun x hx => hb x (List.mem_of_mem_take hx)), he] <;> rfl)
    have hn : ¬ s.2 ≠ 0 := by simp [he]
    rw [decide_eq_false hn, cond_false, iltF (by omega), cond_false, iltF (by omega), cond_false, hs1, if_neg hn]
    by_cases h : s.1.length < k
    · rw [if_pos h, if_pos h] <;> rfl
    · rw [if_neg h, if_neg h] <;> rfl
  · rw [decide_eq_true he, cond_true, if_pos he])
theorem Fail_eq (e : Int) : buf_Reader_Fail e true s.1 s.2 = some (true, (rFail e s).2) := buf_Reader_Fail_r (by
  rw [buf_Reader_Fail_b, dead_eq hb hl, Option.bind_some]
  dsimp only
  unfold rFail
  by_cases he : s.2 = 0
  · rw [decide_eq_false (by simp [he]), if_neg (by simp [he])] <;> rfl
  · rw [decide_eq_true he, if_pos he] <;> rfl)
theorem Err_eq : buf_Reader_Err true s.1 s.2 = some (s.2, true) := buf_Reader_Err_r rfl
theorem End_eq : buf_Reader_End true s.1 s.2 = some (rEnd s, true) := buf_Reader_End_r (by
  rw [buf_Reader_End_b, Err_eq hb hl, Option.bind_some]
  dsimp only
  unfold rEnd
  by_cases he : s.2 = 0
  · rw [ieqT he, if_neg (by simp [he]), cond_true, xlen_eq]
    by_cases h0 : s.1 = []
    · rw [h0, if_pos rfl] <;> rfl
    · have : 0 < s.1.length := List.length_pos_iff.2 h0
      rw [iltT (by omega), if_neg h0] <;> rfl
  · rw [ieqF he, if_pos he] <;> rfl)
theorem Take_eq {n : Int} (hn : n < 9223372036854775808) : buf_Reader_Take n true s.1 s.2 = some (true, (rTake n s).2.1, (rTake n s).2.2, (rTake n s).1) := buf_Reader_Take_r (by
  rw [buf_Reader_Take_b, dead_eq hb hl, Option.bind_some]
  dsimp only
  unfold rTake
  by_cases he : s.2 = 0
  · rw [decide_eq_false (by simp [he]), if_neg (by simp [he]), cond_false]
    by_cases h0 : n < 0
    · rw [iltT h0, if_pos h0] <;> rfl
    · rw [iltF h0, if_neg h0, cond_false]
      obtain ⟨N, rfl⟩ := Int.eq_ofNat_of_zero_le (show 0 ≤ n by omega)
      have hlk := lacks_eq hb hl (s := s) N s.2
      by_cases h : s.1.length < N
      · rw [decide_eq_true h] at hlk
        rw [hlk, if_pos (by omega)] <;> rfl
      · rw [decide_eq_false h] at hlk
        rw [hlk, if_neg (by omega)]
        simp only [Option.bind_some, cond_false]
        rw [take_eq hb hl (by omega), he] <;> rfl
  · rw [decide_eq_true he, if_pos he] <;> rfl)
theorem Flag_eq : buf_Reader_Flag true s.1 s.2 = some ((rFlag s).1, true, (rFlag s).2.1, (rFlag s).2.2) := buf_Reader_Flag_r (by
  have hlk := lacks_eq hb hl (s := s) 1 s.2
  have hlk' : buf_Reader_lacks 1 true s.1 s.2 = _ := hlk
  rw [buf_Reader_Flag_b, dead_eq hb hl, Option.bind_some]
  dsimp only
  by_cases he : s.2 = 0
  · have hs0 : ∀ x r, s.1 = x :: r → buf_Reader_Flag_s0 s.1 true s.2 = some (if 1 < x then (false, true, x :: r, 3) else (decide (x = 1), true, r, 0)) := fun x r h => buf_Reader_Flag_s0_r (by
      have g : ∀ (y : Int) (q : List Int), xget vB (y :: q) 0 = some y := fun y q => xget_nat vB _ 0
      have tk := take_eq hb hl (s := s) (n := 1) (by rw [h]; simp) s.2
      have tk' : buf_Reader_take 1 true s.1 s.2 = _ := tk
      rw [buf_Reader_Flag_s0_b, tk', h, g, Option.bind_some, ilt_dec]
      by_cases hx : 1 < x
      · rw [decide_eq_true hx, if_pos hx] <;> rfl
      · rw [decide_eq_false hx, if_neg hx, cond_false, Option.bind_some]
        dsimp only
        rw [show (x :: r).take 1 = [x] from rfl, g, Option.bind_some, ieq_dec, he] <;> rfl)
    rw [decide_eq_false (by simp [he]), hlk', cond_false, Option.bind_some]
    unfold rFlag
    rw [if_neg (by simp [he])]
    cases h : s.1 with
    | nil => rfl
    | cons x r =>
      have hh := hs0 x r h
      rw [h] at hh
      rw [decide_eq_false (by simp), cond_false]
      dsimp only
      rw [cond_false, hh]
      by_cases hx : 1 < x
      · rw [if_pos hx, if_pos hx] <;> rfl
      · rw [if_neg hx, if_neg hx] <;> rfl
  · have : rFlag s = (false, s) := by unfold rFlag; rw [if_pos he]
    rw [decide_eq_true he, this] <;> rfl)
end
theorem rd_fact (f : RS → RS) {s : RS} (hb : Byt s.1) (hl : s.1.length ≤ 100000) (h : (f s).1 <:+ s.1) : Byt (f s).1 ∧ (f s).1.length ≤ 100000 := ⟨byt_suf hb h, Nat.le_trans h.length_le hl⟩
section
variable {s : RS} (hb : Byt s.1) (hl : s.1.length ≤ 100000)
include hb hl
theorem peerR_eq : fixed_peer true s.1 s.2 = some ((rPeer s).1, true, (rPeer s).2.1, (rPeer s).2.2) := fixed_peer_r (by
  obtain ⟨b1, l1⟩ := rd_fact (fun s => (rFix 8 s).2) hb hl (rFix_suf 8 s)
  have f1 : buf_Reader_Fix 8 true s.1 s.2 = _ := Fix_eq hb hl (k := 8) (by omega) (by omega)
  have f2 : buf_Reader_Fix 2 true (rFix 8 s).2.1 (rFix 8 s).2.2 = _ := Fix_eq b1 l1 (k := 2) (by omega) (by omega)
  have hlt := rFix_lt 2 (rFix 8 s).2 b1
  rw [fixed_peer_b, f1, Option.bind_some]
  dsimp only
  rw [f2, Option.bind_some]
  dsimp only
  rw [wrap_u16 hlt.1 hlt.2] <;> rfl)
theorem many_eq {m : Int} (hm : 0 ≤ m) : fixed_many m true s.1 s.2 = some ((rMany m s).1, true, (rMany m s).2.1, (rMany m s).2.2) := fixed_many_r (by
  obtain ⟨b1, l1⟩ := rd_fact (fun s => (rFix 1 s).2) hb hl (rFix_suf 1 s)
  have f1 : buf_Reader_Fix 1 true s.1 s.2 = _ := Fix_eq hb hl (k := 1) (by omega) (by omega)
  have hlt := rFix_lt 1 s hb
  have h256 : (256 : Int) ^ 1 = 256 := by decide
  rw [fixed_many_b, f1, Option.bind_some]
  dsimp only
  rw [wrap_i64 hlt.1 (by omega)]
  unfold rMany
  by_cases h : m < (rFix 1 s).1
  · have hne : (rFail 5 (rFix 1 s).2).2 ≠ 0 := by
      unfold rFail
      split
      · assumption
      · show (5 : Int) ≠ 0; omega
    have e1 := Err_eq (s := ((rFix 1 s).2.1, (rFail 5 (rFix 1 s).2).2)) b1 l1
    dsimp only at e1
    rw [iltT h, cond_true, Fail_eq b1 l1, Option.bind_some]
    dsimp only
    rw [e1, Option.bind_some, if_pos h]
    dsimp only
    rw [ieqF hne, cond_false, rFail_suf]
  · rw [iltF h, cond_false, Err_eq b1 l1, Option.bind_some, if_neg h]
    dsimp only
    by_cases h0 : (rFix 1 s).2.2 = 0
    · rw [ieqT h0] <;> rfl
    · have : (rFix 1 s).1 = 0 := by
        unfold rFix at h0 ⊢
        split
        · rfl
        · split
          · rfl
          · rename_i a b; rw [if_neg a, if_neg b] at h0; exact absurd rfl h0
      rw [ieqF h0, cond_false, this])
theorem textR_eq {k : Nat} {m : Int} (h1 : 1 ≤ k) (hk : k ≤ 7) (hm : 0 ≤ m) (hm1 : m < 1000000) : fixed_text (k : Int) m true s.1 s.2 = some ((rText k m s).1, true, (rText k m s).2.1, (rText k m s).2.2) := fixed_text_r (by
  obtain ⟨b1, l1⟩ := rd_fact (fun s => (rFix k s).2) hb hl (rFix_suf k s)
  have hlt := rFix_lt k s hb
  have h7 : (256 : Int) ^ k ≤ 256 ^ 7 := by
    have : ∀ d : Nat, (256 : Int) ^ k ≤ 256 ^ (k + d) := fun d => by
      induction d with
      | zero => exact Int.le_refl _
      | succ d ih => rw [← Nat.add_assoc, Int.pow_succ]; have : (0 : Int) < 256 ^ (k + d) := Int.pow_pos (by omega); omega
    have := this (7 - k)
    rwa [show k + (7 - k) = 7 by omega] at this
  have h7' : (256 : Int) ^ 7 = 72057594037927936 := by decide
  rw [fixed_text_b, Fix_eq hb hl h1 (by omega), Option.bind_some]
  dsimp only
  rw [wrap_u64 hm (by omega), wrap_i64 hlt.1 (by omega)]
  by_cases h : m < (rFix k s).1
  · have e : rText k m s = (textOf (rTake (rFix k s).1 (rFail 5 (rFix k s).2)).1, (rTake (rFix k s).1 (rFail 5 (rFix k s).2)).2) := by unfold rText; simp only [if_pos h]
    have t := Take_eq (s := rFail 5 (rFix k s).2) (n := (rFix k s).1) (by rw [rFail_suf]; exact b1) (by rw [rFail_suf]; exact l1) (by omega)
    rw [rFail_suf] at t
    rw [iltT h, cond_true, Fail_eq b1 l1, Option.bind_some]
    dsimp only
    rw [t, Option.bind_some, e]
    dsimp only
    rw [xsofb_eq] <;> rfl
  · have e : rText k m s = (textOf (rTake (rFix k s).1 (rFix k s).2).1, (rTake (rFix k s).1 (rFix k s).2).2) := by unfold rText; simp only [if_neg h]
    rw [iltF h, cond_false, Take_eq b1 l1 (by omega), Option.bind_some, e]
    dsimp only
    rw [xsofb_eq] <;> rfl)
end
end Go.Ab.Tryd
namespace Go.Ab.Tryd
open Go Go.Ab Go.Proofs Go.Lib
set_option linter.unusedVariables false
set_option linter.unusedSimpArgs false
set_option linter.unusedSectionVars false
theorem rTake_mem {n : Int} {s : RS} {x : Int} (h : x ∈ (rTake n s).1) : x ∈ s.1 := by
  unfold rTake at h
  split at h
  · cases h
  · split at h
    · cases h
    · split at h
      · cases h
      · exact List.mem_of_mem_take h
theorem rTake_len {n : Int} {s : RS} : (rTake n s).1.length ≤ n.toNat := by
  unfold rTake
  split
  · simp
  · split
    · simp
    · split
      · simp
      · rw [List.length_take]; omega
section
variable {B : List Int} {s : RS} (hb : Byt B) (hl : B.length ≤ 100000) (hs : s.1 <:+ B)
include hb hl hs
end
theorem peers_l {n : Nat} (hn : n ≤ 1000) : ∀ (d i : Nat) (s : RS) (l : List Peer), i + d = n → Byt s.1 → s.1.length ≤ 100000 → l.length = i → fixed_peers_l0 (n : Int) (i : Int) true s.1 s.2 l = some (true, (rRep rPeer d s).2.1, (rRep rPeer d s).2.2, l ++ (rRep rPeer d s).1) := by
  intro d
  induction d with
  | zero => intro i s l hi hb hl hll; exact fixed_peers_l0_r (by rw [fixed_peers_l0_b, iltF (by omega)]; simp [rRep])
  | succ d ih =>
    intro i s l hi hb hl hll
    obtain ⟨b1, l1⟩ := rd_fact (fun s => (rPeer s).2) hb hl (rPeer_suf s)
    exact fixed_peers_l0_r (by
      rw [fixed_peers_l0_b, iltT (by omega), cond_true, peerR_eq hb hl, Option.bind_some]
      dsimp only
      rw [xroom_eq ePeer (by simp; omega) (by omega), cond_true, show Ops.std.iadd .i64 (i : Int) 1 = ((i + 1 : Nat) : Int) from iadd1 (by omega), ih (i + 1) _ _ (by omega) b1 l1 (by simp [hll]), rRep]
      simp only [List.append_assoc, List.singleton_append])
theorem peersR_eq {s : RS} (hb : Byt s.1) (hl : s.1.length ≤ 100000) : fixed_peers true s.1 s.2 = some (true, (rPeers s).2.1, (rPeers s).2.2, (rPeers s).1) := fixed_peers_r (by
  obtain ⟨b1, l1⟩ := rd_fact (fun s => (rMany 16 s).2) hb hl (rMany_suf 16 s)
  have hm := rMany_lt (m := 16) (by omega) hb
  have h := peers_l (n := (rMany 16 s).1.toNat) (by omega) (rMany 16 s).1.toNat 0 (rMany 16 s).2 [] (by omega) b1 l1 rfl
  rw [Int.toNat_of_nonneg hm.1] at h
  have h' : fixed_peers_l0 (rMany 16 s).1 0 true (rMany 16 s).2.1 (rMany 16 s).2.2 [] = _ := h
  rw [fixed_peers_b, many_eq hb hl (by omega), Option.bind_some]
  dsimp only
  rw [h'] <;> rfl)
theorem pairs_l {n : Nat} (hn : n ≤ 1000) : ∀ (d i : Nat) (s : RS) (l : List Pair), i + d = n → Byt s.1 → s.1.length ≤ 100000 → l.length = i → fixed_pairs_l0 (n : Int) (i : Int) true s.1 s.2 l = some (true, (rRep rPair d s).2.1, (rRep rPair d s).2.2, l ++ (rRep rPair d s).1) := by
  intro d
  induction d with
  | zero => intro i s l hi hb hl hll; exact fixed_pairs_l0_r (by rw [fixed_pairs_l0_b, iltF (by omega)]; simp [rRep])
  | succ d ih =>
    intro i s l hi hb hl hll
    obtain ⟨b0, l0⟩ := rd_fact (fun s => (rText 1 96 s).2) hb hl (rText_suf 1 96 s)
    obtain ⟨b1, l1⟩ := rd_fact (fun s => (rPair s).2) hb hl (rPair_suf s)
    have t1 : fixed_text 1 96 true s.1 s.2 = _ := textR_eq hb hl (k := 1) (m := 96) (by omega) (by omega) (by omega) (by omega)
    have t2 : fixed_text 2 512 true (rText 1 96 s).2.1 (rText 1 96 s).2.2 = _ := textR_eq b0 l0 (k := 2) (m := 512) (by omega) (by omega) (by omega) (by omega)
    exact fixed_pairs_l0_r (by
      rw [fixed_pairs_l0_b, iltT (by omega), cond_true, t1, Option.bind_some]
      dsimp only
      rw [t2, Option.bind_some]
      dsimp only
      have hx := ih (i + 1) (rPair s).2 (l ++ [(rPair s).1]) (by omega) b1 l1 (by simp [hll])
      rw [xroom_eq ePair (by simp; omega) (by omega), cond_true, show Ops.std.iadd .i64 (i : Int) 1 = ((i + 1 : Nat) : Int) from iadd1 (by omega)]
      refine hx.trans ?_
      rw [rRep]
      simp only [List.append_assoc, List.singleton_append])
theorem pairsR_eq {s : RS} (hb : Byt s.1) (hl : s.1.length ≤ 100000) : fixed_pairs true s.1 s.2 = some (true, (rPairs s).2.1, (rPairs s).2.2, (rPairs s).1) := fixed_pairs_r (by
  obtain ⟨b1, l1⟩ := rd_fact (fun s => (rMany 8 s).2) hb hl (rMany_suf 8 s)
  have hm := rMany_lt (m := 8) (by omega) hb
  have h := pairs_l (n := (rMany 8 s).1.toNat) (by omega) (rMany 8 s).1.toNat 0 (rMany 8 s).2 [] (by omega) b1 l1 rfl
  rw [Int.toNat_of_nonneg hm.1] at h
  have h' : fixed_pairs_l0 (rMany 8 s).1 0 true (rMany 8 s).2.1 (rMany 8 s).2.2 [] = _ := h
  rw [fixed_pairs_b, many_eq hb hl (by omega), Option.bind_some]
  dsimp only
  rw [h'] <;> rfl)
end Go.Ab.Tryd
namespace Go.Ab.Tryd
open Go Go.Ab Go.Proofs Go.Lib
set_option linter.unusedVariables false
set_option linter.unusedSimpArgs false
set_option linter.unusedSectionVars false
def fCode (k : Int) (s : RS) : Int × RS := if k = 12 then rFix 1 s else (0, s)
def fHas (k : Int) (s : RS) : Bool × RS := if k = 2 ∨ k = 4 ∨ k = 9 ∨ k = 10 then rFlag s else (false, s)
def fId (k : Int) (s : RS) : Int × RS := if k = 1 then rFix 8 s else (0, s)
def fPr (k : Int) (h : Bool) (s : RS) : Peer × RS := if k = 5 ∨ (k = 4 ∧ h = true) then rPeer s else (⟨0, 0⟩, s)
def fPs (k : Int) (s : RS) : List Peer × RS := if k = 2 ∨ k = 4 then rPeers s else ([], s)
def fKy (k : Int) (s : RS) : ByteArray × RS := if k = 7 ∨ k = 8 then rText 1 96 s else (⟨#[]⟩, s)
def fVl (k : Int) (h : Bool) (s : RS) : ByteArray × RS := if k = 7 ∨ (k = 9 ∧ h = true) then rText 2 512 s else (⟨#[]⟩, s)
def fQs (k : Int) (s : RS) : List Pair × RS := if k = 10 then rPairs s else ([], s)
def fields (k rid : Int) (s0 : RS) : Msg × RS :=
  let s1 := (fCode k s0).2
  let s2 := (fHas k s1).2
  let s3 := (fId k s2).2
  let h := (fHas k s1).1
  let s4 := (fPr k h s3).2
  let s5 := (fPs k s4).2
  let s6 := (fKy k s5).2
  let s7 := (fVl k h s6).2
  (⟨k, rid, (fCode k s0).1, h, (fId k s2).1, (fKy k s5).1, (fVl k h s6).1, (fPr k h s3).1, (fPs k s4).1, (fQs k s7).1⟩, (fQs k s7).2)
def kindOk (k : Int) (s : RS) : RS := if k < 1 ∨ 12 < k then rFail 9 s else s
def parse (b : List Int) : Msg × RS :=
  let k := rFix 1 (b, 0)
  let r := rFix 4 (kindOk k.1 k.2)
  fields k.1 r.1 r.2
def zeroMsg : Msg := ⟨0, 0, 0, false, 0, ⟨#[]⟩, ⟨#[]⟩, ⟨0, 0⟩, [], []⟩
noncomputable def fe (p : Msg × RS) : Int := if rEnd p.2 = 0 then rightE p.1 else rEnd p.2
noncomputable def decS (b : List Int) : Msg × Int := if fe (parse b) = 0 then ((parse b).1, 0) else (zeroMsg, fe (parse b))
section
variable {s : RS} (hb : Byt s.1) (hl : s.1.length ≤ 100000)
include hb hl
theorem fld1 (rid : Int) : fixed_fields true s.1 s.2 1 rid 0 false 0 ⟨#[]⟩ ⟨#[]⟩ 0 0 [] [] = some (true, (fields 1 rid s).2.1, (fields 1 rid s).2.2, (fields 1 rid s).1.code, (fields 1 rid s).1.has, (fields 1 rid s).1.id, (fields 1 rid s).1.key, (fields 1 rid s).1.val, (fields 1 rid s).1.peer.id, (fields 1 rid s).1.peer.addr, (fields 1 rid s).1.peers, (fields 1 rid s).1.pairs) := fixed_fields_r (by
  have f1 : buf_Reader_Fix 8 true s.1 s.2 = _ := Fix_eq hb hl (k := 8) (by omega) (by omega)
  rw [fixed_fields_b, ieqT rfl, cond_true, f1] <;> rfl)
def outF (p : Msg × RS) : Option (Bool × List Int × Int × Int × Bool × ByteArray × ByteArray × Int × Int × List Peer × List Pair) := some (true, p.2.1, p.2.2, p.1.code, p.1.has, p.1.key, p.1.val, p.1.peer.id, p.1.peer.addr, p.1.peers, p.1.pairs)
def outG (p : Msg × RS) : Option (Bool × List Int × Int × Int × Bool × ByteArray × ByteArray × List Pair) := some (true, p.2.1, p.2.2, p.1.code, p.1.has, p.1.key, p.1.val, p.1.pairs)
theorem fld_s0 {k : Int} (rid : Int) (h1 : k ≠ 1) (h2 : k ≠ 2) (h4 : k ≠ 4) (h5 : k ≠ 5) : fixed_fields_s0 true s.1 s.2 k rid 0 false 0 ⟨#[]⟩ ⟨#[]⟩ 0 0 [] [] (decide (k = 7 ∨ k = 8)) = outG (fields k rid s) := fixed_fields_s0_r (by
  have t1 : fixed_text 1 96 true s.1 s.2 = _ := textR_eq hb hl (k := 1) (m := 96) (by omega) (by omega) (by omega) (by omega)
  obtain ⟨b1, l1⟩ := rd_fact (fun s => (rText 1 96 s).2) hb hl (rText_suf 1 96 s)
  have t2 : fixed_text 2 512 true (rText 1 96 s).2.1 (rText 1 96 s).2.2 = _ := textR_eq b1 l1 (k := 2) (m := 512) (by omega) (by omega) (by omega) (by omega)
  obtain ⟨b2, l2⟩ := rd_fact (fun s => (rFlag s).2) hb hl (rFlag_suf s)
  have t3 : fixed_text 2 512 true (rFlag s).2.1 (rFlag s).2.2 = _ := textR_eq b2 l2 (k := 2) (m := 512) (by omega) (by omega) (by omega) (by omega)
  have t4 := pairsR_eq b2 l2
  have t5 : buf_Reader_Fix 1 true s.1 s.2 = _ := Fix_eq hb hl (k := 1) (by omega) (by omega)
  have hf := Flag_eq hb hl
  have hlt := rFix_lt 1 s hb
  have h256 : (256 : Int) ^ 1 = 256 := by decide
  rw [fixed_fields_s0_b]
  by_cases h7 : k = 7
  · subst h7
    simp only [show decide ((7 : Int) = 7 ∨ (7 : Int) = 8) = true from rfl, cond_true, t1, t2, Option.bind_some, ieqT]; try rfl
  · by_cases h8 : k = 8
    · subst h8
      simp only [show decide ((8 : Int) = 7 ∨ (8 : Int) = 8) = true from rfl, cond_true, t1, Option.bind_some, ieqF h7, cond_false]; try rfl
    · rw [decide_eq_false (by omega), cond_false]
      by_cases h9 : k = 9
      · subst h9
        rw [ieqT rfl, cond_true, hf, Option.bind_some]
        dsimp only
        cases hh : (rFlag s).1 with
        | true =>
          have e : fields 9 rid s = (⟨9, rid, 0, true, 0, ⟨#[]⟩, (rText 2 512 (rFlag s).2).1, ⟨0, 0⟩, [], []⟩, (rText 2 512 (rFlag s).2).2) := by
            simp [fields, fCode, fHas, fId, fPr, fPs, fKy, fVl, fQs, hh]
          rw [cond_true, t3, Option.bind_some, e] <;> rfl
        | false =>
          have e : fields 9 rid s = (⟨9, rid, 0, false, 0, ⟨#[]⟩, ⟨#[]⟩, ⟨0, 0⟩, [], []⟩, (rFlag s).2) := by
            simp [fields, fCode, fHas, fId, fPr, fPs, fKy, fVl, fQs, hh]
          rw [cond_false, e] <;> rfl
      · rw [ieqF h9, cond_false]
        by_cases h10 : k = 10
        · subst h10
          rw [ieqT rfl, cond_true, hf, Option.bind_some]
          dsimp only
          rw [t4]; try rfl
        · rw [ieqF h10, cond_false]
          by_cases h12 : k = 12
          · subst h12
            rw [ieqT rfl, cond_true, t5, Option.bind_some]
            dsimp only
            rw [wrap_u8, show (rFix 1 s).1 % 256 = (rFix 1 s).1 by omega] <;> rfl
          · have e : fields k rid s = (⟨k, rid, 0, false, 0, ⟨#[]⟩, ⟨#[]⟩, ⟨0, 0⟩, [], []⟩, s) := by
              simp [fields, fCode, fHas, fId, fPr, fPs, fKy, fVl, fQs, h1, h2, h4, h5, h7, h8, h9, h10, h12]
            rw [ieqF h12, cond_false, e] <;> rfl)
theorem fld_s1 {k : Int} (rid : Int) (h1 : k ≠ 1) : fixed_fields_s1 true s.1 s.2 k rid 0 false 0 ⟨#[]⟩ ⟨#[]⟩ 0 0 [] [] (decide (k = 2 ∨ k = 4)) = outF (fields k rid s) := fixed_fields_s1_r (by
  have hf := Flag_eq hb hl
  obtain ⟨b2, l2⟩ := rd_fact (fun s => (rFlag s).2) hb hl (rFlag_suf s)
  have p1 := peerR_eq b2 l2
  obtain ⟨b3, l3⟩ := rd_fact (fun s => (rPeer s).2) b2 l2 (rPeer_suf _)
  have p2 := peersR_eq b3 l3
  have p3 := peersR_eq b2 l2
  have p4 := peerR_eq hb hl
  rw [fixed_fields_s1_b]
  by_cases h2 : k = 2
  · subst h2
    rw [show decide ((2 : Int) = 2 ∨ (2 : Int) = 4) = true from rfl, cond_true, hf, Option.bind_some]
    dsimp only
    cases hh : (rFlag s).1 with
    | true =>
      have e : fields 2 rid s = (⟨2, rid, 0, true, 0, ⟨#[]⟩, ⟨#[]⟩, ⟨0, 0⟩, (rPeers (rFlag s).2).1, []⟩, (rPeers (rFlag s).2).2) := by
        simp [fields, fCode, fHas, fId, fPr, fPs, fKy, fVl, fQs, hh]
      rw [cond_true, ieqF (by omega), cond_false, p3, e] <;> rfl
    | false =>
      have e : fields 2 rid s = (⟨2, rid, 0, false, 0, ⟨#[]⟩, ⟨#[]⟩, ⟨0, 0⟩, (rPeers (rFlag s).2).1, []⟩, (rPeers (rFlag s).2).2) := by
        simp [fields, fCode, fHas, fId, fPr, fPs, fKy, fVl, fQs, hh]
      rw [cond_false, p3, e] <;> rfl
  · by_cases h4 : k = 4
    · subst h4
      rw [show decide ((4 : Int) = 2 ∨ (4 : Int) = 4) = true from rfl, cond_true, hf, Option.bind_some]
      dsimp only
      cases hh : (rFlag s).1 with
      | true =>
        have e : fields 4 rid s = (⟨4, rid, 0, true, 0, ⟨#[]⟩, ⟨#[]⟩, (rPeer (rFlag s).2).1, (rPeers (rPeer (rFlag s).2).2).1, []⟩, (rPeers (rPeer (rFlag s).2).2).2) := by
          simp [fields, fCode, fHas, fId, fPr, fPs, fKy, fVl, fQs, hh]
        rw [cond_true, ieqT rfl, cond_true, p1, Option.bind_some]
        dsimp only
        rw [p2, e] <;> rfl
      | false =>
        have e : fields 4 rid s = (⟨4, rid, 0, false, 0, ⟨#[]⟩, ⟨#[]⟩, ⟨0, 0⟩, (rPeers (rFlag s).2).1, []⟩, (rPeers (rFlag s).2).2) := by
          simp [fields, fCode, fHas, fId, fPr, fPs, fKy, fVl, fQs, hh]
        rw [cond_false, p3, e] <;> rfl
    · rw [decide_eq_false (by omega), cond_false]
      by_cases h5 : k = 5
      · subst h5
        rw [ieqT rfl, cond_true, p4] <;> rfl
      · rw [ieqF h5, cond_false]
        have hs0 := fld_s0 hb hl (k := k) rid h1 h2 h4 h5
        have e : (fields k rid s).1.peer = ⟨0, 0⟩ ∧ (fields k rid s).1.peers = [] := by
          simp [fields, fPr, fPs, h5, h2, h4]
        by_cases h7 : k = 7
        · rw [decide_eq_true (.inl h7)] at hs0
          rw [ieqT h7, cond_true, hs0]; simp only [outF, outG, Option.bind_some, e.1, e.2]
        · have e' : Ops.std.ieq k 8 = decide (k = 7 ∨ k = 8) := by rw [ieq_dec]; exact decide_eq_decide.2 ⟨.inr, fun h => by omega⟩
          rw [ieqF h7, cond_false, e', hs0]; simp only [outF, outG, Option.bind_some, e.1, e.2])
theorem fld_eq (k rid : Int) : fixed_fields true s.1 s.2 k rid 0 false 0 ⟨#[]⟩ ⟨#[]⟩ 0 0 [] [] = some (true, (fields k rid s).2.1, (fields k rid s).2.2, (fields k rid s).1.code, (fields k rid s).1.has, (fields k rid s).1.id, (fields k rid s).1.key, (fields k rid s).1.val, (fields k rid s).1.peer.id, (fields k rid s).1.peer.addr, (fields k rid s).1.peers, (fields k rid s).1.pairs) := by
  by_cases h1 : k = 1
  · subst h1; exact fld1 hb hl rid
  · refine fixed_fields_r ?_
    have hs1 := fld_s1 hb hl (k := k) rid h1
    have e : (fields k rid s).1.id = 0 := by simp [fields, fId, h1]
    rw [fixed_fields_b, ieqF h1, cond_false, e]
    by_cases h2 : k = 2
    · rw [decide_eq_true (.inl h2)] at hs1
      rw [ieqT h2, cond_true, hs1] <;> rfl
    · have e' : Ops.std.ieq k 4 = decide (k = 2 ∨ k = 4) := by rw [ieq_dec]; exact decide_eq_decide.2 ⟨.inr, fun h => by omega⟩
      rw [ieqF h2, cond_false, e', hs1] <;> rfl
end
theorem rText_size {k : Nat} {m : Int} (hm : 0 ≤ m) (s : RS) : ((rText k m s).1.size : Int) ≤ m := by
  unfold rText
  dsimp only
  rw [textOf_len]
  by_cases h : m < (rFix k s).1
  · rw [if_pos h]
    have hne : (rFail 5 (rFix k s).2).2 ≠ 0 := by
      unfold rFail
      split
      · assumption
      · show (5 : Int) ≠ 0; omega
    unfold rTake
    rw [if_pos hne]; exact hm
  · rw [if_neg h]
    have := rTake_len (n := (rFix k s).1) (s := (rFix k s).2)
    omega
theorem rRep_len {α : Type} {f : RS → α × RS} : ∀ (n : Nat) (s : RS), (rRep f n s).1.length = n
  | 0, _ => rfl
  | n + 1, s => by simp [rRep, rRep_len n]
theorem rRep_all {α : Type} {f : RS → α × RS} {P : α → Prop} {Q : RS → Prop} (hf : ∀ s, Q s → P (f s).1 ∧ Q (f s).2) : ∀ (n : Nat) (s : RS), Q s → ∀ x, x ∈ (rRep f n s).1 → P x
  | 0, s, _, x, hx => by cases hx
  | n + 1, s, hq, x, hx => by
    rcases List.mem_cons.1 hx with rfl | hx
    · exact (hf s hq).1
    · exact rRep_all hf n _ (hf s hq).2 x hx
theorem rPeer_ok {s : RS} (hb : Byt s.1) : PeOk (rPeer s).1 := by
  have h1 := rFix_lt 8 s hb
  have h2 := rFix_lt 2 (rFix 8 s).2 (byt_suf hb (rFix_suf 8 s))
  have e8 : (256 : Int) ^ 8 = 18446744073709551616 := by decide
  have e2 : (256 : Int) ^ 2 = 65536 := by decide
  exact ⟨h1.1, by have := h1.2; rw [e8] at this; exact this, h2.1, by have := h2.2; rw [e2] at this; exact this⟩
theorem rPeers_ok {s : RS} (hb : Byt s.1) : (rPeers s).1.length ≤ 16 ∧ ∀ p, p ∈ (rPeers s).1 → PeOk p := by
  have hm := rMany_lt (m := 16) (by omega) hb
  refine ⟨by unfold rPeers; rw [rRep_len]; omega, ?_⟩
  exact rRep_all (Q := fun s => Byt s.1) (fun s h => ⟨rPeer_ok h, byt_suf h (rPeer_suf s)⟩) _ _ (byt_suf hb (rMany_suf 16 s))
theorem rPairs_ok {s : RS} (hb : Byt s.1) : (rPairs s).1.length ≤ 8 ∧ ∀ p, p ∈ (rPairs s).1 → p.key.size ≤ 1000 ∧ p.val.size ≤ 1000 := by
  have hm := rMany_lt (m := 8) (by omega) hb
  refine ⟨by unfold rPairs; rw [rRep_len]; omega, ?_⟩
  refine rRep_all (Q := fun _ => True) (fun s _ => ⟨⟨?_, ?_⟩, trivial⟩) _ _ trivial
  · have := rText_size (k := 1) (m := 96) (by omega) s
    show (rText 1 96 s).1.size ≤ 1000; omega
  · have := rText_size (k := 2) (m := 512) (by omega) (rText 1 96 s).2
    show (rText 2 512 (rText 1 96 s).2).1.size ≤ 1000; omega
section
variable {s : RS} (hb : Byt s.1)
include hb
theorem sufs (k rid : Int) : (fCode k s).2.1 <:+ s.1 ∧ (∀ t : RS, (fHas k t).2.1 <:+ t.1) ∧ (∀ t : RS, (fId k t).2.1 <:+ t.1) ∧ (∀ h (t : RS), (fPr k h t).2.1 <:+ t.1) ∧ (∀ t : RS, (fPs k t).2.1 <:+ t.1) ∧ (∀ t : RS, (fKy k t).2.1 <:+ t.1) ∧ (∀ h (t : RS), (fVl k h t).2.1 <:+ t.1) ∧ (∀ t : RS, (fQs k t).2.1 <:+ t.1) := by
  refine ⟨?_, fun t => ?_, fun t => ?_, fun h t => ?_, fun t => ?_, fun t => ?_, fun h t => ?_, fun t => ?_⟩
  · unfold fCode; split
    · exact rFix_suf 1 s
    · exact List.suffix_refl _
  · unfold fHas; split
    · exact rFlag_suf t
    · exact List.suffix_refl _
  · unfold fId; split
    · exact rFix_suf 8 t
    · exact List.suffix_refl _
  · unfold fPr; split
    · exact rPeer_suf t
    · exact List.suffix_refl _
  · unfold fPs; split
    · exact (rRep_suf rPeer_suf _ _).trans (rMany_suf 16 t)
    · exact List.suffix_refl _
  · unfold fKy; split
    · exact rText_suf 1 96 t
    · exact List.suffix_refl _
  · unfold fVl; split
    · exact rText_suf 2 512 t
    · exact List.suffix_refl _
  · unfold fQs; split
    · exact (rRep_suf rPair_suf _ _).trans (rMany_suf 8 t)
    · exact List.suffix_refl _
theorem fields_ok (k : Int) {rid : Int} (r0 : 0 ≤ rid) (r1 : rid < 4294967296) : Small (fields k rid s).1 ∧ Rng (fields k rid s).1 ∧ (fields k rid s).2.1 <:+ s.1 := by
  obtain ⟨a1, a2, a3, a4, a5, a6, a7, a8⟩ := sufs hb k rid
  have B1 := byt_suf hb a1
  have B2 := byt_suf B1 (a2 _)
  have B3 := byt_suf B2 (a3 _)
  have B4 := byt_suf B3 (a4 (fHas k (fCode k s).2).1 _)
  have B5 := byt_suf B4 (a5 _)
  have B6 := byt_suf B5 (a6 _)
  have B7 := byt_suf B6 (a7 (fHas k (fCode k s).2).1 _)
  have z : PeOk ⟨0, 0⟩ := ⟨Int.le_refl 0, by decide, Int.le_refl 0, by decide⟩
  refine ⟨⟨?_, ?_, ?_, ?_, ?_⟩, ⟨r0, r1, ?_, ?_, ?_, ?_, ?_, ?_⟩, (a8 _).trans ((a7 _ _).trans ((a6 _).trans ((a5 _).trans ((a4 _ _).trans ((a3 _).trans ((a2 _).trans a1))))))⟩
  · simp only [fields, fKy]; split
    · have := rText_size (k := 1) (m := 96) (by omega) (fPs k (fPr k (fHas k (fCode k s).2).1 (fId k (fHas k (fCode k s).2).2).2).2).2; omega
    · show 0 ≤ 1000; omega
  · simp only [fields, fVl]; split
    · have := rText_size (k := 2) (m := 512) (by omega) (fKy k (fPs k (fPr k (fHas k (fCode k s).2).1 (fId k (fHas k (fCode k s).2).2).2).2).2).2; omega
    · show 0 ≤ 1000; omega
  · simp only [fields, fPs]; split
    · have := (rPeers_ok B4).1; omega
    · simp
  · simp only [fields, fQs]; split
    · have := (rPairs_ok B7).1; omega
    · simp
  · simp only [fields, fQs]; split
    · exact (rPairs_ok B7).2
    · intro p hp; cases hp
  · simp only [fields, fCode]; split
    · exact (rFix_lt 1 s hb).1
    · exact Int.le_refl 0
  · simp only [fields, fCode]; split
    · exact (rFix_lt 1 s hb).2
    · show (0 : Int) < 256; omega
  · simp only [fields, fId]; split
    · exact (rFix_lt 8 _ B2).1
    · exact Int.le_refl 0
  · simp only [fields, fId]; split
    · have := (rFix_lt 8 _ B2).2
      have e8 : (256 : Int) ^ 8 = 18446744073709551616 := by decide
      rw [e8] at this; exact this
    · show (0 : Int) < 18446744073709551616; omega
  · simp only [fields, fPr]; split
    · exact rPeer_ok B3
    · exact z
  · simp only [fields, fPs]; split
    · exact (rPeers_ok B4).2
    · intro p hp; cases hp
end
theorem kindOk_suf (k : Int) (s : RS) : (kindOk k s).1 = s.1 := by unfold kindOk; split; exact rFail_suf 9 s; rfl
theorem parse_ok {b : List Int} (hb : Byt b) : Small (parse b).1 ∧ Rng (parse b).1 := by
  have b1 : Byt (kindOk (rFix 1 (b, 0)).1 (rFix 1 (b, 0)).2).1 := by rw [kindOk_suf]; exact byt_suf hb (rFix_suf 1 (b, 0))
  have b2 := byt_suf b1 (rFix_suf 4 _)
  have hlt := rFix_lt 4 _ b1
  have e4 : (256 : Int) ^ 4 = 4294967296 := by decide
  rw [e4] at hlt
  have := fields_ok b2 (rFix 1 (b, 0)).1 hlt.1 hlt.2
  exact ⟨this.1, this.2.1⟩
theorem fixed_Dec_eq {b : List Int} (hb : Byt b) (hl : b.length ≤ 100000) : fixed_Dec b = some (decS b) := fixed_Dec_r (by
  have ho : buf_Open b = some (true, 0) := buf_Open_r (by rw [buf_Open_b, room1 (by simp; omega)] <;> rfl)
  have f1 : buf_Reader_Fix 1 true b 0 = _ := Fix_eq (s := (b, 0)) hb hl (k := 1) (by omega) (by omega)
  obtain ⟨b1, l1⟩ := rd_fact (fun s => (rFix 1 s).2) (s := (b, 0)) hb hl (rFix_suf 1 _)
  have hlt := rFix_lt 1 (b, 0) hb
  have h256 : (256 : Int) ^ 1 = 256 := by decide
  have e4 : (256 : Int) ^ 4 = 4294967296 := by decide
  have s0 : ∀ (k : Int) (t : RS), Byt t.1 → t.1.length ≤ 100000 → ∃ x, fixed_Dec_s0 true t.1 t.2 k = some x ∧
      (match x with
      | .inl (b0_kind, b0_rid, b0_code, b0_has, b0_id, b0_key, b0_val, b0_peer_id, b0_peer_addr, b0_peers, b0_pairs, b1_made, b1_rest, b1_met, b2_kind, b2_rid, b2_code, b2_has, b2_id, b2_key, b2_val, b2_peer_id, b2_peer_addr, b2_peers, b2_pairs) => (((⟨b0_kind, b0_rid, b0_code, b0_has, b0_id, b0_key, b0_val, (⟨b0_peer_id, b0_peer_addr⟩ : Peer), b0_peers, b0_pairs⟩ : Msg), 0) : Msg × Int)
      | .inr (t3, b1_made, b1_rest, b1_met, b2_kind, b2_rid, b2_code, b2_has, b2_id, b2_key, b2_val, b2_peer_id, b2_peer_addr, b2_peers, b2_pairs) => ((⟨0, 0, 0, false, 0, ⟨#[]⟩, ⟨#[]⟩, (⟨0, 0⟩ : Peer), [], []⟩ : Msg), t3)) =
      (let p := fields k (rFix 4 t).1 (rFix 4 t).2; if fe p = 0 then (p.1, 0) else (zeroMsg, fe p)) := fun k t tb tl => by
    obtain ⟨b4, l4⟩ := rd_fact (fun s => (rFix 4 s).2) tb tl (rFix_suf 4 _)
    have f4 : buf_Reader_Fix 4 true t.1 t.2 = _ := Fix_eq tb tl (k := 4) (by omega) (by omega)
    have hl4 := rFix_lt 4 t tb
    rw [e4] at hl4
    obtain ⟨hsm, hrg, hsf⟩ := fields_ok b4 k hl4.1 hl4.2
    have bE := byt_suf b4 hsf
    have lE := Nat.le_trans hsf.length_le l4
    have hE := End_eq bE lE
    have hR := msg_Right_eq hsm.fit
    have hbd : fixed_Dec_s0_b true t.1 t.2 k = fixed_Dec_s0_b true t.1 t.2 k := rfl
    conv at hbd =>
      rhs
      rw [fixed_Dec_s0_b, f4, Option.bind_some]
      dsimp only
      rw [wrap_u32 hl4.1 hl4.2, fld_eq b4 l4, Option.bind_some]
      dsimp only
      rw [hE, Option.bind_some]
    by_cases c0 : rEnd (fields k (rFix 4 t).1 (rFix 4 t).2).2 = 0
    · rw [ieqT c0, cond_true] at hbd
      replace hbd := hbd.trans (congrArg (fun z => Option.bind z _) hR)
      rw [Option.bind_some] at hbd
      by_cases c1 : rightE (fields k (rFix 4 t).1 (rFix 4 t).2).1 = 0
      · rw [ieqT c1, cond_true] at hbd
        exact ⟨_, fixed_Dec_s0_r hbd, by simp only [fe, if_pos c0, if_pos c1] <;> rfl⟩
      · rw [ieqF c1, cond_false] at hbd
        exact ⟨_, fixed_Dec_s0_r hbd, by simp only [fe, if_pos c0, if_neg c1] <;> rfl⟩
    · rw [ieqF c0, cond_false] at hbd
      exact ⟨_, fixed_Dec_s0_r hbd, by simp only [fe, if_neg c0] <;> rfl⟩
  rw [fixed_Dec_b, ho, Option.bind_some]
  dsimp only
  rw [f1, Option.bind_some]
  dsimp only
  rw [wrap_i64 hlt.1 (by omega), msg_Name_eq, Option.bind_some, kind_name, Fail_eq b1 l1, Option.bind_some, decS, parse]
  by_cases hk : (rFix 1 (b, 0)).1 < 1 ∨ 12 < (rFix 1 (b, 0)).1
  · obtain ⟨x, hx, e⟩ := s0 (rFix 1 (b, 0)).1 (rFail 9 (rFix 1 (b, 0)).2) (by rw [rFail_suf]; exact b1) (by rw [rFail_suf]; exact l1)
    rw [rFail_suf] at hx
    rw [decide_eq_true hk, cond_true]
    dsimp only
    rw [hx, Option.bind_some]
    dsimp only at e ⊢
    rw [kindOk, if_pos hk, ← e]
    cases x <;> rfl
  · obtain ⟨x, hx, e⟩ := s0 (rFix 1 (b, 0)).1 (rFix 1 (b, 0)).2 b1 l1
    rw [decide_eq_false hk, cond_false, hx, Option.bind_some]
    dsimp only at e ⊢
    rw [kindOk, if_neg hk, ← e]
    cases x <;> rfl)
end Go.Ab.Tryd
namespace Go.Ab.Tryd
open Go Go.Ab Go.Proofs Go.Lib
set_option linter.unusedVariables false
set_option linter.unusedSimpArgs false
set_option linter.unusedSectionVars false
section
variable {t : List Int}
theorem go_fix {k : Nat} {n : Int} (h0 : 0 ≤ n) (h1 : n < 256 ^ k) : rFix k (be k n ++ t, 0) = (n, (t, 0)) := by
  unfold rFix
  rw [if_neg (by simp), if_neg (by rw [List.length_append, be_len]; omega)]
  have e1 : (be k n ++ t).take k = be k n := by
    have := List.take_left (l₁ := be k n) (l₂ := t); rwa [be_len] at this
  have e2 : (be k n ++ t).drop k = t := by
    have := List.drop_left (l₁ := be k n) (l₂ := t); rwa [be_len] at this
  dsimp only
  rw [e1, e2, bval_be k n h0 h1]
theorem go_flag (b : Bool) : rFlag (pFlag b ++ t, 0) = (b, (t, 0)) := by cases b <;> rfl
theorem go_take (l : List Int) : rTake (l.length : Int) (l ++ t, 0) = (l, (t, 0)) := by
  unfold rTake
  rw [if_neg (by simp), if_neg (by omega), if_neg (by rw [List.length_append]; omega), Int.toNat_natCast]
  dsimp only
  rw [List.take_left, List.drop_left]
theorem go_text {k : Nat} {m : Int} {s : ByteArray} (h : (s.size : Int) ≤ m) (h1 : (s.size : Int) < 256 ^ k) : rText k m (pText k s ++ t, 0) = (s, (t, 0)) := by
  have g : rFix k (pText k s ++ t, 0) = ((s.size : Int), (sbytes s ++ t, 0)) := by
    unfold pText; rw [List.append_assoc]; exact go_fix (by omega) h1
  unfold rText
  rw [g]
  dsimp only
  rw [if_neg (by omega), ← sbytes_len, go_take, textOf_sbytes]
theorem go_peer {p : Peer} (h : PeOk p) : rPeer (pPeer p ++ t, 0) = (p, (t, 0)) := by
  have g1 : rFix 8 (pPeer p ++ t, 0) = (p.id, (be 2 p.addr ++ t, 0)) := by
    unfold pPeer; rw [List.append_assoc]; exact go_fix h.id0 (by have := h.id1; have e : (256 : Int) ^ 8 = 18446744073709551616 := by decide
                                                                 omega)
  have g2 : rFix 2 (be 2 p.addr ++ t, 0) = (p.addr, (t, 0)) := go_fix h.ad0 (by have := h.ad1; have e : (256 : Int) ^ 2 = 65536 := by decide
                                                                                omega)
  unfold rPeer; rw [g1]; dsimp only; rw [g2]
theorem go_pair {p : Pair} (h1 : p.key.size ≤ 96) (h2 : p.val.size ≤ 512) : rPair (pPair p ++ t, 0) = (p, (t, 0)) := by
  have e1 : (256 : Int) ^ 1 = 256 := by decide
  have e2 : (256 : Int) ^ 2 = 65536 := by decide
  have g1 : rText 1 96 (pPair p ++ t, 0) = (p.key, (pText 2 p.val ++ t, 0)) := by
    unfold pPair; rw [List.append_assoc]; exact go_text (by omega) (by omega)
  have g2 : rText 2 512 (pText 2 p.val ++ t, 0) = (p.val, (t, 0)) := go_text (by omega) (by omega)
  unfold rPair; rw [g1]; dsimp only; rw [g2]
theorem go_rep {α : Type} {f : RS → α × RS} {p : α → List Int} : ∀ (l : List α), (∀ x, x ∈ l → ∀ t, f (p x ++ t, 0) = (x, (t, 0))) → rRep f l.length (l.flatMap p ++ t, 0) = (l, (t, 0))
  | [], _ => rfl
  | x :: l, h => by
    have g := h x (List.mem_cons_self) (l.flatMap p ++ t)
    show rRep f (l.length + 1) _ = _
    rw [rRep, List.flatMap_cons, List.append_assoc, g]
    dsimp only
    rw [go_rep l (fun y hy => h y (List.mem_cons_of_mem _ hy))]
theorem go_many {m : Int} {n : Nat} (h : (n : Int) ≤ m) (hm : m < 256) : rMany m (be 1 (n : Int) ++ t, 0) = ((n : Int), (t, 0)) := by
  have e1 : (256 : Int) ^ 1 = 256 := by decide
  have g : rFix 1 (be 1 (n : Int) ++ t, 0) = ((n : Int), (t, 0)) := go_fix (by omega) (by omega)
  unfold rMany; rw [g]; dsimp only; rw [if_neg (by omega)]
theorem go_peers {l : List Peer} (h : l.length ≤ 16) (ho : ∀ p, p ∈ l → PeOk p) : rPeers (be 1 (l.length : Int) ++ l.flatMap pPeer ++ t, 0) = (l, (t, 0)) := by
  unfold rPeers
  rw [List.append_assoc, go_many (by omega) (by omega)]
  exact go_rep l (fun x hx t => go_peer (ho x hx))
theorem go_pairs {l : List Pair} (h : l.length ≤ 8) (ho : ∀ p, p ∈ l → p.key.size ≤ 96 ∧ p.val.size ≤ 512) : rPairs (be 1 (l.length : Int) ++ l.flatMap pPair ++ t, 0) = (l, (t, 0)) := by
  unfold rPairs
  rw [List.append_assoc, go_many (by omega) (by omega)]
  exact go_rep l (fun x hx t => go_pair (ho x hx).1 (ho x hx).2)
end
structure Ok (m : Msg) : Prop where
  kind : 1 ≤ m.kind ∧ m.kind ≤ 12
  bare : m = bare m
  key : m.kind = 7 ∨ m.kind = 8 → isKey m.key = true
  keys : ∀ p, p ∈ m.pairs → isKey p.key = true
  val : m.val.size ≤ 512
  vals : ∀ p, p ∈ m.pairs → p.val.size ≤ 512
  peers : m.peers.length ≤ 16
  pairs : m.pairs.length ≤ 8
theorem isKey_size {s : ByteArray} (h : isKey s = true) : 0 < s.size ∧ s.size ≤ 96 := by
  unfold isKey at h
  simp only [Bool.and_eq_true, decide_eq_true_eq] at h
  exact h.1.1
theorem right_ok {m : Msg} (h : rightE m = 0) : Ok m := by
  unfold rightE at h
  by_cases hk : m.kind < 1 ∨ 12 < m.kind
  · rw [if_pos hk] at h; omega
  rw [if_neg hk] at h
  cases hb : eqb m (bare m) with
  | false => rw [hb] at h; exact absurd h (show ¬ (1 : Int) = 0 by omega)
  | true =>
    rw [hb, cond_true] at h
    cases hx : (keyed m && !isKey m.key) || badKeys m.pairs with
    | true => rw [hx] at h; exact absurd h (show ¬ (7 : Int) = 0 by omega)
    | false =>
      rw [hx, cond_false] at h
      cases hl : isLong m with
      | true => rw [hl] at h; exact absurd h (show ¬ (5 : Int) = 0 by omega)
      | false =>
        simp only [isLong, Bool.or_eq_false_iff, decide_eq_false_iff_not, longs, List.any_eq_false, decide_eq_true_eq] at hl
        simp only [Bool.or_eq_false_iff, badKeys, List.any_eq_false, Bool.not_eq_true', Bool.and_eq_false_iff, keyed, Bool.not_eq_false'] at hx
        refine ⟨by omega, eqb_iff.1 hb, fun hk => ?_, fun p hp => ?_, by omega, fun p hp => by have := hl.2 p hp; omega, by omega, by omega⟩
        · rcases hx.1 with h | h
          · rcases hk with hk | hk <;> simp [hk] at h
          · exact h
        · have := hx.2 p hp
          simpa using this
theorem bare_code {m : Msg} (h : ¬ m.kind = 12) : (bare m).code = 0 := by
  unfold bare; rw [if_neg h]; repeat' split
  all_goals rfl
theorem bare_has {m : Msg} (h : ¬ (m.kind = 2 ∨ m.kind = 4 ∨ m.kind = 9 ∨ m.kind = 10)) : (bare m).has = false := by
  unfold bare
  rw [if_neg (show ¬ m.kind = 2 by omega), if_neg (show ¬ m.kind = 4 by omega), if_neg (show ¬ m.kind = 9 by omega), if_neg (show ¬ m.kind = 10 by omega)]
  repeat' split
  all_goals rfl
theorem bare_id {m : Msg} (h : ¬ m.kind = 1) : (bare m).id = 0 := by
  unfold bare; rw [if_neg h]; repeat' split
  all_goals rfl
theorem bare_peer {m : Msg} (h : ¬ (m.kind = 5 ∨ (m.kind = 4 ∧ m.has = true))) : (bare m).peer = ⟨0, 0⟩ := by
  unfold bare
  rw [if_neg (show ¬ m.kind = 5 by omega)]
  by_cases h4 : m.kind = 4
  · have hh : m.has = false := by
      cases hh : m.has
      · rfl
      · exact absurd (Or.inr ⟨h4, hh⟩) h
    rw [if_neg (show ¬ m.kind = 1 by omega), if_neg (show ¬ m.kind = 2 by omega), if_pos h4, hh] <;> rfl
  · rw [if_neg h4]; repeat' split
    all_goals rfl
theorem bare_peers {m : Msg} (h : ¬ (m.kind = 2 ∨ m.kind = 4)) : (bare m).peers = [] := by
  unfold bare
  rw [if_neg (show ¬ m.kind = 2 by omega), if_neg (show ¬ m.kind = 4 by omega)]
  repeat' split
  all_goals rfl
theorem bare_key {m : Msg} (h : ¬ (m.kind = 7 ∨ m.kind = 8)) : (bare m).key = ⟨#[]⟩ := by
  unfold bare
  rw [if_neg (show ¬ m.kind = 7 by omega), if_neg (show ¬ m.kind = 8 by omega)]
  repeat' split
  all_goals rfl
theorem bare_val {m : Msg} (h : ¬ (m.kind = 7 ∨ (m.kind = 9 ∧ m.has = true))) : (bare m).val = ⟨#[]⟩ := by
  unfold bare
  rw [if_neg (show ¬ m.kind = 7 by omega)]
  by_cases h4 : m.kind = 9
  · have hh : m.has = false := by
      cases hh : m.has
      · rfl
      · exact absurd (Or.inr ⟨h4, hh⟩) h
    rw [if_neg (show ¬ m.kind = 1 by omega), if_neg (show ¬ m.kind = 2 by omega), if_neg (show ¬ m.kind = 4 by omega), if_neg (show ¬ m.kind = 5 by omega), if_neg (show ¬ m.kind = 8 by omega), if_pos h4, hh] <;> rfl
  · rw [if_neg h4]; repeat' split
    all_goals rfl
theorem bare_pairs {m : Msg} (h : ¬ m.kind = 10) : (bare m).pairs = [] := by
  unfold bare; rw [if_neg h]; repeat' split
  all_goals rfl
theorem put_back {m : Msg} (hr : Rng m) (hk : rightE m = 0) : parse (put m) = (m, ([], 0)) := by
  have ho := right_ok hk
  have e1 : (256 : Int) ^ 1 = 256 := by decide
  have e2 : (256 : Int) ^ 2 = 65536 := by decide
  have e4 : (256 : Int) ^ 4 = 4294967296 := by decide
  have e8 : (256 : Int) ^ 8 = 18446744073709551616 := by decide
  have k1 := ho.kind.1
  have k2 := ho.kind.2
  have g1 : ∀ t, rFix 1 (be 1 m.kind ++ t, 0) = (m.kind, (t, 0)) := fun t => go_fix (by omega) (by omega)
  have g2 : ∀ t, rFix 4 (be 4 m.rid ++ t, 0) = (m.rid, (t, 0)) := fun t => go_fix hr.rid0 (by have := hr.rid1; omega)
  have bm := ho.bare
  have c0 := hr.code0
  have c1 := hr.code1
  have hbe : ∀ t, rFix 1 (m.code :: t, 0) = (m.code, (t, 0)) := fun t => by
    have h : rFix 1 (be 1 m.code ++ t, 0) = _ := go_fix c0 (by omega)
    rwa [be1, show m.code % 256 = m.code by omega] at h
  have g3 : ∀ t, fCode m.kind (pCode m ++ t, 0) = (m.code, (t, 0)) := fun t => by
    unfold fCode pCode
    by_cases h : m.kind = 12
    · rw [if_pos h, if_pos h]; exact hbe t
    · rw [if_neg h, if_neg h]
      have : m.code = 0 := (congrArg Msg.code bm).trans (bare_code h)
      rw [this] <;> rfl
  have g4 : ∀ t, fHas m.kind (pHas m ++ t, 0) = (m.has, (t, 0)) := fun t => by
    unfold fHas pHas
    by_cases h : m.kind = 2 ∨ m.kind = 4 ∨ m.kind = 9 ∨ m.kind = 10
    · rw [if_pos h, if_pos h]; exact go_flag _
    · rw [if_neg h, if_neg h]
      have : m.has = false := (congrArg Msg.has bm).trans (bare_has h)
      rw [this] <;> rfl
  have g5 : ∀ t, fId m.kind (pId m ++ t, 0) = (m.id, (t, 0)) := fun t => by
    unfold fId pId
    by_cases h : m.kind = 1
    · rw [if_pos h, if_pos h]; exact go_fix hr.id0 (by have := hr.id1; omega)
    · rw [if_neg h, if_neg h]
      have : m.id = 0 := (congrArg Msg.id bm).trans (bare_id h)
      rw [this] <;> rfl
  have g6 : ∀ t, fPr m.kind m.has (pPr m ++ t, 0) = (m.peer, (t, 0)) := fun t => by
    unfold fPr pPr
    by_cases h : m.kind = 5 ∨ (m.kind = 4 ∧ m.has = true)
    · rw [if_pos h, if_pos h]; exact go_peer hr.peer
    · rw [if_neg h, if_neg h]
      have : m.peer = ⟨0, 0⟩ := (congrArg Msg.peer bm).trans (bare_peer h)
      rw [this] <;> rfl
  have g7 : ∀ t, fPs m.kind (pPs m ++ t, 0) = (m.peers, (t, 0)) := fun t => by
    unfold fPs pPs
    by_cases h : m.kind = 2 ∨ m.kind = 4
    · rw [if_pos h, if_pos h]; exact go_peers ho.peers hr.peers
    · rw [if_neg h, if_neg h]
      have : m.peers = [] := (congrArg Msg.peers bm).trans (bare_peers h)
      rw [this] <;> rfl
  have g8 : ∀ t, fKy m.kind (pKy m ++ t, 0) = (m.key, (t, 0)) := fun t => by
    unfold fKy pKy
    by_cases h : m.kind = 7 ∨ m.kind = 8
    · have hz := isKey_size (ho.key h)
      rw [if_pos h, if_pos h]; exact go_text (by omega) (by omega)
    · rw [if_neg h, if_neg h]
      have : m.key = ⟨#[]⟩ := (congrArg Msg.key bm).trans (bare_key h)
      rw [this] <;> rfl
  have g9 : ∀ t, fVl m.kind m.has (pVl m ++ t, 0) = (m.val, (t, 0)) := fun t => by
    unfold fVl pVl
    by_cases h : m.kind = 7 ∨ (m.kind = 9 ∧ m.has = true)
    · have hz := ho.val
      rw [if_pos h, if_pos h]; exact go_text (by omega) (by omega)
    · rw [if_neg h, if_neg h]
      have : m.val = ⟨#[]⟩ := (congrArg Msg.val bm).trans (bare_val h)
      rw [this] <;> rfl
  have g10 : fQs m.kind (pQs m, 0) = (m.pairs, ([], 0)) := by
    unfold fQs pQs
    by_cases h : m.kind = 10
    · rw [if_pos h, if_pos h]
      have := go_pairs (t := []) ho.pairs (fun p hp => ⟨(isKey_size (ho.keys p hp)).2, ho.vals p hp⟩)
      rwa [List.append_nil] at this
    · rw [if_neg h, if_neg h]
      have : m.pairs = [] := (congrArg Msg.pairs bm).trans (bare_pairs h)
      rw [this]
  unfold parse put
  rw [g1]
  dsimp only
  rw [kindOk, if_neg (by omega), g2]
  dsimp only
  unfold fields
  dsimp only
  rw [g3]; dsimp only
  rw [g4]; dsimp only
  rw [g5]; dsimp only
  rw [g6]; dsimp only
  rw [g7]; dsimp only
  rw [g8]; dsimp only
  rw [g9]; dsimp only
  rw [g10]
theorem enc_dec {m : Msg} (hr : Rng m) (hk : rightE m = 0) : decS (put m) = (m, 0) := by
  have h := put_back hr hk
  have : fe (parse (put m)) = 0 := by rw [h, fe, show rEnd ([], 0) = 0 from rfl, if_pos rfl, hk]
  rw [decS, if_pos this, h]
section
theorem ba_fix {k : Nat} {s : RS} (hb : Byt s.1) (h : (rFix k s).2.2 = 0) : s.2 = 0 ∧ s.1 = be k (rFix k s).1 ++ (rFix k s).2.1 := by
  unfold rFix at h ⊢
  by_cases h0 : s.2 = 0
  · have hn : ¬ s.2 ≠ 0 := by simp [h0]
    rw [if_neg hn] at h ⊢
    by_cases h1 : s.1.length < k
    · rw [if_pos h1] at h; exact absurd h (show ¬ (2 : Int) = 0 by omega)
    · rw [if_neg h1]
      refine ⟨h0, ?_⟩
      dsimp only
      have := be_bval (s.1.take k) (fun x hx => hb x (List.mem_of_mem_take hx))
      rw [List.length_take, Nat.min_eq_left (by omega)] at this
      rw [this, List.take_append_drop]
  · rw [if_pos h0] at h; exact absurd h h0
theorem ba_flag {s : RS} (hb : Byt s.1) (h : (rFlag s).2.2 = 0) : s.2 = 0 ∧ s.1 = pFlag (rFlag s).1 ++ (rFlag s).2.1 := by
  unfold rFlag at h ⊢
  by_cases h0 : s.2 = 0
  · have hn : ¬ s.2 ≠ 0 := by simp [h0]
    rw [if_neg hn] at h ⊢
    refine ⟨h0, ?_⟩
    cases hs : s.1 with
    | nil => rw [hs] at h; exact absurd h (show ¬ (2 : Int) = 0 by omega)
    | cons x r =>
      rw [hs] at h
      dsimp only at h ⊢
      have hx := hb x (by rw [hs]; exact List.mem_cons_self)
      by_cases h1 : 1 < x
      · rw [if_pos h1] at h; exact absurd h (show ¬ (3 : Int) = 0 by omega)
      · rw [if_neg h1]
        have : x = 0 ∨ x = 1 := by omega
        rcases this with rfl | rfl <;> rfl
  · rw [if_pos h0] at h; exact absurd h h0
theorem ba_take {n : Int} {s : RS} (h : (rTake n s).2.2 = 0) : s.2 = 0 ∧ ((rTake n s).1.length : Int) = n ∧ s.1 = (rTake n s).1 ++ (rTake n s).2.1 := by
  unfold rTake at h ⊢
  by_cases h0 : s.2 = 0
  · have hn : ¬ s.2 ≠ 0 := by simp [h0]
    rw [if_neg hn] at h ⊢
    by_cases h1 : n < 0
    · rw [if_pos h1] at h; exact absurd h (show ¬ (1 : Int) = 0 by omega)
    · rw [if_neg h1] at h ⊢
      by_cases h2 : (s.1.length : Int) < n
      · rw [if_pos h2] at h; exact absurd h (show ¬ (2 : Int) = 0 by omega)
      · rw [if_neg h2]
        exact ⟨h0, by rw [List.length_take]; omega, (List.take_append_drop _ _).symm⟩
  · rw [if_pos h0] at h; exact absurd h h0
theorem fail_ne (e : Int) (he : e ≠ 0) (s : RS) : (rFail e s).2 ≠ 0 := by
  unfold rFail
  split
  · assumption
  · exact he
theorem ba_text {k : Nat} {m : Int} {s : RS} (hb : Byt s.1) (h : (rText k m s).2.2 = 0) : s.2 = 0 ∧ s.1 = pText k (rText k m s).1 ++ (rText k m s).2.1 := by
  unfold rText at h ⊢
  dsimp only at h ⊢
  by_cases h1 : m < (rFix k s).1
  · rw [if_pos h1] at h
    exact absurd (ba_take h).1 (fail_ne 5 (by omega) _)
  · rw [if_neg h1] at h ⊢
    obtain ⟨a1, a2, a3⟩ := ba_take h
    obtain ⟨b1, b2⟩ := ba_fix hb a1
    have bb : Byt (rTake (rFix k s).1 (rFix k s).2).1 := fun x hx => byt_suf hb (rFix_suf k s) x (rTake_mem hx)
    refine ⟨b1, ?_⟩
    rw [pText, textOf_len, sbytes_textOf bb, a2, List.append_assoc, ← a3]
    exact b2
theorem ba_peer {s : RS} (hb : Byt s.1) (h : (rPeer s).2.2 = 0) : s.2 = 0 ∧ s.1 = pPeer (rPeer s).1 ++ (rPeer s).2.1 := by
  obtain ⟨a1, a2⟩ := ba_fix (byt_suf hb (rFix_suf 8 s)) h
  obtain ⟨b1, b2⟩ := ba_fix hb a1
  refine ⟨b1, ?_⟩
  show s.1 = be 8 (rFix 8 s).1 ++ be 2 (rFix 2 (rFix 8 s).2).1 ++ (rFix 2 (rFix 8 s).2).2.1
  rw [List.append_assoc, ← a2]; exact b2
theorem ba_pair {s : RS} (hb : Byt s.1) (h : (rPair s).2.2 = 0) : s.2 = 0 ∧ s.1 = pPair (rPair s).1 ++ (rPair s).2.1 := by
  obtain ⟨a1, a2⟩ := ba_text (byt_suf hb (rText_suf 1 96 s)) h
  obtain ⟨b1, b2⟩ := ba_text hb a1
  refine ⟨b1, ?_⟩
  show s.1 = pText 1 (rText 1 96 s).1 ++ pText 2 (rText 2 512 (rText 1 96 s).2).1 ++ (rText 2 512 (rText 1 96 s).2).2.1
  rw [List.append_assoc, ← a2]; exact b2
theorem ba_rep {α : Type} {f : RS → α × RS} {p : α → List Int} (hf : ∀ s, Byt s.1 → (f s).2.2 = 0 → s.2 = 0 ∧ s.1 = p (f s).1 ++ (f s).2.1) (hs : ∀ s, (f s).2.1 <:+ s.1) : ∀ (n : Nat) (s : RS), Byt s.1 → (rRep f n s).2.2 = 0 → s.2 = 0 ∧ s.1 = (rRep f n s).1.flatMap p ++ (rRep f n s).2.1
  | 0, s, hb, h => ⟨h, rfl⟩
  | n + 1, s, hb, h => by
    obtain ⟨a1, a2⟩ := ba_rep hf hs n (f s).2 (byt_suf hb (hs s)) h
    obtain ⟨b1, b2⟩ := hf s hb a1
    refine ⟨b1, ?_⟩
    show s.1 = ((f s).1 :: (rRep f n (f s).2).1).flatMap p ++ _
    rw [List.flatMap_cons, List.append_assoc]
    show s.1 = p (f s).1 ++ ((rRep f n (f s).2).1.flatMap p ++ (rRep f n (f s).2).2.1)
    rw [← a2]; exact b2
theorem ba_many {m : Int} {s : RS} (hb : Byt s.1) (h : (rMany m s).2.2 = 0) : s.2 = 0 ∧ s.1 = be 1 (rMany m s).1 ++ (rMany m s).2.1 := by
  unfold rMany at h ⊢
  by_cases h1 : m < (rFix 1 s).1
  · rw [if_pos h1] at h
    exact absurd h (fail_ne 5 (by omega) _)
  · rw [if_neg h1] at h ⊢
    exact ba_fix hb h
theorem ba_peers {s : RS} (hb : Byt s.1) (h : (rPeers s).2.2 = 0) : s.2 = 0 ∧ s.1 = be 1 ((rPeers s).1.length : Int) ++ (rPeers s).1.flatMap pPeer ++ (rPeers s).2.1 := by
  obtain ⟨a1, a2⟩ := ba_rep (p := pPeer) (fun s => ba_peer) rPeer_suf _ _ (byt_suf hb (rMany_suf 16 s)) h
  obtain ⟨b1, b2⟩ := ba_many hb a1
  have hm := rMany_lt (m := 16) (by omega) hb
  refine ⟨b1, ?_⟩
  unfold rPeers
  rw [rRep_len, Int.toNat_of_nonneg hm.1, List.append_assoc, ← a2]; exact b2
theorem ba_pairs {s : RS} (hb : Byt s.1) (h : (rPairs s).2.2 = 0) : s.2 = 0 ∧ s.1 = be 1 ((rPairs s).1.length : Int) ++ (rPairs s).1.flatMap pPair ++ (rPairs s).2.1 := by
  obtain ⟨a1, a2⟩ := ba_rep (p := pPair) (fun s => ba_pair) rPair_suf _ _ (byt_suf hb (rMany_suf 8 s)) h
  obtain ⟨b1, b2⟩ := ba_many hb a1
  have hm := rMany_lt (m := 8) (by omega) hb
  refine ⟨b1, ?_⟩
  unfold rPairs
  rw [rRep_len, Int.toNat_of_nonneg hm.1, List.append_assoc, ← a2]; exact b2
end
theorem fields_back {k rid : Int} {s : RS} (hb : Byt s.1) (h : (fields k rid s).2.2 = 0) : s.2 = 0 ∧ s.1 = pCode (fields k rid s).1 ++ (pHas (fields k rid s).1 ++ (pId (fields k rid s).1 ++ (pPr (fields k rid s).1 ++ (pPs (fields k rid s).1 ++ (pKy (fields k rid s).1 ++ (pVl (fields k rid s).1 ++ (pQs (fields k rid s).1 ++ (fields k rid s).2.1))))))) := by
  obtain ⟨a1, a2, a3, a4, a5, a6, a7, a8⟩ := sufs hb k rid
  have B1 := byt_suf hb a1
  have B2 := byt_suf B1 (a2 _)
  have B3 := byt_suf B2 (a3 _)
  have B4 := byt_suf B3 (a4 (fHas k (fCode k s).2).1 _)
  have B5 := byt_suf B4 (a5 _)
  have B6 := byt_suf B5 (a6 _)
  have B7 := byt_suf B6 (a7 (fHas k (fCode k s).2).1 _)
  have r8 : ∀ {t : RS} {m : Msg}, m.kind = k → m.pairs = (fQs k t).1 → Byt t.1 → (fQs k t).2.2 = 0 → t.2 = 0 ∧ t.1 = pQs m ++ (fQs k t).2.1 := fun {t m} e1 e2 hb h => by
    unfold pQs; rw [e1, e2]; unfold fQs at h ⊢
    by_cases c : k = 10
    · rw [if_pos c] at h ⊢; rw [if_pos c]; exact ba_pairs hb h
    · rw [if_neg c] at h ⊢; rw [if_neg c]; exact ⟨h, rfl⟩
  have r7 : ∀ {t : RS} {m : Msg} {hh : Bool}, m.kind = k → m.has = hh → m.val = (fVl k hh t).1 → Byt t.1 → (fVl k hh t).2.2 = 0 → t.2 = 0 ∧ t.1 = pVl m ++ (fVl k hh t).2.1 := fun {t m hh} e1 e0 e2 hb h => by
    unfold pVl; rw [e1, e2, e0]; unfold fVl at h ⊢
    by_cases c : k = 7 ∨ (k = 9 ∧ hh = true)
    · rw [if_pos c] at h ⊢; rw [if_pos c]; exact ba_text hb h
    · rw [if_neg c] at h ⊢; rw [if_neg c]; exact ⟨h, rfl⟩
  have r6 : ∀ {t : RS} {m : Msg}, m.kind = k → m.key = (fKy k t).1 → Byt t.1 → (fKy k t).2.2 = 0 → t.2 = 0 ∧ t.1 = pKy m ++ (fKy k t).2.1 := fun {t m} e1 e2 hb h => by
    unfold pKy; rw [e1, e2]; unfold fKy at h ⊢
    by_cases c : k = 7 ∨ k = 8
    · rw [if_pos c] at h ⊢; rw [if_pos c]; exact ba_text hb h
    · rw [if_neg c] at h ⊢; rw [if_neg c]; exact ⟨h, rfl⟩
  have r5 : ∀ {t : RS} {m : Msg}, m.kind = k → m.peers = (fPs k t).1 → Byt t.1 → (fPs k t).2.2 = 0 → t.2 = 0 ∧ t.1 = pPs m ++ (fPs k t).2.1 := fun {t m} e1 e2 hb h => by
    unfold pPs; rw [e1, e2]; unfold fPs at h ⊢
    by_cases c : k = 2 ∨ k = 4
    · rw [if_pos c] at h ⊢; rw [if_pos c]; exact ba_peers hb h
    · rw [if_neg c] at h ⊢; rw [if_neg c]; exact ⟨h, rfl⟩
  have r4 : ∀ {t : RS} {m : Msg} {hh : Bool}, m.kind = k → m.has = hh → m.peer = (fPr k hh t).1 → Byt t.1 → (fPr k hh t).2.2 = 0 → t.2 = 0 ∧ t.1 = pPr m ++ (fPr k hh t).2.1 := fun {t m hh} e1 e0 e2 hb h => by
    unfold pPr; rw [e1, e2, e0]; unfold fPr at h ⊢
    by_cases c : k = 5 ∨ (k = 4 ∧ hh = true)
    · rw [if_pos c] at h ⊢; rw [if_pos c]; exact ba_peer hb h
    · rw [if_neg c] at h ⊢; rw [if_neg c]; exact ⟨h, rfl⟩
  have r3 : ∀ {t : RS} {m : Msg}, m.kind = k → m.id = (fId k t).1 → Byt t.1 → (fId k t).2.2 = 0 → t.2 = 0 ∧ t.1 = pId m ++ (fId k t).2.1 := fun {t m} e1 e2 hb h => by
    unfold pId; rw [e1, e2]; unfold fId at h ⊢
    by_cases c : k = 1
    · rw [if_pos c] at h ⊢; rw [if_pos c]; exact ba_fix hb h
    · rw [if_neg c] at h ⊢; rw [if_neg c]; exact ⟨h, rfl⟩
  have r2 : ∀ {t : RS} {m : Msg}, m.kind = k → m.has = (fHas k t).1 → Byt t.1 → (fHas k t).2.2 = 0 → t.2 = 0 ∧ t.1 = pHas m ++ (fHas k t).2.1 := fun {t m} e1 e2 hb h => by
    unfold pHas; rw [e1, e2]; unfold fHas at h ⊢
    by_cases c : k = 2 ∨ k = 4 ∨ k = 9 ∨ k = 10
    · rw [if_pos c] at h ⊢; rw [if_pos c]; exact ba_flag hb h
    · rw [if_neg c] at h ⊢; rw [if_neg c]; exact ⟨h, rfl⟩
  have r1 : ∀ {t : RS} {m : Msg}, m.kind = k → m.code = (fCode k t).1 → Byt t.1 → (fCode k t).2.2 = 0 → t.2 = 0 ∧ t.1 = pCode m ++ (fCode k t).2.1 := fun {t m} e1 e2 hb h => by
    unfold pCode; rw [e1, e2]; unfold fCode at h ⊢
    by_cases c : k = 12
    · rw [if_pos c] at h ⊢; rw [if_pos c]
      have hx := ba_fix hb h
      have hlt := rFix_lt 1 t hb
      have e : (256 : Int) ^ 1 = 256 := by decide
      rw [be1, show (rFix 1 t).1 % 256 = (rFix 1 t).1 by omega] at hx; exact hx
    · rw [if_neg c] at h ⊢; rw [if_neg c]; exact ⟨h, rfl⟩
  obtain ⟨z8, y8⟩ := r8 (m := (fields k rid s).1) rfl rfl B7 h
  obtain ⟨z7, y7⟩ := r7 (m := (fields k rid s).1) (hh := (fHas k (fCode k s).2).1) rfl rfl rfl B6 z8
  obtain ⟨z6, y6⟩ := r6 (m := (fields k rid s).1) rfl rfl B5 z7
  obtain ⟨z5, y5⟩ := r5 (m := (fields k rid s).1) rfl rfl B4 z6
  obtain ⟨z4, y4⟩ := r4 (m := (fields k rid s).1) (hh := (fHas k (fCode k s).2).1) rfl rfl rfl B3 z5
  obtain ⟨z3, y3⟩ := r3 (m := (fields k rid s).1) rfl rfl B2 z4
  obtain ⟨z2, y2⟩ := r2 (m := (fields k rid s).1) rfl rfl B1 z3
  obtain ⟨z1, y1⟩ := r1 (m := (fields k rid s).1) rfl rfl hb z2
  refine ⟨z1, ?_⟩
  rw [y1, y2, y3, y4, y5, y6, y7, y8]
  rfl
theorem dec_enc {b : List Int} (hb : Byt b) (h : (decS b).2 = 0) : rightE (decS b).1 = 0 ∧ put (decS b).1 = b := by
  unfold decS at h ⊢
  by_cases h0 : fe (parse b) = 0
  · rw [if_pos h0]
    unfold fe at h0
    by_cases h1 : rEnd (parse b).2 = 0
    · rw [if_pos h1] at h0
      refine ⟨h0, ?_⟩
      have hz : (parse b).2.2 = 0 ∧ (parse b).2.1 = [] := by
        unfold rEnd at h1
        by_cases h2 : (parse b).2.2 = 0
        · rw [if_neg (by simp [h2])] at h1
          by_cases h3 : (parse b).2.1 = []
          · exact ⟨h2, h3⟩
          · rw [if_neg h3] at h1; omega
        · rw [if_pos h2] at h1; exact absurd h1 h2
      have b1 : Byt (kindOk (rFix 1 (b, 0)).1 (rFix 1 (b, 0)).2).1 := by rw [kindOk_suf]; exact byt_suf hb (rFix_suf 1 (b, 0))
      have b2 := byt_suf b1 (rFix_suf 4 _)
      obtain ⟨c1, c2⟩ := fields_back b2 hz.1
      obtain ⟨d1, d2⟩ := ba_fix b1 c1
      rw [kindOk_suf] at d2
      have d3 : (rFix 1 (b, 0)).2.2 = 0 := by
        unfold kindOk at d1
        split at d1
        · exact absurd d1 (fail_ne 9 (by omega) _)
        · exact d1
      obtain ⟨e1, e2⟩ := ba_fix (s := (b, 0)) hb d3
      have e2' : b = be 1 (rFix 1 (b, 0)).1 ++ (rFix 1 (b, 0)).2.1 := e2
      have c2' : _ = _ ++ (_ ++ (_ ++ (_ ++ (_ ++ (_ ++ (_ ++ (_ ++ (parse b).2.1))))))) := c2
      rw [hz.2, List.append_nil] at c2'
      conv => rhs; rw [e2', d2, c2']
      rfl
    · rw [if_neg h1] at h0; exact absurd h0 h1
  · rw [if_neg h0] at h; exact absurd h h0
end Go.Ab.Tryd
namespace Go.Ab.Tryd
open Go Go.Ab Go.Proofs Go.Lib
set_option linter.unusedVariables false
set_option linter.unusedSimpArgs false
set_option linter.unusedSectionVars false
theorem awake09 : w09_awake = some true := ask_of ((le_lim 60).call _ _ _ _ (by kernel_rfl))
def large (m : Msg) : Bool := decide (300 < m.key.size) || (decide (700 < m.val.size) || (decide (40 < m.peers.length) || (decide (20 < m.pairs.length) || m.pairs.any fun p => decide (300 < p.key.size) || decide (700 < p.val.size))))
theorem large_l0 {m : Msg} (h : m.pairs.length ≤ 1000) : w08_Large_l0 m 0 = some (bif m.pairs.any fun p => decide (300 < p.key.size) || decide (700 < p.val.size) then .inl () else .inr ()) :=
  for_list (σ := Unit) ePair (l := m.pairs) (by omega) (L := fun i _ => w08_Large_l0 m i) (res := fun _ _ rest => bif rest.any fun p => decide (300 < p.key.size) || decide (700 < p.val.size) then .inl () else .inr ()) (Inv := fun _ _ => True)
    (fun _ _ hh => w08_Large_l0_r (by rw [w08_Large_l0_b, hh] <;> rfl))
    (fun n x rest s _ hn hx hd h1 h2 h3 ih => w08_Large_l0_r (by
      rw [w08_Large_l0_b, h1, cond_true, h2, Option.bind_some, slen_nat, slen_nat, List.any_cons]
      by_cases a : 300 < x.key.size
      · rw [iltT (by omega), decide_eq_true a] <;> rfl
      · rw [iltF (by omega), decide_eq_false a, cond_false]
        by_cases b : 700 < x.val.size
        · rw [iltT (by omega), decide_eq_true b] <;> rfl
        · rw [iltF (by omega), decide_eq_false b, cond_false, h3, ih () trivial] <;> rfl)) () trivial
theorem Large_eq (m : Msg) : w08_Large m = some (large m) := w08_Large_r (by
  rw [w08_Large_b, slen_nat, slen_nat, xlen_eq, xlen_eq, large]
  by_cases h1 : 300 < m.key.size
  · rw [iltT (by omega), decide_eq_true h1] <;> rfl
  · rw [iltF (by omega), decide_eq_false h1, cond_false, Bool.false_or]
    by_cases h2 : 700 < m.val.size
    · rw [iltT (by omega), decide_eq_true h2] <;> rfl
    · rw [iltF (by omega), decide_eq_false h2, cond_false, Bool.false_or]
      by_cases h3 : 40 < m.peers.length
      · rw [iltT (by omega), decide_eq_true h3] <;> rfl
      · rw [iltF (by omega), decide_eq_false h3, cond_false, Bool.false_or]
        by_cases h4 : 20 < m.pairs.length
        · rw [iltT (by omega), decide_eq_true h4] <;> rfl
        · rw [iltF (by omega), decide_eq_false h4, cond_false, Bool.false_or, large_l0 (by omega), Option.bind_some]
          cases m.pairs.any fun p => decide (300 < p.key.size) || decide (700 < p.val.size) <;> rfl)
theorem small_of {m : Msg} (h : large m = false) : Small m := by
  simp only [large, Bool.or_eq_false_iff, decide_eq_false_iff_not, List.any_eq_false, Bool.or_eq_true, decide_eq_true_eq, not_or] at h
  obtain ⟨h1, h2, h3, h4, h5⟩ := h
  exact ⟨by omega, by omega, by omega, by omega, fun p hp => by have := h5 p hp; omega⟩
theorem byt_put {m : Msg} (hc : 0 ≤ m.code ∧ m.code < 256) : Byt (put m) := by
  have bt : ∀ k s, Byt (pText k s) := fun k s => byt_app.2 ⟨be_byt _ _, byt_sbytes _⟩
  have bn : Byt ([] : List Int) := fun x hx => by cases hx
  have bp : ∀ p, Byt (pPeer p) := fun p => byt_app.2 ⟨be_byt _ _, be_byt _ _⟩
  have bf : ∀ {α : Type} (f : α → List Int) (l : List α), (∀ x, Byt (f x)) → Byt (l.flatMap f) := fun f l h x hx => by
    obtain ⟨y, _, hy⟩ := List.mem_flatMap.1 hx
    exact h y x hy
  refine byt_app.2 ⟨be_byt _ _, byt_app.2 ⟨be_byt _ _, byt_app.2 ⟨?_, byt_app.2 ⟨?_, byt_app.2 ⟨?_, byt_app.2 ⟨?_, byt_app.2 ⟨?_, byt_app.2 ⟨?_, byt_app.2 ⟨?_, ?_⟩⟩⟩⟩⟩⟩⟩⟩⟩
  · unfold pCode; split
    · intro x hx; rw [List.mem_singleton] at hx; subst hx; exact hc
    · exact bn
  · unfold pHas; split
    · intro x hx; unfold pFlag at hx; rw [List.mem_singleton] at hx; subst hx; cases m.has <;> decide
    · exact bn
  · unfold pId; split
    · exact be_byt _ _
    · exact bn
  · unfold pPr; split
    · exact bp _
    · exact bn
  · unfold pPs; split
    · exact byt_app.2 ⟨be_byt _ _, bf _ _ bp⟩
    · exact bn
  · unfold pKy; split
    · exact bt _ _
    · exact bn
  · unfold pVl; split
    · exact bt _ _
    · exact bn
  · unfold pQs; split
    · exact byt_app.2 ⟨be_byt _ _, bf _ _ fun p => byt_app.2 ⟨bt _ _, bt _ _⟩⟩
    · exact bn
theorem len_put {m : Msg} (hs : Small m) (ho : Ok m) : (put m).length ≤ 100000 := by
  have h1 := hs.key; have h2 := hs.val; have h3 := hs.peers; have h4 := hs.pairs
  have lp : ∀ l : List Peer, (l.flatMap pPeer).length = 10 * l.length := fun l => by
    induction l with
    | nil => rfl
    | cons x l ih => rw [List.flatMap_cons, List.length_append, pPeer_len, ih]; simp; omega
  have lq : ∀ l : List Pair, (∀ p, p ∈ l → p.key.size ≤ 1000 ∧ p.val.size ≤ 1000) → (l.flatMap pPair).length ≤ 2003 * l.length := fun l => by
    induction l with
    | nil => intro _; exact Nat.le_refl 0
    | cons x l ih =>
      intro h
      have := h x List.mem_cons_self
      have := ih (fun p hp => h p (List.mem_cons_of_mem _ hp))
      have e : (pPair x).length = 3 + x.key.size + x.val.size := by rw [pPair, List.length_append, pText_len, pText_len]; omega
      rw [List.flatMap_cons, List.length_append, e, List.length_cons]; omega
  have e1 : (pCode m).length ≤ 1 := by unfold pCode; split <;> simp
  have e2 : (pHas m).length ≤ 1 := by unfold pHas; split <;> simp [pFlag]
  have e3 : (pId m).length ≤ 8 := by unfold pId; split <;> simp [be_len]
  have e4 : (pPr m).length ≤ 10 := by unfold pPr; split <;> simp [pPeer_len]
  have e5 : (pPs m).length ≤ 1001 := by
    unfold pPs; split
    · rw [List.length_append, be_len, lp]; omega
    · simp
  have e6 : (pKy m).length ≤ 1001 := by
    unfold pKy; split
    · rw [pText_len]; omega
    · simp
  have e7 : (pVl m).length ≤ 1002 := by
    unfold pVl; split
    · rw [pText_len]; omega
    · simp
  have e8 : (pQs m).length ≤ 17000 := by
    have := ho.pairs
    unfold pQs; split
    · rw [List.length_append, be_len]; have := lq m.pairs hs.each; omega
    · simp
  unfold put
  simp only [List.length_append, be_len]
  omega
theorem zero_ok : Small zeroMsg ∧ Rng zeroMsg := ⟨⟨Nat.zero_le _, Nat.zero_le _, Nat.zero_le _, Nat.zero_le _, fun p h => by cases h⟩, ⟨Int.le_refl 0, by decide, Int.le_refl 0, by decide, Int.le_refl 0, by decide, ⟨Int.le_refl 0, by decide, Int.le_refl 0, by decide⟩, fun p h => by cases h⟩⟩
theorem decS_ok {b : List Int} (hb : Byt b) : Small (decS b).1 ∧ Rng (decS b).1 := by
  unfold decS
  split
  · exact parse_ok hb
  · exact zero_ok
theorem back_s0 {b : List Int} (hb : Byt b) (hl : b.length ≤ 100000) (m : Msg) (a1 a2 a3 : Int) (a4 : Bool) (a5 : Int) (a6 a7 : ByteArray) (a8 a9 : Int) (a10 : List Peer) (a11 : List Pair) : w09_FixedBack_s0 m b a1 a2 a3 a4 a5 a6 a7 a8 a9 a10 a11 = some (true, a1, a2, a3, a4, a5, a6, a7, a8, a9, a10, a11) := w09_FixedBack_s0_r (by
  obtain ⟨hs, hr⟩ := decS_ok hb
  rw [w09_FixedBack_s0_b, fixed_Dec_eq hb hl, Option.bind_some]
  try dsimp only
  rw [fixed_Enc_eq hs hr, Option.bind_some, awake09]
  try dsimp only
  by_cases h : (decS b).2 = 0
  · obtain ⟨h1, h2⟩ := dec_enc hb h
    rw [ieqT h, cond_true, encS, if_pos h1, ieqT rfl, cond_true, xsofb_eq, Option.bind_some, xsofb_eq, Option.bind_some, h2, seq_self] <;> rfl
  · rw [ieqF h] <;> rfl)
theorem law_Back {m : Msg} (hr : Rng m) {b : List Int} (hb : Byt b) : w09_FixedBack m b = some true := w09_FixedBack_r (by
  rw [w09_FixedBack_b, Large_eq, Option.bind_some, awake09, xlen_eq]
  cases hl : large m with
  | true => rfl
  | false =>
    by_cases h6 : 6000 < b.length
    · rw [iltT (by omega)] <;> rfl
    · have hs := small_of hl
      rw [iltF (by omega), cond_false, cond_false]
      refine w09_FixedBack_s1_r ?_
      rw [w09_FixedBack_s1_b, fixed_Enc_eq hs hr, Option.bind_some]
      try dsimp only
      unfold encS
      by_cases h0 : rightE m = 0
      · have hbp := byt_put (m := m) ⟨hr.code0, hr.code1⟩
        have hlp := len_put hs (right_ok h0)
        rw [if_pos h0, fixed_Dec_eq hbp hlp, enc_dec hr h0, Option.bind_some, ieqT rfl, cond_true]
        try dsimp only
        rw [cond_true, r08_Same_eq (by have := hs.peers; omega) (by have := hs.pairs; omega), Option.bind_some, eqb_self, cond_true, back_s0 hb (by omega)] <;> rfl
      · rw [if_neg h0, fixed_Dec_eq (b := []) (fun x h => by cases h) (by simp), Option.bind_some, ieqF h0, cond_false]
        try dsimp only
        rw [back_s0 hb (by omega)] <;> rfl)
end Go.Ab.Tryd
namespace Go.Ab.Tryd
open Go Go.Ab
theorem peOk {p : Peer} (h : p.Ok) : PeOk p := ⟨h.1.1, by have := h.1.2; omega, h.2.1, by have := h.2.2; omega⟩
theorem rngOk {m : Msg} (h : m.Ok) : Rng m := by
  obtain ⟨h1, h2, h3, h4, h5, h6, h7, h8, h9, h10⟩ := h
  exact ⟨h2.1, by have := h2.2; omega, h3.1, by have := h3.2; omega, h5.1, by have := h5.2; omega, peOk h8, fun p hp => peOk (h9.1 p hp)⟩
theorem bytOk {l : List Int} (h : OkL OkB l) : Byt l := fun x hx => ⟨(h.1 x hx).1, by have := (h.1 x hx).2; omega⟩
end Go.Ab.Tryd
