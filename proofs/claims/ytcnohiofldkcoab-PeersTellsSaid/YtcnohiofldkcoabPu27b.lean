/- Peers and entries: whether they may be, by the reference; an entry added. -/
import Derived.Test.YtcnohiofldkcoabPu27
namespace Go.Ab.Try
open Go Go.Ab Go.Proofs
set_option linter.unusedVariables false
set_option linter.unusedSimpArgs false

def EnOk (l : List Entry) : Prop := ∀ x, x ∈ l → PeOk x.peer

/-! ### Whether they may be -/

abbrev headsUp (me : Peer) (a b : Entry) : Prop := a.peer.addr ≠ b.peer.addr ∧ ahead me a.peer b.peer = true
theorem r27_Right_in {me : Peer} {l : List Entry} (hl : l.length ≤ 1000) (hm : PeOk me) (ho : EnOk l) {i : Nat} {x : Entry} (hx : l[i]? = some x) : ∀ (d k : Nat), k + d = i →
    ((∀ j y, k ≤ j → j < i → l[j]? = some y → headsUp me y x) ∧ r27_Right_l0 me l (i : Int) (k : Int) = some (.inr (i : Int))) ∨ (¬ (∀ j y, k ≤ j → j < i → l[j]? = some y → headsUp me y x) ∧ r27_Right_l0 me l (i : Int) (k : Int) = some (.inl ())) := by
  intro d
  have hi := (List.getElem?_eq_some_iff.1 hx).1
  induction d with
  | zero =>
    intro k hk
    refine .inl ⟨fun j y h1 h2 => by omega, r27_Right_l0_r ?_⟩
    simp only [r27_Right_l0_b, iltF (show ¬ (k : Int) < (i : Int) by omega), cond_false]
  | succ d ih =>
    intro k hk
    have hlt : k < l.length := by omega
    have g1 : xget eEntry l (k : Int) = some l[k] := by rw [xget_nat]; exact List.getElem?_eq_getElem hlt
    have g2 : xget eEntry l (i : Int) = some x := by rw [xget_nat, hx]
    have ha := r27_Ahead_eq hm (ho _ (List.getElem_mem hlt)) (ho x (List.mem_of_getElem? hx))
    have hadd : Ops.std.iadd .i64 (k : Int) 1 = ((k + 1 : Nat) : Int) := iadd1 (by omega)
    have hb : r27_Right_l0_b me l (i : Int) (k : Int) = if headsUp me l[k] x then r27_Right_l0 me l (i : Int) ((k + 1 : Nat) : Int) else some (.inl ()) := by
      simp only [r27_Right_l0_b, iltT (show (k : Int) < (i : Int) by omega), cond_true, g1, g2, Option.bind_some, ha, hadd, ieq_dec, bif_dec]
      by_cases he : l[k].peer.addr = x.peer.addr
      · simp [he]
      · rw [if_neg he]
        have e : headsUp me l[k] x ↔ ahead me l[k].peer x.peer = true := ⟨fun h => h.2, fun h => ⟨he, h⟩⟩
        simp only [e]
        cases ahead me l[k].peer x.peer <;> simp
    by_cases hh : headsUp me l[k] x
    · rw [if_pos hh] at hb
      rcases ih (k + 1) (by omega) with ⟨h1, h2⟩ | ⟨h1, h2⟩
      · refine .inl ⟨fun j y hj hji hy => ?_, r27_Right_l0_r (hb.trans h2)⟩
        rcases Nat.eq_or_lt_of_le hj with rfl | hj
        · rw [List.getElem?_eq_getElem hlt] at hy; cases hy; exact hh
        · exact h1 j y hj hji hy
      · exact .inr ⟨fun h => h1 fun j y hj => h j y (by omega), r27_Right_l0_r (hb.trans h2)⟩
    · rw [if_neg hh] at hb
      exact .inr ⟨fun h => hh (h k _ (Nat.le_refl _) (by omega) (List.getElem?_eq_getElem hlt)), r27_Right_l0_r hb⟩

theorem r27_Right_eq {me : Peer} {l : List Entry} (hl : l.length ≤ 1000) (hm : PeOk me) (ho : EnOk l) : r27_Right me l = some (dcd (RightP me l)) := r27_Right_r (by
  let Q : Nat → Entry → Prop := fun n x => 0 ≤ x.misses ∧ x.misses < 3 ∧ x.peer.addr ≠ me.addr ∧ ∀ j y, 0 ≤ j → j < n → l[j]? = some y → headsUp me y x
  have h := all_list eEntry (l := l) (by omega) (p := fun n x => dcd (Q n x)) (L := fun i => r27_Right_l1 me l i)
    (fun h => r27_Right_l1_r (by simp [r27_Right_l1_b, h]))
    (fun n x r hx h1 h2 hp h => r27_Right_l1_r (by
      obtain ⟨a1, a2, a3, a4⟩ := dcd_iff.1 hp
      rcases r27_Right_in hl hm ho hx n 0 (by omega) with ⟨_, h3⟩ | ⟨h3, _⟩
      · have h3' : r27_Right_l0 me l (n : Int) 0 = some (.inr (n : Int)) := h3
        simp only [r27_Right_l1_b, h1, h2, cond_true, Option.bind_some, iltF (show ¬ x.misses < 0 by omega), iltF (show ¬ 2 < x.misses by omega), ieqF a3, cond_false, h3']
        exact h
      · exact absurd (fun j y hj => a4 j y hj) h3))
    (fun n x hx h1 h2 hp => r27_Right_l1_r (by
      have hp' := dcd_false.1 hp
      simp only [r27_Right_l1_b, h1, h2, cond_true, Option.bind_some, ilt_dec, ieq_dec, bif_dec]
      split
      · rfl
      · split
        · rfl
        · split
          · rfl
          · rename_i b1 b2 b3
            rcases r27_Right_in hl hm ho hx n 0 (by omega) with ⟨h3, _⟩ | ⟨_, h3⟩
            · exact absurd ⟨by omega, by omega, b3, h3⟩ hp'
            · have h3' : r27_Right_l0 me l (n : Int) 0 = some (.inl ()) := h3
              rw [h3']; rfl))
  have hiff : (∀ n x, l[n]? = some x → Q n x) ↔ (∀ x, x ∈ l → 0 ≤ x.misses ∧ x.misses < 3 ∧ x.peer.addr ≠ me.addr) ∧ l.Pairwise (fun a b => a.peer.addr ≠ b.peer.addr ∧ ahead me a.peer b.peer = true) := by
    constructor
    · intro h
      refine ⟨fun x hx => ?_, List.pairwise_iff_getElem.2 fun i j hi hj hij => ?_⟩
      · obtain ⟨n, hn⟩ := List.getElem?_of_mem hx
        obtain ⟨q1, q2, q3, _⟩ := h n x hn
        exact ⟨q1, q2, q3⟩
      · exact (h j _ (List.getElem?_eq_getElem hj)).2.2.2 i _ (Nat.zero_le _) hij (List.getElem?_eq_getElem hi)
    · rintro ⟨h1, h2⟩ n x hx
      obtain ⟨a1, a2, a3⟩ := h1 x (List.mem_of_getElem? hx)
      obtain ⟨hn, hxe⟩ := List.getElem?_eq_some_iff.1 hx
      rw [List.pairwise_iff_getElem] at h2
      refine ⟨a1, a2, a3, fun j y _ hj hy => ?_⟩
      obtain ⟨hj', hye⟩ := List.getElem?_eq_some_iff.1 hy
      have := h2 j n hj' hn hj
      rw [hye, hxe] at this; exact this
  rw [r27_Right_b, h, xlen_eq]
  by_cases hlen : l.length ≤ 15
  · rw [iltF (by omega), cond_false]
    by_cases hr : ∀ n x, l[n]? = some x → Q n x
    · have hall : allI (fun n x => dcd (Q n x)) 0 l = true := allI_iff.2 fun i x hx => dcd_iff.2 (by simpa using hr i x hx)
      rw [hall, dcd_iff.2 (show RightP me l from ⟨hlen, hiff.1 hr⟩)]; rfl
    · have hall : allI (fun n x => dcd (Q n x)) 0 l = false := by
        cases ha : allI (fun n x => dcd (Q n x)) 0 l with
        | false => rfl
        | true => exact absurd (fun n x hx => by have := allI_iff.1 ha n x hx; rw [dcd_iff] at this; simpa using this) hr
      rw [hall, dcd_false.2 (fun h => hr (hiff.2 h.2))]; rfl
  · rw [iltT (by omega), cond_true, dcd_false.2 (fun h => hlen h.1)])

/-! ### An entry added -/

def isAh (me p : Peer) (x : Entry) : Bool := ahead me p x.peer
/-- Set in ahead of the first that it is ahead of. -/
def ins (me p : Peer) : List Entry → List Entry
  | [] => [⟨p, 0⟩]
  | x :: l => bif isAh me p x then ⟨p, 0⟩ :: x :: l else x :: ins me p l
def cut (l : List Entry) : List Entry := if 15 < l.length then l.take (l.length - 1) else l
def add (me : Peer) (l : List Entry) (p : Peer) : List Entry :=
  if p.addr = me.addr then l else
  match fst (isAt p.addr) l with
  | none => cut (ins me p (drp p.addr l))
  | some n => match l[n]? with
    | none => l
    | some x => if x.peer = p then l.set n ⟨x.peer, 0⟩ else cut (ins me p (drp p.addr l))
theorem ins_len (me p : Peer) (l : List Entry) : (ins me p l).length = l.length + 1 := by
  induction l with
  | nil => rfl
  | cons x l ih => rw [ins]; cases isAh me p x <;> simp [ih]
theorem ins_split (me p : Peer) (l : List Entry) : ins me p l = match fst (isAh me p) l with | some n => l.take n ++ ⟨p, 0⟩ :: l.drop n | none => l ++ [⟨p, 0⟩] := by
  induction l with
  | nil => rfl
  | cons x l ih =>
    rw [ins, fst]
    cases isAh me p x with
    | true => rfl
    | false =>
      rw [cond_false, cond_false, ih]
      cases fst (isAh me p) l with
      | none => rfl
      | some n => simp

theorem IndexFunc_ahead {me p : Peer} {l : List Entry} (hl : l.length ≤ 1000) : IndexFunc_Entry l me.id me.addr p.id p.addr = some (fstI (isAh me p) l) := IndexFunc_Entry_r (by
  have hc : ∀ x, peers_Add_1 x me.id me.addr p.id p.addr = some (isAh me p x) := fun x => peers_Add_1_r (by
    rw [peers_Add_1_b, peers_Ahead_eq]; rfl)
  have h := find_list eEntry (l := l) (by omega) (p := isAh me p) (L := fun i => IndexFunc_Entry_l0 l me.id me.addr p.id p.addr i) (fun h => IndexFunc_Entry_l0_r (by simp [IndexFunc_Entry_l0_b, h]))
    (fun n x _ h1 h2 hp => IndexFunc_Entry_l0_r (by simp [IndexFunc_Entry_l0_b, h1, h2, hc, hp]))
    (fun n x r _ h1 h2 hp h => IndexFunc_Entry_l0_r (by simp [IndexFunc_Entry_l0_b, h1, h2, hc, hp]; exact h))
  rw [IndexFunc_Entry_b, h]
  unfold fstI
  cases fst (isAh me p) l <;> rfl)

theorem peers_Add_s0_eq {me p : Peer} {l r4 : List Entry} {n : Nat} (hl : r4.length ≤ 1000) (hn : n ≤ r4.length) : ∃ t hi, peers_Add_s0 me l p (n : Int) r4 = some (hi, t) ∧ xsub eEntry t 0 hi = some (cut (r4.take n ++ ⟨p, 0⟩ :: r4.drop n)) := by
  have hroom : xroom eEntry 24 r4 [⟨p, 0⟩] = true := xroom_eq eEntry (by simp; omega) (by omega)
  have hlen : (r4.take n ++ ([(⟨p, 0⟩ : Entry)] ++ r4.drop n)).length = r4.length + 1 := by simp; omega
  have e : r4.take n ++ ⟨p, 0⟩ :: r4.drop n = r4.take n ++ ([(⟨p, 0⟩ : Entry)] ++ r4.drop n) := rfl
  rw [e]
  generalize hL : r4.take n ++ ([(⟨p, 0⟩ : Entry)] ++ r4.drop n) = L at hlen
  have hsub : ∀ k : Nat, k ≤ L.length → xsub eEntry L 0 (k : Int) = some (L.take k) := fun k hk => xsub_take L k hk
  have h1 : Ops.std.isub .i64 (xlen eEntry L) 1 = (r4.length : Int) := by rw [xlen_eq, isubS (by omega) (by omega)]; omega
  refine ⟨L, ((if 15 < L.length then L.length - 1 else L.length : Nat) : Int), peers_Add_s0_r ?_, ?_⟩
  · simp only [peers_Add_s0_b, hroom, cond_true, xsub_take r4 n hn, xsub_drop r4 n hn, Option.bind_some, hL, h1]
    rw [xlen_eq]
    by_cases h15 : 15 < L.length
    · by_cases h14 : L.length = 16
      · rw [iltF (by omega), cond_false, iltT (by omega), cond_true, if_pos h15]
        have := hsub r4.length (by omega)
        rw [this, Option.bind_some]; congr 2; omega
      · rw [iltF (by omega), cond_false, iltT (by omega), cond_true, if_pos h15]
        have := hsub r4.length (by omega)
        rw [this, Option.bind_some]; congr 2; omega
    · rw [iltT (by omega), cond_true, iltF (by omega), cond_false, if_neg h15]
      have := hsub L.length (Nat.le_refl _)
      rw [this, Option.bind_some]
  · rw [hsub _ (by split <;> omega)]
    unfold cut
    split
    · rfl
    · simp

theorem peers_Add_s1_eq {me p : Peer} {l : List Entry} (hl : l.length ≤ 900) : ∃ t hi, peers_Add_s1 me l p = some (hi, t) ∧ xsub eEntry t 0 hi = some (cut (ins me p (drp p.addr l))) := by
  have hd := drp_le p.addr l
  rw [ins_split]
  cases hf : fst (isAh me p) (drp p.addr l) with
  | none =>
    obtain ⟨t, hi, h1, h2⟩ := peers_Add_s0_eq (me := me) (p := p) (l := l) (r4 := drp p.addr l) (n := (drp p.addr l).length) (by omega) (Nat.le_refl _)
    refine ⟨t, hi, peers_Add_s1_r ?_, by rw [h2]; simp⟩
    simp only [peers_Add_s1_b, peers_Drop_eq (l := l) (by omega), Option.bind_some, IndexFunc_ahead (l := drp p.addr l) (by omega), fstI, hf]
    have : Ops.std.ilt (-1) 0 = true := rfl
    simp only [this, cond_true, xlen_eq, h1, Option.bind_some]
  | some n =>
    have hn := (fst_some hf).choose_spec.2.2.1
    obtain ⟨t, hi, h1, h2⟩ := peers_Add_s0_eq (me := me) (p := p) (l := l) (r4 := drp p.addr l) (n := n) (by omega) (by omega)
    refine ⟨t, hi, peers_Add_s1_r ?_, h2⟩
    simp only [peers_Add_s1_b, peers_Drop_eq (l := l) (by omega), Option.bind_some, IndexFunc_ahead (l := drp p.addr l) (by omega), fstI, hf, iltF (show ¬ (n : Int) < 0 by omega), cond_false, h1]

theorem peers_Add_eq {me p : Peer} {l : List Entry} (hl : l.length ≤ 900) : peers_Add me l p = some (add me l p) := peers_Add_r (by
  have hroom : xroom eEntry 24 [] l = true := xroom_eq eEntry (by simp; omega) (by omega)
  obtain ⟨t, hi, h1, h2⟩ := peers_Add_s1_eq (me := me) (p := p) (l := l) hl
  simp only [peers_Add_b, hroom, cond_true, peers_Place_eq (l := l) (by omega), Option.bind_some, ieq_dec, ile_dec, bif_dec, h1, h2, add]
  split
  · rfl
  · unfold place fstI
    cases hf : fst (isAt p.addr) l with
    | none => dsimp only; rw [if_neg (by omega)]
    | some n =>
      obtain ⟨x, hx, hp, hn, hb⟩ := fst_some hf
      have hg : xget eEntry l (n : Int) = some x := by rw [xget_nat, hx]
      dsimp only
      rw [if_pos (by omega)]
      simp only [hg, Option.bind_some, hx, Peer.ext', xset_nat]
      by_cases h3 : x.peer.id = p.id
      · by_cases h4 : x.peer.addr = p.addr
        · simp [h3, h4]
        · simp [h3, h4]
      · simp [h3])

/-- What the reference's loop comes to: was it put in; the list. -/
theorem r27_Add_l1_eq {me p : Peer} {l : List Entry} (hl : l.length ≤ 900) (hm : PeOk me) (hp : PeOk p) (ho : EnOk l) : r27_Add_l1 me p l false 0 [] = some (match fst (isAh me p) l with | some n => (true, l.take n ++ ⟨p, 0⟩ :: l.drop n) | none => (false, l)) := by
  have h := for_list (σ := Bool × List Entry) eEntry (l := l) (by omega) (L := fun i s => r27_Add_l1 me p l s.1 i s.2) (res := fun _ s rest => bif s.1 then (true, s.2 ++ rest) else match fst (isAh me p) rest with | some n => (true, s.2 ++ (rest.take n ++ ⟨p, 0⟩ :: rest.drop n)) | none => (false, s.2 ++ rest)) (Inv := fun n s => s.2.length ≤ n + (bif s.1 then 1 else 0))
    (fun s _ h => r27_Add_l1_r (by
      obtain ⟨b, acc⟩ := s
      cases b <;> simp [r27_Add_l1_b, h, fst]))
    (fun n x rest s hi hn hx hd h1 h2 h3 ih => r27_Add_l1_r (by
      obtain ⟨b, acc⟩ := s
      have hi' : acc.length ≤ n + (bif b then 1 else 0) := hi
      have hroom : ∀ (a : List Entry) (y : Entry), a.length ≤ n + 2 → xroom eEntry 24 a [y] = true := fun a y ha => xroom_eq eEntry (by simp; omega) (by omega)
      cases b with
      | true =>
        rw [cond_true] at hi'
        simp only [r27_Add_l1_b, h1, h2, cond_true, Option.bind_some, hroom acc x (by omega), h3]
        have := ih (true, acc ++ [x]) (by simp; omega)
        simpa using this
      | false =>
        rw [cond_false] at hi'
        simp only [r27_Add_l1_b, h1, h2, cond_true, cond_false, Option.bind_some, r27_Ahead_eq hm hp (ho x (List.mem_of_getElem? hx)), fst]
        have e : ahead me p x.peer = isAh me p x := rfl
        rw [e]
        cases isAh me p x with
        | true =>
          simp only [cond_true, hroom acc ⟨p, 0⟩ (by omega), hroom (acc ++ [⟨p, 0⟩]) x (by simp; omega), h3]
          have := ih (true, acc ++ [⟨p, 0⟩] ++ [x]) (by simp; omega)
          simpa using this
        | false =>
          simp only [cond_false, hroom acc x (by omega), cond_true, h3]
          have := ih (false, acc ++ [x]) (by simp; omega)
          simp only [cond_false] at this
          rw [this]
          cases fst (isAh me p) rest with
          | none => simp
          | some m => simp)) (false, []) (by simp)
  simpa using h

theorem r27_Add_s2_eq {me p : Peer} {t : List Entry} (hl : t.length ≤ 1000) : ∃ r, r27_Add_s2 me p t = some r ∧ (match r with | .inl (hi, r3) => (xsub eEntry r3 0 hi).bind fun ys => some ys | .inr r3 => some r3) = some (cut t) := by
  by_cases h15 : 15 < t.length
  · have h1 : Ops.std.isub .i64 (xlen eEntry t) 1 = ((t.length - 1 : Nat) : Int) := by rw [xlen_eq, isubS (by omega) (by omega)]; omega
    refine ⟨.inl (((t.length - 1 : Nat) : Int), t), r27_Add_s2_r ?_, ?_⟩
    · simp only [r27_Add_s2_b, h1, xsub_take t (t.length - 1) (by omega), Option.bind_some]
      rw [xlen_eq, iltT (by omega), cond_true]
    · simp only [xsub_take t (t.length - 1) (by omega), Option.bind_some, cut, if_pos h15]
  · refine ⟨.inr t, r27_Add_s2_r ?_, by simp only [cut, if_neg h15]⟩
    rw [r27_Add_s2_b, xlen_eq, iltF (by omega), cond_false]
theorem r27_Add_s3_eq {me p : Peer} {l : List Entry} (hl : l.length ≤ 900) (hm : PeOk me) (hp : PeOk p) (ho : EnOk l) : ∃ r, r27_Add_s3 me l p = some r ∧ (match r with | .inl (hi, r3) => (xsub eEntry r3 0 hi).bind fun ys => some ys | .inr r3 => some r3) = some (cut (ins me p (drp p.addr l))) := by
  have hd := drp_le p.addr l
  have hod : EnOk (drp p.addr l) := fun x hx => ho x (List.mem_filter.1 hx).1
  have hil := ins_len me p (drp p.addr l)
  obtain ⟨r, h1, h2⟩ := r27_Add_s2_eq (me := me) (p := p) (t := ins me p (drp p.addr l)) (by omega)
  refine ⟨r, r27_Add_s3_r ?_, h2⟩
  have hl1 := r27_Add_l1_eq (me := me) (p := p) (l := drp p.addr l) (by omega) hm hp hod
  simp only [r27_Add_s3_b, r27_Drop_eq (l := l) (addr := p.addr) (by omega), Option.bind_some, hl1]
  rw [ins_split] at h1
  cases hf : fst (isAh me p) (drp p.addr l) with
  | none =>
    rw [hf] at h1
    have hroom : xroom eEntry 24 (drp p.addr l) [⟨p, 0⟩] = true := xroom_eq eEntry (by simp; omega) (by omega)
    simp only [Option.bind_some, cond_false, hroom, cond_true] at h1 ⊢
    rw [h1]
    rcases r with ⟨a, b⟩ | c <;> rfl
  | some n =>
    rw [hf] at h1
    simp only [Option.bind_some, cond_true] at h1 ⊢
    rw [h1]
    rcases r with ⟨a, b⟩ | c <;> rfl
theorem r27_Add_eq {me p : Peer} {l : List Entry} (hl : l.length ≤ 900) (hm : PeOk me) (hp : PeOk p) (ho : EnOk l) : r27_Add me l p = some (add me l p) := r27_Add_r (by
  have hroom : xroom eEntry 24 [] l = true := xroom_eq eEntry (by simp; omega) (by omega)
  obtain ⟨r, h1, h2⟩ := r27_Add_s3_eq (l := l) hl hm hp ho
  have s0 : ∀ at_, r27_Add_s0 me l p at_ false = some (.inr ()) := fun at_ => r27_Add_s0_r (by rw [r27_Add_s0_b, cond_false])
  rcases r with ⟨hi, t⟩ | t
  all_goals
    simp only [Option.bind_fun_some, Option.some.injEq] at h2
    simp only [r27_Add_b, r27_Place_eq (l := l) (addr := p.addr) (by omega), Option.bind_some, ieq_dec, ile_dec, bif_dec, s0, h1, h2, add]
    split
    · rfl
    · unfold place fstI
      cases hf : fst (isAt p.addr) l with
      | none => dsimp only; rw [if_neg (by omega)]
      | some n =>
        obtain ⟨x, hx, hp, hn, hb⟩ := fst_some hf
        have hg : xget eEntry l (n : Int) = some x := by rw [xget_nat, hx]
        have s1 : r27_Add_s0 me l p (n : Int) true = some (.inl (l.set n ⟨x.peer, 0⟩)) := r27_Add_s0_r (by
          rw [r27_Add_s0_b, cond_true, hroom, cond_true, hg]; rfl)
        dsimp only
        rw [if_pos (by omega)]
        simp only [hg, Option.bind_some, hx, Peer.ext', s1]
        by_cases h3 : x.peer.id = p.id
        · by_cases h4 : x.peer.addr = p.addr
          · simp [h3, h4]
          · simp [h3, h4]
        · simp [h3])

/-! ### The laws of chapter 27 but the last -/

theorem awake27 : w27_awake = some true := ask_of ((le_lim 60).call _ _ _ _ (by kernel_rfl))
theorem add_le (me p : Peer) (l : List Entry) : (add me l p).length ≤ l.length + 1 := by
  have hd := drp_le p.addr l
  have hc : (cut (ins me p (drp p.addr l))).length ≤ l.length + 1 := by
    unfold cut
    have := ins_len me p (drp p.addr l)
    split
    · rw [List.length_take]; omega
    · omega
  unfold add
  split
  · omega
  · split
    · exact hc
    · split
      · omega
      · split
        · rw [List.length_set]; omega
        · exact hc
theorem miss_le (l : List Entry) (addr : Int) : (miss l addr).length ≤ l.length := by rw [← missFrom_eq]; exact missFrom_le _ _ _
theorem law27a (me p : Peer) (l : List Entry) (hm : PeOk me) (hp : PeOk p) (ho : EnOk l) : w27_PeersMoves me l p = some true := w27_PeersMoves_r (by
  rw [w27_PeersMoves_b, xlen_eq]
  by_cases h : 60 < l.length
  · rw [iltT (by omega), cond_true, awake27]; rfl
  · rw [iltF (by omega), cond_false]
    have hroom : xroom eEntry 24 [] l = true := xroom_eq eEntry (by simp; omega) (by omega)
    have h1 := add_le me p l
    have h2 := miss_le l p.addr
    have h3 := drp_le p.addr l
    simp only [hroom, cond_true, peers_Add_eq (me := me) (p := p) (l := l) (by omega), r27_Add_eq (me := me) (p := p) (l := l) (by omega) hm hp ho, peers_Miss_eq (l := l) (addr := p.addr) (by omega), r27_Miss_eq (l := l) (addr := p.addr) (by omega), peers_Drop_eq (l := l) (addr := p.addr) (by omega), r27_Drop_eq (l := l) (addr := p.addr) (by omega),
      r27_Same_eq (a := add me l p) (b := add me l p) (by omega), r27_Same_eq (a := miss l p.addr) (b := miss l p.addr) (by omega), r27_Same_eq (a := drp p.addr l) (b := drp p.addr l) (by omega), r27_Same_eq (a := l) (b := l) (by omega), eqb_self, Option.bind_some, awake27])
theorem law27b (me a b : Peer) (l : List Entry) (key : Int) (hk : 0 ≤ key ∧ key < 18446744073709551616) (hm : PeOk me) (ha : PeOk a) (hb : PeOk b) (ho : EnOk l) : w27_PeersTells me l a b key = some true := w27_PeersTells_r (by
  rw [w27_PeersTells_b, xlen_eq]
  by_cases h : 60 < l.length
  · rw [iltT (by omega), cond_true, awake27]; rfl
  · rw [iltF (by omega), cond_false]
    have hf := firms_le l
    obtain ⟨f1, f2, f3, f4⟩ := some_eq (l := l) (by omega)
    have s0 : w27_PeersTells_s0 me l a b true = some true := w27_PeersTells_s0_r (by
      simp only [w27_PeersTells_s0_b, cond_true, f1, f2, f3, f4, Option.bind_some, r08_Peers_eq (a := firms l) (b := firms l) (by omega), r08_Peers_eq (a := l.map Entry.peer) (b := l.map Entry.peer) (by simp; omega), eqb_self, awake27])
    simp only [peers_Place_eq (l := l) (addr := a.addr) (by omega), r27_Place_eq (l := l) (addr := a.addr) (by omega), peers_Right_eq (me := me) (l := l) (by omega), r27_Right_eq (me := me) (l := l) (by omega) hm ho, peers_Ahead_eq, r27_Ahead_eq hm ha hb, peers_Owner_eq (me := me) (key := key) (l := l) (by omega), r27_Owner_eq (me := me) (key := key) (l := l) (by omega) hk hm ho, Option.bind_some, ieq_dec, beq_dec, decide_true, BEq.rfl, cond_true, s0])
end Go.Ab.Try
