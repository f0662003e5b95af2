/- Peers and entries: who is ahead; the place of an entry; an entry dropped, missed, added; who is firm; who owns: the program's answers and the reference's. -/
import Derived.Test.YtcnohiofldkcoabS1
import Derived.Test.YtcnohiofldkcoabS2
import Derived.Test.YtcnohiofldkcoabS3
import Derived.Test.YtcnohiofldkcoabAbShUse
namespace Go.Ab.Try
open Go Go.Ab Go.Proofs
set_option linter.unusedVariables false
set_option linter.unusedSimpArgs false

def PeOk (p : Peer) : Prop := 0 ≤ p.id ∧ p.id < 18446744073709551616

/-! ### Who is ahead -/

def dist (a b : Int) : Int := (b - a) % 18446744073709551616
theorem ring_Dist_eq (a b : Int) : ring_Dist a b = some (dist a b) := ring_Dist_r (by
  show some (IntKind.u64.wrap (b - a)) = _
  rw [u64_wrap]; rfl)
theorem r03_Dist_eq {a b : Int} (ha : 0 ≤ a) (ha2 : a < 18446744073709551616) (hb : 0 ≤ b) (hb2 : b < 18446744073709551616) : r03_Dist a b = some (dist a b) := r03_Dist_r (by
  unfold r03_Dist_b
  show (bif Ops.std.ile a b then some (IntKind.u64.wrap (b - a)) else some (IntKind.u64.wrap (IntKind.u64.wrap (18446744073709551615 - IntKind.u64.wrap (a - b)) + 1))) = _
  simp only [u64_wrap, dist, ile_dec, bif_dec]
  split
  · rfl
  · congr 1; omega)

def ahead (me a b : Peer) : Bool := decide (dist me.id a.id < dist me.id b.id ∨ dist me.id a.id = dist me.id b.id ∧ a.addr < b.addr)
theorem peers_Ahead_eq (me a b : Peer) : peers_Ahead me a b = some (ahead me a b) := peers_Ahead_r (by
  simp only [peers_Ahead_b, ring_Dist_eq, Option.bind_some, ilt_dec, ieq_dec, bif_dec, ahead]
  split
  · simp_all
  · split <;> simp_all)
theorem r27_Ahead_eq {me a b : Peer} (hm : PeOk me) (ha : PeOk a) (hb : PeOk b) : r27_Ahead me a b = some (ahead me a b) := r27_Ahead_r (by
  simp only [r27_Ahead_b, r03_Dist_eq hm.1 hm.2 ha.1 ha.2, r03_Dist_eq hm.1 hm.2 hb.1 hb.2, Option.bind_some, ilt_dec, ieq_dec, bif_dec, ahead]
  split
  · rename_i h; simp [h]
  · rename_i h; simp [h])

/-! ### The place of an entry -/

def isAt (addr : Int) (e : Entry) : Bool := decide (e.peer.addr = addr)
def place (l : List Entry) (addr : Int) : Int := fstI (isAt addr) l
theorem IndexFunc_at {l : List Entry} {addr : Int} (hl : l.length ≤ 1000) : IndexFunc_Entry_2 l addr = some (place l addr) ∧ IndexFunc_Entry_1 l addr = some (place l addr) ∧ r27_Place l addr = some (place l addr) := by
  have e2 := find_list eEntry (l := l) (by omega) (p := isAt addr) (L := fun i => IndexFunc_Entry_2_l0 l addr i) (fun h => IndexFunc_Entry_2_l0_r (by simp [IndexFunc_Entry_2_l0_b, h]))
    (fun n x _ h1 h2 hp => IndexFunc_Entry_2_l0_r (by
      have : peers_Place_1 x addr = some (isAt addr x) := peers_Place_1_r rfl
      simp [IndexFunc_Entry_2_l0_b, h1, h2, this, hp]))
    (fun n x r _ h1 h2 hp h => IndexFunc_Entry_2_l0_r (by
      have : peers_Place_1 x addr = some (isAt addr x) := peers_Place_1_r rfl
      simp [IndexFunc_Entry_2_l0_b, h1, h2, this, hp]; exact h))
  have e1 := find_list eEntry (l := l) (by omega) (p := isAt addr) (L := fun i => IndexFunc_Entry_1_l0 l addr i) (fun h => IndexFunc_Entry_1_l0_r (by simp [IndexFunc_Entry_1_l0_b, h]))
    (fun n x _ h1 h2 hp => IndexFunc_Entry_1_l0_r (by
      have : peers_Drop_1 x addr = some (isAt addr x) := peers_Drop_1_r rfl
      simp [IndexFunc_Entry_1_l0_b, h1, h2, this, hp]))
    (fun n x r _ h1 h2 hp h => IndexFunc_Entry_1_l0_r (by
      have : peers_Drop_1 x addr = some (isAt addr x) := peers_Drop_1_r rfl
      simp [IndexFunc_Entry_1_l0_b, h1, h2, this, hp]; exact h))
  have e0 := find_list eEntry (l := l) (by omega) (p := isAt addr) (L := fun i => r27_Place_l0 l addr i) (fun h => r27_Place_l0_r (by simp [r27_Place_l0_b, h]))
    (fun n x _ h1 h2 hp => r27_Place_l0_r (by
      have : Ops.std.ieq x.peer.addr addr = true := hp
      simp [r27_Place_l0_b, h1, h2, this]))
    (fun n x r _ h1 h2 hp h => r27_Place_l0_r (by
      have : Ops.std.ieq x.peer.addr addr = false := hp
      simp [r27_Place_l0_b, h1, h2, this]; exact h))
  refine ⟨IndexFunc_Entry_2_r ?_, IndexFunc_Entry_1_r ?_, r27_Place_r ?_⟩
  · rw [IndexFunc_Entry_2_b, e2]; unfold place fstI; cases fst (isAt addr) l <;> rfl
  · rw [IndexFunc_Entry_1_b, e1]; unfold place fstI; cases fst (isAt addr) l <;> rfl
  · rw [r27_Place_b, e0]; unfold place fstI; cases fst (isAt addr) l <;> rfl
theorem peers_Place_eq {l : List Entry} {addr : Int} (hl : l.length ≤ 1000) : peers_Place l addr = some (place l addr) := peers_Place_r (by simp [peers_Place_b, (IndexFunc_at hl).1])
theorem r27_Place_eq {l : List Entry} {addr : Int} (hl : l.length ≤ 1000) : r27_Place l addr = some (place l addr) := (IndexFunc_at hl).2.2

/-! ### An entry dropped -/

def drp (addr : Int) (l : List Entry) : List Entry := l.filter fun e => !isAt addr e
theorem drp_cons {addr : Int} {x : Entry} {l : List Entry} : drp addr (x :: l) = bif isAt addr x then drp addr l else x :: drp addr l := by
  unfold drp
  cases h : isAt addr x <;> simp [h]
theorem drp_none {addr : Int} {l : List Entry} (h : ∀ x, x ∈ l → isAt addr x = false) : drp addr l = l := by
  unfold drp
  rw [List.filter_eq_self]
  intro x hx; simp [h x hx]
theorem drp_le (addr : Int) (l : List Entry) : (drp addr l).length ≤ l.length := List.length_filter_le _ _
theorem drp_flat (addr : Int) (l : List Entry) : (l.flatMap fun x => bif isAt addr x then [] else [x]) = drp addr l := by
  induction l with
  | nil => rfl
  | cons x l ih => rw [List.flatMap_cons, ih, drp_cons]; cases isAt addr x <;> rfl

theorem r27_Drop_eq {l : List Entry} {addr : Int} (hl : l.length ≤ 1000) : r27_Drop l addr = some (drp addr l) := r27_Drop_r (by
  have h := gather_list eEntry (l := l) (by omega) (f := fun x => bif isAt addr x then [] else [x]) (L := fun i acc => r27_Drop_l0 l addr i acc) 1 (fun x _ => by cases isAt addr x <;> simp)
    (fun acc h => r27_Drop_l0_r (by simp [r27_Drop_l0_b, h]))
    (fun n x acc r ha hn _ h1 h2 h => r27_Drop_l0_r (by
      cases hx : isAt addr x with
      | true =>
        have hx' : Ops.std.ieq x.peer.addr addr = true := hx
        simp only [hx, cond_true, List.append_nil] at h
        simp [r27_Drop_l0_b, h1, h2, hx', h]
      | false =>
        have hx' : Ops.std.ieq x.peer.addr addr = false := hx
        simp only [hx, cond_false] at h
        simp [r27_Drop_l0_b, h1, h2, hx', xroom_eq eEntry (b := 24) (l := acc) (l' := [x]) (by simp; omega) (by omega), h]))
  rw [r27_Drop_b, h, drp_flat]; rfl)

/-- What DeleteFunc does behind the first one. -/
theorem delete_loop (addr : Int) (rest : List Entry) : ∀ (kept : List Entry) (j0 : Entry) (jt : List Entry), kept.length + (jt.length + 1) + rest.length ≤ 1000 →
    ∃ junk, DeleteFunc_Entry_l0 addr (kept.length : Nat) ((kept ++ j0 :: jt).length : Nat) (kept ++ j0 :: jt ++ rest) = some ((((kept ++ drp addr rest).length : Nat) : Int), kept ++ drp addr rest ++ junk) := by
  induction rest with
  | nil =>
    intro kept j0 jt h
    refine ⟨j0 :: jt, DeleteFunc_Entry_l0_r ?_⟩
    have : Ops.std.ilt ((kept ++ j0 :: jt).length : Nat) (xlen eEntry (kept ++ j0 :: jt ++ [])) = false := by rw [ilt_len]; simp
    rw [DeleteFunc_Entry_l0_b, this]
    simp [drp]
  | cons x rest ih =>
    intro kept j0 jt h
    simp only [List.length_cons] at h
    have hlt : Ops.std.ilt ((kept ++ j0 :: jt).length : Nat) (xlen eEntry (kept ++ j0 :: jt ++ x :: rest)) = true := by rw [ilt_len]; simp
    have hg : xget eEntry (kept ++ j0 :: jt ++ x :: rest) ((kept ++ j0 :: jt).length : Nat) = some x := by rw [xget_nat]; simp
    have hadd : Ops.std.iadd .i64 ((kept ++ j0 :: jt).length : Nat) 1 = (((kept ++ j0 :: jt).length + 1 : Nat) : Int) := iadd1 (by simp; omega)
    have hd : peers_Drop_1 x addr = some (isAt addr x) := peers_Drop_1_r rfl
    rw [drp_cons]
    cases hx : isAt addr x with
    | true =>
      obtain ⟨junk, h2⟩ := ih kept j0 (jt ++ [x]) (by simp; omega)
      refine ⟨junk, DeleteFunc_Entry_l0_r ?_⟩
      rw [DeleteFunc_Entry_l0_b, hlt, hg, hadd]
      simp only [cond_true, Option.bind_some, hd, hx]
      simpa [Nat.add_assoc] using h2
    | false =>
      have hg0 : xget eEntry (kept ++ j0 :: jt ++ x :: rest) (kept.length : Nat) = some j0 := by rw [xget_nat]; simp
      have hadd2 : Ops.std.iadd .i64 (kept.length : Nat) 1 = ((kept.length + 1 : Nat) : Int) := iadd1 (by omega)
      have hset : xset (kept ++ j0 :: jt ++ x :: rest) (kept.length : Nat) x = (kept ++ [x]) ++ (jt ++ [x]) ++ rest := by
        unfold xset; simp
      have go : DeleteFunc_Entry_l0 addr ((kept.length + 1 : Nat) : Int) (((kept ++ j0 :: jt).length + 1 : Nat) : Int) ((kept ++ [x]) ++ (jt ++ [x]) ++ rest) = DeleteFunc_Entry_l0_b addr (kept.length : Nat) ((kept ++ j0 :: jt).length : Nat) (kept ++ j0 :: jt ++ x :: rest) := by
        rw [DeleteFunc_Entry_l0_b, hlt, hg, hadd]
        simp only [cond_true, Option.bind_some, hd, hx, cond_false, hg0, hadd2, hset]
      cases jt with
      | nil =>
        obtain ⟨junk, h2⟩ := ih (kept ++ [x]) x [] (by simp; omega)
        refine ⟨junk, DeleteFunc_Entry_l0_r (go.symm.trans ?_)⟩
        simpa [Nat.add_assoc] using h2
      | cons j1 jt =>
        obtain ⟨junk, h2⟩ := ih (kept ++ [x]) j1 (jt ++ [x]) (by simp at h ⊢; omega)
        refine ⟨junk, DeleteFunc_Entry_l0_r (go.symm.trans ?_)⟩
        simpa [Nat.add_assoc] using h2

theorem xsub_take (l : List Entry) (n : Nat) (h : n ≤ l.length) : xsub eEntry l 0 (n : Int) = some (l.take n) := by
  rw [xsub_eq, if_pos (by omega)]; simp
theorem xsub_drop (l : List Entry) (n : Nat) (h : n ≤ l.length) : xsub eEntry l (n : Int) (xlen eEntry l) = some (l.drop n) := by
  rw [xsub_eq, xlen_eq, if_pos (by omega)]; simp

theorem DeleteFunc_eq {l : List Entry} {addr : Int} (hl : l.length ≤ 1000) : DeleteFunc_Entry l addr = some (drp addr l) := DeleteFunc_Entry_r (by
  rw [DeleteFunc_Entry_b, (IndexFunc_at hl).2.1, Option.bind_some]
  unfold place fstI
  cases hf : fst (isAt addr) l with
  | none =>
    have : Ops.std.ieq (-1) (-1) = true := rfl
    simp [this, drp_none (fst_none hf)]
  | some n =>
    obtain ⟨x, hx, hp, hn, hb⟩ := fst_some hf
    have h1 : Ops.std.ieq (n : Int) (-1) = false := ieqF (by omega)
    obtain ⟨hn', hxe⟩ := List.getElem?_eq_some_iff.1 hx
    have hsplit : l = l.take n ++ x :: l.drop (n + 1) := by
      rw [← hxe, ← List.drop_eq_getElem_cons hn, List.take_append_drop]
    have hkl : (l.take n).length = n := by simp; omega
    have hbefore : drp addr (l.take n) = l.take n := drp_none fun y hy => by
      obtain ⟨i, hi, rfl⟩ := List.getElem_of_mem hy
      rw [hkl] at hi
      exact hb i _ hi (by rw [List.getElem_take]; exact List.getElem?_eq_getElem _)
    have hdrp : drp addr l = l.take n ++ drp addr (l.drop (n + 1)) := by
      conv => lhs; rw [hsplit]
      show List.filter _ _ = _
      rw [List.filter_append]
      show drp addr _ ++ drp addr (x :: _) = _
      rw [hbefore, drp_cons, hp, cond_true]
    obtain ⟨junk, hlo⟩ := delete_loop addr (l.drop (n + 1)) (l.take n) x [] (by rw [hkl]; simp; omega)
    rw [← hdrp, List.append_assoc, List.singleton_append, ← hsplit, List.length_append, hkl, List.length_singleton] at hlo
    have hadd : Ops.std.iadd .i64 (n : Int) 1 = ((n + 1 : Nat) : Int) := iadd1 (by omega)
    have hz : Ops.std.ieq 0 0 = true := rfl
    have hfil : xfil (drp addr l ++ junk) ((drp addr l).length : Nat) (xlen eEntry (drp addr l ++ junk)) ⟨⟨0, 0⟩, 0⟩ = drp addr l ++ List.replicate junk.length ⟨⟨0, 0⟩, 0⟩ := by
      unfold xfil; rw [xlen_eq]; simp only [Int.toNat_natCast]; simp
    simp only [h1, cond_false, hadd, hlo, Option.bind_some, xsub_drop (drp addr l ++ junk) (drp addr l).length (by simp), hfil, xsub_take (drp addr l ++ List.replicate junk.length ⟨⟨0, 0⟩, 0⟩) (drp addr l).length (by simp), hz, cond_true]
    simp)
theorem peers_Drop_eq {l : List Entry} {addr : Int} (hl : l.length ≤ 1000) : peers_Drop l addr = some (drp addr l) := peers_Drop_r (by
  simp [peers_Drop_b, DeleteFunc_eq hl, xroom_eq eEntry (b := 24) (l := []) (l' := l) (by simp; omega) (by omega)])

/-! ### Who is firm, and all; the same? -/

def firms (l : List Entry) : List Peer := l.flatMap fun x => bif Ops.std.ile x.misses 0 then [x.peer] else []
theorem flat_map (l : List Entry) : (l.flatMap fun x => [x.peer]) = l.map Entry.peer := by
  induction l with
  | nil => rfl
  | cons x l ih => rw [List.flatMap_cons, ih]; rfl
theorem some_eq {l : List Entry} (hl : l.length ≤ 1000) : peers_Firm l = some (firms l) ∧ r27_Firm l = some (firms l) ∧ peers_All l = some (l.map Entry.peer) ∧ r27_All l = some (l.map Entry.peer) := by
  have h1 := gather_list eEntry (l := l) (by omega) (f := fun x => bif Ops.std.ile x.misses 0 then [x.peer] else []) (L := fun i acc => peers_some_l0 l i acc) 1 (fun x _ => by cases Ops.std.ile x.misses 0 <;> simp)
    (fun acc h => peers_some_l0_r (by simp [peers_some_l0_b, h]))
    (fun n x acc r ha hn _ h1 h2 h => peers_some_l0_r (by
      have hf : peers_firm x = some (Ops.std.ile x.misses 0) := peers_firm_r rfl
      cases hx : Ops.std.ile x.misses 0 with
      | false => simp only [hx, cond_false, List.append_nil] at h; simp [peers_some_l0_b, h1, h2, hf, hx, h]
      | true => simp only [hx, cond_true] at h; simp [peers_some_l0_b, h1, h2, hf, hx, h, xroom_eq ePeer (b := 16) (l := acc) (l' := [x.peer]) (by simp; omega) (by omega)]))
  have h2 := gather_list eEntry (l := l) (by omega) (f := fun x => bif Ops.std.ile x.misses 0 then [x.peer] else []) (L := fun i acc => r27_Firm_l0 l i acc) 1 (fun x _ => by cases Ops.std.ile x.misses 0 <;> simp)
    (fun acc h => r27_Firm_l0_r (by simp [r27_Firm_l0_b, h]))
    (fun n x acc r ha hn _ h1 h2 h => r27_Firm_l0_r (by
      have hf : Ops.std.ilt x.misses 1 = Ops.std.ile x.misses 0 := by rw [ilt_dec, ile_dec]; exact decide_eq_decide.2 (by omega)
      cases hx : Ops.std.ile x.misses 0 with
      | false => simp only [hx, cond_false, List.append_nil] at h; simp [r27_Firm_l0_b, h1, h2, hf, hx, h]
      | true => simp only [hx, cond_true] at h; simp [r27_Firm_l0_b, h1, h2, hf, hx, h, xroom_eq ePeer (b := 16) (l := acc) (l' := [x.peer]) (by simp; omega) (by omega)]))
  have h3 := gather_list eEntry (l := l) (by omega) (f := fun x => [x.peer]) (L := fun i acc => peers_some_1_l0 l i acc) 1 (fun x _ => by simp)
    (fun acc h => peers_some_1_l0_r (by simp [peers_some_1_l0_b, h]))
    (fun n x acc r ha hn _ h1 h2 h => peers_some_1_l0_r (by
      have hf : peers_All_1 x = some true := peers_All_1_r rfl
      simp [peers_some_1_l0_b, h1, h2, hf, h, xroom_eq ePeer (b := 16) (l := acc) (l' := [x.peer]) (by simp; omega) (by omega)]))
  have h4 := gather_list eEntry (l := l) (by omega) (f := fun x => [x.peer]) (L := fun i acc => r27_All_l0 l i acc) 1 (fun x _ => by simp)
    (fun acc h => r27_All_l0_r (by simp [r27_All_l0_b, h]))
    (fun n x acc r ha hn _ h1 h2 h => r27_All_l0_r (by
      simp [r27_All_l0_b, h1, h2, h, xroom_eq ePeer (b := 16) (l := acc) (l' := [x.peer]) (by simp; omega) (by omega)]))
  rw [flat_map] at h3 h4
  refine ⟨peers_Firm_r ?_, r27_Firm_r ?_, peers_All_r ?_, r27_All_r ?_⟩
  · simp [peers_Firm_b, peers_some_r (l := l) (r := firms l) (by simp [peers_some_b, h1, firms])]
  · simp [r27_Firm_b, h2, firms]
  · simp [peers_All_b, peers_some_1_r (l := l) (r := l.map Entry.peer) (by simp [peers_some_1_b, h3])]
  · simp [r27_All_b, h4]
theorem firms_le (l : List Entry) : (firms l).length ≤ l.length := by
  unfold firms
  induction l with
  | nil => exact Nat.le_refl _
  | cons x l ih => rw [List.flatMap_cons, List.length_append, List.length_cons]; cases Ops.std.ile x.misses 0 <;> simp only [cond_true, cond_false, List.length_cons, List.length_nil] <;> omega

theorem Entry.ext3 {a b : Entry} : a = b ↔ a.peer.id = b.peer.id ∧ a.peer.addr = b.peer.addr ∧ a.misses = b.misses := by
  rw [Entry.ext', Peer.ext', and_assoc]
theorem r27_Same_eq {a b : List Entry} (hl : a.length ≤ 1000) : r27_Same a b = some (eqb a b) := r27_Same_r (by
  rw [r27_Same_b, xlen_eq, xlen_eq]
  by_cases he : a.length = b.length
  · have h := same_list eEntry (l := a) (l' := b) (by omega) he (L := fun i => r27_Same_l0 a b i) (fun h => r27_Same_l0_r (by simp [r27_Same_l0_b, h]))
      (fun n x r _ h1 h2 h3 h => r27_Same_l0_r (by simp [r27_Same_l0_b, h1, h2, h3, ieq_dec]; exact h))
      (fun n x y _ h1 h2 h3 h => r27_Same_l0_r (by
        simp only [r27_Same_l0_b, h1, h2, h3, ieq_dec, bif_dec, cond_true, Option.bind_some]
        rw [ne_eq, Entry.ext3] at h
        split
        · split
          · split
            · exact absurd ⟨‹_›, ‹_›, ‹_›⟩ h
            · rfl
          · rfl
        · rfl))
    rw [ieqT (by omega), cond_true]
    rcases h with ⟨h1, h2⟩ | ⟨h1, h2⟩
    · rw [h2, h1, eqb_self]; rfl
    · rw [h2, eqb_ne h1]; rfl
  · rw [ieqF (by omega), eqb_ne (fun h => he (by rw [h]))]; rfl)
theorem r08_Peers_eq {a b : List Peer} (hl : a.length ≤ 1000) : r08_Peers a b = some (eqb a b) := r08_Peers_r (by
  rw [r08_Peers_b, xlen_eq, xlen_eq]
  by_cases he : a.length = b.length
  · have h := same_list ePeer (l := a) (l' := b) (by omega) he (L := fun i => r08_Peers_l0 a b i) (fun h => r08_Peers_l0_r (by simp [r08_Peers_l0_b, h]))
      (fun n x r _ h1 h2 h3 h => r08_Peers_l0_r (by simp [r08_Peers_l0_b, h1, h2, h3, ieq_dec]; exact h))
      (fun n x y _ h1 h2 h3 h => r08_Peers_l0_r (by
        simp only [r08_Peers_l0_b, h1, h2, h3, ieq_dec, bif_dec, cond_true, Option.bind_some]
        rw [ne_eq, Peer.ext'] at h
        split
        · split
          · exact absurd ⟨‹_›, ‹_›⟩ h
          · rfl
        · rfl))
    rw [ieqT (by omega), cond_true]
    rcases h with ⟨h1, h2⟩ | ⟨h1, h2⟩
    · rw [h2, h1, eqb_self]; rfl
    · rw [h2, eqb_ne h1]; rfl
  · rw [ieqF (by omega), eqb_ne (fun h => he (by rw [h]))]; rfl)

/-! ### Who owns -/

def owner (key : Int) : Peer → List Peer → Peer
  | best, [] => best
  | best, p :: l => if dist key p.id < dist key best.id then owner key p l else owner key best l
theorem peers_Owner_eq {me : Peer} {l : List Entry} {key : Int} (hl : l.length ≤ 1000) : peers_Owner me l key = some (owner key me (firms l)) := peers_Owner_r (by
  have hf := firms_le l
  have h := for_list (σ := Peer) ePeer (l := firms l) (by omega) (L := fun i b => peers_Owner_l0 me key (firms l) (xlen ePeer (firms l)) i b.id b.addr) (res := fun _ b rest => ((owner key b rest).id, (owner key b rest).addr)) (Inv := fun _ _ => True)
    (fun b _ h => peers_Owner_l0_r (by simp [peers_Owner_l0_b, h, owner]))
    (fun n x rest b _ hn hx hd h1 h2 h3 ih => peers_Owner_l0_r (by
      simp only [peers_Owner_l0_b, h1, h2, h3, cond_true, Option.bind_some, ring_Dist_eq, ilt_dec, bif_dec, owner]
      split
      · exact ih x trivial
      · exact ih b trivial)) me trivial
  simp [peers_Owner_b, (some_eq hl).1, h])
theorem r27_Owner_eq {me : Peer} {l : List Entry} {key : Int} (hl : l.length ≤ 1000) (hk : 0 ≤ key ∧ key < 18446744073709551616) (hm : PeOk me) (hp : ∀ x, x ∈ l → PeOk x.peer) : r27_Owner me l key = some (owner key me (firms l)) := r27_Owner_r (by
  have hf := firms_le l
  have hok : ∀ p, p ∈ me :: firms l → PeOk p := fun p hpm => by
    rcases List.mem_cons.1 hpm with rfl | hpm
    · exact hm
    · obtain ⟨x, hx, hpx⟩ := List.mem_flatMap.1 hpm
      cases hc : Ops.std.ile x.misses 0 with
      | true => rw [hc] at hpx; simp at hpx; rw [hpx]; exact hp x hx
      | false => rw [hc] at hpx; simp at hpx
  have h := for_from (σ := Int) ePeer (l := me :: firms l) (by simp; omega) (L := fun i b => (r27_Owner_l0 me key (me :: firms l) b i).bind fun r => xget ePeer r.1 r.2) (res := fun _ b rest => match (me :: firms l)[b.toNat]? with | some p => owner key p rest | none => me) (Inv := fun n b => 0 ≤ b ∧ b.toNat < (me :: firms l).length)
    (fun b hb h => by
      have : r27_Owner_l0 me key (me :: firms l) b ((me :: firms l).length : Int) = some (me :: firms l, b) := r27_Owner_l0_r (by simp only [r27_Owner_l0_b, h, cond_false])
      obtain ⟨b', rfl⟩ := Int.eq_ofNat_of_zero_le hb.1
      simp only [this, Option.bind_some]
      have hlt : b' < (me :: firms l).length := by simpa using hb.2
      rw [xget_nat, Int.toNat_natCast, List.getElem?_eq_getElem hlt]
      simp [owner])
    (fun n x rest b hb hn hx hd h1 h2 h3 ih => by
      obtain ⟨b', rfl⟩ := Int.eq_ofNat_of_zero_le hb.1
      have hlt : b' < (me :: firms l).length := by simpa using hb.2
      have hg : xget ePeer (me :: firms l) (b' : Int) = some (me :: firms l)[b'] := by rw [xget_nat, List.getElem?_eq_getElem hlt]
      have ox := hok x (List.mem_of_getElem? hx)
      have ob := hok _ (List.getElem_mem hlt)
      have go : ∀ c : Int, (if dist key x.id < dist key (me :: firms l)[b'].id then (n : Int) else (b' : Int)) = c → r27_Owner_l0_b me key (me :: firms l) (b' : Int) (n : Int) = r27_Owner_l0 me key (me :: firms l) c ((n + 1 : Nat) : Int) := fun c hc => by
        simp only [r27_Owner_l0_b, h1, h2, h3, hg, cond_true, Option.bind_some, r03_Dist_eq hk.1 hk.2 ox.1 ox.2, r03_Dist_eq hk.1 hk.2 ob.1 ob.2, ilt_dec, bif_dec]
        split at hc <;> (subst hc; rename_i hcc; simp only [hcc, if_true, if_false])
      have fin : ∀ (c : Nat) (hc : c < (me :: firms l).length) (p : Peer), (if dist key x.id < dist key (me :: firms l)[b'].id then (n : Int) else (b' : Int)) = c → (r27_Owner_l0 me key (me :: firms l) (c : Int) ((n + 1 : Nat) : Int)).bind (fun r => xget ePeer r.1 r.2) = some p → (r27_Owner_l0 me key (me :: firms l) (b' : Int) (n : Int)).bind (fun r => xget ePeer r.1 r.2) = some p := fun c hc p he hp => by
        obtain ⟨r, hr, hx⟩ := Option.bind_eq_some_iff.1 hp
        rw [r27_Owner_l0_r ((go _ he).trans hr)]; exact hx
      rw [Int.toNat_natCast, List.getElem?_eq_getElem hlt]
      simp only [owner]
      by_cases hd2 : dist key x.id < dist key (me :: firms l)[b'].id
      · rw [if_pos hd2]
        refine fin n hn _ (by rw [if_pos hd2]) ?_
        have := ih n ⟨by omega, by simpa using hn⟩
        rw [Int.toNat_natCast, hx] at this; exact this
      · rw [if_neg hd2]
        refine fin b' hlt _ (by rw [if_neg hd2]) ?_
        have := ih b' ⟨by omega, by simpa using hlt⟩
        rw [Int.toNat_natCast, List.getElem?_eq_getElem hlt] at this; exact this) 1 (by simp) 0 ⟨by omega, by simp⟩
  simp only [Int.toNat_zero, List.getElem?_cons_zero, List.drop_succ_cons, List.drop_zero] at h
  have hroom : xroom ePeer 16 [me] (firms l) = true := xroom_eq ePeer (by simp; omega) (by omega)
  obtain ⟨r, hr, hx⟩ := Option.bind_eq_some_iff.1 h
  simp only [r27_Owner_b, (some_eq hl).2.1, Option.bind_some, hroom, cond_true, List.singleton_append]
  have hr' : r27_Owner_l0 me key (me :: firms l) 0 1 = some r := hr
  rw [hr']
  obtain ⟨a, b⟩ := r
  simp only [Option.bind_some]
  have hx' : xget ePeer a b = some (owner key me (firms l)) := hx
  rw [hx']; rfl)

/-! ### An entry missed -/

def miss (l : List Entry) (addr : Int) : List Entry :=
  match fst (isAt addr) l with
  | none => l
  | some n => match l[n]? with
    | none => l
    | some x => if 2 ≤ x.misses then l.eraseIdx n else l.set n ⟨x.peer, max x.misses 0 + 1⟩

theorem Delete_eq {l : List Entry} {n : Nat} (hl : l.length ≤ 1000) (hn : n < l.length) : Delete_Entry (n : Int) ((n + 1 : Nat) : Int) l = some (l.eraseIdx n) := Delete_Entry_r (by
  have h1 : xsub eEntry l (n : Int) ((n + 1 : Nat) : Int) = some ((l.take (n + 1)).drop n) := by rw [xsub_eq, if_pos (by omega)]; simp only [Int.toNat_natCast]
  have h2 := xsub_drop l (n + 1) (by omega)
  have h3 : Ops.std.ieq (n : Int) ((n + 1 : Nat) : Int) = false := ieqF (by omega)
  have h4 := xsub_take l n (by omega)
  have h5 : Ops.std.isub .i64 (xlen eEntry l) (n : Int) = ((l.length - n : Nat) : Int) := by rw [xlen_eq, isubS (by omega) (by omega)]; omega
  have h6 : Ops.std.ile (xlen eEntry (l.drop (n + 1))) ((l.length - n : Nat) : Int) = true := ileT (by rw [xlen_eq, List.length_drop]; omega)
  have h7 : Ops.std.iadd .i64 (n : Int) (xlen eEntry (l.drop (n + 1))) = ((l.length - 1 : Nat) : Int) := by rw [xlen_eq, List.length_drop, iaddS (by omega) (by omega)]; omega
  have hput : xput l (n : Int) (l.drop (n + 1)) = l.eraseIdx n ++ l.drop (l.length - 1) := by
    unfold xput
    rw [Int.toNat_natCast, List.length_drop, List.eraseIdx_eq_take_drop_succ]
    congr 2; omega
  have hle : (l.eraseIdx n).length = l.length - 1 := by rw [List.length_eraseIdx]; simp [hn]
  have h8 : xsub eEntry (l.eraseIdx n ++ l.drop (l.length - 1)) 0 ((l.length - 1 : Nat) : Int) = some (l.eraseIdx n) := by
    rw [xsub_take _ _ (by simp [hle]), ← hle, List.take_left]
  have h9 : xsub eEntry (l.eraseIdx n ++ l.drop (l.length - 1)) (xlen eEntry (l.eraseIdx n)) (xlen eEntry l) = some (l.drop (l.length - 1)) := by
    have e : xlen eEntry l = xlen eEntry (l.eraseIdx n ++ l.drop (l.length - 1)) := by rw [xlen_eq, xlen_eq, List.length_append, hle, List.length_drop]; omega
    rw [e, xlen_eq, xsub_drop _ _ (by simp), List.drop_left]
  have h10 : xfil (l.eraseIdx n ++ l.drop (l.length - 1)) (xlen eEntry (l.eraseIdx n)) (xlen eEntry l) ⟨⟨0, 0⟩, 0⟩ = l.eraseIdx n ++ List.replicate 1 ⟨⟨0, 0⟩, 0⟩ := by
    unfold xfil
    rw [xlen_eq, xlen_eq, Int.toNat_natCast, Int.toNat_natCast, List.take_left, hle, show l.length - (l.length - 1) = 1 by omega, List.append_assoc, List.drop_eq_nil_of_le (by simp [hle] <;> omega), List.append_nil]
  have h11 : xsub eEntry (l.eraseIdx n ++ List.replicate 1 ⟨⟨0, 0⟩, 0⟩) 0 ((l.length - 1 : Nat) : Int) = some (l.eraseIdx n) := by
    rw [xsub_take _ _ (by simp [hle]), ← hle, List.take_left]
  have hz : Ops.std.ieq 0 0 = true := rfl
  simp only [Delete_Entry_b, h1, h2, h3, h4, h5, h6, h7, hput, h8, h9, h10, h11, hz, Option.bind_some, cond_true, cond_false])

theorem xset_nat {α : Type} (l : List α) (n : Nat) (x : α) : xset l (n : Int) x = l.set n x := rfl
theorem peers_Miss_eq {l : List Entry} {addr : Int} (hl : l.length ≤ 1000) : peers_Miss l addr = some (miss l addr) := peers_Miss_r (by
  have hroom : xroom eEntry 24 [] l = true := xroom_eq eEntry (by simp; omega) (by omega)
  simp only [peers_Miss_b, hroom, cond_true, peers_Place_eq hl, Option.bind_some, miss]
  unfold place fstI
  cases hf : fst (isAt addr) l with
  | none =>
    have : Ops.std.ilt (-1) 0 = true := rfl
    simp only [this, cond_true]
  | some n =>
    obtain ⟨x, hx, hp, hn, hb⟩ := fst_some hf
    have hadd : Ops.std.iadd .i64 (n : Int) 1 = ((n + 1 : Nat) : Int) := iadd1 (by omega)
    have hg : xget eEntry l (n : Int) = some x := by rw [xget_nat, hx]
    have s0 : ∀ y : Entry, peers_Miss_s0 (n : Int) (l.set n y) = some (if 2 ≤ y.misses then .inl (l.eraseIdx n) else .inr ((n : Int), l.set n y)) := fun y => peers_Miss_s0_r (by
      have hg2 : xget eEntry (l.set n y) (n : Int) = some y := by rw [xget_nat]; simp [hn]
      have he : (l.set n y).eraseIdx n = l.eraseIdx n := List.eraseIdx_set_eq
      simp only [peers_Miss_s0_b, hg2, hadd, Option.bind_some, Delete_eq (l := l.set n y) (n := n) (by simpa using hl) (by simpa using hn), ile_dec, bif_dec, he]
      split <;> rfl)
    have s1 : ∀ y : Entry, xget eEntry (l.set n y) (n : Int) = some y := fun y => by rw [xget_nat]; simp [hn]
    simp only [hx, iltF (show ¬ (n : Int) < 0 by omega), cond_false, hg, Option.bind_some, xset_nat, ilt_dec, bif_dec, s0]
    by_cases h0 : x.misses < 0
    · rw [if_pos h0, if_neg (by omega), if_neg (by omega)]
      simp only [Option.bind_some, s1, xset_nat, List.set_set, iaddS (a := 0) (b := 1) (by omega) (by omega)]
      rw [Int.max_eq_right (by omega)]
    · rw [if_neg h0]
      by_cases h2 : 2 ≤ x.misses
      · rw [if_pos h2, if_pos h2]
      · rw [if_neg h2, if_neg h2]
        simp only [Option.bind_some, s1, xset_nat, List.set_set, iaddS (a := x.misses) (b := 1) (by omega) (by omega)]
        rw [Int.max_eq_left (by omega)])

def missFrom (at_ : Int) : Nat → List Entry → List Entry
  | _, [] => []
  | n, x :: l => (if (n : Int) = at_ then (if 2 ≤ x.misses then [] else [⟨x.peer, max x.misses 0 + 1⟩]) else [x]) ++ missFrom at_ (n + 1) l
theorem missFrom_none {at_ : Int} {l : List Entry} : ∀ {n : Nat}, at_ < n → missFrom at_ n l = l := by
  induction l with
  | nil => intro n h; rfl
  | cons x l ih => intro n h; rw [missFrom, if_neg (by omega), ih (by omega)]; rfl
theorem missFrom_at {l : List Entry} {k : Nat} {x : Entry} : ∀ {n : Nat}, l[k]? = some x → missFrom ((n + k : Nat) : Int) n l = if 2 ≤ x.misses then l.eraseIdx k else l.set k ⟨x.peer, max x.misses 0 + 1⟩ := by
  induction l generalizing k with
  | nil => intro n h; simp at h
  | cons y l ih =>
    intro n h
    rw [missFrom]
    cases k with
    | zero =>
      simp at h; subst h
      rw [if_pos (by simp), missFrom_none (by omega)]
      split <;> simp
    | succ k =>
      rw [if_neg (by omega)]
      have := ih (k := k) (n := n + 1) (by simpa using h)
      rw [show n + 1 + k = n + (k + 1) by omega] at this
      rw [this]
      split <;> simp
theorem missFrom_eq (l : List Entry) (addr : Int) : missFrom (place l addr) 0 l = miss l addr := by
  unfold place fstI miss
  cases hf : fst (isAt addr) l with
  | none => exact missFrom_none (by show (-1 : Int) < _; omega)
  | some n =>
    obtain ⟨x, hx, _⟩ := fst_some hf
    have := missFrom_at (n := 0) hx
    rw [Nat.zero_add] at this
    simp only [hx]; exact this
theorem missFrom_le (at_ : Int) (l : List Entry) : ∀ n, (missFrom at_ n l).length ≤ l.length := by
  induction l with
  | nil => intro n; exact Nat.le_refl _
  | cons x l ih => intro n; rw [missFrom, List.length_append, List.length_cons]; have := ih (n + 1); split <;> (try split) <;> simp <;> omega

theorem r27_Miss_s1_eq {l acc : List Entry} {at_ i id ad m : Int} (ha : acc.length ≤ 1000) (hm : i = at_ → 0 ≤ m) : r27_Miss_s1 l at_ i acc id ad m = some (if i = at_ then (if m < 2 then .inl (at_, i, acc ++ [⟨⟨id, ad⟩, m + 1⟩], id, ad, m + 1) else .inr (at_, i, acc, id, ad, m)) else .inl (at_, i, acc ++ [⟨⟨id, ad⟩, m⟩], id, ad, m)) := r27_Miss_s1_r (by
  have hroom : ∀ e : Entry, xroom eEntry 24 acc [e] = true := fun e => xroom_eq eEntry (by simp; omega) (by omega)
  by_cases hi : i = at_
  · have h0 := hm hi
    subst hi
    have hi : i = i := rfl
    by_cases h2 : m < 2
    · have : r27_Miss_s0 l i i true acc id ad m = some (.inl (i, i, acc, id, ad, m + 1)) := r27_Miss_s0_r (by simp [r27_Miss_s0_b, iaddS (a := m) (b := 1) (by omega) (by omega)])
      simp [r27_Miss_s1_b, ieqT hi, iltT h2, this, hroom, hi, h2]
    · have : r27_Miss_s0 l i i false acc id ad m = some (.inr (i, i, acc, id, ad, m)) := r27_Miss_s0_r (by simp [r27_Miss_s0_b, ieqT hi])
      simp [r27_Miss_s1_b, ieqT hi, iltF h2, this, hi, h2]
  · have : r27_Miss_s0 l at_ i false acc id ad m = some (.inl (at_, i, acc, id, ad, m)) := r27_Miss_s0_r (by simp [r27_Miss_s0_b, ieqF hi])
    simp [r27_Miss_s1_b, ieqF hi, this, hroom, hi])
theorem r27_Miss_eq {l : List Entry} {addr : Int} (hl : l.length ≤ 1000) : r27_Miss l addr = some (miss l addr) := r27_Miss_r (by
  have h := for_list (σ := List Entry) eEntry (l := l) (by omega) (L := fun i acc => r27_Miss_l2 l (place l addr) i acc) (res := fun n acc rest => acc ++ missFrom (place l addr) n rest) (Inv := fun n acc => acc.length ≤ n)
    (fun acc _ h => r27_Miss_l2_r (by simp [r27_Miss_l2_b, h, missFrom]))
    (fun n x rest acc hi hn hx hd h1 h2 h3 ih => r27_Miss_l2_r (by
      have step : ∀ acc' : List Entry, acc'.length ≤ n + 1 → acc' = acc ++ (if (n : Int) = place l addr then (if 2 ≤ x.misses then [] else [⟨x.peer, max x.misses 0 + 1⟩]) else [x]) → r27_Miss_l2 l (place l addr) ((n + 1 : Nat) : Int) acc' = some (acc ++ missFrom (place l addr) n (x :: rest)) := fun acc' hl' e => by
        rw [ih acc' hl', missFrom, e, List.append_assoc]
      simp only [r27_Miss_l2_b, h1, h2, cond_true, Option.bind_some, ieq_dec, ilt_dec, bif_dec]
      by_cases he : (n : Int) = place l addr
      · rw [if_pos he]
        by_cases h0 : x.misses < 0
        · rw [if_pos h0, r27_Miss_s1_eq (by omega) (fun _ => Int.le_refl 0), if_pos he, if_pos (by omega)]
          simp only [Option.bind_some, h3]
          refine step _ (by simp; omega) ?_
          rw [if_pos he, if_neg (by omega), Int.max_eq_right (by omega)]
        · rw [if_neg h0, r27_Miss_s1_eq (by omega) (fun _ => by omega), if_pos he]
          by_cases h2' : x.misses < 2
          · rw [if_pos h2']
            simp only [Option.bind_some, h3]
            refine step _ (by simp; omega) ?_
            rw [if_pos he, if_neg (by omega), Int.max_eq_left (by omega)]
          · rw [if_neg h2']
            simp only [Option.bind_some, h3]
            refine step _ (by omega) ?_
            rw [if_pos he, if_pos (by omega), List.append_nil]
      · rw [if_neg he, r27_Miss_s1_eq (by omega) (fun h => absurd h he), if_neg he]
        simp only [Option.bind_some, h3]
        refine step _ (by simp; omega) ?_
        rw [if_neg he])) [] (by simp)
  simp only [List.nil_append, missFrom_eq] at h
  simp [r27_Miss_b, r27_Place_eq hl, h])

/-! ### Whether they may be -/

theorem ahead_trans {me a b c : Peer} (h1 : ahead me a b = true) (h2 : ahead me b c = true) : ahead me a c = true := by
  simp only [ahead, decide_eq_true_eq] at *
  omega
def RightP (me : Peer) (l : List Entry) : Prop := l.length ≤ 15 ∧ (∀ x, x ∈ l → 0 ≤ x.misses ∧ x.misses < 3 ∧ x.peer.addr ≠ me.addr) ∧ l.Pairwise (fun a b => a.peer.addr ≠ b.peer.addr ∧ ahead me a.peer b.peer = true)

/-- What the program asks of the entry at a place. -/
def rightAt (me : Peer) (l : List Entry) (n : Nat) (x : Entry) : Prop := 0 ≤ x.misses ∧ x.misses < 3 ∧ x.peer.addr ≠ me.addr ∧ place l x.peer.addr = n ∧ ∀ k y, n = k + 1 → l[k]? = some y → ahead me y.peer x.peer = true
theorem place_at {l : List Entry} {n : Nat} {x : Entry} (hx : l[n]? = some x) : place l x.peer.addr = n ↔ ∀ k y, k < n → l[k]? = some y → y.peer.addr ≠ x.peer.addr := by
  unfold place fstI
  obtain ⟨m, hm⟩ := fst_ex (p := isAt x.peer.addr) (l := l) ⟨x, List.mem_of_getElem? hx, by simp [isAt]⟩
  rw [hm]
  obtain ⟨z, hz, hp, hlt, hb⟩ := fst_some hm
  constructor
  · intro h k y hk hy he
    have h' : (m : Int) = n := h
    have := hb k y (by omega) hy
    rw [isAt, decide_eq_false_iff_not] at this
    exact this he
  · intro h
    show (m : Int) = n
    rcases Nat.lt_trichotomy m n with hlt | he | hgt
    · exact absurd (by simpa [isAt] using hp) (h m z hlt hz)
    · rw [he]
    · have := hb n x hgt hx
      simp [isAt] at this
theorem rightAt_iff {me : Peer} {l : List Entry} : (∀ n x, l[n]? = some x → rightAt me l n x) ↔ (∀ x, x ∈ l → 0 ≤ x.misses ∧ x.misses < 3 ∧ x.peer.addr ≠ me.addr) ∧ l.Pairwise (fun a b => a.peer.addr ≠ b.peer.addr ∧ ahead me a.peer b.peer = true) := by
  constructor
  · intro h
    refine ⟨fun x hx => ?_, List.pairwise_iff_getElem.2 fun i j hi hj hij => ?_⟩
    · obtain ⟨n, hn⟩ := List.getElem?_of_mem hx
      obtain ⟨h1, h2, h3, _⟩ := h n x hn
      exact ⟨h1, h2, h3⟩
    · have hj' := h j l[j] (List.getElem?_eq_getElem hj)
      refine ⟨(place_at (List.getElem?_eq_getElem hj)).1 hj'.2.2.2.1 i _ hij (List.getElem?_eq_getElem hi), ?_⟩
      have key : ∀ d (hd : i + 1 + d < l.length), ahead me l[i].peer (l[i + 1 + d]).peer = true := by
        intro d
        induction d with
        | zero => intro hd; exact (h (i + 1) _ (List.getElem?_eq_getElem hd)).2.2.2.2 i _ rfl (List.getElem?_eq_getElem hi)
        | succ d ih =>
          intro hd
          have h1 := ih (by omega)
          have h2 := (h (i + 1 + d + 1) _ (List.getElem?_eq_getElem (by omega))).2.2.2.2 (i + 1 + d) _ rfl (List.getElem?_eq_getElem (by omega))
          exact ahead_trans h1 h2
      have := key (j - (i + 1)) (by omega)
      simpa [show i + 1 + (j - (i + 1)) = j by omega] using this
  · rintro ⟨h1, h2⟩ n x hx
    obtain ⟨a1, a2, a3⟩ := h1 x (List.mem_of_getElem? hx)
    obtain ⟨hn, hxe⟩ := List.getElem?_eq_some_iff.1 hx
    rw [List.pairwise_iff_getElem] at h2
    refine ⟨a1, a2, a3, (place_at hx).2 fun k y hk hy => ?_, fun k y hk hy => ?_⟩
    · obtain ⟨hk', hye⟩ := List.getElem?_eq_some_iff.1 hy
      have := (h2 k n hk' hn hk).1
      rw [hye, hxe] at this; exact this
    · obtain ⟨hk', hye⟩ := List.getElem?_eq_some_iff.1 hy
      have := (h2 k n hk' hn (by omega)).2
      rw [hye, hxe] at this; exact this

theorem peers_Right_eq {me : Peer} {l : List Entry} (hl : l.length ≤ 1000) : peers_Right me l = some (dcd (RightP me l)) := peers_Right_r (by
  have h := all_list eEntry (l := l) (by omega) (p := fun n x => dcd (rightAt me l n x)) (L := fun i => peers_Right_l1 me l i)
    (fun h => peers_Right_l1_r (by simp [peers_Right_l1_b, h]))
    (fun n x r hx h1 h2 hp h => peers_Right_l1_r (by
      obtain ⟨a1, a2, a3, a4, a5⟩ := dcd_iff.1 hp
      have s0 : peers_Right_s0 me l (n : Int) (n : Int) x.peer.id x.peer.addr x.misses = some (.inl ((n : Int), x.peer.id, x.peer.addr, x.misses)) := peers_Right_s0_r (by
        rw [peers_Right_s0_b]
        cases n with
        | zero => rfl
        | succ k =>
          have hk : k < l.length := by have := (List.getElem?_eq_some_iff.1 hx).1; omega
          have hg : xget eEntry l (Ops.std.isub .i64 ((k + 1 : Nat) : Int) 1) = some l[k] := by
            rw [isubS (by omega) (by omega), show ((k + 1 : Nat) : Int) - 1 = (k : Nat) by omega, xget_nat]; exact List.getElem?_eq_getElem hk
          have := a5 k _ rfl (List.getElem?_eq_getElem hk)
          simp only [iltT (show (0 : Int) < ((k + 1 : Nat) : Int) by omega), cond_true, hg, Option.bind_some, peers_Ahead_eq]
          rw [this]; rfl)
      simp only [peers_Right_l1_b, h1, h2, cond_true, Option.bind_some, iltF (show ¬ x.misses < 0 by omega), ileF (show ¬ 3 ≤ x.misses by omega), ieqF a3, cond_false, peers_Place_eq hl, ieqT a4, s0]
      exact h))
    (fun n x hx h1 h2 hp => peers_Right_l1_r (by
      have hp' := dcd_false.1 hp
      simp only [peers_Right_l1_b, h1, h2, cond_true, Option.bind_some, ilt_dec, ile_dec, ieq_dec, bif_dec, peers_Place_eq hl]
      split
      · rfl
      · split
        · rfl
        · split
          · rfl
          · split
            · rename_i b1 b2 b3 b4
              cases n with
              | zero => exact absurd ⟨by omega, by omega, b3, b4, fun k y hk => by omega⟩ hp'
              | succ k =>
                have hk : k < l.length := by have := (List.getElem?_eq_some_iff.1 hx).1; omega
                have hg : xget eEntry l (Ops.std.isub .i64 ((k + 1 : Nat) : Int) 1) = some l[k] := by
                  rw [isubS (by omega) (by omega), show ((k + 1 : Nat) : Int) - 1 = (k : Nat) by omega, xget_nat]; exact List.getElem?_eq_getElem hk
                have ha : ahead me l[k].peer x.peer = false := by
                  cases ha : ahead me l[k].peer x.peer with
                  | false => rfl
                  | true => exact absurd ⟨by omega, by omega, b3, b4, fun k' y hk' hy => by
                      obtain rfl : k = k' := by omega
                      rw [List.getElem?_eq_getElem hk] at hy
                      cases hy; exact ha⟩ hp'
                have s0 : peers_Right_s0 me l ((k + 1 : Nat) : Int) ((k + 1 : Nat) : Int) x.peer.id x.peer.addr x.misses = some (.inr (x.peer.id, x.peer.addr, x.misses)) := peers_Right_s0_r (by
                  rw [peers_Right_s0_b]
                  simp only [iltT (show (0 : Int) < ((k + 1 : Nat) : Int) by omega), cond_true, hg, Option.bind_some, peers_Ahead_eq, ha, cond_false])
                rw [s0]; rfl
            · rfl))
  rw [peers_Right_b, h]
  by_cases hr : ∀ n x, l[n]? = some x → rightAt me l n x
  · have hall : allI (fun n x => dcd (rightAt me l n x)) 0 l = true := allI_iff.2 fun i x hx => dcd_iff.2 (by simpa using hr i x hx)
    rw [hall, cond_true]
    simp only [Option.bind_some]
    congr 1
    rw [xlen_eq, ile_dec]
    exact decide_dcd (by unfold RightP; rw [← rightAt_iff]; exact ⟨fun h => ⟨by omega, hr⟩, fun h => by have := h.1; omega⟩)
  · have hall : allI (fun n x => dcd (rightAt me l n x)) 0 l = false := by
      cases ha : allI (fun n x => dcd (rightAt me l n x)) 0 l with
      | false => rfl
      | true => exact absurd (fun n x hx => by have := allI_iff.1 ha n x hx; rw [dcd_iff] at this; simpa using this) hr
    rw [hall, cond_false, dcd_false.2 (fun h => hr (rightAt_iff.2 h.2))]
    rfl)
end Go.Ab.Try
