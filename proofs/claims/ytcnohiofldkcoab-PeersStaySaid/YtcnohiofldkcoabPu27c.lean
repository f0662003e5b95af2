/- Entries that may be stay so: the law's own call. -/
import Derived.Test.YtcnohiofldkcoabPu27b
import Derived.Test.YtcnohiofldkcoabDt
namespace Go.Ab.Try
open Go Go.Ab Go.Proofs
set_option linter.unusedVariables false
set_option linter.unusedSimpArgs false

theorem peOk {p : Peer} (h : p.Ok) : PeOk p := ⟨h.1.1, by have := h.1.2; omega⟩
theorem enOk {l : List Entry} (h : OkL Entry.Ok l) : EnOk l := fun x hx => peOk (h.1 x hx).1

/-- Of two peers: the first is ahead, and is reached elsewhere. -/
abbrev Heads (me : Peer) (a b : Peer) : Prop := a.addr ≠ b.addr ∧ ahead me a b = true
theorem rightP_iff {me : Peer} {l : List Entry} : RightP me l ↔ l.length ≤ 15 ∧ (∀ x, x ∈ l → 0 ≤ x.misses ∧ x.misses < 3 ∧ x.peer.addr ≠ me.addr) ∧ (l.map Entry.peer).Pairwise (Heads me) := by
  unfold RightP
  rw [List.pairwise_map]
theorem RightP.sub {me : Peer} {l l' : List Entry} (h : RightP me l) (hs : l'.Sublist l) : RightP me l' :=
  ⟨Nat.le_trans hs.length_le h.1, fun x hx => h.2.1 x (hs.subset hx), h.2.2.sublist hs⟩
theorem map_peer_set {l : List Entry} {n : Nat} {x : Entry} (hx : l[n]? = some x) (m : Int) : (l.set n ⟨x.peer, m⟩).map Entry.peer = l.map Entry.peer := by
  rw [List.map_set]
  obtain ⟨hn, rfl⟩ := List.getElem?_eq_some_iff.1 hx
  have : l[n].peer = (l.map Entry.peer)[n]'(by simpa using hn) := by simp
  rw [this, List.set_getElem_self]
theorem RightP.set {me : Peer} {l : List Entry} (h : RightP me l) {n : Nat} {x : Entry} (hx : l[n]? = some x) {m : Int} (h0 : 0 ≤ m) (h3 : m < 3) : RightP me (l.set n ⟨x.peer, m⟩) := by
  rw [rightP_iff] at h ⊢
  refine ⟨by simpa using h.1, fun y hy => ?_, by rw [map_peer_set hx]; exact h.2.2⟩
  rcases List.mem_or_eq_of_mem_set hy with hy | rfl
  · exact h.2.1 y hy
  · exact ⟨h0, h3, (h.2.1 x (List.mem_of_getElem? hx)).2.2⟩
theorem right_drp {me : Peer} {l : List Entry} (h : RightP me l) (addr : Int) : RightP me (drp addr l) := h.sub List.filter_sublist
theorem right_miss {me : Peer} {l : List Entry} (h : RightP me l) (addr : Int) : RightP me (miss l addr) := by
  unfold miss
  split
  · exact h
  · rename_i n hn
    split
    · exact h
    · rename_i x hx
      have := h.2.1 x (List.mem_of_getElem? hx)
      split
      · exact h.sub (List.eraseIdx_sublist _ _)
      · exact h.set hx (by omega) (by omega)
theorem ahead_total {me a b : Peer} (h : ahead me a b = false) (hne : a.addr ≠ b.addr) : ahead me b a = true := by
  simp only [ahead, decide_eq_true_eq, decide_eq_false_iff_not] at *
  omega
theorem ins_mem {me p : Peer} {l : List Entry} {x : Entry} : x ∈ ins me p l ↔ x = ⟨p, 0⟩ ∨ x ∈ l := by
  induction l with
  | nil => simp [ins]
  | cons y l ih =>
    rw [ins]
    cases isAh me p y with
    | true => simp
    | false => simp only [cond_false, List.mem_cons, ih]; constructor <;> (rintro (h | h | h) <;> simp [h])
theorem ins_pair {me p : Peer} {l : List Entry} (h : l.Pairwise (fun a b => a.peer.addr ≠ b.peer.addr ∧ ahead me a.peer b.peer = true)) (hp : ∀ x, x ∈ l → x.peer.addr ≠ p.addr) : (ins me p l).Pairwise (fun a b => a.peer.addr ≠ b.peer.addr ∧ ahead me a.peer b.peer = true) := by
  induction l with
  | nil => simp [ins]
  | cons y l ih =>
    rw [List.pairwise_cons] at h
    rw [ins]
    cases hy : isAh me p y with
    | true =>
      rw [cond_true, List.pairwise_cons]
      refine ⟨fun x hx => ?_, List.pairwise_cons.2 h⟩
      rcases List.mem_cons.1 hx with rfl | hx
      · exact ⟨fun e => hp x (by simp) e.symm, hy⟩
      · exact ⟨fun e => hp x (by simp [hx]) e.symm, ahead_trans hy (h.1 x hx).2⟩
    | false =>
      rw [cond_false, List.pairwise_cons]
      refine ⟨fun x hx => ?_, ih h.2 fun x hx => hp x (by simp [hx])⟩
      rcases ins_mem.1 hx with rfl | hx
      · exact ⟨hp y (by simp), ahead_total hy fun e => hp y (by simp) e.symm⟩
      · exact h.1 x hx
theorem drp_ne {addr : Int} {l : List Entry} : ∀ x, x ∈ drp addr l → x.peer.addr ≠ addr := fun x hx => by
  have := (List.mem_filter.1 hx).2
  simpa [isAt] using this
theorem right_add {me p : Peer} {l : List Entry} (h : RightP me l) : RightP me (add me l p) := by
  have hcut : p.addr ≠ me.addr → RightP me (cut (ins me p (drp p.addr l))) := fun hne => by
    have hd := right_drp h p.addr
    have hlen := ins_len me p (drp p.addr l)
    have hins : (∀ x, x ∈ ins me p (drp p.addr l) → 0 ≤ x.misses ∧ x.misses < 3 ∧ x.peer.addr ≠ me.addr) := fun x hx => by
      rcases ins_mem.1 hx with rfl | hx
      · exact ⟨Int.le_refl 0, by show (0 : Int) < 3; omega, hne⟩
      · exact hd.2.1 x hx
    have hp := ins_pair hd.2.2 (fun x hx => drp_ne x hx)
    have h15 := hd.1
    unfold cut
    split
    · refine ⟨by rw [List.length_take]; omega, fun x hx => hins x (List.mem_of_mem_take hx), hp.sublist (List.take_sublist _ _)⟩
    · exact ⟨by omega, hins, hp⟩
  unfold add
  split
  · exact h
  · rename_i hne
    split
    · exact hcut hne
    · split
      · exact h
      · rename_i x hx
        split
        · exact h.set hx (Int.le_refl 0) (by omega)
        · exact hcut hne

theorem place_neg {l : List Entry} {addr : Int} : place l addr < 0 ↔ ∀ x, x ∈ l → x.peer.addr ≠ addr := by
  unfold place fstI
  cases hf : fst (isAt addr) l with
  | none =>
    refine ⟨fun _ x hx => ?_, fun _ => by show (-1 : Int) < 0; omega⟩
    simpa [isAt] using fst_none hf x hx
  | some n =>
    obtain ⟨x, hx, hp, _⟩ := fst_some hf
    refine ⟨fun h => by have h : (n : Int) < 0 := h; omega, fun h => absurd (by simpa [isAt] using hp) (h x (List.mem_of_getElem? hx))⟩
theorem place_get {l : List Entry} {addr : Int} (h : ¬ place l addr < 0) : ∃ n : Nat, place l addr = n ∧ ∃ x, l[n]? = some x ∧ x.peer.addr = addr := by
  unfold place fstI at h ⊢
  cases hf : fst (isAt addr) l with
  | none => rw [hf] at h; exact absurd (show (-1 : Int) < 0 by omega) h
  | some n =>
    obtain ⟨x, hx, hp, _⟩ := fst_some hf
    exact ⟨n, rfl, x, hx, by simpa [isAt] using hp⟩

/-- Who was added: there, and firm, or behind 15 others. -/
theorem added {me p : Peer} {l : List Entry} (h : RightP me l) (hne : p.addr ≠ me.addr) :
    (place (add me l p) p.addr < 0 → (add me l p).length = 15 ∧ ∃ x, (add me l p)[14]? = some x ∧ ahead me x.peer p = true) ∧
    (∀ (n : Nat) (x : Entry), (add me l p)[n]? = some x → x.peer.addr = p.addr → x = ⟨p, 0⟩) := by
  have hd := right_drp h p.addr
  have hlen := ins_len me p (drp p.addr l)
  have hp := ins_pair hd.2.2 (fun x hx => drp_ne x hx)
  have h15 := hd.1
  have hcut : (place (cut (ins me p (drp p.addr l))) p.addr < 0 → (cut (ins me p (drp p.addr l))).length = 15 ∧ ∃ x, (cut (ins me p (drp p.addr l)))[14]? = some x ∧ ahead me x.peer p = true) ∧
      (∀ (n : Nat) (x : Entry), (cut (ins me p (drp p.addr l)))[n]? = some x → x.peer.addr = p.addr → x = ⟨p, 0⟩) := by
    constructor
    · intro hneg
      rw [place_neg] at hneg
      have hmem : (⟨p, 0⟩ : Entry) ∈ ins me p (drp p.addr l) := ins_mem.2 (.inl rfl)
      unfold cut at hneg ⊢
      by_cases hgt : 15 < (ins me p (drp p.addr l)).length
      · rw [if_pos hgt] at hneg ⊢
        obtain ⟨i, hi, hie⟩ := List.getElem_of_mem hmem
        have hi15 : i = 15 := by
          rcases Nat.lt_or_ge i 15 with hlt | hge
          · have : (⟨p, 0⟩ : Entry) ∈ (ins me p (drp p.addr l)).take ((ins me p (drp p.addr l)).length - 1) := by
              rw [← hie, List.mem_take_iff_getElem]
              exact ⟨i, by omega, rfl⟩
            exact absurd rfl (hneg _ this)
          · omega
        subst hi15
        have h14 : 14 < (ins me p (drp p.addr l)).length := by omega
        refine ⟨by rw [List.length_take]; omega, (ins me p (drp p.addr l))[14], ?_, ?_⟩
        · rw [List.getElem?_take, if_pos (by omega)]; exact List.getElem?_eq_getElem h14
        · have := (List.pairwise_iff_getElem.1 hp 14 15 h14 hi (by omega)).2
          rw [hie] at this; exact this
      · rw [if_neg hgt] at hneg
        exact absurd rfl (hneg _ hmem)
    · intro n x hx he
      have hx' : x ∈ ins me p (drp p.addr l) := by
        have := List.mem_of_getElem? hx
        unfold cut at this
        split at this
        · exact List.mem_of_mem_take this
        · exact this
      rcases ins_mem.1 hx' with rfl | hx'
      · rfl
      · exact absurd he (drp_ne x hx')
  unfold add
  rw [if_neg hne]
  cases hf : fst (isAt p.addr) l with
  | none => exact hcut
  | some n =>
    obtain ⟨x, hx, hpx, hn, hb⟩ := fst_some hf
    simp only [hx]
    by_cases hxp : x.peer = p
    · rw [if_pos hxp]
      constructor
      · intro hneg
        rw [place_neg] at hneg
        exact absurd (show (⟨x.peer, 0⟩ : Entry).peer.addr = p.addr by rw [hxp]) (hneg _ (List.mem_set hn _))
      · intro m y hy he
        by_cases hmn : n = m
        · subst hmn
          simp only [List.getElem?_set_self hn] at hy
          cases hy; rw [hxp]
        · rw [List.getElem?_set_ne hmn] at hy
          obtain ⟨hm', hye⟩ := List.getElem?_eq_some_iff.1 hy
          obtain ⟨hn', hxe⟩ := List.getElem?_eq_some_iff.1 hx
          have hw := List.pairwise_iff_getElem.1 h.2.2
          rcases Nat.lt_or_gt_of_ne hmn with hlt | hgt
          · have := (hw n m hn' hm' hlt).1
            rw [hxe, hye, hxp, he] at this; exact absurd rfl this
          · have := (hw m n hm' hn' hgt).1
            rw [hxe, hye, hxp, he] at this; exact absurd rfl this
    · rw [if_neg hxp]; exact hcut

theorem law27c (me p : Peer) (l : List Entry) : w27_PeersStay me l p = some true := w27_PeersStay_r (by
  rw [w27_PeersStay_b, xlen_eq]
  by_cases h60 : 60 < l.length
  · rw [iltT (by omega), cond_true, awake27]; rfl
  rw [iltF (by omega), cond_false, peers_Right_eq (by omega)]
  simp only [Option.bind_some]
  by_cases hr : RightP me l
  · rw [dcd_iff.2 hr, cond_true]
    have ra := right_add (p := p) hr
    have rm := right_miss hr p.addr
    have rd := right_drp hr p.addr
    have la := ra.1
    have s0 : ∃ r2, w27_PeersStay_s0 me l p (add me l p) (drp p.addr l) = some (.inl (true, r2)) ∨ ∃ r3, w27_PeersStay_s0 me l p (add me l p) (drp p.addr l) = some (.inr (true, r2, r3)) := by
      refine ⟨drp p.addr l, ?_⟩
      by_cases hme : p.addr = me.addr
      · refine .inl (w27_PeersStay_s0_r ?_)
        have ha : add me l p = l := by unfold add; rw [if_pos hme]
        have hneg : place l p.addr < 0 := place_neg.2 fun x hx => by rw [hme]; exact (hr.2.1 x hx).2.2
        simp only [w27_PeersStay_s0_b, ha, peers_Place_eq (l := l) (addr := p.addr) (by omega), Option.bind_some, ieqT hme, cond_true, iltT hneg, r27_Same_eq (a := l) (b := l) (by omega), eqb_self, awake27]
      · obtain ⟨h1, h2⟩ := added hr hme
        by_cases hneg : place (add me l p) p.addr < 0
        · refine .inl (w27_PeersStay_s0_r ?_)
          obtain ⟨h15, x, hx, hax⟩ := h1 hneg
          have hg : xget eEntry (add me l p) 14 = some x := (xget_nat eEntry _ 14).trans hx
          simp only [w27_PeersStay_s0_b, peers_Place_eq (l := add me l p) (addr := p.addr) (by omega), Option.bind_some, ieqF hme, cond_false, iltT hneg, cond_true, xlen_eq, ieqT (show ((add me l p).length : Int) = 15 by omega), hg, peers_Ahead_eq, hax, awake27]
        · refine .inr ⟨drp p.addr (add me l p), w27_PeersStay_s0_r ?_⟩
          obtain ⟨n, hn, x, hx, hxa⟩ := place_get hneg
          have hxe := h2 n x hx hxa
          subst hxe
          have hg : xget eEntry (add me l p) (place (add me l p) p.addr) = some ⟨p, 0⟩ := by rw [hn, xget_nat, hx]
          have hd0 : place (drp p.addr (add me l p)) p.addr < 0 := place_neg.2 fun x hx => drp_ne x hx
          have hdl := drp_le p.addr (add me l p)
          simp only [w27_PeersStay_s0_b, peers_Place_eq (l := add me l p) (addr := p.addr) (by omega), Option.bind_some, ieqF hme, cond_false, iltF hneg, hg, ieqT rfl, cond_true, peers_Drop_eq (l := add me l p) (addr := p.addr) (by omega), peers_Place_eq (l := drp p.addr (add me l p)) (addr := p.addr) (by omega), iltT hd0, awake27]
    have s1 : ∃ o, w27_PeersStay_s1 me l p = some o ∧ ((∃ a, o = .inl (true, a)) ∨ ∃ a b, o = .inr (.inl (true, a, b))) := by
      have pre : ∀ o r, w27_PeersStay_s0 me l p (add me l p) (drp p.addr l) = some r → (match r with | .inl (t6, r2) => some (Sum.inl (t6, r2)) | .inr (t6, r2, r3) => some (.inr (.inl (t6, r2, r3)))) = some o → w27_PeersStay_s1 me l p = some o := fun o r h1 h2 => w27_PeersStay_s1_r (by
        have := rm.1; have := rd.1
        simp only [w27_PeersStay_s1_b, peers_Add_eq (me := me) (p := p) (l := l) (by omega), peers_Right_eq (me := me) (l := add me l p) (by omega), dcd_iff.2 ra, peers_Miss_eq (l := l) (addr := p.addr) (by omega), peers_Right_eq (me := me) (l := miss l p.addr) (by omega), dcd_iff.2 rm, peers_Drop_eq (l := l) (addr := p.addr) (by omega), peers_Right_eq (me := me) (l := drp p.addr l) (by omega), dcd_iff.2 rd, Option.bind_some, cond_true, h1]
        exact h2)
      obtain ⟨r2, h | ⟨r3, h⟩⟩ := s0
      · exact ⟨_, pre _ _ h rfl, .inl ⟨_, rfl⟩⟩
      · exact ⟨_, pre _ _ h rfl, .inr ⟨_, _, rfl⟩⟩
    obtain ⟨o, ho, ⟨a, rfl⟩ | ⟨a, b, rfl⟩⟩ := s1
    · rw [ho]; rfl
    · rw [ho]; rfl
  · rw [dcd_false.2 hr, cond_false, awake27]; rfl)
end Go.Ab.Try
