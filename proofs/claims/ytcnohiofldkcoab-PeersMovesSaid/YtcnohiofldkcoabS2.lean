/- What each function comes to, and that its call does: printed by a program. -/
import Derived.Test.YtcnohiofldkcoabS0
namespace Go.Ab.Try
open Go Go.Ab Go.Proofs
set_option linter.unusedVariables false
set_option linter.unusedSimpArgs false
set_option maxRecDepth 10000


noncomputable def peers_Miss_s0_x (γ : Nat → Nat) : (List Entry) ⊕ (Int × (List Entry)) → X × St
  | .inl a0 => (.ret, ⟨bd 4 (.sl 1 ((γ 1)) :: bd 40 []), [.row 41 (γ 0) false (List.map eEntry []), .row 41 (γ 1) false (List.map eEntry a0)]⟩)
  | .inr (b0, b1) => (.nor, ⟨bd 5 (.sl 1 ((γ 1)) :: vI b0 :: bd 38 []), [.row 41 (γ 0) false (List.map eEntry []), .row 41 (γ 1) false (List.map eEntry b1)]⟩)
instance : InjS peers_Miss_s0_x := ⟨fun γ γ' x y h => by
  rcases x with a0 | ⟨b0, b1⟩ <;> rcases y with a0' | ⟨b0', b1'⟩ <;> simp only [peers_Miss_s0_x, Prod.mk.injEq, St.mk.injEq, List.cons.injEq, AV.sc.injEq, AV.agg.injEq, AV.tup.injEq, AV.lit.injEq, AV.sl.injEq, AV.sub.injEq, AV.rptr.injEq, AV.lptr.injEq, AV.bptr.injEq, AV.fn.injEq, Ent.box.injEq, Ent.row.injEq, Value.int.injEq, Value.bool.injEq, Value.string.injEq, bd_inj, map_iff, eL_iff, and_true, true_and, and_assoc, reduceCtorEq, false_and, and_false, ePeer_iff, eEntry_iff] at h <;> simp_all⟩
noncomputable def peers_Miss_s0 (i : Int) (r1 : List Entry) : Option ((List Entry) ⊕ (Int × (List Entry))) := asks (fun γ => (lim F pr).seg [6, 5] b11_0 ⟨bd 5 (.sl 1 ((γ 1)) :: vI i :: bd 38 []), [.row 41 (γ 0) false (List.map eEntry []), .row 41 (γ 1) false (List.map eEntry r1)]⟩) peers_Miss_s0_x
noncomputable def peers_Miss_s0_b (i : Int) (r1 : List Entry) : Option ((List Entry) ⊕ (Int × (List Entry))) :=
  (xget eEntry r1 i).bind fun x =>
  bif Ops.std.ile 2 x.misses then
    (Delete_Entry i (Ops.std.iadd .i64 i 1) r1).bind fun r0 =>
    some (.inl r0)
  else
    some (.inr (i, r1))
theorem peers_Miss_s0_r {i : Int} {r1 : List Entry} {r : (List Entry) ⊕ (Int × (List Entry))} (h : peers_Miss_s0_b i r1 = some r) : peers_Miss_s0 i r1 = some r := by
  unfold peers_Miss_s0_b at h
  refine asks_of fun γ => ?_
  replace h := bind_some h; obtain ⟨x, h1, h⟩ := h
  replace h1 := ask_some h1
  replace h := cond_some h; rcases h with ⟨h2, h⟩ | ⟨h2, h⟩
  replace h := bind_some h; obtain ⟨r3, h3, h⟩ := h
  replace h3 := asks_some h3 (gam [(γ 1)]); obtain ⟨γ1, h3⟩ := h3
  obtain r0 := r3
  cases h; refine ⟨gam [(γ 0), (γ1 0)], seg_lim ?_⟩
  rotate_left
  cases h; refine ⟨gam [(γ 0), (γ 1)], seg_lim ?_⟩
  rotate_left
  all_goals (try dsimp only [bd, gam, xlen, xget, xsub, xroom, xsget, xssub, xsapp, eL, Delete_Entry_e, peers_Miss_s0_x, ePeer, eEntry] at *)
  all_goals (try simp only [map_app, map_set, map_put, map_fil, List.map_cons, List.map_nil] at *)
  all_goals (try dsimp only [ePeer, eEntry] at *)
  all_goals (show Ifc.apart ⟨Ops.std, (lim F pr).call, (lim F pr).loop, pr, (lim F pr).seg⟩ _ b11_0F _ = _)
  all_goals (generalize (lim F pr).call = call at *; generalize (lim F pr).loop = loop at *; generalize (lim F pr).seg = seg at *; try generalize List.map eEntry = m0 at *; try generalize List.map ePeer = m1 at *; generalize Ops.std = o at *; cases o; try dsimp only at *)
  all_goals (repeat ((try cbv); first | rw [h0] | rw [h1] | rw [h2] | rw [h3]))
  all_goals (try cbv)

noncomputable def peers_Miss_b (l : List Entry) (addr : Int) : Option ((List Entry)) :=
  bif xroom eEntry 24 [] l then
    (peers_Place l addr).bind fun res =>
    bif Ops.std.ilt res 0 then some l else
    (xget eEntry l res).bind fun x =>
    bif Ops.std.ilt x.misses 0 then
      (peers_Miss_s0 res (xset l res (⟨x.peer, 0⟩ : Entry))).bind fun r => match r with
        | .inl r1 =>
          some r1
        | .inr (i, r1) =>
          (xget eEntry r1 i).bind fun x1 =>
          some (xset r1 i (⟨x1.peer, Ops.std.iadd .i64 x1.misses 1⟩ : Entry))
    else
      (peers_Miss_s0 res (xset l res x)).bind fun r => match r with
        | .inl r1 =>
          some r1
        | .inr (i, r1) =>
          (xget eEntry r1 i).bind fun x1 =>
          some (xset r1 i (⟨x1.peer, Ops.std.iadd .i64 x1.misses 1⟩ : Entry))
  else
    none
theorem peers_Miss_r {l : List Entry} {addr : Int} {r : (List Entry)} (h : peers_Miss_b l addr = some r) : peers_Miss l addr = some r := by
  unfold peers_Miss_b at h
  refine ask_of ?_
  replace h := need_some h; obtain ⟨h1, h⟩ := h
  replace h := bind_some h; obtain ⟨r2, h2, h⟩ := h
  replace h2 := ask_some h2
  obtain res := r2
  replace h := cond_some h; rcases h with ⟨h3, h⟩ | ⟨h3, h⟩
  cases h; refine call_lim rfl ?_
  rotate_left
  replace h := bind_some h; obtain ⟨x, h4, h⟩ := h
  replace h4 := ask_some h4
  replace h := cond_some h; rcases h with ⟨h5, h⟩ | ⟨h5, h⟩
  replace h := bind_some h; obtain ⟨r6, h6, h⟩ := h
  replace h6 := asks_some h6 (gam [0, 0]); obtain ⟨γ2, h6⟩ := h6
  rcases r6 with r1 | ⟨i, r1⟩
  cases h; refine call_lim rfl ?_
  rotate_left
  replace h := bind_some h; obtain ⟨x1, h7, h⟩ := h
  replace h7 := ask_some h7
  cases h; refine call_lim rfl ?_
  rotate_left
  replace h := bind_some h; obtain ⟨r6, h6, h⟩ := h
  replace h6 := asks_some h6 (gam [0, 0]); obtain ⟨γ2, h6⟩ := h6
  rcases r6 with r1 | ⟨i, r1⟩
  cases h; refine call_lim rfl ?_
  rotate_left
  replace h := bind_some h; obtain ⟨x1, h7, h⟩ := h
  replace h7 := ask_some h7
  cases h; refine call_lim rfl ?_
  rotate_left
  all_goals (try dsimp only [bd, gam, xlen, xget, xsub, xroom, xsget, xssub, xsapp, eL, R1, peers_Miss_s0_x, ePeer, eEntry] at *)
  all_goals (try simp only [map_app, map_set, map_put, map_fil, List.map_cons, List.map_nil] at *)
  all_goals (try dsimp only [ePeer, eEntry] at *)
  all_goals (show runFn ⟨Ops.std, (lim F pr).call, (lim F pr).loop, pr, (lim F pr).seg⟩ (g11F b11_0) _ _ = _)
  all_goals (generalize (lim F pr).call = call at *; generalize (lim F pr).loop = loop at *; generalize (lim F pr).seg = seg at *; generalize b11_0 = c0 at *; try generalize List.map eEntry = m0 at *; try generalize List.map ePeer = m1 at *; generalize Ops.std = o at *; cases o; try dsimp only at *)
  all_goals (repeat ((try cbv); first | rw [h1] | rw [h2] | rw [h3] | rw [h4] | rw [h5] | rw [h6] | rw [h7]))
  all_goals (try cbv)

noncomputable def r27_Miss_l2_x (γ : Nat → Nat) : (List Entry) → X × St
  | a0 => (.brk 0, ⟨bd 6 (.sl 1 ((γ 1)) :: bd 44 []), [.row 41 (γ 0) false (List.map eEntry []), .row 41 (γ 1) false (List.map eEntry a0)]⟩)
instance : InjS r27_Miss_l2_x := ⟨fun γ γ' x y h => by
  rcases x with a0 <;> rcases y with a0' <;> simp only [r27_Miss_l2_x, Prod.mk.injEq, St.mk.injEq, List.cons.injEq, AV.sc.injEq, AV.agg.injEq, AV.tup.injEq, AV.lit.injEq, AV.sl.injEq, AV.sub.injEq, AV.rptr.injEq, AV.lptr.injEq, AV.bptr.injEq, AV.fn.injEq, Ent.box.injEq, Ent.row.injEq, Value.int.injEq, Value.bool.injEq, Value.string.injEq, bd_inj, map_iff, eL_iff, and_true, true_and, and_assoc, reduceCtorEq, false_and, and_false, ePeer_iff, eEntry_iff] at h <;> simp_all⟩
noncomputable def r27_Miss_l2 (l : List Entry) (at_ : Int) (i : Int) (r1 : List Entry) : Option ((List Entry)) := asks (fun γ => (lim F pr).loop [0, 5, 7, 6] 2 b12_2 ⟨.lit 41 false (List.map eEntry l) :: bd 4 (vI at_ :: .sl 1 ((γ 1)) :: vI i :: bd 43 []), [.row 41 (γ 0) false (List.map eEntry []), .row 41 (γ 1) false (List.map eEntry r1)]⟩) r27_Miss_l2_x
noncomputable def r27_Miss_s1_x (l : List Entry) (γ : Nat → Nat) : (Int × Int × (List Entry) × Int × Int × Int) ⊕ (Int × Int × (List Entry) × Int × Int × Int) → X × St
  | .inl (a0, a1, a2, a3, a4, a5) => (.nor, ⟨.lit 41 false (List.map eEntry l) :: bd 4 (vI a0 :: .sl 1 ((γ 1)) :: vI a1 :: bd 43 []), [.row 41 (γ 0) false (List.map eEntry []), .row 41 (γ 1) false (List.map eEntry a2), .box 41 [vU a3, vH a4, vI a5]]⟩)
  | .inr (b0, b1, b2, b3, b4, b5) => (.brk 1, ⟨.lit 41 false (List.map eEntry l) :: bd 4 (vI b0 :: .sl 1 ((γ 1)) :: vI b1 :: bd 43 []), [.row 41 (γ 0) false (List.map eEntry []), .row 41 (γ 1) false (List.map eEntry b2), .box 41 [vU b3, vH b4, vI b5]]⟩)
instance {l : List Entry} : InjS (r27_Miss_s1_x l) := ⟨fun γ γ' x y h => by
  rcases x with ⟨a0, a1, a2, a3, a4, a5⟩ | ⟨b0, b1, b2, b3, b4, b5⟩ <;> rcases y with ⟨a0', a1', a2', a3', a4', a5'⟩ | ⟨b0', b1', b2', b3', b4', b5'⟩ <;> simp only [r27_Miss_s1_x, Prod.mk.injEq, St.mk.injEq, List.cons.injEq, AV.sc.injEq, AV.agg.injEq, AV.tup.injEq, AV.lit.injEq, AV.sl.injEq, AV.sub.injEq, AV.rptr.injEq, AV.lptr.injEq, AV.bptr.injEq, AV.fn.injEq, Ent.box.injEq, Ent.row.injEq, Value.int.injEq, Value.bool.injEq, Value.string.injEq, bd_inj, map_iff, eL_iff, and_true, true_and, and_assoc, reduceCtorEq, false_and, and_false, ePeer_iff, eEntry_iff] at h <;> simp_all⟩
noncomputable def r27_Miss_s1 (l : List Entry) (at_ : Int) (i : Int) (r1 : List Entry) (b2_peer_id : Int) (b2_peer_addr : Int) (b2_misses : Int) : Option ((Int × Int × (List Entry) × Int × Int × Int) ⊕ (Int × Int × (List Entry) × Int × Int × Int)) := asks (fun γ => (lim F pr).seg [7, 0, 5, 6] b12_1 ⟨.lit 41 false (List.map eEntry l) :: bd 4 (vI at_ :: .sl 1 ((γ 1)) :: vI i :: .bptr 2 0 :: bd 42 []), [.row 41 (γ 0) false (List.map eEntry []), .row 41 (γ 1) false (List.map eEntry r1), .box 41 [vU b2_peer_id, vH b2_peer_addr, vI b2_misses]]⟩) (r27_Miss_s1_x l)
noncomputable def r27_Miss_s0_x (l : List Entry) (γ : Nat → Nat) : (Int × Int × (List Entry) × Int × Int × Int) ⊕ (Int × Int × (List Entry) × Int × Int × Int) → X × St
  | .inl (a0, a1, a2, a3, a4, a5) => (.nor, ⟨.lit 41 false (List.map eEntry l) :: bd 4 (vI a0 :: .sl 1 ((γ 1)) :: vI a1 :: .bptr 2 0 :: bd 42 []), [.row 41 (γ 0) false (List.map eEntry []), .row 41 (γ 1) false (List.map eEntry a2), .box 41 [vU a3, vH a4, vI a5]]⟩)
  | .inr (b0, b1, b2, b3, b4, b5) => (.brk 1, ⟨.lit 41 false (List.map eEntry l) :: bd 4 (vI b0 :: .sl 1 ((γ 1)) :: vI b1 :: bd 43 []), [.row 41 (γ 0) false (List.map eEntry []), .row 41 (γ 1) false (List.map eEntry b2), .box 41 [vU b3, vH b4, vI b5]]⟩)
instance {l : List Entry} : InjS (r27_Miss_s0_x l) := ⟨fun γ γ' x y h => by
  rcases x with ⟨a0, a1, a2, a3, a4, a5⟩ | ⟨b0, b1, b2, b3, b4, b5⟩ <;> rcases y with ⟨a0', a1', a2', a3', a4', a5'⟩ | ⟨b0', b1', b2', b3', b4', b5'⟩ <;> simp only [r27_Miss_s0_x, Prod.mk.injEq, St.mk.injEq, List.cons.injEq, AV.sc.injEq, AV.agg.injEq, AV.tup.injEq, AV.lit.injEq, AV.sl.injEq, AV.sub.injEq, AV.rptr.injEq, AV.lptr.injEq, AV.bptr.injEq, AV.fn.injEq, Ent.box.injEq, Ent.row.injEq, Value.int.injEq, Value.bool.injEq, Value.string.injEq, bd_inj, map_iff, eL_iff, and_true, true_and, and_assoc, reduceCtorEq, false_and, and_false, ePeer_iff, eEntry_iff] at h <;> simp_all⟩
noncomputable def r27_Miss_s0 (l : List Entry) (at_ : Int) (i : Int) (t38 : Bool) (r1 : List Entry) (b2_peer_id : Int) (b2_peer_addr : Int) (b2_misses : Int) : Option ((Int × Int × (List Entry) × Int × Int × Int) ⊕ (Int × Int × (List Entry) × Int × Int × Int)) := asks (fun γ => (lim F pr).seg [6, 8, 7, 0, 5] b12_0 ⟨.lit 41 false (List.map eEntry l) :: bd 4 (vI at_ :: .sl 1 ((γ 1)) :: vI i :: .bptr 2 0 :: bd 29 (vF t38 :: bd 12 [])), [.row 41 (γ 0) false (List.map eEntry []), .row 41 (γ 1) false (List.map eEntry r1), .box 41 [vU b2_peer_id, vH b2_peer_addr, vI b2_misses]]⟩) (r27_Miss_s0_x l)
noncomputable def r27_Miss_l2_b (l : List Entry) (at_ : Int) (i : Int) (r1 : List Entry) : Option ((List Entry)) :=
  bif Ops.std.ilt i (xlen eEntry l) then
    (xget eEntry l i).bind fun x =>
    bif Ops.std.ieq i at_ then
      bif Ops.std.ilt x.misses 0 then
        (r27_Miss_s1 l at_ i r1 x.peer.id x.peer.addr 0).bind fun r => match r with
          | .inl (at_1, i1, r11, b2_peer_id, b2_peer_addr, b2_misses) =>
            r27_Miss_l2 l at_1 (Ops.std.iadd .i64 i1 1) r11
          | .inr (at_1, i1, r11, b2_peer_id, b2_peer_addr, b2_misses) =>
            r27_Miss_l2 l at_1 (Ops.std.iadd .i64 i1 1) r11
      else
        (r27_Miss_s1 l at_ i r1 x.peer.id x.peer.addr x.misses).bind fun r => match r with
          | .inl (at_1, i1, r11, b2_peer_id, b2_peer_addr, b2_misses) =>
            r27_Miss_l2 l at_1 (Ops.std.iadd .i64 i1 1) r11
          | .inr (at_1, i1, r11, b2_peer_id, b2_peer_addr, b2_misses) =>
            r27_Miss_l2 l at_1 (Ops.std.iadd .i64 i1 1) r11
    else
      (r27_Miss_s1 l at_ i r1 x.peer.id x.peer.addr x.misses).bind fun r => match r with
        | .inl (at_1, i1, r11, b2_peer_id, b2_peer_addr, b2_misses) =>
          r27_Miss_l2 l at_1 (Ops.std.iadd .i64 i1 1) r11
        | .inr (at_1, i1, r11, b2_peer_id, b2_peer_addr, b2_misses) =>
          r27_Miss_l2 l at_1 (Ops.std.iadd .i64 i1 1) r11
  else
    some r1
theorem r27_Miss_l2_r {l : List Entry} {at_ : Int} {i : Int} {r1 : List Entry} {r : (List Entry)} (h : r27_Miss_l2_b l at_ i r1 = some r) : r27_Miss_l2 l at_ i r1 = some r := by
  unfold r27_Miss_l2_b at h
  refine asks_of fun γ => ?_
  replace h := cond_some h; rcases h with ⟨h1, h⟩ | ⟨h1, h⟩
  replace h := bind_some h; obtain ⟨x, h2, h⟩ := h
  replace h2 := ask_some h2
  replace h := cond_some h; rcases h with ⟨h3, h⟩ | ⟨h3, h⟩
  replace h := cond_some h; rcases h with ⟨h4, h⟩ | ⟨h4, h⟩
  replace h := bind_some h; obtain ⟨r5, h5, h⟩ := h
  replace h5 := asks_some h5 (gam [(γ 0), (γ 1)]); obtain ⟨γ1, h5⟩ := h5
  rcases r5 with ⟨at_1, i1, r11, b2_peer_id, b2_peer_addr, b2_misses⟩ | ⟨at_1, i1, r11, b2_peer_id, b2_peer_addr, b2_misses⟩
  replace h := asks_some h (gam [(γ1 0), (γ1 1)]); obtain ⟨γ', h0⟩ := h; refine ⟨γ', round_lim ?_⟩
  rotate_left
  replace h := asks_some h (gam [(γ1 0), (γ1 1)]); obtain ⟨γ', h0⟩ := h; refine ⟨γ', round_lim ?_⟩
  rotate_left
  replace h := bind_some h; obtain ⟨r5, h5, h⟩ := h
  replace h5 := asks_some h5 (gam [(γ 0), (γ 1)]); obtain ⟨γ1, h5⟩ := h5
  rcases r5 with ⟨at_1, i1, r11, b2_peer_id, b2_peer_addr, b2_misses⟩ | ⟨at_1, i1, r11, b2_peer_id, b2_peer_addr, b2_misses⟩
  replace h := asks_some h (gam [(γ1 0), (γ1 1)]); obtain ⟨γ', h0⟩ := h; refine ⟨γ', round_lim ?_⟩
  rotate_left
  replace h := asks_some h (gam [(γ1 0), (γ1 1)]); obtain ⟨γ', h0⟩ := h; refine ⟨γ', round_lim ?_⟩
  rotate_left
  replace h := bind_some h; obtain ⟨r4, h4, h⟩ := h
  replace h4 := asks_some h4 (gam [(γ 0), (γ 1)]); obtain ⟨γ1, h4⟩ := h4
  rcases r4 with ⟨at_1, i1, r11, b2_peer_id, b2_peer_addr, b2_misses⟩ | ⟨at_1, i1, r11, b2_peer_id, b2_peer_addr, b2_misses⟩
  replace h := asks_some h (gam [(γ1 0), (γ1 1)]); obtain ⟨γ', h0⟩ := h; refine ⟨γ', round_lim ?_⟩
  rotate_left
  replace h := asks_some h (gam [(γ1 0), (γ1 1)]); obtain ⟨γ', h0⟩ := h; refine ⟨γ', round_lim ?_⟩
  rotate_left
  cases h; refine ⟨gam [(γ 0), (γ 1)], round_lim ?_⟩
  rotate_left
  all_goals (try dsimp only [bd, gam, xlen, xget, xsub, xroom, xsget, xssub, xsapp, eL, r27_Miss_l2_x, r27_Miss_s1_x, ePeer, eEntry] at *)
  all_goals (try simp only [map_app, map_set, map_put, map_fil, List.map_cons, List.map_nil] at *)
  all_goals (try dsimp only [ePeer, eEntry] at *)
  all_goals (show roundAs ⟨Ops.std, (lim F pr).call, (lim F pr).loop, pr, (lim F pr).seg⟩ _ _ b12_2 (b12_2F b12_1) _ = _)
  all_goals (generalize (lim F pr).call = call at *; generalize (lim F pr).loop = loop at *; generalize (lim F pr).seg = seg at *; generalize b12_2 = c0 at *; generalize b12_1 = c1 at *; try generalize List.map eEntry = m0 at *; try generalize List.map ePeer = m1 at *; generalize Ops.std = o at *; cases o; try dsimp only at *)
  all_goals (repeat ((try cbv); first | rw [h0] | rw [h1] | rw [h2] | rw [h3] | rw [h4] | rw [h5]))
  all_goals (try cbv)

noncomputable def r27_Miss_s1_b (l : List Entry) (at_ : Int) (i : Int) (r1 : List Entry) (b2_peer_id : Int) (b2_peer_addr : Int) (b2_misses : Int) : Option ((Int × Int × (List Entry) × Int × Int × Int) ⊕ (Int × Int × (List Entry) × Int × Int × Int)) :=
  bif Ops.std.ieq i at_ then
    (r27_Miss_s0 l at_ i (Ops.std.ilt b2_misses 2) r1 b2_peer_id b2_peer_addr b2_misses).bind fun r => match r with
      | .inl (at_1, i1, r11, b2_peer_id1, b2_peer_addr1, b2_misses1) =>
        bif xroom eEntry 24 r11 [(⟨(⟨b2_peer_id1, b2_peer_addr1⟩ : Peer), b2_misses1⟩ : Entry)] then
          some (.inl (at_1, i1, (r11 ++ [(⟨(⟨b2_peer_id1, b2_peer_addr1⟩ : Peer), b2_misses1⟩ : Entry)]), b2_peer_id1, b2_peer_addr1, b2_misses1))
        else
          none
      | .inr (at_1, i1, r11, b2_peer_id1, b2_peer_addr1, b2_misses1) =>
        some (.inr (at_1, i1, r11, b2_peer_id1, b2_peer_addr1, b2_misses1))
  else
    (r27_Miss_s0 l at_ i false r1 b2_peer_id b2_peer_addr b2_misses).bind fun r => match r with
      | .inl (at_1, i1, r11, b2_peer_id1, b2_peer_addr1, b2_misses1) =>
        bif xroom eEntry 24 r11 [(⟨(⟨b2_peer_id1, b2_peer_addr1⟩ : Peer), b2_misses1⟩ : Entry)] then
          some (.inl (at_1, i1, (r11 ++ [(⟨(⟨b2_peer_id1, b2_peer_addr1⟩ : Peer), b2_misses1⟩ : Entry)]), b2_peer_id1, b2_peer_addr1, b2_misses1))
        else
          none
      | .inr (at_1, i1, r11, b2_peer_id1, b2_peer_addr1, b2_misses1) =>
        some (.inr (at_1, i1, r11, b2_peer_id1, b2_peer_addr1, b2_misses1))
theorem r27_Miss_s1_r {l : List Entry} {at_ : Int} {i : Int} {r1 : List Entry} {b2_peer_id : Int} {b2_peer_addr : Int} {b2_misses : Int} {r : (Int × Int × (List Entry) × Int × Int × Int) ⊕ (Int × Int × (List Entry) × Int × Int × Int)} (h : r27_Miss_s1_b l at_ i r1 b2_peer_id b2_peer_addr b2_misses = some r) : r27_Miss_s1 l at_ i r1 b2_peer_id b2_peer_addr b2_misses = some r := by
  unfold r27_Miss_s1_b at h
  refine asks_of fun γ => ?_
  replace h := cond_some h; rcases h with ⟨h1, h⟩ | ⟨h1, h⟩
  replace h := bind_some h; obtain ⟨r2, h2, h⟩ := h
  replace h2 := asks_some h2 (gam [(γ 0), (γ 1)]); obtain ⟨γ1, h2⟩ := h2
  rcases r2 with ⟨at_1, i1, r11, b2_peer_id1, b2_peer_addr1, b2_misses1⟩ | ⟨at_1, i1, r11, b2_peer_id1, b2_peer_addr1, b2_misses1⟩
  replace h := need_some h; obtain ⟨h3, h⟩ := h
  cases h; refine ⟨gam [(γ1 0), ((γ1 1) + 1)], seg_lim ?_⟩
  rotate_left
  cases h; refine ⟨gam [(γ1 0), (γ1 1)], seg_lim ?_⟩
  rotate_left
  replace h := bind_some h; obtain ⟨r2, h2, h⟩ := h
  replace h2 := asks_some h2 (gam [(γ 0), (γ 1)]); obtain ⟨γ1, h2⟩ := h2
  rcases r2 with ⟨at_1, i1, r11, b2_peer_id1, b2_peer_addr1, b2_misses1⟩ | ⟨at_1, i1, r11, b2_peer_id1, b2_peer_addr1, b2_misses1⟩
  replace h := need_some h; obtain ⟨h3, h⟩ := h
  cases h; refine ⟨gam [(γ1 0), ((γ1 1) + 1)], seg_lim ?_⟩
  rotate_left
  cases h; refine ⟨gam [(γ1 0), (γ1 1)], seg_lim ?_⟩
  rotate_left
  all_goals (try dsimp only [bd, gam, xlen, xget, xsub, xroom, xsget, xssub, xsapp, eL, r27_Miss_s0_x, r27_Miss_s1_x, ePeer, eEntry] at *)
  all_goals (try simp only [map_app, map_set, map_put, map_fil, List.map_cons, List.map_nil] at *)
  all_goals (try dsimp only [ePeer, eEntry] at *)
  all_goals (show Ifc.apart ⟨Ops.std, (lim F pr).call, (lim F pr).loop, pr, (lim F pr).seg⟩ _ (b12_1F b12_0) _ = _)
  all_goals (generalize (lim F pr).call = call at *; generalize (lim F pr).loop = loop at *; generalize (lim F pr).seg = seg at *; generalize b12_0 = c0 at *; try generalize List.map eEntry = m0 at *; try generalize List.map ePeer = m1 at *; generalize Ops.std = o at *; cases o; try dsimp only at *)
  all_goals (repeat ((try cbv); first | rw [h0] | rw [h1] | rw [h2] | rw [h3]))
  all_goals (try cbv)

noncomputable def r27_Miss_s0_b (l : List Entry) (at_ : Int) (i : Int) (t38 : Bool) (r1 : List Entry) (b2_peer_id : Int) (b2_peer_addr : Int) (b2_misses : Int) : Option ((Int × Int × (List Entry) × Int × Int × Int) ⊕ (Int × Int × (List Entry) × Int × Int × Int)) :=
  bif t38 then
    some (.inl (at_, i, r1, b2_peer_id, b2_peer_addr, Ops.std.iadd .i64 b2_misses 1))
  else
    bif Ops.std.ieq i at_ then
      some (.inr (at_, i, r1, b2_peer_id, b2_peer_addr, b2_misses))
    else
      some (.inl (at_, i, r1, b2_peer_id, b2_peer_addr, b2_misses))
theorem r27_Miss_s0_r {l : List Entry} {at_ : Int} {i : Int} {t38 : Bool} {r1 : List Entry} {b2_peer_id : Int} {b2_peer_addr : Int} {b2_misses : Int} {r : (Int × Int × (List Entry) × Int × Int × Int) ⊕ (Int × Int × (List Entry) × Int × Int × Int)} (h : r27_Miss_s0_b l at_ i t38 r1 b2_peer_id b2_peer_addr b2_misses = some r) : r27_Miss_s0 l at_ i t38 r1 b2_peer_id b2_peer_addr b2_misses = some r := by
  unfold r27_Miss_s0_b at h
  refine asks_of fun γ => ?_
  replace h := cond_some h; rcases h with ⟨h1, h⟩ | ⟨h1, h⟩
  cases h; refine ⟨gam [(γ 0), (γ 1)], seg_lim ?_⟩
  rotate_left
  replace h := cond_some h; rcases h with ⟨h2, h⟩ | ⟨h2, h⟩
  cases h; refine ⟨gam [(γ 0), (γ 1)], seg_lim ?_⟩
  rotate_left
  cases h; refine ⟨gam [(γ 0), (γ 1)], seg_lim ?_⟩
  rotate_left
  all_goals (try dsimp only [bd, gam, xlen, xget, xsub, xroom, xsget, xssub, xsapp, eL, r27_Miss_s0_x, ePeer, eEntry] at *)
  all_goals (try simp only [map_app, map_set, map_put, map_fil, List.map_cons, List.map_nil] at *)
  all_goals (try dsimp only [ePeer, eEntry] at *)
  all_goals (show Ifc.apart ⟨Ops.std, (lim F pr).call, (lim F pr).loop, pr, (lim F pr).seg⟩ _ b12_0F _ = _)
  all_goals (generalize (lim F pr).call = call at *; generalize (lim F pr).loop = loop at *; generalize (lim F pr).seg = seg at *; try generalize List.map eEntry = m0 at *; try generalize List.map ePeer = m1 at *; generalize Ops.std = o at *; cases o; try dsimp only at *)
  all_goals (repeat ((try cbv); first | rw [h0] | rw [h1] | rw [h2]))
  all_goals (try cbv)

noncomputable def r27_Miss_b (l : List Entry) (addr : Int) : Option ((List Entry)) :=
  (r27_Place l addr).bind fun res =>
  (r27_Miss_l2 l res 0 []).bind fun r1 =>
  some r1
theorem r27_Miss_r {l : List Entry} {addr : Int} {r : (List Entry)} (h : r27_Miss_b l addr = some r) : r27_Miss l addr = some r := by
  unfold r27_Miss_b at h
  refine ask_of ?_
  replace h := bind_some h; obtain ⟨r1, h1, h⟩ := h
  replace h1 := ask_some h1
  obtain res := r1
  replace h := bind_some h; obtain ⟨r2, h2, h⟩ := h
  replace h2 := asks_some h2 (gam [0, 0]); obtain ⟨γ2, h2⟩ := h2
  obtain r1 := r2
  cases h; refine call_lim rfl ?_
  rotate_left
  all_goals (try dsimp only [bd, gam, xlen, xget, xsub, xroom, xsget, xssub, xsapp, eL, R1, r27_Miss_l2_x, ePeer, eEntry] at *)
  all_goals (try simp only [map_app, map_set, map_put, map_fil, List.map_cons, List.map_nil] at *)
  all_goals (try dsimp only [ePeer, eEntry] at *)
  all_goals (show runFn ⟨Ops.std, (lim F pr).call, (lim F pr).loop, pr, (lim F pr).seg⟩ (g12F b12_2) _ _ = _)
  all_goals (generalize (lim F pr).call = call at *; generalize (lim F pr).loop = loop at *; generalize (lim F pr).seg = seg at *; generalize b12_2 = c0 at *; try generalize List.map eEntry = m0 at *; try generalize List.map ePeer = m1 at *; generalize Ops.std = o at *; cases o; try dsimp only at *)
  all_goals (repeat ((try cbv); first | rw [h1] | rw [h2]))
  all_goals (try cbv)


noncomputable def peers_Drop_b (l : List Entry) (addr : Int) : Option ((List Entry)) :=
  bif xroom eEntry 24 [] l then
    (DeleteFunc_Entry l addr).bind fun r0 =>
    some r0
  else
    none
theorem peers_Drop_r {l : List Entry} {addr : Int} {r : (List Entry)} (h : peers_Drop_b l addr = some r) : peers_Drop l addr = some r := by
  unfold peers_Drop_b at h
  refine ask_of ?_
  replace h := need_some h; obtain ⟨h1, h⟩ := h
  replace h := bind_some h; obtain ⟨r2, h2, h⟩ := h
  replace h2 := asks_some h2 (gam [0, 0]); obtain ⟨γ1, h2⟩ := h2
  obtain r0 := r2
  cases h; refine call_lim rfl ?_
  rotate_left
  all_goals (try dsimp only [bd, gam, xlen, xget, xsub, xroom, xsget, xssub, xsapp, eL, DeleteFunc_Entry_e, K1, ePeer, eEntry] at *)
  all_goals (try simp only [map_app, map_set, map_put, map_fil, List.map_cons, List.map_nil] at *)
  all_goals (try dsimp only [ePeer, eEntry] at *)
  all_goals (show runFn ⟨Ops.std, (lim F pr).call, (lim F pr).loop, pr, (lim F pr).seg⟩ g13F _ _ = _)
  all_goals (generalize (lim F pr).call = call at *; generalize (lim F pr).loop = loop at *; generalize (lim F pr).seg = seg at *; try generalize List.map eEntry = m0 at *; try generalize List.map ePeer = m1 at *; generalize Ops.std = o at *; cases o; try dsimp only at *)
  all_goals (repeat ((try cbv); first | rw [h1] | rw [h2]))
  all_goals (try cbv)

noncomputable def r27_Drop_l0_x (γ : Nat → Nat) : (List Entry) → X × St
  | a0 => (.brk 0, ⟨bd 5 (.sl 1 ((γ 1)) :: bd 23 []), [.row 41 (γ 0) false (List.map eEntry []), .row 41 (γ 1) false (List.map eEntry a0)]⟩)
instance : InjS r27_Drop_l0_x := ⟨fun γ γ' x y h => by
  rcases x with a0 <;> rcases y with a0' <;> simp only [r27_Drop_l0_x, Prod.mk.injEq, St.mk.injEq, List.cons.injEq, AV.sc.injEq, AV.agg.injEq, AV.tup.injEq, AV.lit.injEq, AV.sl.injEq, AV.sub.injEq, AV.rptr.injEq, AV.lptr.injEq, AV.bptr.injEq, AV.fn.injEq, Ent.box.injEq, Ent.row.injEq, Value.int.injEq, Value.bool.injEq, Value.string.injEq, bd_inj, map_iff, eL_iff, and_true, true_and, and_assoc, reduceCtorEq, false_and, and_false, ePeer_iff, eEntry_iff] at h <;> simp_all⟩
noncomputable def r27_Drop_l0 (l : List Entry) (addr : Int) (i : Int) (r1 : List Entry) : Option ((List Entry)) := asks (fun γ => (lim F pr).loop [1, 0, 6, 5] 2 b14_0 ⟨.lit 41 false (List.map eEntry l) :: vH addr :: bd 3 (.sl 1 ((γ 1)) :: vI i :: bd 22 []), [.row 41 (γ 0) false (List.map eEntry []), .row 41 (γ 1) false (List.map eEntry r1)]⟩) r27_Drop_l0_x
noncomputable def r27_Drop_l0_b (l : List Entry) (addr : Int) (i : Int) (r1 : List Entry) : Option ((List Entry)) :=
  bif Ops.std.ilt i (xlen eEntry l) then
    (xget eEntry l i).bind fun x =>
    bif Ops.std.ieq x.peer.addr addr then r27_Drop_l0 l addr (Ops.std.iadd .i64 i 1) r1 else
    bif xroom eEntry 24 r1 [x] then r27_Drop_l0 l addr (Ops.std.iadd .i64 i 1) (r1 ++ [x]) else
    none
  else
    some r1
theorem r27_Drop_l0_r {l : List Entry} {addr : Int} {i : Int} {r1 : List Entry} {r : (List Entry)} (h : r27_Drop_l0_b l addr i r1 = some r) : r27_Drop_l0 l addr i r1 = some r := by
  unfold r27_Drop_l0_b at h
  refine asks_of fun γ => ?_
  replace h := cond_some h; rcases h with ⟨h1, h⟩ | ⟨h1, h⟩
  replace h := bind_some h; obtain ⟨x, h2, h⟩ := h
  replace h2 := ask_some h2
  replace h := cond_some h; rcases h with ⟨h3, h⟩ | ⟨h3, h⟩
  replace h := asks_some h (gam [(γ 0), (γ 1)]); obtain ⟨γ', h0⟩ := h; refine ⟨γ', round_lim ?_⟩
  rotate_left
  replace h := need_some h; obtain ⟨h4, h⟩ := h
  replace h := asks_some h (gam [(γ 0), ((γ 1) + 1)]); obtain ⟨γ', h0⟩ := h; refine ⟨γ', round_lim ?_⟩
  rotate_left
  cases h; refine ⟨gam [(γ 0), (γ 1)], round_lim ?_⟩
  rotate_left
  all_goals (try dsimp only [bd, gam, xlen, xget, xsub, xroom, xsget, xssub, xsapp, eL, r27_Drop_l0_x, ePeer, eEntry] at *)
  all_goals (try simp only [map_app, map_set, map_put, map_fil, List.map_cons, List.map_nil] at *)
  all_goals (try dsimp only [ePeer, eEntry] at *)
  all_goals (show roundAs ⟨Ops.std, (lim F pr).call, (lim F pr).loop, pr, (lim F pr).seg⟩ _ _ b14_0 b14_0F _ = _)
  all_goals (generalize (lim F pr).call = call at *; generalize (lim F pr).loop = loop at *; generalize (lim F pr).seg = seg at *; generalize b14_0 = c0 at *; try generalize List.map eEntry = m0 at *; try generalize List.map ePeer = m1 at *; generalize Ops.std = o at *; cases o; try dsimp only at *)
  all_goals (repeat ((try cbv); first | rw [h0] | rw [h1] | rw [h2] | rw [h3] | rw [h4]))
  all_goals (try cbv)

noncomputable def r27_Drop_b (l : List Entry) (addr : Int) : Option ((List Entry)) :=
  (r27_Drop_l0 l addr 0 []).bind fun r1 =>
  some r1
theorem r27_Drop_r {l : List Entry} {addr : Int} {r : (List Entry)} (h : r27_Drop_b l addr = some r) : r27_Drop l addr = some r := by
  unfold r27_Drop_b at h
  refine ask_of ?_
  replace h := bind_some h; obtain ⟨r1, h1, h⟩ := h
  replace h1 := asks_some h1 (gam [0, 0]); obtain ⟨γ1, h1⟩ := h1
  obtain r1 := r1
  cases h; refine call_lim rfl ?_
  rotate_left
  all_goals (try dsimp only [bd, gam, xlen, xget, xsub, xroom, xsget, xssub, xsapp, eL, R1, r27_Drop_l0_x, ePeer, eEntry] at *)
  all_goals (try simp only [map_app, map_set, map_put, map_fil, List.map_cons, List.map_nil] at *)
  all_goals (try dsimp only [ePeer, eEntry] at *)
  all_goals (show runFn ⟨Ops.std, (lim F pr).call, (lim F pr).loop, pr, (lim F pr).seg⟩ (g14F b14_0) _ _ = _)
  all_goals (generalize (lim F pr).call = call at *; generalize (lim F pr).loop = loop at *; generalize (lim F pr).seg = seg at *; generalize b14_0 = c0 at *; try generalize List.map eEntry = m0 at *; try generalize List.map ePeer = m1 at *; generalize Ops.std = o at *; cases o; try dsimp only at *)
  all_goals (repeat ((try cbv); first | rw [h1]))
  all_goals (try cbv)


noncomputable def peers_Place_b (l : List Entry) (addr : Int) : Option (Int) :=
  (IndexFunc_Entry_2 l addr).bind fun res =>
  some res
theorem peers_Place_r {l : List Entry} {addr : Int} {r : Int} (h : peers_Place_b l addr = some r) : peers_Place l addr = some r := by
  unfold peers_Place_b at h
  refine ask_of ?_
  replace h := bind_some h; obtain ⟨r1, h1, h⟩ := h
  replace h1 := ask_some h1
  obtain res := r1
  cases h; refine call_lim rfl ?_
  rotate_left
  all_goals (try dsimp only [bd, gam, xlen, xget, xsub, xroom, xsget, xssub, xsapp, eL, IndexFunc_Entry_2_e, R1, ePeer, eEntry] at *)
  all_goals (try simp only [map_app, map_set, map_put, map_fil, List.map_cons, List.map_nil] at *)
  all_goals (try dsimp only [ePeer, eEntry] at *)
  all_goals (show runFn ⟨Ops.std, (lim F pr).call, (lim F pr).loop, pr, (lim F pr).seg⟩ g15F _ _ = _)
  all_goals (generalize (lim F pr).call = call at *; generalize (lim F pr).loop = loop at *; generalize (lim F pr).seg = seg at *; try generalize List.map eEntry = m0 at *; try generalize List.map ePeer = m1 at *; generalize Ops.std = o at *; cases o; try dsimp only at *)
  all_goals (repeat ((try cbv); first | rw [h1]))
  all_goals (try cbv)

noncomputable def r27_Place_l0_x (γ : Nat → Nat) : Int ⊕ Unit → X × St
  | .inl a0 => (.ret, ⟨bd 4 (vI a0 :: bd 16 []), []⟩)
  | .inr () => (.brk 0, ⟨bd 21 [], []⟩)
instance : InjS r27_Place_l0_x := ⟨fun γ γ' x y h => by
  rcases x with a0 | _ <;> rcases y with a0' | _ <;> simp only [r27_Place_l0_x, Prod.mk.injEq, St.mk.injEq, List.cons.injEq, AV.sc.injEq, AV.agg.injEq, AV.tup.injEq, AV.lit.injEq, AV.sl.injEq, AV.sub.injEq, AV.rptr.injEq, AV.lptr.injEq, AV.bptr.injEq, AV.fn.injEq, Ent.box.injEq, Ent.row.injEq, Value.int.injEq, Value.bool.injEq, Value.string.injEq, bd_inj, map_iff, eL_iff, and_true, true_and, and_assoc, reduceCtorEq, false_and, and_false, ePeer_iff, eEntry_iff] at h <;> simp_all⟩
noncomputable def r27_Place_l0 (l : List Entry) (addr : Int) (i : Int) : Option (Int ⊕ Unit) := asks (fun γ => (lim F pr).loop [0, 1, 5] 0 b16_0 ⟨.lit 41 false (List.map eEntry l) :: vH addr :: bd 3 (vI i :: bd 15 []), []⟩) r27_Place_l0_x
noncomputable def r27_Place_l0_b (l : List Entry) (addr : Int) (i : Int) : Option (Int ⊕ Unit) :=
  bif Ops.std.ilt i (xlen eEntry l) then
    (xget eEntry l i).bind fun x =>
    bif Ops.std.ieq x.peer.addr addr then some (.inl i) else
    r27_Place_l0 l addr (Ops.std.iadd .i64 i 1)
  else
    some (.inr ())
theorem r27_Place_l0_r {l : List Entry} {addr : Int} {i : Int} {r : Int ⊕ Unit} (h : r27_Place_l0_b l addr i = some r) : r27_Place_l0 l addr i = some r := by
  unfold r27_Place_l0_b at h
  refine asks_of fun γ => ?_
  replace h := cond_some h; rcases h with ⟨h1, h⟩ | ⟨h1, h⟩
  replace h := bind_some h; obtain ⟨x, h2, h⟩ := h
  replace h2 := ask_some h2
  replace h := cond_some h; rcases h with ⟨h3, h⟩ | ⟨h3, h⟩
  cases h; refine ⟨gam [], round_lim ?_⟩
  rotate_left
  replace h := asks_some h (gam []); obtain ⟨γ', h0⟩ := h; refine ⟨γ', round_lim ?_⟩
  rotate_left
  cases h; refine ⟨gam [], round_lim ?_⟩
  rotate_left
  all_goals (try dsimp only [bd, gam, xlen, xget, xsub, xroom, xsget, xssub, xsapp, eL, r27_Place_l0_x, ePeer, eEntry] at *)
  all_goals (try simp only [map_app, map_set, map_put, map_fil, List.map_cons, List.map_nil] at *)
  all_goals (try dsimp only [ePeer, eEntry] at *)
  all_goals (show roundAs ⟨Ops.std, (lim F pr).call, (lim F pr).loop, pr, (lim F pr).seg⟩ _ _ b16_0 b16_0F _ = _)
  all_goals (generalize (lim F pr).call = call at *; generalize (lim F pr).loop = loop at *; generalize (lim F pr).seg = seg at *; generalize b16_0 = c0 at *; try generalize List.map eEntry = m0 at *; try generalize List.map ePeer = m1 at *; generalize Ops.std = o at *; cases o; try dsimp only at *)
  all_goals (repeat ((try cbv); first | rw [h0] | rw [h1] | rw [h2] | rw [h3]))
  all_goals (try cbv)

noncomputable def r27_Place_b (l : List Entry) (addr : Int) : Option (Int) :=
  (r27_Place_l0 l addr 0).bind fun r => match r with
    | .inl t4 =>
      some t4
    | .inr () =>
      some (-1)
theorem r27_Place_r {l : List Entry} {addr : Int} {r : Int} (h : r27_Place_b l addr = some r) : r27_Place l addr = some r := by
  unfold r27_Place_b at h
  refine ask_of ?_
  replace h := bind_some h; obtain ⟨r1, h1, h⟩ := h
  replace h1 := asks_some h1 (gam []); obtain ⟨γ1, h1⟩ := h1
  rcases r1 with t4 | _
  cases h; refine call_lim rfl ?_
  rotate_left
  cases h; refine call_lim rfl ?_
  rotate_left
  all_goals (try dsimp only [bd, gam, xlen, xget, xsub, xroom, xsget, xssub, xsapp, eL, R1, r27_Place_l0_x, ePeer, eEntry] at *)
  all_goals (try simp only [map_app, map_set, map_put, map_fil, List.map_cons, List.map_nil] at *)
  all_goals (try dsimp only [ePeer, eEntry] at *)
  all_goals (show runFn ⟨Ops.std, (lim F pr).call, (lim F pr).loop, pr, (lim F pr).seg⟩ (g16F b16_0) _ _ = _)
  all_goals (generalize (lim F pr).call = call at *; generalize (lim F pr).loop = loop at *; generalize (lim F pr).seg = seg at *; generalize b16_0 = c0 at *; try generalize List.map eEntry = m0 at *; try generalize List.map ePeer = m1 at *; generalize Ops.std = o at *; cases o; try dsimp only at *)
  all_goals (repeat ((try cbv); first | rw [h1]))
  all_goals (try cbv)

noncomputable def peers_Right_l1_x (me : Peer) (l : List Entry) (γ : Nat → Nat) : Unit ⊕ Unit → X × St
  | .inl () => (.ret, ⟨bd 4 (vF false :: bd 53 []), [.box 25 [vU me.id, vH me.addr]]⟩)
  | .inr () => (.brk 0, ⟨bd 1 (.lit 41 false (List.map eEntry l) :: bd 56 []), [.box 25 [vU me.id, vH me.addr]]⟩)
instance {me : Peer} {l : List Entry} : InjS (peers_Right_l1_x me l) := ⟨fun γ γ' x y h => by
  rcases x with _ | _ <;> rcases y with _ | _ <;> simp only [peers_Right_l1_x, Prod.mk.injEq, St.mk.injEq, List.cons.injEq, AV.sc.injEq, AV.agg.injEq, AV.tup.injEq, AV.lit.injEq, AV.sl.injEq, AV.sub.injEq, AV.rptr.injEq, AV.lptr.injEq, AV.bptr.injEq, AV.fn.injEq, Ent.box.injEq, Ent.row.injEq, Value.int.injEq, Value.bool.injEq, Value.string.injEq, bd_inj, map_iff, eL_iff, and_true, true_and, and_assoc, reduceCtorEq, false_and, and_false, ePeer_iff, eEntry_iff] at h <;> simp_all⟩
noncomputable def peers_Right_l1 (me : Peer) (l : List Entry) (t9 : Int) : Option (Unit ⊕ Unit) := asks (fun γ => (lim F pr).loop [8, 7, 2, 9, 1] 1 b17_1 ⟨bd 1 (.lit 41 false (List.map eEntry l) :: .bptr 0 0 :: bd 4 (.lit 41 false (List.map eEntry l) :: vI (xlen eEntry l) :: vI t9 :: bd 48 [])), [.box 25 [vU me.id, vH me.addr]]⟩) (peers_Right_l1_x me l)
noncomputable def peers_Right_s0_x (me : Peer) (l : List Entry) (γ : Nat → Nat) : (Int × Int × Int × Int) ⊕ (Int × Int × Int) → X × St
  | .inl (a0, a1, a2, a3) => (.nor, ⟨bd 1 (.lit 41 false (List.map eEntry l) :: .bptr 0 0 :: bd 4 (.lit 41 false (List.map eEntry l) :: vI (xlen eEntry l) :: vI a0 :: bd 48 [])), [.box 25 [vU me.id, vH me.addr], .box 41 [vU a1, vH a2, vI a3]]⟩)
  | .inr (b0, b1, b2) => (.ret, ⟨bd 4 (vF false :: bd 53 []), [.box 25 [vU me.id, vH me.addr], .box 41 [vU b0, vH b1, vI b2]]⟩)
instance {me : Peer} {l : List Entry} : InjS (peers_Right_s0_x me l) := ⟨fun γ γ' x y h => by
  rcases x with ⟨a0, a1, a2, a3⟩ | ⟨b0, b1, b2⟩ <;> rcases y with ⟨a0', a1', a2', a3'⟩ | ⟨b0', b1', b2'⟩ <;> simp only [peers_Right_s0_x, Prod.mk.injEq, St.mk.injEq, List.cons.injEq, AV.sc.injEq, AV.agg.injEq, AV.tup.injEq, AV.lit.injEq, AV.sl.injEq, AV.sub.injEq, AV.rptr.injEq, AV.lptr.injEq, AV.bptr.injEq, AV.fn.injEq, Ent.box.injEq, Ent.row.injEq, Value.int.injEq, Value.bool.injEq, Value.string.injEq, bd_inj, map_iff, eL_iff, and_true, true_and, and_assoc, reduceCtorEq, false_and, and_false, ePeer_iff, eEntry_iff] at h <;> simp_all⟩
noncomputable def peers_Right_s0 (me : Peer) (l : List Entry) (i : Int) (t9 : Int) (b1_peer_id : Int) (b1_peer_addr : Int) (b1_misses : Int) : Option ((Int × Int × Int × Int) ⊕ (Int × Int × Int)) := asks (fun γ => (lim F pr).seg [9, 8, 7, 2, 1] b17_0 ⟨bd 1 (.lit 41 false (List.map eEntry l) :: .bptr 0 0 :: bd 2 (vI i :: .bptr 1 0 :: .lit 41 false (List.map eEntry l) :: vI (xlen eEntry l) :: vI t9 :: bd 48 [])), [.box 25 [vU me.id, vH me.addr], .box 41 [vU b1_peer_id, vH b1_peer_addr, vI b1_misses]]⟩) (peers_Right_s0_x me l)
noncomputable def peers_Right_l1_b (me : Peer) (l : List Entry) (t9 : Int) : Option (Unit ⊕ Unit) :=
  bif Ops.std.ilt t9 (xlen eEntry l) then
    (xget eEntry l t9).bind fun x =>
    bif Ops.std.ilt x.misses 0 then some (.inl ()) else
    bif Ops.std.ile 3 x.misses then some (.inl ()) else
    bif Ops.std.ieq x.peer.addr me.addr then some (.inl ()) else
    (peers_Place l x.peer.addr).bind fun res =>
    bif Ops.std.ieq res t9 then
      (peers_Right_s0 me l t9 t9 x.peer.id x.peer.addr x.misses).bind fun r => match r with
        | .inl (t91, b1_peer_id, b1_peer_addr, b1_misses) =>
          peers_Right_l1 me l (Ops.std.iadd .i64 t91 1)
        | .inr (b1_peer_id, b1_peer_addr, b1_misses) =>
          some (.inl ())
    else
      some (.inl ())
  else
    some (.inr ())
theorem peers_Right_l1_r {me : Peer} {l : List Entry} {t9 : Int} {r : Unit ⊕ Unit} (h : peers_Right_l1_b me l t9 = some r) : peers_Right_l1 me l t9 = some r := by
  unfold peers_Right_l1_b at h
  refine asks_of fun γ => ?_
  replace h := cond_some h; rcases h with ⟨h1, h⟩ | ⟨h1, h⟩
  replace h := bind_some h; obtain ⟨x, h2, h⟩ := h
  replace h2 := ask_some h2
  replace h := cond_some h; rcases h with ⟨h3, h⟩ | ⟨h3, h⟩
  cases h; refine ⟨gam [], round_lim ?_⟩
  rotate_left
  replace h := cond_some h; rcases h with ⟨h4, h⟩ | ⟨h4, h⟩
  cases h; refine ⟨gam [], round_lim ?_⟩
  rotate_left
  replace h := cond_some h; rcases h with ⟨h5, h⟩ | ⟨h5, h⟩
  cases h; refine ⟨gam [], round_lim ?_⟩
  rotate_left
  replace h := bind_some h; obtain ⟨r6, h6, h⟩ := h
  replace h6 := ask_some h6
  obtain res := r6
  replace h := cond_some h; rcases h with ⟨h7, h⟩ | ⟨h7, h⟩
  replace h := bind_some h; obtain ⟨r8, h8, h⟩ := h
  replace h8 := asks_some h8 (gam []); obtain ⟨γ2, h8⟩ := h8
  rcases r8 with ⟨t91, b1_peer_id, b1_peer_addr, b1_misses⟩ | ⟨b1_peer_id, b1_peer_addr, b1_misses⟩
  replace h := asks_some h (gam []); obtain ⟨γ', h0⟩ := h; refine ⟨γ', round_lim ?_⟩
  rotate_left
  cases h; refine ⟨gam [], round_lim ?_⟩
  rotate_left
  cases h; refine ⟨gam [], round_lim ?_⟩
  rotate_left
  cases h; refine ⟨gam [], round_lim ?_⟩
  rotate_left
  all_goals (try dsimp only [bd, gam, xlen, xget, xsub, xroom, xsget, xssub, xsapp, eL, R1, peers_Right_l1_x, peers_Right_s0_x, ePeer, eEntry] at *)
  all_goals (try simp only [map_app, map_set, map_put, map_fil, List.map_cons, List.map_nil] at *)
  all_goals (try dsimp only [ePeer, eEntry] at *)
  all_goals (show roundAs ⟨Ops.std, (lim F pr).call, (lim F pr).loop, pr, (lim F pr).seg⟩ _ _ b17_1 (b17_1F b17_0) _ = _)
  all_goals (generalize (lim F pr).call = call at *; generalize (lim F pr).loop = loop at *; generalize (lim F pr).seg = seg at *; generalize b17_1 = c0 at *; generalize b17_0 = c1 at *; try generalize List.map eEntry = m0 at *; try generalize List.map ePeer = m1 at *; generalize Ops.std = o at *; cases o; try dsimp only at *)
  all_goals (repeat ((try cbv); first | rw [h0] | rw [h1] | rw [h2] | rw [h3] | rw [h4] | rw [h5] | rw [h6] | rw [h7] | rw [h8]))
  all_goals (try cbv)

noncomputable def peers_Right_s0_b (me : Peer) (l : List Entry) (i : Int) (t9 : Int) (b1_peer_id : Int) (b1_peer_addr : Int) (b1_misses : Int) : Option ((Int × Int × Int × Int) ⊕ (Int × Int × Int)) :=
  bif Ops.std.ilt 0 i then
    (xget eEntry l (Ops.std.isub .i64 i 1)).bind fun x =>
    (peers_Ahead me x.peer (⟨b1_peer_id, b1_peer_addr⟩ : Peer)).bind fun res =>
    bif res then some (.inl (t9, b1_peer_id, b1_peer_addr, b1_misses)) else
    some (.inr (b1_peer_id, b1_peer_addr, b1_misses))
  else
    some (.inl (t9, b1_peer_id, b1_peer_addr, b1_misses))
theorem peers_Right_s0_r {me : Peer} {l : List Entry} {i : Int} {t9 : Int} {b1_peer_id : Int} {b1_peer_addr : Int} {b1_misses : Int} {r : (Int × Int × Int × Int) ⊕ (Int × Int × Int)} (h : peers_Right_s0_b me l i t9 b1_peer_id b1_peer_addr b1_misses = some r) : peers_Right_s0 me l i t9 b1_peer_id b1_peer_addr b1_misses = some r := by
  unfold peers_Right_s0_b at h
  refine asks_of fun γ => ?_
  replace h := cond_some h; rcases h with ⟨h1, h⟩ | ⟨h1, h⟩
  replace h := bind_some h; obtain ⟨x, h2, h⟩ := h
  replace h2 := ask_some h2
  replace h := bind_some h; obtain ⟨r3, h3, h⟩ := h
  replace h3 := ask_some h3
  obtain res := r3
  replace h := cond_some h; rcases h with ⟨h4, h⟩ | ⟨h4, h⟩
  cases h; refine ⟨gam [], seg_lim ?_⟩
  rotate_left
  cases h; refine ⟨gam [], seg_lim ?_⟩
  rotate_left
  cases h; refine ⟨gam [], seg_lim ?_⟩
  rotate_left
  all_goals (try dsimp only [bd, gam, xlen, xget, xsub, xroom, xsget, xssub, xsapp, eL, R1, peers_Right_s0_x, ePeer, eEntry] at *)
  all_goals (try simp only [map_app, map_set, map_put, map_fil, List.map_cons, List.map_nil] at *)
  all_goals (try dsimp only [ePeer, eEntry] at *)
  all_goals (show Ifc.apart ⟨Ops.std, (lim F pr).call, (lim F pr).loop, pr, (lim F pr).seg⟩ _ b17_0F _ = _)
  all_goals (generalize (lim F pr).call = call at *; generalize (lim F pr).loop = loop at *; generalize (lim F pr).seg = seg at *; try generalize List.map eEntry = m0 at *; try generalize List.map ePeer = m1 at *; generalize Ops.std = o at *; cases o; try dsimp only at *)
  all_goals (repeat ((try cbv); first | rw [h0] | rw [h1] | rw [h2] | rw [h3] | rw [h4]))
  all_goals (try cbv)

noncomputable def peers_Right_b (me : Peer) (l : List Entry) : Option (Bool) :=
  (peers_Right_l1 me l 0).bind fun r => match r with
    | .inl () =>
      some false
    | .inr () =>
      some (Ops.std.ile (xlen eEntry l) 15)
theorem peers_Right_r {me : Peer} {l : List Entry} {r : Bool} (h : peers_Right_b me l = some r) : peers_Right me l = some r := by
  unfold peers_Right_b at h
  refine ask_of ?_
  replace h := bind_some h; obtain ⟨r1, h1, h⟩ := h
  replace h1 := asks_some h1 (gam []); obtain ⟨γ1, h1⟩ := h1
  rcases r1 with _ | _
  cases h; refine call_lim rfl ?_
  rotate_left
  cases h; refine call_lim rfl ?_
  rotate_left
  all_goals (try dsimp only [bd, gam, xlen, xget, xsub, xroom, xsget, xssub, xsapp, eL, R1, peers_Right_l1_x, ePeer, eEntry] at *)
  all_goals (try simp only [map_app, map_set, map_put, map_fil, List.map_cons, List.map_nil] at *)
  all_goals (try dsimp only [ePeer, eEntry] at *)
  all_goals (show runFn ⟨Ops.std, (lim F pr).call, (lim F pr).loop, pr, (lim F pr).seg⟩ (g17F b17_1) _ _ = _)
  all_goals (generalize (lim F pr).call = call at *; generalize (lim F pr).loop = loop at *; generalize (lim F pr).seg = seg at *; generalize b17_1 = c0 at *; try generalize List.map eEntry = m0 at *; try generalize List.map ePeer = m1 at *; generalize Ops.std = o at *; cases o; try dsimp only at *)
  all_goals (repeat ((try cbv); first | rw [h1]))
  all_goals (try cbv)

noncomputable def r27_Right_l1_x (me : Peer) (γ : Nat → Nat) : Unit ⊕ Unit → X × St
  | .inl () => (.ret, ⟨bd 4 (vF false :: bd 69 []), [.box 25 [vU me.id, vH me.addr]]⟩)
  | .inr () => (.brk 0, ⟨bd 74 [], [.box 25 [vU me.id, vH me.addr]]⟩)
instance {me : Peer} : InjS (r27_Right_l1_x me) := ⟨fun γ γ' x y h => by
  rcases x with _ | _ <;> rcases y with _ | _ <;> simp only [r27_Right_l1_x, Prod.mk.injEq, St.mk.injEq, List.cons.injEq, AV.sc.injEq, AV.agg.injEq, AV.tup.injEq, AV.lit.injEq, AV.sl.injEq, AV.sub.injEq, AV.rptr.injEq, AV.lptr.injEq, AV.bptr.injEq, AV.fn.injEq, Ent.box.injEq, Ent.row.injEq, Value.int.injEq, Value.bool.injEq, Value.string.injEq, bd_inj, map_iff, eL_iff, and_true, true_and, and_assoc, reduceCtorEq, false_and, and_false, ePeer_iff, eEntry_iff] at h <;> simp_all⟩
noncomputable def r27_Right_l1 (me : Peer) (l : List Entry) (i : Int) : Option (Unit ⊕ Unit) := asks (fun γ => (lim F pr).loop [2, 1, 5] 1 b18_1 ⟨bd 1 (.lit 41 false (List.map eEntry l) :: .bptr 0 0 :: bd 2 (vI i :: bd 68 [])), [.box 25 [vU me.id, vH me.addr]]⟩) (r27_Right_l1_x me)
noncomputable def r27_Right_l0_x (me : Peer) (l : List Entry) (γ : Nat → Nat) : Unit ⊕ Int → X × St
  | .inl () => (.ret, ⟨bd 4 (vF false :: bd 69 []), [.box 25 [vU me.id, vH me.addr]]⟩)
  | .inr b0 => (.brk 2, ⟨bd 1 (.lit 41 false (List.map eEntry l) :: .bptr 0 0 :: bd 2 (vI b0 :: bd 68 [])), [.box 25 [vU me.id, vH me.addr]]⟩)
instance {me : Peer} {l : List Entry} : InjS (r27_Right_l0_x me l) := ⟨fun γ γ' x y h => by
  rcases x with _ | b0 <;> rcases y with _ | b0' <;> simp only [r27_Right_l0_x, Prod.mk.injEq, St.mk.injEq, List.cons.injEq, AV.sc.injEq, AV.agg.injEq, AV.tup.injEq, AV.lit.injEq, AV.sl.injEq, AV.sub.injEq, AV.rptr.injEq, AV.lptr.injEq, AV.bptr.injEq, AV.fn.injEq, Ent.box.injEq, Ent.row.injEq, Value.int.injEq, Value.bool.injEq, Value.string.injEq, bd_inj, map_iff, eL_iff, and_true, true_and, and_assoc, reduceCtorEq, false_and, and_false, ePeer_iff, eEntry_iff] at h <;> simp_all⟩
noncomputable def r27_Right_l0 (me : Peer) (l : List Entry) (i : Int) (k : Int) : Option (Unit ⊕ Int) := asks (fun γ => (lim F pr).loop [6, 5, 2, 1] 1 b18_0 ⟨bd 1 (.lit 41 false (List.map eEntry l) :: .bptr 0 0 :: bd 2 (vI i :: vI k :: bd 67 [])), [.box 25 [vU me.id, vH me.addr]]⟩) (r27_Right_l0_x me l)
noncomputable def r27_Right_l1_b (me : Peer) (l : List Entry) (i : Int) : Option (Unit ⊕ Unit) :=
  bif Ops.std.ilt i (xlen eEntry l) then
    (xget eEntry l i).bind fun x =>
    bif Ops.std.ilt x.misses 0 then some (.inl ()) else
    bif Ops.std.ilt 2 x.misses then some (.inl ()) else
    bif Ops.std.ieq x.peer.addr me.addr then some (.inl ()) else
    (r27_Right_l0 me l i 0).bind fun r => match r with
      | .inl () =>
        some (.inl ())
      | .inr i1 =>
        r27_Right_l1 me l (Ops.std.iadd .i64 i1 1)
  else
    some (.inr ())
theorem r27_Right_l1_r {me : Peer} {l : List Entry} {i : Int} {r : Unit ⊕ Unit} (h : r27_Right_l1_b me l i = some r) : r27_Right_l1 me l i = some r := by
  unfold r27_Right_l1_b at h
  refine asks_of fun γ => ?_
  replace h := cond_some h; rcases h with ⟨h1, h⟩ | ⟨h1, h⟩
  replace h := bind_some h; obtain ⟨x, h2, h⟩ := h
  replace h2 := ask_some h2
  replace h := cond_some h; rcases h with ⟨h3, h⟩ | ⟨h3, h⟩
  cases h; refine ⟨gam [], round_lim ?_⟩
  rotate_left
  replace h := cond_some h; rcases h with ⟨h4, h⟩ | ⟨h4, h⟩
  cases h; refine ⟨gam [], round_lim ?_⟩
  rotate_left
  replace h := cond_some h; rcases h with ⟨h5, h⟩ | ⟨h5, h⟩
  cases h; refine ⟨gam [], round_lim ?_⟩
  rotate_left
  replace h := bind_some h; obtain ⟨r6, h6, h⟩ := h
  replace h6 := asks_some h6 (gam []); obtain ⟨γ1, h6⟩ := h6
  rcases r6 with _ | i1
  cases h; refine ⟨gam [], round_lim ?_⟩
  rotate_left
  replace h := asks_some h (gam []); obtain ⟨γ', h0⟩ := h; refine ⟨γ', round_lim ?_⟩
  rotate_left
  cases h; refine ⟨gam [], round_lim ?_⟩
  rotate_left
  all_goals (try dsimp only [bd, gam, xlen, xget, xsub, xroom, xsget, xssub, xsapp, eL, r27_Right_l0_x, r27_Right_l1_x, ePeer, eEntry] at *)
  all_goals (try simp only [map_app, map_set, map_put, map_fil, List.map_cons, List.map_nil] at *)
  all_goals (try dsimp only [ePeer, eEntry] at *)
  all_goals (show roundAs ⟨Ops.std, (lim F pr).call, (lim F pr).loop, pr, (lim F pr).seg⟩ _ _ b18_1 (b18_1F b18_0) _ = _)
  all_goals (generalize (lim F pr).call = call at *; generalize (lim F pr).loop = loop at *; generalize (lim F pr).seg = seg at *; generalize b18_1 = c0 at *; generalize b18_0 = c1 at *; try generalize List.map eEntry = m0 at *; try generalize List.map ePeer = m1 at *; generalize Ops.std = o at *; cases o; try dsimp only at *)
  all_goals (repeat ((try cbv); first | rw [h0] | rw [h1] | rw [h2] | rw [h3] | rw [h4] | rw [h5] | rw [h6]))
  all_goals (try cbv)

noncomputable def r27_Right_l0_b (me : Peer) (l : List Entry) (i : Int) (k : Int) : Option (Unit ⊕ Int) :=
  bif Ops.std.ilt k i then
    (xget eEntry l k).bind fun x =>
    (xget eEntry l i).bind fun x1 =>
    bif Ops.std.ieq x.peer.addr x1.peer.addr then some (.inl ()) else
    (r27_Ahead me x.peer x1.peer).bind fun res =>
    bif res then r27_Right_l0 me l i (Ops.std.iadd .i64 k 1) else
    some (.inl ())
  else
    some (.inr i)
theorem r27_Right_l0_r {me : Peer} {l : List Entry} {i : Int} {k : Int} {r : Unit ⊕ Int} (h : r27_Right_l0_b me l i k = some r) : r27_Right_l0 me l i k = some r := by
  unfold r27_Right_l0_b at h
  refine asks_of fun γ => ?_
  replace h := cond_some h; rcases h with ⟨h1, h⟩ | ⟨h1, h⟩
  replace h := bind_some h; obtain ⟨x, h2, h⟩ := h
  replace h2 := ask_some h2
  replace h := bind_some h; obtain ⟨x1, h3, h⟩ := h
  replace h3 := ask_some h3
  replace h := cond_some h; rcases h with ⟨h4, h⟩ | ⟨h4, h⟩
  cases h; refine ⟨gam [], round_lim ?_⟩
  rotate_left
  replace h := bind_some h; obtain ⟨r5, h5, h⟩ := h
  replace h5 := ask_some h5
  obtain res := r5
  replace h := cond_some h; rcases h with ⟨h6, h⟩ | ⟨h6, h⟩
  replace h := asks_some h (gam []); obtain ⟨γ', h0⟩ := h; refine ⟨γ', round_lim ?_⟩
  rotate_left
  cases h; refine ⟨gam [], round_lim ?_⟩
  rotate_left
  cases h; refine ⟨gam [], round_lim ?_⟩
  rotate_left
  all_goals (try dsimp only [bd, gam, xlen, xget, xsub, xroom, xsget, xssub, xsapp, eL, R1, r27_Right_l0_x, ePeer, eEntry] at *)
  all_goals (try simp only [map_app, map_set, map_put, map_fil, List.map_cons, List.map_nil] at *)
  all_goals (try dsimp only [ePeer, eEntry] at *)
  all_goals (show roundAs ⟨Ops.std, (lim F pr).call, (lim F pr).loop, pr, (lim F pr).seg⟩ _ _ b18_0 b18_0F _ = _)
  all_goals (generalize (lim F pr).call = call at *; generalize (lim F pr).loop = loop at *; generalize (lim F pr).seg = seg at *; generalize b18_0 = c0 at *; try generalize List.map eEntry = m0 at *; try generalize List.map ePeer = m1 at *; generalize Ops.std = o at *; cases o; try dsimp only at *)
  all_goals (repeat ((try cbv); first | rw [h0] | rw [h1] | rw [h2] | rw [h3] | rw [h4] | rw [h5] | rw [h6]))
  all_goals (try cbv)

noncomputable def r27_Right_b (me : Peer) (l : List Entry) : Option (Bool) :=
  bif Ops.std.ilt 15 (xlen eEntry l) then some false else
  (r27_Right_l1 me l 0).bind fun r => match r with
    | .inl () =>
      some false
    | .inr () =>
      some true
theorem r27_Right_r {me : Peer} {l : List Entry} {r : Bool} (h : r27_Right_b me l = some r) : r27_Right me l = some r := by
  unfold r27_Right_b at h
  refine ask_of ?_
  replace h := cond_some h; rcases h with ⟨h1, h⟩ | ⟨h1, h⟩
  cases h; refine call_lim rfl ?_
  rotate_left
  replace h := bind_some h; obtain ⟨r2, h2, h⟩ := h
  replace h2 := asks_some h2 (gam []); obtain ⟨γ1, h2⟩ := h2
  rcases r2 with _ | _
  cases h; refine call_lim rfl ?_
  rotate_left
  cases h; refine call_lim rfl ?_
  rotate_left
  all_goals (try dsimp only [bd, gam, xlen, xget, xsub, xroom, xsget, xssub, xsapp, eL, R1, r27_Right_l1_x, ePeer, eEntry] at *)
  all_goals (try simp only [map_app, map_set, map_put, map_fil, List.map_cons, List.map_nil] at *)
  all_goals (try dsimp only [ePeer, eEntry] at *)
  all_goals (show runFn ⟨Ops.std, (lim F pr).call, (lim F pr).loop, pr, (lim F pr).seg⟩ (g18F b18_1) _ _ = _)
  all_goals (generalize (lim F pr).call = call at *; generalize (lim F pr).loop = loop at *; generalize (lim F pr).seg = seg at *; generalize b18_1 = c0 at *; try generalize List.map eEntry = m0 at *; try generalize List.map ePeer = m1 at *; generalize Ops.std = o at *; cases o; try dsimp only at *)
  all_goals (repeat ((try cbv); first | rw [h1] | rw [h2]))
  all_goals (try cbv)


noncomputable def peers_Ahead_b (me : Peer) (a : Peer) (b : Peer) : Option (Bool) :=
  (ring_Dist me.id a.id).bind fun res =>
  (ring_Dist me.id b.id).bind fun res1 =>
  bif Ops.std.ilt res res1 then some true else
  bif Ops.std.ieq res res1 then some (Ops.std.ilt a.addr b.addr) else
  some false
theorem peers_Ahead_r {me : Peer} {a : Peer} {b : Peer} {r : Bool} (h : peers_Ahead_b me a b = some r) : peers_Ahead me a b = some r := by
  unfold peers_Ahead_b at h
  refine ask_of ?_
  replace h := bind_some h; obtain ⟨r1, h1, h⟩ := h
  replace h1 := ask_some h1
  obtain res := r1
  replace h := bind_some h; obtain ⟨r2, h2, h⟩ := h
  replace h2 := ask_some h2
  obtain res1 := r2
  replace h := cond_some h; rcases h with ⟨h3, h⟩ | ⟨h3, h⟩
  cases h; refine call_lim rfl ?_
  rotate_left
  replace h := cond_some h; rcases h with ⟨h4, h⟩ | ⟨h4, h⟩
  cases h; refine call_lim rfl ?_
  rotate_left
  cases h; refine call_lim rfl ?_
  rotate_left
  all_goals (try dsimp only [bd, gam, xlen, xget, xsub, xroom, xsget, xssub, xsapp, eL, R1, ePeer, eEntry] at *)
  all_goals (try simp only [map_app, map_set, map_put, map_fil, List.map_cons, List.map_nil] at *)
  all_goals (try dsimp only [ePeer, eEntry] at *)
  all_goals (show runFn ⟨Ops.std, (lim F pr).call, (lim F pr).loop, pr, (lim F pr).seg⟩ g19F _ _ = _)
  all_goals (generalize (lim F pr).call = call at *; generalize (lim F pr).loop = loop at *; generalize (lim F pr).seg = seg at *; try generalize List.map eEntry = m0 at *; try generalize List.map ePeer = m1 at *; generalize Ops.std = o at *; cases o; try dsimp only at *)
  all_goals (repeat ((try cbv); first | rw [h1] | rw [h2] | rw [h3] | rw [h4]))
  all_goals (try cbv)


noncomputable def r27_Ahead_b (me : Peer) (a : Peer) (b : Peer) : Option (Bool) :=
  (r03_Dist me.id a.id).bind fun res =>
  (r03_Dist me.id b.id).bind fun res1 =>
  bif Ops.std.ieq res res1 then some (Ops.std.ilt a.addr b.addr) else
  some (Ops.std.ilt res res1)
theorem r27_Ahead_r {me : Peer} {a : Peer} {b : Peer} {r : Bool} (h : r27_Ahead_b me a b = some r) : r27_Ahead me a b = some r := by
  unfold r27_Ahead_b at h
  refine ask_of ?_
  replace h := bind_some h; obtain ⟨r1, h1, h⟩ := h
  replace h1 := ask_some h1
  obtain res := r1
  replace h := bind_some h; obtain ⟨r2, h2, h⟩ := h
  replace h2 := ask_some h2
  obtain res1 := r2
  replace h := cond_some h; rcases h with ⟨h3, h⟩ | ⟨h3, h⟩
  cases h; refine call_lim rfl ?_
  rotate_left
  cases h; refine call_lim rfl ?_
  rotate_left
  all_goals (try dsimp only [bd, gam, xlen, xget, xsub, xroom, xsget, xssub, xsapp, eL, R1, ePeer, eEntry] at *)
  all_goals (try simp only [map_app, map_set, map_put, map_fil, List.map_cons, List.map_nil] at *)
  all_goals (try dsimp only [ePeer, eEntry] at *)
  all_goals (show runFn ⟨Ops.std, (lim F pr).call, (lim F pr).loop, pr, (lim F pr).seg⟩ g20F _ _ = _)
  all_goals (generalize (lim F pr).call = call at *; generalize (lim F pr).loop = loop at *; generalize (lim F pr).seg = seg at *; try generalize List.map eEntry = m0 at *; try generalize List.map ePeer = m1 at *; generalize Ops.std = o at *; cases o; try dsimp only at *)
  all_goals (repeat ((try cbv); first | rw [h1] | rw [h2] | rw [h3]))
  all_goals (try cbv)

noncomputable def peers_Owner_l0_x (me : Peer) (γ : Nat → Nat) : (Int × Int) → X × St
  | (a0, a1) => (.brk 0, ⟨bd 6 (.bptr 1 0 :: .bptr 2 0 :: bd 22 []), [.box 25 [vU me.id, vH me.addr], .box 25 [vU 0, vH 0], .box 25 [vU a0, vH a1]]⟩)
instance {me : Peer} : InjS (peers_Owner_l0_x me) := ⟨fun γ γ' x y h => by
  rcases x with ⟨a0, a1⟩ <;> rcases y with ⟨a0', a1'⟩ <;> simp only [peers_Owner_l0_x, Prod.mk.injEq, St.mk.injEq, List.cons.injEq, AV.sc.injEq, AV.agg.injEq, AV.tup.injEq, AV.lit.injEq, AV.sl.injEq, AV.sub.injEq, AV.rptr.injEq, AV.lptr.injEq, AV.bptr.injEq, AV.fn.injEq, Ent.box.injEq, Ent.row.injEq, Value.int.injEq, Value.bool.injEq, Value.string.injEq, bd_inj, map_iff, eL_iff, and_true, true_and, and_assoc, reduceCtorEq, false_and, and_false, ePeer_iff, eEntry_iff] at h <;> simp_all⟩
noncomputable def peers_Owner_l0 (me : Peer) (key : Int) (t12 : List Peer) (t13 : Int) (t14 : Int) (b2_id : Int) (b2_addr : Int) : Option ((Int × Int)) := asks (fun γ => (lim F pr).loop [13, 12, 2, 14, 7, 6] 3 b21_0 ⟨bd 2 (vU key :: bd 3 (.bptr 1 0 :: .bptr 2 0 :: bd 4 (.lit 25 false (List.map ePeer t12) :: vI t13 :: vI t14 :: bd 15 []))), [.box 25 [vU me.id, vH me.addr], .box 25 [vU 0, vH 0], .box 25 [vU b2_id, vH b2_addr]]⟩) (peers_Owner_l0_x me)
noncomputable def peers_Owner_l0_b (me : Peer) (key : Int) (t12 : List Peer) (t13 : Int) (t14 : Int) (b2_id : Int) (b2_addr : Int) : Option ((Int × Int)) :=
  bif Ops.std.ilt t14 t13 then
    (xget ePeer t12 t14).bind fun x =>
    (ring_Dist key x.id).bind fun res =>
    (ring_Dist key b2_id).bind fun res1 =>
    bif Ops.std.ilt res res1 then peers_Owner_l0 me key t12 t13 (Ops.std.iadd .i64 t14 1) x.id x.addr else
    peers_Owner_l0 me key t12 t13 (Ops.std.iadd .i64 t14 1) b2_id b2_addr
  else
    some (b2_id, b2_addr)
theorem peers_Owner_l0_r {me : Peer} {key : Int} {t12 : List Peer} {t13 : Int} {t14 : Int} {b2_id : Int} {b2_addr : Int} {r : (Int × Int)} (h : peers_Owner_l0_b me key t12 t13 t14 b2_id b2_addr = some r) : peers_Owner_l0 me key t12 t13 t14 b2_id b2_addr = some r := by
  unfold peers_Owner_l0_b at h
  refine asks_of fun γ => ?_
  replace h := cond_some h; rcases h with ⟨h1, h⟩ | ⟨h1, h⟩
  replace h := bind_some h; obtain ⟨x, h2, h⟩ := h
  replace h2 := ask_some h2
  replace h := bind_some h; obtain ⟨r3, h3, h⟩ := h
  replace h3 := ask_some h3
  obtain res := r3
  replace h := bind_some h; obtain ⟨r4, h4, h⟩ := h
  replace h4 := ask_some h4
  obtain res1 := r4
  replace h := cond_some h; rcases h with ⟨h5, h⟩ | ⟨h5, h⟩
  replace h := asks_some h (gam []); obtain ⟨γ', h0⟩ := h; refine ⟨γ', round_lim ?_⟩
  rotate_left
  replace h := asks_some h (gam []); obtain ⟨γ', h0⟩ := h; refine ⟨γ', round_lim ?_⟩
  rotate_left
  cases h; refine ⟨gam [], round_lim ?_⟩
  rotate_left
  all_goals (try dsimp only [bd, gam, xlen, xget, xsub, xroom, xsget, xssub, xsapp, eL, R1, peers_Owner_l0_x, ePeer, eEntry] at *)
  all_goals (try simp only [map_app, map_set, map_put, map_fil, List.map_cons, List.map_nil] at *)
  all_goals (try dsimp only [ePeer, eEntry] at *)
  all_goals (show roundAs ⟨Ops.std, (lim F pr).call, (lim F pr).loop, pr, (lim F pr).seg⟩ _ _ b21_0 b21_0F _ = _)
  all_goals (generalize (lim F pr).call = call at *; generalize (lim F pr).loop = loop at *; generalize (lim F pr).seg = seg at *; generalize b21_0 = c0 at *; try generalize List.map eEntry = m0 at *; try generalize List.map ePeer = m1 at *; generalize Ops.std = o at *; cases o; try dsimp only at *)
  all_goals (repeat ((try cbv); first | rw [h0] | rw [h1] | rw [h2] | rw [h3] | rw [h4] | rw [h5]))
  all_goals (try cbv)

noncomputable def peers_Owner_b (me : Peer) (l : List Entry) (key : Int) : Option (Peer) :=
  (peers_Firm l).bind fun res =>
  (peers_Owner_l0 me key res (xlen ePeer res) 0 me.id me.addr).bind fun ⟨b2_id, b2_addr⟩ =>
  some (⟨b2_id, b2_addr⟩ : Peer)
theorem peers_Owner_r {me : Peer} {l : List Entry} {key : Int} {r : Peer} (h : peers_Owner_b me l key = some r) : peers_Owner me l key = some r := by
  unfold peers_Owner_b at h
  refine ask_of ?_
  replace h := bind_some h; obtain ⟨r1, h1, h⟩ := h
  replace h1 := ask_some h1
  obtain res := r1
  replace h := bind_some h; obtain ⟨r2, h2, h⟩ := h
  replace h2 := asks_some h2 (gam []); obtain ⟨γ2, h2⟩ := h2
  rcases r2 with ⟨b2_id, b2_addr⟩
  cases h; refine call_lim rfl ?_
  rotate_left
  all_goals (try dsimp only [bd, gam, xlen, xget, xsub, xroom, xsget, xssub, xsapp, eL, R1, peers_Owner_l0_x, ePeer, eEntry] at *)
  all_goals (try simp only [map_app, map_set, map_put, map_fil, List.map_cons, List.map_nil] at *)
  all_goals (try dsimp only [ePeer, eEntry] at *)
  all_goals (show runFn ⟨Ops.std, (lim F pr).call, (lim F pr).loop, pr, (lim F pr).seg⟩ (g21F b21_0) _ _ = _)
  all_goals (generalize (lim F pr).call = call at *; generalize (lim F pr).loop = loop at *; generalize (lim F pr).seg = seg at *; generalize b21_0 = c0 at *; try generalize List.map eEntry = m0 at *; try generalize List.map ePeer = m1 at *; generalize Ops.std = o at *; cases o; try dsimp only at *)
  all_goals (repeat ((try cbv); first | rw [h1] | rw [h2]))
  all_goals (try cbv)

noncomputable def r27_Owner_l0_x (me : Peer) (γ : Nat → Nat) : ((List Peer) × Int) → X × St
  | (a0, a1) => (.brk 0, ⟨bd 6 (.bptr 1 0 :: .lit 25 false (List.map ePeer a0) :: vI a1 :: bd 32 []), [.box 25 [vU me.id, vH me.addr], .box 25 [vU 0, vH 0]]⟩)
instance {me : Peer} : InjS (r27_Owner_l0_x me) := ⟨fun γ γ' x y h => by
  rcases x with ⟨a0, a1⟩ <;> rcases y with ⟨a0', a1'⟩ <;> simp only [r27_Owner_l0_x, Prod.mk.injEq, St.mk.injEq, List.cons.injEq, AV.sc.injEq, AV.agg.injEq, AV.tup.injEq, AV.lit.injEq, AV.sl.injEq, AV.sub.injEq, AV.rptr.injEq, AV.lptr.injEq, AV.bptr.injEq, AV.fn.injEq, Ent.box.injEq, Ent.row.injEq, Value.int.injEq, Value.bool.injEq, Value.string.injEq, bd_inj, map_iff, eL_iff, and_true, true_and, and_assoc, reduceCtorEq, false_and, and_false, ePeer_iff, eEntry_iff] at h <;> simp_all⟩
noncomputable def r27_Owner_l0 (me : Peer) (key : Int) (all : List Peer) (best : Int) (i : Int) : Option (((List Peer) × Int)) := asks (fun γ => (lim F pr).loop [2, 9, 7, 8, 6] 2 b22_0 ⟨bd 2 (vU key :: bd 3 (.bptr 1 0 :: .lit 25 false (List.map ePeer all) :: vI best :: vI i :: bd 31 [])), [.box 25 [vU me.id, vH me.addr], .box 25 [vU 0, vH 0]]⟩) (r27_Owner_l0_x me)
noncomputable def r27_Owner_l0_b (me : Peer) (key : Int) (all : List Peer) (best : Int) (i : Int) : Option (((List Peer) × Int)) :=
  bif Ops.std.ilt i (xlen ePeer all) then
    (xget ePeer all i).bind fun x =>
    (r03_Dist key x.id).bind fun res =>
    (xget ePeer all best).bind fun x1 =>
    (r03_Dist key x1.id).bind fun res1 =>
    bif Ops.std.ilt res res1 then r27_Owner_l0 me key all i (Ops.std.iadd .i64 i 1) else
    r27_Owner_l0 me key all best (Ops.std.iadd .i64 i 1)
  else
    some (all, best)
theorem r27_Owner_l0_r {me : Peer} {key : Int} {all : List Peer} {best : Int} {i : Int} {r : ((List Peer) × Int)} (h : r27_Owner_l0_b me key all best i = some r) : r27_Owner_l0 me key all best i = some r := by
  unfold r27_Owner_l0_b at h
  refine asks_of fun γ => ?_
  replace h := cond_some h; rcases h with ⟨h1, h⟩ | ⟨h1, h⟩
  replace h := bind_some h; obtain ⟨x, h2, h⟩ := h
  replace h2 := ask_some h2
  replace h := bind_some h; obtain ⟨r3, h3, h⟩ := h
  replace h3 := ask_some h3
  obtain res := r3
  replace h := bind_some h; obtain ⟨x1, h4, h⟩ := h
  replace h4 := ask_some h4
  replace h := bind_some h; obtain ⟨r5, h5, h⟩ := h
  replace h5 := ask_some h5
  obtain res1 := r5
  replace h := cond_some h; rcases h with ⟨h6, h⟩ | ⟨h6, h⟩
  replace h := asks_some h (gam []); obtain ⟨γ', h0⟩ := h; refine ⟨γ', round_lim ?_⟩
  rotate_left
  replace h := asks_some h (gam []); obtain ⟨γ', h0⟩ := h; refine ⟨γ', round_lim ?_⟩
  rotate_left
  cases h; refine ⟨gam [], round_lim ?_⟩
  rotate_left
  all_goals (try dsimp only [bd, gam, xlen, xget, xsub, xroom, xsget, xssub, xsapp, eL, R1, r27_Owner_l0_x, ePeer, eEntry] at *)
  all_goals (try simp only [map_app, map_set, map_put, map_fil, List.map_cons, List.map_nil] at *)
  all_goals (try dsimp only [ePeer, eEntry] at *)
  all_goals (show roundAs ⟨Ops.std, (lim F pr).call, (lim F pr).loop, pr, (lim F pr).seg⟩ _ _ b22_0 b22_0F _ = _)
  all_goals (generalize (lim F pr).call = call at *; generalize (lim F pr).loop = loop at *; generalize (lim F pr).seg = seg at *; generalize b22_0 = c0 at *; try generalize List.map eEntry = m0 at *; try generalize List.map ePeer = m1 at *; generalize Ops.std = o at *; cases o; try dsimp only at *)
  all_goals (repeat ((try cbv); first | rw [h0] | rw [h1] | rw [h2] | rw [h3] | rw [h4] | rw [h5] | rw [h6]))
  all_goals (try cbv)

noncomputable def r27_Owner_b (me : Peer) (l : List Entry) (key : Int) : Option (Peer) :=
  (r27_Firm l).bind fun res =>
  bif xroom ePeer 16 [me] res then
    (r27_Owner_l0 me key ([me] ++ res) 0 1).bind fun ⟨all, best⟩ =>
    (xget ePeer all best).bind fun x =>
    some x
  else
    none
theorem r27_Owner_r {me : Peer} {l : List Entry} {key : Int} {r : Peer} (h : r27_Owner_b me l key = some r) : r27_Owner me l key = some r := by
  unfold r27_Owner_b at h
  refine ask_of ?_
  replace h := bind_some h; obtain ⟨r1, h1, h⟩ := h
  replace h1 := ask_some h1
  obtain res := r1
  replace h := need_some h; obtain ⟨h2, h⟩ := h
  replace h := bind_some h; obtain ⟨r3, h3, h⟩ := h
  replace h3 := asks_some h3 (gam []); obtain ⟨γ2, h3⟩ := h3
  rcases r3 with ⟨all, best⟩
  replace h := bind_some h; obtain ⟨x, h4, h⟩ := h
  replace h4 := ask_some h4
  cases h; refine call_lim rfl ?_
  rotate_left
  all_goals (try dsimp only [bd, gam, xlen, xget, xsub, xroom, xsget, xssub, xsapp, eL, R1, r27_Owner_l0_x, ePeer, eEntry] at *)
  all_goals (try simp only [map_app, map_set, map_put, map_fil, List.map_cons, List.map_nil] at *)
  all_goals (try dsimp only [ePeer, eEntry] at *)
  all_goals (show runFn ⟨Ops.std, (lim F pr).call, (lim F pr).loop, pr, (lim F pr).seg⟩ (g22F b22_0) _ _ = _)
  all_goals (generalize (lim F pr).call = call at *; generalize (lim F pr).loop = loop at *; generalize (lim F pr).seg = seg at *; generalize b22_0 = c0 at *; try generalize List.map eEntry = m0 at *; try generalize List.map ePeer = m1 at *; generalize Ops.std = o at *; cases o; try dsimp only at *)
  all_goals (repeat ((try cbv); first | rw [h1] | rw [h2] | rw [h3] | rw [h4]))
  all_goals (try cbv)

end Go.Ab.Try
