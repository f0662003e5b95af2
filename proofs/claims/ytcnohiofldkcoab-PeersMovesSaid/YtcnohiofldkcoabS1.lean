/- What each function comes to, and that its call does: printed by a program. -/
import Derived.Test.YtcnohiofldkcoabS0
namespace Go.Ab.Try
open Go Go.Ab Go.Proofs
set_option linter.unusedVariables false
set_option linter.unusedSimpArgs false
set_option maxRecDepth 10000



noncomputable def w27_PeersMoves_b (me : Peer) (l : List Entry) (p : Peer) : Option (Bool) :=
  bif Ops.std.ilt 60 (xlen eEntry l) then
    (w27_awake).bind fun res =>
    some res
  else
    bif xroom eEntry 24 [] l then
      (peers_Add me l p).bind fun res =>
      (r27_Add me l p).bind fun res1 =>
      (r27_Same res res1).bind fun res2 =>
      bif res2 then
        (peers_Miss l p.addr).bind fun res3 =>
        (r27_Miss l p.addr).bind fun res4 =>
        (r27_Same res3 res4).bind fun res5 =>
        bif res5 then
          (peers_Drop l p.addr).bind fun res6 =>
          (r27_Drop l p.addr).bind fun res7 =>
          (r27_Same res6 res7).bind fun res8 =>
          bif res8 then
            (r27_Same l l).bind fun res9 =>
            bif res9 then
              (w27_awake).bind fun res10 =>
              some res10
            else
              some false
          else
            some false
        else
          some false
      else
        some false
    else
      none
theorem w27_PeersMoves_r {me : Peer} {l : List Entry} {p : Peer} {r : Bool} (h : w27_PeersMoves_b me l p = some r) : w27_PeersMoves me l p = some r := by
  unfold w27_PeersMoves_b at h
  refine ask_of ?_
  replace h := cond_some h; rcases h with ⟨h1, h⟩ | ⟨h1, h⟩
  replace h := bind_some h; obtain ⟨r2, h2, h⟩ := h
  replace h2 := ask_some h2
  obtain res := r2
  cases h; refine call_lim rfl ?_
  rotate_left
  replace h := need_some h; obtain ⟨h2, h⟩ := h
  replace h := bind_some h; obtain ⟨r3, h3, h⟩ := h
  replace h3 := ask_some h3
  obtain res := r3
  replace h := bind_some h; obtain ⟨r4, h4, h⟩ := h
  replace h4 := ask_some h4
  obtain res1 := r4
  replace h := bind_some h; obtain ⟨r5, h5, h⟩ := h
  replace h5 := ask_some h5
  obtain res2 := r5
  replace h := cond_some h; rcases h with ⟨h6, h⟩ | ⟨h6, h⟩
  replace h := bind_some h; obtain ⟨r7, h7, h⟩ := h
  replace h7 := ask_some h7
  obtain res3 := r7
  replace h := bind_some h; obtain ⟨r8, h8, h⟩ := h
  replace h8 := ask_some h8
  obtain res4 := r8
  replace h := bind_some h; obtain ⟨r9, h9, h⟩ := h
  replace h9 := ask_some h9
  obtain res5 := r9
  replace h := cond_some h; rcases h with ⟨h10, h⟩ | ⟨h10, h⟩
  replace h := bind_some h; obtain ⟨r11, h11, h⟩ := h
  replace h11 := ask_some h11
  obtain res6 := r11
  replace h := bind_some h; obtain ⟨r12, h12, h⟩ := h
  replace h12 := ask_some h12
  obtain res7 := r12
  replace h := bind_some h; obtain ⟨r13, h13, h⟩ := h
  replace h13 := ask_some h13
  obtain res8 := r13
  replace h := cond_some h; rcases h with ⟨h14, h⟩ | ⟨h14, h⟩
  replace h := bind_some h; obtain ⟨r15, h15, h⟩ := h
  replace h15 := ask_some h15
  obtain res9 := r15
  replace h := cond_some h; rcases h with ⟨h16, h⟩ | ⟨h16, h⟩
  replace h := bind_some h; obtain ⟨r17, h17, h⟩ := h
  replace h17 := ask_some h17
  obtain res10 := r17
  cases h; refine call_lim rfl ?_
  rotate_left
  cases h; refine call_lim rfl ?_
  rotate_left
  cases h; refine call_lim rfl ?_
  rotate_left
  cases h; refine call_lim rfl ?_
  rotate_left
  cases h; refine call_lim rfl ?_
  rotate_left
  all_goals (try dsimp only [bd, gam, xlen, xget, xsub, xroom, xsget, xssub, xsapp, eL, K1, R1, ePeer, eEntry] at *)
  all_goals (try simp only [map_app, map_set, map_put, map_fil, List.map_cons, List.map_nil] at *)
  all_goals (try dsimp only [ePeer, eEntry] at *)
  all_goals (show runFn ⟨Ops.std, (lim F pr).call, (lim F pr).loop, pr, (lim F pr).seg⟩ g3F _ _ = _)
  all_goals (generalize (lim F pr).call = call at *; generalize (lim F pr).loop = loop at *; generalize (lim F pr).seg = seg at *; try generalize List.map eEntry = m0 at *; try generalize List.map ePeer = m1 at *; generalize Ops.std = o at *; cases o; try dsimp only at *)
  all_goals (repeat ((try cbv); first | rw [h1] | rw [h2] | rw [h3] | rw [h4] | rw [h5] | rw [h6] | rw [h7] | rw [h8] | rw [h9] | rw [h10] | rw [h11] | rw [h12] | rw [h13] | rw [h14] | rw [h15] | rw [h16] | rw [h17]))
  all_goals (try cbv)

noncomputable def w27_PeersTells_s0_x (me : Peer) (a : Peer) (b : Peer) (γ : Nat → Nat) : Bool → X × St
  | a0 => (.ret, ⟨bd 10 (vF a0 :: bd 63 []), [.box 25 [vU me.id, vH me.addr], .box 25 [vU a.id, vH a.addr], .box 25 [vU b.id, vH b.addr]]⟩)
instance {me : Peer} {a : Peer} {b : Peer} : InjS (w27_PeersTells_s0_x me a b) := ⟨fun γ γ' x y h => by
  rcases x with a0 <;> rcases y with a0' <;> simp only [w27_PeersTells_s0_x, Prod.mk.injEq, St.mk.injEq, List.cons.injEq, AV.sc.injEq, AV.agg.injEq, AV.tup.injEq, AV.lit.injEq, AV.sl.injEq, AV.sub.injEq, AV.rptr.injEq, AV.lptr.injEq, AV.bptr.injEq, AV.fn.injEq, Ent.box.injEq, Ent.row.injEq, Value.int.injEq, Value.bool.injEq, Value.string.injEq, bd_inj, map_iff, eL_iff, and_true, true_and, and_assoc, reduceCtorEq, false_and, and_false, ePeer_iff, eEntry_iff] at h <;> simp_all⟩
noncomputable def w27_PeersTells_s0 (me : Peer) (l : List Entry) (a : Peer) (b : Peer) (ok : Bool) : Option (Bool) := asks (fun γ => (lim F pr).seg [10] b4_0 ⟨bd 1 (.lit 41 false (List.map eEntry l) :: bd 9 (vF ok :: bd 62 [])), [.box 25 [vU me.id, vH me.addr], .box 25 [vU a.id, vH a.addr], .box 25 [vU b.id, vH b.addr]]⟩) (w27_PeersTells_s0_x me a b)
noncomputable def w27_PeersTells_s0_b (me : Peer) (l : List Entry) (a : Peer) (b : Peer) (ok : Bool) : Option (Bool) :=
  bif ok then
    (peers_Firm l).bind fun res =>
    (r27_Firm l).bind fun res1 =>
    (r08_Peers res res1).bind fun res2 =>
    bif res2 then
      (peers_All l).bind fun res3 =>
      (r27_All l).bind fun res4 =>
      (r08_Peers res3 res4).bind fun res5 =>
      bif res5 then
        (w27_awake).bind fun res6 =>
        some res6
      else
        some false
    else
      some false
  else
    some false
theorem w27_PeersTells_s0_r {me : Peer} {l : List Entry} {a : Peer} {b : Peer} {ok : Bool} {r : Bool} (h : w27_PeersTells_s0_b me l a b ok = some r) : w27_PeersTells_s0 me l a b ok = some r := by
  unfold w27_PeersTells_s0_b at h
  refine asks_of fun γ => ?_
  replace h := cond_some h; rcases h with ⟨h1, h⟩ | ⟨h1, h⟩
  replace h := bind_some h; obtain ⟨r2, h2, h⟩ := h
  replace h2 := ask_some h2
  obtain res := r2
  replace h := bind_some h; obtain ⟨r3, h3, h⟩ := h
  replace h3 := ask_some h3
  obtain res1 := r3
  replace h := bind_some h; obtain ⟨r4, h4, h⟩ := h
  replace h4 := ask_some h4
  obtain res2 := r4
  replace h := cond_some h; rcases h with ⟨h5, h⟩ | ⟨h5, h⟩
  replace h := bind_some h; obtain ⟨r6, h6, h⟩ := h
  replace h6 := ask_some h6
  obtain res3 := r6
  replace h := bind_some h; obtain ⟨r7, h7, h⟩ := h
  replace h7 := ask_some h7
  obtain res4 := r7
  replace h := bind_some h; obtain ⟨r8, h8, h⟩ := h
  replace h8 := ask_some h8
  obtain res5 := r8
  replace h := cond_some h; rcases h with ⟨h9, h⟩ | ⟨h9, h⟩
  replace h := bind_some h; obtain ⟨r10, h10, h⟩ := h
  replace h10 := ask_some h10
  obtain res6 := r10
  cases h; refine ⟨gam [], seg_lim ?_⟩
  rotate_left
  cases h; refine ⟨gam [], seg_lim ?_⟩
  rotate_left
  cases h; refine ⟨gam [], seg_lim ?_⟩
  rotate_left
  cases h; refine ⟨gam [], seg_lim ?_⟩
  rotate_left
  all_goals (try dsimp only [bd, gam, xlen, xget, xsub, xroom, xsget, xssub, xsapp, eL, R1, w27_PeersTells_s0_x, ePeer, eEntry] at *)
  all_goals (try simp only [map_app, map_set, map_put, map_fil, List.map_cons, List.map_nil] at *)
  all_goals (try dsimp only [ePeer, eEntry] at *)
  all_goals (show Ifc.apart ⟨Ops.std, (lim F pr).call, (lim F pr).loop, pr, (lim F pr).seg⟩ _ b4_0F _ = _)
  all_goals (generalize (lim F pr).call = call at *; generalize (lim F pr).loop = loop at *; generalize (lim F pr).seg = seg at *; try generalize List.map eEntry = m0 at *; try generalize List.map ePeer = m1 at *; generalize Ops.std = o at *; cases o; try dsimp only at *)
  all_goals (repeat ((try cbv); first | rw [h0] | rw [h1] | rw [h2] | rw [h3] | rw [h4] | rw [h5] | rw [h6] | rw [h7] | rw [h8] | rw [h9] | rw [h10]))
  all_goals (try cbv)

noncomputable def w27_PeersTells_b (me : Peer) (l : List Entry) (a : Peer) (b : Peer) (key : Int) : Option (Bool) :=
  bif Ops.std.ilt 60 (xlen eEntry l) then
    (w27_awake).bind fun res =>
    some res
  else
    (peers_Place l a.addr).bind fun res =>
    (r27_Place l a.addr).bind fun res1 =>
    bif Ops.std.ieq res res1 then
      (peers_Right me l).bind fun res2 =>
      (r27_Right me l).bind fun res3 =>
      bif Ops.std.beq res2 res3 then
        (peers_Ahead me a b).bind fun res4 =>
        (r27_Ahead me a b).bind fun res5 =>
        bif Ops.std.beq res4 res5 then
          (peers_Owner me l key).bind fun res6 =>
          (r27_Owner me l key).bind fun res7 =>
          bif Ops.std.ieq res6.id res7.id then
            bif Ops.std.ieq res6.addr res7.addr then
              (w27_PeersTells_s0 me l a b true).bind fun t10 =>
              some t10
            else
              (w27_PeersTells_s0 me l a b false).bind fun t10 =>
              some t10
          else
            (w27_PeersTells_s0 me l a b false).bind fun t10 =>
            some t10
        else
          (w27_PeersTells_s0 me l a b false).bind fun t10 =>
          some t10
      else
        (w27_PeersTells_s0 me l a b false).bind fun t10 =>
        some t10
    else
      (w27_PeersTells_s0 me l a b false).bind fun t10 =>
      some t10
theorem w27_PeersTells_r {me : Peer} {l : List Entry} {a : Peer} {b : Peer} {key : Int} {r : Bool} (h : w27_PeersTells_b me l a b key = some r) : w27_PeersTells me l a b key = some r := by
  unfold w27_PeersTells_b at h
  refine ask_of ?_
  replace h := cond_some h; rcases h with ⟨h1, h⟩ | ⟨h1, h⟩
  replace h := bind_some h; obtain ⟨r2, h2, h⟩ := h
  replace h2 := ask_some h2
  obtain res := r2
  cases h; refine call_lim rfl ?_
  rotate_left
  replace h := bind_some h; obtain ⟨r2, h2, h⟩ := h
  replace h2 := ask_some h2
  obtain res := r2
  replace h := bind_some h; obtain ⟨r3, h3, h⟩ := h
  replace h3 := ask_some h3
  obtain res1 := r3
  replace h := cond_some h; rcases h with ⟨h4, h⟩ | ⟨h4, h⟩
  replace h := bind_some h; obtain ⟨r5, h5, h⟩ := h
  replace h5 := ask_some h5
  obtain res2 := r5
  replace h := bind_some h; obtain ⟨r6, h6, h⟩ := h
  replace h6 := ask_some h6
  obtain res3 := r6
  replace h := cond_some h; rcases h with ⟨h7, h⟩ | ⟨h7, h⟩
  replace h := bind_some h; obtain ⟨r8, h8, h⟩ := h
  replace h8 := ask_some h8
  obtain res4 := r8
  replace h := bind_some h; obtain ⟨r9, h9, h⟩ := h
  replace h9 := ask_some h9
  obtain res5 := r9
  replace h := cond_some h; rcases h with ⟨h10, h⟩ | ⟨h10, h⟩
  replace h := bind_some h; obtain ⟨r11, h11, h⟩ := h
  replace h11 := ask_some h11
  obtain res6 := r11
  replace h := bind_some h; obtain ⟨r12, h12, h⟩ := h
  replace h12 := ask_some h12
  obtain res7 := r12
  replace h := cond_some h; rcases h with ⟨h13, h⟩ | ⟨h13, h⟩
  replace h := cond_some h; rcases h with ⟨h14, h⟩ | ⟨h14, h⟩
  replace h := bind_some h; obtain ⟨r15, h15, h⟩ := h
  replace h15 := asks_some h15 (gam []); obtain ⟨γ9, h15⟩ := h15
  obtain t10 := r15
  cases h; refine call_lim rfl ?_
  rotate_left
  replace h := bind_some h; obtain ⟨r15, h15, h⟩ := h
  replace h15 := asks_some h15 (gam []); obtain ⟨γ9, h15⟩ := h15
  obtain t10 := r15
  cases h; refine call_lim rfl ?_
  rotate_left
  replace h := bind_some h; obtain ⟨r14, h14, h⟩ := h
  replace h14 := asks_some h14 (gam []); obtain ⟨γ9, h14⟩ := h14
  obtain t10 := r14
  cases h; refine call_lim rfl ?_
  rotate_left
  replace h := bind_some h; obtain ⟨r11, h11, h⟩ := h
  replace h11 := asks_some h11 (gam []); obtain ⟨γ7, h11⟩ := h11
  obtain t10 := r11
  cases h; refine call_lim rfl ?_
  rotate_left
  replace h := bind_some h; obtain ⟨r8, h8, h⟩ := h
  replace h8 := asks_some h8 (gam []); obtain ⟨γ5, h8⟩ := h8
  obtain t10 := r8
  cases h; refine call_lim rfl ?_
  rotate_left
  replace h := bind_some h; obtain ⟨r5, h5, h⟩ := h
  replace h5 := asks_some h5 (gam []); obtain ⟨γ3, h5⟩ := h5
  obtain t10 := r5
  cases h; refine call_lim rfl ?_
  rotate_left
  all_goals (try dsimp only [bd, gam, xlen, xget, xsub, xroom, xsget, xssub, xsapp, eL, R1, w27_PeersTells_s0_x, ePeer, eEntry] at *)
  all_goals (try simp only [map_app, map_set, map_put, map_fil, List.map_cons, List.map_nil] at *)
  all_goals (try dsimp only [ePeer, eEntry] at *)
  all_goals (show runFn ⟨Ops.std, (lim F pr).call, (lim F pr).loop, pr, (lim F pr).seg⟩ (g4F b4_0) _ _ = _)
  all_goals (generalize (lim F pr).call = call at *; generalize (lim F pr).loop = loop at *; generalize (lim F pr).seg = seg at *; generalize b4_0 = c0 at *; try generalize List.map eEntry = m0 at *; try generalize List.map ePeer = m1 at *; generalize Ops.std = o at *; cases o; try dsimp only at *)
  all_goals (repeat ((try cbv); first | rw [h1] | rw [h2] | rw [h3] | rw [h4] | rw [h5] | rw [h6] | rw [h7] | rw [h8] | rw [h9] | rw [h10] | rw [h11] | rw [h12] | rw [h13] | rw [h14] | rw [h15]))
  all_goals (try cbv)

noncomputable def w27_PeersStay_s1_x (me : Peer) (p : Peer) (γ : Nat → Nat) : (Bool × (List Entry)) ⊕ ((Bool × (List Entry) × (List Entry)) ⊕ Unit) → X × St
  | .inl (a0, a1) => (.ret, ⟨bd 6 (vF a0 :: bd 102 []), [.box 25 [vU me.id, vH me.addr], .box 25 [vU p.id, vH p.addr], .row 41 (γ 2) false (List.map eEntry a1)]⟩)
  | .inr (.inl (b0, b1, b2)) => (.ret, ⟨bd 6 (vF b0 :: bd 102 []), [.box 25 [vU me.id, vH me.addr], .box 25 [vU p.id, vH p.addr], .row 41 (γ 2) false (List.map eEntry b1), .row 41 (γ 3) false (List.map eEntry b2)]⟩)
  | .inr (.inr ()) => (.ret, ⟨bd 6 (vF false :: bd 102 []), [.box 25 [vU me.id, vH me.addr], .box 25 [vU p.id, vH p.addr]]⟩)
instance {me : Peer} {p : Peer} : InjS (w27_PeersStay_s1_x me p) := ⟨fun γ γ' x y h => by
  rcases x with ⟨a0, a1⟩ | ⟨b0, b1, b2⟩ | _ <;> rcases y with ⟨a0', a1'⟩ | ⟨b0', b1', b2'⟩ | _ <;> simp only [w27_PeersStay_s1_x, Prod.mk.injEq, St.mk.injEq, List.cons.injEq, AV.sc.injEq, AV.agg.injEq, AV.tup.injEq, AV.lit.injEq, AV.sl.injEq, AV.sub.injEq, AV.rptr.injEq, AV.lptr.injEq, AV.bptr.injEq, AV.fn.injEq, Ent.box.injEq, Ent.row.injEq, Value.int.injEq, Value.bool.injEq, Value.string.injEq, bd_inj, map_iff, eL_iff, and_true, true_and, and_assoc, reduceCtorEq, false_and, and_false, ePeer_iff, eEntry_iff] at h <;> simp_all⟩
noncomputable def w27_PeersStay_s1 (me : Peer) (l : List Entry) (p : Peer) : Option ((Bool × (List Entry)) ⊕ ((Bool × (List Entry) × (List Entry)) ⊕ Unit)) := asks (fun γ => (lim F pr).seg [6] b5_1 ⟨bd 1 (.lit 41 false (List.map eEntry l) :: bd 1 (.bptr 0 0 :: bd 1 (.bptr 1 0 :: bd 103 []))), [.box 25 [vU me.id, vH me.addr], .box 25 [vU p.id, vH p.addr]]⟩) (w27_PeersStay_s1_x me p)
noncomputable def w27_PeersStay_s0_x (me : Peer) (p : Peer) (γ : Nat → Nat) : (Bool × (List Entry)) ⊕ (Bool × (List Entry) × (List Entry)) → X × St
  | .inl (a0, a1) => (.ret, ⟨bd 6 (vF a0 :: bd 102 []), [.box 25 [vU me.id, vH me.addr], .box 25 [vU p.id, vH p.addr], .row 41 (γ 2) false (List.map eEntry a1)]⟩)
  | .inr (b0, b1, b2) => (.ret, ⟨bd 6 (vF b0 :: bd 102 []), [.box 25 [vU me.id, vH me.addr], .box 25 [vU p.id, vH p.addr], .row 41 (γ 2) false (List.map eEntry b1), .row 41 (γ 3) false (List.map eEntry b2)]⟩)
instance {me : Peer} {p : Peer} : InjS (w27_PeersStay_s0_x me p) := ⟨fun γ γ' x y h => by
  rcases x with ⟨a0, a1⟩ | ⟨b0, b1, b2⟩ <;> rcases y with ⟨a0', a1'⟩ | ⟨b0', b1', b2'⟩ <;> simp only [w27_PeersStay_s0_x, Prod.mk.injEq, St.mk.injEq, List.cons.injEq, AV.sc.injEq, AV.agg.injEq, AV.tup.injEq, AV.lit.injEq, AV.sl.injEq, AV.sub.injEq, AV.rptr.injEq, AV.lptr.injEq, AV.bptr.injEq, AV.fn.injEq, Ent.box.injEq, Ent.row.injEq, Value.int.injEq, Value.bool.injEq, Value.string.injEq, bd_inj, map_iff, eL_iff, and_true, true_and, and_assoc, reduceCtorEq, false_and, and_false, ePeer_iff, eEntry_iff] at h <;> simp_all⟩
noncomputable def w27_PeersStay_s0 (me : Peer) (l : List Entry) (p : Peer) (a : List Entry) (r2 : List Entry) : Option ((Bool × (List Entry)) ⊕ (Bool × (List Entry) × (List Entry))) := asks (fun γ => (lim F pr).seg [6] b5_0 ⟨bd 1 (.lit 41 false (List.map eEntry l) :: bd 1 (.bptr 0 0 :: bd 1 (.bptr 1 0 :: bd 1 (.lit 41 false (List.map eEntry a) :: bd 101 [])))), [.box 25 [vU me.id, vH me.addr], .box 25 [vU p.id, vH p.addr], .row 41 (γ 2) false (List.map eEntry r2)]⟩) (w27_PeersStay_s0_x me p)
noncomputable def w27_PeersStay_s1_b (me : Peer) (l : List Entry) (p : Peer) : Option ((Bool × (List Entry)) ⊕ ((Bool × (List Entry) × (List Entry)) ⊕ Unit)) :=
  (peers_Add me l p).bind fun res =>
  (peers_Right me res).bind fun res1 =>
  bif res1 then
    (peers_Miss l p.addr).bind fun res2 =>
    (peers_Right me res2).bind fun res3 =>
    bif res3 then
      (peers_Drop l p.addr).bind fun res4 =>
      (peers_Right me res4).bind fun res5 =>
      bif res5 then
        (w27_PeersStay_s0 me l p res res4).bind fun r => match r with
          | .inl (t6, r2) =>
            some (.inl (t6, r2))
          | .inr (t6, r2, r3) =>
            some (.inr (.inl (t6, r2, r3)))
      else
        some (.inl (false, res4))
    else
      some (.inr (.inr ()))
  else
    some (.inr (.inr ()))
theorem w27_PeersStay_s1_r {me : Peer} {l : List Entry} {p : Peer} {r : (Bool × (List Entry)) ⊕ ((Bool × (List Entry) × (List Entry)) ⊕ Unit)} (h : w27_PeersStay_s1_b me l p = some r) : w27_PeersStay_s1 me l p = some r := by
  unfold w27_PeersStay_s1_b at h
  refine asks_of fun γ => ?_
  replace h := bind_some h; obtain ⟨r1, h1, h⟩ := h
  replace h1 := ask_some h1
  obtain res := r1
  replace h := bind_some h; obtain ⟨r2, h2, h⟩ := h
  replace h2 := ask_some h2
  obtain res1 := r2
  replace h := cond_some h; rcases h with ⟨h3, h⟩ | ⟨h3, h⟩
  replace h := bind_some h; obtain ⟨r4, h4, h⟩ := h
  replace h4 := ask_some h4
  obtain res2 := r4
  replace h := bind_some h; obtain ⟨r5, h5, h⟩ := h
  replace h5 := ask_some h5
  obtain res3 := r5
  replace h := cond_some h; rcases h with ⟨h6, h⟩ | ⟨h6, h⟩
  replace h := bind_some h; obtain ⟨r7, h7, h⟩ := h
  replace h7 := ask_some h7
  obtain res4 := r7
  replace h := bind_some h; obtain ⟨r8, h8, h⟩ := h
  replace h8 := ask_some h8
  obtain res5 := r8
  replace h := cond_some h; rcases h with ⟨h9, h⟩ | ⟨h9, h⟩
  replace h := bind_some h; obtain ⟨r10, h10, h⟩ := h
  replace h10 := asks_some h10 (gam [0, 0, 0]); obtain ⟨γ7, h10⟩ := h10
  rcases r10 with ⟨t6, r2⟩ | ⟨t6, r2, r3⟩
  cases h; refine ⟨gam [0, 0, (γ7 2)], seg_lim ?_⟩
  rotate_left
  cases h; refine ⟨gam [0, 0, (γ7 2), (γ7 3)], seg_lim ?_⟩
  rotate_left
  cases h; refine ⟨gam [0, 0, 0], seg_lim ?_⟩
  rotate_left
  cases h; refine ⟨gam [], seg_lim ?_⟩
  rotate_left
  cases h; refine ⟨gam [], seg_lim ?_⟩
  rotate_left
  all_goals (try dsimp only [bd, gam, xlen, xget, xsub, xroom, xsget, xssub, xsapp, eL, K1, R1, w27_PeersStay_s0_x, w27_PeersStay_s1_x, ePeer, eEntry] at *)
  all_goals (try simp only [map_app, map_set, map_put, map_fil, List.map_cons, List.map_nil] at *)
  all_goals (try dsimp only [ePeer, eEntry] at *)
  all_goals (show Ifc.apart ⟨Ops.std, (lim F pr).call, (lim F pr).loop, pr, (lim F pr).seg⟩ _ (b5_1F b5_0) _ = _)
  all_goals (generalize (lim F pr).call = call at *; generalize (lim F pr).loop = loop at *; generalize (lim F pr).seg = seg at *; generalize b5_0 = c0 at *; try generalize List.map eEntry = m0 at *; try generalize List.map ePeer = m1 at *; generalize Ops.std = o at *; cases o; try dsimp only at *)
  all_goals (repeat ((try cbv); first | rw [h0] | rw [h1] | rw [h2] | rw [h3] | rw [h4] | rw [h5] | rw [h6] | rw [h7] | rw [h8] | rw [h9] | rw [h10]))
  all_goals (try cbv)

noncomputable def w27_PeersStay_s0_b (me : Peer) (l : List Entry) (p : Peer) (a : List Entry) (r2 : List Entry) : Option ((Bool × (List Entry)) ⊕ (Bool × (List Entry) × (List Entry))) :=
  (peers_Place a p.addr).bind fun res =>
  bif Ops.std.ieq p.addr me.addr then
    bif Ops.std.ilt res 0 then
      (r27_Same a l).bind fun res1 =>
      bif res1 then
        (w27_awake).bind fun res2 =>
        some (.inl (res2, r2))
      else
        some (.inl (false, r2))
    else
      some (.inl (false, r2))
  else
    bif Ops.std.ilt res 0 then
      bif Ops.std.ieq (xlen eEntry a) 15 then
        (xget eEntry a 14).bind fun x =>
        (peers_Ahead me x.peer p).bind fun res1 =>
        bif res1 then
          (w27_awake).bind fun res2 =>
          some (.inl (res2, r2))
        else
          some (.inl (false, r2))
      else
        some (.inl (false, r2))
    else
      (xget eEntry a res).bind fun x =>
      bif Ops.std.ieq x.peer.id p.id then
        bif Ops.std.ieq x.peer.addr p.addr then
          bif Ops.std.ieq x.misses 0 then
            (peers_Drop a p.addr).bind fun res1 =>
            (peers_Place res1 p.addr).bind fun res2 =>
            bif Ops.std.ilt res2 0 then
              (w27_awake).bind fun res3 =>
              some (.inr (res3, r2, res1))
            else
              some (.inr (false, r2, res1))
          else
            some (.inl (false, r2))
        else
          some (.inl (false, r2))
      else
        some (.inl (false, r2))
theorem w27_PeersStay_s0_r {me : Peer} {l : List Entry} {p : Peer} {a : List Entry} {r2 : List Entry} {r : (Bool × (List Entry)) ⊕ (Bool × (List Entry) × (List Entry))} (h : w27_PeersStay_s0_b me l p a r2 = some r) : w27_PeersStay_s0 me l p a r2 = some r := by
  unfold w27_PeersStay_s0_b at h
  refine asks_of fun γ => ?_
  replace h := bind_some h; obtain ⟨r1, h1, h⟩ := h
  replace h1 := ask_some h1
  obtain res := r1
  replace h := cond_some h; rcases h with ⟨h2, h⟩ | ⟨h2, h⟩
  replace h := cond_some h; rcases h with ⟨h3, h⟩ | ⟨h3, h⟩
  replace h := bind_some h; obtain ⟨r4, h4, h⟩ := h
  replace h4 := ask_some h4
  obtain res1 := r4
  replace h := cond_some h; rcases h with ⟨h5, h⟩ | ⟨h5, h⟩
  replace h := bind_some h; obtain ⟨r6, h6, h⟩ := h
  replace h6 := ask_some h6
  obtain res2 := r6
  cases h; refine ⟨gam [0, 0, (γ 2)], seg_lim ?_⟩
  rotate_left
  cases h; refine ⟨gam [0, 0, (γ 2)], seg_lim ?_⟩
  rotate_left
  cases h; refine ⟨gam [0, 0, (γ 2)], seg_lim ?_⟩
  rotate_left
  replace h := cond_some h; rcases h with ⟨h3, h⟩ | ⟨h3, h⟩
  replace h := cond_some h; rcases h with ⟨h4, h⟩ | ⟨h4, h⟩
  replace h := bind_some h; obtain ⟨x, h5, h⟩ := h
  replace h5 := ask_some h5
  replace h := bind_some h; obtain ⟨r6, h6, h⟩ := h
  replace h6 := ask_some h6
  obtain res1 := r6
  replace h := cond_some h; rcases h with ⟨h7, h⟩ | ⟨h7, h⟩
  replace h := bind_some h; obtain ⟨r8, h8, h⟩ := h
  replace h8 := ask_some h8
  obtain res2 := r8
  cases h; refine ⟨gam [0, 0, (γ 2)], seg_lim ?_⟩
  rotate_left
  cases h; refine ⟨gam [0, 0, (γ 2)], seg_lim ?_⟩
  rotate_left
  cases h; refine ⟨gam [0, 0, (γ 2)], seg_lim ?_⟩
  rotate_left
  replace h := bind_some h; obtain ⟨x, h4, h⟩ := h
  replace h4 := ask_some h4
  replace h := cond_some h; rcases h with ⟨h5, h⟩ | ⟨h5, h⟩
  replace h := cond_some h; rcases h with ⟨h6, h⟩ | ⟨h6, h⟩
  replace h := cond_some h; rcases h with ⟨h7, h⟩ | ⟨h7, h⟩
  replace h := bind_some h; obtain ⟨r8, h8, h⟩ := h
  replace h8 := ask_some h8
  obtain res1 := r8
  replace h := bind_some h; obtain ⟨r9, h9, h⟩ := h
  replace h9 := ask_some h9
  obtain res2 := r9
  replace h := cond_some h; rcases h with ⟨h10, h⟩ | ⟨h10, h⟩
  replace h := bind_some h; obtain ⟨r11, h11, h⟩ := h
  replace h11 := ask_some h11
  obtain res3 := r11
  cases h; refine ⟨gam [0, 0, (γ 2), 0], seg_lim ?_⟩
  rotate_left
  cases h; refine ⟨gam [0, 0, (γ 2), 0], seg_lim ?_⟩
  rotate_left
  cases h; refine ⟨gam [0, 0, (γ 2)], seg_lim ?_⟩
  rotate_left
  cases h; refine ⟨gam [0, 0, (γ 2)], seg_lim ?_⟩
  rotate_left
  cases h; refine ⟨gam [0, 0, (γ 2)], seg_lim ?_⟩
  rotate_left
  all_goals (try dsimp only [bd, gam, xlen, xget, xsub, xroom, xsget, xssub, xsapp, eL, K1, R1, w27_PeersStay_s0_x, ePeer, eEntry] at *)
  all_goals (try simp only [map_app, map_set, map_put, map_fil, List.map_cons, List.map_nil] at *)
  all_goals (try dsimp only [ePeer, eEntry] at *)
  all_goals (show Ifc.apart ⟨Ops.std, (lim F pr).call, (lim F pr).loop, pr, (lim F pr).seg⟩ _ b5_0F _ = _)
  all_goals (generalize (lim F pr).call = call at *; generalize (lim F pr).loop = loop at *; generalize (lim F pr).seg = seg at *; try generalize List.map eEntry = m0 at *; try generalize List.map ePeer = m1 at *; generalize Ops.std = o at *; cases o; try dsimp only at *)
  all_goals (repeat ((try cbv); first | rw [h0] | rw [h1] | rw [h2] | rw [h3] | rw [h4] | rw [h5] | rw [h6] | rw [h7] | rw [h8] | rw [h9] | rw [h10] | rw [h11]))
  all_goals (try cbv)

noncomputable def w27_PeersStay_b (me : Peer) (l : List Entry) (p : Peer) : Option (Bool) :=
  bif Ops.std.ilt 60 (xlen eEntry l) then
    (w27_awake).bind fun res =>
    some res
  else
    (peers_Right me l).bind fun res =>
    bif res then
      (w27_PeersStay_s1 me l p).bind fun r => match r with
        | .inl (t6, r2) =>
          some t6
        | .inr (.inl (t6, r2, r3)) =>
          some t6
        | .inr (.inr ()) =>
          some false
    else
      (w27_awake).bind fun res1 =>
      some res1
theorem w27_PeersStay_r {me : Peer} {l : List Entry} {p : Peer} {r : Bool} (h : w27_PeersStay_b me l p = some r) : w27_PeersStay me l p = some r := by
  unfold w27_PeersStay_b at h
  refine ask_of ?_
  replace h := cond_some h; rcases h with ⟨h1, h⟩ | ⟨h1, h⟩
  replace h := bind_some h; obtain ⟨r2, h2, h⟩ := h
  replace h2 := ask_some h2
  obtain res := r2
  cases h; refine call_lim rfl ?_
  rotate_left
  replace h := bind_some h; obtain ⟨r2, h2, h⟩ := h
  replace h2 := ask_some h2
  obtain res := r2
  replace h := cond_some h; rcases h with ⟨h3, h⟩ | ⟨h3, h⟩
  replace h := bind_some h; obtain ⟨r4, h4, h⟩ := h
  replace h4 := asks_some h4 (gam []); obtain ⟨γ2, h4⟩ := h4
  rcases r4 with ⟨t6, r2⟩ | ⟨t6, r2, r3⟩ | _
  cases h; refine call_lim rfl ?_
  rotate_left
  cases h; refine call_lim rfl ?_
  rotate_left
  cases h; refine call_lim rfl ?_
  rotate_left
  replace h := bind_some h; obtain ⟨r4, h4, h⟩ := h
  replace h4 := ask_some h4
  obtain res1 := r4
  cases h; refine call_lim rfl ?_
  rotate_left
  all_goals (try dsimp only [bd, gam, xlen, xget, xsub, xroom, xsget, xssub, xsapp, eL, R1, w27_PeersStay_s1_x, ePeer, eEntry] at *)
  all_goals (try simp only [map_app, map_set, map_put, map_fil, List.map_cons, List.map_nil] at *)
  all_goals (try dsimp only [ePeer, eEntry] at *)
  all_goals (show runFn ⟨Ops.std, (lim F pr).call, (lim F pr).loop, pr, (lim F pr).seg⟩ (g5F b5_1) _ _ = _)
  all_goals (generalize (lim F pr).call = call at *; generalize (lim F pr).loop = loop at *; generalize (lim F pr).seg = seg at *; generalize b5_1 = c0 at *; try generalize List.map eEntry = m0 at *; try generalize List.map ePeer = m1 at *; generalize Ops.std = o at *; cases o; try dsimp only at *)
  all_goals (repeat ((try cbv); first | rw [h1] | rw [h2] | rw [h3] | rw [h4]))
  all_goals (try cbv)

noncomputable def peers_Add_s1_x (me : Peer) (l : List Entry) (p : Peer) (γ : Nat → Nat) : (Int × (List Entry)) → X × St
  | (a0, a1) => (.ret, ⟨bd 6 (.sub 4 ((γ 4)) (0) (a0) :: bd 57 []), [.box 25 [vU me.id, vH me.addr], .box 25 [vU p.id, vH p.addr], .row 41 (γ 2) false (List.map eEntry []), .row 41 (γ 3) true (List.map eEntry l), .row 41 (γ 4) false (List.map eEntry a1)]⟩)
instance {me : Peer} {l : List Entry} {p : Peer} : InjS (peers_Add_s1_x me l p) := ⟨fun γ γ' x y h => by
  rcases x with ⟨a0, a1⟩ <;> rcases y with ⟨a0', a1'⟩ <;> simp only [peers_Add_s1_x, Prod.mk.injEq, St.mk.injEq, List.cons.injEq, AV.sc.injEq, AV.agg.injEq, AV.tup.injEq, AV.lit.injEq, AV.sl.injEq, AV.sub.injEq, AV.rptr.injEq, AV.lptr.injEq, AV.bptr.injEq, AV.fn.injEq, Ent.box.injEq, Ent.row.injEq, Value.int.injEq, Value.bool.injEq, Value.string.injEq, bd_inj, map_iff, eL_iff, and_true, true_and, and_assoc, reduceCtorEq, false_and, and_false, ePeer_iff, eEntry_iff] at h <;> simp_all⟩
noncomputable def peers_Add_s1 (me : Peer) (l : List Entry) (p : Peer) : Option ((Int × (List Entry))) := asks (fun γ => (lim F pr).seg [6] b9_1 ⟨bd 3 (.bptr 0 0 :: bd 1 (.bptr 1 0 :: bd 1 (.sl 3 ((γ 3)) :: bd 56 []))), [.box 25 [vU me.id, vH me.addr], .box 25 [vU p.id, vH p.addr], .row 41 (γ 2) false (List.map eEntry []), .row 41 (γ 3) false (List.map eEntry l)]⟩) (peers_Add_s1_x me l p)
noncomputable def peers_Add_s0_x (me : Peer) (l : List Entry) (p : Peer) (γ : Nat → Nat) : (Int × (List Entry)) → X × St
  | (a0, a1) => (.ret, ⟨bd 6 (.sub 4 ((γ 4)) (0) (a0) :: bd 57 []), [.box 25 [vU me.id, vH me.addr], .box 25 [vU p.id, vH p.addr], .row 41 (γ 2) false (List.map eEntry []), .row 41 (γ 3) true (List.map eEntry l), .row 41 (γ 4) false (List.map eEntry a1)]⟩)
instance {me : Peer} {l : List Entry} {p : Peer} : InjS (peers_Add_s0_x me l p) := ⟨fun γ γ' x y h => by
  rcases x with ⟨a0, a1⟩ <;> rcases y with ⟨a0', a1'⟩ <;> simp only [peers_Add_s0_x, Prod.mk.injEq, St.mk.injEq, List.cons.injEq, AV.sc.injEq, AV.agg.injEq, AV.tup.injEq, AV.lit.injEq, AV.sl.injEq, AV.sub.injEq, AV.rptr.injEq, AV.lptr.injEq, AV.bptr.injEq, AV.fn.injEq, Ent.box.injEq, Ent.row.injEq, Value.int.injEq, Value.bool.injEq, Value.string.injEq, bd_inj, map_iff, eL_iff, and_true, true_and, and_assoc, reduceCtorEq, false_and, and_false, ePeer_iff, eEntry_iff] at h <;> simp_all⟩
noncomputable def peers_Add_s0 (me : Peer) (l : List Entry) (p : Peer) (i : Int) (r4 : List Entry) : Option ((Int × (List Entry))) := asks (fun γ => (lim F pr).seg [6] b9_0 ⟨bd 5 (.bptr 1 0 :: bd 1 (.sl 4 ((γ 4)) :: bd 1 (vI i :: bd 54 []))), [.box 25 [vU me.id, vH me.addr], .box 25 [vU p.id, vH p.addr], .row 41 (γ 2) false (List.map eEntry []), .row 41 (γ 3) true (List.map eEntry l), .row 41 (γ 4) false (List.map eEntry r4)]⟩) (peers_Add_s0_x me l p)
noncomputable def peers_Add_s1_b (me : Peer) (l : List Entry) (p : Peer) : Option ((Int × (List Entry))) :=
  (peers_Drop l p.addr).bind fun res =>
  (IndexFunc_Entry res me.id me.addr p.id p.addr).bind fun res1 =>
  bif Ops.std.ilt res1 0 then
    (peers_Add_s0 me l p (xlen eEntry res) res).bind fun ⟨t6_hi, r4⟩ =>
    some (t6_hi, r4)
  else
    (peers_Add_s0 me l p res1 res).bind fun ⟨t6_hi, r4⟩ =>
    some (t6_hi, r4)
theorem peers_Add_s1_r {me : Peer} {l : List Entry} {p : Peer} {r : (Int × (List Entry))} (h : peers_Add_s1_b me l p = some r) : peers_Add_s1 me l p = some r := by
  unfold peers_Add_s1_b at h
  refine asks_of fun γ => ?_
  replace h := bind_some h; obtain ⟨r1, h1, h⟩ := h
  replace h1 := ask_some h1
  obtain res := r1
  replace h := bind_some h; obtain ⟨r2, h2, h⟩ := h
  replace h2 := ask_some h2
  obtain res1 := r2
  replace h := cond_some h; rcases h with ⟨h3, h⟩ | ⟨h3, h⟩
  replace h := bind_some h; obtain ⟨r4, h4, h⟩ := h
  replace h4 := asks_some h4 (gam [0, 0, (γ 2), (γ 3), 0]); obtain ⟨γ3, h4⟩ := h4
  rcases r4 with ⟨t6_hi, r4⟩
  cases h; refine ⟨gam [0, 0, (γ3 2), (γ3 3), (γ3 4)], seg_lim ?_⟩
  rotate_left
  replace h := bind_some h; obtain ⟨r4, h4, h⟩ := h
  replace h4 := asks_some h4 (gam [0, 0, (γ 2), (γ 3), 0]); obtain ⟨γ3, h4⟩ := h4
  rcases r4 with ⟨t6_hi, r4⟩
  cases h; refine ⟨gam [0, 0, (γ3 2), (γ3 3), (γ3 4)], seg_lim ?_⟩
  rotate_left
  all_goals (try dsimp only [bd, gam, xlen, xget, xsub, xroom, xsget, xssub, xsapp, eL, IndexFunc_Entry_e, K1, peers_Add_s0_x, peers_Add_s1_x, ePeer, eEntry] at *)
  all_goals (try simp only [map_app, map_set, map_put, map_fil, List.map_cons, List.map_nil] at *)
  all_goals (try dsimp only [ePeer, eEntry] at *)
  all_goals (show Ifc.apart ⟨Ops.std, (lim F pr).call, (lim F pr).loop, pr, (lim F pr).seg⟩ _ (b9_1F b9_0) _ = _)
  all_goals (generalize (lim F pr).call = call at *; generalize (lim F pr).loop = loop at *; generalize (lim F pr).seg = seg at *; generalize b9_0 = c0 at *; try generalize List.map eEntry = m0 at *; try generalize List.map ePeer = m1 at *; generalize Ops.std = o at *; cases o; try dsimp only at *)
  all_goals (repeat ((try cbv); first | rw [h0] | rw [h1] | rw [h2] | rw [h3] | rw [h4]))
  all_goals (try cbv)

noncomputable def peers_Add_s0_b (me : Peer) (l : List Entry) (p : Peer) (i : Int) (r4 : List Entry) : Option ((Int × (List Entry))) :=
  bif xroom eEntry 24 r4 [(⟨p, 0⟩ : Entry)] then
    (xsub eEntry r4 0 i).bind fun ys =>
    (xsub eEntry r4 i (xlen eEntry r4)).bind fun ys1 =>
    bif Ops.std.ilt (Ops.std.isub .i64 (xlen eEntry (ys ++ ([(⟨p, 0⟩ : Entry)] ++ ys1))) 1) 15 then
      bif Ops.std.ilt 15 (xlen eEntry (ys ++ ([(⟨p, 0⟩ : Entry)] ++ ys1))) then
        (xsub eEntry (ys ++ ([(⟨p, 0⟩ : Entry)] ++ ys1)) 0 15).bind fun ys2 =>
        some (15, (ys ++ ([(⟨p, 0⟩ : Entry)] ++ ys1)))
      else
        (xsub eEntry (ys ++ ([(⟨p, 0⟩ : Entry)] ++ ys1)) 0 (xlen eEntry (ys ++ ([(⟨p, 0⟩ : Entry)] ++ ys1)))).bind fun ys2 =>
        some (xlen eEntry (ys ++ ([(⟨p, 0⟩ : Entry)] ++ ys1)), (ys ++ ([(⟨p, 0⟩ : Entry)] ++ ys1)))
    else
      bif Ops.std.ilt (Ops.std.isub .i64 (xlen eEntry (ys ++ ([(⟨p, 0⟩ : Entry)] ++ ys1))) 1) (xlen eEntry (ys ++ ([(⟨p, 0⟩ : Entry)] ++ ys1))) then
        (xsub eEntry (ys ++ ([(⟨p, 0⟩ : Entry)] ++ ys1)) 0 (Ops.std.isub .i64 (xlen eEntry (ys ++ ([(⟨p, 0⟩ : Entry)] ++ ys1))) 1)).bind fun ys2 =>
        some (Ops.std.isub .i64 (xlen eEntry (ys ++ ([(⟨p, 0⟩ : Entry)] ++ ys1))) 1, (ys ++ ([(⟨p, 0⟩ : Entry)] ++ ys1)))
      else
        (xsub eEntry (ys ++ ([(⟨p, 0⟩ : Entry)] ++ ys1)) 0 (xlen eEntry (ys ++ ([(⟨p, 0⟩ : Entry)] ++ ys1)))).bind fun ys2 =>
        some (xlen eEntry (ys ++ ([(⟨p, 0⟩ : Entry)] ++ ys1)), (ys ++ ([(⟨p, 0⟩ : Entry)] ++ ys1)))
  else
    none
theorem peers_Add_s0_r {me : Peer} {l : List Entry} {p : Peer} {i : Int} {r4 : List Entry} {r : (Int × (List Entry))} (h : peers_Add_s0_b me l p i r4 = some r) : peers_Add_s0 me l p i r4 = some r := by
  unfold peers_Add_s0_b at h
  refine asks_of fun γ => ?_
  replace h := need_some h; obtain ⟨h1, h⟩ := h
  replace h := bind_some h; obtain ⟨ys, h2, h⟩ := h
  replace h2 := ask_some h2
  replace h := bind_some h; obtain ⟨ys1, h3, h⟩ := h
  replace h3 := ask_some h3
  replace h := cond_some h; rcases h with ⟨h4, h⟩ | ⟨h4, h⟩
  replace h := cond_some h; rcases h with ⟨h5, h⟩ | ⟨h5, h⟩
  replace h := bind_some h; obtain ⟨ys2, h6, h⟩ := h
  replace h6 := ask_some h6
  cases h; refine ⟨gam [0, 0, (γ 2), (γ 3), ((γ 4) + 1)], seg_lim ?_⟩
  rotate_left
  replace h := bind_some h; obtain ⟨ys2, h6, h⟩ := h
  replace h6 := ask_some h6
  cases h; refine ⟨gam [0, 0, (γ 2), (γ 3), ((γ 4) + 1)], seg_lim ?_⟩
  rotate_left
  replace h := cond_some h; rcases h with ⟨h5, h⟩ | ⟨h5, h⟩
  replace h := bind_some h; obtain ⟨ys2, h6, h⟩ := h
  replace h6 := ask_some h6
  cases h; refine ⟨gam [0, 0, (γ 2), (γ 3), ((γ 4) + 1)], seg_lim ?_⟩
  rotate_left
  replace h := bind_some h; obtain ⟨ys2, h6, h⟩ := h
  replace h6 := ask_some h6
  cases h; refine ⟨gam [0, 0, (γ 2), (γ 3), ((γ 4) + 1)], seg_lim ?_⟩
  rotate_left
  all_goals (try dsimp only [bd, gam, xlen, xget, xsub, xroom, xsget, xssub, xsapp, eL, peers_Add_s0_x, ePeer, eEntry] at *)
  all_goals (try simp only [map_app, map_set, map_put, map_fil, List.map_cons, List.map_nil] at *)
  all_goals (try dsimp only [ePeer, eEntry] at *)
  all_goals (show Ifc.apart ⟨Ops.std, (lim F pr).call, (lim F pr).loop, pr, (lim F pr).seg⟩ _ b9_0F _ = _)
  all_goals (generalize (lim F pr).call = call at *; generalize (lim F pr).loop = loop at *; generalize (lim F pr).seg = seg at *; try generalize List.map eEntry = m0 at *; try generalize List.map ePeer = m1 at *; generalize Ops.std = o at *; cases o; try dsimp only at *)
  all_goals (repeat ((try cbv); first | rw [h0] | rw [h1] | rw [h2] | rw [h3] | rw [h4] | rw [h5] | rw [h6]))
  all_goals (try cbv)

noncomputable def peers_Add_b (me : Peer) (l : List Entry) (p : Peer) : Option ((List Entry)) :=
  bif xroom eEntry 24 [] l then
    bif Ops.std.ieq p.addr me.addr then some l else
    (peers_Place l p.addr).bind fun res =>
    bif Ops.std.ile 0 res then
      (xget eEntry l res).bind fun x =>
      bif Ops.std.ieq x.peer.id p.id then
        bif Ops.std.ieq x.peer.addr p.addr then some (xset l res (⟨x.peer, 0⟩ : Entry)) else
        (peers_Add_s1 me l p).bind fun ⟨t6_hi, r4⟩ =>
        (xsub eEntry r4 0 t6_hi).bind fun ys =>
        some ys
      else
        (peers_Add_s1 me l p).bind fun ⟨t6_hi, r4⟩ =>
        (xsub eEntry r4 0 t6_hi).bind fun ys =>
        some ys
    else
      (peers_Add_s1 me l p).bind fun ⟨t6_hi, r4⟩ =>
      (xsub eEntry r4 0 t6_hi).bind fun ys =>
      some ys
  else
    none
theorem peers_Add_r {me : Peer} {l : List Entry} {p : Peer} {r : (List Entry)} (h : peers_Add_b me l p = some r) : peers_Add me l p = some r := by
  unfold peers_Add_b at h
  refine ask_of ?_
  replace h := need_some h; obtain ⟨h1, h⟩ := h
  replace h := cond_some h; rcases h with ⟨h2, h⟩ | ⟨h2, h⟩
  cases h; refine call_lim rfl ?_
  rotate_left
  replace h := bind_some h; obtain ⟨r3, h3, h⟩ := h
  replace h3 := ask_some h3
  obtain res := r3
  replace h := cond_some h; rcases h with ⟨h4, h⟩ | ⟨h4, h⟩
  replace h := bind_some h; obtain ⟨x, h5, h⟩ := h
  replace h5 := ask_some h5
  replace h := cond_some h; rcases h with ⟨h6, h⟩ | ⟨h6, h⟩
  replace h := cond_some h; rcases h with ⟨h7, h⟩ | ⟨h7, h⟩
  cases h; refine call_lim rfl ?_
  rotate_left
  replace h := bind_some h; obtain ⟨r8, h8, h⟩ := h
  replace h8 := asks_some h8 (gam [0, 0, 0, 0]); obtain ⟨γ2, h8⟩ := h8
  rcases r8 with ⟨t6_hi, r4⟩
  replace h := bind_some h; obtain ⟨ys, h9, h⟩ := h
  replace h9 := ask_some h9
  cases h; refine call_lim rfl ?_
  rotate_left
  replace h := bind_some h; obtain ⟨r7, h7, h⟩ := h
  replace h7 := asks_some h7 (gam [0, 0, 0, 0]); obtain ⟨γ2, h7⟩ := h7
  rcases r7 with ⟨t6_hi, r4⟩
  replace h := bind_some h; obtain ⟨ys, h8, h⟩ := h
  replace h8 := ask_some h8
  cases h; refine call_lim rfl ?_
  rotate_left
  replace h := bind_some h; obtain ⟨r5, h5, h⟩ := h
  replace h5 := asks_some h5 (gam [0, 0, 0, 0]); obtain ⟨γ2, h5⟩ := h5
  rcases r5 with ⟨t6_hi, r4⟩
  replace h := bind_some h; obtain ⟨ys, h6, h⟩ := h
  replace h6 := ask_some h6
  cases h; refine call_lim rfl ?_
  rotate_left
  all_goals (try dsimp only [bd, gam, xlen, xget, xsub, xroom, xsget, xssub, xsapp, eL, R1, peers_Add_s1_x, ePeer, eEntry] at *)
  all_goals (try simp only [map_app, map_set, map_put, map_fil, List.map_cons, List.map_nil] at *)
  all_goals (try dsimp only [ePeer, eEntry] at *)
  all_goals (show runFn ⟨Ops.std, (lim F pr).call, (lim F pr).loop, pr, (lim F pr).seg⟩ (g9F b9_1) _ _ = _)
  all_goals (generalize (lim F pr).call = call at *; generalize (lim F pr).loop = loop at *; generalize (lim F pr).seg = seg at *; generalize b9_1 = c0 at *; try generalize List.map eEntry = m0 at *; try generalize List.map ePeer = m1 at *; generalize Ops.std = o at *; cases o; try dsimp only at *)
  all_goals (repeat ((try cbv); first | rw [h1] | rw [h2] | rw [h3] | rw [h4] | rw [h5] | rw [h6] | rw [h7] | rw [h8] | rw [h9]))
  all_goals (try cbv)

noncomputable def r27_Add_s0_x (me : Peer) (l : List Entry) (p : Peer) (γ : Nat → Nat) : (List Entry) ⊕ Unit → X × St
  | .inl a0 => (.ret, ⟨bd 6 (.sl 3 ((γ 3)) :: bd 85 []), [.box 25 [vU me.id, vH me.addr], .box 25 [vU p.id, vH p.addr], .row 41 (γ 2) false (List.map eEntry []), .row 41 (γ 3) false (List.map eEntry a0)]⟩)
  | .inr () => (.nor, ⟨bd 1 (.lit 41 false (List.map eEntry l) :: bd 1 (.bptr 0 0 :: bd 1 (.bptr 1 0 :: bd 86 []))), [.box 25 [vU me.id, vH me.addr], .box 25 [vU p.id, vH p.addr], .row 41 (γ 2) false (List.map eEntry [])]⟩)
instance {me : Peer} {l : List Entry} {p : Peer} : InjS (r27_Add_s0_x me l p) := ⟨fun γ γ' x y h => by
  rcases x with a0 | _ <;> rcases y with a0' | _ <;> simp only [r27_Add_s0_x, Prod.mk.injEq, St.mk.injEq, List.cons.injEq, AV.sc.injEq, AV.agg.injEq, AV.tup.injEq, AV.lit.injEq, AV.sl.injEq, AV.sub.injEq, AV.rptr.injEq, AV.lptr.injEq, AV.bptr.injEq, AV.fn.injEq, Ent.box.injEq, Ent.row.injEq, Value.int.injEq, Value.bool.injEq, Value.string.injEq, bd_inj, map_iff, eL_iff, and_true, true_and, and_assoc, reduceCtorEq, false_and, and_false, ePeer_iff, eEntry_iff] at h <;> simp_all⟩
noncomputable def r27_Add_s0 (me : Peer) (l : List Entry) (p : Peer) (at_ : Int) (t33 : Bool) : Option ((List Entry) ⊕ Unit) := asks (fun γ => (lim F pr).seg [1, 3, 5] b10_0 ⟨bd 1 (.lit 41 false (List.map eEntry l) :: bd 1 (.bptr 0 0 :: bd 1 (.bptr 1 0 :: bd 1 (vI at_ :: bd 25 (vF t33 :: bd 58 []))))), [.box 25 [vU me.id, vH me.addr], .box 25 [vU p.id, vH p.addr], .row 41 (γ 2) false (List.map eEntry [])]⟩) (r27_Add_s0_x me l p)
noncomputable def r27_Add_s3_x (me : Peer) (p : Peer) (γ : Nat → Nat) : (Int × (List Entry)) ⊕ (List Entry) → X × St
  | .inl (a0, a1) => (.ret, ⟨bd 6 (.sub 3 ((γ 3)) (0) (a0) :: bd 85 []), [.box 25 [vU me.id, vH me.addr], .box 25 [vU p.id, vH p.addr], .row 41 (γ 2) false (List.map eEntry []), .row 41 (γ 3) false (List.map eEntry a1)]⟩)
  | .inr b0 => (.ret, ⟨bd 6 (.sl 3 ((γ 3)) :: bd 85 []), [.box 25 [vU me.id, vH me.addr], .box 25 [vU p.id, vH p.addr], .row 41 (γ 2) false (List.map eEntry []), .row 41 (γ 3) false (List.map eEntry b0)]⟩)
instance {me : Peer} {p : Peer} : InjS (r27_Add_s3_x me p) := ⟨fun γ γ' x y h => by
  rcases x with ⟨a0, a1⟩ | b0 <;> rcases y with ⟨a0', a1'⟩ | b0' <;> simp only [r27_Add_s3_x, Prod.mk.injEq, St.mk.injEq, List.cons.injEq, AV.sc.injEq, AV.agg.injEq, AV.tup.injEq, AV.lit.injEq, AV.sl.injEq, AV.sub.injEq, AV.rptr.injEq, AV.lptr.injEq, AV.bptr.injEq, AV.fn.injEq, Ent.box.injEq, Ent.row.injEq, Value.int.injEq, Value.bool.injEq, Value.string.injEq, bd_inj, map_iff, eL_iff, and_true, true_and, and_assoc, reduceCtorEq, false_and, and_false, ePeer_iff, eEntry_iff] at h <;> simp_all⟩
noncomputable def r27_Add_s3 (me : Peer) (l : List Entry) (p : Peer) : Option ((Int × (List Entry)) ⊕ (List Entry)) := asks (fun γ => (lim F pr).seg [6] b10_3 ⟨bd 1 (.lit 41 false (List.map eEntry l) :: bd 1 (.bptr 0 0 :: bd 1 (.bptr 1 0 :: bd 86 []))), [.box 25 [vU me.id, vH me.addr], .box 25 [vU p.id, vH p.addr], .row 41 (γ 2) false (List.map eEntry [])]⟩) (r27_Add_s3_x me p)
noncomputable def r27_Add_l1_x (me : Peer) (p : Peer) (γ : Nat → Nat) : (Bool × (List Entry)) → X × St
  | (a0, a1) => (.brk 0, ⟨bd 5 (.bptr 1 0 :: bd 4 (.sl 3 ((γ 3)) :: vF a0 :: bd 80 [])), [.box 25 [vU me.id, vH me.addr], .box 25 [vU p.id, vH p.addr], .row 41 (γ 2) false (List.map eEntry []), .row 41 (γ 3) false (List.map eEntry a1)]⟩)
instance {me : Peer} {p : Peer} : InjS (r27_Add_l1_x me p) := ⟨fun γ γ' x y h => by
  rcases x with ⟨a0, a1⟩ <;> rcases y with ⟨a0', a1'⟩ <;> simp only [r27_Add_l1_x, Prod.mk.injEq, St.mk.injEq, List.cons.injEq, AV.sc.injEq, AV.agg.injEq, AV.tup.injEq, AV.lit.injEq, AV.sl.injEq, AV.sub.injEq, AV.rptr.injEq, AV.lptr.injEq, AV.bptr.injEq, AV.fn.injEq, Ent.box.injEq, Ent.row.injEq, Value.int.injEq, Value.bool.injEq, Value.string.injEq, bd_inj, map_iff, eL_iff, and_true, true_and, and_assoc, reduceCtorEq, false_and, and_false, ePeer_iff, eEntry_iff] at h <;> simp_all⟩
noncomputable def r27_Add_l1 (me : Peer) (p : Peer) (rest : List Entry) (put_ : Bool) (i : Int) (r3 : List Entry) : Option ((Bool × (List Entry))) := asks (fun γ => (lim F pr).loop [3, 9, 12, 11, 5, 10] 4 b10_1 ⟨bd 3 (.bptr 0 0 :: bd 1 (.bptr 1 0 :: bd 3 (.lit 41 false (List.map eEntry rest) :: .sl 3 ((γ 3)) :: vF put_ :: vI i :: bd 79 []))), [.box 25 [vU me.id, vH me.addr], .box 25 [vU p.id, vH p.addr], .row 41 (γ 2) false (List.map eEntry []), .row 41 (γ 3) false (List.map eEntry r3)]⟩) (r27_Add_l1_x me p)
noncomputable def r27_Add_s2_x (me : Peer) (p : Peer) (γ : Nat → Nat) : (Int × (List Entry)) ⊕ (List Entry) → X × St
  | .inl (a0, a1) => (.ret, ⟨bd 6 (.sub 3 ((γ 3)) (0) (a0) :: bd 85 []), [.box 25 [vU me.id, vH me.addr], .box 25 [vU p.id, vH p.addr], .row 41 (γ 2) false (List.map eEntry []), .row 41 (γ 3) false (List.map eEntry a1)]⟩)
  | .inr b0 => (.ret, ⟨bd 6 (.sl 3 ((γ 3)) :: bd 85 []), [.box 25 [vU me.id, vH me.addr], .box 25 [vU p.id, vH p.addr], .row 41 (γ 2) false (List.map eEntry []), .row 41 (γ 3) false (List.map eEntry b0)]⟩)
instance {me : Peer} {p : Peer} : InjS (r27_Add_s2_x me p) := ⟨fun γ γ' x y h => by
  rcases x with ⟨a0, a1⟩ | b0 <;> rcases y with ⟨a0', a1'⟩ | b0' <;> simp only [r27_Add_s2_x, Prod.mk.injEq, St.mk.injEq, List.cons.injEq, AV.sc.injEq, AV.agg.injEq, AV.tup.injEq, AV.lit.injEq, AV.sl.injEq, AV.sub.injEq, AV.rptr.injEq, AV.lptr.injEq, AV.bptr.injEq, AV.fn.injEq, Ent.box.injEq, Ent.row.injEq, Value.int.injEq, Value.bool.injEq, Value.string.injEq, bd_inj, map_iff, eL_iff, and_true, true_and, and_assoc, reduceCtorEq, false_and, and_false, ePeer_iff, eEntry_iff] at h <;> simp_all⟩
noncomputable def r27_Add_s2 (me : Peer) (p : Peer) (r3 : List Entry) : Option ((Int × (List Entry)) ⊕ (List Entry)) := asks (fun γ => (lim F pr).seg [6] b10_2 ⟨bd 10 (.sl 3 ((γ 3)) :: bd 81 []), [.box 25 [vU me.id, vH me.addr], .box 25 [vU p.id, vH p.addr], .row 41 (γ 2) false (List.map eEntry []), .row 41 (γ 3) false (List.map eEntry r3)]⟩) (r27_Add_s2_x me p)
noncomputable def r27_Add_s0_b (me : Peer) (l : List Entry) (p : Peer) (at_ : Int) (t33 : Bool) : Option ((List Entry) ⊕ Unit) :=
  bif t33 then
    bif xroom eEntry 24 [] l then
      (xget eEntry l at_).bind fun x =>
      some (.inl (xset l at_ (⟨x.peer, 0⟩ : Entry)))
    else
      none
  else
    some (.inr ())
theorem r27_Add_s0_r {me : Peer} {l : List Entry} {p : Peer} {at_ : Int} {t33 : Bool} {r : (List Entry) ⊕ Unit} (h : r27_Add_s0_b me l p at_ t33 = some r) : r27_Add_s0 me l p at_ t33 = some r := by
  unfold r27_Add_s0_b at h
  refine asks_of fun γ => ?_
  replace h := cond_some h; rcases h with ⟨h1, h⟩ | ⟨h1, h⟩
  replace h := need_some h; obtain ⟨h2, h⟩ := h
  replace h := bind_some h; obtain ⟨x, h3, h⟩ := h
  replace h3 := ask_some h3
  cases h; refine ⟨gam [0, 0, (γ 2), 0], seg_lim ?_⟩
  rotate_left
  cases h; refine ⟨gam [0, 0, (γ 2)], seg_lim ?_⟩
  rotate_left
  all_goals (try dsimp only [bd, gam, xlen, xget, xsub, xroom, xsget, xssub, xsapp, eL, r27_Add_s0_x, ePeer, eEntry] at *)
  all_goals (try simp only [map_app, map_set, map_put, map_fil, List.map_cons, List.map_nil] at *)
  all_goals (try dsimp only [ePeer, eEntry] at *)
  all_goals (show Ifc.apart ⟨Ops.std, (lim F pr).call, (lim F pr).loop, pr, (lim F pr).seg⟩ _ b10_0F _ = _)
  all_goals (generalize (lim F pr).call = call at *; generalize (lim F pr).loop = loop at *; generalize (lim F pr).seg = seg at *; try generalize List.map eEntry = m0 at *; try generalize List.map ePeer = m1 at *; generalize Ops.std = o at *; cases o; try dsimp only at *)
  all_goals (repeat ((try cbv); first | rw [h0] | rw [h1] | rw [h2] | rw [h3]))
  all_goals (try cbv)

noncomputable def r27_Add_s3_b (me : Peer) (l : List Entry) (p : Peer) : Option ((Int × (List Entry)) ⊕ (List Entry)) :=
  (r27_Drop l p.addr).bind fun res =>
  (r27_Add_l1 me p res false 0 []).bind fun ⟨put_, r3⟩ =>
  bif put_ then
    (r27_Add_s2 me p r3).bind fun r => match r with
      | .inl (t6_hi, r31) =>
        some (.inl (t6_hi, r31))
      | .inr r31 =>
        some (.inr r31)
  else
    bif xroom eEntry 24 r3 [(⟨p, 0⟩ : Entry)] then
      (r27_Add_s2 me p (r3 ++ [(⟨p, 0⟩ : Entry)])).bind fun r => match r with
        | .inl (t6_hi, r31) =>
          some (.inl (t6_hi, r31))
        | .inr r31 =>
          some (.inr r31)
    else
      none
theorem r27_Add_s3_r {me : Peer} {l : List Entry} {p : Peer} {r : (Int × (List Entry)) ⊕ (List Entry)} (h : r27_Add_s3_b me l p = some r) : r27_Add_s3 me l p = some r := by
  unfold r27_Add_s3_b at h
  refine asks_of fun γ => ?_
  replace h := bind_some h; obtain ⟨r1, h1, h⟩ := h
  replace h1 := ask_some h1
  obtain res := r1
  replace h := bind_some h; obtain ⟨r2, h2, h⟩ := h
  replace h2 := asks_some h2 (gam [0, 0, (γ 2), 0]); obtain ⟨γ2, h2⟩ := h2
  rcases r2 with ⟨put_, r3⟩
  replace h := cond_some h; rcases h with ⟨h3, h⟩ | ⟨h3, h⟩
  replace h := bind_some h; obtain ⟨r4, h4, h⟩ := h
  replace h4 := asks_some h4 (gam [0, 0, (γ2 2), (γ2 3)]); obtain ⟨γ3, h4⟩ := h4
  rcases r4 with ⟨t6_hi, r31⟩ | r31
  cases h; refine ⟨gam [0, 0, (γ3 2), (γ3 3)], seg_lim ?_⟩
  rotate_left
  cases h; refine ⟨gam [0, 0, (γ3 2), (γ3 3)], seg_lim ?_⟩
  rotate_left
  replace h := need_some h; obtain ⟨h4, h⟩ := h
  replace h := bind_some h; obtain ⟨r5, h5, h⟩ := h
  replace h5 := asks_some h5 (gam [0, 0, (γ2 2), ((γ2 3) + 1)]); obtain ⟨γ3, h5⟩ := h5
  rcases r5 with ⟨t6_hi, r31⟩ | r31
  cases h; refine ⟨gam [0, 0, (γ3 2), (γ3 3)], seg_lim ?_⟩
  rotate_left
  cases h; refine ⟨gam [0, 0, (γ3 2), (γ3 3)], seg_lim ?_⟩
  rotate_left
  all_goals (try dsimp only [bd, gam, xlen, xget, xsub, xroom, xsget, xssub, xsapp, eL, R1, r27_Add_l1_x, r27_Add_s2_x, r27_Add_s3_x, ePeer, eEntry] at *)
  all_goals (try simp only [map_app, map_set, map_put, map_fil, List.map_cons, List.map_nil] at *)
  all_goals (try dsimp only [ePeer, eEntry] at *)
  all_goals (show Ifc.apart ⟨Ops.std, (lim F pr).call, (lim F pr).loop, pr, (lim F pr).seg⟩ _ (b10_3F b10_1 b10_2) _ = _)
  all_goals (generalize (lim F pr).call = call at *; generalize (lim F pr).loop = loop at *; generalize (lim F pr).seg = seg at *; generalize b10_1 = c0 at *; generalize b10_2 = c1 at *; try generalize List.map eEntry = m0 at *; try generalize List.map ePeer = m1 at *; generalize Ops.std = o at *; cases o; try dsimp only at *)
  all_goals (repeat ((try cbv); first | rw [h0] | rw [h1] | rw [h2] | rw [h3] | rw [h4] | rw [h5]))
  all_goals (try cbv)

noncomputable def r27_Add_l1_b (me : Peer) (p : Peer) (rest : List Entry) (put_ : Bool) (i : Int) (r3 : List Entry) : Option ((Bool × (List Entry))) :=
  bif Ops.std.ilt i (xlen eEntry rest) then
    bif put_ then
      (xget eEntry rest i).bind fun x =>
      bif xroom eEntry 24 r3 [x] then r27_Add_l1 me p rest true (Ops.std.iadd .i64 i 1) (r3 ++ [x]) else
      none
    else
      (xget eEntry rest i).bind fun x =>
      (r27_Ahead me p x.peer).bind fun res =>
      bif res then
        bif xroom eEntry 24 r3 [(⟨p, 0⟩ : Entry)] then
          bif xroom eEntry 24 (r3 ++ [(⟨p, 0⟩ : Entry)]) [x] then
            r27_Add_l1 me p rest true (Ops.std.iadd .i64 i 1) ((r3 ++ [(⟨p, 0⟩ : Entry)]) ++ [x])
          else
            none
        else
          none
      else
        bif xroom eEntry 24 r3 [x] then r27_Add_l1 me p rest false (Ops.std.iadd .i64 i 1) (r3 ++ [x]) else
        none
  else
    some (put_, r3)
theorem r27_Add_l1_r {me : Peer} {p : Peer} {rest : List Entry} {put_ : Bool} {i : Int} {r3 : List Entry} {r : (Bool × (List Entry))} (h : r27_Add_l1_b me p rest put_ i r3 = some r) : r27_Add_l1 me p rest put_ i r3 = some r := by
  unfold r27_Add_l1_b at h
  refine asks_of fun γ => ?_
  replace h := cond_some h; rcases h with ⟨h1, h⟩ | ⟨h1, h⟩
  replace h := cond_some h; rcases h with ⟨h2, h⟩ | ⟨h2, h⟩
  replace h := bind_some h; obtain ⟨x, h3, h⟩ := h
  replace h3 := ask_some h3
  replace h := need_some h; obtain ⟨h4, h⟩ := h
  replace h := asks_some h (gam [0, 0, (γ 2), ((γ 3) + 1)]); obtain ⟨γ', h0⟩ := h; refine ⟨γ', round_lim ?_⟩
  rotate_left
  replace h := bind_some h; obtain ⟨x, h3, h⟩ := h
  replace h3 := ask_some h3
  replace h := bind_some h; obtain ⟨r4, h4, h⟩ := h
  replace h4 := ask_some h4
  obtain res := r4
  replace h := cond_some h; rcases h with ⟨h5, h⟩ | ⟨h5, h⟩
  replace h := need_some h; obtain ⟨h6, h⟩ := h
  replace h := need_some h; obtain ⟨h7, h⟩ := h
  replace h := asks_some h (gam [0, 0, (γ 2), (((γ 3) + 1) + 1)]); obtain ⟨γ', h0⟩ := h; refine ⟨γ', round_lim ?_⟩
  rotate_left
  replace h := need_some h; obtain ⟨h6, h⟩ := h
  replace h := asks_some h (gam [0, 0, (γ 2), ((γ 3) + 1)]); obtain ⟨γ', h0⟩ := h; refine ⟨γ', round_lim ?_⟩
  rotate_left
  cases h; refine ⟨gam [0, 0, (γ 2), (γ 3)], round_lim ?_⟩
  rotate_left
  all_goals (try dsimp only [bd, gam, xlen, xget, xsub, xroom, xsget, xssub, xsapp, eL, R1, r27_Add_l1_x, ePeer, eEntry] at *)
  all_goals (try simp only [map_app, map_set, map_put, map_fil, List.map_cons, List.map_nil] at *)
  all_goals (try dsimp only [ePeer, eEntry] at *)
  all_goals (show roundAs ⟨Ops.std, (lim F pr).call, (lim F pr).loop, pr, (lim F pr).seg⟩ _ _ b10_1 b10_1F _ = _)
  all_goals (generalize (lim F pr).call = call at *; generalize (lim F pr).loop = loop at *; generalize (lim F pr).seg = seg at *; generalize b10_1 = c0 at *; try generalize List.map eEntry = m0 at *; try generalize List.map ePeer = m1 at *; generalize Ops.std = o at *; cases o; try dsimp only at *)
  all_goals (repeat ((try cbv); first | rw [h0] | rw [h1] | rw [h2] | rw [h3] | rw [h4] | rw [h5] | rw [h6] | rw [h7]))
  all_goals (try cbv)

noncomputable def r27_Add_s2_b (me : Peer) (p : Peer) (r3 : List Entry) : Option ((Int × (List Entry)) ⊕ (List Entry)) :=
  bif Ops.std.ilt 15 (xlen eEntry r3) then
    (xsub eEntry r3 0 (Ops.std.isub .i64 (xlen eEntry r3) 1)).bind fun ys =>
    some (.inl (Ops.std.isub .i64 (xlen eEntry r3) 1, r3))
  else
    some (.inr r3)
theorem r27_Add_s2_r {me : Peer} {p : Peer} {r3 : List Entry} {r : (Int × (List Entry)) ⊕ (List Entry)} (h : r27_Add_s2_b me p r3 = some r) : r27_Add_s2 me p r3 = some r := by
  unfold r27_Add_s2_b at h
  refine asks_of fun γ => ?_
  replace h := cond_some h; rcases h with ⟨h1, h⟩ | ⟨h1, h⟩
  replace h := bind_some h; obtain ⟨ys, h2, h⟩ := h
  replace h2 := ask_some h2
  cases h; refine ⟨gam [0, 0, (γ 2), (γ 3)], seg_lim ?_⟩
  rotate_left
  cases h; refine ⟨gam [0, 0, (γ 2), (γ 3)], seg_lim ?_⟩
  rotate_left
  all_goals (try dsimp only [bd, gam, xlen, xget, xsub, xroom, xsget, xssub, xsapp, eL, r27_Add_s2_x, ePeer, eEntry] at *)
  all_goals (try simp only [map_app, map_set, map_put, map_fil, List.map_cons, List.map_nil] at *)
  all_goals (try dsimp only [ePeer, eEntry] at *)
  all_goals (show Ifc.apart ⟨Ops.std, (lim F pr).call, (lim F pr).loop, pr, (lim F pr).seg⟩ _ b10_2F _ = _)
  all_goals (generalize (lim F pr).call = call at *; generalize (lim F pr).loop = loop at *; generalize (lim F pr).seg = seg at *; try generalize List.map eEntry = m0 at *; try generalize List.map ePeer = m1 at *; generalize Ops.std = o at *; cases o; try dsimp only at *)
  all_goals (repeat ((try cbv); first | rw [h0] | rw [h1] | rw [h2]))
  all_goals (try cbv)

noncomputable def r27_Add_b (me : Peer) (l : List Entry) (p : Peer) : Option ((List Entry)) :=
  bif Ops.std.ieq p.addr me.addr then some l else
  (r27_Place l p.addr).bind fun res =>
  bif Ops.std.ile 0 res then
    (xget eEntry l res).bind fun x =>
    bif Ops.std.ieq x.peer.id p.id then
      bif Ops.std.ieq x.peer.addr p.addr then
        (r27_Add_s0 me l p res true).bind fun r => match r with
          | .inl r3 =>
            some r3
          | .inr () =>
            (r27_Add_s3 me l p).bind fun r => match r with
              | .inl (t6_hi, r3) =>
                (xsub eEntry r3 0 t6_hi).bind fun ys =>
                some ys
              | .inr r3 =>
                some r3
      else
        (r27_Add_s0 me l p res false).bind fun r => match r with
          | .inl r3 =>
            some r3
          | .inr () =>
            (r27_Add_s3 me l p).bind fun r => match r with
              | .inl (t6_hi, r3) =>
                (xsub eEntry r3 0 t6_hi).bind fun ys =>
                some ys
              | .inr r3 =>
                some r3
    else
      (r27_Add_s0 me l p res false).bind fun r => match r with
        | .inl r3 =>
          some r3
        | .inr () =>
          (r27_Add_s3 me l p).bind fun r => match r with
            | .inl (t6_hi, r3) =>
              (xsub eEntry r3 0 t6_hi).bind fun ys =>
              some ys
            | .inr r3 =>
              some r3
  else
    (r27_Add_s0 me l p res false).bind fun r => match r with
      | .inl r3 =>
        some r3
      | .inr () =>
        (r27_Add_s3 me l p).bind fun r => match r with
          | .inl (t6_hi, r3) =>
            (xsub eEntry r3 0 t6_hi).bind fun ys =>
            some ys
          | .inr r3 =>
            some r3
theorem r27_Add_r {me : Peer} {l : List Entry} {p : Peer} {r : (List Entry)} (h : r27_Add_b me l p = some r) : r27_Add me l p = some r := by
  unfold r27_Add_b at h
  refine ask_of ?_
  replace h := cond_some h; rcases h with ⟨h1, h⟩ | ⟨h1, h⟩
  cases h; refine call_lim rfl ?_
  rotate_left
  replace h := bind_some h; obtain ⟨r2, h2, h⟩ := h
  replace h2 := ask_some h2
  obtain res := r2
  replace h := cond_some h; rcases h with ⟨h3, h⟩ | ⟨h3, h⟩
  replace h := bind_some h; obtain ⟨x, h4, h⟩ := h
  replace h4 := ask_some h4
  replace h := cond_some h; rcases h with ⟨h5, h⟩ | ⟨h5, h⟩
  replace h := cond_some h; rcases h with ⟨h6, h⟩ | ⟨h6, h⟩
  replace h := bind_some h; obtain ⟨r7, h7, h⟩ := h
  replace h7 := asks_some h7 (gam [0, 0, 0]); obtain ⟨γ2, h7⟩ := h7
  rcases r7 with r3 | _
  cases h; refine call_lim rfl ?_
  rotate_left
  replace h := bind_some h; obtain ⟨r8, h8, h⟩ := h
  replace h8 := asks_some h8 (gam [0, 0, (γ2 2)]); obtain ⟨γ3, h8⟩ := h8
  rcases r8 with ⟨t6_hi, r3⟩ | r3
  replace h := bind_some h; obtain ⟨ys, h9, h⟩ := h
  replace h9 := ask_some h9
  cases h; refine call_lim rfl ?_
  rotate_left
  cases h; refine call_lim rfl ?_
  rotate_left
  replace h := bind_some h; obtain ⟨r7, h7, h⟩ := h
  replace h7 := asks_some h7 (gam [0, 0, 0]); obtain ⟨γ2, h7⟩ := h7
  rcases r7 with r3 | _
  cases h; refine call_lim rfl ?_
  rotate_left
  replace h := bind_some h; obtain ⟨r8, h8, h⟩ := h
  replace h8 := asks_some h8 (gam [0, 0, (γ2 2)]); obtain ⟨γ3, h8⟩ := h8
  rcases r8 with ⟨t6_hi, r3⟩ | r3
  replace h := bind_some h; obtain ⟨ys, h9, h⟩ := h
  replace h9 := ask_some h9
  cases h; refine call_lim rfl ?_
  rotate_left
  cases h; refine call_lim rfl ?_
  rotate_left
  replace h := bind_some h; obtain ⟨r6, h6, h⟩ := h
  replace h6 := asks_some h6 (gam [0, 0, 0]); obtain ⟨γ2, h6⟩ := h6
  rcases r6 with r3 | _
  cases h; refine call_lim rfl ?_
  rotate_left
  replace h := bind_some h; obtain ⟨r7, h7, h⟩ := h
  replace h7 := asks_some h7 (gam [0, 0, (γ2 2)]); obtain ⟨γ3, h7⟩ := h7
  rcases r7 with ⟨t6_hi, r3⟩ | r3
  replace h := bind_some h; obtain ⟨ys, h8, h⟩ := h
  replace h8 := ask_some h8
  cases h; refine call_lim rfl ?_
  rotate_left
  cases h; refine call_lim rfl ?_
  rotate_left
  replace h := bind_some h; obtain ⟨r4, h4, h⟩ := h
  replace h4 := asks_some h4 (gam [0, 0, 0]); obtain ⟨γ2, h4⟩ := h4
  rcases r4 with r3 | _
  cases h; refine call_lim rfl ?_
  rotate_left
  replace h := bind_some h; obtain ⟨r5, h5, h⟩ := h
  replace h5 := asks_some h5 (gam [0, 0, (γ2 2)]); obtain ⟨γ3, h5⟩ := h5
  rcases r5 with ⟨t6_hi, r3⟩ | r3
  replace h := bind_some h; obtain ⟨ys, h6, h⟩ := h
  replace h6 := ask_some h6
  cases h; refine call_lim rfl ?_
  rotate_left
  cases h; refine call_lim rfl ?_
  rotate_left
  all_goals (try dsimp only [bd, gam, xlen, xget, xsub, xroom, xsget, xssub, xsapp, eL, R1, r27_Add_s0_x, r27_Add_s3_x, ePeer, eEntry] at *)
  all_goals (try simp only [map_app, map_set, map_put, map_fil, List.map_cons, List.map_nil] at *)
  all_goals (try dsimp only [ePeer, eEntry] at *)
  all_goals (show runFn ⟨Ops.std, (lim F pr).call, (lim F pr).loop, pr, (lim F pr).seg⟩ (g10F b10_0 b10_3) _ _ = _)
  all_goals (generalize (lim F pr).call = call at *; generalize (lim F pr).loop = loop at *; generalize (lim F pr).seg = seg at *; generalize b10_0 = c0 at *; generalize b10_3 = c1 at *; try generalize List.map eEntry = m0 at *; try generalize List.map ePeer = m1 at *; generalize Ops.std = o at *; cases o; try dsimp only at *)
  all_goals (repeat ((try cbv); first | rw [h1] | rw [h2] | rw [h3] | rw [h4] | rw [h5] | rw [h6] | rw [h7] | rw [h8] | rw [h9]))
  all_goals (try cbv)

noncomputable def r27_Same_l0_x (γ : Nat → Nat) : Unit ⊕ Unit → X × St
  | .inl () => (.ret, ⟨bd 4 (vF false :: bd 21 []), []⟩)
  | .inr () => (.brk 0, ⟨bd 26 [], []⟩)
instance : InjS r27_Same_l0_x := ⟨fun γ γ' x y h => by
  rcases x with _ | _ <;> rcases y with _ | _ <;> simp only [r27_Same_l0_x, Prod.mk.injEq, St.mk.injEq, List.cons.injEq, AV.sc.injEq, AV.agg.injEq, AV.tup.injEq, AV.lit.injEq, AV.sl.injEq, AV.sub.injEq, AV.rptr.injEq, AV.lptr.injEq, AV.bptr.injEq, AV.fn.injEq, Ent.box.injEq, Ent.row.injEq, Value.int.injEq, Value.bool.injEq, Value.string.injEq, bd_inj, map_iff, eL_iff, and_true, true_and, and_assoc, reduceCtorEq, false_and, and_false, ePeer_iff, eEntry_iff] at h <;> simp_all⟩
noncomputable def r27_Same_l0 (a : List Entry) (b : List Entry) (i : Int) : Option (Unit ⊕ Unit) := asks (fun γ => (lim F pr).loop [0, 1, 5] 0 b8_0 ⟨.lit 41 false (List.map eEntry a) :: .lit 41 false (List.map eEntry b) :: bd 3 (vI i :: bd 20 []), []⟩) r27_Same_l0_x
noncomputable def r27_Same_l0_b (a : List Entry) (b : List Entry) (i : Int) : Option (Unit ⊕ Unit) :=
  bif Ops.std.ilt i (xlen eEntry a) then
    (xget eEntry a i).bind fun x =>
    (xget eEntry b i).bind fun x1 =>
    bif Ops.std.ieq x.peer.id x1.peer.id then
      bif Ops.std.ieq x.peer.addr x1.peer.addr then
        bif Ops.std.ieq x.misses x1.misses then r27_Same_l0 a b (Ops.std.iadd .i64 i 1) else
        some (.inl ())
      else
        some (.inl ())
    else
      some (.inl ())
  else
    some (.inr ())
theorem r27_Same_l0_r {a : List Entry} {b : List Entry} {i : Int} {r : Unit ⊕ Unit} (h : r27_Same_l0_b a b i = some r) : r27_Same_l0 a b i = some r := by
  unfold r27_Same_l0_b at h
  refine asks_of fun γ => ?_
  replace h := cond_some h; rcases h with ⟨h1, h⟩ | ⟨h1, h⟩
  replace h := bind_some h; obtain ⟨x, h2, h⟩ := h
  replace h2 := ask_some h2
  replace h := bind_some h; obtain ⟨x1, h3, h⟩ := h
  replace h3 := ask_some h3
  replace h := cond_some h; rcases h with ⟨h4, h⟩ | ⟨h4, h⟩
  replace h := cond_some h; rcases h with ⟨h5, h⟩ | ⟨h5, h⟩
  replace h := cond_some h; rcases h with ⟨h6, h⟩ | ⟨h6, h⟩
  replace h := asks_some h (gam []); obtain ⟨γ', h0⟩ := h; refine ⟨γ', round_lim ?_⟩
  rotate_left
  cases h; refine ⟨gam [], round_lim ?_⟩
  rotate_left
  cases h; refine ⟨gam [], round_lim ?_⟩
  rotate_left
  cases h; refine ⟨gam [], round_lim ?_⟩
  rotate_left
  cases h; refine ⟨gam [], round_lim ?_⟩
  rotate_left
  all_goals (try dsimp only [bd, gam, xlen, xget, xsub, xroom, xsget, xssub, xsapp, eL, r27_Same_l0_x, ePeer, eEntry] at *)
  all_goals (try simp only [map_app, map_set, map_put, map_fil, List.map_cons, List.map_nil] at *)
  all_goals (try dsimp only [ePeer, eEntry] at *)
  all_goals (show roundAs ⟨Ops.std, (lim F pr).call, (lim F pr).loop, pr, (lim F pr).seg⟩ _ _ b8_0 b8_0F _ = _)
  all_goals (generalize (lim F pr).call = call at *; generalize (lim F pr).loop = loop at *; generalize (lim F pr).seg = seg at *; generalize b8_0 = c0 at *; try generalize List.map eEntry = m0 at *; try generalize List.map ePeer = m1 at *; generalize Ops.std = o at *; cases o; try dsimp only at *)
  all_goals (repeat ((try cbv); first | rw [h0] | rw [h1] | rw [h2] | rw [h3] | rw [h4] | rw [h5] | rw [h6]))
  all_goals (try cbv)

noncomputable def r27_Same_b (a : List Entry) (b : List Entry) : Option (Bool) :=
  bif Ops.std.ieq (xlen eEntry a) (xlen eEntry b) then
    (r27_Same_l0 a b 0).bind fun r => match r with
      | .inl () =>
        some false
      | .inr () =>
        some true
  else
    some false
theorem r27_Same_r {a : List Entry} {b : List Entry} {r : Bool} (h : r27_Same_b a b = some r) : r27_Same a b = some r := by
  unfold r27_Same_b at h
  refine ask_of ?_
  replace h := cond_some h; rcases h with ⟨h1, h⟩ | ⟨h1, h⟩
  replace h := bind_some h; obtain ⟨r2, h2, h⟩ := h
  replace h2 := asks_some h2 (gam []); obtain ⟨γ1, h2⟩ := h2
  rcases r2 with _ | _
  cases h; refine call_lim rfl ?_
  rotate_left
  cases h; refine call_lim rfl ?_
  rotate_left
  cases h; refine call_lim rfl ?_
  rotate_left
  all_goals (try dsimp only [bd, gam, xlen, xget, xsub, xroom, xsget, xssub, xsapp, eL, R1, r27_Same_l0_x, ePeer, eEntry] at *)
  all_goals (try simp only [map_app, map_set, map_put, map_fil, List.map_cons, List.map_nil] at *)
  all_goals (try dsimp only [ePeer, eEntry] at *)
  all_goals (show runFn ⟨Ops.std, (lim F pr).call, (lim F pr).loop, pr, (lim F pr).seg⟩ (g8F b8_0) _ _ = _)
  all_goals (generalize (lim F pr).call = call at *; generalize (lim F pr).loop = loop at *; generalize (lim F pr).seg = seg at *; generalize b8_0 = c0 at *; try generalize List.map eEntry = m0 at *; try generalize List.map ePeer = m1 at *; generalize Ops.std = o at *; cases o; try dsimp only at *)
  all_goals (repeat ((try cbv); first | rw [h1] | rw [h2]))
  all_goals (try cbv)

end Go.Ab.Try
