/- What each function comes to, and that its call does: printed by a program. -/
import Derived.Test.YtcnohiofldkcoabS0
namespace Go.Ab.Try
open Go Go.Ab Go.Proofs
set_option linter.unusedVariables false
set_option linter.unusedSimpArgs false
set_option maxRecDepth 10000



noncomputable def peers_Firm_b (l : List Entry) : Option ((List Peer)) :=
  (peers_some l).bind fun res =>
  some res
theorem peers_Firm_r {l : List Entry} {r : (List Peer)} (h : peers_Firm_b l = some r) : peers_Firm l = some r := by
  unfold peers_Firm_b at h
  refine ask_of ?_
  replace h := bind_some h; obtain ⟨r1, h1, h⟩ := h
  replace h1 := ask_some h1
  obtain res := r1
  cases h; refine call_lim rfl ?_
  rotate_left
  all_goals (try dsimp only [bd, gam, xlen, xget, xsub, xroom, xsget, xssub, xsapp, eL, R1, ePeer, eEntry] at *)
  all_goals (try simp only [map_app, map_set, map_put, map_fil, List.map_cons, List.map_nil] at *)
  all_goals (try dsimp only [ePeer, eEntry] at *)
  all_goals (show runFn ⟨Ops.std, (lim F pr).call, (lim F pr).loop, pr, (lim F pr).seg⟩ g24F _ _ = _)
  all_goals (generalize (lim F pr).call = call at *; generalize (lim F pr).loop = loop at *; generalize (lim F pr).seg = seg at *; try generalize List.map eEntry = m0 at *; try generalize List.map ePeer = m1 at *; generalize Ops.std = o at *; cases o; try dsimp only at *)
  all_goals (repeat ((try cbv); first | rw [h1]))
  all_goals (try cbv)

noncomputable def r27_Firm_l0_x (γ : Nat → Nat) : (List Peer) → X × St
  | a0 => (.brk 0, ⟨bd 3 (.sl 1 ((γ 1)) :: bd 22 []), [.row 25 (γ 0) false (List.map ePeer []), .row 25 (γ 1) false (List.map ePeer a0)]⟩)
instance : InjS r27_Firm_l0_x := ⟨fun γ γ' x y h => by
  rcases x with a0 <;> rcases y with a0' <;> simp only [r27_Firm_l0_x, Prod.mk.injEq, St.mk.injEq, List.cons.injEq, AV.sc.injEq, AV.agg.injEq, AV.tup.injEq, AV.lit.injEq, AV.sl.injEq, AV.sub.injEq, AV.rptr.injEq, AV.lptr.injEq, AV.bptr.injEq, AV.fn.injEq, Ent.box.injEq, Ent.row.injEq, Value.int.injEq, Value.bool.injEq, Value.string.injEq, bd_inj, map_iff, eL_iff, and_true, true_and, and_assoc, reduceCtorEq, false_and, and_false, ePeer_iff, eEntry_iff] at h <;> simp_all⟩
noncomputable def r27_Firm_l0 (l : List Entry) (i : Int) (r1 : List Peer) : Option ((List Peer)) := asks (fun γ => (lim F pr).loop [0, 4, 3] 2 b25_0 ⟨.lit 41 false (List.map eEntry l) :: bd 2 (.sl 1 ((γ 1)) :: vI i :: bd 21 []), [.row 25 (γ 0) false (List.map ePeer []), .row 25 (γ 1) false (List.map ePeer r1)]⟩) r27_Firm_l0_x
noncomputable def r27_Firm_l0_b (l : List Entry) (i : Int) (r1 : List Peer) : Option ((List Peer)) :=
  bif Ops.std.ilt i (xlen eEntry l) then
    (xget eEntry l i).bind fun x =>
    bif Ops.std.ilt x.misses 1 then
      bif xroom ePeer 16 r1 [x.peer] then r27_Firm_l0 l (Ops.std.iadd .i64 i 1) (r1 ++ [x.peer]) else
      none
    else
      r27_Firm_l0 l (Ops.std.iadd .i64 i 1) r1
  else
    some r1
theorem r27_Firm_l0_r {l : List Entry} {i : Int} {r1 : List Peer} {r : (List Peer)} (h : r27_Firm_l0_b l i r1 = some r) : r27_Firm_l0 l i r1 = some r := by
  unfold r27_Firm_l0_b at h
  refine asks_of fun γ => ?_
  replace h := cond_some h; rcases h with ⟨h1, h⟩ | ⟨h1, h⟩
  replace h := bind_some h; obtain ⟨x, h2, h⟩ := h
  replace h2 := ask_some h2
  replace h := cond_some h; rcases h with ⟨h3, h⟩ | ⟨h3, h⟩
  replace h := need_some h; obtain ⟨h4, h⟩ := h
  replace h := asks_some h (gam [(γ 0), ((γ 1) + 1)]); obtain ⟨γ', h0⟩ := h; refine ⟨γ', round_lim ?_⟩
  rotate_left
  replace h := asks_some h (gam [(γ 0), (γ 1)]); obtain ⟨γ', h0⟩ := h; refine ⟨γ', round_lim ?_⟩
  rotate_left
  cases h; refine ⟨gam [(γ 0), (γ 1)], round_lim ?_⟩
  rotate_left
  all_goals (try dsimp only [bd, gam, xlen, xget, xsub, xroom, xsget, xssub, xsapp, eL, r27_Firm_l0_x, ePeer, eEntry] at *)
  all_goals (try simp only [map_app, map_set, map_put, map_fil, List.map_cons, List.map_nil] at *)
  all_goals (try dsimp only [ePeer, eEntry] at *)
  all_goals (show roundAs ⟨Ops.std, (lim F pr).call, (lim F pr).loop, pr, (lim F pr).seg⟩ _ _ b25_0 b25_0F _ = _)
  all_goals (generalize (lim F pr).call = call at *; generalize (lim F pr).loop = loop at *; generalize (lim F pr).seg = seg at *; generalize b25_0 = c0 at *; try generalize List.map eEntry = m0 at *; try generalize List.map ePeer = m1 at *; generalize Ops.std = o at *; cases o; try dsimp only at *)
  all_goals (repeat ((try cbv); first | rw [h0] | rw [h1] | rw [h2] | rw [h3] | rw [h4]))
  all_goals (try cbv)

noncomputable def r27_Firm_b (l : List Entry) : Option ((List Peer)) :=
  (r27_Firm_l0 l 0 []).bind fun r1 =>
  some r1
theorem r27_Firm_r {l : List Entry} {r : (List Peer)} (h : r27_Firm_b l = some r) : r27_Firm l = some r := by
  unfold r27_Firm_b at h
  refine ask_of ?_
  replace h := bind_some h; obtain ⟨r1, h1, h⟩ := h
  replace h1 := asks_some h1 (gam [0, 0]); obtain ⟨γ1, h1⟩ := h1
  obtain r1 := r1
  cases h; refine call_lim rfl ?_
  rotate_left
  all_goals (try dsimp only [bd, gam, xlen, xget, xsub, xroom, xsget, xssub, xsapp, eL, R1, r27_Firm_l0_x, ePeer, eEntry] at *)
  all_goals (try simp only [map_app, map_set, map_put, map_fil, List.map_cons, List.map_nil] at *)
  all_goals (try dsimp only [ePeer, eEntry] at *)
  all_goals (show runFn ⟨Ops.std, (lim F pr).call, (lim F pr).loop, pr, (lim F pr).seg⟩ (g25F b25_0) _ _ = _)
  all_goals (generalize (lim F pr).call = call at *; generalize (lim F pr).loop = loop at *; generalize (lim F pr).seg = seg at *; generalize b25_0 = c0 at *; try generalize List.map eEntry = m0 at *; try generalize List.map ePeer = m1 at *; generalize Ops.std = o at *; cases o; try dsimp only at *)
  all_goals (repeat ((try cbv); first | rw [h1]))
  all_goals (try cbv)

noncomputable def r08_Peers_l0_x (γ : Nat → Nat) : Unit ⊕ Unit → X × St
  | .inl () => (.ret, ⟨bd 4 (vF false :: bd 21 []), []⟩)
  | .inr () => (.brk 0, ⟨bd 26 [], []⟩)
instance : InjS r08_Peers_l0_x := ⟨fun γ γ' x y h => by
  rcases x with _ | _ <;> rcases y with _ | _ <;> simp only [r08_Peers_l0_x, Prod.mk.injEq, St.mk.injEq, List.cons.injEq, AV.sc.injEq, AV.agg.injEq, AV.tup.injEq, AV.lit.injEq, AV.sl.injEq, AV.sub.injEq, AV.rptr.injEq, AV.lptr.injEq, AV.bptr.injEq, AV.fn.injEq, Ent.box.injEq, Ent.row.injEq, Value.int.injEq, Value.bool.injEq, Value.string.injEq, bd_inj, map_iff, eL_iff, and_true, true_and, and_assoc, reduceCtorEq, false_and, and_false, ePeer_iff, eEntry_iff] at h <;> simp_all⟩
noncomputable def r08_Peers_l0 (a : List Peer) (b : List Peer) (i : Int) : Option (Unit ⊕ Unit) := asks (fun γ => (lim F pr).loop [0, 1, 5] 0 b23_0 ⟨.lit 25 false (List.map ePeer a) :: .lit 25 false (List.map ePeer b) :: bd 3 (vI i :: bd 20 []), []⟩) r08_Peers_l0_x
noncomputable def r08_Peers_l0_b (a : List Peer) (b : List Peer) (i : Int) : Option (Unit ⊕ Unit) :=
  bif Ops.std.ilt i (xlen ePeer a) then
    (xget ePeer a i).bind fun x =>
    (xget ePeer b i).bind fun x1 =>
    bif Ops.std.ieq x.id x1.id then
      bif Ops.std.ieq x.addr x1.addr then r08_Peers_l0 a b (Ops.std.iadd .i64 i 1) else
      some (.inl ())
    else
      some (.inl ())
  else
    some (.inr ())
theorem r08_Peers_l0_r {a : List Peer} {b : List Peer} {i : Int} {r : Unit ⊕ Unit} (h : r08_Peers_l0_b a b i = some r) : r08_Peers_l0 a b i = some r := by
  unfold r08_Peers_l0_b at h
  refine asks_of fun γ => ?_
  replace h := cond_some h; rcases h with ⟨h1, h⟩ | ⟨h1, h⟩
  replace h := bind_some h; obtain ⟨x, h2, h⟩ := h
  replace h2 := ask_some h2
  replace h := bind_some h; obtain ⟨x1, h3, h⟩ := h
  replace h3 := ask_some h3
  replace h := cond_some h; rcases h with ⟨h4, h⟩ | ⟨h4, h⟩
  replace h := cond_some h; rcases h with ⟨h5, h⟩ | ⟨h5, h⟩
  replace h := asks_some h (gam []); obtain ⟨γ', h0⟩ := h; refine ⟨γ', round_lim ?_⟩
  rotate_left
  cases h; refine ⟨gam [], round_lim ?_⟩
  rotate_left
  cases h; refine ⟨gam [], round_lim ?_⟩
  rotate_left
  cases h; refine ⟨gam [], round_lim ?_⟩
  rotate_left
  all_goals (try dsimp only [bd, gam, xlen, xget, xsub, xroom, xsget, xssub, xsapp, eL, r08_Peers_l0_x, ePeer, eEntry] at *)
  all_goals (try simp only [map_app, map_set, map_put, map_fil, List.map_cons, List.map_nil] at *)
  all_goals (try dsimp only [ePeer, eEntry] at *)
  all_goals (show roundAs ⟨Ops.std, (lim F pr).call, (lim F pr).loop, pr, (lim F pr).seg⟩ _ _ b23_0 b23_0F _ = _)
  all_goals (generalize (lim F pr).call = call at *; generalize (lim F pr).loop = loop at *; generalize (lim F pr).seg = seg at *; generalize b23_0 = c0 at *; try generalize List.map eEntry = m0 at *; try generalize List.map ePeer = m1 at *; generalize Ops.std = o at *; cases o; try dsimp only at *)
  all_goals (repeat ((try cbv); first | rw [h0] | rw [h1] | rw [h2] | rw [h3] | rw [h4] | rw [h5]))
  all_goals (try cbv)

noncomputable def r08_Peers_b (a : List Peer) (b : List Peer) : Option (Bool) :=
  bif Ops.std.ieq (xlen ePeer a) (xlen ePeer b) then
    (r08_Peers_l0 a b 0).bind fun r => match r with
      | .inl () =>
        some false
      | .inr () =>
        some true
  else
    some false
theorem r08_Peers_r {a : List Peer} {b : List Peer} {r : Bool} (h : r08_Peers_b a b = some r) : r08_Peers a b = some r := by
  unfold r08_Peers_b at h
  refine ask_of ?_
  replace h := cond_some h; rcases h with ⟨h1, h⟩ | ⟨h1, h⟩
  replace h := bind_some h; obtain ⟨r2, h2, h⟩ := h
  replace h2 := asks_some h2 (gam []); obtain ⟨γ1, h2⟩ := h2
  rcases r2 with _ | _
  cases h; refine call_lim rfl ?_
  rotate_left
  cases h; refine call_lim rfl ?_
  rotate_left
  cases h; refine call_lim rfl ?_
  rotate_left
  all_goals (try dsimp only [bd, gam, xlen, xget, xsub, xroom, xsget, xssub, xsapp, eL, R1, r08_Peers_l0_x, ePeer, eEntry] at *)
  all_goals (try simp only [map_app, map_set, map_put, map_fil, List.map_cons, List.map_nil] at *)
  all_goals (try dsimp only [ePeer, eEntry] at *)
  all_goals (show runFn ⟨Ops.std, (lim F pr).call, (lim F pr).loop, pr, (lim F pr).seg⟩ (g23F b23_0) _ _ = _)
  all_goals (generalize (lim F pr).call = call at *; generalize (lim F pr).loop = loop at *; generalize (lim F pr).seg = seg at *; generalize b23_0 = c0 at *; try generalize List.map eEntry = m0 at *; try generalize List.map ePeer = m1 at *; generalize Ops.std = o at *; cases o; try dsimp only at *)
  all_goals (repeat ((try cbv); first | rw [h1] | rw [h2]))
  all_goals (try cbv)


noncomputable def peers_All_b (l : List Entry) : Option ((List Peer)) :=
  (peers_some_1 l).bind fun res =>
  some res
theorem peers_All_r {l : List Entry} {r : (List Peer)} (h : peers_All_b l = some r) : peers_All l = some r := by
  unfold peers_All_b at h
  refine ask_of ?_
  replace h := bind_some h; obtain ⟨r1, h1, h⟩ := h
  replace h1 := ask_some h1
  obtain res := r1
  cases h; refine call_lim rfl ?_
  rotate_left
  all_goals (try dsimp only [bd, gam, xlen, xget, xsub, xroom, xsget, xssub, xsapp, eL, R1, ePeer, eEntry] at *)
  all_goals (try simp only [map_app, map_set, map_put, map_fil, List.map_cons, List.map_nil] at *)
  all_goals (try dsimp only [ePeer, eEntry] at *)
  all_goals (show runFn ⟨Ops.std, (lim F pr).call, (lim F pr).loop, pr, (lim F pr).seg⟩ g26F _ _ = _)
  all_goals (generalize (lim F pr).call = call at *; generalize (lim F pr).loop = loop at *; generalize (lim F pr).seg = seg at *; try generalize List.map eEntry = m0 at *; try generalize List.map ePeer = m1 at *; generalize Ops.std = o at *; cases o; try dsimp only at *)
  all_goals (repeat ((try cbv); first | rw [h1]))
  all_goals (try cbv)

noncomputable def r27_All_l0_x (γ : Nat → Nat) : (List Peer) → X × St
  | a0 => (.brk 0, ⟨bd 3 (.sl 1 ((γ 1)) :: bd 16 []), [.row 25 (γ 0) false (List.map ePeer []), .row 25 (γ 1) false (List.map ePeer a0)]⟩)
instance : InjS r27_All_l0_x := ⟨fun γ γ' x y h => by
  rcases x with a0 <;> rcases y with a0' <;> simp only [r27_All_l0_x, Prod.mk.injEq, St.mk.injEq, List.cons.injEq, AV.sc.injEq, AV.agg.injEq, AV.tup.injEq, AV.lit.injEq, AV.sl.injEq, AV.sub.injEq, AV.rptr.injEq, AV.lptr.injEq, AV.bptr.injEq, AV.fn.injEq, Ent.box.injEq, Ent.row.injEq, Value.int.injEq, Value.bool.injEq, Value.string.injEq, bd_inj, map_iff, eL_iff, and_true, true_and, and_assoc, reduceCtorEq, false_and, and_false, ePeer_iff, eEntry_iff] at h <;> simp_all⟩
noncomputable def r27_All_l0 (l : List Entry) (i : Int) (r1 : List Peer) : Option ((List Peer)) := asks (fun γ => (lim F pr).loop [0, 4, 3] 2 b27_0 ⟨.lit 41 false (List.map eEntry l) :: bd 2 (.sl 1 ((γ 1)) :: vI i :: bd 15 []), [.row 25 (γ 0) false (List.map ePeer []), .row 25 (γ 1) false (List.map ePeer r1)]⟩) r27_All_l0_x
noncomputable def r27_All_l0_b (l : List Entry) (i : Int) (r1 : List Peer) : Option ((List Peer)) :=
  bif Ops.std.ilt i (xlen eEntry l) then
    (xget eEntry l i).bind fun x =>
    bif xroom ePeer 16 r1 [x.peer] then r27_All_l0 l (Ops.std.iadd .i64 i 1) (r1 ++ [x.peer]) else
    none
  else
    some r1
theorem r27_All_l0_r {l : List Entry} {i : Int} {r1 : List Peer} {r : (List Peer)} (h : r27_All_l0_b l i r1 = some r) : r27_All_l0 l i r1 = some r := by
  unfold r27_All_l0_b at h
  refine asks_of fun γ => ?_
  replace h := cond_some h; rcases h with ⟨h1, h⟩ | ⟨h1, h⟩
  replace h := bind_some h; obtain ⟨x, h2, h⟩ := h
  replace h2 := ask_some h2
  replace h := need_some h; obtain ⟨h3, h⟩ := h
  replace h := asks_some h (gam [(γ 0), ((γ 1) + 1)]); obtain ⟨γ', h0⟩ := h; refine ⟨γ', round_lim ?_⟩
  rotate_left
  cases h; refine ⟨gam [(γ 0), (γ 1)], round_lim ?_⟩
  rotate_left
  all_goals (try dsimp only [bd, gam, xlen, xget, xsub, xroom, xsget, xssub, xsapp, eL, r27_All_l0_x, ePeer, eEntry] at *)
  all_goals (try simp only [map_app, map_set, map_put, map_fil, List.map_cons, List.map_nil] at *)
  all_goals (try dsimp only [ePeer, eEntry] at *)
  all_goals (show roundAs ⟨Ops.std, (lim F pr).call, (lim F pr).loop, pr, (lim F pr).seg⟩ _ _ b27_0 b27_0F _ = _)
  all_goals (generalize (lim F pr).call = call at *; generalize (lim F pr).loop = loop at *; generalize (lim F pr).seg = seg at *; generalize b27_0 = c0 at *; try generalize List.map eEntry = m0 at *; try generalize List.map ePeer = m1 at *; generalize Ops.std = o at *; cases o; try dsimp only at *)
  all_goals (repeat ((try cbv); first | rw [h0] | rw [h1] | rw [h2] | rw [h3]))
  all_goals (try cbv)

noncomputable def r27_All_b (l : List Entry) : Option ((List Peer)) :=
  (r27_All_l0 l 0 []).bind fun r1 =>
  some r1
theorem r27_All_r {l : List Entry} {r : (List Peer)} (h : r27_All_b l = some r) : r27_All l = some r := by
  unfold r27_All_b at h
  refine ask_of ?_
  replace h := bind_some h; obtain ⟨r1, h1, h⟩ := h
  replace h1 := asks_some h1 (gam [0, 0]); obtain ⟨γ1, h1⟩ := h1
  obtain r1 := r1
  cases h; refine call_lim rfl ?_
  rotate_left
  all_goals (try dsimp only [bd, gam, xlen, xget, xsub, xroom, xsget, xssub, xsapp, eL, R1, r27_All_l0_x, ePeer, eEntry] at *)
  all_goals (try simp only [map_app, map_set, map_put, map_fil, List.map_cons, List.map_nil] at *)
  all_goals (try dsimp only [ePeer, eEntry] at *)
  all_goals (show runFn ⟨Ops.std, (lim F pr).call, (lim F pr).loop, pr, (lim F pr).seg⟩ (g27F b27_0) _ _ = _)
  all_goals (generalize (lim F pr).call = call at *; generalize (lim F pr).loop = loop at *; generalize (lim F pr).seg = seg at *; generalize b27_0 = c0 at *; try generalize List.map eEntry = m0 at *; try generalize List.map ePeer = m1 at *; generalize Ops.std = o at *; cases o; try dsimp only at *)
  all_goals (repeat ((try cbv); first | rw [h1]))
  all_goals (try cbv)


noncomputable def peers_Add_1_b (x : Entry) (b0_id : Int) (b0_addr : Int) (b1_id : Int) (b1_addr : Int) : Option (Bool) :=
  (peers_Ahead (⟨b0_id, b0_addr⟩ : Peer) (⟨b1_id, b1_addr⟩ : Peer) x.peer).bind fun res =>
  some res
theorem peers_Add_1_r {x : Entry} {b0_id : Int} {b0_addr : Int} {b1_id : Int} {b1_addr : Int} {r : Bool} (h : peers_Add_1_b x b0_id b0_addr b1_id b1_addr = some r) : peers_Add_1 x b0_id b0_addr b1_id b1_addr = some r := by
  unfold peers_Add_1_b at h
  refine ask_of ?_
  replace h := bind_some h; obtain ⟨r1, h1, h⟩ := h
  replace h1 := ask_some h1
  obtain res := r1
  cases h; refine call_lim rfl ?_
  rotate_left
  all_goals (try dsimp only [bd, gam, xlen, xget, xsub, xroom, xsget, xssub, xsapp, eL, R1, peers_Add_1_e, ePeer, eEntry] at *)
  all_goals (try simp only [map_app, map_set, map_put, map_fil, List.map_cons, List.map_nil] at *)
  all_goals (try dsimp only [ePeer, eEntry] at *)
  all_goals (show runFn ⟨Ops.std, (lim F pr).call, (lim F pr).loop, pr, (lim F pr).seg⟩ g39F _ _ = _)
  all_goals (generalize (lim F pr).call = call at *; generalize (lim F pr).loop = loop at *; generalize (lim F pr).seg = seg at *; try generalize List.map eEntry = m0 at *; try generalize List.map ePeer = m1 at *; generalize Ops.std = o at *; cases o; try dsimp only at *)
  all_goals (repeat ((try cbv); first | rw [h1]))
  all_goals (try cbv)

noncomputable def IndexFunc_Entry_l0_x (b0_id : Int) (b0_addr : Int) (b1_id : Int) (b1_addr : Int) (γ : Nat → Nat) : Int ⊕ Unit → X × St
  | .inl a0 => (.ret, ⟨bd 4 (vI a0 :: bd 14 []), [.box 25 [vU b0_id, vH b0_addr], .box 25 [vU b1_id, vH b1_addr]]⟩)
  | .inr () => (.brk 0, ⟨bd 19 [], [.box 25 [vU b0_id, vH b0_addr], .box 25 [vU b1_id, vH b1_addr]]⟩)
instance {b0_id : Int} {b0_addr : Int} {b1_id : Int} {b1_addr : Int} : InjS (IndexFunc_Entry_l0_x b0_id b0_addr b1_id b1_addr) := ⟨fun γ γ' x y h => by
  rcases x with a0 | _ <;> rcases y with a0' | _ <;> simp only [IndexFunc_Entry_l0_x, Prod.mk.injEq, St.mk.injEq, List.cons.injEq, AV.sc.injEq, AV.agg.injEq, AV.tup.injEq, AV.lit.injEq, AV.sl.injEq, AV.sub.injEq, AV.rptr.injEq, AV.lptr.injEq, AV.bptr.injEq, AV.fn.injEq, Ent.box.injEq, Ent.row.injEq, Value.int.injEq, Value.bool.injEq, Value.string.injEq, bd_inj, map_iff, eL_iff, and_true, true_and, and_assoc, reduceCtorEq, false_and, and_false, ePeer_iff, eEntry_iff] at h <;> simp_all⟩
noncomputable def IndexFunc_Entry_l0 (s : List Entry) (b0_id : Int) (b0_addr : Int) (b1_id : Int) (b1_addr : Int) (t8 : Int) : Option (Int ⊕ Unit) := asks (fun γ => (lim F pr).loop [7, 1, 0, 8] 2 b38_0 ⟨.lit 41 false (List.map eEntry s) :: .fn 39 [.bptr 0 0, .bptr 1 0] :: bd 5 (vI (xlen eEntry s) :: vI t8 :: bd 10 []), [.box 25 [vU b0_id, vH b0_addr], .box 25 [vU b1_id, vH b1_addr]]⟩) (IndexFunc_Entry_l0_x b0_id b0_addr b1_id b1_addr)
noncomputable def IndexFunc_Entry_l0_b (s : List Entry) (b0_id : Int) (b0_addr : Int) (b1_id : Int) (b1_addr : Int) (t8 : Int) : Option (Int ⊕ Unit) :=
  bif Ops.std.ilt t8 (xlen eEntry s) then
    (xget eEntry s t8).bind fun x =>
    (peers_Add_1 x b0_id b0_addr b1_id b1_addr).bind fun res =>
    bif res then some (.inl t8) else
    IndexFunc_Entry_l0 s b0_id b0_addr b1_id b1_addr (Ops.std.iadd .i64 t8 1)
  else
    some (.inr ())
theorem IndexFunc_Entry_l0_r {s : List Entry} {b0_id : Int} {b0_addr : Int} {b1_id : Int} {b1_addr : Int} {t8 : Int} {r : Int ⊕ Unit} (h : IndexFunc_Entry_l0_b s b0_id b0_addr b1_id b1_addr t8 = some r) : IndexFunc_Entry_l0 s b0_id b0_addr b1_id b1_addr t8 = some r := by
  unfold IndexFunc_Entry_l0_b at h
  refine asks_of fun γ => ?_
  replace h := cond_some h; rcases h with ⟨h1, h⟩ | ⟨h1, h⟩
  replace h := bind_some h; obtain ⟨x, h2, h⟩ := h
  replace h2 := ask_some h2
  replace h := bind_some h; obtain ⟨r3, h3, h⟩ := h
  replace h3 := ask_some h3
  obtain res := r3
  replace h := cond_some h; rcases h with ⟨h4, h⟩ | ⟨h4, h⟩
  cases h; refine ⟨gam [], round_lim ?_⟩
  rotate_left
  replace h := asks_some h (gam []); obtain ⟨γ', h0⟩ := h; refine ⟨γ', round_lim ?_⟩
  rotate_left
  cases h; refine ⟨gam [], round_lim ?_⟩
  rotate_left
  all_goals (try dsimp only [bd, gam, xlen, xget, xsub, xroom, xsget, xssub, xsapp, eL, IndexFunc_Entry_l0_x, peers_Add_1_e, ePeer, eEntry] at *)
  all_goals (try simp only [map_app, map_set, map_put, map_fil, List.map_cons, List.map_nil] at *)
  all_goals (try dsimp only [ePeer, eEntry] at *)
  all_goals (show roundAs ⟨Ops.std, (lim F pr).call, (lim F pr).loop, pr, (lim F pr).seg⟩ _ _ b38_0 b38_0F _ = _)
  all_goals (generalize (lim F pr).call = call at *; generalize (lim F pr).loop = loop at *; generalize (lim F pr).seg = seg at *; generalize b38_0 = c0 at *; try generalize List.map eEntry = m0 at *; try generalize List.map ePeer = m1 at *; generalize Ops.std = o at *; cases o; try dsimp only at *)
  all_goals (repeat ((try cbv); first | rw [h0] | rw [h1] | rw [h2] | rw [h3] | rw [h4]))
  all_goals (try cbv)

noncomputable def IndexFunc_Entry_b (s : List Entry) (b0_id : Int) (b0_addr : Int) (b1_id : Int) (b1_addr : Int) : Option (Int) :=
  (IndexFunc_Entry_l0 s b0_id b0_addr b1_id b1_addr 0).bind fun r => match r with
    | .inl t4 =>
      some t4
    | .inr () =>
      some (-1)
theorem IndexFunc_Entry_r {s : List Entry} {b0_id : Int} {b0_addr : Int} {b1_id : Int} {b1_addr : Int} {r : Int} (h : IndexFunc_Entry_b s b0_id b0_addr b1_id b1_addr = some r) : IndexFunc_Entry s b0_id b0_addr b1_id b1_addr = some r := by
  unfold IndexFunc_Entry_b at h
  refine ask_of ?_
  replace h := bind_some h; obtain ⟨r1, h1, h⟩ := h
  replace h1 := asks_some h1 (gam []); obtain ⟨γ1, h1⟩ := h1
  rcases r1 with t4 | _
  cases h; refine call_lim rfl ?_
  rotate_left
  cases h; refine call_lim rfl ?_
  rotate_left
  all_goals (try dsimp only [bd, gam, xlen, xget, xsub, xroom, xsget, xssub, xsapp, eL, IndexFunc_Entry_e, IndexFunc_Entry_l0_x, ePeer, eEntry] at *)
  all_goals (try simp only [map_app, map_set, map_put, map_fil, List.map_cons, List.map_nil] at *)
  all_goals (try dsimp only [ePeer, eEntry] at *)
  all_goals (show runFn ⟨Ops.std, (lim F pr).call, (lim F pr).loop, pr, (lim F pr).seg⟩ (g38F b38_0) _ _ = _)
  all_goals (generalize (lim F pr).call = call at *; generalize (lim F pr).loop = loop at *; generalize (lim F pr).seg = seg at *; generalize b38_0 = c0 at *; try generalize List.map eEntry = m0 at *; try generalize List.map ePeer = m1 at *; generalize Ops.std = o at *; cases o; try dsimp only at *)
  all_goals (repeat ((try cbv); first | rw [h1]))
  all_goals (try cbv)


noncomputable def Delete_Entry_b (i : Int) (j : Int) (r0 : List Entry) : Option ((List Entry)) :=
  (xsub eEntry r0 i j).bind fun ys =>
  (xsub eEntry r0 j (xlen eEntry r0)).bind fun ys1 =>
  bif Ops.std.ieq i j then some r0 else
  (xsub eEntry r0 0 i).bind fun ys2 =>
  bif Ops.std.ieq 0 0 then
    bif Ops.std.ile (xlen eEntry ys1) (Ops.std.isub .i64 (xlen eEntry r0) i) then
      (xsub eEntry (xput r0 i ys1) 0 (Ops.std.iadd .i64 i (xlen eEntry ys1))).bind fun ys3 =>
      (xsub eEntry (xput r0 i ys1) (xlen eEntry ys3) (xlen eEntry r0)).bind fun ys4 =>
      (xsub eEntry (xfil (xput r0 i ys1) (xlen eEntry ys3) (xlen eEntry r0) (⟨(⟨0, 0⟩ : Peer), 0⟩ : Entry)) 0 (Ops.std.iadd .i64 i (xlen eEntry ys1))).bind fun ys5 =>
      some ys5
    else
      none
  else
    none
theorem Delete_Entry_r {i : Int} {j : Int} {r0 : List Entry} {r : (List Entry)} (h : Delete_Entry_b i j r0 = some r) : Delete_Entry i j r0 = some r := by
  unfold Delete_Entry_b at h
  refine asks_of fun γ => ?_
  replace h := bind_some h; obtain ⟨ys, h1, h⟩ := h
  replace h1 := ask_some h1
  replace h := bind_some h; obtain ⟨ys1, h2, h⟩ := h
  replace h2 := ask_some h2
  replace h := cond_some h; rcases h with ⟨h3, h⟩ | ⟨h3, h⟩
  cases h; refine ⟨gam [γ 0], call_lim rfl ?_⟩
  rotate_left
  replace h := bind_some h; obtain ⟨ys2, h4, h⟩ := h
  replace h4 := ask_some h4
  replace h := need_some h; obtain ⟨h5, h⟩ := h
  replace h := need_some h; obtain ⟨h6, h⟩ := h
  replace h := bind_some h; obtain ⟨ys3, h7, h⟩ := h
  replace h7 := ask_some h7
  replace h := bind_some h; obtain ⟨ys4, h8, h⟩ := h
  replace h8 := ask_some h8
  replace h := bind_some h; obtain ⟨ys5, h9, h⟩ := h
  replace h9 := ask_some h9
  cases h; refine ⟨gam [(γ 0 + 1)], call_lim rfl ?_⟩
  rotate_left
  all_goals (try dsimp only [bd, gam, xlen, xget, xsub, xroom, xsget, xssub, xsapp, eL, Delete_Entry_e, ePeer, eEntry] at *)
  all_goals (try simp only [map_app, map_set, map_put, map_fil, List.map_cons, List.map_nil] at *)
  all_goals (try dsimp only [ePeer, eEntry] at *)
  all_goals (show runFn ⟨Ops.std, (lim F pr).call, (lim F pr).loop, pr, (lim F pr).seg⟩ g41F _ _ = _)
  all_goals (generalize (lim F pr).call = call at *; generalize (lim F pr).loop = loop at *; generalize (lim F pr).seg = seg at *; try generalize List.map eEntry = m0 at *; try generalize List.map ePeer = m1 at *; generalize Ops.std = o at *; cases o; try dsimp only at *)
  all_goals (repeat ((try cbv); first | rw [h1] | rw [h2] | rw [h3] | rw [h4] | rw [h5] | rw [h6] | rw [h7] | rw [h8] | rw [h9]))
  all_goals (try cbv)


noncomputable def peers_Drop_1_b (x : Entry) (b0 : Int) : Option (Bool) :=
  some (Ops.std.ieq x.peer.addr b0)
theorem peers_Drop_1_r {x : Entry} {b0 : Int} {r : Bool} (h : peers_Drop_1_b x b0 = some r) : peers_Drop_1 x b0 = some r := by
  unfold peers_Drop_1_b at h
  refine ask_of ?_
  cases h; refine call_lim rfl ?_
  rotate_left
  all_goals (try dsimp only [bd, gam, xlen, xget, xsub, xroom, xsget, xssub, xsapp, eL, peers_Drop_1_e, ePeer, eEntry] at *)
  all_goals (try simp only [map_app, map_set, map_put, map_fil, List.map_cons, List.map_nil] at *)
  all_goals (try dsimp only [ePeer, eEntry] at *)
  all_goals (show runFn ⟨Ops.std, (lim F pr).call, (lim F pr).loop, pr, (lim F pr).seg⟩ g43F _ _ = _)
  all_goals (generalize (lim F pr).call = call at *; generalize (lim F pr).loop = loop at *; generalize (lim F pr).seg = seg at *; try generalize List.map eEntry = m0 at *; try generalize List.map ePeer = m1 at *; generalize Ops.std = o at *; cases o; try dsimp only at *)
  all_goals (try cbv)

noncomputable def IndexFunc_Entry_1_l0_x (b0 : Int) (γ : Nat → Nat) : Int ⊕ Unit → X × St
  | .inl a0 => (.ret, ⟨bd 4 (vI a0 :: bd 14 []), [.box 23 [vH b0]]⟩)
  | .inr () => (.brk 0, ⟨bd 19 [], [.box 23 [vH b0]]⟩)
instance {b0 : Int} : InjS (IndexFunc_Entry_1_l0_x b0) := ⟨fun γ γ' x y h => by
  rcases x with a0 | _ <;> rcases y with a0' | _ <;> simp only [IndexFunc_Entry_1_l0_x, Prod.mk.injEq, St.mk.injEq, List.cons.injEq, AV.sc.injEq, AV.agg.injEq, AV.tup.injEq, AV.lit.injEq, AV.sl.injEq, AV.sub.injEq, AV.rptr.injEq, AV.lptr.injEq, AV.bptr.injEq, AV.fn.injEq, Ent.box.injEq, Ent.row.injEq, Value.int.injEq, Value.bool.injEq, Value.string.injEq, bd_inj, map_iff, eL_iff, and_true, true_and, and_assoc, reduceCtorEq, false_and, and_false, ePeer_iff, eEntry_iff] at h <;> simp_all⟩
noncomputable def IndexFunc_Entry_1_l0 (s : List Entry) (b0 : Int) (t8 : Int) : Option (Int ⊕ Unit) := asks (fun γ => (lim F pr).loop [7, 1, 0, 8] 1 b38_0 ⟨.lit 41 false (List.map eEntry s) :: .fn 43 [.bptr 0 0] :: bd 5 (vI (xlen eEntry s) :: vI t8 :: bd 10 []), [.box 23 [vH b0]]⟩) (IndexFunc_Entry_1_l0_x b0)
noncomputable def IndexFunc_Entry_1_l0_b (s : List Entry) (b0 : Int) (t8 : Int) : Option (Int ⊕ Unit) :=
  bif Ops.std.ilt t8 (xlen eEntry s) then
    (xget eEntry s t8).bind fun x =>
    (peers_Drop_1 x b0).bind fun res =>
    bif res then some (.inl t8) else
    IndexFunc_Entry_1_l0 s b0 (Ops.std.iadd .i64 t8 1)
  else
    some (.inr ())
theorem IndexFunc_Entry_1_l0_r {s : List Entry} {b0 : Int} {t8 : Int} {r : Int ⊕ Unit} (h : IndexFunc_Entry_1_l0_b s b0 t8 = some r) : IndexFunc_Entry_1_l0 s b0 t8 = some r := by
  unfold IndexFunc_Entry_1_l0_b at h
  refine asks_of fun γ => ?_
  replace h := cond_some h; rcases h with ⟨h1, h⟩ | ⟨h1, h⟩
  replace h := bind_some h; obtain ⟨x, h2, h⟩ := h
  replace h2 := ask_some h2
  replace h := bind_some h; obtain ⟨r3, h3, h⟩ := h
  replace h3 := ask_some h3
  obtain res := r3
  replace h := cond_some h; rcases h with ⟨h4, h⟩ | ⟨h4, h⟩
  cases h; refine ⟨gam [], round_lim ?_⟩
  rotate_left
  replace h := asks_some h (gam []); obtain ⟨γ', h0⟩ := h; refine ⟨γ', round_lim ?_⟩
  rotate_left
  cases h; refine ⟨gam [], round_lim ?_⟩
  rotate_left
  all_goals (try dsimp only [bd, gam, xlen, xget, xsub, xroom, xsget, xssub, xsapp, eL, IndexFunc_Entry_1_l0_x, peers_Drop_1_e, ePeer, eEntry] at *)
  all_goals (try simp only [map_app, map_set, map_put, map_fil, List.map_cons, List.map_nil] at *)
  all_goals (try dsimp only [ePeer, eEntry] at *)
  all_goals (show roundAs ⟨Ops.std, (lim F pr).call, (lim F pr).loop, pr, (lim F pr).seg⟩ _ _ b38_0 b38_0F _ = _)
  all_goals (generalize (lim F pr).call = call at *; generalize (lim F pr).loop = loop at *; generalize (lim F pr).seg = seg at *; generalize b38_0 = c0 at *; try generalize List.map eEntry = m0 at *; try generalize List.map ePeer = m1 at *; generalize Ops.std = o at *; cases o; try dsimp only at *)
  all_goals (repeat ((try cbv); first | rw [h0] | rw [h1] | rw [h2] | rw [h3] | rw [h4]))
  all_goals (try cbv)

noncomputable def IndexFunc_Entry_1_b (s : List Entry) (b0 : Int) : Option (Int) :=
  (IndexFunc_Entry_1_l0 s b0 0).bind fun r => match r with
    | .inl t4 =>
      some t4
    | .inr () =>
      some (-1)
theorem IndexFunc_Entry_1_r {s : List Entry} {b0 : Int} {r : Int} (h : IndexFunc_Entry_1_b s b0 = some r) : IndexFunc_Entry_1 s b0 = some r := by
  unfold IndexFunc_Entry_1_b at h
  refine ask_of ?_
  replace h := bind_some h; obtain ⟨r1, h1, h⟩ := h
  replace h1 := asks_some h1 (gam []); obtain ⟨γ1, h1⟩ := h1
  rcases r1 with t4 | _
  cases h; refine call_lim rfl ?_
  rotate_left
  cases h; refine call_lim rfl ?_
  rotate_left
  all_goals (try dsimp only [bd, gam, xlen, xget, xsub, xroom, xsget, xssub, xsapp, eL, IndexFunc_Entry_1_e, IndexFunc_Entry_1_l0_x, ePeer, eEntry] at *)
  all_goals (try simp only [map_app, map_set, map_put, map_fil, List.map_cons, List.map_nil] at *)
  all_goals (try dsimp only [ePeer, eEntry] at *)
  all_goals (show runFn ⟨Ops.std, (lim F pr).call, (lim F pr).loop, pr, (lim F pr).seg⟩ (g38F b38_0) _ _ = _)
  all_goals (generalize (lim F pr).call = call at *; generalize (lim F pr).loop = loop at *; generalize (lim F pr).seg = seg at *; generalize b38_0 = c0 at *; try generalize List.map eEntry = m0 at *; try generalize List.map ePeer = m1 at *; generalize Ops.std = o at *; cases o; try dsimp only at *)
  all_goals (repeat ((try cbv); first | rw [h1]))
  all_goals (try cbv)

noncomputable def DeleteFunc_Entry_l0_x (b1 : Int) (γ : Nat → Nat) : (Int × (List Entry)) → X × St
  | (a0, a1) => (.brk 0, ⟨.sl 0 ((γ 0)) :: bd 4 (vI a0 :: bd 36 []), [.row 41 (γ 0) false (List.map eEntry a1), .box 23 [vH b1], .row 41 (γ 2) false (List.map eEntry [])]⟩)
instance {b1 : Int} : InjS (DeleteFunc_Entry_l0_x b1) := ⟨fun γ γ' x y h => by
  rcases x with ⟨a0, a1⟩ <;> rcases y with ⟨a0', a1'⟩ <;> simp only [DeleteFunc_Entry_l0_x, Prod.mk.injEq, St.mk.injEq, List.cons.injEq, AV.sc.injEq, AV.agg.injEq, AV.tup.injEq, AV.lit.injEq, AV.sl.injEq, AV.sub.injEq, AV.rptr.injEq, AV.lptr.injEq, AV.bptr.injEq, AV.fn.injEq, Ent.box.injEq, Ent.row.injEq, Value.int.injEq, Value.bool.injEq, Value.string.injEq, bd_inj, map_iff, eL_iff, and_true, true_and, and_assoc, reduceCtorEq, false_and, and_false, ePeer_iff, eEntry_iff] at h <;> simp_all⟩
noncomputable def DeleteFunc_Entry_l0 (b1 : Int) (i : Int) (j : Int) (r0' : List Entry) : Option ((Int × (List Entry))) := asks (fun γ => (lim F pr).loop [1, 6, 0, 5] 3 b42_0 ⟨.sl 0 ((γ 0)) :: .fn 43 [.bptr 1 0] :: bd 3 (vI i :: vI j :: bd 35 []), [.row 41 (γ 0) false (List.map eEntry r0'), .box 23 [vH b1], .row 41 (γ 2) false (List.map eEntry [])]⟩) (DeleteFunc_Entry_l0_x b1)
noncomputable def DeleteFunc_Entry_l0_b (b1 : Int) (i : Int) (j : Int) (r0' : List Entry) : Option ((Int × (List Entry))) :=
  bif Ops.std.ilt j (xlen eEntry r0') then
    (xget eEntry r0' j).bind fun x =>
    (peers_Drop_1 x b1).bind fun res =>
    bif res then DeleteFunc_Entry_l0 b1 i (Ops.std.iadd .i64 j 1) r0' else
    (xget eEntry r0' i).bind fun x1 =>
    DeleteFunc_Entry_l0 b1 (Ops.std.iadd .i64 i 1) (Ops.std.iadd .i64 j 1) (xset r0' i x)
  else
    some (i, r0')
theorem DeleteFunc_Entry_l0_r {b1 : Int} {i : Int} {j : Int} {r0' : List Entry} {r : (Int × (List Entry))} (h : DeleteFunc_Entry_l0_b b1 i j r0' = some r) : DeleteFunc_Entry_l0 b1 i j r0' = some r := by
  unfold DeleteFunc_Entry_l0_b at h
  refine asks_of fun γ => ?_
  replace h := cond_some h; rcases h with ⟨h1, h⟩ | ⟨h1, h⟩
  replace h := bind_some h; obtain ⟨x, h2, h⟩ := h
  replace h2 := ask_some h2
  replace h := bind_some h; obtain ⟨r3, h3, h⟩ := h
  replace h3 := ask_some h3
  obtain res := r3
  replace h := cond_some h; rcases h with ⟨h4, h⟩ | ⟨h4, h⟩
  replace h := asks_some h (gam [(γ 0), 0, (γ 2)]); obtain ⟨γ', h0⟩ := h; refine ⟨γ', round_lim ?_⟩
  rotate_left
  replace h := bind_some h; obtain ⟨x1, h5, h⟩ := h
  replace h5 := ask_some h5
  replace h := asks_some h (gam [(γ 0), 0, (γ 2)]); obtain ⟨γ', h0⟩ := h; refine ⟨γ', round_lim ?_⟩
  rotate_left
  cases h; refine ⟨gam [(γ 0), 0, (γ 2)], round_lim ?_⟩
  rotate_left
  all_goals (try dsimp only [bd, gam, xlen, xget, xsub, xroom, xsget, xssub, xsapp, eL, DeleteFunc_Entry_l0_x, peers_Drop_1_e, ePeer, eEntry] at *)
  all_goals (try simp only [map_app, map_set, map_put, map_fil, List.map_cons, List.map_nil] at *)
  all_goals (try dsimp only [ePeer, eEntry] at *)
  all_goals (show roundAs ⟨Ops.std, (lim F pr).call, (lim F pr).loop, pr, (lim F pr).seg⟩ _ _ b42_0 b42_0F _ = _)
  all_goals (generalize (lim F pr).call = call at *; generalize (lim F pr).loop = loop at *; generalize (lim F pr).seg = seg at *; generalize b42_0 = c0 at *; try generalize List.map eEntry = m0 at *; try generalize List.map ePeer = m1 at *; generalize Ops.std = o at *; cases o; try dsimp only at *)
  all_goals (repeat ((try cbv); first | rw [h0] | rw [h1] | rw [h2] | rw [h3] | rw [h4] | rw [h5]))
  all_goals (try cbv)

noncomputable def DeleteFunc_Entry_b (r0 : List Entry) (b1 : Int) : Option ((List Entry)) :=
  (IndexFunc_Entry_1 r0 b1).bind fun res =>
  bif Ops.std.ieq res (-1) then some r0 else
  (DeleteFunc_Entry_l0 b1 res (Ops.std.iadd .i64 res 1) r0).bind fun ⟨i, r0'⟩ =>
  (xsub eEntry r0' i (xlen eEntry r0')).bind fun ys =>
  (xsub eEntry (xfil r0' i (xlen eEntry r0') (⟨(⟨0, 0⟩ : Peer), 0⟩ : Entry)) 0 i).bind fun ys1 =>
  bif Ops.std.ieq 0 0 then some ys1 else
  none
theorem DeleteFunc_Entry_r {r0 : List Entry} {b1 : Int} {r : (List Entry)} (h : DeleteFunc_Entry_b r0 b1 = some r) : DeleteFunc_Entry r0 b1 = some r := by
  unfold DeleteFunc_Entry_b at h
  refine asks_of fun γ => ?_
  replace h := bind_some h; obtain ⟨r1, h1, h⟩ := h
  replace h1 := ask_some h1
  obtain res := r1
  replace h := cond_some h; rcases h with ⟨h2, h⟩ | ⟨h2, h⟩
  cases h; refine ⟨gam [γ 0, 0], call_lim rfl ?_⟩
  rotate_left
  replace h := bind_some h; obtain ⟨r3, h3, h⟩ := h
  replace h3 := asks_some h3 (gam [γ 0, 0, 0]); obtain ⟨γ2, h3⟩ := h3
  rcases r3 with ⟨i, r0'⟩
  replace h := bind_some h; obtain ⟨ys, h4, h⟩ := h
  replace h4 := ask_some h4
  replace h := bind_some h; obtain ⟨ys1, h5, h⟩ := h
  replace h5 := ask_some h5
  replace h := need_some h; obtain ⟨h6, h⟩ := h
  cases h; refine ⟨gam [((γ2 0) + 1), 0], call_lim rfl ?_⟩
  rotate_left
  all_goals (try dsimp only [bd, gam, xlen, xget, xsub, xroom, xsget, xssub, xsapp, eL, DeleteFunc_Entry_e, DeleteFunc_Entry_l0_x, IndexFunc_Entry_1_e, ePeer, eEntry] at *)
  all_goals (try simp only [map_app, map_set, map_put, map_fil, List.map_cons, List.map_nil] at *)
  all_goals (try dsimp only [ePeer, eEntry] at *)
  all_goals (show runFn ⟨Ops.std, (lim F pr).call, (lim F pr).loop, pr, (lim F pr).seg⟩ (g42F b42_0) _ _ = _)
  all_goals (generalize (lim F pr).call = call at *; generalize (lim F pr).loop = loop at *; generalize (lim F pr).seg = seg at *; generalize b42_0 = c0 at *; try generalize List.map eEntry = m0 at *; try generalize List.map ePeer = m1 at *; generalize Ops.std = o at *; cases o; try dsimp only at *)
  all_goals (repeat ((try cbv); first | rw [h1] | rw [h2] | rw [h3] | rw [h4] | rw [h5] | rw [h6]))
  all_goals (try cbv)


noncomputable def peers_Place_1_b (x : Entry) (b0 : Int) : Option (Bool) :=
  some (Ops.std.ieq x.peer.addr b0)
theorem peers_Place_1_r {x : Entry} {b0 : Int} {r : Bool} (h : peers_Place_1_b x b0 = some r) : peers_Place_1 x b0 = some r := by
  unfold peers_Place_1_b at h
  refine ask_of ?_
  cases h; refine call_lim rfl ?_
  rotate_left
  all_goals (try dsimp only [bd, gam, xlen, xget, xsub, xroom, xsget, xssub, xsapp, eL, peers_Place_1_e, ePeer, eEntry] at *)
  all_goals (try simp only [map_app, map_set, map_put, map_fil, List.map_cons, List.map_nil] at *)
  all_goals (try dsimp only [ePeer, eEntry] at *)
  all_goals (show runFn ⟨Ops.std, (lim F pr).call, (lim F pr).loop, pr, (lim F pr).seg⟩ g44F _ _ = _)
  all_goals (generalize (lim F pr).call = call at *; generalize (lim F pr).loop = loop at *; generalize (lim F pr).seg = seg at *; try generalize List.map eEntry = m0 at *; try generalize List.map ePeer = m1 at *; generalize Ops.std = o at *; cases o; try dsimp only at *)
  all_goals (try cbv)

noncomputable def IndexFunc_Entry_2_l0_x (b0 : Int) (γ : Nat → Nat) : Int ⊕ Unit → X × St
  | .inl a0 => (.ret, ⟨bd 4 (vI a0 :: bd 14 []), [.box 23 [vH b0]]⟩)
  | .inr () => (.brk 0, ⟨bd 19 [], [.box 23 [vH b0]]⟩)
instance {b0 : Int} : InjS (IndexFunc_Entry_2_l0_x b0) := ⟨fun γ γ' x y h => by
  rcases x with a0 | _ <;> rcases y with a0' | _ <;> simp only [IndexFunc_Entry_2_l0_x, Prod.mk.injEq, St.mk.injEq, List.cons.injEq, AV.sc.injEq, AV.agg.injEq, AV.tup.injEq, AV.lit.injEq, AV.sl.injEq, AV.sub.injEq, AV.rptr.injEq, AV.lptr.injEq, AV.bptr.injEq, AV.fn.injEq, Ent.box.injEq, Ent.row.injEq, Value.int.injEq, Value.bool.injEq, Value.string.injEq, bd_inj, map_iff, eL_iff, and_true, true_and, and_assoc, reduceCtorEq, false_and, and_false, ePeer_iff, eEntry_iff] at h <;> simp_all⟩
noncomputable def IndexFunc_Entry_2_l0 (s : List Entry) (b0 : Int) (t8 : Int) : Option (Int ⊕ Unit) := asks (fun γ => (lim F pr).loop [7, 1, 0, 8] 1 b38_0 ⟨.lit 41 false (List.map eEntry s) :: .fn 44 [.bptr 0 0] :: bd 5 (vI (xlen eEntry s) :: vI t8 :: bd 10 []), [.box 23 [vH b0]]⟩) (IndexFunc_Entry_2_l0_x b0)
noncomputable def IndexFunc_Entry_2_l0_b (s : List Entry) (b0 : Int) (t8 : Int) : Option (Int ⊕ Unit) :=
  bif Ops.std.ilt t8 (xlen eEntry s) then
    (xget eEntry s t8).bind fun x =>
    (peers_Place_1 x b0).bind fun res =>
    bif res then some (.inl t8) else
    IndexFunc_Entry_2_l0 s b0 (Ops.std.iadd .i64 t8 1)
  else
    some (.inr ())
theorem IndexFunc_Entry_2_l0_r {s : List Entry} {b0 : Int} {t8 : Int} {r : Int ⊕ Unit} (h : IndexFunc_Entry_2_l0_b s b0 t8 = some r) : IndexFunc_Entry_2_l0 s b0 t8 = some r := by
  unfold IndexFunc_Entry_2_l0_b at h
  refine asks_of fun γ => ?_
  replace h := cond_some h; rcases h with ⟨h1, h⟩ | ⟨h1, h⟩
  replace h := bind_some h; obtain ⟨x, h2, h⟩ := h
  replace h2 := ask_some h2
  replace h := bind_some h; obtain ⟨r3, h3, h⟩ := h
  replace h3 := ask_some h3
  obtain res := r3
  replace h := cond_some h; rcases h with ⟨h4, h⟩ | ⟨h4, h⟩
  cases h; refine ⟨gam [], round_lim ?_⟩
  rotate_left
  replace h := asks_some h (gam []); obtain ⟨γ', h0⟩ := h; refine ⟨γ', round_lim ?_⟩
  rotate_left
  cases h; refine ⟨gam [], round_lim ?_⟩
  rotate_left
  all_goals (try dsimp only [bd, gam, xlen, xget, xsub, xroom, xsget, xssub, xsapp, eL, IndexFunc_Entry_2_l0_x, peers_Place_1_e, ePeer, eEntry] at *)
  all_goals (try simp only [map_app, map_set, map_put, map_fil, List.map_cons, List.map_nil] at *)
  all_goals (try dsimp only [ePeer, eEntry] at *)
  all_goals (show roundAs ⟨Ops.std, (lim F pr).call, (lim F pr).loop, pr, (lim F pr).seg⟩ _ _ b38_0 b38_0F _ = _)
  all_goals (generalize (lim F pr).call = call at *; generalize (lim F pr).loop = loop at *; generalize (lim F pr).seg = seg at *; generalize b38_0 = c0 at *; try generalize List.map eEntry = m0 at *; try generalize List.map ePeer = m1 at *; generalize Ops.std = o at *; cases o; try dsimp only at *)
  all_goals (repeat ((try cbv); first | rw [h0] | rw [h1] | rw [h2] | rw [h3] | rw [h4]))
  all_goals (try cbv)

noncomputable def IndexFunc_Entry_2_b (s : List Entry) (b0 : Int) : Option (Int) :=
  (IndexFunc_Entry_2_l0 s b0 0).bind fun r => match r with
    | .inl t4 =>
      some t4
    | .inr () =>
      some (-1)
theorem IndexFunc_Entry_2_r {s : List Entry} {b0 : Int} {r : Int} (h : IndexFunc_Entry_2_b s b0 = some r) : IndexFunc_Entry_2 s b0 = some r := by
  unfold IndexFunc_Entry_2_b at h
  refine ask_of ?_
  replace h := bind_some h; obtain ⟨r1, h1, h⟩ := h
  replace h1 := asks_some h1 (gam []); obtain ⟨γ1, h1⟩ := h1
  rcases r1 with t4 | _
  cases h; refine call_lim rfl ?_
  rotate_left
  cases h; refine call_lim rfl ?_
  rotate_left
  all_goals (try dsimp only [bd, gam, xlen, xget, xsub, xroom, xsget, xssub, xsapp, eL, IndexFunc_Entry_2_e, IndexFunc_Entry_2_l0_x, ePeer, eEntry] at *)
  all_goals (try simp only [map_app, map_set, map_put, map_fil, List.map_cons, List.map_nil] at *)
  all_goals (try dsimp only [ePeer, eEntry] at *)
  all_goals (show runFn ⟨Ops.std, (lim F pr).call, (lim F pr).loop, pr, (lim F pr).seg⟩ (g38F b38_0) _ _ = _)
  all_goals (generalize (lim F pr).call = call at *; generalize (lim F pr).loop = loop at *; generalize (lim F pr).seg = seg at *; generalize b38_0 = c0 at *; try generalize List.map eEntry = m0 at *; try generalize List.map ePeer = m1 at *; generalize Ops.std = o at *; cases o; try dsimp only at *)
  all_goals (repeat ((try cbv); first | rw [h1]))
  all_goals (try cbv)


noncomputable def ring_Dist_b (a : Int) (b : Int) : Option (Int) :=
  some (Ops.std.isub .u64 b a)
theorem ring_Dist_r {a : Int} {b : Int} {r : Int} (h : ring_Dist_b a b = some r) : ring_Dist a b = some r := by
  unfold ring_Dist_b at h
  refine ask_of ?_
  cases h; refine call_lim rfl ?_
  rotate_left
  all_goals (try dsimp only [bd, gam, xlen, xget, xsub, xroom, xsget, xssub, xsapp, eL, R1, ePeer, eEntry] at *)
  all_goals (try simp only [map_app, map_set, map_put, map_fil, List.map_cons, List.map_nil] at *)
  all_goals (try dsimp only [ePeer, eEntry] at *)
  all_goals (show runFn ⟨Ops.std, (lim F pr).call, (lim F pr).loop, pr, (lim F pr).seg⟩ g45F _ _ = _)
  all_goals (generalize (lim F pr).call = call at *; generalize (lim F pr).loop = loop at *; generalize (lim F pr).seg = seg at *; try generalize List.map eEntry = m0 at *; try generalize List.map ePeer = m1 at *; generalize Ops.std = o at *; cases o; try dsimp only at *)
  all_goals (try cbv)


noncomputable def r03_Dist_b (a : Int) (b : Int) : Option (Int) :=
  bif Ops.std.ile a b then some (Ops.std.isub .u64 b a) else
  some (Ops.std.iadd .u64 (Ops.std.isub .u64 18446744073709551615 (Ops.std.isub .u64 a b)) 1)
theorem r03_Dist_r {a : Int} {b : Int} {r : Int} (h : r03_Dist_b a b = some r) : r03_Dist a b = some r := by
  unfold r03_Dist_b at h
  refine ask_of ?_
  replace h := cond_some h; rcases h with ⟨h1, h⟩ | ⟨h1, h⟩
  cases h; refine call_lim rfl ?_
  rotate_left
  cases h; refine call_lim rfl ?_
  rotate_left
  all_goals (try dsimp only [bd, gam, xlen, xget, xsub, xroom, xsget, xssub, xsapp, eL, R1, ePeer, eEntry] at *)
  all_goals (try simp only [map_app, map_set, map_put, map_fil, List.map_cons, List.map_nil] at *)
  all_goals (try dsimp only [ePeer, eEntry] at *)
  all_goals (show runFn ⟨Ops.std, (lim F pr).call, (lim F pr).loop, pr, (lim F pr).seg⟩ g46F _ _ = _)
  all_goals (generalize (lim F pr).call = call at *; generalize (lim F pr).loop = loop at *; generalize (lim F pr).seg = seg at *; try generalize List.map eEntry = m0 at *; try generalize List.map ePeer = m1 at *; generalize Ops.std = o at *; cases o; try dsimp only at *)
  all_goals (repeat ((try cbv); first | rw [h1]))
  all_goals (try cbv)

noncomputable def peers_some_l0_x (γ : Nat → Nat) : (List Peer) → X × St
  | a0 => (.brk 0, ⟨bd 5 (.sl 1 ((γ 1)) :: bd 18 []), [.row 25 (γ 0) false (List.map ePeer []), .row 25 (γ 1) false (List.map ePeer a0)]⟩)
instance : InjS peers_some_l0_x := ⟨fun γ γ' x y h => by
  rcases x with a0 <;> rcases y with a0' <;> simp only [peers_some_l0_x, Prod.mk.injEq, St.mk.injEq, List.cons.injEq, AV.sc.injEq, AV.agg.injEq, AV.tup.injEq, AV.lit.injEq, AV.sl.injEq, AV.sub.injEq, AV.rptr.injEq, AV.lptr.injEq, AV.bptr.injEq, AV.fn.injEq, Ent.box.injEq, Ent.row.injEq, Value.int.injEq, Value.bool.injEq, Value.string.injEq, bd_inj, map_iff, eL_iff, and_true, true_and, and_assoc, reduceCtorEq, false_and, and_false, ePeer_iff, eEntry_iff] at h <;> simp_all⟩
noncomputable def peers_some_l0 (l : List Entry) (t10 : Int) (r1 : List Peer) : Option ((List Peer)) := asks (fun γ => (lim F pr).loop [9, 8, 1, 10, 5] 2 b47_0 ⟨bd 1 (.fn 48 [] :: bd 3 (.sl 1 ((γ 1)) :: bd 2 (.lit 41 false (List.map eEntry l) :: vI (xlen eEntry l) :: vI t10 :: bd 13 []))), [.row 25 (γ 0) false (List.map ePeer []), .row 25 (γ 1) false (List.map ePeer r1)]⟩) peers_some_l0_x
noncomputable def peers_some_l0_b (l : List Entry) (t10 : Int) (r1 : List Peer) : Option ((List Peer)) :=
  bif Ops.std.ilt t10 (xlen eEntry l) then
    (xget eEntry l t10).bind fun x =>
    (peers_firm x).bind fun res =>
    bif res then
      bif xroom ePeer 16 r1 [x.peer] then peers_some_l0 l (Ops.std.iadd .i64 t10 1) (r1 ++ [x.peer]) else
      none
    else
      peers_some_l0 l (Ops.std.iadd .i64 t10 1) r1
  else
    some r1
theorem peers_some_l0_r {l : List Entry} {t10 : Int} {r1 : List Peer} {r : (List Peer)} (h : peers_some_l0_b l t10 r1 = some r) : peers_some_l0 l t10 r1 = some r := by
  unfold peers_some_l0_b at h
  refine asks_of fun γ => ?_
  replace h := cond_some h; rcases h with ⟨h1, h⟩ | ⟨h1, h⟩
  replace h := bind_some h; obtain ⟨x, h2, h⟩ := h
  replace h2 := ask_some h2
  replace h := bind_some h; obtain ⟨r3, h3, h⟩ := h
  replace h3 := ask_some h3
  obtain res := r3
  replace h := cond_some h; rcases h with ⟨h4, h⟩ | ⟨h4, h⟩
  replace h := need_some h; obtain ⟨h5, h⟩ := h
  replace h := asks_some h (gam [(γ 0), ((γ 1) + 1)]); obtain ⟨γ', h0⟩ := h; refine ⟨γ', round_lim ?_⟩
  rotate_left
  replace h := asks_some h (gam [(γ 0), (γ 1)]); obtain ⟨γ', h0⟩ := h; refine ⟨γ', round_lim ?_⟩
  rotate_left
  cases h; refine ⟨gam [(γ 0), (γ 1)], round_lim ?_⟩
  rotate_left
  all_goals (try dsimp only [bd, gam, xlen, xget, xsub, xroom, xsget, xssub, xsapp, eL, R1, peers_some_l0_x, ePeer, eEntry] at *)
  all_goals (try simp only [map_app, map_set, map_put, map_fil, List.map_cons, List.map_nil] at *)
  all_goals (try dsimp only [ePeer, eEntry] at *)
  all_goals (show roundAs ⟨Ops.std, (lim F pr).call, (lim F pr).loop, pr, (lim F pr).seg⟩ _ _ b47_0 b47_0F _ = _)
  all_goals (generalize (lim F pr).call = call at *; generalize (lim F pr).loop = loop at *; generalize (lim F pr).seg = seg at *; generalize b47_0 = c0 at *; try generalize List.map eEntry = m0 at *; try generalize List.map ePeer = m1 at *; generalize Ops.std = o at *; cases o; try dsimp only at *)
  all_goals (repeat ((try cbv); first | rw [h0] | rw [h1] | rw [h2] | rw [h3] | rw [h4] | rw [h5]))
  all_goals (try cbv)

noncomputable def peers_some_b (l : List Entry) : Option ((List Peer)) :=
  (peers_some_l0 l 0 []).bind fun r1 =>
  some r1
theorem peers_some_r {l : List Entry} {r : (List Peer)} (h : peers_some_b l = some r) : peers_some l = some r := by
  unfold peers_some_b at h
  refine ask_of ?_
  replace h := bind_some h; obtain ⟨r1, h1, h⟩ := h
  replace h1 := asks_some h1 (gam [0, 0]); obtain ⟨γ1, h1⟩ := h1
  obtain r1 := r1
  cases h; refine call_lim rfl ?_
  rotate_left
  all_goals (try dsimp only [bd, gam, xlen, xget, xsub, xroom, xsget, xssub, xsapp, eL, R1, peers_some_l0_x, ePeer, eEntry] at *)
  all_goals (try simp only [map_app, map_set, map_put, map_fil, List.map_cons, List.map_nil] at *)
  all_goals (try dsimp only [ePeer, eEntry] at *)
  all_goals (show runFn ⟨Ops.std, (lim F pr).call, (lim F pr).loop, pr, (lim F pr).seg⟩ (g47F b47_0) _ _ = _)
  all_goals (generalize (lim F pr).call = call at *; generalize (lim F pr).loop = loop at *; generalize (lim F pr).seg = seg at *; generalize b47_0 = c0 at *; try generalize List.map eEntry = m0 at *; try generalize List.map ePeer = m1 at *; generalize Ops.std = o at *; cases o; try dsimp only at *)
  all_goals (repeat ((try cbv); first | rw [h1]))
  all_goals (try cbv)

noncomputable def peers_some_1_l0_x (γ : Nat → Nat) : (List Peer) → X × St
  | a0 => (.brk 0, ⟨bd 5 (.sl 1 ((γ 1)) :: bd 18 []), [.row 25 (γ 0) false (List.map ePeer []), .row 25 (γ 1) false (List.map ePeer a0)]⟩)
instance : InjS peers_some_1_l0_x := ⟨fun γ γ' x y h => by
  rcases x with a0 <;> rcases y with a0' <;> simp only [peers_some_1_l0_x, Prod.mk.injEq, St.mk.injEq, List.cons.injEq, AV.sc.injEq, AV.agg.injEq, AV.tup.injEq, AV.lit.injEq, AV.sl.injEq, AV.sub.injEq, AV.rptr.injEq, AV.lptr.injEq, AV.bptr.injEq, AV.fn.injEq, Ent.box.injEq, Ent.row.injEq, Value.int.injEq, Value.bool.injEq, Value.string.injEq, bd_inj, map_iff, eL_iff, and_true, true_and, and_assoc, reduceCtorEq, false_and, and_false, ePeer_iff, eEntry_iff] at h <;> simp_all⟩
noncomputable def peers_some_1_l0 (l : List Entry) (t10 : Int) (r1 : List Peer) : Option ((List Peer)) := asks (fun γ => (lim F pr).loop [9, 8, 1, 10, 5] 2 b47_0 ⟨bd 1 (.fn 49 [] :: bd 3 (.sl 1 ((γ 1)) :: bd 2 (.lit 41 false (List.map eEntry l) :: vI (xlen eEntry l) :: vI t10 :: bd 13 []))), [.row 25 (γ 0) false (List.map ePeer []), .row 25 (γ 1) false (List.map ePeer r1)]⟩) peers_some_1_l0_x
noncomputable def peers_some_1_l0_b (l : List Entry) (t10 : Int) (r1 : List Peer) : Option ((List Peer)) :=
  bif Ops.std.ilt t10 (xlen eEntry l) then
    (xget eEntry l t10).bind fun x =>
    (peers_All_1 x).bind fun res =>
    bif res then
      bif xroom ePeer 16 r1 [x.peer] then peers_some_1_l0 l (Ops.std.iadd .i64 t10 1) (r1 ++ [x.peer]) else
      none
    else
      peers_some_1_l0 l (Ops.std.iadd .i64 t10 1) r1
  else
    some r1
theorem peers_some_1_l0_r {l : List Entry} {t10 : Int} {r1 : List Peer} {r : (List Peer)} (h : peers_some_1_l0_b l t10 r1 = some r) : peers_some_1_l0 l t10 r1 = some r := by
  unfold peers_some_1_l0_b at h
  refine asks_of fun γ => ?_
  replace h := cond_some h; rcases h with ⟨h1, h⟩ | ⟨h1, h⟩
  replace h := bind_some h; obtain ⟨x, h2, h⟩ := h
  replace h2 := ask_some h2
  replace h := bind_some h; obtain ⟨r3, h3, h⟩ := h
  replace h3 := ask_some h3
  obtain res := r3
  replace h := cond_some h; rcases h with ⟨h4, h⟩ | ⟨h4, h⟩
  replace h := need_some h; obtain ⟨h5, h⟩ := h
  replace h := asks_some h (gam [(γ 0), ((γ 1) + 1)]); obtain ⟨γ', h0⟩ := h; refine ⟨γ', round_lim ?_⟩
  rotate_left
  replace h := asks_some h (gam [(γ 0), (γ 1)]); obtain ⟨γ', h0⟩ := h; refine ⟨γ', round_lim ?_⟩
  rotate_left
  cases h; refine ⟨gam [(γ 0), (γ 1)], round_lim ?_⟩
  rotate_left
  all_goals (try dsimp only [bd, gam, xlen, xget, xsub, xroom, xsget, xssub, xsapp, eL, R1, peers_some_1_l0_x, ePeer, eEntry] at *)
  all_goals (try simp only [map_app, map_set, map_put, map_fil, List.map_cons, List.map_nil] at *)
  all_goals (try dsimp only [ePeer, eEntry] at *)
  all_goals (show roundAs ⟨Ops.std, (lim F pr).call, (lim F pr).loop, pr, (lim F pr).seg⟩ _ _ b47_0 b47_0F _ = _)
  all_goals (generalize (lim F pr).call = call at *; generalize (lim F pr).loop = loop at *; generalize (lim F pr).seg = seg at *; generalize b47_0 = c0 at *; try generalize List.map eEntry = m0 at *; try generalize List.map ePeer = m1 at *; generalize Ops.std = o at *; cases o; try dsimp only at *)
  all_goals (repeat ((try cbv); first | rw [h0] | rw [h1] | rw [h2] | rw [h3] | rw [h4] | rw [h5]))
  all_goals (try cbv)

noncomputable def peers_some_1_b (l : List Entry) : Option ((List Peer)) :=
  (peers_some_1_l0 l 0 []).bind fun r1 =>
  some r1
theorem peers_some_1_r {l : List Entry} {r : (List Peer)} (h : peers_some_1_b l = some r) : peers_some_1 l = some r := by
  unfold peers_some_1_b at h
  refine ask_of ?_
  replace h := bind_some h; obtain ⟨r1, h1, h⟩ := h
  replace h1 := asks_some h1 (gam [0, 0]); obtain ⟨γ1, h1⟩ := h1
  obtain r1 := r1
  cases h; refine call_lim rfl ?_
  rotate_left
  all_goals (try dsimp only [bd, gam, xlen, xget, xsub, xroom, xsget, xssub, xsapp, eL, R1, peers_some_1_l0_x, ePeer, eEntry] at *)
  all_goals (try simp only [map_app, map_set, map_put, map_fil, List.map_cons, List.map_nil] at *)
  all_goals (try dsimp only [ePeer, eEntry] at *)
  all_goals (show runFn ⟨Ops.std, (lim F pr).call, (lim F pr).loop, pr, (lim F pr).seg⟩ (g47F b47_0) _ _ = _)
  all_goals (generalize (lim F pr).call = call at *; generalize (lim F pr).loop = loop at *; generalize (lim F pr).seg = seg at *; generalize b47_0 = c0 at *; try generalize List.map eEntry = m0 at *; try generalize List.map ePeer = m1 at *; generalize Ops.std = o at *; cases o; try dsimp only at *)
  all_goals (repeat ((try cbv); first | rw [h1]))
  all_goals (try cbv)


noncomputable def peers_firm_b (x : Entry) : Option (Bool) :=
  some (Ops.std.ile x.misses 0)
theorem peers_firm_r {x : Entry} {r : Bool} (h : peers_firm_b x = some r) : peers_firm x = some r := by
  unfold peers_firm_b at h
  refine ask_of ?_
  cases h; refine call_lim rfl ?_
  rotate_left
  all_goals (try dsimp only [bd, gam, xlen, xget, xsub, xroom, xsget, xssub, xsapp, eL, R1, ePeer, eEntry] at *)
  all_goals (try simp only [map_app, map_set, map_put, map_fil, List.map_cons, List.map_nil] at *)
  all_goals (try dsimp only [ePeer, eEntry] at *)
  all_goals (show runFn ⟨Ops.std, (lim F pr).call, (lim F pr).loop, pr, (lim F pr).seg⟩ g48F _ _ = _)
  all_goals (generalize (lim F pr).call = call at *; generalize (lim F pr).loop = loop at *; generalize (lim F pr).seg = seg at *; try generalize List.map eEntry = m0 at *; try generalize List.map ePeer = m1 at *; generalize Ops.std = o at *; cases o; try dsimp only at *)
  all_goals (try cbv)


noncomputable def peers_All_1_b (x0 : Entry) : Option (Bool) :=
  some true
theorem peers_All_1_r {x0 : Entry} {r : Bool} (h : peers_All_1_b x0 = some r) : peers_All_1 x0 = some r := by
  unfold peers_All_1_b at h
  refine ask_of ?_
  cases h; refine call_lim rfl ?_
  rotate_left
  all_goals (try dsimp only [bd, gam, xlen, xget, xsub, xroom, xsget, xssub, xsapp, eL, R1, ePeer, eEntry] at *)
  all_goals (try simp only [map_app, map_set, map_put, map_fil, List.map_cons, List.map_nil] at *)
  all_goals (try dsimp only [ePeer, eEntry] at *)
  all_goals (show runFn ⟨Ops.std, (lim F pr).call, (lim F pr).loop, pr, (lim F pr).seg⟩ g49F _ _ = _)
  all_goals (generalize (lim F pr).call = call at *; generalize (lim F pr).loop = loop at *; generalize (lim F pr).seg = seg at *; try generalize List.map eEntry = m0 at *; try generalize List.map ePeer = m1 at *; generalize Ops.std = o at *; cases o; try dsimp only at *)
  all_goals (try cbv)

end Go.Ab.Try
