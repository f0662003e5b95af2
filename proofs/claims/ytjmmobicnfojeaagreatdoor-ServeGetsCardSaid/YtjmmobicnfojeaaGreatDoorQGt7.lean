/- Our texts for this statement, merged: what its theorem leads to. -/
import Derived.Test.YtjmmobicnfojeaaGreatDoorQGt1
namespace Go.Ab.Tryz
open Go Go.Ab Go.Proofs
set_option linter.unusedVariables false
set_option linter.unusedSimpArgs false
set_option maxRecDepth 10000
set_option maxHeartbeats 4000000
noncomputable def r03_Between_b (a : Int) (x : Int) (b : Int) : Option (Bool) :=
  bif Ops.std.ieq a b then some (!(Ops.std.ieq x a)) else
  bif Ops.std.ieq x b then some false else
  r03_Upto a x b
theorem r03_Between_r {a x b r} (h : r03_Between_b a x b = some r) : r03_Between a x b = some r := by
  unfold r03_Between_b at h
  refine ask_of ?_
  rcases cond_some h with ⟨h1, h⟩ | ⟨h1, h⟩
  cases h; refine call_lim rfl ?_; rotate_left
  rcases cond_some h with ⟨h2, h⟩ | ⟨h2, h⟩
  cases h; refine call_lim rfl ?_; rotate_left
  have h3 := ask_some h
  rcases r with res
  refine call_lim rfl ?_; rotate_left
  all_goals (dsimp only [R1] at *; show runFn IF_ g116F _ _ = _; exact fin_)
noncomputable def r32_Mine_b (n : Node) (key : Int) : Option (Bool) :=
  (r32_Step n key).bind fun ⟨r0, r1, r2⟩ =>
  bif r2 then
    bif Ops.std.ieq r0.id n.me.id then
      bif Ops.std.ieq r0.addr n.me.addr then some true else
      some false
    else
      some false
  else
    some false
theorem r32_Mine_r {n key r} (h : r32_Mine_b n key = some r) : r32_Mine n key = some r := by
  unfold r32_Mine_b at h
  refine ask_of ?_
  obtain ⟨r1, h1, h⟩ := bind_ask h
  rcases r1 with ⟨r0, r1, r2⟩
  rcases cond_some h with ⟨h2, h⟩ | ⟨h2, h⟩
  rcases cond_some h with ⟨h3, h⟩ | ⟨h3, h⟩
  rcases cond_some h with ⟨h4, h⟩ | ⟨h4, h⟩
  cases h; refine call_lim rfl ?_; rotate_left
  cases h; refine call_lim rfl ?_; rotate_left
  cases h; refine call_lim rfl ?_; rotate_left
  cases h; refine call_lim rfl ?_; rotate_left
  all_goals (dsimp only [R1, R3] at *; show runFn IF_ g138F _ _ = _; exact fin_)
noncomputable def r29_place_l0_x (γ : Nat → Nat) : Int ⊕ Unit → X × St
  | .inl a0 => (.ret, ⟨bd 4 (vI a0 :: bd 15 []), []⟩)
  | .inr () => (.brk 0, ⟨bd 20 [], []⟩)
instance : InjS r29_place_l0_x := ⟨fun γ γ' x y h => by
  rcases x with a0 | _ <;> rcases y with a0' | _ <;> simp only [r29_place_l0_x] at h <;> exact inj_⟩
noncomputable def r29_place_l0 (l : List Pair) (key : ByteArray) (i : Int) : Option (Int ⊕ Unit) := asks (fun γ => (lim F pr).loop [0, 1, 5] 0 b139_0 ⟨.lit 78 false (List.map ePair l) :: vT key :: bd 3 (vI i :: bd 14 []), []⟩) r29_place_l0_x
noncomputable def r29_place_l0_b (l : List Pair) (key : ByteArray) (i : Int) : Option (Int ⊕ Unit) :=
  bif Ops.std.ilt i (xlen ePair l) then
    (xget ePair l i).bind fun x =>
    bif Ops.std.seq x.key key then some (.inl i) else
    r29_place_l0 l key (Ops.std.iadd .i64 i 1)
  else
    some (.inr ())
theorem r29_place_l0_r {l key i r} (h : r29_place_l0_b l key i = some r) : r29_place_l0 l key i = some r := by
  unfold r29_place_l0_b at h
  refine asks_of fun γ => ?_
  rcases cond_some h with ⟨h1, h⟩ | ⟨h1, h⟩
  obtain ⟨x, h2, h⟩ := bind_ask h
  rcases cond_some h with ⟨h3, h⟩ | ⟨h3, h⟩
  cases h; refine ⟨gam [], round_lim ?_⟩; rotate_left
  replace h := asks_some h (gam []); obtain ⟨γ', h0⟩ := h; refine ⟨γ', round_lim ?_⟩; rotate_left
  cases h; refine ⟨gam [], round_lim ?_⟩; rotate_left
  all_goals (dsimp only [r29_place_l0_x] at *; show roundAs IF_ _ _ b139_0 b139_0F _ = _; generalize b139_0 = c0 at *; exact fin_)
noncomputable def r29_place_b (l : List Pair) (key : ByteArray) : Option (Int) :=
  (r29_place_l0 l key 0).bind fun r => match r with
    | .inl t4 =>
      some t4
    | .inr () =>
      some (-1)
theorem r29_place_r {l key r} (h : r29_place_b l key = some r) : r29_place l key = some r := by
  unfold r29_place_b at h
  refine ask_of ?_
  obtain ⟨r1, γ1, h1, h⟩ := bind_asks h (gam [])
  rcases r1 with t4 | _
  cases h; refine call_lim rfl ?_; rotate_left
  cases h; refine call_lim rfl ?_; rotate_left
  all_goals (dsimp only [R1, r29_place_l0_x] at *; show runFn IF_ (g139F b139_0) _ _ = _; generalize b139_0 = c0 at *; exact fin_)
noncomputable def peers_some_1_l0_x (γ : Nat → Nat) : (List Peer) → X × St
  | a0 => (.brk 0, ⟨bd 5 (.sl 1 ((γ 1)) :: bd 18 []), [.row 25 (γ 0) false (List.map ePeer []), .row 25 (γ 1) false (List.map ePeer a0)]⟩)
instance : InjS peers_some_1_l0_x := ⟨fun γ γ' x y h => by
  rcases x with a0 <;> rcases y with a0' <;> simp only [peers_some_1_l0_x] at h <;> exact inj_⟩
noncomputable def peers_some_1_l0 (l : List Entry) (t10 : Int) (r1 : List Peer) : Option ((List Peer)) := asks (fun γ => (lim F pr).loop [9, 8, 1, 10, 5] 2 b145_0 ⟨bd 1 (.fn 146 [] :: bd 3 (.sl 1 ((γ 1)) :: bd 2 (.lit 81 false (List.map eEntry l) :: vI (xlen eEntry l) :: vI t10 :: bd 13 []))), [.row 25 (γ 0) false (List.map ePeer []), .row 25 (γ 1) false (List.map ePeer r1)]⟩) peers_some_1_l0_x
noncomputable def peers_some_1_l0_b (l : List Entry) (t10 : Int) (r1 : List Peer) : Option ((List Peer)) :=
  bif Ops.std.ilt t10 (xlen eEntry l) then
    (xget eEntry l t10).bind fun x =>
    (peers_firm x).bind fun res =>
    bif res then
      bif xroom ePeer 16 r1 [x.peer] then peers_some_1_l0 l (Ops.std.iadd .i64 t10 1) (r1 ++ [x.peer]) else
      none
    else
      peers_some_1_l0 l (Ops.std.iadd .i64 t10 1) r1
  else
    some r1
theorem peers_some_1_l0_r {l t10 r1 r} (h : peers_some_1_l0_b l t10 r1 = some r) : peers_some_1_l0 l t10 r1 = some r := by
  unfold peers_some_1_l0_b at h
  refine asks_of fun γ => ?_
  rcases cond_some h with ⟨h1, h⟩ | ⟨h1, h⟩
  obtain ⟨x, h2, h⟩ := bind_ask h
  obtain ⟨res, h3, h⟩ := bind_ask h
  rcases cond_some h with ⟨h4, h⟩ | ⟨h4, h⟩
  obtain ⟨h5, h⟩ := need_some h
  replace h := asks_some h (gam [(γ 0), ((γ 1) + 1)]); obtain ⟨γ', h0⟩ := h; refine ⟨γ', round_lim ?_⟩; rotate_left
  replace h := asks_some h (gam [(γ 0), (γ 1)]); obtain ⟨γ', h0⟩ := h; refine ⟨γ', round_lim ?_⟩; rotate_left
  cases h; refine ⟨gam [(γ 0), (γ 1)], round_lim ?_⟩; rotate_left
  all_goals (dsimp only [R1, peers_some_1_l0_x] at *; show roundAs IF_ _ _ b145_0 b145_0F _ = _; generalize b145_0 = c0 at *; exact fin_)
noncomputable def peers_some_1_b (l : List Entry) : Option ((List Peer)) :=
  peers_some_1_l0 l 0 []
theorem peers_some_1_r {l r} (h : peers_some_1_b l = some r) : peers_some_1 l = some r := by
  unfold peers_some_1_b at h
  refine ask_of ?_
  obtain ⟨γ1, h1⟩ := asks_some h (gam [0, 0])
  rcases r with r1
  refine call_lim rfl ?_; rotate_left
  all_goals (dsimp only [K1, peers_some_1_l0_x] at *; show runFn IF_ (g145F b145_0) _ _ = _; generalize b145_0 = c0 at *; exact fin_)
noncomputable def msg_Copy_b (m : Msg) : Option (Msg) :=
  bif xroom ePeer 16 [] m.peers then
    bif xroom ePair 32 [] m.pairs then some m else
    none
  else
    none
theorem msg_Copy_r {m r} (h : msg_Copy_b m = some r) : msg_Copy m = some r := by
  unfold msg_Copy_b at h
  refine ask_of ?_
  obtain ⟨h1, h⟩ := need_some h
  obtain ⟨h2, h⟩ := need_some h
  cases h; refine call_lim rfl ?_; rotate_left
  all_goals (dsimp only [R1] at *; show runFn IF_ g149F _ _ = _; exact fin_)
noncomputable def pend_Now_b (n : Node) : Option (Int) :=
  bif Ops.std.ilt n.clock 0 then some 0 else
  bif Ops.std.ilt 1099511627776 n.clock then some 0 else
  some n.clock
theorem pend_Now_r {n r} (h : pend_Now_b n = some r) : pend_Now n = some r := by
  unfold pend_Now_b at h
  refine ask_of ?_
  rcases cond_some h with ⟨h1, h⟩ | ⟨h1, h⟩
  cases h; refine call_lim rfl ?_; rotate_left
  rcases cond_some h with ⟨h2, h⟩ | ⟨h2, h⟩
  cases h; refine call_lim rfl ?_; rotate_left
  cases h; refine call_lim rfl ?_; rotate_left
  all_goals (dsimp only [R1] at *; show runFn IF_ g150F _ _ = _; exact fin_)
noncomputable def r30_Now_b (n : Node) : Option (Int) :=
  bif Ops.std.ilt 0 n.clock then
    bif Ops.std.ile n.clock 1099511627776 then some n.clock else
    some 0
  else
    some 0
theorem r30_Now_r {n r} (h : r30_Now_b n = some r) : r30_Now n = some r := by
  unfold r30_Now_b at h
  refine ask_of ?_
  rcases cond_some h with ⟨h1, h⟩ | ⟨h1, h⟩
  rcases cond_some h with ⟨h2, h⟩ | ⟨h2, h⟩
  cases h; refine call_lim rfl ?_; rotate_left
  cases h; refine call_lim rfl ?_; rotate_left
  cases h; refine call_lim rfl ?_; rotate_left
  all_goals (dsimp only [R1] at *; show runFn IF_ g151F _ _ = _; exact fin_)
noncomputable def utf_stray_b (s : ByteArray) (at_ : Int) (c : Int) : Option (Bool) :=
  bif Ops.std.ieq c 65533 then
    (xssub s at_ (Ops.std.slen s)).bind fun z =>
    xopt (xsdec z 0) (fun ⟨c1, nx⟩ =>
      some (Ops.std.ieq nx 1))
      (some (Ops.std.ieq 0 1))
  else
    some false
theorem utf_stray_r {s at_ c r} (h : utf_stray_b s at_ c = some r) : utf_stray s at_ c = some r := by
  unfold utf_stray_b at h
  refine ask_of ?_
  rcases cond_some h with ⟨h1, h⟩ | ⟨h1, h⟩
  obtain ⟨z, h2, h⟩ := bind_some h
  rcases xopt_some h with ⟨⟨c1, nx⟩, h3, h⟩ | ⟨h3, h⟩
  cases h; refine call_lim rfl ?_; rotate_left
  cases h; refine call_lim rfl ?_; rotate_left
  cases h; refine call_lim rfl ?_; rotate_left
  all_goals (dsimp only [R1] at *; show runFn IF_ g152F _ _ = _; exact fin_)
noncomputable def msg_kinds_b : Option ((List Msg_kind)) :=
  some ([(⟨⟨#[63]⟩, 0, []⟩ : Msg_kind), (⟨⟨#[102, 105, 110, 100]⟩, 4, [2, 12]⟩ : Msg_kind), (⟨⟨#[104, 111, 112]⟩, 18, []⟩ : Msg_kind), (⟨⟨#[97, 115, 107]⟩, 0, [4]⟩ : Msg_kind), (⟨⟨#[116, 101, 108, 108]⟩, 282, []⟩ : Msg_kind), (⟨⟨#[110, 111, 116, 101]⟩, 8, [6]⟩ : Msg_kind), (⟨⟨#[111, 107, 97, 121]⟩, 0, []⟩ : Msg_kind), (⟨⟨#[112, 117, 116]⟩, 96, [6, 12]⟩ : Msg_kind), (⟨⟨#[103, 101, 116]⟩, 32, [9, 12]⟩ : Msg_kind), (⟨⟨#[103, 111, 116]⟩, 322, []⟩ : Msg_kind), (⟨⟨#[109, 111, 118, 101]⟩, 130, [6]⟩ : Msg_kind), (⟨⟨#[112, 105, 110, 103]⟩, 0, [6]⟩ : Msg_kind), (⟨⟨#[110, 97, 121]⟩, 1, []⟩ : Msg_kind)])
theorem msg_kinds_r {r} (h : msg_kinds_b = some r) : msg_kinds = some r := by
  unfold msg_kinds_b at h
  refine ask_of ?_
  cases h; refine call_lim rfl ?_; rotate_left
  all_goals (dsimp only [R1] at *; show runFn IF_ g189F _ _ = _; exact fin_)
noncomputable def fings_Hops_1_b (q : Peer) (b0_id : Int) (b0_addr : Int) : Option (Bool) :=
  some (Ops.std.ieq q.addr b0_addr)
theorem fings_Hops_1_r {q b0_id b0_addr r} (h : fings_Hops_1_b q b0_id b0_addr = some r) : fings_Hops_1 q b0_id b0_addr = some r := by
  unfold fings_Hops_1_b at h
  refine ask_of ?_
  cases h; refine call_lim rfl ?_; rotate_left
  all_goals (dsimp only [fings_Hops_1_e] at *; show runFn IF_ g221F _ _ = _; exact fin_)
noncomputable def IndexFunc_Peer_l0_x (b0_id : Int) (b0_addr : Int) (γ : Nat → Nat) : Int ⊕ Unit → X × St
  | .inl a0 => (.ret, ⟨bd 4 (vI a0 :: bd 14 []), [.box 25 [vU b0_id, vH b0_addr]]⟩)
  | .inr () => (.brk 0, ⟨bd 19 [], [.box 25 [vU b0_id, vH b0_addr]]⟩)
instance {b0_id b0_addr} : InjS (IndexFunc_Peer_l0_x b0_id b0_addr) := ⟨fun γ γ' x y h => by
  rcases x with a0 | _ <;> rcases y with a0' | _ <;> simp only [IndexFunc_Peer_l0_x] at h <;> exact inj_⟩
noncomputable def IndexFunc_Peer_l0 (s : List Peer) (b0_id : Int) (b0_addr : Int) (t8 : Int) : Option (Int ⊕ Unit) := asks (fun γ => (lim F pr).loop [7, 1, 0, 8] 1 b178_0 ⟨.lit 25 false (List.map ePeer s) :: .fn 221 [.bptr 0 0] :: bd 5 (vI (xlen ePeer s) :: vI t8 :: bd 10 []), [.box 25 [vU b0_id, vH b0_addr]]⟩) (IndexFunc_Peer_l0_x b0_id b0_addr)
noncomputable def IndexFunc_Peer_l0_b (s : List Peer) (b0_id : Int) (b0_addr : Int) (t8 : Int) : Option (Int ⊕ Unit) :=
  bif Ops.std.ilt t8 (xlen ePeer s) then
    (xget ePeer s t8).bind fun x =>
    (fings_Hops_1 x b0_id b0_addr).bind fun res =>
    bif res then some (.inl t8) else
    IndexFunc_Peer_l0 s b0_id b0_addr (Ops.std.iadd .i64 t8 1)
  else
    some (.inr ())
theorem IndexFunc_Peer_l0_r {s b0_id b0_addr t8 r} (h : IndexFunc_Peer_l0_b s b0_id b0_addr t8 = some r) : IndexFunc_Peer_l0 s b0_id b0_addr t8 = some r := by
  unfold IndexFunc_Peer_l0_b at h
  refine asks_of fun γ => ?_
  rcases cond_some h with ⟨h1, h⟩ | ⟨h1, h⟩
  obtain ⟨x, h2, h⟩ := bind_ask h
  obtain ⟨res, h3, h⟩ := bind_ask h
  rcases cond_some h with ⟨h4, h⟩ | ⟨h4, h⟩
  cases h; refine ⟨gam [], round_lim ?_⟩; rotate_left
  replace h := asks_some h (gam []); obtain ⟨γ', h0⟩ := h; refine ⟨γ', round_lim ?_⟩; rotate_left
  cases h; refine ⟨gam [], round_lim ?_⟩; rotate_left
  all_goals (dsimp only [IndexFunc_Peer_l0_x, fings_Hops_1_e] at *; show roundAs IF_ _ _ b178_0 b178_0F _ = _; generalize b178_0 = c0 at *; exact fin_)
noncomputable def IndexFunc_Peer_b (s : List Peer) (b0_id : Int) (b0_addr : Int) : Option (Int) :=
  (IndexFunc_Peer_l0 s b0_id b0_addr 0).bind fun r => match r with
    | .inl t4 =>
      some t4
    | .inr () =>
      some (-1)
theorem IndexFunc_Peer_r {s b0_id b0_addr r} (h : IndexFunc_Peer_b s b0_id b0_addr = some r) : IndexFunc_Peer s b0_id b0_addr = some r := by
  unfold IndexFunc_Peer_b at h
  refine ask_of ?_
  obtain ⟨r1, γ1, h1, h⟩ := bind_asks h (gam [])
  rcases r1 with t4 | _
  cases h; refine call_lim rfl ?_; rotate_left
  cases h; refine call_lim rfl ?_; rotate_left
  all_goals (dsimp only [IndexFunc_Peer_e, IndexFunc_Peer_l0_x] at *; show runFn IF_ (g178F b178_0) _ _ = _; generalize b178_0 = c0 at *; exact fin_)
noncomputable def peers_All_1_b (x0 : Entry) : Option (Bool) :=
  some true
theorem peers_All_1_r {x0 r} (h : peers_All_1_b x0 = some r) : peers_All_1 x0 = some r := by
  unfold peers_All_1_b at h
  refine ask_of ?_
  cases h; refine call_lim rfl ?_; rotate_left
  all_goals (dsimp only [R1] at *; show runFn IF_ g193F _ _ = _; exact fin_)
noncomputable def store_place_1_b (p : Pair) (b0 : ByteArray) : Option (Bool) :=
  some (Ops.std.seq p.key b0)
theorem store_place_1_r {p b0 r} (h : store_place_1_b p b0 = some r) : store_place_1 p b0 = some r := by
  unfold store_place_1_b at h
  refine ask_of ?_
  cases h; refine call_lim rfl ?_; rotate_left
  all_goals (dsimp only [store_place_1_e] at *; show runFn IF_ g202F _ _ = _; exact fin_)
noncomputable def IndexFunc_Pair_2_l0_x (b0 : ByteArray) (γ : Nat → Nat) : Int ⊕ Unit → X × St
  | .inl a0 => (.ret, ⟨bd 4 (vI a0 :: bd 14 []), [.box 9 [vT b0]]⟩)
  | .inr () => (.brk 0, ⟨bd 19 [], [.box 9 [vT b0]]⟩)
instance {b0} : InjS (IndexFunc_Pair_2_l0_x b0) := ⟨fun γ γ' x y h => by
  rcases x with a0 | _ <;> rcases y with a0' | _ <;> simp only [IndexFunc_Pair_2_l0_x] at h <;> exact inj_⟩
noncomputable def IndexFunc_Pair_2_l0 (s : List Pair) (b0 : ByteArray) (t8 : Int) : Option (Int ⊕ Unit) := asks (fun γ => (lim F pr).loop [7, 1, 0, 8] 1 b142_0 ⟨.lit 78 false (List.map ePair s) :: .fn 202 [.bptr 0 0] :: bd 5 (vI (xlen ePair s) :: vI t8 :: bd 10 []), [.box 9 [vT b0]]⟩) (IndexFunc_Pair_2_l0_x b0)
noncomputable def IndexFunc_Pair_2_l0_b (s : List Pair) (b0 : ByteArray) (t8 : Int) : Option (Int ⊕ Unit) :=
  bif Ops.std.ilt t8 (xlen ePair s) then
    (xget ePair s t8).bind fun x =>
    (store_place_1 x b0).bind fun res =>
    bif res then some (.inl t8) else
    IndexFunc_Pair_2_l0 s b0 (Ops.std.iadd .i64 t8 1)
  else
    some (.inr ())
theorem IndexFunc_Pair_2_l0_r {s b0 t8 r} (h : IndexFunc_Pair_2_l0_b s b0 t8 = some r) : IndexFunc_Pair_2_l0 s b0 t8 = some r := by
  unfold IndexFunc_Pair_2_l0_b at h
  refine asks_of fun γ => ?_
  rcases cond_some h with ⟨h1, h⟩ | ⟨h1, h⟩
  obtain ⟨x, h2, h⟩ := bind_ask h
  obtain ⟨res, h3, h⟩ := bind_ask h
  rcases cond_some h with ⟨h4, h⟩ | ⟨h4, h⟩
  cases h; refine ⟨gam [], round_lim ?_⟩; rotate_left
  replace h := asks_some h (gam []); obtain ⟨γ', h0⟩ := h; refine ⟨γ', round_lim ?_⟩; rotate_left
  cases h; refine ⟨gam [], round_lim ?_⟩; rotate_left
  all_goals (dsimp only [IndexFunc_Pair_2_l0_x, store_place_1_e] at *; show roundAs IF_ _ _ b142_0 b142_0F _ = _; generalize b142_0 = c0 at *; exact fin_)
noncomputable def IndexFunc_Pair_2_b (s : List Pair) (b0 : ByteArray) : Option (Int) :=
  (IndexFunc_Pair_2_l0 s b0 0).bind fun r => match r with
    | .inl t4 =>
      some t4
    | .inr () =>
      some (-1)
theorem IndexFunc_Pair_2_r {s b0 r} (h : IndexFunc_Pair_2_b s b0 = some r) : IndexFunc_Pair_2 s b0 = some r := by
  unfold IndexFunc_Pair_2_b at h
  refine ask_of ?_
  obtain ⟨r1, γ1, h1, h⟩ := bind_asks h (gam [])
  rcases r1 with t4 | _
  cases h; refine call_lim rfl ?_; rotate_left
  cases h; refine call_lim rfl ?_; rotate_left
  all_goals (dsimp only [IndexFunc_Pair_2_e, IndexFunc_Pair_2_l0_x] at *; show runFn IF_ (g142F b142_0) _ _ = _; generalize b142_0 = c0 at *; exact fin_)
noncomputable def r28_there_l0_x (γ : Nat → Nat) : Unit ⊕ Unit → X × St
  | .inl () => (.ret, ⟨bd 4 (vF true :: bd 14 []), []⟩)
  | .inr () => (.brk 0, ⟨bd 19 [], []⟩)
instance : InjS r28_there_l0_x := ⟨fun γ γ' x y h => by
  rcases x with _ | _ <;> rcases y with _ | _ <;> simp only [r28_there_l0_x] at h <;> exact inj_⟩
noncomputable def r28_there_l0 (l : List Peer) (addr : Int) (i : Int) : Option (Unit ⊕ Unit) := asks (fun γ => (lim F pr).loop [0, 1, 5] 0 b200_0 ⟨.lit 25 false (List.map ePeer l) :: vH addr :: bd 3 (vI i :: bd 13 []), []⟩) r28_there_l0_x
noncomputable def r28_there_l0_b (l : List Peer) (addr : Int) (i : Int) : Option (Unit ⊕ Unit) :=
  bif Ops.std.ilt i (xlen ePeer l) then
    (xget ePeer l i).bind fun x =>
    bif Ops.std.ieq x.addr addr then some (.inl ()) else
    r28_there_l0 l addr (Ops.std.iadd .i64 i 1)
  else
    some (.inr ())
theorem r28_there_l0_r {l addr i r} (h : r28_there_l0_b l addr i = some r) : r28_there_l0 l addr i = some r := by
  unfold r28_there_l0_b at h
  refine asks_of fun γ => ?_
  rcases cond_some h with ⟨h1, h⟩ | ⟨h1, h⟩
  obtain ⟨x, h2, h⟩ := bind_ask h
  rcases cond_some h with ⟨h3, h⟩ | ⟨h3, h⟩
  cases h; refine ⟨gam [], round_lim ?_⟩; rotate_left
  replace h := asks_some h (gam []); obtain ⟨γ', h0⟩ := h; refine ⟨γ', round_lim ?_⟩; rotate_left
  cases h; refine ⟨gam [], round_lim ?_⟩; rotate_left
  all_goals (dsimp only [r28_there_l0_x] at *; show roundAs IF_ _ _ b200_0 b200_0F _ = _; generalize b200_0 = c0 at *; exact fin_)
noncomputable def r28_there_b (l : List Peer) (addr : Int) : Option (Bool) :=
  (r28_there_l0 l addr 0).bind fun r => match r with
    | .inl () =>
      some true
    | .inr () =>
      some false
theorem r28_there_r {l addr r} (h : r28_there_b l addr = some r) : r28_there l addr = some r := by
  unfold r28_there_b at h
  refine ask_of ?_
  obtain ⟨r1, γ1, h1, h⟩ := bind_asks h (gam [])
  rcases r1 with _ | _
  cases h; refine call_lim rfl ?_; rotate_left
  cases h; refine call_lim rfl ?_; rotate_left
  all_goals (dsimp only [R1, r28_there_l0_x] at *; show runFn IF_ (g200F b200_0) _ _ = _; generalize b200_0 = c0 at *; exact fin_)
noncomputable def r03_Dist_b (a : Int) (b : Int) : Option (Int) :=
  bif Ops.std.ile a b then some (Ops.std.isub .u64 b a) else
  some (Ops.std.iadd .u64 (Ops.std.isub .u64 18446744073709551615 (Ops.std.isub .u64 a b)) 1)
theorem r03_Dist_r {a b r} (h : r03_Dist_b a b = some r) : r03_Dist a b = some r := by
  unfold r03_Dist_b at h
  refine ask_of ?_
  rcases cond_some h with ⟨h1, h⟩ | ⟨h1, h⟩
  cases h; refine call_lim rfl ?_; rotate_left
  cases h; refine call_lim rfl ?_; rotate_left
  all_goals (dsimp only [R1] at *; show runFn IF_ g201F _ _ = _; exact fin_)
noncomputable def r05_Sum_l0_x (γ : Nat → Nat) : Int → X × St
  | a0 => (.brk 0, ⟨bd 3 (vU a0 :: bd 16 []), []⟩)
instance : InjS r05_Sum_l0_x := ⟨fun γ γ' x y h => by
  rcases x with a0 <;> rcases y with a0' <;> simp only [r05_Sum_l0_x] at h <;> exact inj_⟩
noncomputable def r05_Sum_l0 (s : ByteArray) (n : Int) (i : Int) : Option (Int) := asks (fun γ => (lim F pr).loop [0, 4, 3] 0 b159_0 ⟨vT s :: bd 2 (vU n :: vI i :: bd 15 []), []⟩) r05_Sum_l0_x
noncomputable def r05_Sum_l0_b (s : ByteArray) (n : Int) (i : Int) : Option (Int) :=
  bif Ops.std.ilt i (Ops.std.slen s) then
    (xsget s i).bind fun b =>
    r05_Sum_l0 s (Ops.std.imul .u64 (Ops.std.ibit .xor .u64 n (Ops.std.iwrap .u64 b)) 1099511628211) (Ops.std.iadd .i64 i 1)
  else
    some n
theorem r05_Sum_l0_r {s n i r} (h : r05_Sum_l0_b s n i = some r) : r05_Sum_l0 s n i = some r := by
  unfold r05_Sum_l0_b at h
  refine asks_of fun γ => ?_
  rcases cond_some h with ⟨h1, h⟩ | ⟨h1, h⟩
  obtain ⟨b, h2, h⟩ := bind_some h
  replace h := asks_some h (gam []); obtain ⟨γ', h0⟩ := h; refine ⟨γ', round_lim ?_⟩; rotate_left
  cases h; refine ⟨gam [], round_lim ?_⟩; rotate_left
  all_goals (dsimp only [r05_Sum_l0_x] at *; show roundAs IF_ _ _ b159_0 b159_0F _ = _; generalize b159_0 = c0 at *; exact fin_)
noncomputable def r05_Sum_b (s : ByteArray) : Option (Int) :=
  r05_Sum_l0 s 14695981039346656037 0
theorem r05_Sum_r {s r} (h : r05_Sum_b s = some r) : r05_Sum s = some r := by
  unfold r05_Sum_b at h
  refine ask_of ?_
  obtain ⟨γ1, h1⟩ := asks_some h (gam [])
  rcases r with n
  refine call_lim rfl ?_; rotate_left
  all_goals (dsimp only [R1, r05_Sum_l0_x] at *; show runFn IF_ (g159F b159_0) _ _ = _; generalize b159_0 = c0 at *; exact fin_)
noncomputable def peers_firm_b (x : Entry) : Option (Bool) :=
  some (Ops.std.ile x.misses 0)
theorem peers_firm_r {x r} (h : peers_firm_b x = some r) : peers_firm x = some r := by
  unfold peers_firm_b at h
  refine ask_of ?_
  cases h; refine call_lim rfl ?_; rotate_left
  all_goals (dsimp only [R1] at *; show runFn IF_ g146F _ _ = _; exact fin_)
end Go.Ab.Tryz
