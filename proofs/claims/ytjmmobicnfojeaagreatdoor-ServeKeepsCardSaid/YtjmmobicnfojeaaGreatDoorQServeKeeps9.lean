/- Our texts for this statement, merged: what its theorem leads to. -/
import Derived.Test.YtjmmobicnfojeaaGreatDoorQServeKeeps4
namespace Go.Ab.Tryz
open Go Go.Ab Go.Proofs
set_option linter.unusedVariables false
set_option linter.unusedSimpArgs false
set_option maxRecDepth 10000
set_option maxHeartbeats 4000000
noncomputable def r08_Key_b (s : ByteArray) : Option (Bool) :=
  bif Ops.std.ilt 0 (Ops.std.slen s) then
    bif Ops.std.ilt (Ops.std.slen s) 97 then
      (r04_Valid s).bind fun res =>
      bif res then
        (r04_Parts s).bind fun res1 =>
        some (Ops.std.ilt (xlen vT res1) 33)
      else
        some false
    else
      some false
  else
    some false
theorem r08_Key_r {s r} (h : r08_Key_b s = some r) : r08_Key s = some r := by
  unfold r08_Key_b at h
  refine ask_of ?_
  rcases cond_some h with ⟨h1, h⟩ | ⟨h1, h⟩
  rcases cond_some h with ⟨h2, h⟩ | ⟨h2, h⟩
  obtain ⟨res, h3, h⟩ := bind_ask h
  rcases cond_some h with ⟨h4, h⟩ | ⟨h4, h⟩
  obtain ⟨res1, h5, h⟩ := bind_ask h
  cases h; refine call_lim rfl ?_; rotate_left
  cases h; refine call_lim rfl ?_; rotate_left
  cases h; refine call_lim rfl ?_; rotate_left
  cases h; refine call_lim rfl ?_; rotate_left
  all_goals (dsimp only [R1] at *; show runFn IF_ g25F _ _ = _; exact fin_)
noncomputable def peers_some_l0_x (γ : Nat → Nat) : (List Peer) → X × St
  | a0 => (.brk 0, ⟨bd 5 (.sl 1 ((γ 1)) :: bd 18 []), [.row 25 (γ 0) false (List.map ePeer []), .row 25 (γ 1) false (List.map ePeer a0)]⟩)
instance : InjS peers_some_l0_x := ⟨fun γ γ' x y h => by
  rcases x with a0 <;> rcases y with a0' <;> simp only [peers_some_l0_x] at h <;> exact inj_⟩
noncomputable def peers_some_l0 (l : List Entry) (t10 : Int) (r1 : List Peer) : Option ((List Peer)) := asks (fun γ => (lim F pr).loop [9, 8, 1, 10, 5] 2 b145_0 ⟨bd 1 (.fn 193 [] :: bd 3 (.sl 1 ((γ 1)) :: bd 2 (.lit 81 false (List.map eEntry l) :: vI (xlen eEntry l) :: vI t10 :: bd 13 []))), [.row 25 (γ 0) false (List.map ePeer []), .row 25 (γ 1) false (List.map ePeer r1)]⟩) peers_some_l0_x
noncomputable def peers_some_l0_b (l : List Entry) (t10 : Int) (r1 : List Peer) : Option ((List Peer)) :=
  bif Ops.std.ilt t10 (xlen eEntry l) then
    (xget eEntry l t10).bind fun x =>
    (peers_All_1 x).bind fun res =>
    bif res then
      bif xroom ePeer 16 r1 [x.peer] then peers_some_l0 l (Ops.std.iadd .i64 t10 1) (r1 ++ [x.peer]) else
      none
    else
      peers_some_l0 l (Ops.std.iadd .i64 t10 1) r1
  else
    some r1
theorem peers_some_l0_r {l t10 r1 r} (h : peers_some_l0_b l t10 r1 = some r) : peers_some_l0 l t10 r1 = some r := by
  unfold peers_some_l0_b at h
  refine asks_of fun γ => ?_
  rcases cond_some h with ⟨h1, h⟩ | ⟨h1, h⟩
  obtain ⟨x, h2, h⟩ := bind_ask h
  obtain ⟨res, h3, h⟩ := bind_ask h
  rcases cond_some h with ⟨h4, h⟩ | ⟨h4, h⟩
  obtain ⟨h5, h⟩ := need_some h
  replace h := asks_some h (gam [(γ 0), ((γ 1) + 1)]); obtain ⟨γ', h0⟩ := h; refine ⟨γ', round_lim ?_⟩; rotate_left
  replace h := asks_some h (gam [(γ 0), (γ 1)]); obtain ⟨γ', h0⟩ := h; refine ⟨γ', round_lim ?_⟩; rotate_left
  cases h; refine ⟨gam [(γ 0), (γ 1)], round_lim ?_⟩; rotate_left
  all_goals (dsimp only [R1, peers_some_l0_x] at *; show roundAs IF_ _ _ b145_0 b145_0F _ = _; generalize b145_0 = c0 at *; exact fin_)
noncomputable def peers_some_b (l : List Entry) : Option ((List Peer)) :=
  peers_some_l0 l 0 []
theorem peers_some_r {l r} (h : peers_some_b l = some r) : peers_some l = some r := by
  unfold peers_some_b at h
  refine ask_of ?_
  obtain ⟨γ1, h1⟩ := asks_some h (gam [0, 0])
  rcases r with r1
  refine call_lim rfl ?_; rotate_left
  all_goals (dsimp only [K1, peers_some_l0_x] at *; show runFn IF_ (g145F b145_0) _ _ = _; generalize b145_0 = c0 at *; exact fin_)
noncomputable def store_place_b (l : List Pair) (key : ByteArray) : Option (Int) :=
  IndexFunc_Pair_2 l key
theorem store_place_r {l key r} (h : store_place_b l key = some r) : store_place l key = some r := by
  unfold store_place_b at h
  refine ask_of ?_
  have h1 := ask_some h
  rcases r with res
  refine call_lim rfl ?_; rotate_left
  all_goals (dsimp only [IndexFunc_Pair_2_e, R1] at *; show runFn IF_ g141F _ _ = _; exact fin_)
noncomputable def store_Put_1_b (p : Pair) (b0 : ByteArray) : Option (Bool) :=
  some (Ops.std.slt b0 p.key)
theorem store_Put_1_r {p b0 r} (h : store_Put_1_b p b0 = some r) : store_Put_1 p b0 = some r := by
  unfold store_Put_1_b at h
  refine ask_of ?_
  cases h; refine call_lim rfl ?_; rotate_left
  all_goals (dsimp only [store_Put_1_e] at *; show runFn IF_ g143F _ _ = _; exact fin_)
noncomputable def IndexFunc_Pair_1_l0_x (b0 : ByteArray) (γ : Nat → Nat) : Int ⊕ Unit → X × St
  | .inl a0 => (.ret, ⟨bd 4 (vI a0 :: bd 14 []), [.box 9 [vT b0]]⟩)
  | .inr () => (.brk 0, ⟨bd 19 [], [.box 9 [vT b0]]⟩)
instance {b0} : InjS (IndexFunc_Pair_1_l0_x b0) := ⟨fun γ γ' x y h => by
  rcases x with a0 | _ <;> rcases y with a0' | _ <;> simp only [IndexFunc_Pair_1_l0_x] at h <;> exact inj_⟩
noncomputable def IndexFunc_Pair_1_l0 (s : List Pair) (b0 : ByteArray) (t8 : Int) : Option (Int ⊕ Unit) := asks (fun γ => (lim F pr).loop [7, 1, 0, 8] 1 b142_0 ⟨.lit 78 false (List.map ePair s) :: .fn 143 [.bptr 0 0] :: bd 5 (vI (xlen ePair s) :: vI t8 :: bd 10 []), [.box 9 [vT b0]]⟩) (IndexFunc_Pair_1_l0_x b0)
noncomputable def IndexFunc_Pair_1_l0_b (s : List Pair) (b0 : ByteArray) (t8 : Int) : Option (Int ⊕ Unit) :=
  bif Ops.std.ilt t8 (xlen ePair s) then
    (xget ePair s t8).bind fun x =>
    (store_Put_1 x b0).bind fun res =>
    bif res then some (.inl t8) else
    IndexFunc_Pair_1_l0 s b0 (Ops.std.iadd .i64 t8 1)
  else
    some (.inr ())
theorem IndexFunc_Pair_1_l0_r {s b0 t8 r} (h : IndexFunc_Pair_1_l0_b s b0 t8 = some r) : IndexFunc_Pair_1_l0 s b0 t8 = some r := by
  unfold IndexFunc_Pair_1_l0_b at h
  refine asks_of fun γ => ?_
  rcases cond_some h with ⟨h1, h⟩ | ⟨h1, h⟩
  obtain ⟨x, h2, h⟩ := bind_ask h
  obtain ⟨res, h3, h⟩ := bind_ask h
  rcases cond_some h with ⟨h4, h⟩ | ⟨h4, h⟩
  cases h; refine ⟨gam [], round_lim ?_⟩; rotate_left
  replace h := asks_some h (gam []); obtain ⟨γ', h0⟩ := h; refine ⟨γ', round_lim ?_⟩; rotate_left
  cases h; refine ⟨gam [], round_lim ?_⟩; rotate_left
  all_goals (dsimp only [IndexFunc_Pair_1_l0_x, store_Put_1_e] at *; show roundAs IF_ _ _ b142_0 b142_0F _ = _; generalize b142_0 = c0 at *; exact fin_)
noncomputable def IndexFunc_Pair_1_b (s : List Pair) (b0 : ByteArray) : Option (Int) :=
  (IndexFunc_Pair_1_l0 s b0 0).bind fun r => match r with
    | .inl t4 =>
      some t4
    | .inr () =>
      some (-1)
theorem IndexFunc_Pair_1_r {s b0 r} (h : IndexFunc_Pair_1_b s b0 = some r) : IndexFunc_Pair_1 s b0 = some r := by
  unfold IndexFunc_Pair_1_b at h
  refine ask_of ?_
  obtain ⟨r1, γ1, h1, h⟩ := bind_asks h (gam [])
  rcases r1 with t4 | _
  cases h; refine call_lim rfl ?_; rotate_left
  cases h; refine call_lim rfl ?_; rotate_left
  all_goals (dsimp only [IndexFunc_Pair_1_e, IndexFunc_Pair_1_l0_x] at *; show runFn IF_ (g142F b142_0) _ _ = _; generalize b142_0 = c0 at *; exact fin_)
end Go.Ab.Tryz
