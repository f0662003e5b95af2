/- Our texts for this statement, merged: what its theorem leads to. -/
import Derived.Test.YtjmmobicnfojeaaGreatDoorQServeKeeps4
namespace Go.Ab.Tryz
open Go Go.Ab Go.Proofs
set_option linter.unusedVariables false
set_option linter.unusedSimpArgs false
set_option maxRecDepth 10000
set_option maxHeartbeats 4000000
noncomputable def peers_All_b (l : List Entry) : Option ((List Peer)) :=
  peers_some l
theorem peers_All_r {l r} (h : peers_All_b l = some r) : peers_All l = some r := by
  unfold peers_All_b at h
  refine ask_of ?_
  have h1 := ask_some h
  rcases r with res
  refine call_lim rfl ?_; rotate_left
  all_goals (dsimp only [K1, R1] at *; show runFn IF_ g126F _ _ = _; exact fin_)
noncomputable def store_Put_s0_x (key : ByteArray) (γ : Nat → Nat) : (List Pair) → X × St
  | a0 => (.ret, ⟨bd 6 (.sl 2 ((γ 2)) :: vI 0 :: bd 45 []), [.box 9 [vT key], .row 78 (γ 1) false (List.map ePair []), .row 78 (γ 2) false (List.map ePair a0)]⟩)
instance {key} : InjS (store_Put_s0_x key) := ⟨fun γ γ' x y h => by
  rcases x with a0 <;> rcases y with a0' <;> simp only [store_Put_s0_x] at h <;> exact inj_⟩
noncomputable def store_Put_s0 (l : List Pair) (key : ByteArray) (val : ByteArray) : Option ((List Pair)) := asks (fun γ => (lim F pr).seg [6, 7] b75_0 ⟨bd 2 (vT val :: bd 1 (.bptr 0 0 :: bd 3 (.sl 2 ((γ 2)) :: bd 44 []))), [.box 9 [vT key], .row 78 (γ 1) false (List.map ePair []), .row 78 (γ 2) false (List.map ePair l)]⟩) (store_Put_s0_x key)
noncomputable def store_Put_s0_b (l : List Pair) (key : ByteArray) (val : ByteArray) : Option ((List Pair)) :=
  (IndexFunc_Pair_1 l key).bind fun res =>
  bif Ops.std.ilt res 0 then
    bif xroom ePair 32 l [(⟨key, val⟩ : Pair)] then
      (xsub ePair l 0 (xlen ePair l)).bind fun ys =>
      (xsub ePair l (xlen ePair l) (xlen ePair l)).bind fun ys1 =>
      some (ys ++ ([(⟨key, val⟩ : Pair)] ++ ys1))
    else
      none
  else
    bif xroom ePair 32 l [(⟨key, val⟩ : Pair)] then
      (xsub ePair l 0 res).bind fun ys =>
      (xsub ePair l res (xlen ePair l)).bind fun ys1 =>
      some (ys ++ ([(⟨key, val⟩ : Pair)] ++ ys1))
    else
      none
theorem store_Put_s0_r {l key val r} (h : store_Put_s0_b l key val = some r) : store_Put_s0 l key val = some r := by
  unfold store_Put_s0_b at h
  refine asks_of fun γ => ?_
  obtain ⟨res, h1, h⟩ := bind_ask h
  rcases cond_some h with ⟨h2, h⟩ | ⟨h2, h⟩
  obtain ⟨h3, h⟩ := need_some h
  obtain ⟨ys, h4, h⟩ := bind_ask h
  obtain ⟨ys1, h5, h⟩ := bind_ask h
  cases h; refine ⟨gam [0, (γ 1), ((γ 2) + 1)], seg_lim ?_⟩; rotate_left
  obtain ⟨h3, h⟩ := need_some h
  obtain ⟨ys, h4, h⟩ := bind_ask h
  obtain ⟨ys1, h5, h⟩ := bind_ask h
  cases h; refine ⟨gam [0, (γ 1), ((γ 2) + 1)], seg_lim ?_⟩; rotate_left
  all_goals (dsimp only [IndexFunc_Pair_1_e, store_Put_s0_x] at *; show Ifc.apart IF_ _ b75_0F _ = _; exact fin_)
noncomputable def store_Put_b (l : List Pair) (key : ByteArray) (val : ByteArray) : Option (((List Pair) × Int)) :=
  bif xroom ePair 32 [] l then
    (store_place l key).bind fun res =>
    (msg_Key key).bind fun res1 =>
    bif res1 then
      bif Ops.std.ilt 512 (Ops.std.slen val) then some (l, 5) else
      bif Ops.std.ile 0 res then
        (xget ePair l res).bind fun x =>
        some (xset l res (⟨x.key, val⟩ : Pair), 0)
      else
        bif Ops.std.ile 64 (xlen ePair l) then some (l, 10) else
        (store_Put_s0 l key val).bind fun r2 =>
        some (r2, 0)
    else
      some (l, 7)
  else
    none
theorem store_Put_r {l key val r} (h : store_Put_b l key val = some r) : store_Put l key val = some r := by
  unfold store_Put_b at h
  refine ask_of ?_
  obtain ⟨h1, h⟩ := need_some h
  obtain ⟨res, h2, h⟩ := bind_ask h
  obtain ⟨res1, h3, h⟩ := bind_ask h
  rcases cond_some h with ⟨h4, h⟩ | ⟨h4, h⟩
  rcases cond_some h with ⟨h5, h⟩ | ⟨h5, h⟩
  cases h; refine call_lim rfl ?_; rotate_left
  rcases cond_some h with ⟨h6, h⟩ | ⟨h6, h⟩
  obtain ⟨x, h7, h⟩ := bind_ask h
  cases h; refine call_lim rfl ?_; rotate_left
  rcases cond_some h with ⟨h7, h⟩ | ⟨h7, h⟩
  cases h; refine call_lim rfl ?_; rotate_left
  obtain ⟨r2, γ3, h8, h⟩ := bind_asks h (gam [0, 0, 0])
  cases h; refine call_lim rfl ?_; rotate_left
  cases h; refine call_lim rfl ?_; rotate_left
  all_goals (dsimp only [R1, R2, store_Put_s0_x] at *; show runFn IF_ (g75F b75_0) _ _ = _; generalize b75_0 = c0 at *; exact fin_)
end Go.Ab.Tryz
