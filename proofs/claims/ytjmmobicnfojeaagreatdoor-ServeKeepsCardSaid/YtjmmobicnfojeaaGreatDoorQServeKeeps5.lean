/- Our texts for this statement, merged: what its theorem leads to. -/
import Derived.Test.YtjmmobicnfojeaaGreatDoorQServeKeeps4
namespace Go.Ab.Tryz
open Go Go.Ab Go.Proofs
set_option linter.unusedVariables false
set_option linter.unusedSimpArgs false
set_option maxRecDepth 10000
set_option maxHeartbeats 4000000
noncomputable def w33_ServeKeeps_s0_x (n : Node) (to_ : Peer) (γ : Nat → Nat) : Bool → X × St
  | a0 => (.ret, ⟨bd 12 (vF a0 :: bd 85 []), [.box 34 (cNode n), .box 25 [vU to_.id, vH to_.addr]]⟩)
instance {n to_} : InjS (w33_ServeKeeps_s0_x n to_) := ⟨fun γ γ' x y h => by
  rcases x with a0 <;> rcases y with a0' <;> simp only [w33_ServeKeeps_s0_x] at h <;> exact inj_⟩
noncomputable def w33_ServeKeeps_s0 (n : Node) (key : ByteArray) (val : ByteArray) (to_ : Peer) (l : List Pair) (fresh : Bool) : Option (Bool) := asks (fun γ => (lim F pr).seg [12] b4_0 ⟨bd 1 (vT key :: vT val :: bd 1 (.lit 78 false (List.map ePair l) :: vF fresh :: .bptr 0 0 :: bd 2 (.bptr 1 0 :: bd 88 []))), [.box 34 (cNode n), .box 25 [vU to_.id, vH to_.addr]]⟩) (w33_ServeKeeps_s0_x n to_)
noncomputable def w33_ServeKeeps_s0_b (n : Node) (key : ByteArray) (val : ByteArray) (to_ : Peer) (l : List Pair) (fresh : Bool) : Option (Bool) :=
  (serve_Keep n key val).bind fun ⟨r0, r1, r2⟩ =>
  (r33_Keep n key val).bind fun ⟨r01, r11, r21⟩ =>
  (serve_Hand n to_ l fresh).bind fun ⟨r02, r12⟩ =>
  (r33_Hand n to_ l fresh).bind fun ⟨r03, r13⟩ =>
  (r30_Same r0 r01).bind fun res =>
  bif res then
    (r30_Outs r1 r11).bind fun res1 =>
    bif res1 then
      bif Ops.std.ieq r2 r21 then
        (r30_Same r02 r03).bind fun res2 =>
        bif res2 then
          (r30_Outs r12 r13).bind fun res3 =>
          bif res3 then w33_awake else
          some false
        else
          some false
      else
        some false
    else
      some false
  else
    some false
theorem w33_ServeKeeps_s0_r {n key val to_ l fresh r} (h : w33_ServeKeeps_s0_b n key val to_ l fresh = some r) : w33_ServeKeeps_s0 n key val to_ l fresh = some r := by
  unfold w33_ServeKeeps_s0_b at h
  refine asks_of fun γ => ?_
  obtain ⟨r1, h1, h⟩ := bind_ask h
  rcases r1 with ⟨r0, r1, r2⟩
  obtain ⟨r2, h2, h⟩ := bind_ask h
  rcases r2 with ⟨r01, r11, r21⟩
  obtain ⟨r3, h3, h⟩ := bind_ask h
  rcases r3 with ⟨r02, r12⟩
  obtain ⟨r4, h4, h⟩ := bind_ask h
  rcases r4 with ⟨r03, r13⟩
  obtain ⟨res, h5, h⟩ := bind_ask h
  rcases cond_some h with ⟨h6, h⟩ | ⟨h6, h⟩
  obtain ⟨res1, h7, h⟩ := bind_ask h
  rcases cond_some h with ⟨h8, h⟩ | ⟨h8, h⟩
  rcases cond_some h with ⟨h9, h⟩ | ⟨h9, h⟩
  obtain ⟨res2, h10, h⟩ := bind_ask h
  rcases cond_some h with ⟨h11, h⟩ | ⟨h11, h⟩
  obtain ⟨res3, h12, h⟩ := bind_ask h
  rcases cond_some h with ⟨h13, h⟩ | ⟨h13, h⟩
  have h14 := ask_some h
  rcases r with res4
  refine ⟨gam [], seg_lim ?_⟩; rotate_left
  cases h; refine ⟨gam [], seg_lim ?_⟩; rotate_left
  cases h; refine ⟨gam [], seg_lim ?_⟩; rotate_left
  cases h; refine ⟨gam [], seg_lim ?_⟩; rotate_left
  cases h; refine ⟨gam [], seg_lim ?_⟩; rotate_left
  cases h; refine ⟨gam [], seg_lim ?_⟩; rotate_left
  all_goals (dsimp only [R1, R2, R3, w33_ServeKeeps_s0_x] at *; show Ifc.apart IF_ _ b4_0F _ = _; exact fin_)
noncomputable def w33_ServeKeeps_b (n : Node) (key : ByteArray) (val : ByteArray) (to_ : Peer) (l : List Pair) (fresh : Bool) : Option (Bool) :=
  (w30_Large n).bind fun res =>
  bif res then w33_awake else
  bif Ops.std.ilt 300 (Ops.std.slen key) then w33_awake else
  bif Ops.std.ilt 700 (Ops.std.slen val) then w33_awake else
  (w29_Large l).bind fun res1 =>
  bif res1 then w33_awake else
  w33_ServeKeeps_s0 n key val to_ l fresh
theorem w33_ServeKeeps_r {n key val to_ l fresh r} (h : w33_ServeKeeps_b n key val to_ l fresh = some r) : w33_ServeKeeps n key val to_ l fresh = some r := by
  unfold w33_ServeKeeps_b at h
  refine ask_of ?_
  obtain ⟨res, h1, h⟩ := bind_ask h
  rcases cond_some h with ⟨h2, h⟩ | ⟨h2, h⟩
  have h3 := ask_some h
  rcases r with res1
  refine call_lim rfl ?_; rotate_left
  rcases cond_some h with ⟨h3, h⟩ | ⟨h3, h⟩
  have h4 := ask_some h
  rcases r with res1
  refine call_lim rfl ?_; rotate_left
  rcases cond_some h with ⟨h4, h⟩ | ⟨h4, h⟩
  have h5 := ask_some h
  rcases r with res1
  refine call_lim rfl ?_; rotate_left
  obtain ⟨res1, h5, h⟩ := bind_ask h
  rcases cond_some h with ⟨h6, h⟩ | ⟨h6, h⟩
  have h7 := ask_some h
  rcases r with res2
  refine call_lim rfl ?_; rotate_left
  obtain ⟨γ3, h7⟩ := asks_some h (gam [])
  rcases r with t12
  refine call_lim rfl ?_; rotate_left
  all_goals (dsimp only [R1, w33_ServeKeeps_s0_x] at *; show runFn IF_ (g4F b4_0) _ _ = _; generalize b4_0 = c0 at *; exact fin_)
noncomputable def w30_Large_s2_x (n : Node) (γ : Nat → Nat) : Bool → X × St
  | a0 => (.ret, ⟨bd 2 (vF a0 :: bd 91 []), [.box 34 (cNode n)]⟩)
instance {n} : InjS (w30_Large_s2_x n) := ⟨fun γ γ' x y h => by
  rcases x with a0 <;> rcases y with a0' <;> simp only [w30_Large_s2_x] at h <;> exact inj_⟩
noncomputable def w30_Large_s2 (n : Node) : Option (Bool) := asks (fun γ => (lim F pr).seg [2] b11_2 ⟨bd 1 (.bptr 0 0 :: bd 92 []), [.box 34 (cNode n)]⟩) (w30_Large_s2_x n)
noncomputable def w30_Large_l0_x (n : Node) (γ : Nat → Nat) : Unit ⊕ Unit → X × St
  | .inl () => (.ret, ⟨bd 2 (vF true :: bd 91 []), [.box 34 (cNode n)]⟩)
  | .inr () => (.brk 0, ⟨bd 1 (.bptr 0 0 :: bd 92 []), [.box 34 (cNode n)]⟩)
instance {n} : InjS (w30_Large_l0_x n) := ⟨fun γ γ' x y h => by
  rcases x with _ | _ <;> rcases y with _ | _ <;> simp only [w30_Large_l0_x] at h <;> exact inj_⟩
noncomputable def w30_Large_l0 (n : Node) (i : Int) : Option (Unit ⊕ Unit) := asks (fun γ => (lim F pr).loop [3, 1] 1 b11_0 ⟨bd 1 (.bptr 0 0 :: bd 1 (vI i :: bd 90 [])), [.box 34 (cNode n)]⟩) (w30_Large_l0_x n)
noncomputable def w30_Large_l1_x (n : Node) (γ : Nat → Nat) : Unit ⊕ Unit → X × St
  | .inl () => (.ret, ⟨bd 2 (vF true :: bd 91 []), [.box 34 (cNode n)]⟩)
  | .inr () => (.brk 2, ⟨bd 94 [], [.box 34 (cNode n)]⟩)
instance {n} : InjS (w30_Large_l1_x n) := ⟨fun γ γ' x y h => by
  rcases x with _ | _ <;> rcases y with _ | _ <;> simp only [w30_Large_l1_x] at h <;> exact inj_⟩
noncomputable def w30_Large_l1 (n : Node) (i : Int) : Option (Unit ⊕ Unit) := asks (fun γ => (lim F pr).loop [1, 4] 1 b11_1 ⟨bd 1 (.bptr 0 0 :: bd 2 (vI i :: bd 89 [])), [.box 34 (cNode n)]⟩) (w30_Large_l1_x n)
noncomputable def w30_Large_s2_b (n : Node) : Option (Bool) :=
  (w30_Large_l0 n 0).bind fun r => match r with
    | .inl () =>
      some true
    | .inr () =>
      (w30_Large_l1 n 0).bind fun r => match r with
        | .inl () =>
          some true
        | .inr () =>
          some false
theorem w30_Large_s2_r {n r} (h : w30_Large_s2_b n = some r) : w30_Large_s2 n = some r := by
  unfold w30_Large_s2_b at h
  refine asks_of fun γ => ?_
  obtain ⟨r1, γ1, h1, h⟩ := bind_asks h (gam [])
  rcases r1 with _ | _
  cases h; refine ⟨gam [], seg_lim ?_⟩; rotate_left
  obtain ⟨r2, γ2, h2, h⟩ := bind_asks h (gam [])
  rcases r2 with _ | _
  cases h; refine ⟨gam [], seg_lim ?_⟩; rotate_left
  cases h; refine ⟨gam [], seg_lim ?_⟩; rotate_left
  all_goals (dsimp only [w30_Large_l0_x, w30_Large_l1_x, w30_Large_s2_x] at *; show Ifc.apart IF_ _ (b11_2F b11_0 b11_1) _ = _; generalize b11_0 = c0, b11_1 = c1 at *; exact fin_)
noncomputable def w30_Large_l0_b (n : Node) (i : Int) : Option (Unit ⊕ Unit) :=
  bif Ops.std.ilt i (xlen eJob n.jobs) then
    (xget eJob n.jobs i).bind fun x =>
    bif Ops.std.ilt 300 (Ops.std.slen x.key) then some (.inl ()) else
    bif Ops.std.ilt 700 (Ops.std.slen x.val) then some (.inl ()) else
    w30_Large_l0 n (Ops.std.iadd .i64 i 1)
  else
    some (.inr ())
theorem w30_Large_l0_r {n i r} (h : w30_Large_l0_b n i = some r) : w30_Large_l0 n i = some r := by
  unfold w30_Large_l0_b at h
  refine asks_of fun γ => ?_
  rcases cond_some h with ⟨h1, h⟩ | ⟨h1, h⟩
  obtain ⟨x, h2, h⟩ := bind_ask h
  rcases cond_some h with ⟨h3, h⟩ | ⟨h3, h⟩
  cases h; refine ⟨gam [], round_lim ?_⟩; rotate_left
  rcases cond_some h with ⟨h4, h⟩ | ⟨h4, h⟩
  cases h; refine ⟨gam [], round_lim ?_⟩; rotate_left
  replace h := asks_some h (gam []); obtain ⟨γ', h0⟩ := h; refine ⟨γ', round_lim ?_⟩; rotate_left
  cases h; refine ⟨gam [], round_lim ?_⟩; rotate_left
  all_goals (dsimp only [w30_Large_l0_x] at *; show roundAs IF_ _ _ b11_0 b11_0F _ = _; generalize b11_0 = c0 at *; exact fin_)
noncomputable def w30_Large_l1_b (n : Node) (i : Int) : Option (Unit ⊕ Unit) :=
  bif Ops.std.ilt i (xlen eResult n.results) then
    (xget eResult n.results i).bind fun x =>
    bif Ops.std.ilt 300 (Ops.std.slen x.key) then some (.inl ()) else
    bif Ops.std.ilt 700 (Ops.std.slen x.val) then some (.inl ()) else
    w30_Large_l1 n (Ops.std.iadd .i64 i 1)
  else
    some (.inr ())
theorem w30_Large_l1_r {n i r} (h : w30_Large_l1_b n i = some r) : w30_Large_l1 n i = some r := by
  unfold w30_Large_l1_b at h
  refine asks_of fun γ => ?_
  rcases cond_some h with ⟨h1, h⟩ | ⟨h1, h⟩
  obtain ⟨x, h2, h⟩ := bind_ask h
  rcases cond_some h with ⟨h3, h⟩ | ⟨h3, h⟩
  cases h; refine ⟨gam [], round_lim ?_⟩; rotate_left
  rcases cond_some h with ⟨h4, h⟩ | ⟨h4, h⟩
  cases h; refine ⟨gam [], round_lim ?_⟩; rotate_left
  replace h := asks_some h (gam []); obtain ⟨γ', h0⟩ := h; refine ⟨γ', round_lim ?_⟩; rotate_left
  cases h; refine ⟨gam [], round_lim ?_⟩; rotate_left
  all_goals (dsimp only [w30_Large_l1_x] at *; show roundAs IF_ _ _ b11_1 b11_1F _ = _; generalize b11_1 = c0 at *; exact fin_)
noncomputable def w30_Large_b (n : Node) : Option (Bool) :=
  bif Ops.std.ilt 5 (xlen eEntry n.pred) then some true else
  bif Ops.std.ilt 40 (xlen eEntry n.list) then some true else
  bif Ops.std.ilt 80 (xlen eFinger n.fingers) then some true else
  bif Ops.std.ilt 100 (xlen ePend n.pends) then some true else
  bif Ops.std.ilt 20 (xlen eJob n.jobs) then some true else
  bif Ops.std.ilt 40 (xlen eResult n.results) then some true else
  (w29_Large n.store).bind fun res =>
  bif res then some true else
  w30_Large_s2 n
theorem w30_Large_r {n r} (h : w30_Large_b n = some r) : w30_Large n = some r := by
  unfold w30_Large_b at h
  refine ask_of ?_
  rcases cond_some h with ⟨h1, h⟩ | ⟨h1, h⟩
  cases h; refine call_lim rfl ?_; rotate_left
  rcases cond_some h with ⟨h2, h⟩ | ⟨h2, h⟩
  cases h; refine call_lim rfl ?_; rotate_left
  rcases cond_some h with ⟨h3, h⟩ | ⟨h3, h⟩
  cases h; refine call_lim rfl ?_; rotate_left
  rcases cond_some h with ⟨h4, h⟩ | ⟨h4, h⟩
  cases h; refine call_lim rfl ?_; rotate_left
  rcases cond_some h with ⟨h5, h⟩ | ⟨h5, h⟩
  cases h; refine call_lim rfl ?_; rotate_left
  rcases cond_some h with ⟨h6, h⟩ | ⟨h6, h⟩
  cases h; refine call_lim rfl ?_; rotate_left
  obtain ⟨res, h7, h⟩ := bind_ask h
  rcases cond_some h with ⟨h8, h⟩ | ⟨h8, h⟩
  cases h; refine call_lim rfl ?_; rotate_left
  obtain ⟨γ2, h9⟩ := asks_some h (gam [])
  rcases r with t2
  refine call_lim rfl ?_; rotate_left
  all_goals (dsimp only [R1, w30_Large_s2_x] at *; show runFn IF_ (g11F b11_2) _ _ = _; generalize b11_2 = c0 at *; exact fin_)
noncomputable def pend_Copy_b (n : Node) : Option (pend_Copy_T) :=
  bif xroom eEntry 24 [] n.pred then
    bif xroom eEntry 24 [] n.list then
      bif xroom eFinger 24 [] n.fingers then
        bif xroom ePair 32 [] n.store then
          bif xroom ePend 56 [] n.pends then
            bif xroom eJob 128 [] n.jobs then
              bif xroom eResult 64 [] n.results then
                some (n.me.id, n.me.addr, n.clock, n.joined, n.pred, n.list, n.fingers, n.store, n.pends, n.jobs, n.results, n.rid, n.jobID, n.nextBit)
              else
                none
            else
              none
          else
            none
        else
          none
      else
        none
    else
      none
  else
    none
theorem pend_Copy_r {n r} (h : pend_Copy_b n = some r) : pend_Copy n = some r := by
  unfold pend_Copy_b at h
  refine ask_of ?_
  obtain ⟨h1, h⟩ := need_some h
  obtain ⟨h2, h⟩ := need_some h
  obtain ⟨h3, h⟩ := need_some h
  obtain ⟨h4, h⟩ := need_some h
  obtain ⟨h5, h⟩ := need_some h
  obtain ⟨h6, h⟩ := need_some h
  obtain ⟨h7, h⟩ := need_some h
  cases h; refine call_lim rfl ?_; rotate_left
  all_goals (dsimp only [pend_Copy_e] at *; show runFn IF_ g14F _ _ = _; exact fin_)
end Go.Ab.Tryz
