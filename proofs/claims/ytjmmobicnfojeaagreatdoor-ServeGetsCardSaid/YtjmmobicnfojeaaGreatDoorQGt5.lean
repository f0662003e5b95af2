/- Our texts for this statement, merged: what its theorem leads to. -/
import Derived.Test.YtjmmobicnfojeaaGreatDoorQGt1
namespace Go.Ab.Tryz
open Go Go.Ab Go.Proofs
set_option linter.unusedVariables false
set_option linter.unusedSimpArgs false
set_option maxRecDepth 10000
set_option maxHeartbeats 4000000
noncomputable def r27_All_l0_x (γ : Nat → Nat) : (List Peer) → X × St
  | a0 => (.brk 0, ⟨bd 3 (.sl 1 ((γ 1)) :: bd 16 []), [.row 25 (γ 0) false (List.map ePeer []), .row 25 (γ 1) false (List.map ePeer a0)]⟩)
instance : InjS r27_All_l0_x := ⟨fun γ γ' x y h => by
  rcases x with a0 <;> rcases y with a0' <;> simp only [r27_All_l0_x] at h <;> exact inj_⟩
noncomputable def r27_All_l0 (l : List Entry) (i : Int) (r1 : List Peer) : Option ((List Peer)) := asks (fun γ => (lim F pr).loop [0, 4, 3] 2 b64_0 ⟨.lit 81 false (List.map eEntry l) :: bd 2 (.sl 1 ((γ 1)) :: vI i :: bd 15 []), [.row 25 (γ 0) false (List.map ePeer []), .row 25 (γ 1) false (List.map ePeer r1)]⟩) r27_All_l0_x
noncomputable def r27_All_l0_b (l : List Entry) (i : Int) (r1 : List Peer) : Option ((List Peer)) :=
  bif Ops.std.ilt i (xlen eEntry l) then
    (xget eEntry l i).bind fun x =>
    bif xroom ePeer 16 r1 [x.peer] then r27_All_l0 l (Ops.std.iadd .i64 i 1) (r1 ++ [x.peer]) else
    none
  else
    some r1
theorem r27_All_l0_r {l i r1 r} (h : r27_All_l0_b l i r1 = some r) : r27_All_l0 l i r1 = some r := by
  unfold r27_All_l0_b at h
  refine asks_of fun γ => ?_
  rcases cond_some h with ⟨h1, h⟩ | ⟨h1, h⟩
  obtain ⟨x, h2, h⟩ := bind_ask h
  obtain ⟨h3, h⟩ := need_some h
  replace h := asks_some h (gam [(γ 0), ((γ 1) + 1)]); obtain ⟨γ', h0⟩ := h; refine ⟨γ', round_lim ?_⟩; rotate_left
  cases h; refine ⟨gam [(γ 0), (γ 1)], round_lim ?_⟩; rotate_left
  all_goals (dsimp only [r27_All_l0_x] at *; show roundAs IF_ _ _ b64_0 b64_0F _ = _; generalize b64_0 = c0 at *; exact fin_)
noncomputable def r27_All_b (l : List Entry) : Option ((List Peer)) :=
  r27_All_l0 l 0 []
theorem r27_All_r {l r} (h : r27_All_b l = some r) : r27_All l = some r := by
  unfold r27_All_b at h
  refine ask_of ?_
  obtain ⟨γ1, h1⟩ := asks_some h (gam [0, 0])
  rcases r with r1
  refine call_lim rfl ?_; rotate_left
  all_goals (dsimp only [K1, r27_All_l0_x] at *; show runFn IF_ (g64F b64_0) _ _ = _; generalize b64_0 = c0 at *; exact fin_)
noncomputable def r29_Get_b (l : List Pair) (key : ByteArray) : Option ((ByteArray × Bool)) :=
  (r29_place l key).bind fun res =>
  bif Ops.std.ilt res 0 then some (⟨#[]⟩, false) else
  (xget ePair l res).bind fun x =>
  some (x.val, true)
theorem r29_Get_r {l key r} (h : r29_Get_b l key = some r) : r29_Get l key = some r := by
  unfold r29_Get_b at h
  refine ask_of ?_
  obtain ⟨res, h1, h⟩ := bind_ask h
  rcases cond_some h with ⟨h2, h⟩ | ⟨h2, h⟩
  cases h; refine call_lim rfl ?_; rotate_left
  obtain ⟨x, h3, h⟩ := bind_ask h
  cases h; refine call_lim rfl ?_; rotate_left
  all_goals (dsimp only [R1, R2] at *; show runFn IF_ g68F _ _ = _; exact fin_)
noncomputable def r27_Same_l0_x (γ : Nat → Nat) : Unit ⊕ Unit → X × St
  | .inl () => (.ret, ⟨bd 4 (vF false :: bd 21 []), []⟩)
  | .inr () => (.brk 0, ⟨bd 26 [], []⟩)
instance : InjS r27_Same_l0_x := ⟨fun γ γ' x y h => by
  rcases x with _ | _ <;> rcases y with _ | _ <;> simp only [r27_Same_l0_x] at h <;> exact inj_⟩
noncomputable def r27_Same_l0 (a : List Entry) (b : List Entry) (i : Int) : Option (Unit ⊕ Unit) := asks (fun γ => (lim F pr).loop [0, 1, 5] 0 b69_0 ⟨.lit 81 false (List.map eEntry a) :: .lit 81 false (List.map eEntry b) :: bd 3 (vI i :: bd 20 []), []⟩) r27_Same_l0_x
noncomputable def r27_Same_l0_b (a : List Entry) (b : List Entry) (i : Int) : Option (Unit ⊕ Unit) :=
  bif Ops.std.ilt i (xlen eEntry a) then
    (xget eEntry a i).bind fun x =>
    (xget eEntry b i).bind fun x1 =>
    bif Ops.std.ieq x.peer.id x1.peer.id then
      bif Ops.std.ieq x.peer.addr x1.peer.addr then
        bif Ops.std.ieq x.misses x1.misses then r27_Same_l0 a b (Ops.std.iadd .i64 i 1) else
        some (.inl ())
      else
        some (.inl ())
    else
      some (.inl ())
  else
    some (.inr ())
theorem r27_Same_l0_r {a b i r} (h : r27_Same_l0_b a b i = some r) : r27_Same_l0 a b i = some r := by
  unfold r27_Same_l0_b at h
  refine asks_of fun γ => ?_
  rcases cond_some h with ⟨h1, h⟩ | ⟨h1, h⟩
  obtain ⟨x, h2, h⟩ := bind_ask h
  obtain ⟨x1, h3, h⟩ := bind_ask h
  rcases cond_some h with ⟨h4, h⟩ | ⟨h4, h⟩
  rcases cond_some h with ⟨h5, h⟩ | ⟨h5, h⟩
  rcases cond_some h with ⟨h6, h⟩ | ⟨h6, h⟩
  replace h := asks_some h (gam []); obtain ⟨γ', h0⟩ := h; refine ⟨γ', round_lim ?_⟩; rotate_left
  cases h; refine ⟨gam [], round_lim ?_⟩; rotate_left
  cases h; refine ⟨gam [], round_lim ?_⟩; rotate_left
  cases h; refine ⟨gam [], round_lim ?_⟩; rotate_left
  cases h; refine ⟨gam [], round_lim ?_⟩; rotate_left
  all_goals (dsimp only [r27_Same_l0_x] at *; show roundAs IF_ _ _ b69_0 b69_0F _ = _; generalize b69_0 = c0 at *; exact fin_)
noncomputable def r27_Same_b (a : List Entry) (b : List Entry) : Option (Bool) :=
  bif Ops.std.ieq (xlen eEntry a) (xlen eEntry b) then
    (r27_Same_l0 a b 0).bind fun r => match r with
      | .inl () =>
        some false
      | .inr () =>
        some true
  else
    some false
theorem r27_Same_r {a b r} (h : r27_Same_b a b = some r) : r27_Same a b = some r := by
  unfold r27_Same_b at h
  refine ask_of ?_
  rcases cond_some h with ⟨h1, h⟩ | ⟨h1, h⟩
  obtain ⟨r2, γ1, h2, h⟩ := bind_asks h (gam [])
  rcases r2 with _ | _
  cases h; refine call_lim rfl ?_; rotate_left
  cases h; refine call_lim rfl ?_; rotate_left
  cases h; refine call_lim rfl ?_; rotate_left
  all_goals (dsimp only [R1, r27_Same_l0_x] at *; show runFn IF_ (g69F b69_0) _ _ = _; generalize b69_0 = c0 at *; exact fin_)
noncomputable def r28_Same_l0_x (γ : Nat → Nat) : Unit ⊕ Unit → X × St
  | .inl () => (.ret, ⟨bd 4 (vF false :: bd 21 []), []⟩)
  | .inr () => (.brk 0, ⟨bd 26 [], []⟩)
instance : InjS r28_Same_l0_x := ⟨fun γ γ' x y h => by
  rcases x with _ | _ <;> rcases y with _ | _ <;> simp only [r28_Same_l0_x] at h <;> exact inj_⟩
noncomputable def r28_Same_l0 (a : List Finger) (b : List Finger) (i : Int) : Option (Unit ⊕ Unit) := asks (fun γ => (lim F pr).loop [0, 1, 5] 0 b70_0 ⟨.lit 84 false (List.map eFinger a) :: .lit 84 false (List.map eFinger b) :: bd 3 (vI i :: bd 20 []), []⟩) r28_Same_l0_x
noncomputable def r28_Same_l0_b (a : List Finger) (b : List Finger) (i : Int) : Option (Unit ⊕ Unit) :=
  bif Ops.std.ilt i (xlen eFinger a) then
    (xget eFinger a i).bind fun x =>
    (xget eFinger b i).bind fun x1 =>
    bif Ops.std.ieq x.bit x1.bit then
      bif Ops.std.ieq x.peer.id x1.peer.id then
        bif Ops.std.ieq x.peer.addr x1.peer.addr then r28_Same_l0 a b (Ops.std.iadd .i64 i 1) else
        some (.inl ())
      else
        some (.inl ())
    else
      some (.inl ())
  else
    some (.inr ())
theorem r28_Same_l0_r {a b i r} (h : r28_Same_l0_b a b i = some r) : r28_Same_l0 a b i = some r := by
  unfold r28_Same_l0_b at h
  refine asks_of fun γ => ?_
  rcases cond_some h with ⟨h1, h⟩ | ⟨h1, h⟩
  obtain ⟨x, h2, h⟩ := bind_ask h
  obtain ⟨x1, h3, h⟩ := bind_ask h
  rcases cond_some h with ⟨h4, h⟩ | ⟨h4, h⟩
  rcases cond_some h with ⟨h5, h⟩ | ⟨h5, h⟩
  rcases cond_some h with ⟨h6, h⟩ | ⟨h6, h⟩
  replace h := asks_some h (gam []); obtain ⟨γ', h0⟩ := h; refine ⟨γ', round_lim ?_⟩; rotate_left
  cases h; refine ⟨gam [], round_lim ?_⟩; rotate_left
  cases h; refine ⟨gam [], round_lim ?_⟩; rotate_left
  cases h; refine ⟨gam [], round_lim ?_⟩; rotate_left
  cases h; refine ⟨gam [], round_lim ?_⟩; rotate_left
  all_goals (dsimp only [r28_Same_l0_x] at *; show roundAs IF_ _ _ b70_0 b70_0F _ = _; generalize b70_0 = c0 at *; exact fin_)
noncomputable def r28_Same_b (a : List Finger) (b : List Finger) : Option (Bool) :=
  bif Ops.std.ieq (xlen eFinger a) (xlen eFinger b) then
    (r28_Same_l0 a b 0).bind fun r => match r with
      | .inl () =>
        some false
      | .inr () =>
        some true
  else
    some false
theorem r28_Same_r {a b r} (h : r28_Same_b a b = some r) : r28_Same a b = some r := by
  unfold r28_Same_b at h
  refine ask_of ?_
  rcases cond_some h with ⟨h1, h⟩ | ⟨h1, h⟩
  obtain ⟨r2, γ1, h2, h⟩ := bind_asks h (gam [])
  rcases r2 with _ | _
  cases h; refine call_lim rfl ?_; rotate_left
  cases h; refine call_lim rfl ?_; rotate_left
  cases h; refine call_lim rfl ?_; rotate_left
  all_goals (dsimp only [R1, r28_Same_l0_x] at *; show runFn IF_ (g70F b70_0) _ _ = _; generalize b70_0 = c0 at *; exact fin_)
noncomputable def r08_Pairs_l0_x (γ : Nat → Nat) : Unit ⊕ Unit → X × St
  | .inl () => (.ret, ⟨bd 4 (vF false :: bd 21 []), []⟩)
  | .inr () => (.brk 0, ⟨bd 26 [], []⟩)
instance : InjS r08_Pairs_l0_x := ⟨fun γ γ' x y h => by
  rcases x with _ | _ <;> rcases y with _ | _ <;> simp only [r08_Pairs_l0_x] at h <;> exact inj_⟩
noncomputable def r08_Pairs_l0 (a : List Pair) (b : List Pair) (i : Int) : Option (Unit ⊕ Unit) := asks (fun γ => (lim F pr).loop [0, 1, 5] 0 b71_0 ⟨.lit 78 false (List.map ePair a) :: .lit 78 false (List.map ePair b) :: bd 3 (vI i :: bd 20 []), []⟩) r08_Pairs_l0_x
noncomputable def r08_Pairs_l0_b (a : List Pair) (b : List Pair) (i : Int) : Option (Unit ⊕ Unit) :=
  bif Ops.std.ilt i (xlen ePair a) then
    (xget ePair a i).bind fun x =>
    (xget ePair b i).bind fun x1 =>
    bif Ops.std.seq x.key x1.key then
      bif Ops.std.seq x.val x1.val then r08_Pairs_l0 a b (Ops.std.iadd .i64 i 1) else
      some (.inl ())
    else
      some (.inl ())
  else
    some (.inr ())
theorem r08_Pairs_l0_r {a b i r} (h : r08_Pairs_l0_b a b i = some r) : r08_Pairs_l0 a b i = some r := by
  unfold r08_Pairs_l0_b at h
  refine asks_of fun γ => ?_
  rcases cond_some h with ⟨h1, h⟩ | ⟨h1, h⟩
  obtain ⟨x, h2, h⟩ := bind_ask h
  obtain ⟨x1, h3, h⟩ := bind_ask h
  rcases cond_some h with ⟨h4, h⟩ | ⟨h4, h⟩
  rcases cond_some h with ⟨h5, h⟩ | ⟨h5, h⟩
  replace h := asks_some h (gam []); obtain ⟨γ', h0⟩ := h; refine ⟨γ', round_lim ?_⟩; rotate_left
  cases h; refine ⟨gam [], round_lim ?_⟩; rotate_left
  cases h; refine ⟨gam [], round_lim ?_⟩; rotate_left
  cases h; refine ⟨gam [], round_lim ?_⟩; rotate_left
  all_goals (dsimp only [r08_Pairs_l0_x] at *; show roundAs IF_ _ _ b71_0 b71_0F _ = _; generalize b71_0 = c0 at *; exact fin_)
noncomputable def r08_Pairs_b (a : List Pair) (b : List Pair) : Option (Bool) :=
  bif Ops.std.ieq (xlen ePair a) (xlen ePair b) then
    (r08_Pairs_l0 a b 0).bind fun r => match r with
      | .inl () =>
        some false
      | .inr () =>
        some true
  else
    some false
theorem r08_Pairs_r {a b r} (h : r08_Pairs_b a b = some r) : r08_Pairs a b = some r := by
  unfold r08_Pairs_b at h
  refine ask_of ?_
  rcases cond_some h with ⟨h1, h⟩ | ⟨h1, h⟩
  obtain ⟨r2, γ1, h2, h⟩ := bind_asks h (gam [])
  rcases r2 with _ | _
  cases h; refine call_lim rfl ?_; rotate_left
  cases h; refine call_lim rfl ?_; rotate_left
  cases h; refine call_lim rfl ?_; rotate_left
  all_goals (dsimp only [R1, r08_Pairs_l0_x] at *; show runFn IF_ (g71F b71_0) _ _ = _; generalize b71_0 = c0 at *; exact fin_)
noncomputable def r30_Pends_l0_x (γ : Nat → Nat) : Unit ⊕ Unit → X × St
  | .inl () => (.ret, ⟨bd 4 (vF false :: bd 21 []), []⟩)
  | .inr () => (.brk 0, ⟨bd 26 [], []⟩)
instance : InjS r30_Pends_l0_x := ⟨fun γ γ' x y h => by
  rcases x with _ | _ <;> rcases y with _ | _ <;> simp only [r30_Pends_l0_x] at h <;> exact inj_⟩
noncomputable def r30_Pends_l0 (a : List Pend) (b : List Pend) (i : Int) : Option (Unit ⊕ Unit) := asks (fun γ => (lim F pr).loop [0, 1, 5] 0 b72_0 ⟨.lit 88 false (List.map ePend a) :: .lit 88 false (List.map ePend b) :: bd 3 (vI i :: bd 20 []), []⟩) r30_Pends_l0_x
noncomputable def r30_Pends_l0_b (a : List Pend) (b : List Pend) (i : Int) : Option (Unit ⊕ Unit) :=
  bif Ops.std.ilt i (xlen ePend a) then
    (xget ePend a i).bind fun x =>
    (xget ePend b i).bind fun x1 =>
    bif Ops.std.ieq x.rid x1.rid then
      bif Ops.std.ieq x.kind x1.kind then
        bif Ops.std.ieq x.why x1.why then
          bif Ops.std.ieq x.job x1.job then
            bif Ops.std.ieq x.to_.id x1.to_.id then
              bif Ops.std.ieq x.to_.addr x1.to_.addr then
                bif Ops.std.ieq x.due x1.due then r30_Pends_l0 a b (Ops.std.iadd .i64 i 1) else
                some (.inl ())
              else
                some (.inl ())
            else
              some (.inl ())
          else
            some (.inl ())
        else
          some (.inl ())
      else
        some (.inl ())
    else
      some (.inl ())
  else
    some (.inr ())
theorem r30_Pends_l0_r {a b i r} (h : r30_Pends_l0_b a b i = some r) : r30_Pends_l0 a b i = some r := by
  unfold r30_Pends_l0_b at h
  refine asks_of fun γ => ?_
  rcases cond_some h with ⟨h1, h⟩ | ⟨h1, h⟩
  obtain ⟨x, h2, h⟩ := bind_ask h
  obtain ⟨x1, h3, h⟩ := bind_ask h
  rcases cond_some h with ⟨h4, h⟩ | ⟨h4, h⟩
  rcases cond_some h with ⟨h5, h⟩ | ⟨h5, h⟩
  rcases cond_some h with ⟨h6, h⟩ | ⟨h6, h⟩
  rcases cond_some h with ⟨h7, h⟩ | ⟨h7, h⟩
  rcases cond_some h with ⟨h8, h⟩ | ⟨h8, h⟩
  rcases cond_some h with ⟨h9, h⟩ | ⟨h9, h⟩
  rcases cond_some h with ⟨h10, h⟩ | ⟨h10, h⟩
  replace h := asks_some h (gam []); obtain ⟨γ', h0⟩ := h; refine ⟨γ', round_lim ?_⟩; rotate_left
  cases h; refine ⟨gam [], round_lim ?_⟩; rotate_left
  cases h; refine ⟨gam [], round_lim ?_⟩; rotate_left
  cases h; refine ⟨gam [], round_lim ?_⟩; rotate_left
  cases h; refine ⟨gam [], round_lim ?_⟩; rotate_left
  cases h; refine ⟨gam [], round_lim ?_⟩; rotate_left
  cases h; refine ⟨gam [], round_lim ?_⟩; rotate_left
  cases h; refine ⟨gam [], round_lim ?_⟩; rotate_left
  cases h; refine ⟨gam [], round_lim ?_⟩; rotate_left
  all_goals (dsimp only [r30_Pends_l0_x] at *; show roundAs IF_ _ _ b72_0 b72_0F _ = _; generalize b72_0 = c0 at *; exact fin_)
noncomputable def r30_Pends_b (a : List Pend) (b : List Pend) : Option (Bool) :=
  bif Ops.std.ieq (xlen ePend a) (xlen ePend b) then
    (r30_Pends_l0 a b 0).bind fun r => match r with
      | .inl () =>
        some false
      | .inr () =>
        some true
  else
    some false
theorem r30_Pends_r {a b r} (h : r30_Pends_b a b = some r) : r30_Pends a b = some r := by
  unfold r30_Pends_b at h
  refine ask_of ?_
  rcases cond_some h with ⟨h1, h⟩ | ⟨h1, h⟩
  obtain ⟨r2, γ1, h2, h⟩ := bind_asks h (gam [])
  rcases r2 with _ | _
  cases h; refine call_lim rfl ?_; rotate_left
  cases h; refine call_lim rfl ?_; rotate_left
  cases h; refine call_lim rfl ?_; rotate_left
  all_goals (dsimp only [R1, r30_Pends_l0_x] at *; show runFn IF_ (g72F b72_0) _ _ = _; generalize b72_0 = c0 at *; exact fin_)
noncomputable def r30_jobs_s2_x (a : Node) (b : Node) (γ : Nat → Nat) : Bool → X × St
  | a0 => (.ret, ⟨bd 4 (vF a0 :: bd 54 []), [.box 34 (cNode a), .box 34 (cNode b)]⟩)
instance {a b} : InjS (r30_jobs_s2_x a b) := ⟨fun γ γ' x y h => by
  rcases x with a0 <;> rcases y with a0' <;> simp only [r30_jobs_s2_x] at h <;> exact inj_⟩
noncomputable def r30_jobs_s2 (a : Node) (b : Node) : Option (Bool) := asks (fun γ => (lim F pr).seg [4] b73_2 ⟨bd 2 (.bptr 0 0 :: .bptr 1 0 :: bd 55 []), [.box 34 (cNode a), .box 34 (cNode b)]⟩) (r30_jobs_s2_x a b)
noncomputable def r30_jobs_l0_x (a : Node) (b : Node) (γ : Nat → Nat) : Unit ⊕ Unit → X × St
  | .inl () => (.ret, ⟨bd 4 (vF false :: bd 54 []), [.box 34 (cNode a), .box 34 (cNode b)]⟩)
  | .inr () => (.brk 0, ⟨bd 2 (.bptr 0 0 :: .bptr 1 0 :: bd 55 []), [.box 34 (cNode a), .box 34 (cNode b)]⟩)
instance {a b} : InjS (r30_jobs_l0_x a b) := ⟨fun γ γ' x y h => by
  rcases x with _ | _ <;> rcases y with _ | _ <;> simp only [r30_jobs_l0_x] at h <;> exact inj_⟩
noncomputable def r30_jobs_l0 (a : Node) (b : Node) (i : Int) : Option (Unit ⊕ Unit) := asks (fun γ => (lim F pr).loop [5, 2, 3] 2 b73_0 ⟨bd 2 (.bptr 0 0 :: .bptr 1 0 :: bd 1 (vI i :: bd 53 [])), [.box 34 (cNode a), .box 34 (cNode b)]⟩) (r30_jobs_l0_x a b)
noncomputable def r30_jobs_l1_x (a : Node) (b : Node) (γ : Nat → Nat) : Unit ⊕ Unit → X × St
  | .inl () => (.ret, ⟨bd 4 (vF false :: bd 54 []), [.box 34 (cNode a), .box 34 (cNode b)]⟩)
  | .inr () => (.brk 2, ⟨bd 59 [], [.box 34 (cNode a), .box 34 (cNode b)]⟩)
instance {a b} : InjS (r30_jobs_l1_x a b) := ⟨fun γ γ' x y h => by
  rcases x with _ | _ <;> rcases y with _ | _ <;> simp only [r30_jobs_l1_x] at h <;> exact inj_⟩
noncomputable def r30_jobs_l1 (a : Node) (b : Node) (i : Int) : Option (Unit ⊕ Unit) := asks (fun γ => (lim F pr).loop [2, 3, 6] 2 b73_1 ⟨bd 2 (.bptr 0 0 :: .bptr 1 0 :: bd 2 (vI i :: bd 52 [])), [.box 34 (cNode a), .box 34 (cNode b)]⟩) (r30_jobs_l1_x a b)
noncomputable def r30_jobs_s2_b (a : Node) (b : Node) : Option (Bool) :=
  (r30_jobs_l0 a b 0).bind fun r => match r with
    | .inl () =>
      some false
    | .inr () =>
      (r30_jobs_l1 a b 0).bind fun r => match r with
        | .inl () =>
          some false
        | .inr () =>
          some true
theorem r30_jobs_s2_r {a b r} (h : r30_jobs_s2_b a b = some r) : r30_jobs_s2 a b = some r := by
  unfold r30_jobs_s2_b at h
  refine asks_of fun γ => ?_
  obtain ⟨r1, γ1, h1, h⟩ := bind_asks h (gam [])
  rcases r1 with _ | _
  cases h; refine ⟨gam [], seg_lim ?_⟩; rotate_left
  obtain ⟨r2, γ2, h2, h⟩ := bind_asks h (gam [])
  rcases r2 with _ | _
  cases h; refine ⟨gam [], seg_lim ?_⟩; rotate_left
  cases h; refine ⟨gam [], seg_lim ?_⟩; rotate_left
  all_goals (dsimp only [r30_jobs_l0_x, r30_jobs_l1_x, r30_jobs_s2_x] at *; show Ifc.apart IF_ _ (b73_2F b73_0 b73_1) _ = _; generalize b73_0 = c0, b73_1 = c1 at *; exact fin_)
noncomputable def r30_jobs_l0_b (a : Node) (b : Node) (i : Int) : Option (Unit ⊕ Unit) :=
  bif Ops.std.ilt i (xlen eJob a.jobs) then
    (xget eJob a.jobs i).bind fun x =>
    (xget eJob b.jobs i).bind fun x1 =>
    bif Ops.std.ieq x.id x1.id then
      bif Ops.std.ieq x.kind x1.kind then
        bif Ops.std.ieq x.bit x1.bit then
          bif Ops.std.seq x.key x1.key then
            bif Ops.std.seq x.val x1.val then
              bif Ops.std.ieq x.target x1.target then
                bif Ops.std.ieq x.via.id x1.via.id then
                  bif Ops.std.ieq x.via.addr x1.via.addr then
                    bif Ops.std.ieq x.at_.id x1.at_.id then
                      bif Ops.std.ieq x.at_.addr x1.at_.addr then
                        bif Ops.std.beq x.doing x1.doing then
                          bif Ops.std.ieq x.hops x1.hops then
                            bif Ops.std.ieq x.tries x1.tries then
                              bif Ops.std.ieq x.due x1.due then r30_jobs_l0 a b (Ops.std.iadd .i64 i 1) else
                              some (.inl ())
                            else
                              some (.inl ())
                          else
                            some (.inl ())
                        else
                          some (.inl ())
                      else
                        some (.inl ())
                    else
                      some (.inl ())
                  else
                    some (.inl ())
                else
                  some (.inl ())
              else
                some (.inl ())
            else
              some (.inl ())
          else
            some (.inl ())
        else
          some (.inl ())
      else
        some (.inl ())
    else
      some (.inl ())
  else
    some (.inr ())
theorem r30_jobs_l0_r {a b i r} (h : r30_jobs_l0_b a b i = some r) : r30_jobs_l0 a b i = some r := by
  unfold r30_jobs_l0_b at h
  refine asks_of fun γ => ?_
  rcases cond_some h with ⟨h1, h⟩ | ⟨h1, h⟩
  obtain ⟨x, h2, h⟩ := bind_ask h
  obtain ⟨x1, h3, h⟩ := bind_ask h
  rcases cond_some h with ⟨h4, h⟩ | ⟨h4, h⟩
  rcases cond_some h with ⟨h5, h⟩ | ⟨h5, h⟩
  rcases cond_some h with ⟨h6, h⟩ | ⟨h6, h⟩
  rcases cond_some h with ⟨h7, h⟩ | ⟨h7, h⟩
  rcases cond_some h with ⟨h8, h⟩ | ⟨h8, h⟩
  rcases cond_some h with ⟨h9, h⟩ | ⟨h9, h⟩
  rcases cond_some h with ⟨h10, h⟩ | ⟨h10, h⟩
  rcases cond_some h with ⟨h11, h⟩ | ⟨h11, h⟩
  rcases cond_some h with ⟨h12, h⟩ | ⟨h12, h⟩
  rcases cond_some h with ⟨h13, h⟩ | ⟨h13, h⟩
  rcases cond_some h with ⟨h14, h⟩ | ⟨h14, h⟩
  rcases cond_some h with ⟨h15, h⟩ | ⟨h15, h⟩
  rcases cond_some h with ⟨h16, h⟩ | ⟨h16, h⟩
  rcases cond_some h with ⟨h17, h⟩ | ⟨h17, h⟩
  replace h := asks_some h (gam []); obtain ⟨γ', h0⟩ := h; refine ⟨γ', round_lim ?_⟩; rotate_left
  cases h; refine ⟨gam [], round_lim ?_⟩; rotate_left
  cases h; refine ⟨gam [], round_lim ?_⟩; rotate_left
  cases h; refine ⟨gam [], round_lim ?_⟩; rotate_left
  cases h; refine ⟨gam [], round_lim ?_⟩; rotate_left
  cases h; refine ⟨gam [], round_lim ?_⟩; rotate_left
  cases h; refine ⟨gam [], round_lim ?_⟩; rotate_left
  cases h; refine ⟨gam [], round_lim ?_⟩; rotate_left
  cases h; refine ⟨gam [], round_lim ?_⟩; rotate_left
  cases h; refine ⟨gam [], round_lim ?_⟩; rotate_left
  cases h; refine ⟨gam [], round_lim ?_⟩; rotate_left
  cases h; refine ⟨gam [], round_lim ?_⟩; rotate_left
  cases h; refine ⟨gam [], round_lim ?_⟩; rotate_left
  cases h; refine ⟨gam [], round_lim ?_⟩; rotate_left
  cases h; refine ⟨gam [], round_lim ?_⟩; rotate_left
  cases h; refine ⟨gam [], round_lim ?_⟩; rotate_left
  all_goals (dsimp only [r30_jobs_l0_x] at *; show roundAs IF_ _ _ b73_0 b73_0F _ = _; generalize b73_0 = c0 at *; exact fin_)
noncomputable def r30_jobs_l1_b (a : Node) (b : Node) (i : Int) : Option (Unit ⊕ Unit) :=
  bif Ops.std.ilt i (xlen eResult a.results) then
    (xget eResult a.results i).bind fun x =>
    (xget eResult b.results i).bind fun x1 =>
    bif Ops.std.ieq x.job x1.job then
      bif Ops.std.ieq x.kind x1.kind then
        bif Ops.std.seq x.key x1.key then
          bif Ops.std.seq x.val x1.val then
            bif Ops.std.beq x.has x1.has then
              bif Ops.std.ieq x.err x1.err then r30_jobs_l1 a b (Ops.std.iadd .i64 i 1) else
              some (.inl ())
            else
              some (.inl ())
          else
            some (.inl ())
        else
          some (.inl ())
      else
        some (.inl ())
    else
      some (.inl ())
  else
    some (.inr ())
theorem r30_jobs_l1_r {a b i r} (h : r30_jobs_l1_b a b i = some r) : r30_jobs_l1 a b i = some r := by
  unfold r30_jobs_l1_b at h
  refine asks_of fun γ => ?_
  rcases cond_some h with ⟨h1, h⟩ | ⟨h1, h⟩
  obtain ⟨x, h2, h⟩ := bind_ask h
  obtain ⟨x1, h3, h⟩ := bind_ask h
  rcases cond_some h with ⟨h4, h⟩ | ⟨h4, h⟩
  rcases cond_some h with ⟨h5, h⟩ | ⟨h5, h⟩
  rcases cond_some h with ⟨h6, h⟩ | ⟨h6, h⟩
  rcases cond_some h with ⟨h7, h⟩ | ⟨h7, h⟩
  rcases cond_some h with ⟨h8, h⟩ | ⟨h8, h⟩
  rcases cond_some h with ⟨h9, h⟩ | ⟨h9, h⟩
  replace h := asks_some h (gam []); obtain ⟨γ', h0⟩ := h; refine ⟨γ', round_lim ?_⟩; rotate_left
  cases h; refine ⟨gam [], round_lim ?_⟩; rotate_left
  cases h; refine ⟨gam [], round_lim ?_⟩; rotate_left
  cases h; refine ⟨gam [], round_lim ?_⟩; rotate_left
  cases h; refine ⟨gam [], round_lim ?_⟩; rotate_left
  cases h; refine ⟨gam [], round_lim ?_⟩; rotate_left
  cases h; refine ⟨gam [], round_lim ?_⟩; rotate_left
  cases h; refine ⟨gam [], round_lim ?_⟩; rotate_left
  all_goals (dsimp only [r30_jobs_l1_x] at *; show roundAs IF_ _ _ b73_1 b73_1F _ = _; generalize b73_1 = c0 at *; exact fin_)
noncomputable def r30_jobs_b (a : Node) (b : Node) : Option (Bool) :=
  bif Ops.std.ieq (xlen eJob a.jobs) (xlen eJob b.jobs) then
    bif Ops.std.ieq (xlen eResult a.results) (xlen eResult b.results) then r30_jobs_s2 a b else
    some false
  else
    some false
theorem r30_jobs_r {a b r} (h : r30_jobs_b a b = some r) : r30_jobs a b = some r := by
  unfold r30_jobs_b at h
  refine ask_of ?_
  rcases cond_some h with ⟨h1, h⟩ | ⟨h1, h⟩
  rcases cond_some h with ⟨h2, h⟩ | ⟨h2, h⟩
  obtain ⟨γ1, h3⟩ := asks_some h (gam [])
  rcases r with t4
  refine call_lim rfl ?_; rotate_left
  cases h; refine call_lim rfl ?_; rotate_left
  cases h; refine call_lim rfl ?_; rotate_left
  all_goals (dsimp only [R1, r30_jobs_s2_x] at *; show runFn IF_ (g73F b73_2) _ _ = _; generalize b73_2 = c0 at *; exact fin_)
noncomputable def peers_Firm_b (l : List Entry) : Option ((List Peer)) :=
  peers_some_1 l
theorem peers_Firm_r {l r} (h : peers_Firm_b l = some r) : peers_Firm l = some r := by
  unfold peers_Firm_b at h
  refine ask_of ?_
  have h1 := ask_some h
  rcases r with res
  refine call_lim rfl ?_; rotate_left
  all_goals (dsimp only [K1] at *; show runFn IF_ g76F _ _ = _; exact fin_)
noncomputable def r27_Firm_l0_x (γ : Nat → Nat) : (List Peer) → X × St
  | a0 => (.brk 0, ⟨bd 3 (.sl 1 ((γ 1)) :: bd 22 []), [.row 25 (γ 0) false (List.map ePeer []), .row 25 (γ 1) false (List.map ePeer a0)]⟩)
instance : InjS r27_Firm_l0_x := ⟨fun γ γ' x y h => by
  rcases x with a0 <;> rcases y with a0' <;> simp only [r27_Firm_l0_x] at h <;> exact inj_⟩
noncomputable def r27_Firm_l0 (l : List Entry) (i : Int) (r1 : List Peer) : Option ((List Peer)) := asks (fun γ => (lim F pr).loop [0, 4, 3] 2 b78_0 ⟨.lit 81 false (List.map eEntry l) :: bd 2 (.sl 1 ((γ 1)) :: vI i :: bd 21 []), [.row 25 (γ 0) false (List.map ePeer []), .row 25 (γ 1) false (List.map ePeer r1)]⟩) r27_Firm_l0_x
noncomputable def r27_Firm_l0_b (l : List Entry) (i : Int) (r1 : List Peer) : Option ((List Peer)) :=
  bif Ops.std.ilt i (xlen eEntry l) then
    (xget eEntry l i).bind fun x =>
    bif Ops.std.ilt x.misses 1 then
      bif xroom ePeer 16 r1 [x.peer] then r27_Firm_l0 l (Ops.std.iadd .i64 i 1) (r1 ++ [x.peer]) else
      none
    else
      r27_Firm_l0 l (Ops.std.iadd .i64 i 1) r1
  else
    some r1
theorem r27_Firm_l0_r {l i r1 r} (h : r27_Firm_l0_b l i r1 = some r) : r27_Firm_l0 l i r1 = some r := by
  unfold r27_Firm_l0_b at h
  refine asks_of fun γ => ?_
  rcases cond_some h with ⟨h1, h⟩ | ⟨h1, h⟩
  obtain ⟨x, h2, h⟩ := bind_ask h
  rcases cond_some h with ⟨h3, h⟩ | ⟨h3, h⟩
  obtain ⟨h4, h⟩ := need_some h
  replace h := asks_some h (gam [(γ 0), ((γ 1) + 1)]); obtain ⟨γ', h0⟩ := h; refine ⟨γ', round_lim ?_⟩; rotate_left
  replace h := asks_some h (gam [(γ 0), (γ 1)]); obtain ⟨γ', h0⟩ := h; refine ⟨γ', round_lim ?_⟩; rotate_left
  cases h; refine ⟨gam [(γ 0), (γ 1)], round_lim ?_⟩; rotate_left
  all_goals (dsimp only [r27_Firm_l0_x] at *; show roundAs IF_ _ _ b78_0 b78_0F _ = _; generalize b78_0 = c0 at *; exact fin_)
noncomputable def r27_Firm_b (l : List Entry) : Option ((List Peer)) :=
  r27_Firm_l0 l 0 []
theorem r27_Firm_r {l r} (h : r27_Firm_b l = some r) : r27_Firm l = some r := by
  unfold r27_Firm_b at h
  refine ask_of ?_
  obtain ⟨γ1, h1⟩ := asks_some h (gam [0, 0])
  rcases r with r1
  refine call_lim rfl ?_; rotate_left
  all_goals (dsimp only [K1, r27_Firm_l0_x] at *; show runFn IF_ (g78F b78_0) _ _ = _; generalize b78_0 = c0 at *; exact fin_)
noncomputable def pend_Ask_b (n : Node) (to_ : Peer) (m : Msg) (why : Int) (job : Int) : Option ((Node × (List Out))) :=
  (pend_Copy n).bind fun ⟨res_me_id, res_me_addr, res_clock, res_joined, res_pred, res_list, res_fingers, res_store, res_pends, res_jobs, res_results, res_rid, res_jobID, res_nextBit⟩ =>
  bif Ops.std.ile 64 (xlen ePend res_pends) then
    some ((⟨(⟨res_me_id, res_me_addr⟩ : Peer), res_clock, res_joined, res_pred, res_list, res_fingers, res_store, res_pends, res_jobs, res_results, res_rid, res_jobID, res_nextBit⟩ : Node), [])
  else
    (msg_Copy m).bind fun res =>
    (pend_Now (⟨(⟨res_me_id, res_me_addr⟩ : Peer), res_clock, res_joined, res_pred, res_list, res_fingers, res_store, res_pends, res_jobs, res_results, Ops.std.iadd .u32 res_rid 1, res_jobID, res_nextBit⟩ : Node)).bind fun res1 =>
    bif xroom ePend 56 res_pends [(⟨Ops.std.iadd .u32 res_rid 1, res.kind, why, job, to_, Ops.std.iadd .i64 res1 8⟩ : Pend)] then
      some ((⟨(⟨res_me_id, res_me_addr⟩ : Peer), res_clock, res_joined, res_pred, res_list, res_fingers, res_store, (res_pends ++ [(⟨Ops.std.iadd .u32 res_rid 1, res.kind, why, job, to_, Ops.std.iadd .i64 res1 8⟩ : Pend)]), res_jobs, res_results, Ops.std.iadd .u32 res_rid 1, res_jobID, res_nextBit⟩ : Node), [(⟨to_, (⟨res.kind, Ops.std.iadd .u32 res_rid 1, res.code, res.has, res.id, res.key, res.val, res.peer, res.peers, res.pairs⟩ : Msg)⟩ : Out)])
    else
      none
theorem pend_Ask_r {n to_ m why job r} (h : pend_Ask_b n to_ m why job = some r) : pend_Ask n to_ m why job = some r := by
  unfold pend_Ask_b at h
  refine ask_of ?_
  obtain ⟨r1, h1, h⟩ := bind_ask h
  rcases r1 with ⟨res_me_id, res_me_addr, res_clock, res_joined, res_pred, res_list, res_fingers, res_store, res_pends, res_jobs, res_results, res_rid, res_jobID, res_nextBit⟩
  rcases cond_some h with ⟨h2, h⟩ | ⟨h2, h⟩
  cases h; refine call_lim rfl ?_; rotate_left
  obtain ⟨res, h3, h⟩ := bind_ask h
  obtain ⟨res1, h4, h⟩ := bind_ask h
  obtain ⟨h5, h⟩ := need_some h
  cases h; refine call_lim rfl ?_; rotate_left
  all_goals (dsimp only [R1, R2, pend_Copy_e] at *; show runFn IF_ g80F _ _ = _; exact fin_)
noncomputable def utf_Valid_l0_x (s : ByteArray) (γ : Nat → Nat) : Int ⊕ Int → X × St
  | .inl a0 => (.ret, ⟨bd 2 (vF false :: bd 12 []), [.it s a0]⟩)
  | .inr b0 => (.brk 0, ⟨bd 15 [], [.it s b0]⟩)
instance {s} : InjS (utf_Valid_l0_x s) := ⟨fun γ γ' x y h => by
  rcases x with a0 | b0 <;> rcases y with a0' | b0' <;> simp only [utf_Valid_l0_x] at h <;> exact inj_⟩
noncomputable def utf_Valid_l0 (s : ByteArray) (at0 : Int) : Option (Int ⊕ Int) := asks (fun γ => (lim F pr).loop [6, 0] 1 b83_0 ⟨vT s :: bd 5 (.bptr 0 0 :: bd 8 []), [.it s at0]⟩) (utf_Valid_l0_x s)
noncomputable def utf_Valid_l0_b (s : ByteArray) (at0 : Int) : Option (Int ⊕ Int) :=
  xopt (xsdec s at0) (fun ⟨c, nx⟩ =>
    (utf_stray s at0 c).bind fun res =>
    bif res then some (.inl nx) else
    utf_Valid_l0 s nx)
    (some (.inr at0))
theorem utf_Valid_l0_r {s at0 r} (h : utf_Valid_l0_b s at0 = some r) : utf_Valid_l0 s at0 = some r := by
  unfold utf_Valid_l0_b at h
  refine asks_of fun γ => ?_
  rcases xopt_some h with ⟨⟨c, nx⟩, h1, h⟩ | ⟨h1, h⟩
  obtain ⟨res, h2, h⟩ := bind_ask h
  rcases cond_some h with ⟨h3, h⟩ | ⟨h3, h⟩
  cases h; refine ⟨gam [], round_lim ?_⟩; rotate_left
  replace h := asks_some h (gam []); obtain ⟨γ', h0⟩ := h; refine ⟨γ', round_lim ?_⟩; rotate_left
  cases h; refine ⟨gam [], round_lim ?_⟩; rotate_left
  all_goals (dsimp only [R1, utf_Valid_l0_x] at *; show roundAs IF_ _ _ b83_0 b83_0F _ = _; generalize b83_0 = c0 at *; exact fin_)
noncomputable def utf_Valid_b (s : ByteArray) : Option (Bool) :=
  (utf_Valid_l0 s 0).bind fun r => match r with
    | .inl at0 =>
      some false
    | .inr at0 =>
      some true
theorem utf_Valid_r {s r} (h : utf_Valid_b s = some r) : utf_Valid s = some r := by
  unfold utf_Valid_b at h
  refine ask_of ?_
  obtain ⟨r1, γ1, h1, h⟩ := bind_asks h (gam [])
  rcases r1 with at0 | at0
  cases h; refine call_lim rfl ?_; rotate_left
  cases h; refine call_lim rfl ?_; rotate_left
  all_goals (dsimp only [R1, utf_Valid_l0_x] at *; show runFn IF_ (g83F b83_0) _ _ = _; generalize b83_0 = c0 at *; exact fin_)
noncomputable def utf_Count_l0_x (s : ByteArray) (γ : Nat → Nat) : (Int × Int) → X × St
  | (a0, a1) => (.brk 0, ⟨bd 3 (vI a0 :: bd 7 []), [.it s a1]⟩)
instance {s} : InjS (utf_Count_l0_x s) := ⟨fun γ γ' x y h => by
  rcases x with ⟨a0, a1⟩ <;> rcases y with ⟨a0', a1'⟩ <;> simp only [utf_Count_l0_x] at h <;> exact inj_⟩
noncomputable def utf_Count_l0 (s : ByteArray) (n : Int) (at0 : Int) : Option ((Int × Int)) := asks (fun γ => (lim F pr).loop [5, 3] 1 b84_0 ⟨bd 3 (vI n :: bd 1 (.bptr 0 0 :: bd 5 [])), [.it s at0]⟩) (utf_Count_l0_x s)
noncomputable def utf_Count_l0_b (s : ByteArray) (n : Int) (at0 : Int) : Option ((Int × Int)) :=
  xopt (xsdec s at0) (fun ⟨c, nx⟩ =>
    utf_Count_l0 s (Ops.std.iadd .i64 n 1) nx)
    (some (n, at0))
theorem utf_Count_l0_r {s n at0 r} (h : utf_Count_l0_b s n at0 = some r) : utf_Count_l0 s n at0 = some r := by
  unfold utf_Count_l0_b at h
  refine asks_of fun γ => ?_
  rcases xopt_some h with ⟨⟨c, nx⟩, h1, h⟩ | ⟨h1, h⟩
  replace h := asks_some h (gam []); obtain ⟨γ', h0⟩ := h; refine ⟨γ', round_lim ?_⟩; rotate_left
  cases h; refine ⟨gam [], round_lim ?_⟩; rotate_left
  all_goals (dsimp only [utf_Count_l0_x] at *; show roundAs IF_ _ _ b84_0 b84_0F _ = _; generalize b84_0 = c0 at *; exact fin_)
noncomputable def utf_Count_b (s : ByteArray) : Option (Int) :=
  (utf_Count_l0 s 0 0).bind fun ⟨n, at0⟩ =>
  some n
theorem utf_Count_r {s r} (h : utf_Count_b s = some r) : utf_Count s = some r := by
  unfold utf_Count_b at h
  refine ask_of ?_
  obtain ⟨r1, γ1, h1, h⟩ := bind_asks h (gam [])
  rcases r1 with ⟨n, at0⟩
  cases h; refine call_lim rfl ?_; rotate_left
  all_goals (dsimp only [R1, utf_Count_l0_x] at *; show runFn IF_ (g84F b84_0) _ _ = _; generalize b84_0 = c0 at *; exact fin_)
end Go.Ab.Tryz
