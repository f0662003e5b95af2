/- Our texts for this statement, merged: what its theorem leads to. -/
import Derived.Test.YtjmmobicnfojeaaGreatDoorQServeKeeps4
namespace Go.Ab.Tryz
open Go Go.Ab Go.Proofs
set_option linter.unusedVariables false
set_option linter.unusedSimpArgs false
set_option maxRecDepth 10000
set_option maxHeartbeats 4000000
noncomputable def r29_place_l0_x (γ : Nat → Nat) : Int ⊕ Unit → X × St
  | .inl a0 => (.ret, ⟨bd 4 (vI a0 :: bd 15 []), []⟩)
  | .inr () => (.brk 0, ⟨bd 20 [], []⟩)
instance : InjS r29_place_l0_x := ⟨fun γ γ' x y h => by
  rcases x with a0 | _ <;> rcases y with a0' | _ <;> simp only [r29_place_l0_x] at h <;> exact inj_⟩
noncomputable def r29_place_l0 (l : List Pair) (key : ByteArray) (i : Int) : Option (Int ⊕ Unit) := asks (fun γ => (lim F pr).loop [0, 1, 5] 0 b139_0 ⟨.lit 78 false (List.map ePair l) :: vT key :: bd 3 (vI i :: bd 14 []), []⟩) r29_place_l0_x
noncomputable def r29_place_l0_b (l : List Pair) (key : ByteArray) (i : Int) : Option (Int ⊕ Unit) :=
  bif Ops.std.ilt i (xlen ePair l) then
    (xget ePair l i).bind fun x =>
    bif Ops.std.seq x.key key then some (.inl i) else
    r29_place_l0 l key (Ops.std.iadd .i64 i 1)
  else
    some (.inr ())
theorem r29_place_l0_r {l key i r} (h : r29_place_l0_b l key i = some r) : r29_place_l0 l key i = some r := by
  unfold r29_place_l0_b at h
  refine asks_of fun γ => ?_
  rcases cond_some h with ⟨h1, h⟩ | ⟨h1, h⟩
  obtain ⟨x, h2, h⟩ := bind_ask h
  rcases cond_some h with ⟨h3, h⟩ | ⟨h3, h⟩
  cases h; refine ⟨gam [], round_lim ?_⟩; rotate_left
  replace h := asks_some h (gam []); obtain ⟨γ', h0⟩ := h; refine ⟨γ', round_lim ?_⟩; rotate_left
  cases h; refine ⟨gam [], round_lim ?_⟩; rotate_left
  all_goals (dsimp only [r29_place_l0_x] at *; show roundAs IF_ _ _ b139_0 b139_0F _ = _; generalize b139_0 = c0 at *; exact fin_)
noncomputable def r29_place_b (l : List Pair) (key : ByteArray) : Option (Int) :=
  (r29_place_l0 l key 0).bind fun r => match r with
    | .inl t4 =>
      some t4
    | .inr () =>
      some (-1)
theorem r29_place_r {l key r} (h : r29_place_b l key = some r) : r29_place l key = some r := by
  unfold r29_place_b at h
  refine ask_of ?_
  obtain ⟨r1, γ1, h1, h⟩ := bind_asks h (gam [])
  rcases r1 with t4 | _
  cases h; refine call_lim rfl ?_; rotate_left
  cases h; refine call_lim rfl ?_; rotate_left
  all_goals (dsimp only [R1, r29_place_l0_x] at *; show runFn IF_ (g139F b139_0) _ _ = _; generalize b139_0 = c0 at *; exact fin_)
noncomputable def r08_Peers_l0_x (γ : Nat → Nat) : Unit ⊕ Unit → X × St
  | .inl () => (.ret, ⟨bd 4 (vF false :: bd 21 []), []⟩)
  | .inr () => (.brk 0, ⟨bd 26 [], []⟩)
instance : InjS r08_Peers_l0_x := ⟨fun γ γ' x y h => by
  rcases x with _ | _ <;> rcases y with _ | _ <;> simp only [r08_Peers_l0_x] at h <;> exact inj_⟩
noncomputable def r08_Peers_l0 (a : List Peer) (b : List Peer) (i : Int) : Option (Unit ⊕ Unit) := asks (fun γ => (lim F pr).loop [0, 1, 5] 0 b140_0 ⟨.lit 25 false (List.map ePeer a) :: .lit 25 false (List.map ePeer b) :: bd 3 (vI i :: bd 20 []), []⟩) r08_Peers_l0_x
noncomputable def r08_Peers_l0_b (a : List Peer) (b : List Peer) (i : Int) : Option (Unit ⊕ Unit) :=
  bif Ops.std.ilt i (xlen ePeer a) then
    (xget ePeer a i).bind fun x =>
    (xget ePeer b i).bind fun x1 =>
    bif Ops.std.ieq x.id x1.id then
      bif Ops.std.ieq x.addr x1.addr then r08_Peers_l0 a b (Ops.std.iadd .i64 i 1) else
      some (.inl ())
    else
      some (.inl ())
  else
    some (.inr ())
theorem r08_Peers_l0_r {a b i r} (h : r08_Peers_l0_b a b i = some r) : r08_Peers_l0 a b i = some r := by
  unfold r08_Peers_l0_b at h
  refine asks_of fun γ => ?_
  rcases cond_some h with ⟨h1, h⟩ | ⟨h1, h⟩
  obtain ⟨x, h2, h⟩ := bind_ask h
  obtain ⟨x1, h3, h⟩ := bind_ask h
  rcases cond_some h with ⟨h4, h⟩ | ⟨h4, h⟩
  rcases cond_some h with ⟨h5, h⟩ | ⟨h5, h⟩
  replace h := asks_some h (gam []); obtain ⟨γ', h0⟩ := h; refine ⟨γ', round_lim ?_⟩; rotate_left
  cases h; refine ⟨gam [], round_lim ?_⟩; rotate_left
  cases h; refine ⟨gam [], round_lim ?_⟩; rotate_left
  cases h; refine ⟨gam [], round_lim ?_⟩; rotate_left
  all_goals (dsimp only [r08_Peers_l0_x] at *; show roundAs IF_ _ _ b140_0 b140_0F _ = _; generalize b140_0 = c0 at *; exact fin_)
noncomputable def r08_Peers_b (a : List Peer) (b : List Peer) : Option (Bool) :=
  bif Ops.std.ieq (xlen ePeer a) (xlen ePeer b) then
    (r08_Peers_l0 a b 0).bind fun r => match r with
      | .inl () =>
        some false
      | .inr () =>
        some true
  else
    some false
theorem r08_Peers_r {a b r} (h : r08_Peers_b a b = some r) : r08_Peers a b = some r := by
  unfold r08_Peers_b at h
  refine ask_of ?_
  rcases cond_some h with ⟨h1, h⟩ | ⟨h1, h⟩
  obtain ⟨r2, γ1, h2, h⟩ := bind_asks h (gam [])
  rcases r2 with _ | _
  cases h; refine call_lim rfl ?_; rotate_left
  cases h; refine call_lim rfl ?_; rotate_left
  cases h; refine call_lim rfl ?_; rotate_left
  all_goals (dsimp only [R1, r08_Peers_l0_x] at *; show runFn IF_ (g140F b140_0) _ _ = _; generalize b140_0 = c0 at *; exact fin_)
noncomputable def peers_some_1_l0_x (γ : Nat → Nat) : (List Peer) → X × St
  | a0 => (.brk 0, ⟨bd 5 (.sl 1 ((γ 1)) :: bd 18 []), [.row 25 (γ 0) false (List.map ePeer []), .row 25 (γ 1) false (List.map ePeer a0)]⟩)
instance : InjS peers_some_1_l0_x := ⟨fun γ γ' x y h => by
  rcases x with a0 <;> rcases y with a0' <;> simp only [peers_some_1_l0_x] at h <;> exact inj_⟩
noncomputable def peers_some_1_l0 (l : List Entry) (t10 : Int) (r1 : List Peer) : Option ((List Peer)) := asks (fun γ => (lim F pr).loop [9, 8, 1, 10, 5] 2 b145_0 ⟨bd 1 (.fn 146 [] :: bd 3 (.sl 1 ((γ 1)) :: bd 2 (.lit 81 false (List.map eEntry l) :: vI (xlen eEntry l) :: vI t10 :: bd 13 []))), [.row 25 (γ 0) false (List.map ePeer []), .row 25 (γ 1) false (List.map ePeer r1)]⟩) peers_some_1_l0_x
noncomputable def peers_some_1_l0_b (l : List Entry) (t10 : Int) (r1 : List Peer) : Option ((List Peer)) :=
  bif Ops.std.ilt t10 (xlen eEntry l) then
    (xget eEntry l t10).bind fun x =>
    (peers_firm x).bind fun res =>
    bif res then
      bif xroom ePeer 16 r1 [x.peer] then peers_some_1_l0 l (Ops.std.iadd .i64 t10 1) (r1 ++ [x.peer]) else
      none
    else
      peers_some_1_l0 l (Ops.std.iadd .i64 t10 1) r1
  else
    some r1
theorem peers_some_1_l0_r {l t10 r1 r} (h : peers_some_1_l0_b l t10 r1 = some r) : peers_some_1_l0 l t10 r1 = some r := by
  unfold peers_some_1_l0_b at h
  refine asks_of fun γ => ?_
  rcases cond_some h with ⟨h1, h⟩ | ⟨h1, h⟩
  obtain ⟨x, h2, h⟩ := bind_ask h
  obtain ⟨res, h3, h⟩ := bind_ask h
  rcases cond_some h with ⟨h4, h⟩ | ⟨h4, h⟩
  obtain ⟨h5, h⟩ := need_some h
  replace h := asks_some h (gam [(γ 0), ((γ 1) + 1)]); obtain ⟨γ', h0⟩ := h; refine ⟨γ', round_lim ?_⟩; rotate_left
  replace h := asks_some h (gam [(γ 0), (γ 1)]); obtain ⟨γ', h0⟩ := h; refine ⟨γ', round_lim ?_⟩; rotate_left
  cases h; refine ⟨gam [(γ 0), (γ 1)], round_lim ?_⟩; rotate_left
  all_goals (dsimp only [R1, peers_some_1_l0_x] at *; show roundAs IF_ _ _ b145_0 b145_0F _ = _; generalize b145_0 = c0 at *; exact fin_)
noncomputable def peers_some_1_b (l : List Entry) : Option ((List Peer)) :=
  peers_some_1_l0 l 0 []
theorem peers_some_1_r {l r} (h : peers_some_1_b l = some r) : peers_some_1 l = some r := by
  unfold peers_some_1_b at h
  refine ask_of ?_
  obtain ⟨γ1, h1⟩ := asks_some h (gam [0, 0])
  rcases r with r1
  refine call_lim rfl ?_; rotate_left
  all_goals (dsimp only [K1, peers_some_1_l0_x] at *; show runFn IF_ (g145F b145_0) _ _ = _; generalize b145_0 = c0 at *; exact fin_)
noncomputable def r11_Less_l1_x (a : ByteArray) (b : ByteArray) (γ : Nat → Nat) : Bool ⊕ Unit → X × St
  | .inl a0 => (.ret, ⟨bd 4 (vF a0 :: bd 32 []), []⟩)
  | .inr () => (.brk 0, ⟨vT a :: vT b :: bd 35 [], []⟩)
instance {a b} : InjS (r11_Less_l1_x a b) := ⟨fun γ γ' x y h => by
  rcases x with a0 | _ <;> rcases y with a0' | _ <;> simp only [r11_Less_l1_x] at h <;> exact inj_⟩
noncomputable def r11_Less_l1 (a : ByteArray) (b : ByteArray) (i : Int) : Option (Bool ⊕ Unit) := asks (fun γ => (lim F pr).loop [5, 0, 1] 0 b147_1 ⟨vT a :: vT b :: bd 3 (vI i :: bd 31 []), []⟩) (r11_Less_l1_x a b)
noncomputable def r11_Less_s0_x (a : ByteArray) (b : ByteArray) (γ : Nat → Nat) : Int ⊕ Bool → X × St
  | .inl a0 => (.nor, ⟨vT a :: vT b :: bd 3 (vI a0 :: bd 31 []), []⟩)
  | .inr b0 => (.ret, ⟨bd 4 (vF b0 :: bd 32 []), []⟩)
instance {a b} : InjS (r11_Less_s0_x a b) := ⟨fun γ γ' x y h => by
  rcases x with a0 | b0 <;> rcases y with a0' | b0' <;> simp only [r11_Less_s0_x] at h <;> exact inj_⟩
noncomputable def r11_Less_s0 (a : ByteArray) (b : ByteArray) (i : Int) : Option (Int ⊕ Bool) := asks (fun γ => (lim F pr).seg [5, 0, 1] b147_0 ⟨vT a :: vT b :: bd 3 (vI i :: bd 31 []), []⟩) (r11_Less_s0_x a b)
noncomputable def r11_Less_l1_b (a : ByteArray) (b : ByteArray) (i : Int) : Option (Bool ⊕ Unit) :=
  bif Ops.std.ilt i (Ops.std.slen a) then
    bif Ops.std.ilt i (Ops.std.slen b) then
      (r11_Less_s0 a b i).bind fun r => match r with
        | .inl i1 =>
          r11_Less_l1 a b i1
        | .inr t4 =>
          some (.inl t4)
    else
      some (.inr ())
  else
    some (.inr ())
theorem r11_Less_l1_r {a b i r} (h : r11_Less_l1_b a b i = some r) : r11_Less_l1 a b i = some r := by
  unfold r11_Less_l1_b at h
  refine asks_of fun γ => ?_
  rcases cond_some h with ⟨h1, h⟩ | ⟨h1, h⟩
  rcases cond_some h with ⟨h2, h⟩ | ⟨h2, h⟩
  obtain ⟨r3, γ1, h3, h⟩ := bind_asks h (gam [])
  rcases r3 with i1 | t4
  replace h := asks_some h (gam []); obtain ⟨γ', h0⟩ := h; refine ⟨γ', round_lim ?_⟩; rotate_left
  cases h; refine ⟨gam [], round_lim ?_⟩; rotate_left
  cases h; refine ⟨gam [], round_lim ?_⟩; rotate_left
  cases h; refine ⟨gam [], round_lim ?_⟩; rotate_left
  all_goals (dsimp only [r11_Less_l1_x, r11_Less_s0_x] at *; show roundAs IF_ _ _ b147_1 (b147_1F b147_0) _ = _; generalize b147_1 = c0, b147_0 = c1 at *; exact fin_)
noncomputable def r11_Less_s0_b (a : ByteArray) (b : ByteArray) (i : Int) : Option (Int ⊕ Bool) :=
  (xsget a i).bind fun b1 =>
  (xsget b i).bind fun b2 =>
  bif Ops.std.ieq b1 b2 then some (.inl (Ops.std.iadd .i64 i 1)) else
  some (.inr (Ops.std.ilt b1 b2))
theorem r11_Less_s0_r {a b i r} (h : r11_Less_s0_b a b i = some r) : r11_Less_s0 a b i = some r := by
  unfold r11_Less_s0_b at h
  refine asks_of fun γ => ?_
  obtain ⟨b1, h1, h⟩ := bind_some h
  obtain ⟨b2, h2, h⟩ := bind_some h
  rcases cond_some h with ⟨h3, h⟩ | ⟨h3, h⟩
  cases h; refine ⟨gam [], seg_lim ?_⟩; rotate_left
  cases h; refine ⟨gam [], seg_lim ?_⟩; rotate_left
  all_goals (dsimp only [r11_Less_s0_x] at *; show Ifc.apart IF_ _ b147_0F _ = _; exact fin_)
noncomputable def r11_Less_b (a : ByteArray) (b : ByteArray) : Option (Bool) :=
  (r11_Less_l1 a b 0).bind fun r => match r with
    | .inl t4 =>
      some t4
    | .inr () =>
      some (Ops.std.ilt (Ops.std.slen a) (Ops.std.slen b))
theorem r11_Less_r {a b r} (h : r11_Less_b a b = some r) : r11_Less a b = some r := by
  unfold r11_Less_b at h
  refine ask_of ?_
  obtain ⟨r1, γ1, h1, h⟩ := bind_asks h (gam [])
  rcases r1 with t4 | _
  cases h; refine call_lim rfl ?_; rotate_left
  cases h; refine call_lim rfl ?_; rotate_left
  all_goals (dsimp only [R1, r11_Less_l1_x] at *; show runFn IF_ (g147F b147_1) _ _ = _; generalize b147_1 = c0 at *; exact fin_)
noncomputable def msg_Copy_b (m : Msg) : Option (Msg) :=
  bif xroom ePeer 16 [] m.peers then
    bif xroom ePair 32 [] m.pairs then some m else
    none
  else
    none
theorem msg_Copy_r {m r} (h : msg_Copy_b m = some r) : msg_Copy m = some r := by
  unfold msg_Copy_b at h
  refine ask_of ?_
  obtain ⟨h1, h⟩ := need_some h
  obtain ⟨h2, h⟩ := need_some h
  cases h; refine call_lim rfl ?_; rotate_left
  all_goals (dsimp only [R1] at *; show runFn IF_ g149F _ _ = _; exact fin_)
noncomputable def pend_Now_b (n : Node) : Option (Int) :=
  bif Ops.std.ilt n.clock 0 then some 0 else
  bif Ops.std.ilt 1099511627776 n.clock then some 0 else
  some n.clock
theorem pend_Now_r {n r} (h : pend_Now_b n = some r) : pend_Now n = some r := by
  unfold pend_Now_b at h
  refine ask_of ?_
  rcases cond_some h with ⟨h1, h⟩ | ⟨h1, h⟩
  cases h; refine call_lim rfl ?_; rotate_left
  rcases cond_some h with ⟨h2, h⟩ | ⟨h2, h⟩
  cases h; refine call_lim rfl ?_; rotate_left
  cases h; refine call_lim rfl ?_; rotate_left
  all_goals (dsimp only [R1] at *; show runFn IF_ g150F _ _ = _; exact fin_)
noncomputable def r30_Now_b (n : Node) : Option (Int) :=
  bif Ops.std.ilt 0 n.clock then
    bif Ops.std.ile n.clock 1099511627776 then some n.clock else
    some 0
  else
    some 0
theorem r30_Now_r {n r} (h : r30_Now_b n = some r) : r30_Now n = some r := by
  unfold r30_Now_b at h
  refine ask_of ?_
  rcases cond_some h with ⟨h1, h⟩ | ⟨h1, h⟩
  rcases cond_some h with ⟨h2, h⟩ | ⟨h2, h⟩
  cases h; refine call_lim rfl ?_; rotate_left
  cases h; refine call_lim rfl ?_; rotate_left
  cases h; refine call_lim rfl ?_; rotate_left
  all_goals (dsimp only [R1] at *; show runFn IF_ g151F _ _ = _; exact fin_)
noncomputable def utf_stray_b (s : ByteArray) (at_ : Int) (c : Int) : Option (Bool) :=
  bif Ops.std.ieq c 65533 then
    (xssub s at_ (Ops.std.slen s)).bind fun z =>
    xopt (xsdec z 0) (fun ⟨c1, nx⟩ =>
      some (Ops.std.ieq nx 1))
      (some (Ops.std.ieq 0 1))
  else
    some false
theorem utf_stray_r {s at_ c r} (h : utf_stray_b s at_ c = some r) : utf_stray s at_ c = some r := by
  unfold utf_stray_b at h
  refine ask_of ?_
  rcases cond_some h with ⟨h1, h⟩ | ⟨h1, h⟩
  obtain ⟨z, h2, h⟩ := bind_some h
  rcases xopt_some h with ⟨⟨c1, nx⟩, h3, h⟩ | ⟨h3, h⟩
  cases h; refine call_lim rfl ?_; rotate_left
  cases h; refine call_lim rfl ?_; rotate_left
  cases h; refine call_lim rfl ?_; rotate_left
  all_goals (dsimp only [R1] at *; show runFn IF_ g152F _ _ = _; exact fin_)
noncomputable def r04_Valid_l0_x (γ : Nat → Nat) : Unit ⊕ Unit → X × St
  | .inl () => (.ret, ⟨bd 2 (vF false :: bd 16 []), []⟩)
  | .inr () => (.brk 0, ⟨bd 19 [], []⟩)
instance : InjS r04_Valid_l0_x := ⟨fun γ γ' x y h => by
  rcases x with _ | _ <;> rcases y with _ | _ <;> simp only [r04_Valid_l0_x] at h <;> exact inj_⟩
noncomputable def r04_Valid_l0 (l : List ByteArray) (i : Int) : Option (Unit ⊕ Unit) := asks (fun γ => (lim F pr).loop [3, 4] 0 b85_0 ⟨bd 3 (.lit 9 false (List.map vT l) :: vI i :: bd 14 []), []⟩) r04_Valid_l0_x
noncomputable def r04_Valid_l0_b (l : List ByteArray) (i : Int) : Option (Unit ⊕ Unit) :=
  bif Ops.std.ilt i (xlen vT l) then
    (xget vT l i).bind fun x =>
    (r04_Width x 0).bind fun res =>
    bif Ops.std.ieq res 0 then some (.inl ()) else
    r04_Valid_l0 l (Ops.std.iadd .i64 i 1)
  else
    some (.inr ())
theorem r04_Valid_l0_r {l i r} (h : r04_Valid_l0_b l i = some r) : r04_Valid_l0 l i = some r := by
  unfold r04_Valid_l0_b at h
  refine asks_of fun γ => ?_
  rcases cond_some h with ⟨h1, h⟩ | ⟨h1, h⟩
  obtain ⟨x, h2, h⟩ := bind_ask h
  obtain ⟨res, h3, h⟩ := bind_ask h
  rcases cond_some h with ⟨h4, h⟩ | ⟨h4, h⟩
  cases h; refine ⟨gam [], round_lim ?_⟩; rotate_left
  replace h := asks_some h (gam []); obtain ⟨γ', h0⟩ := h; refine ⟨γ', round_lim ?_⟩; rotate_left
  cases h; refine ⟨gam [], round_lim ?_⟩; rotate_left
  all_goals (dsimp only [R1, r04_Valid_l0_x] at *; show roundAs IF_ _ _ b85_0 b85_0F _ = _; generalize b85_0 = c0 at *; exact fin_)
noncomputable def r04_Valid_b (s : ByteArray) : Option (Bool) :=
  (r04_Parts s).bind fun res =>
  (r04_Valid_l0 res 0).bind fun r => match r with
    | .inl () =>
      some false
    | .inr () =>
      some true
theorem r04_Valid_r {s r} (h : r04_Valid_b s = some r) : r04_Valid s = some r := by
  unfold r04_Valid_b at h
  refine ask_of ?_
  obtain ⟨res, h1, h⟩ := bind_ask h
  obtain ⟨r2, γ2, h2, h⟩ := bind_asks h (gam [])
  rcases r2 with _ | _
  cases h; refine call_lim rfl ?_; rotate_left
  cases h; refine call_lim rfl ?_; rotate_left
  all_goals (dsimp only [R1, r04_Valid_l0_x] at *; show runFn IF_ (g85F b85_0) _ _ = _; generalize b85_0 = c0 at *; exact fin_)
noncomputable def r04_Parts_l0_x (γ : Nat → Nat) : (List ByteArray) → X × St
  | a0 => (.brk 0, ⟨bd 3 (.sl 1 ((γ 1)) :: bd 24 []), [.row 9 (γ 0) false (List.map vT []), .row 9 (γ 1) false (List.map vT a0)]⟩)
instance : InjS r04_Parts_l0_x := ⟨fun γ γ' x y h => by
  rcases x with a0 <;> rcases y with a0' <;> simp only [r04_Parts_l0_x] at h <;> exact inj_⟩
noncomputable def r04_Parts_l0 (s : ByteArray) (at_ : Int) (r1 : List ByteArray) : Option ((List ByteArray)) := asks (fun γ => (lim F pr).loop [0, 4, 3] 2 b86_0 ⟨vT s :: bd 2 (.sl 1 ((γ 1)) :: vI at_ :: bd 23 []), [.row 9 (γ 0) false (List.map vT []), .row 9 (γ 1) false (List.map vT r1)]⟩) r04_Parts_l0_x
noncomputable def r04_Parts_l0_b (s : ByteArray) (at_ : Int) (r1 : List ByteArray) : Option ((List ByteArray)) :=
  bif Ops.std.ilt at_ (Ops.std.slen s) then
    (r04_Width s at_).bind fun res =>
    bif Ops.std.ieq res 0 then
      (xssub s at_ (Ops.std.iadd .i64 at_ 1)).bind fun z =>
      bif xroom vT 16 r1 [z] then r04_Parts_l0 s (Ops.std.iadd .i64 at_ 1) (r1 ++ [z]) else
      none
    else
      (xssub s at_ (Ops.std.iadd .i64 at_ res)).bind fun z =>
      bif xroom vT 16 r1 [z] then r04_Parts_l0 s (Ops.std.iadd .i64 at_ res) (r1 ++ [z]) else
      none
  else
    some r1
theorem r04_Parts_l0_r {s at_ r1 r} (h : r04_Parts_l0_b s at_ r1 = some r) : r04_Parts_l0 s at_ r1 = some r := by
  unfold r04_Parts_l0_b at h
  refine asks_of fun γ => ?_
  rcases cond_some h with ⟨h1, h⟩ | ⟨h1, h⟩
  obtain ⟨res, h2, h⟩ := bind_ask h
  rcases cond_some h with ⟨h3, h⟩ | ⟨h3, h⟩
  obtain ⟨z, h4, h⟩ := bind_some h
  obtain ⟨h5, h⟩ := need_some h
  replace h := asks_some h (gam [(γ 0), ((γ 1) + 1)]); obtain ⟨γ', h0⟩ := h; refine ⟨γ', round_lim ?_⟩; rotate_left
  obtain ⟨z, h4, h⟩ := bind_some h
  obtain ⟨h5, h⟩ := need_some h
  replace h := asks_some h (gam [(γ 0), ((γ 1) + 1)]); obtain ⟨γ', h0⟩ := h; refine ⟨γ', round_lim ?_⟩; rotate_left
  cases h; refine ⟨gam [(γ 0), (γ 1)], round_lim ?_⟩; rotate_left
  all_goals (dsimp only [R1, r04_Parts_l0_x] at *; show roundAs IF_ _ _ b86_0 b86_0F _ = _; generalize b86_0 = c0 at *; exact fin_)
noncomputable def r04_Parts_b (s : ByteArray) : Option ((List ByteArray)) :=
  r04_Parts_l0 s 0 []
theorem r04_Parts_r {s r} (h : r04_Parts_b s = some r) : r04_Parts s = some r := by
  unfold r04_Parts_b at h
  refine ask_of ?_
  obtain ⟨γ1, h1⟩ := asks_some h (gam [0, 0])
  rcases r with r1
  refine call_lim rfl ?_; rotate_left
  all_goals (dsimp only [R1, r04_Parts_l0_x] at *; show runFn IF_ (g86F b86_0) _ _ = _; generalize b86_0 = c0 at *; exact fin_)
noncomputable def peers_All_1_b (x0 : Entry) : Option (Bool) :=
  some true
theorem peers_All_1_r {x0 r} (h : peers_All_1_b x0 = some r) : peers_All_1 x0 = some r := by
  unfold peers_All_1_b at h
  refine ask_of ?_
  cases h; refine call_lim rfl ?_; rotate_left
  all_goals (dsimp only [R1] at *; show runFn IF_ g193F _ _ = _; exact fin_)
noncomputable def store_place_1_b (p : Pair) (b0 : ByteArray) : Option (Bool) :=
  some (Ops.std.seq p.key b0)
theorem store_place_1_r {p b0 r} (h : store_place_1_b p b0 = some r) : store_place_1 p b0 = some r := by
  unfold store_place_1_b at h
  refine ask_of ?_
  cases h; refine call_lim rfl ?_; rotate_left
  all_goals (dsimp only [store_place_1_e] at *; show runFn IF_ g202F _ _ = _; exact fin_)
noncomputable def IndexFunc_Pair_2_l0_x (b0 : ByteArray) (γ : Nat → Nat) : Int ⊕ Unit → X × St
  | .inl a0 => (.ret, ⟨bd 4 (vI a0 :: bd 14 []), [.box 9 [vT b0]]⟩)
  | .inr () => (.brk 0, ⟨bd 19 [], [.box 9 [vT b0]]⟩)
instance {b0} : InjS (IndexFunc_Pair_2_l0_x b0) := ⟨fun γ γ' x y h => by
  rcases x with a0 | _ <;> rcases y with a0' | _ <;> simp only [IndexFunc_Pair_2_l0_x] at h <;> exact inj_⟩
noncomputable def IndexFunc_Pair_2_l0 (s : List Pair) (b0 : ByteArray) (t8 : Int) : Option (Int ⊕ Unit) := asks (fun γ => (lim F pr).loop [7, 1, 0, 8] 1 b142_0 ⟨.lit 78 false (List.map ePair s) :: .fn 202 [.bptr 0 0] :: bd 5 (vI (xlen ePair s) :: vI t8 :: bd 10 []), [.box 9 [vT b0]]⟩) (IndexFunc_Pair_2_l0_x b0)
noncomputable def IndexFunc_Pair_2_l0_b (s : List Pair) (b0 : ByteArray) (t8 : Int) : Option (Int ⊕ Unit) :=
  bif Ops.std.ilt t8 (xlen ePair s) then
    (xget ePair s t8).bind fun x =>
    (store_place_1 x b0).bind fun res =>
    bif res then some (.inl t8) else
    IndexFunc_Pair_2_l0 s b0 (Ops.std.iadd .i64 t8 1)
  else
    some (.inr ())
theorem IndexFunc_Pair_2_l0_r {s b0 t8 r} (h : IndexFunc_Pair_2_l0_b s b0 t8 = some r) : IndexFunc_Pair_2_l0 s b0 t8 = some r := by
  unfold IndexFunc_Pair_2_l0_b at h
  refine asks_of fun γ => ?_
  rcases cond_some h with ⟨h1, h⟩ | ⟨h1, h⟩
  obtain ⟨x, h2, h⟩ := bind_ask h
  obtain ⟨res, h3, h⟩ := bind_ask h
  rcases cond_some h with ⟨h4, h⟩ | ⟨h4, h⟩
  cases h; refine ⟨gam [], round_lim ?_⟩; rotate_left
  replace h := asks_some h (gam []); obtain ⟨γ', h0⟩ := h; refine ⟨γ', round_lim ?_⟩; rotate_left
  cases h; refine ⟨gam [], round_lim ?_⟩; rotate_left
  all_goals (dsimp only [IndexFunc_Pair_2_l0_x, store_place_1_e] at *; show roundAs IF_ _ _ b142_0 b142_0F _ = _; generalize b142_0 = c0 at *; exact fin_)
noncomputable def IndexFunc_Pair_2_b (s : List Pair) (b0 : ByteArray) : Option (Int) :=
  (IndexFunc_Pair_2_l0 s b0 0).bind fun r => match r with
    | .inl t4 =>
      some t4
    | .inr () =>
      some (-1)
theorem IndexFunc_Pair_2_r {s b0 r} (h : IndexFunc_Pair_2_b s b0 = some r) : IndexFunc_Pair_2 s b0 = some r := by
  unfold IndexFunc_Pair_2_b at h
  refine ask_of ?_
  obtain ⟨r1, γ1, h1, h⟩ := bind_asks h (gam [])
  rcases r1 with t4 | _
  cases h; refine call_lim rfl ?_; rotate_left
  cases h; refine call_lim rfl ?_; rotate_left
  all_goals (dsimp only [IndexFunc_Pair_2_e, IndexFunc_Pair_2_l0_x] at *; show runFn IF_ (g142F b142_0) _ _ = _; generalize b142_0 = c0 at *; exact fin_)
noncomputable def peers_firm_b (x : Entry) : Option (Bool) :=
  some (Ops.std.ile x.misses 0)
theorem peers_firm_r {x r} (h : peers_firm_b x = some r) : peers_firm x = some r := by
  unfold peers_firm_b at h
  refine ask_of ?_
  cases h; refine call_lim rfl ?_; rotate_left
  all_goals (dsimp only [R1] at *; show runFn IF_ g146F _ _ = _; exact fin_)
end Go.Ab.Tryz
