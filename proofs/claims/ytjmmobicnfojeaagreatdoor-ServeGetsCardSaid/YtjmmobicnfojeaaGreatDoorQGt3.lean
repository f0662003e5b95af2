/- Our texts for this statement, merged: what its theorem leads to. -/
import Derived.Test.YtjmmobicnfojeaaGreatDoorQGt1
namespace Go.Ab.Tryz
open Go Go.Ab Go.Proofs
set_option linter.unusedVariables false
set_option linter.unusedSimpArgs false
set_option maxRecDepth 10000
set_option maxHeartbeats 4000000
noncomputable def r30_Same_s1_x (a : Node) (b : Node) (γ : Nat → Nat) : Bool → X × St
  | a0 => (.ret, ⟨bd 4 (vF a0 :: bd 79 []), [.box 34 (cNode a), .box 34 (cNode b)]⟩)
instance {a b} : InjS (r30_Same_s1_x a b) := ⟨fun γ γ' x y h => by
  rcases x with a0 <;> rcases y with a0' <;> simp only [r30_Same_s1_x] at h <;> exact inj_⟩
noncomputable def r30_Same_s1 (a : Node) (b : Node) : Option (Bool) := asks (fun γ => (lim F pr).seg [4] b17_1 ⟨bd 2 (.bptr 0 0 :: .bptr 1 0 :: bd 80 []), [.box 34 (cNode a), .box 34 (cNode b)]⟩) (r30_Same_s1_x a b)
noncomputable def r30_Same_s0_x (a : Node) (b : Node) (γ : Nat → Nat) : Bool → X × St
  | a0 => (.ret, ⟨bd 4 (vF a0 :: bd 79 []), [.box 34 (cNode a), .box 34 (cNode b)]⟩)
instance {a b} : InjS (r30_Same_s0_x a b) := ⟨fun γ γ' x y h => by
  rcases x with a0 <;> rcases y with a0' <;> simp only [r30_Same_s0_x] at h <;> exact inj_⟩
noncomputable def r30_Same_s0 (a : Node) (b : Node) : Option (Bool) := asks (fun γ => (lim F pr).seg [4] b17_0 ⟨bd 2 (.bptr 0 0 :: .bptr 1 0 :: bd 80 []), [.box 34 (cNode a), .box 34 (cNode b)]⟩) (r30_Same_s0_x a b)
noncomputable def r30_Same_s1_b (a : Node) (b : Node) : Option (Bool) :=
  (r27_Same a.pred b.pred).bind fun res =>
  bif res then
    (r27_Same a.list b.list).bind fun res1 =>
    bif res1 then
      (r28_Same a.fingers b.fingers).bind fun res2 =>
      bif res2 then r30_Same_s0 a b else
      some false
    else
      some false
  else
    some false
theorem r30_Same_s1_r {a b r} (h : r30_Same_s1_b a b = some r) : r30_Same_s1 a b = some r := by
  unfold r30_Same_s1_b at h
  refine asks_of fun γ => ?_
  obtain ⟨res, h1, h⟩ := bind_ask h
  rcases cond_some h with ⟨h2, h⟩ | ⟨h2, h⟩
  obtain ⟨res1, h3, h⟩ := bind_ask h
  rcases cond_some h with ⟨h4, h⟩ | ⟨h4, h⟩
  obtain ⟨res2, h5, h⟩ := bind_ask h
  rcases cond_some h with ⟨h6, h⟩ | ⟨h6, h⟩
  obtain ⟨γ4, h7⟩ := asks_some h (gam [])
  rcases r with t4
  refine ⟨gam [], seg_lim ?_⟩; rotate_left
  cases h; refine ⟨gam [], seg_lim ?_⟩; rotate_left
  cases h; refine ⟨gam [], seg_lim ?_⟩; rotate_left
  cases h; refine ⟨gam [], seg_lim ?_⟩; rotate_left
  all_goals (dsimp only [R1, r30_Same_s0_x, r30_Same_s1_x] at *; show Ifc.apart IF_ _ (b17_1F b17_0) _ = _; generalize b17_0 = c0 at *; exact fin_)
noncomputable def r30_Same_s0_b (a : Node) (b : Node) : Option (Bool) :=
  (r08_Pairs a.store b.store).bind fun res =>
  bif res then
    (r30_Pends a.pends b.pends).bind fun res1 =>
    bif res1 then r30_jobs a b else
    some false
  else
    some false
theorem r30_Same_s0_r {a b r} (h : r30_Same_s0_b a b = some r) : r30_Same_s0 a b = some r := by
  unfold r30_Same_s0_b at h
  refine asks_of fun γ => ?_
  obtain ⟨res, h1, h⟩ := bind_ask h
  rcases cond_some h with ⟨h2, h⟩ | ⟨h2, h⟩
  obtain ⟨res1, h3, h⟩ := bind_ask h
  rcases cond_some h with ⟨h4, h⟩ | ⟨h4, h⟩
  have h5 := ask_some h
  rcases r with res2
  refine ⟨gam [], seg_lim ?_⟩; rotate_left
  cases h; refine ⟨gam [], seg_lim ?_⟩; rotate_left
  cases h; refine ⟨gam [], seg_lim ?_⟩; rotate_left
  all_goals (dsimp only [R1, r30_Same_s0_x] at *; show Ifc.apart IF_ _ b17_0F _ = _; exact fin_)
noncomputable def r30_Same_b (a : Node) (b : Node) : Option (Bool) :=
  bif Ops.std.ieq a.me.id b.me.id then
    bif Ops.std.ieq a.me.addr b.me.addr then
      bif Ops.std.ieq a.clock b.clock then
        bif Ops.std.beq a.joined b.joined then
          bif Ops.std.ieq a.rid b.rid then
            bif Ops.std.ieq a.jobID b.jobID then
              bif Ops.std.ieq a.nextBit b.nextBit then r30_Same_s1 a b else
              some false
            else
              some false
          else
            some false
        else
          some false
      else
        some false
    else
      some false
  else
    some false
theorem r30_Same_r {a b r} (h : r30_Same_b a b = some r) : r30_Same a b = some r := by
  unfold r30_Same_b at h
  refine ask_of ?_
  rcases cond_some h with ⟨h1, h⟩ | ⟨h1, h⟩
  rcases cond_some h with ⟨h2, h⟩ | ⟨h2, h⟩
  rcases cond_some h with ⟨h3, h⟩ | ⟨h3, h⟩
  rcases cond_some h with ⟨h4, h⟩ | ⟨h4, h⟩
  rcases cond_some h with ⟨h5, h⟩ | ⟨h5, h⟩
  rcases cond_some h with ⟨h6, h⟩ | ⟨h6, h⟩
  rcases cond_some h with ⟨h7, h⟩ | ⟨h7, h⟩
  obtain ⟨γ1, h8⟩ := asks_some h (gam [])
  rcases r with t4
  refine call_lim rfl ?_; rotate_left
  cases h; refine call_lim rfl ?_; rotate_left
  cases h; refine call_lim rfl ?_; rotate_left
  cases h; refine call_lim rfl ?_; rotate_left
  cases h; refine call_lim rfl ?_; rotate_left
  cases h; refine call_lim rfl ?_; rotate_left
  cases h; refine call_lim rfl ?_; rotate_left
  cases h; refine call_lim rfl ?_; rotate_left
  all_goals (dsimp only [R1, r30_Same_s1_x] at *; show runFn IF_ (g17F b17_1) _ _ = _; generalize b17_1 = c0 at *; exact fin_)
noncomputable def w29_Large_l0_x (γ : Nat → Nat) : Unit ⊕ Unit → X × St
  | .inl () => (.ret, ⟨bd 2 (vF true :: bd 26 []), []⟩)
  | .inr () => (.brk 0, ⟨bd 29 [], []⟩)
instance : InjS w29_Large_l0_x := ⟨fun γ γ' x y h => by
  rcases x with _ | _ <;> rcases y with _ | _ <;> simp only [w29_Large_l0_x] at h <;> exact inj_⟩
noncomputable def w29_Large_l0 (l : List Pair) (i : Int) : Option (Unit ⊕ Unit) := asks (fun γ => (lim F pr).loop [0, 3] 0 b19_0 ⟨.lit 78 false (List.map ePair l) :: bd 2 (vI i :: bd 25 []), []⟩) w29_Large_l0_x
noncomputable def w29_Large_l0_b (l : List Pair) (i : Int) : Option (Unit ⊕ Unit) :=
  bif Ops.std.ilt i (xlen ePair l) then
    (xget ePair l i).bind fun x =>
    bif Ops.std.ilt 300 (Ops.std.slen x.key) then some (.inl ()) else
    bif Ops.std.ilt 700 (Ops.std.slen x.val) then some (.inl ()) else
    w29_Large_l0 l (Ops.std.iadd .i64 i 1)
  else
    some (.inr ())
theorem w29_Large_l0_r {l i r} (h : w29_Large_l0_b l i = some r) : w29_Large_l0 l i = some r := by
  unfold w29_Large_l0_b at h
  refine asks_of fun γ => ?_
  rcases cond_some h with ⟨h1, h⟩ | ⟨h1, h⟩
  obtain ⟨x, h2, h⟩ := bind_ask h
  rcases cond_some h with ⟨h3, h⟩ | ⟨h3, h⟩
  cases h; refine ⟨gam [], round_lim ?_⟩; rotate_left
  rcases cond_some h with ⟨h4, h⟩ | ⟨h4, h⟩
  cases h; refine ⟨gam [], round_lim ?_⟩; rotate_left
  replace h := asks_some h (gam []); obtain ⟨γ', h0⟩ := h; refine ⟨γ', round_lim ?_⟩; rotate_left
  cases h; refine ⟨gam [], round_lim ?_⟩; rotate_left
  all_goals (dsimp only [w29_Large_l0_x] at *; show roundAs IF_ _ _ b19_0 b19_0F _ = _; generalize b19_0 = c0 at *; exact fin_)
noncomputable def w29_Large_b (l : List Pair) : Option (Bool) :=
  bif Ops.std.ilt 100 (xlen ePair l) then some true else
  (w29_Large_l0 l 0).bind fun r => match r with
    | .inl () =>
      some true
    | .inr () =>
      some false
theorem w29_Large_r {l r} (h : w29_Large_b l = some r) : w29_Large l = some r := by
  unfold w29_Large_b at h
  refine ask_of ?_
  rcases cond_some h with ⟨h1, h⟩ | ⟨h1, h⟩
  cases h; refine call_lim rfl ?_; rotate_left
  obtain ⟨r2, γ1, h2, h⟩ := bind_asks h (gam [])
  rcases r2 with _ | _
  cases h; refine call_lim rfl ?_; rotate_left
  cases h; refine call_lim rfl ?_; rotate_left
  all_goals (dsimp only [R1, w29_Large_l0_x] at *; show runFn IF_ (g19F b19_0) _ _ = _; generalize b19_0 = c0 at *; exact fin_)
abbrev serve_Keep_l0_T := (Node × (List Entry) × (List Entry) × (List Finger) × (List Pair) × (List Pend) × (List Job) × (List Result) × (List Peer) × (List Out))
noncomputable def serve_Keep_l0_x (γ : Nat → Nat) : serve_Keep_l0_T → X × St
  | (a0, a1, a2, a3, a4, a5, a6, a7, a8, a9) => (.brk 0, ⟨bd 3 (.bptr 0 0 :: bd 2 (.bptr 1 0 :: bd 5 (.sl 11 ((γ 11)) :: bd 50 []))), [.box 34 (cNode a0), .box 34 ([vU 0, vH 0, vI 0, vF false, .lit 0 true [], .lit 0 true [], .lit 0 true [], .lit 0 true [], .lit 0 true [], .lit 0 true [], .lit 0 true [], vW 0, vI 0, vI 0]), .row 56 (γ 2) false (List.map eOut []), .row 81 (γ 3) true (List.map eEntry a1), .row 81 (γ 4) true (List.map eEntry a2), .row 84 (γ 5) true (List.map eFinger a3), .row 78 (γ 6) true (List.map ePair a4), .row 88 (γ 7) true (List.map ePend a5), .row 67 (γ 8) true (List.map eJob a6), .row 60 (γ 9) true (List.map eResult a7), .row 25 (γ 10) true (List.map ePeer a8), .row 56 (γ 11) false (List.map eOut a9)]⟩)
instance : InjS serve_Keep_l0_x := ⟨fun γ γ' x y h => by
  rcases x with ⟨a0, a1, a2, a3, a4, a5, a6, a7, a8, a9⟩ <;> rcases y with ⟨a0', a1', a2', a3', a4', a5', a6', a7', a8', a9'⟩ <;> simp only [serve_Keep_l0_x] at h <;> exact inj_⟩
noncomputable def serve_Keep_l0 (key : ByteArray) (val : ByteArray) (t40 : List Peer) (t41 : Int) (t42 : Int) (b0 : Node) (r3 : List Entry) (r4 : List Entry) (r5 : List Finger) (r6 : List Pair) (r7 : List Pend) (r8 : List Job) (r9 : List Result) (r10 : List Peer) (r11 : List Out) : Option (serve_Keep_l0_T) := asks (fun γ => (lim F pr).loop [41, 40, 1, 2, 42, 3, 12, 6] 12 b20_0 ⟨bd 1 (vT key :: vT val :: .bptr 0 0 :: bd 2 (.bptr 1 0 :: bd 5 (.sl 11 ((γ 11)) :: bd 27 (.lit 25 false (List.map ePeer t40) :: vI t41 :: vI t42 :: bd 20 [])))), [.box 34 (cNode b0), .box 34 ([vU 0, vH 0, vI 0, vF false, .lit 0 true [], .lit 0 true [], .lit 0 true [], .lit 0 true [], .lit 0 true [], .lit 0 true [], .lit 0 true [], vW 0, vI 0, vI 0]), .row 56 (γ 2) false (List.map eOut []), .row 81 (γ 3) true (List.map eEntry r3), .row 81 (γ 4) true (List.map eEntry r4), .row 84 (γ 5) true (List.map eFinger r5), .row 78 (γ 6) true (List.map ePair r6), .row 88 (γ 7) true (List.map ePend r7), .row 67 (γ 8) true (List.map eJob r8), .row 60 (γ 9) true (List.map eResult r9), .row 25 (γ 10) true (List.map ePeer r10), .row 56 (γ 11) false (List.map eOut r11)]⟩) serve_Keep_l0_x
noncomputable def serve_Keep_l0_b (key : ByteArray) (val : ByteArray) (t40 : List Peer) (t41 : Int) (t42 : Int) (b0 : Node) (r3 : List Entry) (r4 : List Entry) (r5 : List Finger) (r6 : List Pair) (r7 : List Pend) (r8 : List Job) (r9 : List Result) (r10 : List Peer) (r11 : List Out) : Option (serve_Keep_l0_T) :=
  bif Ops.std.ilt t42 t41 then
    (xget ePeer t40 t42).bind fun x =>
    (serve_Hand b0 x [(⟨key, val⟩ : Pair)] true).bind fun ⟨r0, r1⟩ =>
    bif xroom eOut 136 r11 r1 then
      serve_Keep_l0 key val t40 t41 (Ops.std.iadd .i64 t42 1) r0 r3 r4 r5 r6 r7 r8 r9 r10 (r11 ++ r1)
    else
      none
  else
    some (b0, r3, r4, r5, r6, r7, r8, r9, r10, r11)
theorem serve_Keep_l0_r {key val t40 t41 t42 b0 r3 r4 r5 r6 r7 r8 r9 r10 r11 r} (h : serve_Keep_l0_b key val t40 t41 t42 b0 r3 r4 r5 r6 r7 r8 r9 r10 r11 = some r) : serve_Keep_l0 key val t40 t41 t42 b0 r3 r4 r5 r6 r7 r8 r9 r10 r11 = some r := by
  unfold serve_Keep_l0_b at h
  refine asks_of fun γ => ?_
  rcases cond_some h with ⟨h1, h⟩ | ⟨h1, h⟩
  obtain ⟨x, h2, h⟩ := bind_ask h
  obtain ⟨r3, h3, h⟩ := bind_ask h
  rcases r3 with ⟨r0, r1⟩
  obtain ⟨h4, h⟩ := need_some h
  replace h := asks_some h (gam [0, 0, (γ 2), (γ 3), (γ 4), (γ 5), (γ 6), (γ 7), (γ 8), (γ 9), (γ 10), ((γ 11) + 1)]); obtain ⟨γ', h0⟩ := h; refine ⟨γ', round_lim ?_⟩; rotate_left
  cases h; refine ⟨gam [0, 0, (γ 2), (γ 3), (γ 4), (γ 5), (γ 6), (γ 7), (γ 8), (γ 9), (γ 10), (γ 11)], round_lim ?_⟩; rotate_left
  all_goals (dsimp only [R2, serve_Keep_l0_x] at *; show roundAs IF_ _ _ b20_0 b20_0F _ = _; generalize b20_0 = c0 at *; exact fin_)
noncomputable def serve_Keep_b (n : Node) (key : ByteArray) (val : ByteArray) : Option ((Node × (List Out) × Int)) :=
  (pend_Copy n).bind fun ⟨res_me_id, res_me_addr, res_clock, res_joined, res_pred, res_list, res_fingers, res_store, res_pends, res_jobs, res_results, res_rid, res_jobID, res_nextBit⟩ =>
  (store_Put res_store key val).bind fun ⟨r0, r1⟩ =>
  bif Ops.std.ieq r1 0 then
    (peers_Firm res_list).bind fun res =>
    bif Ops.std.ilt 2 (xlen ePeer res) then
      (xsub ePeer res 0 2).bind fun ys =>
      (serve_Keep_l0 key val ys (xlen ePeer ys) 0 (⟨(⟨res_me_id, res_me_addr⟩ : Peer), res_clock, res_joined, res_pred, res_list, res_fingers, r0, res_pends, res_jobs, res_results, res_rid, res_jobID, res_nextBit⟩ : Node) res_pred res_list res_fingers res_store res_pends res_jobs res_results res []).bind fun ⟨b0, r3, r4, r5, r6, r7, r8, r9, r10, r11⟩ =>
      some (b0, r11, 0)
    else
      (xsub ePeer res 0 (xlen ePeer res)).bind fun ys =>
      (serve_Keep_l0 key val ys (xlen ePeer ys) 0 (⟨(⟨res_me_id, res_me_addr⟩ : Peer), res_clock, res_joined, res_pred, res_list, res_fingers, r0, res_pends, res_jobs, res_results, res_rid, res_jobID, res_nextBit⟩ : Node) res_pred res_list res_fingers res_store res_pends res_jobs res_results res []).bind fun ⟨b0, r3, r4, r5, r6, r7, r8, r9, r10, r11⟩ =>
      some (b0, r11, 0)
  else
    some ((⟨(⟨res_me_id, res_me_addr⟩ : Peer), res_clock, res_joined, res_pred, res_list, res_fingers, res_store, res_pends, res_jobs, res_results, res_rid, res_jobID, res_nextBit⟩ : Node), [], r1)
theorem serve_Keep_r {n key val r} (h : serve_Keep_b n key val = some r) : serve_Keep n key val = some r := by
  unfold serve_Keep_b at h
  refine ask_of ?_
  obtain ⟨r1, h1, h⟩ := bind_ask h
  rcases r1 with ⟨res_me_id, res_me_addr, res_clock, res_joined, res_pred, res_list, res_fingers, res_store, res_pends, res_jobs, res_results, res_rid, res_jobID, res_nextBit⟩
  obtain ⟨r2, h2, h⟩ := bind_ask h
  rcases r2 with ⟨r0, r1⟩
  rcases cond_some h with ⟨h3, h⟩ | ⟨h3, h⟩
  obtain ⟨res, h4, h⟩ := bind_ask h
  rcases cond_some h with ⟨h5, h⟩ | ⟨h5, h⟩
  obtain ⟨ys, h6, h⟩ := bind_ask h
  obtain ⟨r7, γ4, h7, h⟩ := bind_asks h (gam [0, 0, 0, 0, 0, 0, 0, 0, 0, 0, 0, 0])
  rcases r7 with ⟨b0, r3, r4, r5, r6, r7, r8, r9, r10, r11⟩
  cases h; refine call_lim rfl ?_; rotate_left
  obtain ⟨ys, h6, h⟩ := bind_ask h
  obtain ⟨r7, γ4, h7, h⟩ := bind_asks h (gam [0, 0, 0, 0, 0, 0, 0, 0, 0, 0, 0, 0])
  rcases r7 with ⟨b0, r3, r4, r5, r6, r7, r8, r9, r10, r11⟩
  cases h; refine call_lim rfl ?_; rotate_left
  cases h; refine call_lim rfl ?_; rotate_left
  all_goals (dsimp only [K1, R2, R3, pend_Copy_e, serve_Keep_l0_x] at *; show runFn IF_ (g20F b20_0) _ _ = _; generalize b20_0 = c0 at *; exact fin_)
abbrev serve_Hand_l0_T := (Node × (List Entry) × (List Entry) × (List Finger) × (List Pair) × (List Pend) × (List Job) × (List Result) × (List Out))
noncomputable def serve_Hand_l0_x (to_ : Peer) (γ : Nat → Nat) : serve_Hand_l0_T → X × St
  | (a0, a1, a2, a3, a4, a5, a6, a7, a8) => (.brk 0, ⟨bd 4 (.bptr 0 0 :: bd 3 (.bptr 2 0 :: bd 1 (.sl 11 ((γ 11)) :: bd 29 []))), [.box 34 (cNode a0), .box 25 [vU to_.id, vH to_.addr], .box 34 ([vU 0, vH 0, vI 0, vF false, .lit 0 true [], .lit 0 true [], .lit 0 true [], .lit 0 true [], .lit 0 true [], .lit 0 true [], .lit 0 true [], vW 0, vI 0, vI 0]), .row 56 (γ 3) false (List.map eOut []), .row 81 (γ 4) true (List.map eEntry a1), .row 81 (γ 5) true (List.map eEntry a2), .row 84 (γ 6) true (List.map eFinger a3), .row 78 (γ 7) true (List.map ePair a4), .row 88 (γ 8) true (List.map ePend a5), .row 67 (γ 9) true (List.map eJob a6), .row 60 (γ 10) true (List.map eResult a7), .row 56 (γ 11) false (List.map eOut a8)]⟩)
instance {to_} : InjS (serve_Hand_l0_x to_) := ⟨fun γ γ' x y h => by
  rcases x with ⟨a0, a1, a2, a3, a4, a5, a6, a7, a8⟩ <;> rcases y with ⟨a0', a1', a2', a3', a4', a5', a6', a7', a8'⟩ <;> simp only [serve_Hand_l0_x] at h <;> exact inj_⟩
noncomputable def serve_Hand_l0 (to_ : Peer) (fresh : Bool) (t18 : List (List Pair)) (t19 : Int) (t20 : Int) (b0 : Node) (r4 : List Entry) (r5 : List Entry) (r6 : List Finger) (r7 : List Pair) (r8 : List Pend) (r9 : List Job) (r10 : List Result) (r11 : List Out) : Option (serve_Hand_l0_T) := asks (fun γ => (lim F pr).loop [19, 18, 5, 3, 20, 4, 10, 8] 12 b22_0 ⟨bd 3 (vF fresh :: .bptr 0 0 :: .bptr 1 0 :: bd 2 (.bptr 2 0 :: bd 1 (.sl 11 ((γ 11)) :: bd 7 (.lit 28 false (List.map (eL 78 ePair) t18) :: vI t19 :: vI t20 :: bd 19 [])))), [.box 34 (cNode b0), .box 25 [vU to_.id, vH to_.addr], .box 34 ([vU 0, vH 0, vI 0, vF false, .lit 0 true [], .lit 0 true [], .lit 0 true [], .lit 0 true [], .lit 0 true [], .lit 0 true [], .lit 0 true [], vW 0, vI 0, vI 0]), .row 56 (γ 3) false (List.map eOut []), .row 81 (γ 4) true (List.map eEntry r4), .row 81 (γ 5) true (List.map eEntry r5), .row 84 (γ 6) true (List.map eFinger r6), .row 78 (γ 7) true (List.map ePair r7), .row 88 (γ 8) true (List.map ePend r8), .row 67 (γ 9) true (List.map eJob r9), .row 60 (γ 10) true (List.map eResult r10), .row 56 (γ 11) false (List.map eOut r11)]⟩) (serve_Hand_l0_x to_)
noncomputable def serve_Hand_l0_b (to_ : Peer) (fresh : Bool) (t18 : List (List Pair)) (t19 : Int) (t20 : Int) (b0 : Node) (r4 : List Entry) (r5 : List Entry) (r6 : List Finger) (r7 : List Pair) (r8 : List Pend) (r9 : List Job) (r10 : List Result) (r11 : List Out) : Option (serve_Hand_l0_T) :=
  bif Ops.std.ilt t20 t19 then
    (xget (eL 78 ePair) t18 t20).bind fun x =>
    (pend_Ask b0 to_ (⟨10, 0, 0, fresh, 0, ⟨#[]⟩, ⟨#[]⟩, (⟨0, 0⟩ : Peer), [], x⟩ : Msg) 6 0).bind fun ⟨r0, r1⟩ =>
    bif xroom eOut 136 r11 r1 then
      serve_Hand_l0 to_ fresh t18 t19 (Ops.std.iadd .i64 t20 1) r0 r4 r5 r6 r7 r8 r9 r10 (r11 ++ r1)
    else
      none
  else
    some (b0, r4, r5, r6, r7, r8, r9, r10, r11)
theorem serve_Hand_l0_r {to_ fresh t18 t19 t20 b0 r4 r5 r6 r7 r8 r9 r10 r11 r} (h : serve_Hand_l0_b to_ fresh t18 t19 t20 b0 r4 r5 r6 r7 r8 r9 r10 r11 = some r) : serve_Hand_l0 to_ fresh t18 t19 t20 b0 r4 r5 r6 r7 r8 r9 r10 r11 = some r := by
  unfold serve_Hand_l0_b at h
  refine asks_of fun γ => ?_
  rcases cond_some h with ⟨h1, h⟩ | ⟨h1, h⟩
  obtain ⟨x, h2, h⟩ := bind_ask h
  obtain ⟨r3, h3, h⟩ := bind_ask h
  rcases r3 with ⟨r0, r1⟩
  obtain ⟨h4, h⟩ := need_some h
  replace h := asks_some h (gam [0, 0, 0, (γ 3), (γ 4), (γ 5), (γ 6), (γ 7), (γ 8), (γ 9), (γ 10), ((γ 11) + 1)]); obtain ⟨γ', h0⟩ := h; refine ⟨γ', round_lim ?_⟩; rotate_left
  cases h; refine ⟨gam [0, 0, 0, (γ 3), (γ 4), (γ 5), (γ 6), (γ 7), (γ 8), (γ 9), (γ 10), (γ 11)], round_lim ?_⟩; rotate_left
  all_goals (dsimp only [R2, serve_Hand_l0_x] at *; show roundAs IF_ _ _ b22_0 b22_0F _ = _; generalize b22_0 = c0 at *; exact fin_)
noncomputable def serve_Hand_b (n : Node) (to_ : Peer) (l : List Pair) (fresh : Bool) : Option ((Node × (List Out))) :=
  (pend_Copy n).bind fun ⟨res_me_id, res_me_addr, res_clock, res_joined, res_pred, res_list, res_fingers, res_store, res_pends, res_jobs, res_results, res_rid, res_jobID, res_nextBit⟩ =>
  (xcut ePair 78 l).bind fun cs =>
  (serve_Hand_l0 to_ fresh cs (xlen (eL 78 ePair) cs) 0 (⟨(⟨res_me_id, res_me_addr⟩ : Peer), res_clock, res_joined, res_pred, res_list, res_fingers, res_store, res_pends, res_jobs, res_results, res_rid, res_jobID, res_nextBit⟩ : Node) res_pred res_list res_fingers res_store res_pends res_jobs res_results []).bind fun ⟨b0, r4, r5, r6, r7, r8, r9, r10, r11⟩ =>
  some (b0, r11)
theorem serve_Hand_r {n to_ l fresh r} (h : serve_Hand_b n to_ l fresh = some r) : serve_Hand n to_ l fresh = some r := by
  unfold serve_Hand_b at h
  refine ask_of ?_
  obtain ⟨r1, h1, h⟩ := bind_ask h
  rcases r1 with ⟨res_me_id, res_me_addr, res_clock, res_joined, res_pred, res_list, res_fingers, res_store, res_pends, res_jobs, res_results, res_rid, res_jobID, res_nextBit⟩
  obtain ⟨cs, h2, h⟩ := bind_ask h
  obtain ⟨r3, γ2, h3, h⟩ := bind_asks h (gam [0, 0, 0, 0, 0, 0, 0, 0, 0, 0, 0, 0])
  rcases r3 with ⟨b0, r4, r5, r6, r7, r8, r9, r10, r11⟩
  cases h; refine call_lim rfl ?_; rotate_left
  all_goals (dsimp only [R2, pend_Copy_e, serve_Hand_l0_x] at *; show runFn IF_ (g22F b22_0) _ _ = _; generalize b22_0 = c0 at *; exact fin_)
noncomputable def msg_Key_b (s : ByteArray) : Option (Bool) :=
  bif Ops.std.seq s ⟨#[]⟩ then some false else
  bif Ops.std.ile (Ops.std.slen s) 96 then
    (utf_Valid s).bind fun res =>
    bif res then
      (utf_Count s).bind fun res1 =>
      some (Ops.std.ile res1 32)
    else
      some false
  else
    some false
theorem msg_Key_r {s r} (h : msg_Key_b s = some r) : msg_Key s = some r := by
  unfold msg_Key_b at h
  refine ask_of ?_
  rcases cond_some h with ⟨h1, h⟩ | ⟨h1, h⟩
  cases h; refine call_lim rfl ?_; rotate_left
  rcases cond_some h with ⟨h2, h⟩ | ⟨h2, h⟩
  obtain ⟨res, h3, h⟩ := bind_ask h
  rcases cond_some h with ⟨h4, h⟩ | ⟨h4, h⟩
  obtain ⟨res1, h5, h⟩ := bind_ask h
  cases h; refine call_lim rfl ?_; rotate_left
  cases h; refine call_lim rfl ?_; rotate_left
  cases h; refine call_lim rfl ?_; rotate_left
  all_goals (dsimp only [R1] at *; show runFn IF_ g24F _ _ = _; exact fin_)
noncomputable def msg_Asks_b (k : Int) : Option (Bool) :=
  (msg_of k).bind fun res =>
  some (Ops.std.ilt 0 (xlen vI res.replies))
theorem msg_Asks_r {k r} (h : msg_Asks_b k = some r) : msg_Asks k = some r := by
  unfold msg_Asks_b at h
  refine ask_of ?_
  obtain ⟨res, h1, h⟩ := bind_ask h
  cases h; refine call_lim rfl ?_; rotate_left
  all_goals (dsimp only [R1] at *; show runFn IF_ g54F _ _ = _; exact fin_)
abbrev route_Step_s0_T := (Int × Int × (List Peer)) ⊕ ((List Peer) × (List Peer))
noncomputable def route_Step_s0_x (n : Node) (γ : Nat → Nat) : route_Step_s0_T → X × St
  | .inl (a0, a1, a2) => (.ret, ⟨bd 4 (.bptr 1 0 :: .sl 4 ((γ 4)) :: vF true :: bd 49 []), [.box 34 (cNode n), .box 25 [vU a0, vH a1], .row 25 (γ 2) false (List.map ePeer []), .row 25 (γ 3) false (List.map ePeer a2), .row 25 (γ 4) false (List.map ePeer [])]⟩)
  | .inr (b0, b1) => (.ret, ⟨bd 4 (.bptr 1 0 :: .lit 25 false (List.map ePeer b0) :: vF false :: bd 49 []), [.box 34 (cNode n), .box 25 [vU 0, vH 0], .row 25 (γ 2) false (List.map ePeer []), .row 25 (γ 3) false (List.map ePeer b1)]⟩)
instance {n} : InjS (route_Step_s0_x n) := ⟨fun γ γ' x y h => by
  rcases x with ⟨a0, a1, a2⟩ | ⟨b0, b1⟩ <;> rcases y with ⟨a0', a1', a2'⟩ | ⟨b0', b1'⟩ <;> simp only [route_Step_s0_x] at h <;> exact inj_⟩
noncomputable def route_Step_s0 (n : Node) (key : Int) (r3 : List Peer) : Option (route_Step_s0_T) := asks (fun γ => (lim F pr).seg [4, 5, 6] b124_0 ⟨bd 1 (vU key :: .bptr 0 0 :: bd 1 (.bptr 1 0 :: bd 2 (.sl 3 ((γ 3)) :: bd 48 []))), [.box 34 (cNode n), .box 25 [vU 0, vH 0], .row 25 (γ 2) false (List.map ePeer []), .row 25 (γ 3) false (List.map ePeer r3)]⟩) (route_Step_s0_x n)
noncomputable def route_Step_s0_b (n : Node) (key : Int) (r3 : List Peer) : Option (route_Step_s0_T) :=
  (xget ePeer r3 0).bind fun x =>
  (ring_Upto n.me.id key x.id).bind fun res =>
  bif res then some (.inl (x.id, x.addr, r3)) else
  (route_behind n key).bind fun res1 =>
  bif res1 then some (.inl (n.me.id, n.me.addr, r3)) else
  (fings_Hops n.me n.list n.fingers key 4).bind fun res2 =>
  bif Ops.std.ilt 0 (xlen ePeer res2) then some (.inr (res2, r3)) else
  some (.inl (n.me.id, n.me.addr, r3))
theorem route_Step_s0_r {n key r3 r} (h : route_Step_s0_b n key r3 = some r) : route_Step_s0 n key r3 = some r := by
  unfold route_Step_s0_b at h
  refine asks_of fun γ => ?_
  obtain ⟨x, h1, h⟩ := bind_ask h
  obtain ⟨res, h2, h⟩ := bind_ask h
  rcases cond_some h with ⟨h3, h⟩ | ⟨h3, h⟩
  cases h; refine ⟨gam [0, 0, (γ 2), (γ 3), 0], seg_lim ?_⟩; rotate_left
  obtain ⟨res1, h4, h⟩ := bind_ask h
  rcases cond_some h with ⟨h5, h⟩ | ⟨h5, h⟩
  cases h; refine ⟨gam [0, 0, (γ 2), (γ 3), 0], seg_lim ?_⟩; rotate_left
  obtain ⟨res2, h6, h⟩ := bind_ask h
  rcases cond_some h with ⟨h7, h⟩ | ⟨h7, h⟩
  cases h; refine ⟨gam [0, 0, (γ 2), (γ 3)], seg_lim ?_⟩; rotate_left
  cases h; refine ⟨gam [0, 0, (γ 2), (γ 3), 0], seg_lim ?_⟩; rotate_left
  all_goals (dsimp only [R1, route_Step_s0_x] at *; show Ifc.apart IF_ _ b124_0F _ = _; exact fin_)
noncomputable def route_Step_b (n : Node) (key : Int) : Option ((Peer × (List Peer) × Bool)) :=
  (peers_Firm n.list).bind fun res =>
  bif Ops.std.ieq (xlen ePeer res) 0 then some (n.me, [], true) else
  bif Ops.std.ieq key n.me.id then some (n.me, [], true) else
  (route_Step_s0 n key res).bind fun r => match r with
    | .inl (b1_id, b1_addr, r3) =>
      some ((⟨b1_id, b1_addr⟩ : Peer), [], true)
    | .inr (t5, r3) =>
      some ((⟨0, 0⟩ : Peer), t5, false)
theorem route_Step_r {n key r} (h : route_Step_b n key = some r) : route_Step n key = some r := by
  unfold route_Step_b at h
  refine ask_of ?_
  obtain ⟨res, h1, h⟩ := bind_ask h
  rcases cond_some h with ⟨h2, h⟩ | ⟨h2, h⟩
  cases h; refine call_lim rfl ?_; rotate_left
  rcases cond_some h with ⟨h3, h⟩ | ⟨h3, h⟩
  cases h; refine call_lim rfl ?_; rotate_left
  obtain ⟨r4, γ2, h4, h⟩ := bind_asks h (gam [0, 0, 0, 0])
  rcases r4 with ⟨b1_id, b1_addr, r3⟩ | ⟨t5, r3⟩
  cases h; refine call_lim rfl ?_; rotate_left
  cases h; refine call_lim rfl ?_; rotate_left
  all_goals (dsimp only [K1, R3, route_Step_s0_x] at *; show runFn IF_ (g124F b124_0) _ _ = _; generalize b124_0 = c0 at *; exact fin_)
end Go.Ab.Tryz
