/- Our texts for this statement, merged: what its theorem leads to. -/
import Derived.Test.YtjmmobicnfojeaaGreatDoorQGt1
namespace Go.Ab.Tryz
open Go Go.Ab Go.Proofs
set_option linter.unusedVariables false
set_option linter.unusedSimpArgs false
set_option maxRecDepth 10000
set_option maxHeartbeats 4000000
noncomputable def msg_of_b (k : Int) : Option (Msg_kind) :=
  (msg_kinds).bind fun res =>
  bif Ops.std.ilt k 0 then
    (xget eMsg_kind res 0).bind fun x =>
    some x
  else
    bif Ops.std.ile (xlen eMsg_kind res) k then
      (xget eMsg_kind res 0).bind fun x =>
      some x
    else
      (xget eMsg_kind res k).bind fun x =>
      some x
theorem msg_of_r {k r} (h : msg_of_b k = some r) : msg_of k = some r := by
  unfold msg_of_b at h
  refine ask_of ?_
  obtain ⟨res, h1, h⟩ := bind_ask h
  rcases cond_some h with ⟨h2, h⟩ | ⟨h2, h⟩
  obtain ⟨x, h3, h⟩ := bind_ask h
  cases h; refine call_lim rfl ?_; rotate_left
  rcases cond_some h with ⟨h3, h⟩ | ⟨h3, h⟩
  obtain ⟨x, h4, h⟩ := bind_ask h
  cases h; refine call_lim rfl ?_; rotate_left
  obtain ⟨x, h4, h⟩ := bind_ask h
  cases h; refine call_lim rfl ?_; rotate_left
  all_goals (dsimp only [R1] at *; show runFn IF_ g122F _ _ = _; exact fin_)
noncomputable def ring_Upto_b (a : Int) (x : Int) (b : Int) : Option (Bool) :=
  bif Ops.std.ieq a b then some true else
  bif Ops.std.ieq x b then some true else
  ring_Between a x b
theorem ring_Upto_r {a x b r} (h : ring_Upto_b a x b = some r) : ring_Upto a x b = some r := by
  unfold ring_Upto_b at h
  refine ask_of ?_
  rcases cond_some h with ⟨h1, h⟩ | ⟨h1, h⟩
  cases h; refine call_lim rfl ?_; rotate_left
  rcases cond_some h with ⟨h2, h⟩ | ⟨h2, h⟩
  cases h; refine call_lim rfl ?_; rotate_left
  have h3 := ask_some h
  rcases r with res
  refine call_lim rfl ?_; rotate_left
  all_goals (dsimp only [R1] at *; show runFn IF_ g190F _ _ = _; exact fin_)
noncomputable def route_behind_b (n : Node) (key : Int) : Option (Bool) :=
  bif Ops.std.ilt 0 (xlen eEntry n.pred) then
    (xget eEntry n.pred 0).bind fun x =>
    bif Ops.std.ile x.misses 0 then ring_Upto x.peer.id key n.me.id else
    some false
  else
    some false
theorem route_behind_r {n key r} (h : route_behind_b n key = some r) : route_behind n key = some r := by
  unfold route_behind_b at h
  refine ask_of ?_
  rcases cond_some h with ⟨h1, h⟩ | ⟨h1, h⟩
  obtain ⟨x, h2, h⟩ := bind_ask h
  rcases cond_some h with ⟨h3, h⟩ | ⟨h3, h⟩
  have h4 := ask_some h
  rcases r with res
  refine call_lim rfl ?_; rotate_left
  cases h; refine call_lim rfl ?_; rotate_left
  cases h; refine call_lim rfl ?_; rotate_left
  all_goals (dsimp only [R1] at *; show runFn IF_ g191F _ _ = _; exact fin_)
noncomputable def fings_Hops_l0_x (me : Peer) (key : Int) (most : Int) (γ : Nat → Nat) : (List Peer) → X × St
  | a0 => (.brk 0, ⟨bd 3 (vU key :: vI most :: .bptr 0 0 :: bd 5 (.sl 2 ((γ 2)) :: bd 63 [])), [.box 25 [vU me.id, vH me.addr], .row 25 (γ 1) false (List.map ePeer []), .row 25 (γ 2) false (List.map ePeer a0)]⟩)
instance {me key most} : InjS (fings_Hops_l0_x me key most) := ⟨fun γ γ' x y h => by
  rcases x with a0 <;> rcases y with a0' <;> simp only [fings_Hops_l0_x] at h <;> exact inj_⟩
noncomputable def fings_Hops_l0 (me : Peer) (f : List Finger) (key : Int) (most : Int) (t22 : Int) (r2 : List Peer) : Option ((List Peer)) := asks (fun γ => (lim F pr).loop [21, 20, 22, 11, 3, 5, 4] 3 b192_0 ⟨bd 3 (vU key :: vI most :: .bptr 0 0 :: bd 5 (.sl 2 ((γ 2)) :: bd 8 (.lit 84 false (List.map eFinger f) :: vI (xlen eFinger f) :: vI t22 :: bd 52 []))), [.box 25 [vU me.id, vH me.addr], .row 25 (γ 1) false (List.map ePeer []), .row 25 (γ 2) false (List.map ePeer r2)]⟩) (fings_Hops_l0_x me key most)
noncomputable def fings_Hops_l1_x (me : Peer) (most : Int) (γ : Nat → Nat) : ((List Peer) × (List Peer)) → X × St
  | (a0, a1) => (.brk 2, ⟨bd 4 (vI most :: .bptr 0 0 :: bd 8 (.sl 3 ((γ 3)) :: bd 60 [])), [.box 25 [vU me.id, vH me.addr], .row 25 (γ 1) false (List.map ePeer []), .row 25 (γ 2) true (List.map ePeer a0), .row 25 (γ 3) false (List.map ePeer a1)]⟩)
instance {me most} : InjS (fings_Hops_l1_x me most) := ⟨fun γ γ' x y h => by
  rcases x with ⟨a0, a1⟩ <;> rcases y with ⟨a0', a1'⟩ <;> simp only [fings_Hops_l1_x] at h <;> exact inj_⟩
noncomputable def fings_Hops_l1 (me : Peer) (key : Int) (most : Int) (t32 : List Peer) (t33 : Int) (t34 : Int) (r2 : List Peer) (r3 : List Peer) : Option (((List Peer) × (List Peer))) := asks (fun γ => (lim F pr).loop [33, 32, 11, 3, 34, 5, 14, 4] 4 b192_1 ⟨bd 3 (vU key :: vI most :: .bptr 0 0 :: bd 5 (.sl 2 ((γ 2)) :: bd 2 (.sl 3 ((γ 3)) :: bd 17 (.lit 25 false (List.map ePeer t32) :: vI t33 :: vI t34 :: bd 40 [])))), [.box 25 [vU me.id, vH me.addr], .row 25 (γ 1) false (List.map ePeer []), .row 25 (γ 2) true (List.map ePeer r2), .row 25 (γ 3) false (List.map ePeer r3)]⟩) (fings_Hops_l1_x me most)
noncomputable def fings_Hops_l0_b (me : Peer) (f : List Finger) (key : Int) (most : Int) (t22 : Int) (r2 : List Peer) : Option ((List Peer)) :=
  bif Ops.std.ilt t22 (xlen eFinger f) then
    (xget eFinger f t22).bind fun x =>
    bif xroom ePeer 16 r2 [x.peer] then
      fings_Hops_l0 me f key most (Ops.std.iadd .i64 t22 1) (r2 ++ [x.peer])
    else
      none
  else
    some r2
theorem fings_Hops_l0_r {me f key most t22 r2 r} (h : fings_Hops_l0_b me f key most t22 r2 = some r) : fings_Hops_l0 me f key most t22 r2 = some r := by
  unfold fings_Hops_l0_b at h
  refine asks_of fun γ => ?_
  rcases cond_some h with ⟨h1, h⟩ | ⟨h1, h⟩
  obtain ⟨x, h2, h⟩ := bind_ask h
  obtain ⟨h3, h⟩ := need_some h
  replace h := asks_some h (gam [0, (γ 1), ((γ 2) + 1)]); obtain ⟨γ', h0⟩ := h; refine ⟨γ', round_lim ?_⟩; rotate_left
  cases h; refine ⟨gam [0, (γ 1), (γ 2)], round_lim ?_⟩; rotate_left
  all_goals (dsimp only [fings_Hops_l0_x] at *; show roundAs IF_ _ _ b192_0 b192_0F _ = _; generalize b192_0 = c0 at *; exact fin_)
noncomputable def fings_Hops_l1_b (me : Peer) (key : Int) (most : Int) (t32 : List Peer) (t33 : Int) (t34 : Int) (r2 : List Peer) (r3 : List Peer) : Option (((List Peer) × (List Peer))) :=
  bif Ops.std.ilt t34 t33 then
    (xget ePeer t32 t34).bind fun x =>
    (IndexFunc_Peer r2 x.id x.addr).bind fun res =>
    bif Ops.std.ieq res t34 then
      bif Ops.std.ieq x.addr me.addr then fings_Hops_l1 me key most t32 t33 (Ops.std.iadd .i64 t34 1) r2 r3 else
      (ring_Between me.id x.id key).bind fun res1 =>
      bif res1 then
        bif xroom ePeer 16 r3 [x] then
          fings_Hops_l1 me key most t32 t33 (Ops.std.iadd .i64 t34 1) r2 (r3 ++ [x])
        else
          none
      else
        fings_Hops_l1 me key most t32 t33 (Ops.std.iadd .i64 t34 1) r2 r3
    else
      fings_Hops_l1 me key most t32 t33 (Ops.std.iadd .i64 t34 1) r2 r3
  else
    some (r2, r3)
theorem fings_Hops_l1_r {me key most t32 t33 t34 r2 r3 r} (h : fings_Hops_l1_b me key most t32 t33 t34 r2 r3 = some r) : fings_Hops_l1 me key most t32 t33 t34 r2 r3 = some r := by
  unfold fings_Hops_l1_b at h
  refine asks_of fun γ => ?_
  rcases cond_some h with ⟨h1, h⟩ | ⟨h1, h⟩
  obtain ⟨x, h2, h⟩ := bind_ask h
  obtain ⟨res, h3, h⟩ := bind_ask h
  rcases cond_some h with ⟨h4, h⟩ | ⟨h4, h⟩
  rcases cond_some h with ⟨h5, h⟩ | ⟨h5, h⟩
  replace h := asks_some h (gam [0, (γ 1), (γ 2), (γ 3)]); obtain ⟨γ', h0⟩ := h; refine ⟨γ', round_lim ?_⟩; rotate_left
  obtain ⟨res1, h6, h⟩ := bind_ask h
  rcases cond_some h with ⟨h7, h⟩ | ⟨h7, h⟩
  obtain ⟨h8, h⟩ := need_some h
  replace h := asks_some h (gam [0, (γ 1), (γ 2), ((γ 3) + 1)]); obtain ⟨γ', h0⟩ := h; refine ⟨γ', round_lim ?_⟩; rotate_left
  replace h := asks_some h (gam [0, (γ 1), (γ 2), (γ 3)]); obtain ⟨γ', h0⟩ := h; refine ⟨γ', round_lim ?_⟩; rotate_left
  replace h := asks_some h (gam [0, (γ 1), (γ 2), (γ 3)]); obtain ⟨γ', h0⟩ := h; refine ⟨γ', round_lim ?_⟩; rotate_left
  cases h; refine ⟨gam [0, (γ 1), (γ 2), (γ 3)], round_lim ?_⟩; rotate_left
  all_goals (dsimp only [IndexFunc_Peer_e, R1, fings_Hops_l1_x] at *; show roundAs IF_ _ _ b192_1 b192_1F _ = _; generalize b192_1 = c0 at *; exact fin_)
noncomputable def fings_Hops_b (me : Peer) (l : List Entry) (f : List Finger) (key : Int) (most : Int) : Option ((List Peer)) :=
  (peers_Firm l).bind fun res =>
  (fings_Hops_l0 me f key most 0 res).bind fun r2 =>
  (fings_Hops_l1 me key most r2 (xlen ePeer r2) 0 r2 []).bind fun ⟨r21, r3⟩ =>
  (xsrt ePeer me.id r3).bind fun out =>
  bif Ops.std.ilt most 0 then
    bif Ops.std.ilt 0 (xlen ePeer out) then
      (xsub ePeer out 0 0).bind fun ys =>
      some ys
    else
      (xsub ePeer out 0 (xlen ePeer out)).bind fun ys =>
      some ys
  else
    bif Ops.std.ilt most (xlen ePeer out) then
      (xsub ePeer out 0 most).bind fun ys =>
      some ys
    else
      (xsub ePeer out 0 (xlen ePeer out)).bind fun ys =>
      some ys
theorem fings_Hops_r {me l f key most r} (h : fings_Hops_b me l f key most = some r) : fings_Hops me l f key most = some r := by
  unfold fings_Hops_b at h
  refine ask_of ?_
  obtain ⟨res, h1, h⟩ := bind_ask h
  obtain ⟨r2, γ2, h2, h⟩ := bind_asks h (gam [0, 0, 0])
  obtain ⟨r3, γ3, h3, h⟩ := bind_asks h (gam [0, (γ2 1), (γ2 2), 0])
  rcases r3 with ⟨r21, r3⟩
  obtain ⟨out, h4, h⟩ := bind_ask h
  rcases cond_some h with ⟨h5, h⟩ | ⟨h5, h⟩
  rcases cond_some h with ⟨h6, h⟩ | ⟨h6, h⟩
  obtain ⟨ys, h7, h⟩ := bind_ask h
  cases h; refine call_lim rfl ?_; rotate_left
  obtain ⟨ys, h7, h⟩ := bind_ask h
  cases h; refine call_lim rfl ?_; rotate_left
  rcases cond_some h with ⟨h6, h⟩ | ⟨h6, h⟩
  obtain ⟨ys, h7, h⟩ := bind_ask h
  cases h; refine call_lim rfl ?_; rotate_left
  obtain ⟨ys, h7, h⟩ := bind_ask h
  cases h; refine call_lim rfl ?_; rotate_left
  all_goals (dsimp only [K1, R1, fings_Hops_l0_x, fings_Hops_l1_x] at *; show runFn IF_ (g192F b192_0 b192_1) _ _ = _; generalize b192_0 = c0, b192_1 = c1 at *; exact fin_)
noncomputable def peers_some_l0_x (γ : Nat → Nat) : (List Peer) → X × St
  | a0 => (.brk 0, ⟨bd 5 (.sl 1 ((γ 1)) :: bd 18 []), [.row 25 (γ 0) false (List.map ePeer []), .row 25 (γ 1) false (List.map ePeer a0)]⟩)
instance : InjS peers_some_l0_x := ⟨fun γ γ' x y h => by
  rcases x with a0 <;> rcases y with a0' <;> simp only [peers_some_l0_x] at h <;> exact inj_⟩
noncomputable def peers_some_l0 (l : List Entry) (t10 : Int) (r1 : List Peer) : Option ((List Peer)) := asks (fun γ => (lim F pr).loop [9, 8, 1, 10, 5] 2 b145_0 ⟨bd 1 (.fn 193 [] :: bd 3 (.sl 1 ((γ 1)) :: bd 2 (.lit 81 false (List.map eEntry l) :: vI (xlen eEntry l) :: vI t10 :: bd 13 []))), [.row 25 (γ 0) false (List.map ePeer []), .row 25 (γ 1) false (List.map ePeer r1)]⟩) peers_some_l0_x
noncomputable def peers_some_l0_b (l : List Entry) (t10 : Int) (r1 : List Peer) : Option ((List Peer)) :=
  bif Ops.std.ilt t10 (xlen eEntry l) then
    (xget eEntry l t10).bind fun x =>
    (peers_All_1 x).bind fun res =>
    bif res then
      bif xroom ePeer 16 r1 [x.peer] then peers_some_l0 l (Ops.std.iadd .i64 t10 1) (r1 ++ [x.peer]) else
      none
    else
      peers_some_l0 l (Ops.std.iadd .i64 t10 1) r1
  else
    some r1
theorem peers_some_l0_r {l t10 r1 r} (h : peers_some_l0_b l t10 r1 = some r) : peers_some_l0 l t10 r1 = some r := by
  unfold peers_some_l0_b at h
  refine asks_of fun γ => ?_
  rcases cond_some h with ⟨h1, h⟩ | ⟨h1, h⟩
  obtain ⟨x, h2, h⟩ := bind_ask h
  obtain ⟨res, h3, h⟩ := bind_ask h
  rcases cond_some h with ⟨h4, h⟩ | ⟨h4, h⟩
  obtain ⟨h5, h⟩ := need_some h
  replace h := asks_some h (gam [(γ 0), ((γ 1) + 1)]); obtain ⟨γ', h0⟩ := h; refine ⟨γ', round_lim ?_⟩; rotate_left
  replace h := asks_some h (gam [(γ 0), (γ 1)]); obtain ⟨γ', h0⟩ := h; refine ⟨γ', round_lim ?_⟩; rotate_left
  cases h; refine ⟨gam [(γ 0), (γ 1)], round_lim ?_⟩; rotate_left
  all_goals (dsimp only [R1, peers_some_l0_x] at *; show roundAs IF_ _ _ b145_0 b145_0F _ = _; generalize b145_0 = c0 at *; exact fin_)
noncomputable def peers_some_b (l : List Entry) : Option ((List Peer)) :=
  peers_some_l0 l 0 []
theorem peers_some_r {l r} (h : peers_some_b l = some r) : peers_some l = some r := by
  unfold peers_some_b at h
  refine ask_of ?_
  obtain ⟨γ1, h1⟩ := asks_some h (gam [0, 0])
  rcases r with r1
  refine call_lim rfl ?_; rotate_left
  all_goals (dsimp only [K1, peers_some_l0_x] at *; show runFn IF_ (g145F b145_0) _ _ = _; generalize b145_0 = c0 at *; exact fin_)
noncomputable def ring_Dist_b (a : Int) (b : Int) : Option (Int) :=
  some (Ops.std.isub .u64 b a)
theorem ring_Dist_r {a b r} (h : ring_Dist_b a b = some r) : ring_Dist a b = some r := by
  unfold ring_Dist_b at h
  refine ask_of ?_
  cases h; refine call_lim rfl ?_; rotate_left
  all_goals (dsimp only [R1] at *; show runFn IF_ g166F _ _ = _; exact fin_)
noncomputable def hash_Sum_l0_x (γ : Nat → Nat) : Int → X × St
  | a0 => (.brk 0, ⟨bd 3 (vU a0 :: bd 15 []), []⟩)
instance : InjS hash_Sum_l0_x := ⟨fun γ γ' x y h => by
  rcases x with a0 <;> rcases y with a0' <;> simp only [hash_Sum_l0_x] at h <;> exact inj_⟩
noncomputable def hash_Sum_l0 (s : ByteArray) (n : Int) (t7 : Int) : Option (Int) := asks (fun γ => (lim F pr).loop [6, 0, 7, 3] 0 b156_0 ⟨vT s :: bd 2 (vU n :: bd 2 (vI (Ops.std.slen s) :: vI t7 :: bd 11 [])), []⟩) hash_Sum_l0_x
noncomputable def hash_Sum_l0_b (s : ByteArray) (n : Int) (t7 : Int) : Option (Int) :=
  bif Ops.std.ilt t7 (Ops.std.slen s) then
    (xsget s t7).bind fun b =>
    hash_Sum_l0 s (Ops.std.imul .u64 (Ops.std.ibit .xor .u64 n (Ops.std.iwrap .u64 b)) 1099511628211) (Ops.std.iadd .i64 t7 1)
  else
    some n
theorem hash_Sum_l0_r {s n t7 r} (h : hash_Sum_l0_b s n t7 = some r) : hash_Sum_l0 s n t7 = some r := by
  unfold hash_Sum_l0_b at h
  refine asks_of fun γ => ?_
  rcases cond_some h with ⟨h1, h⟩ | ⟨h1, h⟩
  obtain ⟨b, h2, h⟩ := bind_some h
  replace h := asks_some h (gam []); obtain ⟨γ', h0⟩ := h; refine ⟨γ', round_lim ?_⟩; rotate_left
  cases h; refine ⟨gam [], round_lim ?_⟩; rotate_left
  all_goals (dsimp only [hash_Sum_l0_x] at *; show roundAs IF_ _ _ b156_0 b156_0F _ = _; generalize b156_0 = c0 at *; exact fin_)
noncomputable def hash_Sum_b (s : ByteArray) : Option (Int) :=
  hash_Sum_l0 s 14695981039346656037 0
theorem hash_Sum_r {s r} (h : hash_Sum_b s = some r) : hash_Sum s = some r := by
  unfold hash_Sum_b at h
  refine ask_of ?_
  obtain ⟨γ1, h1⟩ := asks_some h (gam [])
  rcases r with n
  refine call_lim rfl ?_; rotate_left
  all_goals (dsimp only [R1, hash_Sum_l0_x] at *; show runFn IF_ (g156F b156_0) _ _ = _; generalize b156_0 = c0 at *; exact fin_)
noncomputable def hash_Mix_b (u : Int) : Option (Int) :=
  bif Ops.std.ilt 30 0 then none else
  bif Ops.std.ilt 27 0 then none else
  bif Ops.std.ilt 31 0 then none else
  some (Ops.std.ibit .xor .u64 (Ops.std.imul .u64 (Ops.std.ibit .xor .u64 (Ops.std.imul .u64 (Ops.std.ibit .xor .u64 u (Ops.std.ishr .u64 u 30)) 13787848793156543929) (Ops.std.ishr .u64 (Ops.std.imul .u64 (Ops.std.ibit .xor .u64 u (Ops.std.ishr .u64 u 30)) 13787848793156543929) 27)) 10723151780598845931) (Ops.std.ishr .u64 (Ops.std.imul .u64 (Ops.std.ibit .xor .u64 (Ops.std.imul .u64 (Ops.std.ibit .xor .u64 u (Ops.std.ishr .u64 u 30)) 13787848793156543929) (Ops.std.ishr .u64 (Ops.std.imul .u64 (Ops.std.ibit .xor .u64 u (Ops.std.ishr .u64 u 30)) 13787848793156543929) 27)) 10723151780598845931) 31))
theorem hash_Mix_r {u r} (h : hash_Mix_b u = some r) : hash_Mix u = some r := by
  unfold hash_Mix_b at h
  refine ask_of ?_
  obtain ⟨h1, h⟩ := need_some' h
  obtain ⟨h2, h⟩ := need_some' h
  obtain ⟨h3, h⟩ := need_some' h
  cases h; refine call_lim rfl ?_; rotate_left
  all_goals (dsimp only [R1] at *; show runFn IF_ g155F _ _ = _; exact fin_)
noncomputable def store_place_b (l : List Pair) (key : ByteArray) : Option (Int) :=
  IndexFunc_Pair_2 l key
theorem store_place_r {l key r} (h : store_place_b l key = some r) : store_place l key = some r := by
  unfold store_place_b at h
  refine ask_of ?_
  have h1 := ask_some h
  rcases r with res
  refine call_lim rfl ?_; rotate_left
  all_goals (dsimp only [IndexFunc_Pair_2_e, R1] at *; show runFn IF_ g141F _ _ = _; exact fin_)
noncomputable def store_Put_1_b (p : Pair) (b0 : ByteArray) : Option (Bool) :=
  some (Ops.std.slt b0 p.key)
theorem store_Put_1_r {p b0 r} (h : store_Put_1_b p b0 = some r) : store_Put_1 p b0 = some r := by
  unfold store_Put_1_b at h
  refine ask_of ?_
  cases h; refine call_lim rfl ?_; rotate_left
  all_goals (dsimp only [store_Put_1_e] at *; show runFn IF_ g143F _ _ = _; exact fin_)
noncomputable def IndexFunc_Pair_1_l0_x (b0 : ByteArray) (γ : Nat → Nat) : Int ⊕ Unit → X × St
  | .inl a0 => (.ret, ⟨bd 4 (vI a0 :: bd 14 []), [.box 9 [vT b0]]⟩)
  | .inr () => (.brk 0, ⟨bd 19 [], [.box 9 [vT b0]]⟩)
instance {b0} : InjS (IndexFunc_Pair_1_l0_x b0) := ⟨fun γ γ' x y h => by
  rcases x with a0 | _ <;> rcases y with a0' | _ <;> simp only [IndexFunc_Pair_1_l0_x] at h <;> exact inj_⟩
noncomputable def IndexFunc_Pair_1_l0 (s : List Pair) (b0 : ByteArray) (t8 : Int) : Option (Int ⊕ Unit) := asks (fun γ => (lim F pr).loop [7, 1, 0, 8] 1 b142_0 ⟨.lit 78 false (List.map ePair s) :: .fn 143 [.bptr 0 0] :: bd 5 (vI (xlen ePair s) :: vI t8 :: bd 10 []), [.box 9 [vT b0]]⟩) (IndexFunc_Pair_1_l0_x b0)
noncomputable def IndexFunc_Pair_1_l0_b (s : List Pair) (b0 : ByteArray) (t8 : Int) : Option (Int ⊕ Unit) :=
  bif Ops.std.ilt t8 (xlen ePair s) then
    (xget ePair s t8).bind fun x =>
    (store_Put_1 x b0).bind fun res =>
    bif res then some (.inl t8) else
    IndexFunc_Pair_1_l0 s b0 (Ops.std.iadd .i64 t8 1)
  else
    some (.inr ())
theorem IndexFunc_Pair_1_l0_r {s b0 t8 r} (h : IndexFunc_Pair_1_l0_b s b0 t8 = some r) : IndexFunc_Pair_1_l0 s b0 t8 = some r := by
  unfold IndexFunc_Pair_1_l0_b at h
  refine asks_of fun γ => ?_
  rcases cond_some h with ⟨h1, h⟩ | ⟨h1, h⟩
  obtain ⟨x, h2, h⟩ := bind_ask h
  obtain ⟨res, h3, h⟩ := bind_ask h
  rcases cond_some h with ⟨h4, h⟩ | ⟨h4, h⟩
  cases h; refine ⟨gam [], round_lim ?_⟩; rotate_left
  replace h := asks_some h (gam []); obtain ⟨γ', h0⟩ := h; refine ⟨γ', round_lim ?_⟩; rotate_left
  cases h; refine ⟨gam [], round_lim ?_⟩; rotate_left
  all_goals (dsimp only [IndexFunc_Pair_1_l0_x, store_Put_1_e] at *; show roundAs IF_ _ _ b142_0 b142_0F _ = _; generalize b142_0 = c0 at *; exact fin_)
noncomputable def IndexFunc_Pair_1_b (s : List Pair) (b0 : ByteArray) : Option (Int) :=
  (IndexFunc_Pair_1_l0 s b0 0).bind fun r => match r with
    | .inl t4 =>
      some t4
    | .inr () =>
      some (-1)
theorem IndexFunc_Pair_1_r {s b0 r} (h : IndexFunc_Pair_1_b s b0 = some r) : IndexFunc_Pair_1 s b0 = some r := by
  unfold IndexFunc_Pair_1_b at h
  refine ask_of ?_
  obtain ⟨r1, γ1, h1, h⟩ := bind_asks h (gam [])
  rcases r1 with t4 | _
  cases h; refine call_lim rfl ?_; rotate_left
  cases h; refine call_lim rfl ?_; rotate_left
  all_goals (dsimp only [IndexFunc_Pair_1_e, IndexFunc_Pair_1_l0_x] at *; show runFn IF_ (g142F b142_0) _ _ = _; generalize b142_0 = c0 at *; exact fin_)
noncomputable def r03_Upto_b (a : Int) (x : Int) (b : Int) : Option (Bool) :=
  bif Ops.std.ilt a b then
    bif Ops.std.ilt a x then some (Ops.std.ile x b) else
    some false
  else
    bif Ops.std.ilt b a then
      bif Ops.std.ilt a x then some true else
      some (Ops.std.ile x b)
    else
      some true
theorem r03_Upto_r {a x b r} (h : r03_Upto_b a x b = some r) : r03_Upto a x b = some r := by
  unfold r03_Upto_b at h
  refine ask_of ?_
  rcases cond_some h with ⟨h1, h⟩ | ⟨h1, h⟩
  rcases cond_some h with ⟨h2, h⟩ | ⟨h2, h⟩
  cases h; refine call_lim rfl ?_; rotate_left
  cases h; refine call_lim rfl ?_; rotate_left
  rcases cond_some h with ⟨h2, h⟩ | ⟨h2, h⟩
  rcases cond_some h with ⟨h3, h⟩ | ⟨h3, h⟩
  cases h; refine call_lim rfl ?_; rotate_left
  cases h; refine call_lim rfl ?_; rotate_left
  cases h; refine call_lim rfl ?_; rotate_left
  all_goals (dsimp only [R1] at *; show runFn IF_ g134F _ _ = _; exact fin_)
noncomputable def r28_Hops_l0_x (me : Peer) (key : Int) (most : Int) (γ : Nat → Nat) : (List Peer) → X × St
  | a0 => (.brk 0, ⟨bd 3 (vU key :: vI most :: .bptr 0 0 :: bd 5 (.sl 2 ((γ 2)) :: bd 125 [])), [.box 25 [vU me.id, vH me.addr], .row 25 (γ 1) false (List.map ePeer []), .row 25 (γ 2) false (List.map ePeer a0)]⟩)
instance {me key most} : InjS (r28_Hops_l0_x me key most) := ⟨fun γ γ' x y h => by
  rcases x with a0 <;> rcases y with a0' <;> simp only [r28_Hops_l0_x] at h <;> exact inj_⟩
noncomputable def r28_Hops_l0 (me : Peer) (f : List Finger) (key : Int) (most : Int) (i : Int) (r2 : List Peer) : Option ((List Peer)) := asks (fun γ => (lim F pr).loop [2, 12, 11, 3, 5, 4] 3 b135_0 ⟨bd 2 (.lit 84 false (List.map eFinger f) :: vU key :: vI most :: .bptr 0 0 :: bd 5 (.sl 2 ((γ 2)) :: vI i :: bd 124 [])), [.box 25 [vU me.id, vH me.addr], .row 25 (γ 1) false (List.map ePeer []), .row 25 (γ 2) false (List.map ePeer r2)]⟩) (r28_Hops_l0_x me key most)
abbrev r28_Hops_l3_T := ((List Peer) × (List Peer) × (List Peer))
noncomputable def r28_Hops_l3_x (me : Peer) (most : Int) (γ : Nat → Nat) : r28_Hops_l3_T → X × St
  | (a0, a1, a2) => (.brk 2, ⟨bd 4 (vI most :: bd 9 (.lit 25 false (List.map ePeer a0) :: bd 122 [])), [.box 25 [vU me.id, vH me.addr], .row 25 (γ 1) false (List.map ePeer []), .row 25 (γ 2) false (List.map ePeer a1), .row 25 (γ 3) false (List.map ePeer a2)]⟩)
instance {me most} : InjS (r28_Hops_l3_x me most) := ⟨fun γ γ' x y h => by
  rcases x with ⟨a0, a1, a2⟩ <;> rcases y with ⟨a0', a1', a2'⟩ <;> simp only [r28_Hops_l3_x] at h <;> exact inj_⟩
noncomputable def r28_Hops_l3 (me : Peer) (key : Int) (most : Int) (out : List Peer) (i : Int) (r2 : List Peer) (r3 : List Peer) : Option (r28_Hops_l3_T) := asks (fun γ => (lim F pr).loop [11, 13, 3, 5, 15, 4, 14] 4 b135_3 ⟨bd 3 (vU key :: vI most :: .bptr 0 0 :: bd 5 (.sl 2 ((γ 2)) :: bd 1 (.sl 3 ((γ 3)) :: .lit 25 false (List.map ePeer out) :: vI i :: bd 121 []))), [.box 25 [vU me.id, vH me.addr], .row 25 (γ 1) false (List.map ePeer []), .row 25 (γ 2) false (List.map ePeer r2), .row 25 (γ 3) false (List.map ePeer r3)]⟩) (r28_Hops_l3_x me most)
abbrev r28_Hops_s2_T := ((List Peer) × Int × (List Peer) × (List Peer) × Int × Int) ⊕ ((List Peer) × Int × (List Peer) × (List Peer) × Int × Int)
noncomputable def r28_Hops_s2_x (me : Peer) (key : Int) (most : Int) (γ : Nat → Nat) : r28_Hops_s2_T → X × St
  | .inl (a0, a1, a2, a3, a4, a5) => (.nor, ⟨bd 3 (vU key :: vI most :: .bptr 0 0 :: bd 5 (.sl 2 ((γ 2)) :: bd 1 (.sl 3 ((γ 3)) :: .lit 25 false (List.map ePeer a0) :: vI a1 :: bd 121 []))), [.box 25 [vU me.id, vH me.addr], .row 25 (γ 1) false (List.map ePeer []), .row 25 (γ 2) false (List.map ePeer a2), .row 25 (γ 3) false (List.map ePeer a3), .box 25 [vU a4, vH a5]]⟩)
  | .inr (b0, b1, b2, b3, b4, b5) => (.brk 3, ⟨bd 3 (vU key :: vI most :: .bptr 0 0 :: bd 5 (.sl 2 ((γ 2)) :: bd 1 (.sl 3 ((γ 3)) :: .lit 25 false (List.map ePeer b0) :: vI b1 :: bd 121 []))), [.box 25 [vU me.id, vH me.addr], .row 25 (γ 1) false (List.map ePeer []), .row 25 (γ 2) false (List.map ePeer b2), .row 25 (γ 3) false (List.map ePeer b3), .box 25 [vU b4, vH b5]]⟩)
instance {me key most} : InjS (r28_Hops_s2_x me key most) := ⟨fun γ γ' x y h => by
  rcases x with ⟨a0, a1, a2, a3, a4, a5⟩ | ⟨b0, b1, b2, b3, b4, b5⟩ <;> rcases y with ⟨a0', a1', a2', a3', a4', a5'⟩ | ⟨b0', b1', b2', b3', b4', b5'⟩ <;> simp only [r28_Hops_s2_x] at h <;> exact inj_⟩
noncomputable def r28_Hops_s2 (me : Peer) (key : Int) (most : Int) (out : List Peer) (i : Int) (r2 : List Peer) (r3 : List Peer) (b4_id : Int) (b4_addr : Int) : Option (r28_Hops_s2_T) := asks (fun γ => (lim F pr).seg [15, 11, 13, 3, 5, 4, 14] b135_2 ⟨bd 3 (vU key :: vI most :: .bptr 0 0 :: bd 5 (.sl 2 ((γ 2)) :: bd 1 (.sl 3 ((γ 3)) :: .lit 25 false (List.map ePeer out) :: vI i :: .bptr 4 0 :: bd 120 []))), [.box 25 [vU me.id, vH me.addr], .row 25 (γ 1) false (List.map ePeer []), .row 25 (γ 2) false (List.map ePeer r2), .row 25 (γ 3) false (List.map ePeer r3), .box 25 [vU b4_id, vH b4_addr]]⟩) (r28_Hops_s2_x me key most)
abbrev r28_Hops_l1_T := ((List Peer) × Int × Int × (List Peer) × (List Peer) × Int × Int)
noncomputable def r28_Hops_l1_x (me : Peer) (key : Int) (most : Int) (γ : Nat → Nat) : r28_Hops_l1_T → X × St
  | (a0, a1, a2, a3, a4, a5, a6) => (.brk 4, ⟨bd 3 (vU key :: vI most :: .bptr 0 0 :: bd 5 (.sl 2 ((γ 2)) :: bd 1 (.sl 3 ((γ 3)) :: .lit 25 false (List.map ePeer a0) :: vI a1 :: .bptr 4 0 :: vI a2 :: bd 119 []))), [.box 25 [vU me.id, vH me.addr], .row 25 (γ 1) false (List.map ePeer []), .row 25 (γ 2) false (List.map ePeer a3), .row 25 (γ 3) false (List.map ePeer a4), .box 25 [vU a5, vH a6]]⟩)
instance {me key most} : InjS (r28_Hops_l1_x me key most) := ⟨fun γ γ' x y h => by
  rcases x with ⟨a0, a1, a2, a3, a4, a5, a6⟩ <;> rcases y with ⟨a0', a1', a2', a3', a4', a5', a6'⟩ <;> simp only [r28_Hops_l1_x] at h <;> exact inj_⟩
noncomputable def r28_Hops_l1 (me : Peer) (key : Int) (most : Int) (out : List Peer) (i : Int) (at_ : Int) (far : Int) (r2 : List Peer) (r3 : List Peer) (b4_id : Int) (b4_addr : Int) : Option (r28_Hops_l1_T) := asks (fun γ => (lim F pr).loop [18, 16, 14, 17, 15, 11, 13, 3, 5, 4] 5 b135_1 ⟨bd 3 (vU key :: vI most :: .bptr 0 0 :: bd 5 (.sl 2 ((γ 2)) :: bd 1 (.sl 3 ((γ 3)) :: .lit 25 false (List.map ePeer out) :: vI i :: .bptr 4 0 :: vI at_ :: vU far :: bd 118 []))), [.box 25 [vU me.id, vH me.addr], .row 25 (γ 1) false (List.map ePeer []), .row 25 (γ 2) false (List.map ePeer r2), .row 25 (γ 3) false (List.map ePeer r3), .box 25 [vU b4_id, vH b4_addr]]⟩) (r28_Hops_l1_x me key most)
noncomputable def r28_Hops_l0_b (me : Peer) (f : List Finger) (key : Int) (most : Int) (i : Int) (r2 : List Peer) : Option ((List Peer)) :=
  bif Ops.std.ilt i (xlen eFinger f) then
    (xget eFinger f i).bind fun x =>
    bif xroom ePeer 16 r2 [x.peer] then r28_Hops_l0 me f key most (Ops.std.iadd .i64 i 1) (r2 ++ [x.peer]) else
    none
  else
    some r2
theorem r28_Hops_l0_r {me f key most i r2 r} (h : r28_Hops_l0_b me f key most i r2 = some r) : r28_Hops_l0 me f key most i r2 = some r := by
  unfold r28_Hops_l0_b at h
  refine asks_of fun γ => ?_
  rcases cond_some h with ⟨h1, h⟩ | ⟨h1, h⟩
  obtain ⟨x, h2, h⟩ := bind_ask h
  obtain ⟨h3, h⟩ := need_some h
  replace h := asks_some h (gam [0, (γ 1), ((γ 2) + 1)]); obtain ⟨γ', h0⟩ := h; refine ⟨γ', round_lim ?_⟩; rotate_left
  cases h; refine ⟨gam [0, (γ 1), (γ 2)], round_lim ?_⟩; rotate_left
  all_goals (dsimp only [r28_Hops_l0_x] at *; show roundAs IF_ _ _ b135_0 b135_0F _ = _; generalize b135_0 = c0 at *; exact fin_)
noncomputable def r28_Hops_l3_b (me : Peer) (key : Int) (most : Int) (out : List Peer) (i : Int) (r2 : List Peer) (r3 : List Peer) : Option (r28_Hops_l3_T) :=
  bif Ops.std.ilt i (xlen ePeer r2) then
    (xget ePeer r2 i).bind fun x =>
    (r28_there r3 x.addr).bind fun res =>
    bif res then r28_Hops_l3 me key most out (Ops.std.iadd .i64 i 1) r2 r3 else
    bif Ops.std.ieq x.addr me.addr then r28_Hops_l3 me key most out (Ops.std.iadd .i64 i 1) r2 r3 else
    (r28_Hops_s2 me key most out i r2 r3 x.id x.addr).bind fun r => match r with
      | .inl (out1, i1, r21, r31, b4_id, b4_addr) =>
        r28_Hops_l3 me key most out1 (Ops.std.iadd .i64 i1 1) r21 r31
      | .inr (out1, i1, r21, r31, b4_id, b4_addr) =>
        r28_Hops_l3 me key most out1 (Ops.std.iadd .i64 i1 1) r21 r31
  else
    some (out, r2, r3)
theorem r28_Hops_l3_r {me key most out i r2 r3 r} (h : r28_Hops_l3_b me key most out i r2 r3 = some r) : r28_Hops_l3 me key most out i r2 r3 = some r := by
  unfold r28_Hops_l3_b at h
  refine asks_of fun γ => ?_
  rcases cond_some h with ⟨h1, h⟩ | ⟨h1, h⟩
  obtain ⟨x, h2, h⟩ := bind_ask h
  obtain ⟨res, h3, h⟩ := bind_ask h
  rcases cond_some h with ⟨h4, h⟩ | ⟨h4, h⟩
  replace h := asks_some h (gam [0, (γ 1), (γ 2), (γ 3)]); obtain ⟨γ', h0⟩ := h; refine ⟨γ', round_lim ?_⟩; rotate_left
  rcases cond_some h with ⟨h5, h⟩ | ⟨h5, h⟩
  replace h := asks_some h (gam [0, (γ 1), (γ 2), (γ 3)]); obtain ⟨γ', h0⟩ := h; refine ⟨γ', round_lim ?_⟩; rotate_left
  obtain ⟨r6, γ2, h6, h⟩ := bind_asks h (gam [0, (γ 1), (γ 2), (γ 3)])
  rcases r6 with ⟨out1, i1, r21, r31, b4_id, b4_addr⟩ | ⟨out1, i1, r21, r31, b4_id, b4_addr⟩
  replace h := asks_some h (gam [0, (γ2 1), (γ2 2), (γ2 3)]); obtain ⟨γ', h0⟩ := h; refine ⟨γ', round_lim ?_⟩; rotate_left
  replace h := asks_some h (gam [0, (γ2 1), (γ2 2), (γ2 3)]); obtain ⟨γ', h0⟩ := h; refine ⟨γ', round_lim ?_⟩; rotate_left
  cases h; refine ⟨gam [0, (γ 1), (γ 2), (γ 3)], round_lim ?_⟩; rotate_left
  all_goals (dsimp only [R1, r28_Hops_l3_x, r28_Hops_s2_x] at *; show roundAs IF_ _ _ b135_3 (b135_3F b135_2) _ = _; generalize b135_3 = c0, b135_2 = c1 at *; exact fin_)
noncomputable def r28_Hops_s2_b (me : Peer) (key : Int) (most : Int) (out : List Peer) (i : Int) (r2 : List Peer) (r3 : List Peer) (b4_id : Int) (b4_addr : Int) : Option (r28_Hops_s2_T) :=
  bif xroom ePeer 16 r3 [(⟨b4_id, b4_addr⟩ : Peer)] then
    (r03_Between me.id b4_id key).bind fun res =>
    bif res then
      (r03_Dist me.id b4_id).bind fun res1 =>
      (r28_Hops_l1 me key most out i 0 res1 r2 (r3 ++ [(⟨b4_id, b4_addr⟩ : Peer)]) b4_id b4_addr).bind fun ⟨out1, i1, at_, r21, r31, b4_id1, b4_addr1⟩ =>
      (xsub ePeer out1 0 at_).bind fun ys =>
      bif xroom ePeer 16 [] ys then
        bif xroom ePeer 16 ys [(⟨b4_id1, b4_addr1⟩ : Peer)] then
          (xsub ePeer out1 at_ (xlen ePeer out1)).bind fun ys1 =>
          bif xroom ePeer 16 (ys ++ [(⟨b4_id1, b4_addr1⟩ : Peer)]) ys1 then
            some (.inl (((ys ++ [(⟨b4_id1, b4_addr1⟩ : Peer)]) ++ ys1), i1, r21, r31, b4_id1, b4_addr1))
          else
            none
        else
          none
      else
        none
    else
      some (.inr (out, i, r2, (r3 ++ [(⟨b4_id, b4_addr⟩ : Peer)]), b4_id, b4_addr))
  else
    none
theorem r28_Hops_s2_r {me key most out i r2 r3 b4_id b4_addr r} (h : r28_Hops_s2_b me key most out i r2 r3 b4_id b4_addr = some r) : r28_Hops_s2 me key most out i r2 r3 b4_id b4_addr = some r := by
  unfold r28_Hops_s2_b at h
  refine asks_of fun γ => ?_
  obtain ⟨h1, h⟩ := need_some h
  obtain ⟨res, h2, h⟩ := bind_ask h
  rcases cond_some h with ⟨h3, h⟩ | ⟨h3, h⟩
  obtain ⟨res1, h4, h⟩ := bind_ask h
  obtain ⟨r5, γ3, h5, h⟩ := bind_asks h (gam [0, (γ 1), (γ 2), ((γ 3) + 1)])
  rcases r5 with ⟨out1, i1, at_, r21, r31, b4_id1, b4_addr1⟩
  obtain ⟨ys, h6, h⟩ := bind_ask h
  obtain ⟨h7, h⟩ := need_some h
  obtain ⟨h8, h⟩ := need_some h
  obtain ⟨ys1, h9, h⟩ := bind_ask h
  obtain ⟨h10, h⟩ := need_some h
  cases h; refine ⟨gam [0, (γ3 1), (γ3 2), (γ3 3)], seg_lim ?_⟩; rotate_left
  cases h; refine ⟨gam [0, (γ 1), (γ 2), ((γ 3) + 1)], seg_lim ?_⟩; rotate_left
  all_goals (dsimp only [R1, r28_Hops_l1_x, r28_Hops_s2_x] at *; show Ifc.apart IF_ _ (b135_2F b135_1) _ = _; generalize b135_1 = c0 at *; exact fin_)
noncomputable def r28_Hops_l1_b (me : Peer) (key : Int) (most : Int) (out : List Peer) (i : Int) (at_ : Int) (far : Int) (r2 : List Peer) (r3 : List Peer) (b4_id : Int) (b4_addr : Int) : Option (r28_Hops_l1_T) :=
  bif Ops.std.ilt at_ (xlen ePeer out) then
    (xget ePeer out at_).bind fun x =>
    (r03_Dist me.id x.id).bind fun res =>
    bif Ops.std.ilt far res then
      r28_Hops_l1 me key most out i (Ops.std.iadd .i64 at_ 1) far r2 r3 b4_id b4_addr
    else
      bif Ops.std.ieq res far then
        bif Ops.std.ilt x.addr b4_addr then
          r28_Hops_l1 me key most out i (Ops.std.iadd .i64 at_ 1) far r2 r3 b4_id b4_addr
        else
          some (out, i, at_, r2, r3, b4_id, b4_addr)
      else
        some (out, i, at_, r2, r3, b4_id, b4_addr)
  else
    some (out, i, at_, r2, r3, b4_id, b4_addr)
theorem r28_Hops_l1_r {me key most out i at_ far r2 r3 b4_id b4_addr r} (h : r28_Hops_l1_b me key most out i at_ far r2 r3 b4_id b4_addr = some r) : r28_Hops_l1 me key most out i at_ far r2 r3 b4_id b4_addr = some r := by
  unfold r28_Hops_l1_b at h
  refine asks_of fun γ => ?_
  rcases cond_some h with ⟨h1, h⟩ | ⟨h1, h⟩
  obtain ⟨x, h2, h⟩ := bind_ask h
  obtain ⟨res, h3, h⟩ := bind_ask h
  rcases cond_some h with ⟨h4, h⟩ | ⟨h4, h⟩
  replace h := asks_some h (gam [0, (γ 1), (γ 2), (γ 3)]); obtain ⟨γ', h0⟩ := h; refine ⟨γ', round_lim ?_⟩; rotate_left
  rcases cond_some h with ⟨h5, h⟩ | ⟨h5, h⟩
  rcases cond_some h with ⟨h6, h⟩ | ⟨h6, h⟩
  replace h := asks_some h (gam [0, (γ 1), (γ 2), (γ 3)]); obtain ⟨γ', h0⟩ := h; refine ⟨γ', round_lim ?_⟩; rotate_left
  cases h; refine ⟨gam [0, (γ 1), (γ 2), (γ 3)], round_lim ?_⟩; rotate_left
  cases h; refine ⟨gam [0, (γ 1), (γ 2), (γ 3)], round_lim ?_⟩; rotate_left
  cases h; refine ⟨gam [0, (γ 1), (γ 2), (γ 3)], round_lim ?_⟩; rotate_left
  all_goals (dsimp only [R1, r28_Hops_l1_x] at *; show roundAs IF_ _ _ b135_1 b135_1F _ = _; generalize b135_1 = c0 at *; exact fin_)
noncomputable def r28_Hops_b (me : Peer) (l : List Entry) (f : List Finger) (key : Int) (most : Int) : Option ((List Peer)) :=
  (r27_Firm l).bind fun res =>
  (r28_Hops_l0 me f key most 0 res).bind fun r2 =>
  (r28_Hops_l3 me key most [] 0 r2 []).bind fun ⟨out, r21, r3⟩ =>
  bif Ops.std.ilt most 0 then some [] else
  bif Ops.std.ilt most (xlen ePeer out) then
    (xsub ePeer out 0 most).bind fun ys =>
    some ys
  else
    some out
theorem r28_Hops_r {me l f key most r} (h : r28_Hops_b me l f key most = some r) : r28_Hops me l f key most = some r := by
  unfold r28_Hops_b at h
  refine ask_of ?_
  obtain ⟨res, h1, h⟩ := bind_ask h
  obtain ⟨r2, γ2, h2, h⟩ := bind_asks h (gam [0, 0, 0])
  obtain ⟨r3, γ3, h3, h⟩ := bind_asks h (gam [0, (γ2 1), (γ2 2), 0])
  rcases r3 with ⟨out, r21, r3⟩
  rcases cond_some h with ⟨h4, h⟩ | ⟨h4, h⟩
  cases h; refine call_lim rfl ?_; rotate_left
  rcases cond_some h with ⟨h5, h⟩ | ⟨h5, h⟩
  obtain ⟨ys, h6, h⟩ := bind_ask h
  cases h; refine call_lim rfl ?_; rotate_left
  cases h; refine call_lim rfl ?_; rotate_left
  all_goals (dsimp only [K1, R1, r28_Hops_l0_x, r28_Hops_l3_x] at *; show runFn IF_ (g135F b135_0 b135_3) _ _ = _; generalize b135_0 = c0, b135_3 = c1 at *; exact fin_)
end Go.Ab.Tryz
