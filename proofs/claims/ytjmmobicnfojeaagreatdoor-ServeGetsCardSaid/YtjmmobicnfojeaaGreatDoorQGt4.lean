/- Our texts for this statement, merged: what its theorem leads to. -/
import Derived.Test.YtjmmobicnfojeaaGreatDoorQGt1
namespace Go.Ab.Tryz
open Go Go.Ab Go.Proofs
set_option linter.unusedVariables false
set_option linter.unusedSimpArgs false
set_option maxRecDepth 10000
set_option maxHeartbeats 4000000
noncomputable def serve_answer_tell_b (m : Msg) (b0_n : Node) (b0_from_ : Int) (b0_m : Msg) (r1 : List Out) : Option ((List Out)) :=
  bif xroom eOut 136 r1 [(⟨(⟨0, b0_from_⟩ : Peer), (⟨m.kind, b0_m.rid, m.code, m.has, m.id, m.key, m.val, m.peer, m.peers, m.pairs⟩ : Msg)⟩ : Out)] then
    some (r1 ++ [(⟨(⟨0, b0_from_⟩ : Peer), (⟨m.kind, b0_m.rid, m.code, m.has, m.id, m.key, m.val, m.peer, m.peers, m.pairs⟩ : Msg)⟩ : Out)])
  else
    none
theorem serve_answer_tell_r {m b0_n b0_from_ b0_m r1 r} (h : serve_answer_tell_b m b0_n b0_from_ b0_m r1 = some r) : serve_answer_tell m b0_n b0_from_ b0_m r1 = some r := by
  unfold serve_answer_tell_b at h
  refine asks_of fun γ => ?_
  obtain ⟨h1, h⟩ := need_some h
  cases h; refine ⟨gam [0, (γ 1 + 1)], call_lim rfl ?_⟩; rotate_left
  all_goals (dsimp only [serve_answer_tell_e] at *; show runFn IF_ g125F _ _ = _; exact fin_)
noncomputable def serve_answer_nay_b (e_ : Int) (b0_n : Node) (b0_from_ : Int) (b0_m : Msg) (r1 : List Out) : Option ((List Out)) :=
  serve_answer_tell (⟨12, 0, Ops.std.iwrap .u8 e_, false, 0, ⟨#[]⟩, ⟨#[]⟩, (⟨0, 0⟩ : Peer), [], []⟩ : Msg) b0_n b0_from_ b0_m r1
theorem serve_answer_nay_r {e_ b0_n b0_from_ b0_m r1 r} (h : serve_answer_nay_b e_ b0_n b0_from_ b0_m r1 = some r) : serve_answer_nay e_ b0_n b0_from_ b0_m r1 = some r := by
  unfold serve_answer_nay_b at h
  refine asks_of fun γ => ?_
  obtain ⟨γ1, h1⟩ := asks_some h (gam [0, γ 1])
  rcases r with r11
  refine ⟨gam [0, (γ1 1)], call_lim rfl ?_⟩; rotate_left
  all_goals (dsimp only [serve_answer_nay_e, serve_answer_tell_e] at *; show runFn IF_ g123F _ _ = _; exact fin_)
noncomputable def peers_All_b (l : List Entry) : Option ((List Peer)) :=
  peers_some l
theorem peers_All_r {l r} (h : peers_All_b l = some r) : peers_All l = some r := by
  unfold peers_All_b at h
  refine ask_of ?_
  have h1 := ask_some h
  rcases r with res
  refine call_lim rfl ?_; rotate_left
  all_goals (dsimp only [K1, R1] at *; show runFn IF_ g126F _ _ = _; exact fin_)
noncomputable def serve_answer_okay_b (b0_n : Node) (b0_from_ : Int) (b0_m : Msg) (r1 : List Out) : Option ((List Out)) :=
  serve_answer_tell (⟨6, 0, 0, false, 0, ⟨#[]⟩, ⟨#[]⟩, (⟨0, 0⟩ : Peer), [], []⟩ : Msg) b0_n b0_from_ b0_m r1
theorem serve_answer_okay_r {b0_n b0_from_ b0_m r1 r} (h : serve_answer_okay_b b0_n b0_from_ b0_m r1 = some r) : serve_answer_okay b0_n b0_from_ b0_m r1 = some r := by
  unfold serve_answer_okay_b at h
  refine asks_of fun γ => ?_
  obtain ⟨γ1, h1⟩ := asks_some h (gam [0, γ 1])
  rcases r with r11
  refine ⟨gam [0, (γ1 1)], call_lim rfl ?_⟩; rotate_left
  all_goals (dsimp only [serve_answer_okay_e, serve_answer_tell_e] at *; show runFn IF_ g61F _ _ = _; exact fin_)
noncomputable def ring_Between_b (a : Int) (x : Int) (b : Int) : Option (Bool) :=
  bif Ops.std.ieq x a then some false else
  bif Ops.std.ieq a b then some true else
  (ring_Dist a x).bind fun res =>
  (ring_Dist a b).bind fun res1 =>
  some (Ops.std.ilt res res1)
theorem ring_Between_r {a x b r} (h : ring_Between_b a x b = some r) : ring_Between a x b = some r := by
  unfold ring_Between_b at h
  refine ask_of ?_
  rcases cond_some h with ⟨h1, h⟩ | ⟨h1, h⟩
  cases h; refine call_lim rfl ?_; rotate_left
  rcases cond_some h with ⟨h2, h⟩ | ⟨h2, h⟩
  cases h; refine call_lim rfl ?_; rotate_left
  obtain ⟨res, h3, h⟩ := bind_ask h
  obtain ⟨res1, h4, h⟩ := bind_ask h
  cases h; refine call_lim rfl ?_; rotate_left
  all_goals (dsimp only [R1] at *; show runFn IF_ g128F _ _ = _; exact fin_)
noncomputable def hash_Place_b (s : ByteArray) : Option (Int) :=
  (hash_Sum s).bind fun res =>
  hash_Mix res
theorem hash_Place_r {s r} (h : hash_Place_b s = some r) : hash_Place s = some r := by
  unfold hash_Place_b at h
  refine ask_of ?_
  obtain ⟨res, h1, h⟩ := bind_ask h
  have h2 := ask_some h
  rcases r with res1
  refine call_lim rfl ?_; rotate_left
  all_goals (dsimp only [R1] at *; show runFn IF_ g88F _ _ = _; exact fin_)
noncomputable def route_Mine_b (n : Node) (key : Int) : Option (Bool) :=
  (route_Step n key).bind fun ⟨r0, r1, r2⟩ =>
  bif r2 then
    bif Ops.std.ieq r0.id n.me.id then
      bif Ops.std.ieq r0.addr n.me.addr then some true else
      some false
    else
      some false
  else
    some false
theorem route_Mine_r {n key r} (h : route_Mine_b n key = some r) : route_Mine n key = some r := by
  unfold route_Mine_b at h
  refine ask_of ?_
  obtain ⟨r1, h1, h⟩ := bind_ask h
  rcases r1 with ⟨r0, r1, r2⟩
  rcases cond_some h with ⟨h2, h⟩ | ⟨h2, h⟩
  rcases cond_some h with ⟨h3, h⟩ | ⟨h3, h⟩
  rcases cond_some h with ⟨h4, h⟩ | ⟨h4, h⟩
  cases h; refine call_lim rfl ?_; rotate_left
  cases h; refine call_lim rfl ?_; rotate_left
  cases h; refine call_lim rfl ?_; rotate_left
  cases h; refine call_lim rfl ?_; rotate_left
  all_goals (dsimp only [R1, R3] at *; show runFn IF_ g199F _ _ = _; exact fin_)
noncomputable def serve_answer_may_b (b0_n : Node) (b0_from_ : Int) (b0_m : Msg) (r1 : List Out) : Option ((Bool × Node × (List Out))) :=
  bif b0_n.joined then
    (hash_Place b0_m.key).bind fun res =>
    (route_Mine (⟨b0_n.me, b0_n.clock, true, b0_n.pred, b0_n.list, b0_n.fingers, b0_n.store, b0_n.pends, b0_n.jobs, b0_n.results, b0_n.rid, b0_n.jobID, b0_n.nextBit⟩ : Node) res).bind fun res1 =>
    bif res1 then
      some (true, (⟨b0_n.me, b0_n.clock, true, b0_n.pred, b0_n.list, b0_n.fingers, b0_n.store, b0_n.pends, b0_n.jobs, b0_n.results, b0_n.rid, b0_n.jobID, b0_n.nextBit⟩ : Node), r1)
    else
      (serve_answer_nay 14 (⟨b0_n.me, b0_n.clock, true, b0_n.pred, b0_n.list, b0_n.fingers, b0_n.store, b0_n.pends, b0_n.jobs, b0_n.results, b0_n.rid, b0_n.jobID, b0_n.nextBit⟩ : Node) b0_from_ b0_m r1).bind fun r11 =>
      some (false, (⟨b0_n.me, b0_n.clock, true, b0_n.pred, b0_n.list, b0_n.fingers, b0_n.store, b0_n.pends, b0_n.jobs, b0_n.results, b0_n.rid, b0_n.jobID, b0_n.nextBit⟩ : Node), r11)
  else
    (serve_answer_nay 17 (⟨b0_n.me, b0_n.clock, false, b0_n.pred, b0_n.list, b0_n.fingers, b0_n.store, b0_n.pends, b0_n.jobs, b0_n.results, b0_n.rid, b0_n.jobID, b0_n.nextBit⟩ : Node) b0_from_ b0_m r1).bind fun r11 =>
    some (false, (⟨b0_n.me, b0_n.clock, false, b0_n.pred, b0_n.list, b0_n.fingers, b0_n.store, b0_n.pends, b0_n.jobs, b0_n.results, b0_n.rid, b0_n.jobID, b0_n.nextBit⟩ : Node), r11)
theorem serve_answer_may_r {b0_n b0_from_ b0_m r1 r} (h : serve_answer_may_b b0_n b0_from_ b0_m r1 = some r) : serve_answer_may b0_n b0_from_ b0_m r1 = some r := by
  unfold serve_answer_may_b at h
  refine asks_of fun γ => ?_
  rcases cond_some h with ⟨h1, h⟩ | ⟨h1, h⟩
  obtain ⟨res, h2, h⟩ := bind_ask h
  obtain ⟨res1, h3, h⟩ := bind_ask h
  rcases cond_some h with ⟨h4, h⟩ | ⟨h4, h⟩
  cases h; refine ⟨gam [0, γ 1], call_lim rfl ?_⟩; rotate_left
  obtain ⟨r11, γ3, h5, h⟩ := bind_asks h (gam [0, γ 1])
  cases h; refine ⟨gam [0, (γ3 1)], call_lim rfl ?_⟩; rotate_left
  obtain ⟨r11, γ1, h2, h⟩ := bind_asks h (gam [0, γ 1])
  cases h; refine ⟨gam [0, (γ1 1)], call_lim rfl ?_⟩; rotate_left
  all_goals (dsimp only [R1, serve_answer_may_e, serve_answer_nay_e] at *; show runFn IF_ g131F _ _ = _; (try dsimp only [ePeer, eEntry, eFinger, ePair, ePend, eJob, eResult, eNode, eMsg, eOut, eServe_answer, eMsg_kind, cNode, cMsg, capp] at *); (try simp only [List.map_cons, List.map_nil] at *); (try generalize b0_n.joined = q0 at *); exact fin_)
noncomputable def serve_answer_put_b (b0_n : Node) (b0_from_ : Int) (b0_m : Msg) (r1 : List Out) : Option ((Node × (List Out))) :=
  (serve_answer_may b0_n b0_from_ b0_m r1).bind fun ⟨res, b0_n1, r11⟩ =>
  bif res then
    (serve_Keep b0_n1 b0_m.key b0_m.val).bind fun ⟨r0, r12, r2⟩ =>
    bif Ops.std.ieq r2 0 then
      (serve_answer_okay b0_n1 b0_from_ b0_m r11).bind fun r13 =>
      bif xroom eOut 136 r13 r12 then some (r0, (r13 ++ r12)) else
      none
    else
      (serve_answer_nay r2 b0_n1 b0_from_ b0_m r11).bind fun r13 =>
      some (b0_n1, r13)
  else
    some (b0_n1, r11)
theorem serve_answer_put_r {b0_n b0_from_ b0_m r1 r} (h : serve_answer_put_b b0_n b0_from_ b0_m r1 = some r) : serve_answer_put b0_n b0_from_ b0_m r1 = some r := by
  unfold serve_answer_put_b at h
  refine asks_of fun γ => ?_
  obtain ⟨r1, γ1, h1, h⟩ := bind_asks h (gam [0, γ 1])
  rcases r1 with ⟨res, b0_n1, r11⟩
  rcases cond_some h with ⟨h2, h⟩ | ⟨h2, h⟩
  obtain ⟨r3, h3, h⟩ := bind_ask h
  rcases r3 with ⟨r0, r12, r2⟩
  rcases cond_some h with ⟨h4, h⟩ | ⟨h4, h⟩
  obtain ⟨r13, γ3, h5, h⟩ := bind_asks h (gam [0, (γ1 1)])
  obtain ⟨h6, h⟩ := need_some h
  cases h; refine ⟨gam [0, ((γ3 1) + 1)], call_lim rfl ?_⟩; rotate_left
  obtain ⟨r13, γ3, h5, h⟩ := bind_asks h (gam [0, (γ1 1)])
  cases h; refine ⟨gam [0, (γ3 1)], call_lim rfl ?_⟩; rotate_left
  cases h; refine ⟨gam [0, (γ1 1)], call_lim rfl ?_⟩; rotate_left
  all_goals (dsimp only [R3, serve_answer_may_e, serve_answer_nay_e, serve_answer_okay_e, serve_answer_put_e] at *; show runFn IF_ g58F _ _ = _; exact fin_)
noncomputable def store_Get_b (l : List Pair) (key : ByteArray) : Option ((ByteArray × Bool)) :=
  (store_place l key).bind fun res =>
  bif Ops.std.ilt res 0 then some (⟨#[]⟩, false) else
  (xget ePair l res).bind fun x =>
  some (x.val, true)
theorem store_Get_r {l key r} (h : store_Get_b l key = some r) : store_Get l key = some r := by
  unfold store_Get_b at h
  refine ask_of ?_
  obtain ⟨res, h1, h⟩ := bind_ask h
  rcases cond_some h with ⟨h2, h⟩ | ⟨h2, h⟩
  cases h; refine call_lim rfl ?_; rotate_left
  obtain ⟨x, h3, h⟩ := bind_ask h
  cases h; refine call_lim rfl ?_; rotate_left
  all_goals (dsimp only [R1, R2] at *; show runFn IF_ g132F _ _ = _; exact fin_)
noncomputable def serve_answer_get_b (b0_n : Node) (b0_from_ : Int) (b0_m : Msg) (r1 : List Out) : Option ((Node × (List Out))) :=
  (serve_answer_may b0_n b0_from_ b0_m r1).bind fun ⟨res, b0_n1, r11⟩ =>
  bif res then
    (store_Get b0_n1.store b0_m.key).bind fun ⟨r0, r12⟩ =>
    (serve_answer_tell (⟨9, 0, 0, r12, 0, ⟨#[]⟩, r0, (⟨0, 0⟩ : Peer), [], []⟩ : Msg) b0_n1 b0_from_ b0_m r11).bind fun r13 =>
    some (b0_n1, r13)
  else
    some (b0_n1, r11)
theorem serve_answer_get_r {b0_n b0_from_ b0_m r1 r} (h : serve_answer_get_b b0_n b0_from_ b0_m r1 = some r) : serve_answer_get b0_n b0_from_ b0_m r1 = some r := by
  unfold serve_answer_get_b at h
  refine asks_of fun γ => ?_
  obtain ⟨r1, γ1, h1, h⟩ := bind_asks h (gam [0, γ 1])
  rcases r1 with ⟨res, b0_n1, r11⟩
  rcases cond_some h with ⟨h2, h⟩ | ⟨h2, h⟩
  obtain ⟨r3, h3, h⟩ := bind_ask h
  rcases r3 with ⟨r0, r12⟩
  obtain ⟨r13, γ3, h4, h⟩ := bind_asks h (gam [0, (γ1 1)])
  cases h; refine ⟨gam [0, (γ3 1)], call_lim rfl ?_⟩; rotate_left
  cases h; refine ⟨gam [0, (γ1 1)], call_lim rfl ?_⟩; rotate_left
  all_goals (dsimp only [R2, serve_answer_get_e, serve_answer_may_e, serve_answer_tell_e] at *; show runFn IF_ g59F _ _ = _; exact fin_)
noncomputable def store_Put_s0_x (key : ByteArray) (γ : Nat → Nat) : (List Pair) → X × St
  | a0 => (.ret, ⟨bd 6 (.sl 2 ((γ 2)) :: vI 0 :: bd 45 []), [.box 9 [vT key], .row 78 (γ 1) false (List.map ePair []), .row 78 (γ 2) false (List.map ePair a0)]⟩)
instance {key} : InjS (store_Put_s0_x key) := ⟨fun γ γ' x y h => by
  rcases x with a0 <;> rcases y with a0' <;> simp only [store_Put_s0_x] at h <;> exact inj_⟩
noncomputable def store_Put_s0 (l : List Pair) (key : ByteArray) (val : ByteArray) : Option ((List Pair)) := asks (fun γ => (lim F pr).seg [6, 7] b75_0 ⟨bd 2 (vT val :: bd 1 (.bptr 0 0 :: bd 3 (.sl 2 ((γ 2)) :: bd 44 []))), [.box 9 [vT key], .row 78 (γ 1) false (List.map ePair []), .row 78 (γ 2) false (List.map ePair l)]⟩) (store_Put_s0_x key)
noncomputable def store_Put_s0_b (l : List Pair) (key : ByteArray) (val : ByteArray) : Option ((List Pair)) :=
  (IndexFunc_Pair_1 l key).bind fun res =>
  bif Ops.std.ilt res 0 then
    bif xroom ePair 32 l [(⟨key, val⟩ : Pair)] then
      (xsub ePair l 0 (xlen ePair l)).bind fun ys =>
      (xsub ePair l (xlen ePair l) (xlen ePair l)).bind fun ys1 =>
      some (ys ++ ([(⟨key, val⟩ : Pair)] ++ ys1))
    else
      none
  else
    bif xroom ePair 32 l [(⟨key, val⟩ : Pair)] then
      (xsub ePair l 0 res).bind fun ys =>
      (xsub ePair l res (xlen ePair l)).bind fun ys1 =>
      some (ys ++ ([(⟨key, val⟩ : Pair)] ++ ys1))
    else
      none
theorem store_Put_s0_r {l key val r} (h : store_Put_s0_b l key val = some r) : store_Put_s0 l key val = some r := by
  unfold store_Put_s0_b at h
  refine asks_of fun γ => ?_
  obtain ⟨res, h1, h⟩ := bind_ask h
  rcases cond_some h with ⟨h2, h⟩ | ⟨h2, h⟩
  obtain ⟨h3, h⟩ := need_some h
  obtain ⟨ys, h4, h⟩ := bind_ask h
  obtain ⟨ys1, h5, h⟩ := bind_ask h
  cases h; refine ⟨gam [0, (γ 1), ((γ 2) + 1)], seg_lim ?_⟩; rotate_left
  obtain ⟨h3, h⟩ := need_some h
  obtain ⟨ys, h4, h⟩ := bind_ask h
  obtain ⟨ys1, h5, h⟩ := bind_ask h
  cases h; refine ⟨gam [0, (γ 1), ((γ 2) + 1)], seg_lim ?_⟩; rotate_left
  all_goals (dsimp only [IndexFunc_Pair_1_e, store_Put_s0_x] at *; show Ifc.apart IF_ _ b75_0F _ = _; exact fin_)
noncomputable def store_Put_b (l : List Pair) (key : ByteArray) (val : ByteArray) : Option (((List Pair) × Int)) :=
  bif xroom ePair 32 [] l then
    (store_place l key).bind fun res =>
    (msg_Key key).bind fun res1 =>
    bif res1 then
      bif Ops.std.ilt 512 (Ops.std.slen val) then some (l, 5) else
      bif Ops.std.ile 0 res then
        (xget ePair l res).bind fun x =>
        some (xset l res (⟨x.key, val⟩ : Pair), 0)
      else
        bif Ops.std.ile 64 (xlen ePair l) then some (l, 10) else
        (store_Put_s0 l key val).bind fun r2 =>
        some (r2, 0)
    else
      some (l, 7)
  else
    none
theorem store_Put_r {l key val r} (h : store_Put_b l key val = some r) : store_Put l key val = some r := by
  unfold store_Put_b at h
  refine ask_of ?_
  obtain ⟨h1, h⟩ := need_some h
  obtain ⟨res, h2, h⟩ := bind_ask h
  obtain ⟨res1, h3, h⟩ := bind_ask h
  rcases cond_some h with ⟨h4, h⟩ | ⟨h4, h⟩
  rcases cond_some h with ⟨h5, h⟩ | ⟨h5, h⟩
  cases h; refine call_lim rfl ?_; rotate_left
  rcases cond_some h with ⟨h6, h⟩ | ⟨h6, h⟩
  obtain ⟨x, h7, h⟩ := bind_ask h
  cases h; refine call_lim rfl ?_; rotate_left
  rcases cond_some h with ⟨h7, h⟩ | ⟨h7, h⟩
  cases h; refine call_lim rfl ?_; rotate_left
  obtain ⟨r2, γ3, h8, h⟩ := bind_asks h (gam [0, 0, 0])
  cases h; refine call_lim rfl ?_; rotate_left
  cases h; refine call_lim rfl ?_; rotate_left
  all_goals (dsimp only [R1, R2, store_Put_s0_x] at *; show runFn IF_ (g75F b75_0) _ _ = _; generalize b75_0 = c0 at *; exact fin_)
abbrev r32_Step_s1_T := (Int × Int × (List Peer)) ⊕ ((List Peer) × (List Peer))
noncomputable def r32_Step_s1_x (n : Node) (γ : Nat → Nat) : r32_Step_s1_T → X × St
  | .inl (a0, a1, a2) => (.ret, ⟨bd 4 (.bptr 1 0 :: .sl 4 ((γ 4)) :: vF true :: bd 71 []), [.box 34 (cNode n), .box 25 [vU a0, vH a1], .row 25 (γ 2) false (List.map ePeer []), .row 25 (γ 3) false (List.map ePeer a2), .row 25 (γ 4) false (List.map ePeer [])]⟩)
  | .inr (b0, b1) => (.ret, ⟨bd 4 (.bptr 1 0 :: .lit 25 false (List.map ePeer b0) :: vF false :: bd 71 []), [.box 34 (cNode n), .box 25 [vU 0, vH 0], .row 25 (γ 2) false (List.map ePeer []), .row 25 (γ 3) false (List.map ePeer b1)]⟩)
instance {n} : InjS (r32_Step_s1_x n) := ⟨fun γ γ' x y h => by
  rcases x with ⟨a0, a1, a2⟩ | ⟨b0, b1⟩ <;> rcases y with ⟨a0', a1', a2'⟩ | ⟨b0', b1'⟩ <;> simp only [r32_Step_s1_x] at h <;> exact inj_⟩
noncomputable def r32_Step_s1 (n : Node) (key : Int) (r3 : List Peer) : Option (r32_Step_s1_T) := asks (fun γ => (lim F pr).seg [4, 5, 6] b63_1 ⟨bd 1 (vU key :: .bptr 0 0 :: bd 1 (.bptr 1 0 :: bd 2 (.sl 3 ((γ 3)) :: bd 70 []))), [.box 34 (cNode n), .box 25 [vU 0, vH 0], .row 25 (γ 2) false (List.map ePeer []), .row 25 (γ 3) false (List.map ePeer r3)]⟩) (r32_Step_s1_x n)
abbrev r32_Step_s0_T := (List Peer) ⊕ ((List Peer) × (List Peer))
noncomputable def r32_Step_s0_x (n : Node) (γ : Nat → Nat) : r32_Step_s0_T → X × St
  | .inl a0 => (.ret, ⟨bd 4 (.bptr 1 0 :: .sl 4 ((γ 4)) :: vF true :: bd 71 []), [.box 34 (cNode n), .box 25 [vU n.me.id, vH n.me.addr], .row 25 (γ 2) false (List.map ePeer []), .row 25 (γ 3) false (List.map ePeer a0), .row 25 (γ 4) false (List.map ePeer [])]⟩)
  | .inr (b0, b1) => (.ret, ⟨bd 4 (.bptr 1 0 :: .lit 25 false (List.map ePeer b0) :: vF false :: bd 71 []), [.box 34 (cNode n), .box 25 [vU 0, vH 0], .row 25 (γ 2) false (List.map ePeer []), .row 25 (γ 3) false (List.map ePeer b1)]⟩)
instance {n} : InjS (r32_Step_s0_x n) := ⟨fun γ γ' x y h => by
  rcases x with a0 | ⟨b0, b1⟩ <;> rcases y with a0' | ⟨b0', b1'⟩ <;> simp only [r32_Step_s0_x] at h <;> exact inj_⟩
noncomputable def r32_Step_s0 (n : Node) (key : Int) (r3 : List Peer) : Option (r32_Step_s0_T) := asks (fun γ => (lim F pr).seg [4, 5, 6] b63_0 ⟨bd 1 (vU key :: .bptr 0 0 :: bd 1 (.bptr 1 0 :: bd 73 [])), [.box 34 (cNode n), .box 25 [vU 0, vH 0], .row 25 (γ 2) false (List.map ePeer []), .row 25 (γ 3) false (List.map ePeer r3)]⟩) (r32_Step_s0_x n)
noncomputable def r32_Step_s1_b (n : Node) (key : Int) (r3 : List Peer) : Option (r32_Step_s1_T) :=
  (xget ePeer r3 0).bind fun x =>
  (r03_Upto n.me.id key x.id).bind fun res =>
  bif res then some (.inl (x.id, x.addr, r3)) else
  bif Ops.std.ilt 0 (xlen eEntry n.pred) then
    (xget eEntry n.pred 0).bind fun x1 =>
    bif Ops.std.ilt x1.misses 1 then
      (r03_Upto x1.peer.id key n.me.id).bind fun res1 =>
      bif res1 then some (.inl (n.me.id, n.me.addr, r3)) else
      (r32_Step_s0 n key r3).bind fun r => match r with
        | .inl r31 =>
          some (.inl (n.me.id, n.me.addr, r31))
        | .inr (t5, r31) =>
          some (.inr (t5, r31))
    else
      (r32_Step_s0 n key r3).bind fun r => match r with
        | .inl r31 =>
          some (.inl (n.me.id, n.me.addr, r31))
        | .inr (t5, r31) =>
          some (.inr (t5, r31))
  else
    (r32_Step_s0 n key r3).bind fun r => match r with
      | .inl r31 =>
        some (.inl (n.me.id, n.me.addr, r31))
      | .inr (t5, r31) =>
        some (.inr (t5, r31))
theorem r32_Step_s1_r {n key r3 r} (h : r32_Step_s1_b n key r3 = some r) : r32_Step_s1 n key r3 = some r := by
  unfold r32_Step_s1_b at h
  refine asks_of fun γ => ?_
  obtain ⟨x, h1, h⟩ := bind_ask h
  obtain ⟨res, h2, h⟩ := bind_ask h
  rcases cond_some h with ⟨h3, h⟩ | ⟨h3, h⟩
  cases h; refine ⟨gam [0, 0, (γ 2), (γ 3), 0], seg_lim ?_⟩; rotate_left
  rcases cond_some h with ⟨h4, h⟩ | ⟨h4, h⟩
  obtain ⟨x1, h5, h⟩ := bind_ask h
  rcases cond_some h with ⟨h6, h⟩ | ⟨h6, h⟩
  obtain ⟨res1, h7, h⟩ := bind_ask h
  rcases cond_some h with ⟨h8, h⟩ | ⟨h8, h⟩
  cases h; refine ⟨gam [0, 0, (γ 2), (γ 3), 0], seg_lim ?_⟩; rotate_left
  obtain ⟨r9, γ3, h9, h⟩ := bind_asks h (gam [0, 0, (γ 2), (γ 3)])
  rcases r9 with r31 | ⟨t5, r31⟩
  cases h; refine ⟨gam [0, 0, (γ3 2), (γ3 3), (γ3 4)], seg_lim ?_⟩; rotate_left
  cases h; refine ⟨gam [0, 0, (γ3 2), (γ3 3)], seg_lim ?_⟩; rotate_left
  obtain ⟨r7, γ2, h7, h⟩ := bind_asks h (gam [0, 0, (γ 2), (γ 3)])
  rcases r7 with r31 | ⟨t5, r31⟩
  cases h; refine ⟨gam [0, 0, (γ2 2), (γ2 3), (γ2 4)], seg_lim ?_⟩; rotate_left
  cases h; refine ⟨gam [0, 0, (γ2 2), (γ2 3)], seg_lim ?_⟩; rotate_left
  obtain ⟨r5, γ2, h5, h⟩ := bind_asks h (gam [0, 0, (γ 2), (γ 3)])
  rcases r5 with r31 | ⟨t5, r31⟩
  cases h; refine ⟨gam [0, 0, (γ2 2), (γ2 3), (γ2 4)], seg_lim ?_⟩; rotate_left
  cases h; refine ⟨gam [0, 0, (γ2 2), (γ2 3)], seg_lim ?_⟩; rotate_left
  all_goals (dsimp only [R1, r32_Step_s0_x, r32_Step_s1_x] at *; show Ifc.apart IF_ _ (b63_1F b63_0) _ = _; generalize b63_0 = c0 at *; exact fin_)
noncomputable def r32_Step_s0_b (n : Node) (key : Int) (r3 : List Peer) : Option (r32_Step_s0_T) :=
  (r28_Hops n.me n.list n.fingers key 4).bind fun res =>
  bif Ops.std.ieq (xlen ePeer res) 0 then some (.inl r3) else
  some (.inr (res, r3))
theorem r32_Step_s0_r {n key r3 r} (h : r32_Step_s0_b n key r3 = some r) : r32_Step_s0 n key r3 = some r := by
  unfold r32_Step_s0_b at h
  refine asks_of fun γ => ?_
  obtain ⟨res, h1, h⟩ := bind_ask h
  rcases cond_some h with ⟨h2, h⟩ | ⟨h2, h⟩
  cases h; refine ⟨gam [0, 0, (γ 2), (γ 3), 0], seg_lim ?_⟩; rotate_left
  cases h; refine ⟨gam [0, 0, (γ 2), (γ 3)], seg_lim ?_⟩; rotate_left
  all_goals (dsimp only [R1, r32_Step_s0_x] at *; show Ifc.apart IF_ _ b63_0F _ = _; exact fin_)
noncomputable def r32_Step_b (n : Node) (key : Int) : Option ((Peer × (List Peer) × Bool)) :=
  (r27_Firm n.list).bind fun res =>
  bif Ops.std.ieq (xlen ePeer res) 0 then some (n.me, [], true) else
  bif Ops.std.ieq key n.me.id then some (n.me, [], true) else
  (r32_Step_s1 n key res).bind fun r => match r with
    | .inl (b1_id, b1_addr, r3) =>
      some ((⟨b1_id, b1_addr⟩ : Peer), [], true)
    | .inr (t5, r3) =>
      some ((⟨0, 0⟩ : Peer), t5, false)
theorem r32_Step_r {n key r} (h : r32_Step_b n key = some r) : r32_Step n key = some r := by
  unfold r32_Step_b at h
  refine ask_of ?_
  obtain ⟨res, h1, h⟩ := bind_ask h
  rcases cond_some h with ⟨h2, h⟩ | ⟨h2, h⟩
  cases h; refine call_lim rfl ?_; rotate_left
  rcases cond_some h with ⟨h3, h⟩ | ⟨h3, h⟩
  cases h; refine call_lim rfl ?_; rotate_left
  obtain ⟨r4, γ2, h4, h⟩ := bind_asks h (gam [0, 0, 0, 0])
  rcases r4 with ⟨b1_id, b1_addr, r3⟩ | ⟨t5, r3⟩
  cases h; refine call_lim rfl ?_; rotate_left
  cases h; refine call_lim rfl ?_; rotate_left
  all_goals (dsimp only [K1, R3, r32_Step_s1_x] at *; show runFn IF_ (g63F b63_1) _ _ = _; generalize b63_1 = c0 at *; exact fin_)
end Go.Ab.Tryz
