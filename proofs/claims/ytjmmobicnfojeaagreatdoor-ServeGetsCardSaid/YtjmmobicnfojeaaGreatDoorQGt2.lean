/- Our texts for this statement, merged: what its theorem leads to. -/
import Derived.Test.YtjmmobicnfojeaaGreatDoorQGt1
namespace Go.Ab.Tryz
open Go Go.Ab Go.Proofs
set_option linter.unusedVariables false
set_option linter.unusedSimpArgs false
set_option maxRecDepth 10000
set_option maxHeartbeats 4000000
noncomputable def w33_ServeGets_s1_x (n : Node) (γ : Nat → Nat) : Bool → X × St
  | a0 => (.ret, ⟨bd 8 (vF a0 :: bd 105 []), [.box 34 (cNode n)]⟩)
instance {n} : InjS (w33_ServeGets_s1_x n) := ⟨fun γ γ' x y h => by
  rcases x with a0 <;> rcases y with a0' <;> simp only [w33_ServeGets_s1_x] at h <;> exact inj_⟩
noncomputable def w33_ServeGets_s1 (n : Node) (from_ : Int) (key : ByteArray) (val : ByteArray) : Option (Bool) := asks (fun γ => (lim F pr).seg [8] b5_1 ⟨bd 1 (vH from_ :: vT key :: vT val :: .bptr 0 0 :: bd 109 []), [.box 34 (cNode n)]⟩) (w33_ServeGets_s1_x n)
noncomputable def w33_ServeGets_s0_x (n : Node) (γ : Nat → Nat) : (Bool × Node × Node) → X × St
  | (a0, a1, a2) => (.ret, ⟨bd 8 (vF a0 :: bd 105 []), [.box 34 (cNode n), .box 34 (cNode a1), .box 34 (cNode a2)]⟩)
instance {n} : InjS (w33_ServeGets_s0_x n) := ⟨fun γ γ' x y h => by
  rcases x with ⟨a0, a1, a2⟩ <;> rcases y with ⟨a0', a1', a2'⟩ <;> simp only [w33_ServeGets_s0_x] at h <;> exact inj_⟩
noncomputable def w33_ServeGets_s0 (n : Node) (val : ByteArray) (out : List Out) (told : List Out) (b1 : Node) (b2 : Node) : Option ((Bool × Node × Node)) := asks (fun γ => (lim F pr).seg [8] b5_0 ⟨bd 3 (vT val :: bd 6 (.lit 56 false (List.map eOut out) :: bd 1 (.lit 56 false (List.map eOut told) :: bd 101 []))), [.box 34 (cNode n), .box 34 (cNode b1), .box 34 (cNode b2)]⟩) (w33_ServeGets_s0_x n)
noncomputable def w33_ServeGets_s1_b (n : Node) (from_ : Int) (key : ByteArray) (val : ByteArray) : Option (Bool) :=
  (serve_Answer n from_ (⟨7, 0, 0, false, 0, key, val, (⟨0, 0⟩ : Peer), [], []⟩ : Msg)).bind fun ⟨r0, r1⟩ =>
  (serve_Answer r0 from_ (⟨8, 0, 0, false, 0, key, ⟨#[]⟩, (⟨0, 0⟩ : Peer), [], []⟩ : Msg)).bind fun ⟨r01, r11⟩ =>
  bif Ops.std.ieq (xlen eOut r1) 0 then some false else
  bif Ops.std.ieq (xlen eOut r11) 1 then
    (r30_Same r0 r01).bind fun res =>
    bif res then
      (w33_ServeGets_s0 n val r1 r11 r0 r01).bind fun ⟨t8, b1, b2⟩ =>
      some t8
    else
      some false
  else
    some false
theorem w33_ServeGets_s1_r {n from_ key val r} (h : w33_ServeGets_s1_b n from_ key val = some r) : w33_ServeGets_s1 n from_ key val = some r := by
  unfold w33_ServeGets_s1_b at h
  refine asks_of fun γ => ?_
  obtain ⟨r1, h1, h⟩ := bind_ask h
  rcases r1 with ⟨r0, r1⟩
  obtain ⟨r2, h2, h⟩ := bind_ask h
  rcases r2 with ⟨r01, r11⟩
  rcases cond_some h with ⟨h3, h⟩ | ⟨h3, h⟩
  cases h; refine ⟨gam [], seg_lim ?_⟩; rotate_left
  rcases cond_some h with ⟨h4, h⟩ | ⟨h4, h⟩
  obtain ⟨res, h5, h⟩ := bind_ask h
  rcases cond_some h with ⟨h6, h⟩ | ⟨h6, h⟩
  obtain ⟨r7, γ4, h7, h⟩ := bind_asks h (gam [])
  rcases r7 with ⟨t8, b1, b2⟩
  cases h; refine ⟨gam [], seg_lim ?_⟩; rotate_left
  cases h; refine ⟨gam [], seg_lim ?_⟩; rotate_left
  cases h; refine ⟨gam [], seg_lim ?_⟩; rotate_left
  all_goals (dsimp only [R1, R2, w33_ServeGets_s0_x, w33_ServeGets_s1_x] at *; show Ifc.apart IF_ _ (b5_1F b5_0) _ = _; generalize b5_0 = c0 at *; exact fin_)
noncomputable def w33_ServeGets_s0_b (n : Node) (val : ByteArray) (out : List Out) (told : List Out) (b1 : Node) (b2 : Node) : Option ((Bool × Node × Node)) :=
  (xget eOut out 0).bind fun x =>
  (xget eOut told 0).bind fun x1 =>
  bif Ops.std.ieq x.msg.kind 6 then
    bif Ops.std.ieq x1.msg.kind 9 then
      bif x1.msg.has then
        bif Ops.std.seq x1.msg.val val then
          (w33_awake).bind fun res =>
          some (res, b1, b2)
        else
          some (false, b1, b2)
      else
        some (false, b1, b2)
    else
      some (false, b1, b2)
  else
    bif Ops.std.ieq x.msg.kind 12 then
      bif Ops.std.ieq x.msg.code 17 then
        bif Ops.std.ieq x1.msg.kind 12 then
          bif Ops.std.ieq x1.msg.code x.msg.code then
            (w33_awake).bind fun res =>
            some (res, b1, b2)
          else
            some (false, b1, b2)
        else
          some (false, b1, b2)
      else
        bif Ops.std.ieq x.msg.code 14 then
          bif Ops.std.ieq x1.msg.kind 12 then
            bif Ops.std.ieq x1.msg.code x.msg.code then
              (w33_awake).bind fun res =>
              some (res, b1, b2)
            else
              some (false, b1, b2)
          else
            some (false, b1, b2)
        else
          (w33_awake).bind fun res =>
          some (res, b1, b2)
    else
      some (false, b1, b2)
theorem w33_ServeGets_s0_r {n val out told b1 b2 r} (h : w33_ServeGets_s0_b n val out told b1 b2 = some r) : w33_ServeGets_s0 n val out told b1 b2 = some r := by
  unfold w33_ServeGets_s0_b at h
  refine asks_of fun γ => ?_
  obtain ⟨x, h1, h⟩ := bind_ask h
  obtain ⟨x1, h2, h⟩ := bind_ask h
  rcases cond_some h with ⟨h3, h⟩ | ⟨h3, h⟩
  rcases cond_some h with ⟨h4, h⟩ | ⟨h4, h⟩
  rcases cond_some h with ⟨h5, h⟩ | ⟨h5, h⟩
  rcases cond_some h with ⟨h6, h⟩ | ⟨h6, h⟩
  obtain ⟨res, h7, h⟩ := bind_ask h
  cases h; refine ⟨gam [], seg_lim ?_⟩; rotate_left
  cases h; refine ⟨gam [], seg_lim ?_⟩; rotate_left
  cases h; refine ⟨gam [], seg_lim ?_⟩; rotate_left
  cases h; refine ⟨gam [], seg_lim ?_⟩; rotate_left
  rcases cond_some h with ⟨h4, h⟩ | ⟨h4, h⟩
  rcases cond_some h with ⟨h5, h⟩ | ⟨h5, h⟩
  rcases cond_some h with ⟨h6, h⟩ | ⟨h6, h⟩
  rcases cond_some h with ⟨h7, h⟩ | ⟨h7, h⟩
  obtain ⟨res, h8, h⟩ := bind_ask h
  cases h; refine ⟨gam [], seg_lim ?_⟩; rotate_left
  cases h; refine ⟨gam [], seg_lim ?_⟩; rotate_left
  cases h; refine ⟨gam [], seg_lim ?_⟩; rotate_left
  rcases cond_some h with ⟨h6, h⟩ | ⟨h6, h⟩
  rcases cond_some h with ⟨h7, h⟩ | ⟨h7, h⟩
  rcases cond_some h with ⟨h8, h⟩ | ⟨h8, h⟩
  obtain ⟨res, h9, h⟩ := bind_ask h
  cases h; refine ⟨gam [], seg_lim ?_⟩; rotate_left
  cases h; refine ⟨gam [], seg_lim ?_⟩; rotate_left
  cases h; refine ⟨gam [], seg_lim ?_⟩; rotate_left
  obtain ⟨res, h7, h⟩ := bind_ask h
  cases h; refine ⟨gam [], seg_lim ?_⟩; rotate_left
  cases h; refine ⟨gam [], seg_lim ?_⟩; rotate_left
  all_goals (dsimp only [R1, w33_ServeGets_s0_x] at *; show Ifc.apart IF_ _ b5_0F _ = _; (try dsimp only [ePeer, eEntry, eFinger, ePair, ePend, eJob, eResult, eNode, eMsg, eOut, eServe_answer, eMsg_kind, cNode, cMsg, capp] at *); (try simp only [List.map_cons, List.map_nil] at *); (try generalize x1.msg.has = q0 at *); exact fin_)
noncomputable def w33_ServeGets_b (n : Node) (from_ : Int) (key : ByteArray) (val : ByteArray) : Option (Bool) :=
  (w30_Large n).bind fun res =>
  bif res then w33_awake else
  (msg_Key key).bind fun res1 =>
  bif res1 then
    bif Ops.std.ilt 512 (Ops.std.slen val) then w33_awake else
    w33_ServeGets_s1 n from_ key val
  else
    w33_awake
theorem w33_ServeGets_r {n from_ key val r} (h : w33_ServeGets_b n from_ key val = some r) : w33_ServeGets n from_ key val = some r := by
  unfold w33_ServeGets_b at h
  refine ask_of ?_
  obtain ⟨res, h1, h⟩ := bind_ask h
  rcases cond_some h with ⟨h2, h⟩ | ⟨h2, h⟩
  have h3 := ask_some h
  rcases r with res1
  refine call_lim rfl ?_; rotate_left
  obtain ⟨res1, h3, h⟩ := bind_ask h
  rcases cond_some h with ⟨h4, h⟩ | ⟨h4, h⟩
  rcases cond_some h with ⟨h5, h⟩ | ⟨h5, h⟩
  have h6 := ask_some h
  rcases r with res2
  refine call_lim rfl ?_; rotate_left
  obtain ⟨γ3, h6⟩ := asks_some h (gam [])
  rcases r with t8
  refine call_lim rfl ?_; rotate_left
  have h5 := ask_some h
  rcases r with res2
  refine call_lim rfl ?_; rotate_left
  all_goals (dsimp only [R1, w33_ServeGets_s1_x] at *; show runFn IF_ (g5F b5_1) _ _ = _; generalize b5_1 = c0 at *; exact fin_)
noncomputable def w30_Large_s2_x (n : Node) (γ : Nat → Nat) : Bool → X × St
  | a0 => (.ret, ⟨bd 2 (vF a0 :: bd 91 []), [.box 34 (cNode n)]⟩)
instance {n} : InjS (w30_Large_s2_x n) := ⟨fun γ γ' x y h => by
  rcases x with a0 <;> rcases y with a0' <;> simp only [w30_Large_s2_x] at h <;> exact inj_⟩
noncomputable def w30_Large_s2 (n : Node) : Option (Bool) := asks (fun γ => (lim F pr).seg [2] b11_2 ⟨bd 1 (.bptr 0 0 :: bd 92 []), [.box 34 (cNode n)]⟩) (w30_Large_s2_x n)
noncomputable def w30_Large_l0_x (n : Node) (γ : Nat → Nat) : Unit ⊕ Unit → X × St
  | .inl () => (.ret, ⟨bd 2 (vF true :: bd 91 []), [.box 34 (cNode n)]⟩)
  | .inr () => (.brk 0, ⟨bd 1 (.bptr 0 0 :: bd 92 []), [.box 34 (cNode n)]⟩)
instance {n} : InjS (w30_Large_l0_x n) := ⟨fun γ γ' x y h => by
  rcases x with _ | _ <;> rcases y with _ | _ <;> simp only [w30_Large_l0_x] at h <;> exact inj_⟩
noncomputable def w30_Large_l0 (n : Node) (i : Int) : Option (Unit ⊕ Unit) := asks (fun γ => (lim F pr).loop [3, 1] 1 b11_0 ⟨bd 1 (.bptr 0 0 :: bd 1 (vI i :: bd 90 [])), [.box 34 (cNode n)]⟩) (w30_Large_l0_x n)
noncomputable def w30_Large_l1_x (n : Node) (γ : Nat → Nat) : Unit ⊕ Unit → X × St
  | .inl () => (.ret, ⟨bd 2 (vF true :: bd 91 []), [.box 34 (cNode n)]⟩)
  | .inr () => (.brk 2, ⟨bd 94 [], [.box 34 (cNode n)]⟩)
instance {n} : InjS (w30_Large_l1_x n) := ⟨fun γ γ' x y h => by
  rcases x with _ | _ <;> rcases y with _ | _ <;> simp only [w30_Large_l1_x] at h <;> exact inj_⟩
noncomputable def w30_Large_l1 (n : Node) (i : Int) : Option (Unit ⊕ Unit) := asks (fun γ => (lim F pr).loop [1, 4] 1 b11_1 ⟨bd 1 (.bptr 0 0 :: bd 2 (vI i :: bd 89 [])), [.box 34 (cNode n)]⟩) (w30_Large_l1_x n)
noncomputable def w30_Large_s2_b (n : Node) : Option (Bool) :=
  (w30_Large_l0 n 0).bind fun r => match r with
    | .inl () =>
      some true
    | .inr () =>
      (w30_Large_l1 n 0).bind fun r => match r with
        | .inl () =>
          some true
        | .inr () =>
          some false
theorem w30_Large_s2_r {n r} (h : w30_Large_s2_b n = some r) : w30_Large_s2 n = some r := by
  unfold w30_Large_s2_b at h
  refine asks_of fun γ => ?_
  obtain ⟨r1, γ1, h1, h⟩ := bind_asks h (gam [])
  rcases r1 with _ | _
  cases h; refine ⟨gam [], seg_lim ?_⟩; rotate_left
  obtain ⟨r2, γ2, h2, h⟩ := bind_asks h (gam [])
  rcases r2 with _ | _
  cases h; refine ⟨gam [], seg_lim ?_⟩; rotate_left
  cases h; refine ⟨gam [], seg_lim ?_⟩; rotate_left
  all_goals (dsimp only [w30_Large_l0_x, w30_Large_l1_x, w30_Large_s2_x] at *; show Ifc.apart IF_ _ (b11_2F b11_0 b11_1) _ = _; generalize b11_0 = c0, b11_1 = c1 at *; exact fin_)
noncomputable def w30_Large_l0_b (n : Node) (i : Int) : Option (Unit ⊕ Unit) :=
  bif Ops.std.ilt i (xlen eJob n.jobs) then
    (xget eJob n.jobs i).bind fun x =>
    bif Ops.std.ilt 300 (Ops.std.slen x.key) then some (.inl ()) else
    bif Ops.std.ilt 700 (Ops.std.slen x.val) then some (.inl ()) else
    w30_Large_l0 n (Ops.std.iadd .i64 i 1)
  else
    some (.inr ())
theorem w30_Large_l0_r {n i r} (h : w30_Large_l0_b n i = some r) : w30_Large_l0 n i = some r := by
  unfold w30_Large_l0_b at h
  refine asks_of fun γ => ?_
  rcases cond_some h with ⟨h1, h⟩ | ⟨h1, h⟩
  obtain ⟨x, h2, h⟩ := bind_ask h
  rcases cond_some h with ⟨h3, h⟩ | ⟨h3, h⟩
  cases h; refine ⟨gam [], round_lim ?_⟩; rotate_left
  rcases cond_some h with ⟨h4, h⟩ | ⟨h4, h⟩
  cases h; refine ⟨gam [], round_lim ?_⟩; rotate_left
  replace h := asks_some h (gam []); obtain ⟨γ', h0⟩ := h; refine ⟨γ', round_lim ?_⟩; rotate_left
  cases h; refine ⟨gam [], round_lim ?_⟩; rotate_left
  all_goals (dsimp only [w30_Large_l0_x] at *; show roundAs IF_ _ _ b11_0 b11_0F _ = _; generalize b11_0 = c0 at *; exact fin_)
noncomputable def w30_Large_l1_b (n : Node) (i : Int) : Option (Unit ⊕ Unit) :=
  bif Ops.std.ilt i (xlen eResult n.results) then
    (xget eResult n.results i).bind fun x =>
    bif Ops.std.ilt 300 (Ops.std.slen x.key) then some (.inl ()) else
    bif Ops.std.ilt 700 (Ops.std.slen x.val) then some (.inl ()) else
    w30_Large_l1 n (Ops.std.iadd .i64 i 1)
  else
    some (.inr ())
theorem w30_Large_l1_r {n i r} (h : w30_Large_l1_b n i = some r) : w30_Large_l1 n i = some r := by
  unfold w30_Large_l1_b at h
  refine asks_of fun γ => ?_
  rcases cond_some h with ⟨h1, h⟩ | ⟨h1, h⟩
  obtain ⟨x, h2, h⟩ := bind_ask h
  rcases cond_some h with ⟨h3, h⟩ | ⟨h3, h⟩
  cases h; refine ⟨gam [], round_lim ?_⟩; rotate_left
  rcases cond_some h with ⟨h4, h⟩ | ⟨h4, h⟩
  cases h; refine ⟨gam [], round_lim ?_⟩; rotate_left
  replace h := asks_some h (gam []); obtain ⟨γ', h0⟩ := h; refine ⟨γ', round_lim ?_⟩; rotate_left
  cases h; refine ⟨gam [], round_lim ?_⟩; rotate_left
  all_goals (dsimp only [w30_Large_l1_x] at *; show roundAs IF_ _ _ b11_1 b11_1F _ = _; generalize b11_1 = c0 at *; exact fin_)
noncomputable def w30_Large_b (n : Node) : Option (Bool) :=
  bif Ops.std.ilt 5 (xlen eEntry n.pred) then some true else
  bif Ops.std.ilt 40 (xlen eEntry n.list) then some true else
  bif Ops.std.ilt 80 (xlen eFinger n.fingers) then some true else
  bif Ops.std.ilt 100 (xlen ePend n.pends) then some true else
  bif Ops.std.ilt 20 (xlen eJob n.jobs) then some true else
  bif Ops.std.ilt 40 (xlen eResult n.results) then some true else
  (w29_Large n.store).bind fun res =>
  bif res then some true else
  w30_Large_s2 n
theorem w30_Large_r {n r} (h : w30_Large_b n = some r) : w30_Large n = some r := by
  unfold w30_Large_b at h
  refine ask_of ?_
  rcases cond_some h with ⟨h1, h⟩ | ⟨h1, h⟩
  cases h; refine call_lim rfl ?_; rotate_left
  rcases cond_some h with ⟨h2, h⟩ | ⟨h2, h⟩
  cases h; refine call_lim rfl ?_; rotate_left
  rcases cond_some h with ⟨h3, h⟩ | ⟨h3, h⟩
  cases h; refine call_lim rfl ?_; rotate_left
  rcases cond_some h with ⟨h4, h⟩ | ⟨h4, h⟩
  cases h; refine call_lim rfl ?_; rotate_left
  rcases cond_some h with ⟨h5, h⟩ | ⟨h5, h⟩
  cases h; refine call_lim rfl ?_; rotate_left
  rcases cond_some h with ⟨h6, h⟩ | ⟨h6, h⟩
  cases h; refine call_lim rfl ?_; rotate_left
  obtain ⟨res, h7, h⟩ := bind_ask h
  rcases cond_some h with ⟨h8, h⟩ | ⟨h8, h⟩
  cases h; refine call_lim rfl ?_; rotate_left
  obtain ⟨γ2, h9⟩ := asks_some h (gam [])
  rcases r with t2
  refine call_lim rfl ?_; rotate_left
  all_goals (dsimp only [R1, w30_Large_s2_x] at *; show runFn IF_ (g11F b11_2) _ _ = _; generalize b11_2 = c0 at *; exact fin_)
noncomputable def pend_Copy_b (n : Node) : Option (pend_Copy_T) :=
  bif xroom eEntry 24 [] n.pred then
    bif xroom eEntry 24 [] n.list then
      bif xroom eFinger 24 [] n.fingers then
        bif xroom ePair 32 [] n.store then
          bif xroom ePend 56 [] n.pends then
            bif xroom eJob 128 [] n.jobs then
              bif xroom eResult 64 [] n.results then
                some (n.me.id, n.me.addr, n.clock, n.joined, n.pred, n.list, n.fingers, n.store, n.pends, n.jobs, n.results, n.rid, n.jobID, n.nextBit)
              else
                none
            else
              none
          else
            none
        else
          none
      else
        none
    else
      none
  else
    none
theorem pend_Copy_r {n r} (h : pend_Copy_b n = some r) : pend_Copy n = some r := by
  unfold pend_Copy_b at h
  refine ask_of ?_
  obtain ⟨h1, h⟩ := need_some h
  obtain ⟨h2, h⟩ := need_some h
  obtain ⟨h3, h⟩ := need_some h
  obtain ⟨h4, h⟩ := need_some h
  obtain ⟨h5, h⟩ := need_some h
  obtain ⟨h6, h⟩ := need_some h
  obtain ⟨h7, h⟩ := need_some h
  cases h; refine call_lim rfl ?_; rotate_left
  all_goals (dsimp only [pend_Copy_e] at *; show runFn IF_ g14F _ _ = _; exact fin_)
noncomputable def serve_Answer_b (n : Node) (from_ : Int) (m : Msg) : Option ((Node × (List Out))) :=
  (pend_Copy n).bind fun ⟨res_me_id, res_me_addr, res_clock, res_joined, res_pred, res_list, res_fingers, res_store, res_pends, res_jobs, res_results, res_rid, res_jobID, res_nextBit⟩ =>
  (msg_Asks m.kind).bind fun res =>
  bif res then
    bif Ops.std.ieq m.kind 1 then
      serve_answer_find (⟨(⟨res_me_id, res_me_addr⟩ : Peer), res_clock, res_joined, res_pred, res_list, res_fingers, res_store, res_pends, res_jobs, res_results, res_rid, res_jobID, res_nextBit⟩ : Node) from_ m []
    else
      bif Ops.std.ieq m.kind 3 then
        (serve_answer_ask (⟨(⟨res_me_id, res_me_addr⟩ : Peer), res_clock, res_joined, res_pred, res_list, res_fingers, res_store, res_pends, res_jobs, res_results, res_rid, res_jobID, res_nextBit⟩ : Node) from_ m []).bind fun r1 =>
        some ((⟨(⟨res_me_id, res_me_addr⟩ : Peer), res_clock, res_joined, res_pred, res_list, res_fingers, res_store, res_pends, res_jobs, res_results, res_rid, res_jobID, res_nextBit⟩ : Node), r1)
      else
        bif Ops.std.ieq m.kind 5 then
          serve_answer_note (⟨(⟨res_me_id, res_me_addr⟩ : Peer), res_clock, res_joined, res_pred, res_list, res_fingers, res_store, res_pends, res_jobs, res_results, res_rid, res_jobID, res_nextBit⟩ : Node) from_ m []
        else
          bif Ops.std.ieq m.kind 7 then
            serve_answer_put (⟨(⟨res_me_id, res_me_addr⟩ : Peer), res_clock, res_joined, res_pred, res_list, res_fingers, res_store, res_pends, res_jobs, res_results, res_rid, res_jobID, res_nextBit⟩ : Node) from_ m []
          else
            bif Ops.std.ieq m.kind 8 then
              serve_answer_get (⟨(⟨res_me_id, res_me_addr⟩ : Peer), res_clock, res_joined, res_pred, res_list, res_fingers, res_store, res_pends, res_jobs, res_results, res_rid, res_jobID, res_nextBit⟩ : Node) from_ m []
            else
              bif Ops.std.ieq m.kind 10 then
                (serve_answer_move (⟨(⟨res_me_id, res_me_addr⟩ : Peer), res_clock, res_joined, res_pred, res_list, res_fingers, res_store, res_pends, res_jobs, res_results, res_rid, res_jobID, res_nextBit⟩ : Node) from_ m []).bind fun ⟨b0_n, b0_m, r1⟩ =>
                some (b0_n, r1)
              else
                (serve_answer_okay (⟨(⟨res_me_id, res_me_addr⟩ : Peer), res_clock, res_joined, res_pred, res_list, res_fingers, res_store, res_pends, res_jobs, res_results, res_rid, res_jobID, res_nextBit⟩ : Node) from_ m []).bind fun r1 =>
                some ((⟨(⟨res_me_id, res_me_addr⟩ : Peer), res_clock, res_joined, res_pred, res_list, res_fingers, res_store, res_pends, res_jobs, res_results, res_rid, res_jobID, res_nextBit⟩ : Node), r1)
  else
    some ((⟨(⟨res_me_id, res_me_addr⟩ : Peer), res_clock, res_joined, res_pred, res_list, res_fingers, res_store, res_pends, res_jobs, res_results, res_rid, res_jobID, res_nextBit⟩ : Node), [])
theorem serve_Answer_r {n from_ m r} (h : serve_Answer_b n from_ m = some r) : serve_Answer n from_ m = some r := by
  unfold serve_Answer_b at h
  refine ask_of ?_
  obtain ⟨r1, h1, h⟩ := bind_ask h
  rcases r1 with ⟨res_me_id, res_me_addr, res_clock, res_joined, res_pred, res_list, res_fingers, res_store, res_pends, res_jobs, res_results, res_rid, res_jobID, res_nextBit⟩
  obtain ⟨res, h2, h⟩ := bind_ask h
  rcases cond_some h with ⟨h3, h⟩ | ⟨h3, h⟩
  rcases cond_some h with ⟨h4, h⟩ | ⟨h4, h⟩
  obtain ⟨γ3, h5⟩ := asks_some h (gam [0, 0])
  rcases r with ⟨b0_n, r1⟩
  refine call_lim rfl ?_; rotate_left
  rcases cond_some h with ⟨h5, h⟩ | ⟨h5, h⟩
  obtain ⟨r1, γ3, h6, h⟩ := bind_asks h (gam [0, 0])
  cases h; refine call_lim rfl ?_; rotate_left
  rcases cond_some h with ⟨h6, h⟩ | ⟨h6, h⟩
  obtain ⟨γ3, h7⟩ := asks_some h (gam [0, 0])
  rcases r with ⟨b0_n, r1⟩
  refine call_lim rfl ?_; rotate_left
  rcases cond_some h with ⟨h7, h⟩ | ⟨h7, h⟩
  obtain ⟨γ3, h8⟩ := asks_some h (gam [0, 0])
  rcases r with ⟨b0_n, r1⟩
  refine call_lim rfl ?_; rotate_left
  rcases cond_some h with ⟨h8, h⟩ | ⟨h8, h⟩
  obtain ⟨γ3, h9⟩ := asks_some h (gam [0, 0])
  rcases r with ⟨b0_n, r1⟩
  refine call_lim rfl ?_; rotate_left
  rcases cond_some h with ⟨h9, h⟩ | ⟨h9, h⟩
  obtain ⟨r10, γ3, h10, h⟩ := bind_asks h (gam [0, 0])
  rcases r10 with ⟨b0_n, b0_m, r1⟩
  cases h; refine call_lim rfl ?_; rotate_left
  obtain ⟨r1, γ3, h10, h⟩ := bind_asks h (gam [0, 0])
  cases h; refine call_lim rfl ?_; rotate_left
  cases h; refine call_lim rfl ?_; rotate_left
  all_goals (dsimp only [R1, R2, pend_Copy_e, serve_answer_ask_e, serve_answer_find_e, serve_answer_get_e, serve_answer_move_e, serve_answer_note_e, serve_answer_okay_e, serve_answer_put_e] at *; show runFn IF_ g15F _ _ = _; exact fin_)
end Go.Ab.Tryz
