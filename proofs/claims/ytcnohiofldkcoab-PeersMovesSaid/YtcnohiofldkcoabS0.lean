/- Types, and what each function is asked: printed by a program. -/
import Derived.Test.YtcnohiofldkcoabF
import Derived.Test.YtcnohiofldkcoabPrims
namespace Go.Ab.Try
open Go Go.Ab Go.Proofs
set_option linter.unusedVariables false
set_option linter.unusedSimpArgs false
set_option maxRecDepth 10000

structure Peer where
  id : Int
  addr : Int
  deriving DecidableEq
def ePeer (x : Peer) : AV := .agg [vU x.id, vH x.addr]
theorem Peer.ext' {a b : Peer} : a = b ↔ a.id = b.id ∧ a.addr = b.addr := by cases a; cases b; simp
instance : Inj ePeer := ⟨fun a b h => by
  obtain ⟨_, _⟩ := a; obtain ⟨_, _⟩ := b
  simp only [ePeer, AV.agg.injEq, List.cons.injEq, AV.sc.injEq, Value.int.injEq, Value.bool.injEq, Value.string.injEq, AV.lit.injEq, map_iff, and_true, true_and, and_assoc] at h
  simp only [Peer.mk.injEq, and_assoc]; simpa only [Peer.mk.injEq, and_assoc] using h⟩
theorem ePeer_iff {a b : Peer} : ePeer a = ePeer b ↔ a = b := ⟨Inj.inj a b, fun h => by rw [h]⟩
structure Entry where
  peer : Peer
  misses : Int
  deriving DecidableEq
def eEntry (x : Entry) : AV := .agg [vU x.peer.id, vH x.peer.addr, vI x.misses]
theorem Entry.ext' {a b : Entry} : a = b ↔ a.peer = b.peer ∧ a.misses = b.misses := by cases a; cases b; simp
instance : Inj eEntry := ⟨fun a b h => by
  obtain ⟨⟨_, _⟩, _⟩ := a; obtain ⟨⟨_, _⟩, _⟩ := b
  simp only [eEntry, AV.agg.injEq, List.cons.injEq, AV.sc.injEq, Value.int.injEq, Value.bool.injEq, Value.string.injEq, AV.lit.injEq, map_iff, and_true, true_and, and_assoc] at h
  simp_all⟩
theorem eEntry_iff {a b : Entry} : eEntry a = eEntry b ↔ a = b := ⟨Inj.inj a b, fun h => by rw [h]⟩
noncomputable def w27_PeersMoves (me : Peer) (l : List Entry) (p : Peer) : Option (Bool) := ask (R1 vF) ((lim F pr).call 3 [ePeer me, .lit 41 false (List.map eEntry l), ePeer p] [])
noncomputable def w27_PeersTells (me : Peer) (l : List Entry) (a : Peer) (b : Peer) (key : Int) : Option (Bool) := ask (R1 vF) ((lim F pr).call 4 [ePeer me, .lit 41 false (List.map eEntry l), ePeer a, ePeer b, vU key] [])
noncomputable def w27_PeersStay (me : Peer) (l : List Entry) (p : Peer) : Option (Bool) := ask (R1 vF) ((lim F pr).call 5 [ePeer me, .lit 41 false (List.map eEntry l), ePeer p] [])
noncomputable def w27_awake : Option (Bool) := ask (R1 vF) ((lim F pr).call 7 [] [])
noncomputable def peers_Add (me : Peer) (l : List Entry) (p : Peer) : Option ((List Entry)) := ask (R1 (eL 41 eEntry)) ((lim F pr).call 9 [ePeer me, .lit 41 false (List.map eEntry l), ePeer p] [])
noncomputable def r27_Add (me : Peer) (l : List Entry) (p : Peer) : Option ((List Entry)) := ask (R1 (eL 41 eEntry)) ((lim F pr).call 10 [ePeer me, .lit 41 false (List.map eEntry l), ePeer p] [])
noncomputable def r27_Same (a : List Entry) (b : List Entry) : Option (Bool) := ask (R1 vF) ((lim F pr).call 8 [.lit 41 false (List.map eEntry a), .lit 41 false (List.map eEntry b)] [])
noncomputable def peers_Miss (l : List Entry) (addr : Int) : Option ((List Entry)) := ask (R1 (eL 41 eEntry)) ((lim F pr).call 11 [.lit 41 false (List.map eEntry l), vH addr] [])
noncomputable def r27_Miss (l : List Entry) (addr : Int) : Option ((List Entry)) := ask (R1 (eL 41 eEntry)) ((lim F pr).call 12 [.lit 41 false (List.map eEntry l), vH addr] [])
noncomputable def peers_Drop (l : List Entry) (addr : Int) : Option ((List Entry)) := ask (K1 41 eEntry) ((lim F pr).call 13 [.lit 41 false (List.map eEntry l), vH addr] [])
noncomputable def r27_Drop (l : List Entry) (addr : Int) : Option ((List Entry)) := ask (R1 (eL 41 eEntry)) ((lim F pr).call 14 [.lit 41 false (List.map eEntry l), vH addr] [])
noncomputable def peers_Place (l : List Entry) (addr : Int) : Option (Int) := ask (R1 vI) ((lim F pr).call 15 [.lit 41 false (List.map eEntry l), vH addr] [])
noncomputable def r27_Place (l : List Entry) (addr : Int) : Option (Int) := ask (R1 vI) ((lim F pr).call 16 [.lit 41 false (List.map eEntry l), vH addr] [])
noncomputable def peers_Right (me : Peer) (l : List Entry) : Option (Bool) := ask (R1 vF) ((lim F pr).call 17 [ePeer me, .lit 41 false (List.map eEntry l)] [])
noncomputable def r27_Right (me : Peer) (l : List Entry) : Option (Bool) := ask (R1 vF) ((lim F pr).call 18 [ePeer me, .lit 41 false (List.map eEntry l)] [])
noncomputable def peers_Ahead (me : Peer) (a : Peer) (b : Peer) : Option (Bool) := ask (R1 vF) ((lim F pr).call 19 [ePeer me, ePeer a, ePeer b] [])
noncomputable def r27_Ahead (me : Peer) (a : Peer) (b : Peer) : Option (Bool) := ask (R1 vF) ((lim F pr).call 20 [ePeer me, ePeer a, ePeer b] [])
noncomputable def peers_Owner (me : Peer) (l : List Entry) (key : Int) : Option (Peer) := ask (R1 ePeer) ((lim F pr).call 21 [ePeer me, .lit 41 false (List.map eEntry l), vU key] [])
noncomputable def r27_Owner (me : Peer) (l : List Entry) (key : Int) : Option (Peer) := ask (R1 ePeer) ((lim F pr).call 22 [ePeer me, .lit 41 false (List.map eEntry l), vU key] [])
noncomputable def peers_Firm (l : List Entry) : Option ((List Peer)) := ask (R1 (eL 25 ePeer)) ((lim F pr).call 24 [.lit 41 false (List.map eEntry l)] [])
noncomputable def r27_Firm (l : List Entry) : Option ((List Peer)) := ask (R1 (eL 25 ePeer)) ((lim F pr).call 25 [.lit 41 false (List.map eEntry l)] [])
noncomputable def r08_Peers (a : List Peer) (b : List Peer) : Option (Bool) := ask (R1 vF) ((lim F pr).call 23 [.lit 25 false (List.map ePeer a), .lit 25 false (List.map ePeer b)] [])
noncomputable def peers_All (l : List Entry) : Option ((List Peer)) := ask (R1 (eL 25 ePeer)) ((lim F pr).call 26 [.lit 41 false (List.map eEntry l)] [])
noncomputable def r27_All (l : List Entry) : Option ((List Peer)) := ask (R1 (eL 25 ePeer)) ((lim F pr).call 27 [.lit 41 false (List.map eEntry l)] [])
noncomputable def peers_Add_1_e (b0_id : Int) (b0_addr : Int) (b1_id : Int) (b1_addr : Int) : Bool → AV × Store
  | a0 => (vF a0, [.box 25 [vU b0_id, vH b0_addr], .box 25 [vU b1_id, vH b1_addr]])
instance {b0_id : Int} {b0_addr : Int} {b1_id : Int} {b1_addr : Int} : Inj (peers_Add_1_e b0_id b0_addr b1_id b1_addr) := ⟨fun x y h => by
  rcases x with a0 <;> rcases y with a0' <;> simp only [peers_Add_1_e, Prod.mk.injEq, St.mk.injEq, List.cons.injEq, AV.sc.injEq, AV.agg.injEq, AV.tup.injEq, AV.lit.injEq, AV.sl.injEq, AV.sub.injEq, AV.rptr.injEq, AV.lptr.injEq, AV.bptr.injEq, AV.fn.injEq, Ent.box.injEq, Ent.row.injEq, Value.int.injEq, Value.bool.injEq, Value.string.injEq, bd_inj, map_iff, eL_iff, and_true, true_and, and_assoc, reduceCtorEq, false_and, and_false, ePeer_iff, eEntry_iff] at h <;> simp_all⟩
noncomputable def peers_Add_1 (x : Entry) (b0_id : Int) (b0_addr : Int) (b1_id : Int) (b1_addr : Int) : Option (Bool) := ask (peers_Add_1_e b0_id b0_addr b1_id b1_addr) ((lim F pr).call 39 [eEntry x, .bptr 0 0, .bptr 1 0] [.box 25 [vU b0_id, vH b0_addr], .box 25 [vU b1_id, vH b1_addr]])
noncomputable def IndexFunc_Entry_e (b0_id : Int) (b0_addr : Int) (b1_id : Int) (b1_addr : Int) : Int → AV × Store
  | a0 => (vI a0, [.box 25 [vU b0_id, vH b0_addr], .box 25 [vU b1_id, vH b1_addr]])
instance {b0_id : Int} {b0_addr : Int} {b1_id : Int} {b1_addr : Int} : Inj (IndexFunc_Entry_e b0_id b0_addr b1_id b1_addr) := ⟨fun x y h => by
  rcases x with a0 <;> rcases y with a0' <;> simp only [IndexFunc_Entry_e, Prod.mk.injEq, St.mk.injEq, List.cons.injEq, AV.sc.injEq, AV.agg.injEq, AV.tup.injEq, AV.lit.injEq, AV.sl.injEq, AV.sub.injEq, AV.rptr.injEq, AV.lptr.injEq, AV.bptr.injEq, AV.fn.injEq, Ent.box.injEq, Ent.row.injEq, Value.int.injEq, Value.bool.injEq, Value.string.injEq, bd_inj, map_iff, eL_iff, and_true, true_and, and_assoc, reduceCtorEq, false_and, and_false, ePeer_iff, eEntry_iff] at h <;> simp_all⟩
noncomputable def IndexFunc_Entry (s : List Entry) (b0_id : Int) (b0_addr : Int) (b1_id : Int) (b1_addr : Int) : Option (Int) := ask (IndexFunc_Entry_e b0_id b0_addr b1_id b1_addr) ((lim F pr).call 38 [.lit 41 false (List.map eEntry s), .fn 39 [.bptr 0 0, .bptr 1 0]] [.box 25 [vU b0_id, vH b0_addr], .box 25 [vU b1_id, vH b1_addr]])
noncomputable def Delete_Entry_e (γ : Nat → Nat) : (List Entry) → AV × Store
  | a0 => (.sl 0 ((γ 0)), [.row 41 (γ 0) false (List.map eEntry a0)])
instance : InjS Delete_Entry_e := ⟨fun γ γ' x y h => by
  rcases x with a0 <;> rcases y with a0' <;> simp only [Delete_Entry_e, Prod.mk.injEq, St.mk.injEq, List.cons.injEq, AV.sc.injEq, AV.agg.injEq, AV.tup.injEq, AV.lit.injEq, AV.sl.injEq, AV.sub.injEq, AV.rptr.injEq, AV.lptr.injEq, AV.bptr.injEq, AV.fn.injEq, Ent.box.injEq, Ent.row.injEq, Value.int.injEq, Value.bool.injEq, Value.string.injEq, bd_inj, map_iff, eL_iff, and_true, true_and, and_assoc, reduceCtorEq, false_and, and_false, ePeer_iff, eEntry_iff] at h <;> simp_all⟩
noncomputable def Delete_Entry (i : Int) (j : Int) (r0 : List Entry) : Option ((List Entry)) := asks (fun γ => (lim F pr).call 41 [.sl 0 (γ 0), vI i, vI j] [.row 41 (γ 0) false (List.map eEntry r0)]) Delete_Entry_e
noncomputable def peers_Drop_1_e (b0 : Int) : Bool → AV × Store
  | a0 => (vF a0, [.box 23 [vH b0]])
instance {b0 : Int} : Inj (peers_Drop_1_e b0) := ⟨fun x y h => by
  rcases x with a0 <;> rcases y with a0' <;> simp only [peers_Drop_1_e, Prod.mk.injEq, St.mk.injEq, List.cons.injEq, AV.sc.injEq, AV.agg.injEq, AV.tup.injEq, AV.lit.injEq, AV.sl.injEq, AV.sub.injEq, AV.rptr.injEq, AV.lptr.injEq, AV.bptr.injEq, AV.fn.injEq, Ent.box.injEq, Ent.row.injEq, Value.int.injEq, Value.bool.injEq, Value.string.injEq, bd_inj, map_iff, eL_iff, and_true, true_and, and_assoc, reduceCtorEq, false_and, and_false, ePeer_iff, eEntry_iff] at h <;> simp_all⟩
noncomputable def peers_Drop_1 (x : Entry) (b0 : Int) : Option (Bool) := ask (peers_Drop_1_e b0) ((lim F pr).call 43 [eEntry x, .bptr 0 0] [.box 23 [vH b0]])
noncomputable def IndexFunc_Entry_1_e (b0 : Int) : Int → AV × Store
  | a0 => (vI a0, [.box 23 [vH b0]])
instance {b0 : Int} : Inj (IndexFunc_Entry_1_e b0) := ⟨fun x y h => by
  rcases x with a0 <;> rcases y with a0' <;> simp only [IndexFunc_Entry_1_e, Prod.mk.injEq, St.mk.injEq, List.cons.injEq, AV.sc.injEq, AV.agg.injEq, AV.tup.injEq, AV.lit.injEq, AV.sl.injEq, AV.sub.injEq, AV.rptr.injEq, AV.lptr.injEq, AV.bptr.injEq, AV.fn.injEq, Ent.box.injEq, Ent.row.injEq, Value.int.injEq, Value.bool.injEq, Value.string.injEq, bd_inj, map_iff, eL_iff, and_true, true_and, and_assoc, reduceCtorEq, false_and, and_false, ePeer_iff, eEntry_iff] at h <;> simp_all⟩
noncomputable def IndexFunc_Entry_1 (s : List Entry) (b0 : Int) : Option (Int) := ask (IndexFunc_Entry_1_e b0) ((lim F pr).call 38 [.lit 41 false (List.map eEntry s), .fn 43 [.bptr 0 0]] [.box 23 [vH b0]])
noncomputable def DeleteFunc_Entry_e (b1 : Int) (γ : Nat → Nat) : (List Entry) → AV × Store
  | a0 => (.sl 0 ((γ 0)), [.row 41 (γ 0) false (List.map eEntry a0), .box 23 [vH b1]])
instance {b1 : Int} : InjS (DeleteFunc_Entry_e b1) := ⟨fun γ γ' x y h => by
  rcases x with a0 <;> rcases y with a0' <;> simp only [DeleteFunc_Entry_e, Prod.mk.injEq, St.mk.injEq, List.cons.injEq, AV.sc.injEq, AV.agg.injEq, AV.tup.injEq, AV.lit.injEq, AV.sl.injEq, AV.sub.injEq, AV.rptr.injEq, AV.lptr.injEq, AV.bptr.injEq, AV.fn.injEq, Ent.box.injEq, Ent.row.injEq, Value.int.injEq, Value.bool.injEq, Value.string.injEq, bd_inj, map_iff, eL_iff, and_true, true_and, and_assoc, reduceCtorEq, false_and, and_false, ePeer_iff, eEntry_iff] at h <;> simp_all⟩
noncomputable def DeleteFunc_Entry (r0 : List Entry) (b1 : Int) : Option ((List Entry)) := asks (fun γ => (lim F pr).call 42 [.sl 0 (γ 0), .fn 43 [.bptr 1 0]] [.row 41 (γ 0) false (List.map eEntry r0), .box 23 [vH b1]]) (DeleteFunc_Entry_e b1)
noncomputable def peers_Place_1_e (b0 : Int) : Bool → AV × Store
  | a0 => (vF a0, [.box 23 [vH b0]])
instance {b0 : Int} : Inj (peers_Place_1_e b0) := ⟨fun x y h => by
  rcases x with a0 <;> rcases y with a0' <;> simp only [peers_Place_1_e, Prod.mk.injEq, St.mk.injEq, List.cons.injEq, AV.sc.injEq, AV.agg.injEq, AV.tup.injEq, AV.lit.injEq, AV.sl.injEq, AV.sub.injEq, AV.rptr.injEq, AV.lptr.injEq, AV.bptr.injEq, AV.fn.injEq, Ent.box.injEq, Ent.row.injEq, Value.int.injEq, Value.bool.injEq, Value.string.injEq, bd_inj, map_iff, eL_iff, and_true, true_and, and_assoc, reduceCtorEq, false_and, and_false, ePeer_iff, eEntry_iff] at h <;> simp_all⟩
noncomputable def peers_Place_1 (x : Entry) (b0 : Int) : Option (Bool) := ask (peers_Place_1_e b0) ((lim F pr).call 44 [eEntry x, .bptr 0 0] [.box 23 [vH b0]])
noncomputable def IndexFunc_Entry_2_e (b0 : Int) : Int → AV × Store
  | a0 => (vI a0, [.box 23 [vH b0]])
instance {b0 : Int} : Inj (IndexFunc_Entry_2_e b0) := ⟨fun x y h => by
  rcases x with a0 <;> rcases y with a0' <;> simp only [IndexFunc_Entry_2_e, Prod.mk.injEq, St.mk.injEq, List.cons.injEq, AV.sc.injEq, AV.agg.injEq, AV.tup.injEq, AV.lit.injEq, AV.sl.injEq, AV.sub.injEq, AV.rptr.injEq, AV.lptr.injEq, AV.bptr.injEq, AV.fn.injEq, Ent.box.injEq, Ent.row.injEq, Value.int.injEq, Value.bool.injEq, Value.string.injEq, bd_inj, map_iff, eL_iff, and_true, true_and, and_assoc, reduceCtorEq, false_and, and_false, ePeer_iff, eEntry_iff] at h <;> simp_all⟩
noncomputable def IndexFunc_Entry_2 (s : List Entry) (b0 : Int) : Option (Int) := ask (IndexFunc_Entry_2_e b0) ((lim F pr).call 38 [.lit 41 false (List.map eEntry s), .fn 44 [.bptr 0 0]] [.box 23 [vH b0]])
noncomputable def ring_Dist (a : Int) (b : Int) : Option (Int) := ask (R1 vU) ((lim F pr).call 45 [vU a, vU b] [])
noncomputable def r03_Dist (a : Int) (b : Int) : Option (Int) := ask (R1 vU) ((lim F pr).call 46 [vU a, vU b] [])
noncomputable def peers_some (l : List Entry) : Option ((List Peer)) := ask (R1 (eL 25 ePeer)) ((lim F pr).call 47 [.lit 41 false (List.map eEntry l), .fn 48 []] [])
noncomputable def peers_some_1 (l : List Entry) : Option ((List Peer)) := ask (R1 (eL 25 ePeer)) ((lim F pr).call 47 [.lit 41 false (List.map eEntry l), .fn 49 []] [])
noncomputable def peers_firm (x : Entry) : Option (Bool) := ask (R1 vF) ((lim F pr).call 48 [eEntry x] [])
noncomputable def peers_All_1 (x0 : Entry) : Option (Bool) := ask (R1 vF) ((lim F pr).call 49 [eEntry x0] [])
end Go.Ab.Try
