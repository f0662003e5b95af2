/- Our texts for this statement, merged: what its theorem leads to. -/
import Derived.Test.YtjmmobicnfojeaaGreatDoorQServeKeeps4
namespace Go.Ab
open Go
set_option linter.unusedVariables false
section
variable {α β ι : Type}
theorem need_some' {c : Bool} {x : Option α} {a : α} (h : (bif c then none else x) = some a) : c = false ∧ x = some a := by
  cases c
  · exact ⟨rfl, h⟩
  · cases h
end
section
variable {α β γ δ : Type}
end
section
variable {α : Type} (e : α → AV)
variable [I : Inj e]
end
end Go.Ab
namespace Go.Ab
open Go
set_option linter.unusedVariables false
theorem u64_wrap (x : Int) : IntKind.u64.wrap x = x % 18446744073709551616 := by
  simp [IntKind.wrap, IntKind.signed, IntKind.bits]
section
variable {α σ ο : Type}
theorem fst_some {p : α → Bool} {l : List α} {n : Nat} (h : fst p l = some n) : ∃ x, l[n]? = some x ∧ p x = true ∧ n < l.length ∧ ∀ i y, i < n → l[i]? = some y → p y = false := by
  induction l generalizing n with
  | nil => cases h
  | cons x l ih =>
    simp only [fst] at h
    cases hp : p x with
    | true =>
      rw [hp] at h
      cases h
      exact ⟨x, rfl, hp, by simp, fun i y hi => by omega⟩
    | false =>
      rw [hp, cond_false] at h
      cases hf : fst p l with
      | none => rw [hf] at h; cases h
      | some m =>
        rw [hf] at h
        cases h
        obtain ⟨y, h1, h2, h3, h4⟩ := ih hf
        refine ⟨y, by simpa using h1, h2, by simp; omega, fun i z hi hz => ?_⟩
        cases i with
        | zero => simp at hz; subst hz; exact hp
        | succ i => exact h4 i z (by have hi : i + 1 < m + 1 := hi; omega) (by simpa using hz)
theorem fst_none {p : α → Bool} {l : List α} (h : fst p l = none) : ∀ x, x ∈ l → p x = false := by
  induction l with
  | nil => intro x hx; cases hx
  | cons y l ih =>
    simp only [fst] at h
    cases hp : p y with
    | true => rw [hp] at h; cases h
    | false =>
      rw [hp, cond_false, Option.map_eq_none_iff] at h
      intro x hx
      rcases List.mem_cons.1 hx with rfl | hx
      · exact hp
      · exact ih h x hx
theorem fst_ex {p : α → Bool} {l : List α} (h : ∃ x, x ∈ l ∧ p x = true) : ∃ n, fst p l = some n := by
  cases hf : fst p l with
  | some n => exact ⟨n, rfl⟩
  | none => obtain ⟨x, hx, hp⟩ := h; rw [fst_none hf x hx] at hp; cases hp
end
end Go.Ab
namespace Go.Ab.Tryz
open Go Go.Ab Go.Proofs
set_option linter.unusedVariables false
set_option linter.unusedSimpArgs false
set_option maxRecDepth 10000
set_option maxHeartbeats 4000000
noncomputable def w33_ServeGets (n : Node) (from_ : Int) (key : ByteArray) (val : ByteArray) : Option (Bool) := ask (R1 vF) ((lim F pr).call 5 [eNode n, vH from_, vT key, vT val] [])
noncomputable def serve_Answer (n : Node) (from_ : Int) (m : Msg) : Option ((Node × (List Out))) := ask (R2 eNode (eL 56 eOut)) ((lim F pr).call 15 [eNode n, vH from_, eMsg m] [])
noncomputable def msg_Asks (k : Int) : Option (Bool) := ask (R1 vF) ((lim F pr).call 54 [vI k] [])
noncomputable def route_Step (n : Node) (key : Int) : Option ((Peer × (List Peer) × Bool)) := ask (R3 ePeer (eL 25 ePeer) vF) ((lim F pr).call 124 [eNode n, vU key] [])
noncomputable def serve_answer_tell_e (b0_n : Node) (b0_from_ : Int) (b0_m : Msg) (γ : Nat → Nat) : (List Out) → AV × Store
  | a0 => (.tup [], [.box 93 (capp (cNode b0_n) (vH b0_from_ :: (capp (cMsg b0_m) ([.sl 1 ((γ 1))])))), .row 56 (γ 1) false (List.map eOut a0)])
instance {b0_n b0_from_ b0_m} : InjS (serve_answer_tell_e b0_n b0_from_ b0_m) := ⟨fun γ γ' x y h => by
  rcases x with a0 <;> rcases y with a0' <;> simp only [serve_answer_tell_e] at h <;> exact inj_⟩
noncomputable def serve_answer_tell (m : Msg) (b0_n : Node) (b0_from_ : Int) (b0_m : Msg) (r1 : List Out) : Option ((List Out)) := asks (fun γ => (lim F pr).call 125 [.bptr 0 0, eMsg m] [.box 93 (capp (cNode b0_n) (vH b0_from_ :: (capp (cMsg b0_m) ([.sl 1 (γ 1)])))), .row 56 (γ 1) false (List.map eOut r1)]) (serve_answer_tell_e b0_n b0_from_ b0_m)
noncomputable def serve_answer_nay_e (b0_n : Node) (b0_from_ : Int) (b0_m : Msg) (γ : Nat → Nat) : (List Out) → AV × Store
  | a0 => (.tup [], [.box 93 (capp (cNode b0_n) (vH b0_from_ :: (capp (cMsg b0_m) ([.sl 1 ((γ 1))])))), .row 56 (γ 1) false (List.map eOut a0)])
instance {b0_n b0_from_ b0_m} : InjS (serve_answer_nay_e b0_n b0_from_ b0_m) := ⟨fun γ γ' x y h => by
  rcases x with a0 <;> rcases y with a0' <;> simp only [serve_answer_nay_e] at h <;> exact inj_⟩
noncomputable def serve_answer_nay (e_ : Int) (b0_n : Node) (b0_from_ : Int) (b0_m : Msg) (r1 : List Out) : Option ((List Out)) := asks (fun γ => (lim F pr).call 123 [.bptr 0 0, vI e_] [.box 93 (capp (cNode b0_n) (vH b0_from_ :: (capp (cMsg b0_m) ([.sl 1 (γ 1)])))), .row 56 (γ 1) false (List.map eOut r1)]) (serve_answer_nay_e b0_n b0_from_ b0_m)
noncomputable def serve_answer_find_e (b0_from_ : Int) (b0_m : Msg) (γ : Nat → Nat) : (Node × (List Out)) → AV × Store
  | (a0, a1) => (.tup [], [.box 93 (capp (cNode a0) ([vH b0_from_, vI b0_m.kind, vW b0_m.rid, vB b0_m.code, vF b0_m.has, vU b0_m.id, vT b0_m.key, vT b0_m.val, vU b0_m.peer.id, vH b0_m.peer.addr, .lit 25 false (List.map ePeer b0_m.peers), .lit 78 false (List.map ePair b0_m.pairs), .sl 1 ((γ 1))])), .row 56 (γ 1) false (List.map eOut a1)])
instance {b0_from_ b0_m} : InjS (serve_answer_find_e b0_from_ b0_m) := ⟨fun γ γ' x y h => by
  rcases x with ⟨a0, a1⟩ <;> rcases y with ⟨a0', a1'⟩ <;> simp only [serve_answer_find_e] at h <;> exact inj_⟩
noncomputable def serve_answer_find (b0_n : Node) (b0_from_ : Int) (b0_m : Msg) (r1 : List Out) : Option ((Node × (List Out))) := asks (fun γ => (lim F pr).call 55 [.bptr 0 0] [.box 93 (capp (cNode b0_n) (vH b0_from_ :: (capp (cMsg b0_m) ([.sl 1 (γ 1)])))), .row 56 (γ 1) false (List.map eOut r1)]) (serve_answer_find_e b0_from_ b0_m)
noncomputable def serve_answer_ask_e (b0_n : Node) (b0_from_ : Int) (b0_m : Msg) (γ : Nat → Nat) : (List Out) → AV × Store
  | a0 => (.tup [], [.box 93 (capp (cNode b0_n) (vH b0_from_ :: (capp (cMsg b0_m) ([.sl 1 ((γ 1))])))), .row 56 (γ 1) false (List.map eOut a0)])
instance {b0_n b0_from_ b0_m} : InjS (serve_answer_ask_e b0_n b0_from_ b0_m) := ⟨fun γ γ' x y h => by
  rcases x with a0 <;> rcases y with a0' <;> simp only [serve_answer_ask_e] at h <;> exact inj_⟩
noncomputable def serve_answer_ask (b0_n : Node) (b0_from_ : Int) (b0_m : Msg) (r1 : List Out) : Option ((List Out)) := asks (fun γ => (lim F pr).call 56 [.bptr 0 0] [.box 93 (capp (cNode b0_n) (vH b0_from_ :: (capp (cMsg b0_m) ([.sl 1 (γ 1)])))), .row 56 (γ 1) false (List.map eOut r1)]) (serve_answer_ask_e b0_n b0_from_ b0_m)
noncomputable def serve_answer_okay_e (b0_n : Node) (b0_from_ : Int) (b0_m : Msg) (γ : Nat → Nat) : (List Out) → AV × Store
  | a0 => (.tup [], [.box 93 (capp (cNode b0_n) (vH b0_from_ :: (capp (cMsg b0_m) ([.sl 1 ((γ 1))])))), .row 56 (γ 1) false (List.map eOut a0)])
instance {b0_n b0_from_ b0_m} : InjS (serve_answer_okay_e b0_n b0_from_ b0_m) := ⟨fun γ γ' x y h => by
  rcases x with a0 <;> rcases y with a0' <;> simp only [serve_answer_okay_e] at h <;> exact inj_⟩
noncomputable def serve_answer_okay (b0_n : Node) (b0_from_ : Int) (b0_m : Msg) (r1 : List Out) : Option ((List Out)) := asks (fun γ => (lim F pr).call 61 [.bptr 0 0] [.box 93 (capp (cNode b0_n) (vH b0_from_ :: (capp (cMsg b0_m) ([.sl 1 (γ 1)])))), .row 56 (γ 1) false (List.map eOut r1)]) (serve_answer_okay_e b0_n b0_from_ b0_m)
noncomputable def ring_Between (a : Int) (x : Int) (b : Int) : Option (Bool) := ask (R1 vF) ((lim F pr).call 128 [vU a, vU x, vU b] [])
noncomputable def serve_answer_note_e (b0_from_ : Int) (b0_m : Msg) (γ : Nat → Nat) : (Node × (List Out)) → AV × Store
  | (a0, a1) => (.tup [], [.box 93 (capp (cNode a0) ([vH b0_from_, vI b0_m.kind, vW b0_m.rid, vB b0_m.code, vF b0_m.has, vU b0_m.id, vT b0_m.key, vT b0_m.val, vU b0_m.peer.id, vH b0_m.peer.addr, .lit 25 false (List.map ePeer b0_m.peers), .lit 78 false (List.map ePair b0_m.pairs), .sl 1 ((γ 1))])), .row 56 (γ 1) false (List.map eOut a1)])
instance {b0_from_ b0_m} : InjS (serve_answer_note_e b0_from_ b0_m) := ⟨fun γ γ' x y h => by
  rcases x with ⟨a0, a1⟩ <;> rcases y with ⟨a0', a1'⟩ <;> simp only [serve_answer_note_e] at h <;> exact inj_⟩
noncomputable def serve_answer_note (b0_n : Node) (b0_from_ : Int) (b0_m : Msg) (r1 : List Out) : Option ((Node × (List Out))) := asks (fun γ => (lim F pr).call 57 [.bptr 0 0] [.box 93 (capp (cNode b0_n) (vH b0_from_ :: (capp (cMsg b0_m) ([.sl 1 (γ 1)])))), .row 56 (γ 1) false (List.map eOut r1)]) (serve_answer_note_e b0_from_ b0_m)
noncomputable def hash_Place (s : ByteArray) : Option (Int) := ask (R1 vU) ((lim F pr).call 88 [vT s] [])
noncomputable def route_Mine (n : Node) (key : Int) : Option (Bool) := ask (R1 vF) ((lim F pr).call 199 [eNode n, vU key] [])
noncomputable def serve_answer_may_e (b0_from_ : Int) (b0_m : Msg) (γ : Nat → Nat) : (Bool × Node × (List Out)) → AV × Store
  | (a0, a1, a2) => (vF a0, [.box 93 (capp (cNode a1) ([vH b0_from_, vI b0_m.kind, vW b0_m.rid, vB b0_m.code, vF b0_m.has, vU b0_m.id, vT b0_m.key, vT b0_m.val, vU b0_m.peer.id, vH b0_m.peer.addr, .lit 25 false (List.map ePeer b0_m.peers), .lit 78 false (List.map ePair b0_m.pairs), .sl 1 ((γ 1))])), .row 56 (γ 1) false (List.map eOut a2)])
instance {b0_from_ b0_m} : InjS (serve_answer_may_e b0_from_ b0_m) := ⟨fun γ γ' x y h => by
  rcases x with ⟨a0, a1, a2⟩ <;> rcases y with ⟨a0', a1', a2'⟩ <;> simp only [serve_answer_may_e] at h <;> exact inj_⟩
noncomputable def serve_answer_may (b0_n : Node) (b0_from_ : Int) (b0_m : Msg) (r1 : List Out) : Option ((Bool × Node × (List Out))) := asks (fun γ => (lim F pr).call 131 [.bptr 0 0] [.box 93 (capp (cNode b0_n) (vH b0_from_ :: (capp (cMsg b0_m) ([.sl 1 (γ 1)])))), .row 56 (γ 1) false (List.map eOut r1)]) (serve_answer_may_e b0_from_ b0_m)
noncomputable def serve_answer_put_e (b0_from_ : Int) (b0_m : Msg) (γ : Nat → Nat) : (Node × (List Out)) → AV × Store
  | (a0, a1) => (.tup [], [.box 93 (capp (cNode a0) ([vH b0_from_, vI b0_m.kind, vW b0_m.rid, vB b0_m.code, vF b0_m.has, vU b0_m.id, vT b0_m.key, vT b0_m.val, vU b0_m.peer.id, vH b0_m.peer.addr, .lit 25 false (List.map ePeer b0_m.peers), .lit 78 false (List.map ePair b0_m.pairs), .sl 1 ((γ 1))])), .row 56 (γ 1) false (List.map eOut a1)])
instance {b0_from_ b0_m} : InjS (serve_answer_put_e b0_from_ b0_m) := ⟨fun γ γ' x y h => by
  rcases x with ⟨a0, a1⟩ <;> rcases y with ⟨a0', a1'⟩ <;> simp only [serve_answer_put_e] at h <;> exact inj_⟩
noncomputable def serve_answer_put (b0_n : Node) (b0_from_ : Int) (b0_m : Msg) (r1 : List Out) : Option ((Node × (List Out))) := asks (fun γ => (lim F pr).call 58 [.bptr 0 0] [.box 93 (capp (cNode b0_n) (vH b0_from_ :: (capp (cMsg b0_m) ([.sl 1 (γ 1)])))), .row 56 (γ 1) false (List.map eOut r1)]) (serve_answer_put_e b0_from_ b0_m)
noncomputable def store_Get (l : List Pair) (key : ByteArray) : Option ((ByteArray × Bool)) := ask (R2 vT vF) ((lim F pr).call 132 [.lit 78 false (List.map ePair l), vT key] [])
noncomputable def serve_answer_get_e (b0_from_ : Int) (b0_m : Msg) (γ : Nat → Nat) : (Node × (List Out)) → AV × Store
  | (a0, a1) => (.tup [], [.box 93 (capp (cNode a0) ([vH b0_from_, vI b0_m.kind, vW b0_m.rid, vB b0_m.code, vF b0_m.has, vU b0_m.id, vT b0_m.key, vT b0_m.val, vU b0_m.peer.id, vH b0_m.peer.addr, .lit 25 false (List.map ePeer b0_m.peers), .lit 78 false (List.map ePair b0_m.pairs), .sl 1 ((γ 1))])), .row 56 (γ 1) false (List.map eOut a1)])
instance {b0_from_ b0_m} : InjS (serve_answer_get_e b0_from_ b0_m) := ⟨fun γ γ' x y h => by
  rcases x with ⟨a0, a1⟩ <;> rcases y with ⟨a0', a1'⟩ <;> simp only [serve_answer_get_e] at h <;> exact inj_⟩
noncomputable def serve_answer_get (b0_n : Node) (b0_from_ : Int) (b0_m : Msg) (r1 : List Out) : Option ((Node × (List Out))) := asks (fun γ => (lim F pr).call 59 [.bptr 0 0] [.box 93 (capp (cNode b0_n) (vH b0_from_ :: (capp (cMsg b0_m) ([.sl 1 (γ 1)])))), .row 56 (γ 1) false (List.map eOut r1)]) (serve_answer_get_e b0_from_ b0_m)
noncomputable def serve_answer_move_e (b0_from_ : Int) (γ : Nat → Nat) : (Node × Msg × (List Out)) → AV × Store
  | (a0, a1, a2) => (.tup [], [.box 93 (capp (cNode a0) (vH b0_from_ :: (capp (cMsg a1) ([.sl 1 ((γ 1))])))), .row 56 (γ 1) false (List.map eOut a2)])
instance {b0_from_} : InjS (serve_answer_move_e b0_from_) := ⟨fun γ γ' x y h => by
  rcases x with ⟨a0, a1, a2⟩ <;> rcases y with ⟨a0', a1', a2'⟩ <;> simp only [serve_answer_move_e] at h <;> exact inj_⟩
noncomputable def serve_answer_move (b0_n : Node) (b0_from_ : Int) (b0_m : Msg) (r1 : List Out) : Option ((Node × Msg × (List Out))) := asks (fun γ => (lim F pr).call 60 [.bptr 0 0] [.box 93 (capp (cNode b0_n) (vH b0_from_ :: (capp (cMsg b0_m) ([.sl 1 (γ 1)])))), .row 56 (γ 1) false (List.map eOut r1)]) (serve_answer_move_e b0_from_)
noncomputable def r32_Step (n : Node) (key : Int) : Option ((Peer × (List Peer) × Bool)) := ask (R3 ePeer (eL 25 ePeer) vF) ((lim F pr).call 63 [eNode n, vU key] [])
noncomputable def r29_Get (l : List Pair) (key : ByteArray) : Option ((ByteArray × Bool)) := ask (R2 vT vF) ((lim F pr).call 68 [.lit 78 false (List.map ePair l), vT key] [])
noncomputable def msg_of (k : Int) : Option (Msg_kind) := ask (R1 eMsg_kind) ((lim F pr).call 122 [vI k] [])
noncomputable def ring_Upto (a : Int) (x : Int) (b : Int) : Option (Bool) := ask (R1 vF) ((lim F pr).call 190 [vU a, vU x, vU b] [])
noncomputable def route_behind (n : Node) (key : Int) : Option (Bool) := ask (R1 vF) ((lim F pr).call 191 [eNode n, vU key] [])
noncomputable def fings_Hops (me : Peer) (l : List Entry) (f : List Finger) (key : Int) (most : Int) : Option ((List Peer)) := ask (R1 (eL 25 ePeer)) ((lim F pr).call 192 [ePeer me, .lit 81 false (List.map eEntry l), .lit 84 false (List.map eFinger f), vU key, vI most] [])
noncomputable def ring_Dist (a : Int) (b : Int) : Option (Int) := ask (R1 vU) ((lim F pr).call 166 [vU a, vU b] [])
noncomputable def hash_Sum (s : ByteArray) : Option (Int) := ask (R1 vU) ((lim F pr).call 156 [vT s] [])
noncomputable def hash_Mix (u : Int) : Option (Int) := ask (R1 vU) ((lim F pr).call 155 [vU u] [])
noncomputable def r03_Upto (a : Int) (x : Int) (b : Int) : Option (Bool) := ask (R1 vF) ((lim F pr).call 134 [vU a, vU x, vU b] [])
noncomputable def r28_Hops (me : Peer) (l : List Entry) (f : List Finger) (key : Int) (most : Int) : Option ((List Peer)) := ask (R1 (eL 25 ePeer)) ((lim F pr).call 135 [ePeer me, .lit 81 false (List.map eEntry l), .lit 84 false (List.map eFinger f), vU key, vI most] [])
noncomputable def r03_Between (a : Int) (x : Int) (b : Int) : Option (Bool) := ask (R1 vF) ((lim F pr).call 116 [vU a, vU x, vU b] [])
noncomputable def r32_Mine (n : Node) (key : Int) : Option (Bool) := ask (R1 vF) ((lim F pr).call 138 [eNode n, vU key] [])
noncomputable def msg_kinds : Option ((List Msg_kind)) := ask (R1 (eL 146 eMsg_kind)) ((lim F pr).call 189 [] [])
noncomputable def fings_Hops_1_e (b0_id : Int) (b0_addr : Int) : Bool → AV × Store
  | a0 => (vF a0, [.box 25 [vU b0_id, vH b0_addr]])
instance {b0_id b0_addr} : Inj (fings_Hops_1_e b0_id b0_addr) := ⟨fun x y h => by
  rcases x with a0 <;> rcases y with a0' <;> simp only [fings_Hops_1_e] at h <;> exact inj_⟩
noncomputable def fings_Hops_1 (q : Peer) (b0_id : Int) (b0_addr : Int) : Option (Bool) := ask (fings_Hops_1_e b0_id b0_addr) ((lim F pr).call 221 [ePeer q, .bptr 0 0] [.box 25 [vU b0_id, vH b0_addr]])
noncomputable def IndexFunc_Peer_e (b0_id : Int) (b0_addr : Int) : Int → AV × Store
  | a0 => (vI a0, [.box 25 [vU b0_id, vH b0_addr]])
instance {b0_id b0_addr} : Inj (IndexFunc_Peer_e b0_id b0_addr) := ⟨fun x y h => by
  rcases x with a0 <;> rcases y with a0' <;> simp only [IndexFunc_Peer_e] at h <;> exact inj_⟩
noncomputable def IndexFunc_Peer (s : List Peer) (b0_id : Int) (b0_addr : Int) : Option (Int) := ask (IndexFunc_Peer_e b0_id b0_addr) ((lim F pr).call 178 [.lit 25 false (List.map ePeer s), .fn 221 [.bptr 0 0]] [.box 25 [vU b0_id, vH b0_addr]])
noncomputable def r28_there (l : List Peer) (addr : Int) : Option (Bool) := ask (R1 vF) ((lim F pr).call 200 [.lit 25 false (List.map ePeer l), vH addr] [])
noncomputable def r03_Dist (a : Int) (b : Int) : Option (Int) := ask (R1 vU) ((lim F pr).call 201 [vU a, vU b] [])
noncomputable def r05_Sum (s : ByteArray) : Option (Int) := ask (R1 vU) ((lim F pr).call 159 [vT s] [])
end Go.Ab.Tryz
