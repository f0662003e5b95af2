/- Our texts for this statement, merged: what its theorem leads to. -/
import Derived.Shelf.SlGeneric
import Derived.Test.YtpiabgfedgddeaaDoorQFixedBack11
namespace Go.Proofs
open Go.Shelf
def Tryd.clone33_ren : Go.Shelf.Ren := ⟨fun | 41 => 33 | n => n, fun | 22 => 22 | 23 => 41 | 4 => 4 | n => n, fun | n => n⟩
theorem Tryd.clone33 : Go.Proofs.SlLaysE0.n41 Tryd.prog Tryd.clone33_ren where
  mixed := by kernel_rfl
  f41 := ⟨Tryd.f33.name, by decide, Tryd.func33.trans (congrArg some (by kernel_rfl))⟩
  t4 := Tryd.underlying4
  a4 := Tryd.isAgg4
  z4 := Tryd.sizeOf4
  v4 := Tryd.zeroValue4
  t22 := Tryd.underlying22
  a22 := Tryd.isAgg22
  z22 := Tryd.sizeOf22
  v22 := Tryd.zeroValue22
def Tryd.clone98_ren : Go.Shelf.Ren := ⟨fun | 41 => 98 | n => n, fun | 22 => 51 | 23 => 5 | 4 => 4 | n => n, fun | n => n⟩
theorem Tryd.clone98 : Go.Proofs.SlLaysE0.n41 Tryd.prog Tryd.clone98_ren where
  mixed := by kernel_rfl
  f41 := ⟨Tryd.f98.name, by decide, Tryd.func98.trans (congrArg some (by kernel_rfl))⟩
  t4 := Tryd.underlying4
  a4 := Tryd.isAgg4
  z4 := Tryd.sizeOf4
  v4 := Tryd.zeroValue4
  t22 := Tryd.underlying51
  a22 := Tryd.isAgg51
  z22 := Tryd.sizeOf51
  v22 := Tryd.zeroValue51
def Tryd.clone117_ren : Go.Shelf.Ren := ⟨fun | 41 => 117 | n => n, fun | 22 => 47 | 23 => 46 | 4 => 4 | n => n, fun | n => n⟩
theorem Tryd.clone117 : Go.Proofs.SlLaysE0.n41 Tryd.prog Tryd.clone117_ren where
  mixed := by kernel_rfl
  f41 := ⟨Tryd.f117.name, by decide, Tryd.func117.trans (congrArg some (by kernel_rfl))⟩
  t4 := Tryd.underlying4
  a4 := Tryd.isAgg4
  z4 := Tryd.sizeOf4
  v4 := Tryd.zeroValue4
  t22 := Tryd.underlying47
  a22 := Tryd.isAgg47
  z22 := Tryd.sizeOf47
  v22 := Tryd.zeroValue47
def Tryd.dec126_ren : Go.Shelf.Ren := ⟨fun | 197 => 126 | 260 => 129 | n => n, fun | 9 => 9 | 21 => 21 | 3 => 3 | 4 => 4 | 5 => 5 | 105 => 135 | 119 => 138 | 0 => 0 | 46 => 115 | 139 => 141 | 138 => 140 | n => n, fun | 3 => 0 | 4 => 1 | n => n⟩
theorem Tryd.dec126 : Go.Proofs.Lays.n197 Tryd.prog Tryd.dec126_ren where
  mixed := by kernel_rfl
  f197 := Tryd.func126.trans (congrArg some (by kernel_rfl))
  f260 := Tryd.func129.trans (congrArg some (by kernel_rfl))
  t0 := Tryd.underlying0
  a0 := Tryd.isAgg0
  z0 := Tryd.sizeOf0
  v0 := Tryd.zeroValue0
  t3 := Tryd.underlying3
  a3 := Tryd.isAgg3
  z3 := Tryd.sizeOf3
  v3 := Tryd.zeroValue3
  t4 := Tryd.underlying4
  a4 := Tryd.isAgg4
  z4 := Tryd.sizeOf4
  v4 := Tryd.zeroValue4
  t5 := Tryd.underlying5
  a5 := Tryd.isAgg5
  z5 := Tryd.sizeOf5
  v5 := Tryd.zeroValue5
  t9 := Tryd.underlying9
  a9 := Tryd.isAgg9
  z9 := Tryd.sizeOf9
  v9 := Tryd.zeroValue9
  t21 := Tryd.underlying21
  a21 := Tryd.isAgg21
  z21 := Tryd.sizeOf21
  v21 := Tryd.zeroValue21
  t46 := Tryd.underlying115
  a46 := Tryd.isAgg115
  z46 := Tryd.sizeOf115
  v46 := Tryd.zeroValue115
  t105 := Tryd.underlying135
  a105 := Tryd.isAgg135
  z105 := Tryd.sizeOf135
  v105 := Tryd.zeroValue135
  t119 := Tryd.underlying138
  a119 := Tryd.isAgg138
  z119 := Tryd.sizeOf138
  t138 := Tryd.underlying140
  a138 := Tryd.isAgg140
  z138 := Tryd.sizeOf140
  v138 := Tryd.zeroValue140
  t139 := Tryd.underlying141
  a139 := Tryd.isAgg141
  z139 := Tryd.sizeOf141
  v139 := Tryd.zeroValue141
  g3 := by kernel_rfl
  g4 := by kernel_rfl
end Go.Proofs
namespace Go.Ab.Tryd
open Go Go.Ab Go.Proofs
def pr : FuncId → Option Prim
  | 33 => some (.clone 41 32)
  | 51 => some .mv
  | 52 => some .mv
  | 53 => some .mv
  | 54 => some .mv
  | 55 => some .mv
  | 56 => some .mv
  | 59 => some .mv
  | 60 => some .mv
  | 62 => some .mv
  | 63 => some .mv
  | 64 => some .mv
  | 65 => some .mv
  | 66 => some .mv
  | 67 => some .mv
  | 68 => some .mv
  | 69 => some .mv
  | 70 => some .mv
  | 71 => some .mv
  | 91 => some .mv
  | 94 => some .mv
  | 95 => some .mv
  | 96 => some .mv
  | 97 => some .mv
  | 98 => some (.clone 5 1)
  | 99 => some .mv
  | 100 => some .mv
  | 101 => some .mv
  | 103 => some .mv
  | 104 => some .mv
  | 105 => some .mv
  | 106 => some .mv
  | 107 => some .mv
  | 108 => some .mv
  | 109 => some .mv
  | 110 => some .mv
  | 117 => some (.clone 46 16)
  | 124 => some .mv
  | 125 => some .mv
  | 126 => some (.look decP)
  | _ => none
theorem zero5 : zeroOf Tryd.prog 5 = some (.sc (.int .u8 0)) := by kernel_rfl
theorem cells5 : Tryd.prog.cellsOf 5 = 1 := by kernel_rfl
theorem bytes5 : Tryd.prog.bytesOf 5 = 1 := by kernel_rfl
theorem zero41 : zeroOf Tryd.prog 41 = some (.agg [.sc (.string ⟨#[]⟩), .sc (.string ⟨#[]⟩)]) := by kernel_rfl
theorem cells41 : Tryd.prog.cellsOf 41 = 2 := by kernel_rfl
theorem bytes41 : Tryd.prog.bytesOf 41 = 32 := by kernel_rfl
theorem zero46 : zeroOf Tryd.prog 46 = some (.agg [.sc (.int .u64 0), .sc (.int .u16 0)]) := by kernel_rfl
theorem cells46 : Tryd.prog.cellsOf 46 = 2 := by kernel_rfl
theorem bytes46 : Tryd.prog.bytesOf 46 = 16 := by kernel_rfl
def tabs (base : Base) : Prop := Tryd.dec126_ren.g 3 < base.n ∧ Tryd.dec126_ren.g 4 < base.n ∧ Go.Lib.Utf8Tabs (Tryd.dec126_ren.g 3) (Tryd.dec126_ren.g 4) base.w0
theorem pr_ok : ∀ base, tabs base → ∀ f p, pr f = some p → PrimOk Tryd.prog base f p := by
  intro base ht f p h
  unfold pr at h
  split at h
  · cases h
    have := clone_ok (base := base) (P := Tryd.prog) (ρ := Tryd.clone33_ren) Tryd.clone33 zero41 (by show 0 < Tryd.prog.cellsOf 41; rw [cells41]; omega)
    rw [show Tryd.prog.bytesOf (Tryd.clone33_ren.t 23) = 32 from bytes41] at this
    exact this
  · cases h; exact mv_ok Tryd.func51 (by kernel_rfl) (by decide)
  · cases h; exact mv_ok Tryd.func52 (by kernel_rfl) (by decide)
  · cases h; exact mv_ok Tryd.func53 (by kernel_rfl) (by decide)
  · cases h; exact mv_ok Tryd.func54 (by kernel_rfl) (by decide)
  · cases h; exact mv_ok Tryd.func55 (by kernel_rfl) (by decide)
  · cases h; exact mv_ok Tryd.func56 (by kernel_rfl) (by decide)
  · cases h; exact mv_ok Tryd.func59 (by kernel_rfl) (by decide)
  · cases h; exact mv_ok Tryd.func60 (by kernel_rfl) (by decide)
  · cases h; exact mv_ok Tryd.func62 (by kernel_rfl) (by decide)
  · cases h; exact mv_ok Tryd.func63 (by kernel_rfl) (by decide)
  · cases h; exact mv_ok Tryd.func64 (by kernel_rfl) (by decide)
  · cases h; exact mv_ok Tryd.func65 (by kernel_rfl) (by decide)
  · cases h; exact mv_ok Tryd.func66 (by kernel_rfl) (by decide)
  · cases h; exact mv_ok Tryd.func67 (by kernel_rfl) (by decide)
  · cases h; exact mv_ok Tryd.func68 (by kernel_rfl) (by decide)
  · cases h; exact mv_ok Tryd.func69 (by kernel_rfl) (by decide)
  · cases h; exact mv_ok Tryd.func70 (by kernel_rfl) (by decide)
  · cases h; exact mv_ok Tryd.func71 (by kernel_rfl) (by decide)
  · cases h; exact mv_ok Tryd.func91 (by kernel_rfl) (by decide)
  · cases h; exact mv_ok Tryd.func94 (by kernel_rfl) (by decide)
  · cases h; exact mv_ok Tryd.func95 (by kernel_rfl) (by decide)
  · cases h; exact mv_ok Tryd.func96 (by kernel_rfl) (by decide)
  · cases h; exact mv_ok Tryd.func97 (by kernel_rfl) (by decide)
  · cases h
    have := clone_ok (base := base) (P := Tryd.prog) (ρ := Tryd.clone98_ren) Tryd.clone98 zero5 (by show 0 < Tryd.prog.cellsOf 5; rw [cells5]; omega)
    rw [show Tryd.prog.bytesOf (Tryd.clone98_ren.t 23) = 1 from bytes5] at this
    exact this
  · cases h; exact mv_ok Tryd.func99 (by kernel_rfl) (by decide)
  · cases h; exact mv_ok Tryd.func100 (by kernel_rfl) (by decide)
  · cases h; exact mv_ok Tryd.func101 (by kernel_rfl) (by decide)
  · cases h; exact mv_ok Tryd.func103 (by kernel_rfl) (by decide)
  · cases h; exact mv_ok Tryd.func104 (by kernel_rfl) (by decide)
  · cases h; exact mv_ok Tryd.func105 (by kernel_rfl) (by decide)
  · cases h; exact mv_ok Tryd.func106 (by kernel_rfl) (by decide)
  · cases h; exact mv_ok Tryd.func107 (by kernel_rfl) (by decide)
  · cases h; exact mv_ok Tryd.func108 (by kernel_rfl) (by decide)
  · cases h; exact mv_ok Tryd.func109 (by kernel_rfl) (by decide)
  · cases h; exact mv_ok Tryd.func110 (by kernel_rfl) (by decide)
  · cases h
    have := clone_ok (base := base) (P := Tryd.prog) (ρ := Tryd.clone117_ren) Tryd.clone117 zero46 (by show 0 < Tryd.prog.cellsOf 46; rw [cells46]; omega)
    rw [show Tryd.prog.bytesOf (Tryd.clone117_ren.t 23) = 16 from bytes46] at this
    exact this
  · cases h; exact mv_ok Tryd.func124 (by kernel_rfl) (by decide)
  · cases h; exact mv_ok Tryd.func125 (by kernel_rfl) (by decide)
  · cases h; exact dec_ok (ρ := Tryd.dec126_ren) Tryd.dec126 Tryd.func126 (by kernel_rfl) (by decide) ht.1 ht.2.1 ht.2.2
  · cases h
end Go.Ab.Tryd
namespace Go.Ab.Tryd
open Go Go.Ab Go.Proofs
set_option linter.unusedVariables false
set_option linter.unusedSimpArgs false
set_option maxRecDepth 10000
set_option maxHeartbeats 4000000
structure Peer where
  id : Int
  addr : Int
  deriving DecidableEq
def ePeer (x : Peer) : AV := .agg [vU x.id, vH x.addr]
theorem Peer.ext' {a b : Peer} : a = b ↔ a.id = b.id ∧ a.addr = b.addr := by cases a; cases b; simp
instance : Inj ePeer := ⟨fun a b h => by
  obtain ⟨_, _⟩ := a; obtain ⟨_, _⟩ := b
  simp only [ePeer, AV.agg.injEq, List.cons.injEq, AV.sc.injEq, Value.int.injEq, Value.bool.injEq, Value.string.injEq, AV.lit.injEq, map_iff, and_true, true_and, and_assoc] at h
  simp only [Peer.mk.injEq, and_assoc]; simpa only [Peer.mk.injEq, and_assoc] using h⟩
theorem ePeer_iff {a b : Peer} : ePeer a = ePeer b ↔ a = b := ⟨Inj.inj a b, fun h => by rw [h]⟩
structure Pair where
  key : ByteArray
  val : ByteArray
  deriving DecidableEq
def ePair (x : Pair) : AV := .agg [vT x.key, vT x.val]
theorem Pair.ext' {a b : Pair} : a = b ↔ a.key = b.key ∧ a.val = b.val := by cases a; cases b; simp
instance : Inj ePair := ⟨fun a b h => by
  obtain ⟨_, _⟩ := a; obtain ⟨_, _⟩ := b
  simp only [ePair, AV.agg.injEq, List.cons.injEq, AV.sc.injEq, Value.int.injEq, Value.bool.injEq, Value.string.injEq, AV.lit.injEq, map_iff, and_true, true_and, and_assoc] at h
  simp only [Pair.mk.injEq, and_assoc]; simpa only [Pair.mk.injEq, and_assoc] using h⟩
theorem ePair_iff {a b : Pair} : ePair a = ePair b ↔ a = b := ⟨Inj.inj a b, fun h => by rw [h]⟩
structure Msg where
  kind : Int
  rid : Int
  code : Int
  has : Bool
  id : Int
  key : ByteArray
  val : ByteArray
  peer : Peer
  peers : List Peer
  pairs : List Pair
  deriving DecidableEq
def eMsg (x : Msg) : AV := .agg [vI x.kind, vW x.rid, vB x.code, vF x.has, vU x.id, vT x.key, vT x.val, vU x.peer.id, vH x.peer.addr, .lit 46 false (List.map ePeer x.peers), .lit 41 false (List.map ePair x.pairs)]
theorem Msg.ext' {a b : Msg} : a = b ↔ a.kind = b.kind ∧ a.rid = b.rid ∧ a.code = b.code ∧ a.has = b.has ∧ a.id = b.id ∧ a.key = b.key ∧ a.val = b.val ∧ a.peer = b.peer ∧ a.peers = b.peers ∧ a.pairs = b.pairs := by cases a; cases b; simp
instance : Inj eMsg := ⟨fun a b h => by
  obtain ⟨_, _, _, _, _, _, _, ⟨_, _⟩, _, _⟩ := a; obtain ⟨_, _, _, _, _, _, _, ⟨_, _⟩, _, _⟩ := b
  simp only [eMsg, AV.agg.injEq, List.cons.injEq, AV.sc.injEq, Value.int.injEq, Value.bool.injEq, Value.string.injEq, AV.lit.injEq, map_iff, and_true, true_and, and_assoc] at h
  simp_all⟩
theorem eMsg_iff {a b : Msg} : eMsg a = eMsg b ↔ a = b := ⟨Inj.inj a b, fun h => by rw [h]⟩
structure Buf_Reader where
  made : Bool
  rest : List Int
  met : Int
  deriving DecidableEq
def eBuf_Reader (x : Buf_Reader) : AV := .agg [vF x.made, .lit 5 false (List.map vB x.rest), vI x.met]
theorem Buf_Reader.ext' {a b : Buf_Reader} : a = b ↔ a.made = b.made ∧ a.rest = b.rest ∧ a.met = b.met := by cases a; cases b; simp
instance : Inj eBuf_Reader := ⟨fun a b h => by
  obtain ⟨_, _, _⟩ := a; obtain ⟨_, _, _⟩ := b
  simp only [eBuf_Reader, AV.agg.injEq, List.cons.injEq, AV.sc.injEq, Value.int.injEq, Value.bool.injEq, Value.string.injEq, AV.lit.injEq, map_iff, and_true, true_and, and_assoc] at h
  simp only [Buf_Reader.mk.injEq, and_assoc]; simpa only [Buf_Reader.mk.injEq, and_assoc] using h⟩
theorem eBuf_Reader_iff {a b : Buf_Reader} : eBuf_Reader a = eBuf_Reader b ↔ a = b := ⟨Inj.inj a b, fun h => by rw [h]⟩
structure Annuletref06_Cur where
  b : List Int
  at_ : Int
  met : Int
  deriving DecidableEq
def eAnnuletref06_Cur (x : Annuletref06_Cur) : AV := .agg [.lit 5 false (List.map vB x.b), vI x.at_, vI x.met]
theorem Annuletref06_Cur.ext' {a b : Annuletref06_Cur} : a = b ↔ a.b = b.b ∧ a.at_ = b.at_ ∧ a.met = b.met := by cases a; cases b; simp
instance : Inj eAnnuletref06_Cur := ⟨fun a b h => by
  obtain ⟨_, _, _⟩ := a; obtain ⟨_, _, _⟩ := b
  simp only [eAnnuletref06_Cur, AV.agg.injEq, List.cons.injEq, AV.sc.injEq, Value.int.injEq, Value.bool.injEq, Value.string.injEq, AV.lit.injEq, map_iff, and_true, true_and, and_assoc] at h
  simp only [Annuletref06_Cur.mk.injEq, and_assoc]; simpa only [Annuletref06_Cur.mk.injEq, and_assoc] using h⟩
theorem eAnnuletref06_Cur_iff {a b : Annuletref06_Cur} : eAnnuletref06_Cur a = eAnnuletref06_Cur b ↔ a = b := ⟨Inj.inj a b, fun h => by rw [h]⟩
structure Msg_kind where
  name : ByteArray
  fields : Int
  replies : List Int
  deriving DecidableEq
def eMsg_kind (x : Msg_kind) : AV := .agg [vT x.name, vI x.fields, .lit 3 false (List.map vI x.replies)]
theorem Msg_kind.ext' {a b : Msg_kind} : a = b ↔ a.name = b.name ∧ a.fields = b.fields ∧ a.replies = b.replies := by cases a; cases b; simp
instance : Inj eMsg_kind := ⟨fun a b h => by
  obtain ⟨_, _, _⟩ := a; obtain ⟨_, _, _⟩ := b
  simp only [eMsg_kind, AV.agg.injEq, List.cons.injEq, AV.sc.injEq, Value.int.injEq, Value.bool.injEq, Value.string.injEq, AV.lit.injEq, map_iff, and_true, true_and, and_assoc] at h
  simp only [Msg_kind.mk.injEq, and_assoc]; simpa only [Msg_kind.mk.injEq, and_assoc] using h⟩
theorem eMsg_kind_iff {a b : Msg_kind} : eMsg_kind a = eMsg_kind b ↔ a = b := ⟨Inj.inj a b, fun h => by rw [h]⟩
theorem inj_ {p : Prop} (q : p := by
  first | rfl | ((try simp only [Prod.mk.injEq, St.mk.injEq, List.cons.injEq, AV.sc.injEq, AV.agg.injEq, AV.tup.injEq, AV.lit.injEq, AV.sl.injEq, AV.sub.injEq, AV.rptr.injEq, AV.lptr.injEq, AV.bptr.injEq, AV.fn.injEq, Ent.box.injEq, Ent.row.injEq, Ent.it.injEq, Value.int.injEq, Value.bool.injEq, Value.string.injEq, bd_inj, map_iff, eL_iff, and_true, true_and, and_assoc, reduceCtorEq, false_and, and_false, ePeer_iff, ePair_iff, eMsg_iff, eBuf_Reader_iff, eAnnuletref06_Cur_iff, eMsg_kind_iff] at h) <;> simp_all)) : p := q
noncomputable abbrev IF_ : Ifc := ⟨Ops.std, (lim F pr).call, (lim F pr).loop, pr, (lim F pr).seg⟩
theorem fin_ {p : Prop} (h : p := by
  try dsimp only [bd, gam, xlen, xget, xsub, xroom, xsget, xssub, xsapp, xsdec, xsofb, eL, ePeer, ePair, eMsg, eBuf_Reader, eAnnuletref06_Cur, eMsg_kind] at *
  try simp only [map_app, map_set, map_put, map_fil, map_sbytes, List.map_cons, List.map_nil] at *
  try dsimp only [ePeer, ePair, eMsg, eBuf_Reader, eAnnuletref06_Cur, eMsg_kind] at *
  try simp only [List.map_cons, List.map_nil] at *
  unfold IF_
  generalize (lim F pr).call = call at *
  generalize (lim F pr).loop = loop at *
  generalize (lim F pr).seg = seg at *
  try generalize List.map eMsg_kind = m0 at *
  try generalize List.map ePair = m1 at *
  try generalize List.map ePeer = m2 at *
  try generalize List.map vB = m3 at *
  try generalize List.map vI = m4 at *
  try generalize List.map vT = m5 at *
  generalize Ops.std = o at *
  cases o
  try dsimp only at *
  repeat ((try cbv); first | rw [h0] | rw [h1] | rw [h2] | rw [h3] | rw [h4] | rw [h5] | rw [h6] | rw [h7] | rw [h8] | rw [h9] | rw [h10] | rw [h11] | rw [h12] | rw [h13] | rw [h14] | rw [h15] | rw [h16] | rw [h17] | rw [h18] | rw [h19] | rw [h20] | rw [h21] | rw [h22] | rw [h23] | rw [h24] | rw [h25] | rw [h26] | rw [h27] | rw [h28] | rw [h29] | rw [h30] | rw [h31] | rw [h32] | rw [h33] | rw [h34] | rw [h35] | rw [h36] | rw [h37] | rw [h38] | rw [h39] | rw [h40] | rw [h41] | rw [h42] | rw [h43] | rw [h44] | rw [h45] | rw [h46] | rw [h47] | rw [h48] | rw [h49] | rw [h50] | rw [h51] | rw [h52] | rw [h53] | rw [h54] | rw [h55] | rw [h56] | rw [h57] | rw [h58] | rw [h59] | rw [h60] | rw [h61] | rw [h62] | rw [h63] | rw [h64] | rw [h65] | rw [h66] | rw [h67] | rw [h68] | rw [h69] | rw [h70])
  try cbv) : p := h
noncomputable def w09_FixedBack (m : Msg) (b : List Int) : Option (Bool) := ask (R1 vF) ((lim F pr).call 9 [eMsg m, .lit 5 false (List.map vB b)] [])
noncomputable def w08_Large (m : Msg) : Option (Bool) := ask (R1 vF) ((lim F pr).call 26 [eMsg m] [])
noncomputable def w09_awake : Option (Bool) := ask (R1 vF) ((lim F pr).call 27 [] [])
noncomputable def fixed_Enc (m : Msg) : Option (((List Int) × Int)) := ask (R2 (eL 5 vB) vI) ((lim F pr).call 28 [eMsg m] [])
noncomputable def fixed_Dec (b : List Int) : Option ((Msg × Int)) := ask (R2 eMsg vI) ((lim F pr).call 30 [.lit 5 false (List.map vB b)] [])
noncomputable def r08_Same (a : Msg) (b : Msg) : Option (Bool) := ask (R1 vF) ((lim F pr).call 32 [eMsg a, eMsg b] [])
noncomputable def msg_Right (m : Msg) : Option (Int) := ask (R1 vI) ((lim F pr).call 50 [eMsg m] [])
noncomputable def buf_Fix_e (γ : Nat → Nat) : (List Int) → AV × Store
  | a0 => (.sl 0 ((γ 0)), [.row 5 (γ 0) false (List.map vB a0)])
instance : InjS buf_Fix_e := ⟨fun γ γ' x y h => by
  rcases x with a0 <;> rcases y with a0' <;> simp only [buf_Fix_e] at h <;> exact inj_⟩
noncomputable def buf_Fix (n : Int) (size : Int) (r0 : List Int) : Option ((List Int)) := asks (fun γ => (lim F pr).call 91 [.sl 0 (γ 0), vU n, vI size] [.row 5 (γ 0) false (List.map vB r0)]) buf_Fix_e
noncomputable def fixed_writer_num_e (γ : Nat → Nat) : (List Int) → AV × Store
  | a0 => (.tup [], [.box 73 [.sl 1 ((γ 1))], .row 5 (γ 1) false (List.map vB a0)])
instance : InjS fixed_writer_num_e := ⟨fun γ γ' x y h => by
  rcases x with a0 <;> rcases y with a0' <;> simp only [fixed_writer_num_e] at h <;> exact inj_⟩
noncomputable def fixed_writer_num (n : Int) (size : Int) (r1 : List Int) : Option ((List Int)) := asks (fun γ => (lim F pr).call 51 [.bptr 0 0, vU n, vI size] [.box 73 [.sl 1 (γ 1)], .row 5 (γ 1) false (List.map vB r1)]) fixed_writer_num_e
noncomputable def fixed_writer_flag_e (γ : Nat → Nat) : (List Int) → AV × Store
  | a0 => (.tup [], [.box 73 [.sl 1 ((γ 1))], .row 5 (γ 1) false (List.map vB a0)])
instance : InjS fixed_writer_flag_e := ⟨fun γ γ' x y h => by
  rcases x with a0 <;> rcases y with a0' <;> simp only [fixed_writer_flag_e] at h <;> exact inj_⟩
noncomputable def fixed_writer_flag (is : Bool) (r1 : List Int) : Option ((List Int)) := asks (fun γ => (lim F pr).call 52 [.bptr 0 0, vF is] [.box 73 [.sl 1 (γ 1)], .row 5 (γ 1) false (List.map vB r1)]) fixed_writer_flag_e
noncomputable def fixed_writer_peer_e (γ : Nat → Nat) : (List Int) → AV × Store
  | a0 => (.tup [], [.box 73 [.sl 1 ((γ 1))], .row 5 (γ 1) false (List.map vB a0)])
instance : InjS fixed_writer_peer_e := ⟨fun γ γ' x y h => by
  rcases x with a0 <;> rcases y with a0' <;> simp only [fixed_writer_peer_e] at h <;> exact inj_⟩
noncomputable def fixed_writer_peer (p : Peer) (r1 : List Int) : Option ((List Int)) := asks (fun γ => (lim F pr).call 53 [.bptr 0 0, ePeer p] [.box 73 [.sl 1 (γ 1)], .row 5 (γ 1) false (List.map vB r1)]) fixed_writer_peer_e
noncomputable def fixed_writer_peers_e (γ : Nat → Nat) : (List Int) → AV × Store
  | a0 => (.tup [], [.box 73 [.sl 1 ((γ 1))], .row 5 (γ 1) false (List.map vB a0)])
instance : InjS fixed_writer_peers_e := ⟨fun γ γ' x y h => by
  rcases x with a0 <;> rcases y with a0' <;> simp only [fixed_writer_peers_e] at h <;> exact inj_⟩
noncomputable def fixed_writer_peers (l : List Peer) (r1 : List Int) : Option ((List Int)) := asks (fun γ => (lim F pr).call 54 [.bptr 0 0, .lit 46 false (List.map ePeer l)] [.box 73 [.sl 1 (γ 1)], .row 5 (γ 1) false (List.map vB r1)]) fixed_writer_peers_e
noncomputable def fixed_writer_text_e (γ : Nat → Nat) : (List Int) → AV × Store
  | a0 => (.tup [], [.box 73 [.sl 1 ((γ 1))], .row 5 (γ 1) false (List.map vB a0)])
instance : InjS fixed_writer_text_e := ⟨fun γ γ' x y h => by
  rcases x with a0 <;> rcases y with a0' <;> simp only [fixed_writer_text_e] at h <;> exact inj_⟩
noncomputable def fixed_writer_text (s : ByteArray) (size : Int) (r1 : List Int) : Option ((List Int)) := asks (fun γ => (lim F pr).call 55 [.bptr 0 0, vT s, vI size] [.box 73 [.sl 1 (γ 1)], .row 5 (γ 1) false (List.map vB r1)]) fixed_writer_text_e
noncomputable def fixed_writer_pairs_e (γ : Nat → Nat) : (List Int) → AV × Store
  | a0 => (.tup [], [.box 73 [.sl 1 ((γ 1))], .row 5 (γ 1) false (List.map vB a0)])
instance : InjS fixed_writer_pairs_e := ⟨fun γ γ' x y h => by
  rcases x with a0 <;> rcases y with a0' <;> simp only [fixed_writer_pairs_e] at h <;> exact inj_⟩
noncomputable def fixed_writer_pairs (l : List Pair) (r1 : List Int) : Option ((List Int)) := asks (fun γ => (lim F pr).call 56 [.bptr 0 0, .lit 41 false (List.map ePair l)] [.box 73 [.sl 1 (γ 1)], .row 5 (γ 1) false (List.map vB r1)]) fixed_writer_pairs_e
noncomputable def buf_Open_e (b : List Int) : (Bool × Int) → AV × Store
  | (a0, a1) => (.bptr 0 0, [.box 112 [vF a0, .lit 5 false (List.map vB b), vI a1]])
instance {b} : Inj (buf_Open_e b) := ⟨fun x y h => by
  rcases x with ⟨a0, a1⟩ <;> rcases y with ⟨a0', a1'⟩ <;> simp only [buf_Open_e] at h <;> exact inj_⟩
noncomputable def buf_Open (b : List Int) : Option ((Bool × Int)) := ask (buf_Open_e b) ((lim F pr).call 59 [.lit 5 false (List.map vB b)] [])
noncomputable def buf_Reader_dead_e (b0_rest : List Int) (b0_met : Int) : (Bool × Bool) → AV × Store
  | (a0, a1) => (vF a0, [.box 112 [vF a1, .lit 5 false (List.map vB b0_rest), vI b0_met]])
instance {b0_rest b0_met} : Inj (buf_Reader_dead_e b0_rest b0_met) := ⟨fun x y h => by
  rcases x with ⟨a0, a1⟩ <;> rcases y with ⟨a0', a1'⟩ <;> simp only [buf_Reader_dead_e] at h <;> exact inj_⟩
noncomputable def buf_Reader_dead (b0_made : Bool) (b0_rest : List Int) (b0_met : Int) : Option ((Bool × Bool)) := ask (buf_Reader_dead_e b0_rest b0_met) ((lim F pr).call 99 [.bptr 0 0] [.box 112 [vF b0_made, .lit 5 false (List.map vB b0_rest), vI b0_met]])
noncomputable def buf_Reader_lacks_e (b0_made : Bool) (b0_rest : List Int) : (Bool × Int) → AV × Store
  | (a0, a1) => (vF a0, [.box 112 [vF b0_made, .lit 5 false (List.map vB b0_rest), vI a1]])
instance {b0_made b0_rest} : Inj (buf_Reader_lacks_e b0_made b0_rest) := ⟨fun x y h => by
  rcases x with ⟨a0, a1⟩ <;> rcases y with ⟨a0', a1'⟩ <;> simp only [buf_Reader_lacks_e] at h <;> exact inj_⟩
noncomputable def buf_Reader_lacks (n : Int) (b0_made : Bool) (b0_rest : List Int) (b0_met : Int) : Option ((Bool × Int)) := ask (buf_Reader_lacks_e b0_made b0_rest) ((lim F pr).call 100 [.bptr 0 0, vI n] [.box 112 [vF b0_made, .lit 5 false (List.map vB b0_rest), vI b0_met]])
noncomputable def buf_Reader_take_e (b0_made : Bool) (b0_met : Int) (γ : Nat → Nat) : ((List Int) × (List Int)) → AV × Store
  | (a0, a1) => (.sl 1 ((γ 1)), [.box 112 [vF b0_made, .lit 5 false (List.map vB a0), vI b0_met], .row 5 (γ 1) false (List.map vB a1)])
instance {b0_made b0_met} : InjS (buf_Reader_take_e b0_made b0_met) := ⟨fun γ γ' x y h => by
  rcases x with ⟨a0, a1⟩ <;> rcases y with ⟨a0', a1'⟩ <;> simp only [buf_Reader_take_e] at h <;> exact inj_⟩
noncomputable def buf_Reader_take (n : Int) (b0_made : Bool) (b0_rest : List Int) (b0_met : Int) : Option (((List Int) × (List Int))) := asks (fun γ => (lim F pr).call 101 [.bptr 0 0, vI n] [.box 112 [vF b0_made, .lit 5 false (List.map vB b0_rest), vI b0_met]]) (buf_Reader_take_e b0_made b0_met)
noncomputable def buf_Reader_Fix_e : (Int × Bool × (List Int) × Int) → AV × Store
  | (a0, a1, a2, a3) => (vU a0, [.box 112 [vF a1, .lit 5 false (List.map vB a2), vI a3]])
instance : Inj buf_Reader_Fix_e := ⟨fun x y h => by
  rcases x with ⟨a0, a1, a2, a3⟩ <;> rcases y with ⟨a0', a1', a2', a3'⟩ <;> simp only [buf_Reader_Fix_e] at h <;> exact inj_⟩
noncomputable def buf_Reader_Fix (size : Int) (b0_made : Bool) (b0_rest : List Int) (b0_met : Int) : Option ((Int × Bool × (List Int) × Int)) := ask buf_Reader_Fix_e ((lim F pr).call 60 [.bptr 0 0, vI size] [.box 112 [vF b0_made, .lit 5 false (List.map vB b0_rest), vI b0_met]])
noncomputable def msg_Name (k : Int) : Option (ByteArray) := ask (R1 vT) ((lim F pr).call 61 [vI k] [])
noncomputable def buf_Reader_Fail_e (b0_rest : List Int) : (Bool × Int) → AV × Store
  | (a0, a1) => (.tup [], [.box 112 [vF a0, .lit 5 false (List.map vB b0_rest), vI a1]])
instance {b0_rest} : Inj (buf_Reader_Fail_e b0_rest) := ⟨fun x y h => by
  rcases x with ⟨a0, a1⟩ <;> rcases y with ⟨a0', a1'⟩ <;> simp only [buf_Reader_Fail_e] at h <;> exact inj_⟩
noncomputable def buf_Reader_Fail (e_ : Int) (b0_made : Bool) (b0_rest : List Int) (b0_met : Int) : Option ((Bool × Int)) := ask (buf_Reader_Fail_e b0_rest) ((lim F pr).call 62 [.bptr 0 0, vI e_] [.box 112 [vF b0_made, .lit 5 false (List.map vB b0_rest), vI b0_met]])
noncomputable def buf_Reader_Flag_e : (Bool × Bool × (List Int) × Int) → AV × Store
  | (a0, a1, a2, a3) => (vF a0, [.box 112 [vF a1, .lit 5 false (List.map vB a2), vI a3]])
instance : Inj buf_Reader_Flag_e := ⟨fun x y h => by
  rcases x with ⟨a0, a1, a2, a3⟩ <;> rcases y with ⟨a0', a1', a2', a3'⟩ <;> simp only [buf_Reader_Flag_e] at h <;> exact inj_⟩
noncomputable def buf_Reader_Flag (b0_made : Bool) (b0_rest : List Int) (b0_met : Int) : Option ((Bool × Bool × (List Int) × Int)) := ask buf_Reader_Flag_e ((lim F pr).call 103 [.bptr 0 0] [.box 112 [vF b0_made, .lit 5 false (List.map vB b0_rest), vI b0_met]])
noncomputable def fixed_peer_e : (Peer × Bool × (List Int) × Int) → AV × Store
  | (a0, a1, a2, a3) => (ePeer a0, [.box 112 [vF a1, .lit 5 false (List.map vB a2), vI a3]])
instance : Inj fixed_peer_e := ⟨fun x y h => by
  rcases x with ⟨a0, a1, a2, a3⟩ <;> rcases y with ⟨a0', a1', a2', a3'⟩ <;> simp only [fixed_peer_e] at h <;> exact inj_⟩
noncomputable def fixed_peer (b0_made : Bool) (b0_rest : List Int) (b0_met : Int) : Option ((Peer × Bool × (List Int) × Int)) := ask fixed_peer_e ((lim F pr).call 104 [.bptr 0 0] [.box 112 [vF b0_made, .lit 5 false (List.map vB b0_rest), vI b0_met]])
noncomputable def buf_Reader_Err_e (b0_rest : List Int) (b0_met : Int) : (Int × Bool) → AV × Store
  | (a0, a1) => (vI a0, [.box 112 [vF a1, .lit 5 false (List.map vB b0_rest), vI b0_met]])
instance {b0_rest b0_met} : Inj (buf_Reader_Err_e b0_rest b0_met) := ⟨fun x y h => by
  rcases x with ⟨a0, a1⟩ <;> rcases y with ⟨a0', a1'⟩ <;> simp only [buf_Reader_Err_e] at h <;> exact inj_⟩
noncomputable def buf_Reader_Err (b0_made : Bool) (b0_rest : List Int) (b0_met : Int) : Option ((Int × Bool)) := ask (buf_Reader_Err_e b0_rest b0_met) ((lim F pr).call 108 [.bptr 0 0] [.box 112 [vF b0_made, .lit 5 false (List.map vB b0_rest), vI b0_met]])
noncomputable def fixed_many_e : (Int × Bool × (List Int) × Int) → AV × Store
  | (a0, a1, a2, a3) => (vI a0, [.box 112 [vF a1, .lit 5 false (List.map vB a2), vI a3]])
instance : Inj fixed_many_e := ⟨fun x y h => by
  rcases x with ⟨a0, a1, a2, a3⟩ <;> rcases y with ⟨a0', a1', a2', a3'⟩ <;> simp only [fixed_many_e] at h <;> exact inj_⟩
noncomputable def fixed_many (most : Int) (b0_made : Bool) (b0_rest : List Int) (b0_met : Int) : Option ((Int × Bool × (List Int) × Int)) := ask fixed_many_e ((lim F pr).call 124 [.bptr 0 0, vI most] [.box 112 [vF b0_made, .lit 5 false (List.map vB b0_rest), vI b0_met]])
noncomputable def fixed_peers_e (γ : Nat → Nat) : (Bool × (List Int) × Int × (List Peer)) → AV × Store
  | (a0, a1, a2, a3) => (.sl 1 ((γ 1)), [.box 112 [vF a0, .lit 5 false (List.map vB a1), vI a2], .row 46 (γ 1) false (List.map ePeer a3)])
instance : InjS fixed_peers_e := ⟨fun γ γ' x y h => by
  rcases x with ⟨a0, a1, a2, a3⟩ <;> rcases y with ⟨a0', a1', a2', a3'⟩ <;> simp only [fixed_peers_e] at h <;> exact inj_⟩
noncomputable def fixed_peers (b0_made : Bool) (b0_rest : List Int) (b0_met : Int) : Option ((Bool × (List Int) × Int × (List Peer))) := asks (fun γ => (lim F pr).call 105 [.bptr 0 0] [.box 112 [vF b0_made, .lit 5 false (List.map vB b0_rest), vI b0_met]]) fixed_peers_e
noncomputable def buf_Reader_Take_e (γ : Nat → Nat) : (Bool × (List Int) × Int × (List Int)) → AV × Store
  | (a0, a1, a2, a3) => (.sl 1 ((γ 1)), [.box 112 [vF a0, .lit 5 false (List.map vB a1), vI a2], .row 5 (γ 1) false (List.map vB a3)])
instance : InjS buf_Reader_Take_e := ⟨fun γ γ' x y h => by
  rcases x with ⟨a0, a1, a2, a3⟩ <;> rcases y with ⟨a0', a1', a2', a3'⟩ <;> simp only [buf_Reader_Take_e] at h <;> exact inj_⟩
noncomputable def buf_Reader_Take (n : Int) (b0_made : Bool) (b0_rest : List Int) (b0_met : Int) : Option ((Bool × (List Int) × Int × (List Int))) := asks (fun γ => (lim F pr).call 125 [.bptr 0 0, vI n] [.box 112 [vF b0_made, .lit 5 false (List.map vB b0_rest), vI b0_met]]) buf_Reader_Take_e
noncomputable def fixed_text_e : (ByteArray × Bool × (List Int) × Int) → AV × Store
  | (a0, a1, a2, a3) => (vT a0, [.box 112 [vF a1, .lit 5 false (List.map vB a2), vI a3]])
instance : Inj fixed_text_e := ⟨fun x y h => by
  rcases x with ⟨a0, a1, a2, a3⟩ <;> rcases y with ⟨a0', a1', a2', a3'⟩ <;> simp only [fixed_text_e] at h <;> exact inj_⟩
noncomputable def fixed_text (size : Int) (most : Int) (b0_made : Bool) (b0_rest : List Int) (b0_met : Int) : Option ((ByteArray × Bool × (List Int) × Int)) := ask fixed_text_e ((lim F pr).call 106 [.bptr 0 0, vI size, vI most] [.box 112 [vF b0_made, .lit 5 false (List.map vB b0_rest), vI b0_met]])
noncomputable def fixed_pairs_e (γ : Nat → Nat) : (Bool × (List Int) × Int × (List Pair)) → AV × Store
  | (a0, a1, a2, a3) => (.sl 1 ((γ 1)), [.box 112 [vF a0, .lit 5 false (List.map vB a1), vI a2], .row 41 (γ 1) false (List.map ePair a3)])
instance : InjS fixed_pairs_e := ⟨fun γ γ' x y h => by
  rcases x with ⟨a0, a1, a2, a3⟩ <;> rcases y with ⟨a0', a1', a2', a3'⟩ <;> simp only [fixed_pairs_e] at h <;> exact inj_⟩
noncomputable def fixed_pairs (b0_made : Bool) (b0_rest : List Int) (b0_met : Int) : Option ((Bool × (List Int) × Int × (List Pair))) := asks (fun γ => (lim F pr).call 107 [.bptr 0 0] [.box 112 [vF b0_made, .lit 5 false (List.map vB b0_rest), vI b0_met]]) fixed_pairs_e
abbrev fixed_fields_T := (Bool × (List Int) × Int × Int × Bool × Int × ByteArray × ByteArray × Int × Int × (List Peer) × (List Pair))
noncomputable def fixed_fields_e (b1_kind : Int) (b1_rid : Int) : fixed_fields_T → AV × Store
  | (a0, a1, a2, a3, a4, a5, a6, a7, a8, a9, a10, a11) => (.tup [], [.box 112 [vF a0, .lit 5 false (List.map vB a1), vI a2], .box 49 [vI b1_kind, vW b1_rid, vB a3, vF a4, vU a5, vT a6, vT a7, vU a8, vH a9, .lit 46 false (List.map ePeer a10), .lit 41 false (List.map ePair a11)]])
instance {b1_kind b1_rid} : Inj (fixed_fields_e b1_kind b1_rid) := ⟨fun x y h => by
  rcases x with ⟨a0, a1, a2, a3, a4, a5, a6, a7, a8, a9, a10, a11⟩ <;> rcases y with ⟨a0', a1', a2', a3', a4', a5', a6', a7', a8', a9', a10', a11'⟩ <;> simp only [fixed_fields_e] at h <;> exact inj_⟩
noncomputable def fixed_fields (b0_made : Bool) (b0_rest : List Int) (b0_met : Int) (b1_kind : Int) (b1_rid : Int) (b1_code : Int) (b1_has : Bool) (b1_id : Int) (b1_key : ByteArray) (b1_val : ByteArray) (b1_peer_id : Int) (b1_peer_addr : Int) (b1_peers : List Peer) (b1_pairs : List Pair) : Option (fixed_fields_T) := ask (fixed_fields_e b1_kind b1_rid) ((lim F pr).call 63 [.bptr 0 0, .bptr 1 0] [.box 112 [vF b0_made, .lit 5 false (List.map vB b0_rest), vI b0_met], .box 49 [vI b1_kind, vW b1_rid, vB b1_code, vF b1_has, vU b1_id, vT b1_key, vT b1_val, vU b1_peer_id, vH b1_peer_addr, .lit 46 false (List.map ePeer b1_peers), .lit 41 false (List.map ePair b1_pairs)]])
noncomputable def buf_Reader_End_e (b0_rest : List Int) (b0_met : Int) : (Int × Bool) → AV × Store
  | (a0, a1) => (vI a0, [.box 112 [vF a1, .lit 5 false (List.map vB b0_rest), vI b0_met]])
instance {b0_rest b0_met} : Inj (buf_Reader_End_e b0_rest b0_met) := ⟨fun x y h => by
  rcases x with ⟨a0, a1⟩ <;> rcases y with ⟨a0', a1'⟩ <;> simp only [buf_Reader_End_e] at h <;> exact inj_⟩
noncomputable def buf_Reader_End (b0_made : Bool) (b0_rest : List Int) (b0_met : Int) : Option ((Int × Bool)) := ask (buf_Reader_End_e b0_rest b0_met) ((lim F pr).call 64 [.bptr 0 0] [.box 112 [vF b0_made, .lit 5 false (List.map vB b0_rest), vI b0_met]])
noncomputable def r08_Peers (a : List Peer) (b : List Peer) : Option (Bool) := ask (R1 vF) ((lim F pr).call 72 [.lit 46 false (List.map ePeer a), .lit 46 false (List.map ePeer b)] [])
noncomputable def r08_Pairs (a : List Pair) (b : List Pair) : Option (Bool) := ask (R1 vF) ((lim F pr).call 16 [.lit 41 false (List.map ePair a), .lit 41 false (List.map ePair b)] [])
noncomputable def msg_fields (m : Msg) : Option (Int) := ask (R1 vI) ((lim F pr).call 85 [eMsg m] [])
noncomputable def msg_Bare (m : Msg) : Option (Msg) := ask (R1 eMsg) ((lim F pr).call 87 [eMsg m] [])
noncomputable def msg_Same (a : Msg) (b : Msg) : Option (Bool) := ask (R1 vF) ((lim F pr).call 86 [eMsg a, eMsg b] [])
noncomputable def msg_text (m : Msg) (f : Int) : Option (Bool) := ask (R1 vF) ((lim F pr).call 88 [eMsg m, vI f] [])
noncomputable def msg_long (m : Msg) : Option (Bool) := ask (R1 vF) ((lim F pr).call 89 [eMsg m] [])
noncomputable def msg_short (m : Msg) : Option (Bool) := ask (R1 vF) ((lim F pr).call 90 [eMsg m] [])
noncomputable def msg_of (k : Int) : Option (Msg_kind) := ask (R1 eMsg_kind) ((lim F pr).call 102 [vI k] [])
noncomputable def Equal_Peer (s1 : List Peer) (s2 : List Peer) : Option (Bool) := ask (R1 vF) ((lim F pr).call 115 [.lit 46 false (List.map ePeer s1), .lit 46 false (List.map ePeer s2)] [])
noncomputable def Equal_Pair (s1 : List Pair) (s2 : List Pair) : Option (Bool) := ask (R1 vF) ((lim F pr).call 116 [.lit 41 false (List.map ePair s1), .lit 41 false (List.map ePair s2)] [])
noncomputable def ContainsFunc_Pair (s : List Pair) : Option (Bool) := ask (R1 vF) ((lim F pr).call 118 [.lit 41 false (List.map ePair s), .fn 119 []] [])
noncomputable def msg_Key (s : ByteArray) : Option (Bool) := ask (R1 vF) ((lim F pr).call 35 [vT s] [])
noncomputable def ContainsFunc_Pair_1 (s : List Pair) : Option (Bool) := ask (R1 vF) ((lim F pr).call 118 [.lit 41 false (List.map ePair s), .fn 120 []] [])
noncomputable def msg_kinds : Option ((List Msg_kind)) := ask (R1 (eL 118 eMsg_kind)) ((lim F pr).call 123 [] [])
noncomputable def IndexFunc_Pair (s : List Pair) : Option (Int) := ask (R1 vI) ((lim F pr).call 36 [.lit 41 false (List.map ePair s), .fn 119 []] [])
noncomputable def utf_Valid (s : ByteArray) : Option (Bool) := ask (R1 vF) ((lim F pr).call 74 [vT s] [])
noncomputable def utf_Count (s : ByteArray) : Option (Int) := ask (R1 vI) ((lim F pr).call 75 [vT s] [])
noncomputable def IndexFunc_Pair_1 (s : List Pair) : Option (Int) := ask (R1 vI) ((lim F pr).call 36 [.lit 41 false (List.map ePair s), .fn 120 []] [])
noncomputable def msg_text_1 (p : Pair) : Option (Bool) := ask (R1 vF) ((lim F pr).call 119 [ePair p] [])
noncomputable def utf_stray (s : ByteArray) (at_ : Int) (c : Int) : Option (Bool) := ask (R1 vF) ((lim F pr).call 111 [vT s, vI at_, vR c] [])
noncomputable def msg_long_1 (p : Pair) : Option (Bool) := ask (R1 vF) ((lim F pr).call 120 [ePair p] [])
end Go.Ab.Tryd
namespace Go.Ab.Tryd
open Go Go.Ab Go.Proofs
set_option linter.unusedVariables false
set_option linter.unusedSimpArgs false
set_option maxRecDepth 10000
set_option maxHeartbeats 4000000
noncomputable def w09_FixedBack_s1_x (m : Msg) (γ : Nat → Nat) : Bool → X × St
  | a0 => (.ret, ⟨bd 4 (vF a0 :: bd 64 []), [.box 49 [vI m.kind, vW m.rid, vB m.code, vF m.has, vU m.id, vT m.key, vT m.val, vU m.peer.id, vH m.peer.addr, .lit 46 false (List.map ePeer m.peers), .lit 41 false (List.map ePair m.pairs)]]⟩)
instance {m} : InjS (w09_FixedBack_s1_x m) := ⟨fun γ γ' x y h => by
  rcases x with a0 <;> rcases y with a0' <;> simp only [w09_FixedBack_s1_x] at h <;> exact inj_⟩
noncomputable def w09_FixedBack_s1 (m : Msg) (b : List Int) : Option (Bool) := asks (fun γ => (lim F pr).seg [4] b9_1 ⟨bd 1 (.lit 5 false (List.map vB b) :: .bptr 0 0 :: bd 66 []), [.box 49 [vI m.kind, vW m.rid, vB m.code, vF m.has, vU m.id, vT m.key, vT m.val, vU m.peer.id, vH m.peer.addr, .lit 46 false (List.map ePeer m.peers), .lit 41 false (List.map ePair m.pairs)]]⟩) (w09_FixedBack_s1_x m)
abbrev w09_FixedBack_s0_T := (Bool × Int × Int × Int × Bool × Int × ByteArray × ByteArray × Int × Int × (List Peer) × (List Pair))
noncomputable def w09_FixedBack_s0_x (m : Msg) (γ : Nat → Nat) : w09_FixedBack_s0_T → X × St
  | (a0, a1, a2, a3, a4, a5, a6, a7, a8, a9, a10, a11) => (.ret, ⟨bd 4 (vF a0 :: bd 64 []), [.box 49 [vI m.kind, vW m.rid, vB m.code, vF m.has, vU m.id, vT m.key, vT m.val, vU m.peer.id, vH m.peer.addr, .lit 46 false (List.map ePeer m.peers), .lit 41 false (List.map ePair m.pairs)], .box 49 [vI a1, vW a2, vB a3, vF a4, vU a5, vT a6, vT a7, vU a8, vH a9, .lit 46 false (List.map ePeer a10), .lit 41 false (List.map ePair a11)]]⟩)
instance {m} : InjS (w09_FixedBack_s0_x m) := ⟨fun γ γ' x y h => by
  rcases x with ⟨a0, a1, a2, a3, a4, a5, a6, a7, a8, a9, a10, a11⟩ <;> rcases y with ⟨a0', a1', a2', a3', a4', a5', a6', a7', a8', a9', a10', a11'⟩ <;> simp only [w09_FixedBack_s0_x] at h <;> exact inj_⟩
noncomputable def w09_FixedBack_s0 (m : Msg) (b : List Int) (b1_kind : Int) (b1_rid : Int) (b1_code : Int) (b1_has : Bool) (b1_id : Int) (b1_key : ByteArray) (b1_val : ByteArray) (b1_peer_id : Int) (b1_peer_addr : Int) (b1_peers : List Peer) (b1_pairs : List Pair) : Option (w09_FixedBack_s0_T) := asks (fun γ => (lim F pr).seg [4] b9_0 ⟨bd 1 (.lit 5 false (List.map vB b) :: bd 67 []), [.box 49 [vI m.kind, vW m.rid, vB m.code, vF m.has, vU m.id, vT m.key, vT m.val, vU m.peer.id, vH m.peer.addr, .lit 46 false (List.map ePeer m.peers), .lit 41 false (List.map ePair m.pairs)], .box 49 [vI b1_kind, vW b1_rid, vB b1_code, vF b1_has, vU b1_id, vT b1_key, vT b1_val, vU b1_peer_id, vH b1_peer_addr, .lit 46 false (List.map ePeer b1_peers), .lit 41 false (List.map ePair b1_pairs)]]⟩) (w09_FixedBack_s0_x m)
noncomputable def w09_FixedBack_s1_b (m : Msg) (b : List Int) : Option (Bool) :=
  (fixed_Enc m).bind fun ⟨r0, r1⟩ =>
  (fixed_Dec r0).bind fun ⟨r01, r11⟩ =>
  bif Ops.std.ieq r1 0 then
    bif Ops.std.ieq r11 0 then
      (r08_Same r01 m).bind fun res =>
      bif res then
        (w09_FixedBack_s0 m b r01.kind r01.rid r01.code r01.has r01.id r01.key r01.val r01.peer.id r01.peer.addr r01.peers r01.pairs).bind fun ⟨t4, b1_kind, b1_rid, b1_code, b1_has, b1_id, b1_key, b1_val, b1_peer_id, b1_peer_addr, b1_peers, b1_pairs⟩ =>
        some t4
      else
        some false
    else
      some false
  else
    (w09_FixedBack_s0 m b r01.kind r01.rid r01.code r01.has r01.id r01.key r01.val r01.peer.id r01.peer.addr r01.peers r01.pairs).bind fun ⟨t4, b1_kind, b1_rid, b1_code, b1_has, b1_id, b1_key, b1_val, b1_peer_id, b1_peer_addr, b1_peers, b1_pairs⟩ =>
    some t4
theorem w09_FixedBack_s1_r {m b r} (h : w09_FixedBack_s1_b m b = some r) : w09_FixedBack_s1 m b = some r := by
  unfold w09_FixedBack_s1_b at h
  refine asks_of fun γ => ?_
  obtain ⟨r1, h1, h⟩ := bind_ask h
  rcases r1 with ⟨r0, r1⟩
  obtain ⟨r2, h2, h⟩ := bind_ask h
  rcases r2 with ⟨r01, r11⟩
  rcases cond_some h with ⟨h3, h⟩ | ⟨h3, h⟩
  rcases cond_some h with ⟨h4, h⟩ | ⟨h4, h⟩
  obtain ⟨res, h5, h⟩ := bind_ask h
  rcases cond_some h with ⟨h6, h⟩ | ⟨h6, h⟩
  obtain ⟨r7, γ4, h7, h⟩ := bind_asks h (gam [])
  rcases r7 with ⟨t4, b1_kind, b1_rid, b1_code, b1_has, b1_id, b1_key, b1_val, b1_peer_id, b1_peer_addr, b1_peers, b1_pairs⟩
  cases h; refine ⟨gam [], seg_lim ?_⟩; rotate_left
  cases h; refine ⟨gam [], seg_lim ?_⟩; rotate_left
  cases h; refine ⟨gam [], seg_lim ?_⟩; rotate_left
  obtain ⟨r4, γ3, h4, h⟩ := bind_asks h (gam [])
  rcases r4 with ⟨t4, b1_kind, b1_rid, b1_code, b1_has, b1_id, b1_key, b1_val, b1_peer_id, b1_peer_addr, b1_peers, b1_pairs⟩
  cases h; refine ⟨gam [], seg_lim ?_⟩; rotate_left
  all_goals (dsimp only [R1, R2, w09_FixedBack_s0_x, w09_FixedBack_s1_x] at *; show Ifc.apart IF_ _ (b9_1F b9_0) _ = _; generalize b9_0 = c0 at *; exact fin_)
noncomputable def w09_FixedBack_s0_b (m : Msg) (b : List Int) (b1_kind : Int) (b1_rid : Int) (b1_code : Int) (b1_has : Bool) (b1_id : Int) (b1_key : ByteArray) (b1_val : ByteArray) (b1_peer_id : Int) (b1_peer_addr : Int) (b1_peers : List Peer) (b1_pairs : List Pair) : Option (w09_FixedBack_s0_T) :=
  (fixed_Dec b).bind fun ⟨r0, r1⟩ =>
  (fixed_Enc r0).bind fun ⟨r01, r11⟩ =>
  bif Ops.std.ieq r1 0 then
    bif Ops.std.ieq r11 0 then
      (xsofb r01).bind fun z =>
      (xsofb b).bind fun z1 =>
      bif Ops.std.seq z z1 then
        (w09_awake).bind fun res =>
        some (res, b1_kind, b1_rid, b1_code, b1_has, b1_id, b1_key, b1_val, b1_peer_id, b1_peer_addr, b1_peers, b1_pairs)
      else
        some (false, b1_kind, b1_rid, b1_code, b1_has, b1_id, b1_key, b1_val, b1_peer_id, b1_peer_addr, b1_peers, b1_pairs)
    else
      some (false, b1_kind, b1_rid, b1_code, b1_has, b1_id, b1_key, b1_val, b1_peer_id, b1_peer_addr, b1_peers, b1_pairs)
  else
    (w09_awake).bind fun res =>
    some (res, b1_kind, b1_rid, b1_code, b1_has, b1_id, b1_key, b1_val, b1_peer_id, b1_peer_addr, b1_peers, b1_pairs)
theorem w09_FixedBack_s0_r {m b b1_kind b1_rid b1_code b1_has b1_id b1_key b1_val b1_peer_id b1_peer_addr b1_peers b1_pairs r} (h : w09_FixedBack_s0_b m b b1_kind b1_rid b1_code b1_has b1_id b1_key b1_val b1_peer_id b1_peer_addr b1_peers b1_pairs = some r) : w09_FixedBack_s0 m b b1_kind b1_rid b1_code b1_has b1_id b1_key b1_val b1_peer_id b1_peer_addr b1_peers b1_pairs = some r := by
  unfold w09_FixedBack_s0_b at h
  refine asks_of fun γ => ?_
  obtain ⟨r1, h1, h⟩ := bind_ask h
  rcases r1 with ⟨r0, r1⟩
  obtain ⟨r2, h2, h⟩ := bind_ask h
  rcases r2 with ⟨r01, r11⟩
  rcases cond_some h with ⟨h3, h⟩ | ⟨h3, h⟩
  rcases cond_some h with ⟨h4, h⟩ | ⟨h4, h⟩
  obtain ⟨z, h5, h⟩ := bind_some h
  obtain ⟨z1, h6, h⟩ := bind_some h
  rcases cond_some h with ⟨h7, h⟩ | ⟨h7, h⟩
  obtain ⟨res, h8, h⟩ := bind_ask h
  cases h; refine ⟨gam [], seg_lim ?_⟩; rotate_left
  cases h; refine ⟨gam [], seg_lim ?_⟩; rotate_left
  cases h; refine ⟨gam [], seg_lim ?_⟩; rotate_left
  obtain ⟨res, h4, h⟩ := bind_ask h
  cases h; refine ⟨gam [], seg_lim ?_⟩; rotate_left
  all_goals (dsimp only [R1, R2, w09_FixedBack_s0_x] at *; show Ifc.apart IF_ _ b9_0F _ = _; exact fin_)
noncomputable def w09_FixedBack_b (m : Msg) (b : List Int) : Option (Bool) :=
  (w08_Large m).bind fun res =>
  bif res then w09_awake else
  bif Ops.std.ilt 6000 (xlen vB b) then w09_awake else
  w09_FixedBack_s1 m b
theorem w09_FixedBack_r {m b r} (h : w09_FixedBack_b m b = some r) : w09_FixedBack m b = some r := by
  unfold w09_FixedBack_b at h
  refine ask_of ?_
  obtain ⟨res, h1, h⟩ := bind_ask h
  rcases cond_some h with ⟨h2, h⟩ | ⟨h2, h⟩
  have h3 := ask_some h
  rcases r with res1
  refine call_lim rfl ?_; rotate_left
  rcases cond_some h with ⟨h3, h⟩ | ⟨h3, h⟩
  have h4 := ask_some h
  rcases r with res1
  refine call_lim rfl ?_; rotate_left
  obtain ⟨γ2, h4⟩ := asks_some h (gam [])
  rcases r with t4
  refine call_lim rfl ?_; rotate_left
  all_goals (dsimp only [R1, w09_FixedBack_s1_x] at *; show runFn IF_ (g9F b9_1) _ _ = _; generalize b9_1 = c0 at *; exact fin_)
noncomputable def w08_Large_l0_x (m : Msg) (γ : Nat → Nat) : Unit ⊕ Unit → X × St
  | .inl () => (.ret, ⟨bd 2 (vF true :: bd 48 []), [.box 49 [vI m.kind, vW m.rid, vB m.code, vF m.has, vU m.id, vT m.key, vT m.val, vU m.peer.id, vH m.peer.addr, .lit 46 false (List.map ePeer m.peers), .lit 41 false (List.map ePair m.pairs)]]⟩)
  | .inr () => (.brk 0, ⟨bd 51 [], [.box 49 [vI m.kind, vW m.rid, vB m.code, vF m.has, vU m.id, vT m.key, vT m.val, vU m.peer.id, vH m.peer.addr, .lit 46 false (List.map ePeer m.peers), .lit 41 false (List.map ePair m.pairs)]]⟩)
instance {m} : InjS (w08_Large_l0_x m) := ⟨fun γ γ' x y h => by
  rcases x with _ | _ <;> rcases y with _ | _ <;> simp only [w08_Large_l0_x] at h <;> exact inj_⟩
noncomputable def w08_Large_l0 (m : Msg) (i : Int) : Option (Unit ⊕ Unit) := asks (fun γ => (lim F pr).loop [1, 3] 1 b26_0 ⟨bd 1 (.bptr 0 0 :: bd 1 (vI i :: bd 47 [])), [.box 49 [vI m.kind, vW m.rid, vB m.code, vF m.has, vU m.id, vT m.key, vT m.val, vU m.peer.id, vH m.peer.addr, .lit 46 false (List.map ePeer m.peers), .lit 41 false (List.map ePair m.pairs)]]⟩) (w08_Large_l0_x m)
noncomputable def w08_Large_l0_b (m : Msg) (i : Int) : Option (Unit ⊕ Unit) :=
  bif Ops.std.ilt i (xlen ePair m.pairs) then
    (xget ePair m.pairs i).bind fun x =>
    bif Ops.std.ilt 300 (Ops.std.slen x.key) then some (.inl ()) else
    bif Ops.std.ilt 700 (Ops.std.slen x.val) then some (.inl ()) else
    w08_Large_l0 m (Ops.std.iadd .i64 i 1)
  else
    some (.inr ())
theorem w08_Large_l0_r {m i r} (h : w08_Large_l0_b m i = some r) : w08_Large_l0 m i = some r := by
  unfold w08_Large_l0_b at h
  refine asks_of fun γ => ?_
  rcases cond_some h with ⟨h1, h⟩ | ⟨h1, h⟩
  obtain ⟨x, h2, h⟩ := bind_ask h
  rcases cond_some h with ⟨h3, h⟩ | ⟨h3, h⟩
  cases h; refine ⟨gam [], round_lim ?_⟩; rotate_left
  rcases cond_some h with ⟨h4, h⟩ | ⟨h4, h⟩
  cases h; refine ⟨gam [], round_lim ?_⟩; rotate_left
  replace h := asks_some h (gam []); obtain ⟨γ', h0⟩ := h; refine ⟨γ', round_lim ?_⟩; rotate_left
  cases h; refine ⟨gam [], round_lim ?_⟩; rotate_left
  all_goals (dsimp only [w08_Large_l0_x] at *; show roundAs IF_ _ _ b26_0 b26_0F _ = _; generalize b26_0 = c0 at *; exact fin_)
noncomputable def w08_Large_b (m : Msg) : Option (Bool) :=
  bif Ops.std.ilt 300 (Ops.std.slen m.key) then some true else
  bif Ops.std.ilt 700 (Ops.std.slen m.val) then some true else
  bif Ops.std.ilt 40 (xlen ePeer m.peers) then some true else
  bif Ops.std.ilt 20 (xlen ePair m.pairs) then some true else
  (w08_Large_l0 m 0).bind fun r => match r with
    | .inl () =>
      some true
    | .inr () =>
      some false
theorem w08_Large_r {m r} (h : w08_Large_b m = some r) : w08_Large m = some r := by
  unfold w08_Large_b at h
  refine ask_of ?_
  rcases cond_some h with ⟨h1, h⟩ | ⟨h1, h⟩
  cases h; refine call_lim rfl ?_; rotate_left
  rcases cond_some h with ⟨h2, h⟩ | ⟨h2, h⟩
  cases h; refine call_lim rfl ?_; rotate_left
  rcases cond_some h with ⟨h3, h⟩ | ⟨h3, h⟩
  cases h; refine call_lim rfl ?_; rotate_left
  rcases cond_some h with ⟨h4, h⟩ | ⟨h4, h⟩
  cases h; refine call_lim rfl ?_; rotate_left
  obtain ⟨r5, γ1, h5, h⟩ := bind_asks h (gam [])
  rcases r5 with _ | _
  cases h; refine call_lim rfl ?_; rotate_left
  cases h; refine call_lim rfl ?_; rotate_left
  all_goals (dsimp only [R1, w08_Large_l0_x] at *; show runFn IF_ (g26F b26_0) _ _ = _; generalize b26_0 = c0 at *; exact fin_)
noncomputable def fixed_Enc_s1_x (m : Msg) (γ : Nat → Nat) : (Bool × (List Int)) → X × St
  | (a0, a1) => (.nor, ⟨bd 5 (.bptr 2 0 :: bd 81 []), [.box 49 [vI m.kind, vW m.rid, vB m.code, vF a0, vU m.id, vT m.key, vT m.val, vU m.peer.id, vH m.peer.addr, .lit 46 false (List.map ePeer m.peers), .lit 41 false (List.map ePair m.pairs)], .row 5 (γ 1) false (List.map vB []), .box 73 [.sl 3 ((γ 3))], .row 5 (γ 3) false (List.map vB a1)]⟩)
instance {m} : InjS (fixed_Enc_s1_x m) := ⟨fun γ γ' x y h => by
  rcases x with ⟨a0, a1⟩ <;> rcases y with ⟨a0', a1'⟩ <;> simp only [fixed_Enc_s1_x] at h <;> exact inj_⟩
noncomputable def fixed_Enc_s1 (m : Msg) (t26 : Bool) (r3 : List Int) : Option ((Bool × (List Int))) := asks (fun γ => (lim F pr).seg [5] b28_1 ⟨bd 1 (.bptr 0 0 :: bd 3 (.bptr 2 0 :: bd 14 (vI m.kind :: bd 5 (vF t26 :: bd 60 [])))), [.box 49 [vI m.kind, vW m.rid, vB m.code, vF m.has, vU m.id, vT m.key, vT m.val, vU m.peer.id, vH m.peer.addr, .lit 46 false (List.map ePeer m.peers), .lit 41 false (List.map ePair m.pairs)], .row 5 (γ 1) false (List.map vB []), .box 73 [.sl 3 ((γ 3))], .row 5 (γ 3) false (List.map vB r3)]⟩) (fixed_Enc_s1_x m)
noncomputable def fixed_Enc_s0_x (m : Msg) (γ : Nat → Nat) : (Bool × (List Int)) → X × St
  | (a0, a1) => (.nor, ⟨bd 5 (.bptr 2 0 :: bd 81 []), [.box 49 [vI m.kind, vW m.rid, vB m.code, vF a0, vU m.id, vT m.key, vT m.val, vU m.peer.id, vH m.peer.addr, .lit 46 false (List.map ePeer m.peers), .lit 41 false (List.map ePair m.pairs)], .row 5 (γ 1) false (List.map vB []), .box 73 [.sl 3 ((γ 3))], .row 5 (γ 3) false (List.map vB a1)]⟩)
instance {m} : InjS (fixed_Enc_s0_x m) := ⟨fun γ γ' x y h => by
  rcases x with ⟨a0, a1⟩ <;> rcases y with ⟨a0', a1'⟩ <;> simp only [fixed_Enc_s0_x] at h <;> exact inj_⟩
noncomputable def fixed_Enc_s0 (m : Msg) (t50 : Bool) (r3 : List Int) : Option ((Bool × (List Int))) := asks (fun γ => (lim F pr).seg [5] b28_0 ⟨bd 1 (.bptr 0 0 :: bd 3 (.bptr 2 0 :: bd 14 (vI m.kind :: bd 29 (vF t50 :: bd 36 [])))), [.box 49 [vI m.kind, vW m.rid, vB m.code, vF m.has, vU m.id, vT m.key, vT m.val, vU m.peer.id, vH m.peer.addr, .lit 46 false (List.map ePeer m.peers), .lit 41 false (List.map ePair m.pairs)], .row 5 (γ 1) false (List.map vB []), .box 73 [.sl 3 ((γ 3))], .row 5 (γ 3) false (List.map vB r3)]⟩) (fixed_Enc_s0_x m)
noncomputable def fixed_Enc_s1_b (m : Msg) (t26 : Bool) (r3 : List Int) : Option ((Bool × (List Int))) :=
  bif t26 then
    (fixed_writer_flag m.has r3).bind fun r1 =>
    bif Ops.std.ieq m.kind 4 then
      bif m.has then
        (fixed_writer_peer m.peer r1).bind fun r11 =>
        (fixed_writer_peers m.peers r11).bind fun r12 =>
        some (true, r12)
      else
        (fixed_writer_peers m.peers r1).bind fun r11 =>
        some (false, r11)
    else
      (fixed_writer_peers m.peers r1).bind fun r11 =>
      some (m.has, r11)
  else
    bif Ops.std.ieq m.kind 5 then
      (fixed_writer_peer m.peer r3).bind fun r1 =>
      some (m.has, r1)
    else
      bif Ops.std.ieq m.kind 7 then fixed_Enc_s0 m true r3 else
      fixed_Enc_s0 m (Ops.std.ieq m.kind 8) r3
theorem fixed_Enc_s1_r {m t26 r3 r} (h : fixed_Enc_s1_b m t26 r3 = some r) : fixed_Enc_s1 m t26 r3 = some r := by
  unfold fixed_Enc_s1_b at h
  refine asks_of fun γ => ?_
  rcases cond_some h with ⟨h1, h⟩ | ⟨h1, h⟩
  obtain ⟨r1, γ1, h2, h⟩ := bind_asks h (gam [0, (γ 3)])
  rcases cond_some h with ⟨h3, h⟩ | ⟨h3, h⟩
  rcases cond_some h with ⟨h4, h⟩ | ⟨h4, h⟩
  obtain ⟨r11, γ2, h5, h⟩ := bind_asks h (gam [0, (γ1 1)])
  obtain ⟨r12, γ3, h6, h⟩ := bind_asks h (gam [0, (γ2 1)])
  cases h; refine ⟨gam [0, (γ 1), 0, (γ3 1)], seg_lim ?_⟩; rotate_left
  obtain ⟨r11, γ2, h5, h⟩ := bind_asks h (gam [0, (γ1 1)])
  cases h; refine ⟨gam [0, (γ 1), 0, (γ2 1)], seg_lim ?_⟩; rotate_left
  obtain ⟨r11, γ2, h4, h⟩ := bind_asks h (gam [0, (γ1 1)])
  cases h; refine ⟨gam [0, (γ 1), 0, (γ2 1)], seg_lim ?_⟩; rotate_left
  rcases cond_some h with ⟨h2, h⟩ | ⟨h2, h⟩
  obtain ⟨r1, γ1, h3, h⟩ := bind_asks h (gam [0, (γ 3)])
  cases h; refine ⟨gam [0, (γ 1), 0, (γ1 1)], seg_lim ?_⟩; rotate_left
  rcases cond_some h with ⟨h3, h⟩ | ⟨h3, h⟩
  obtain ⟨γ1, h4⟩ := asks_some h (gam [0, (γ 1), 0, (γ 3)])
  rcases r with ⟨b0_has, r31⟩
  refine ⟨gam [0, (γ1 1), 0, (γ1 3)], seg_lim ?_⟩; rotate_left
  obtain ⟨γ1, h4⟩ := asks_some h (gam [0, (γ 1), 0, (γ 3)])
  rcases r with ⟨b0_has, r31⟩
  refine ⟨gam [0, (γ1 1), 0, (γ1 3)], seg_lim ?_⟩; rotate_left
  all_goals (dsimp only [fixed_Enc_s0_x, fixed_Enc_s1_x, fixed_writer_flag_e, fixed_writer_peer_e, fixed_writer_peers_e] at *; show Ifc.apart IF_ _ (b28_1F b28_0) _ = _; generalize b28_0 = c0 at *; (try dsimp only [ePeer, ePair, eMsg, eBuf_Reader, eAnnuletref06_Cur, eMsg_kind] at *); (try simp only [List.map_cons, List.map_nil] at *); (try generalize m.has = q0 at *); exact fin_)
noncomputable def fixed_Enc_s0_b (m : Msg) (t50 : Bool) (r3 : List Int) : Option ((Bool × (List Int))) :=
  bif t50 then
    (fixed_writer_text m.key 1 r3).bind fun r1 =>
    bif Ops.std.ieq m.kind 7 then
      (fixed_writer_text m.val 2 r1).bind fun r11 =>
      some (m.has, r11)
    else
      some (m.has, r1)
  else
    bif Ops.std.ieq m.kind 9 then
      (fixed_writer_flag m.has r3).bind fun r1 =>
      bif m.has then
        (fixed_writer_text m.val 2 r1).bind fun r11 =>
        some (true, r11)
      else
        some (false, r1)
    else
      bif Ops.std.ieq m.kind 10 then
        (fixed_writer_flag m.has r3).bind fun r1 =>
        (fixed_writer_pairs m.pairs r1).bind fun r11 =>
        some (m.has, r11)
      else
        bif Ops.std.ieq m.kind 12 then
          (fixed_writer_num (Ops.std.iwrap .u64 m.code) 1 r3).bind fun r1 =>
          some (m.has, r1)
        else
          some (m.has, r3)
theorem fixed_Enc_s0_r {m t50 r3 r} (h : fixed_Enc_s0_b m t50 r3 = some r) : fixed_Enc_s0 m t50 r3 = some r := by
  unfold fixed_Enc_s0_b at h
  refine asks_of fun γ => ?_
  rcases cond_some h with ⟨h1, h⟩ | ⟨h1, h⟩
  obtain ⟨r1, γ1, h2, h⟩ := bind_asks h (gam [0, (γ 3)])
  rcases cond_some h with ⟨h3, h⟩ | ⟨h3, h⟩
  obtain ⟨r11, γ2, h4, h⟩ := bind_asks h (gam [0, (γ1 1)])
  cases h; refine ⟨gam [0, (γ 1), 0, (γ2 1)], seg_lim ?_⟩; rotate_left
  cases h; refine ⟨gam [0, (γ 1), 0, (γ1 1)], seg_lim ?_⟩; rotate_left
  rcases cond_some h with ⟨h2, h⟩ | ⟨h2, h⟩
  obtain ⟨r1, γ1, h3, h⟩ := bind_asks h (gam [0, (γ 3)])
  rcases cond_some h with ⟨h4, h⟩ | ⟨h4, h⟩
  obtain ⟨r11, γ2, h5, h⟩ := bind_asks h (gam [0, (γ1 1)])
  cases h; refine ⟨gam [0, (γ 1), 0, (γ2 1)], seg_lim ?_⟩; rotate_left
  cases h; refine ⟨gam [0, (γ 1), 0, (γ1 1)], seg_lim ?_⟩; rotate_left
  rcases cond_some h with ⟨h3, h⟩ | ⟨h3, h⟩
  obtain ⟨r1, γ1, h4, h⟩ := bind_asks h (gam [0, (γ 3)])
  obtain ⟨r11, γ2, h5, h⟩ := bind_asks h (gam [0, (γ1 1)])
  cases h; refine ⟨gam [0, (γ 1), 0, (γ2 1)], seg_lim ?_⟩; rotate_left
  rcases cond_some h with ⟨h4, h⟩ | ⟨h4, h⟩
  obtain ⟨r1, γ1, h5, h⟩ := bind_asks h (gam [0, (γ 3)])
  cases h; refine ⟨gam [0, (γ 1), 0, (γ1 1)], seg_lim ?_⟩; rotate_left
  cases h; refine ⟨gam [0, (γ 1), 0, (γ 3)], seg_lim ?_⟩; rotate_left
  all_goals (dsimp only [fixed_Enc_s0_x, fixed_writer_flag_e, fixed_writer_num_e, fixed_writer_pairs_e, fixed_writer_text_e] at *; show Ifc.apart IF_ _ b28_0F _ = _; (try dsimp only [ePeer, ePair, eMsg, eBuf_Reader, eAnnuletref06_Cur, eMsg_kind] at *); (try simp only [List.map_cons, List.map_nil] at *); (try generalize m.has = q0 at *); exact fin_)
noncomputable def fixed_Enc_b (m : Msg) : Option (((List Int) × Int)) :=
  (msg_Right m).bind fun res =>
  bif Ops.std.ieq res 0 then
    (fixed_writer_num (Ops.std.iwrap .u64 m.kind) 1 []).bind fun r1 =>
    (fixed_writer_num (Ops.std.iwrap .u64 m.rid) 4 r1).bind fun r11 =>
    bif Ops.std.ieq m.kind 1 then
      (fixed_writer_num m.id 8 r11).bind fun r12 =>
      some (r12, 0)
    else
      bif Ops.std.ieq m.kind 2 then
        (fixed_Enc_s1 m true r11).bind fun ⟨b0_has, r3⟩ =>
        some (r3, 0)
      else
        (fixed_Enc_s1 m (Ops.std.ieq m.kind 4) r11).bind fun ⟨b0_has, r3⟩ =>
        some (r3, 0)
  else
    some ([], res)
theorem fixed_Enc_r {m r} (h : fixed_Enc_b m = some r) : fixed_Enc m = some r := by
  unfold fixed_Enc_b at h
  refine ask_of ?_
  obtain ⟨res, h1, h⟩ := bind_ask h
  rcases cond_some h with ⟨h2, h⟩ | ⟨h2, h⟩
  obtain ⟨r1, γ2, h3, h⟩ := bind_asks h (gam [0, 0])
  obtain ⟨r11, γ3, h4, h⟩ := bind_asks h (gam [0, (γ2 1)])
  rcases cond_some h with ⟨h5, h⟩ | ⟨h5, h⟩
  obtain ⟨r12, γ4, h6, h⟩ := bind_asks h (gam [0, (γ3 1)])
  cases h; refine call_lim rfl ?_; rotate_left
  rcases cond_some h with ⟨h6, h⟩ | ⟨h6, h⟩
  obtain ⟨r7, γ4, h7, h⟩ := bind_asks h (gam [0, 0, 0, (γ3 1)])
  rcases r7 with ⟨b0_has, r3⟩
  cases h; refine call_lim rfl ?_; rotate_left
  obtain ⟨r7, γ4, h7, h⟩ := bind_asks h (gam [0, 0, 0, (γ3 1)])
  rcases r7 with ⟨b0_has, r3⟩
  cases h; refine call_lim rfl ?_; rotate_left
  cases h; refine call_lim rfl ?_; rotate_left
  all_goals (dsimp only [R1, R2, fixed_Enc_s1_x, fixed_writer_num_e] at *; show runFn IF_ (g28F b28_1) _ _ = _; generalize b28_1 = c0 at *; exact fin_)
abbrev fixed_Dec_s0_T := (Int × Int × Int × Bool × Int × ByteArray × ByteArray × Int × Int × (List Peer) × (List Pair) × Bool × (List Int) × Int × Int × Int × Int × Bool × Int × ByteArray × ByteArray × Int × Int × (List Peer) × (List Pair)) ⊕ (Int × Bool × (List Int) × Int × Int × Int × Int × Bool × Int × ByteArray × ByteArray × Int × Int × (List Peer) × (List Pair))
noncomputable def fixed_Dec_s0_x (γ : Nat → Nat) : fixed_Dec_s0_T → X × St
  | .inl (a0, a1, a2, a3, a4, a5, a6, a7, a8, a9, a10, a11, a12, a13, a14, a15, a16, a17, a18, a19, a20, a21, a22, a23, a24) => (.ret, ⟨bd 2 (.bptr 0 0 :: vI 0 :: bd 32 []), [.box 49 [vI a0, vW a1, vB a2, vF a3, vU a4, vT a5, vT a6, vU a7, vH a8, .lit 46 false (List.map ePeer a9), .lit 41 false (List.map ePair a10)], .box 112 [vF a11, .lit 5 false (List.map vB a12), vI a13], .box 49 [vI a14, vW a15, vB a16, vF a17, vU a18, vT a19, vT a20, vU a21, vH a22, .lit 46 false (List.map ePeer a23), .lit 41 false (List.map ePair a24)]]⟩)
  | .inr (b0, b1, b2, b3, b4, b5, b6, b7, b8, b9, b10, b11, b12, b13, b14) => (.ret, ⟨bd 2 (.bptr 0 0 :: vI b0 :: bd 32 []), [.box 49 [vI 0, vW 0, vB 0, vF false, vU 0, vT ⟨#[]⟩, vT ⟨#[]⟩, vU 0, vH 0, .lit 0 true [], .lit 0 true []], .box 112 [vF b1, .lit 5 false (List.map vB b2), vI b3], .box 49 [vI b4, vW b5, vB b6, vF b7, vU b8, vT b9, vT b10, vU b11, vH b12, .lit 46 false (List.map ePeer b13), .lit 41 false (List.map ePair b14)]]⟩)
instance : InjS fixed_Dec_s0_x := ⟨fun γ γ' x y h => by
  rcases x with ⟨a0, a1, a2, a3, a4, a5, a6, a7, a8, a9, a10, a11, a12, a13, a14, a15, a16, a17, a18, a19, a20, a21, a22, a23, a24⟩ | ⟨b0, b1, b2, b3, b4, b5, b6, b7, b8, b9, b10, b11, b12, b13, b14⟩ <;> rcases y with ⟨a0', a1', a2', a3', a4', a5', a6', a7', a8', a9', a10', a11', a12', a13', a14', a15', a16', a17', a18', a19', a20', a21', a22', a23', a24'⟩ | ⟨b0', b1', b2', b3', b4', b5', b6', b7', b8', b9', b10', b11', b12', b13', b14'⟩ <;> simp only [fixed_Dec_s0_x] at h <;> exact inj_⟩
noncomputable def fixed_Dec_s0 (b1_made : Bool) (b1_rest : List Int) (b1_met : Int) (b2_kind : Int) : Option (fixed_Dec_s0_T) := asks (fun γ => (lim F pr).seg [2, 3] b30_0 ⟨bd 2 (.bptr 0 0 :: bd 1 (.bptr 1 0 :: .bptr 2 0 :: bd 30 [])), [.box 49 [vI 0, vW 0, vB 0, vF false, vU 0, vT ⟨#[]⟩, vT ⟨#[]⟩, vU 0, vH 0, .lit 0 true [], .lit 0 true []], .box 112 [vF b1_made, .lit 5 false (List.map vB b1_rest), vI b1_met], .box 49 [vI b2_kind, vW 0, vB 0, vF false, vU 0, vT ⟨#[]⟩, vT ⟨#[]⟩, vU 0, vH 0, .lit 46 false (List.map ePeer []), .lit 41 false (List.map ePair [])]]⟩) fixed_Dec_s0_x
noncomputable def fixed_Dec_s0_b (b1_made : Bool) (b1_rest : List Int) (b1_met : Int) (b2_kind : Int) : Option (fixed_Dec_s0_T) :=
  (buf_Reader_Fix 4 b1_made b1_rest b1_met).bind fun ⟨res, b0_made, b0_rest, b0_met⟩ =>
  (fixed_fields b0_made b0_rest b0_met b2_kind (Ops.std.iwrap .u32 res) 0 false 0 ⟨#[]⟩ ⟨#[]⟩ 0 0 [] []).bind fun ⟨b0_made1, b0_rest1, b0_met1, b1_code, b1_has, b1_id, b1_key, b1_val, b1_peer_id, b1_peer_addr, b1_peers, b1_pairs⟩ =>
  (buf_Reader_End b0_made1 b0_rest1 b0_met1).bind fun ⟨res1, b0_made2⟩ =>
  bif Ops.std.ieq res1 0 then
    (msg_Right (⟨b2_kind, (Ops.std.iwrap .u32 res), b1_code, b1_has, b1_id, b1_key, b1_val, (⟨b1_peer_id, b1_peer_addr⟩ : Peer), b1_peers, b1_pairs⟩ : Msg)).bind fun res2 =>
    bif Ops.std.ieq res2 0 then
      some (.inl (b2_kind, (Ops.std.iwrap .u32 res), b1_code, b1_has, b1_id, b1_key, b1_val, b1_peer_id, b1_peer_addr, b1_peers, b1_pairs, b0_made2, b0_rest1, b0_met1, b2_kind, (Ops.std.iwrap .u32 res), b1_code, b1_has, b1_id, b1_key, b1_val, b1_peer_id, b1_peer_addr, b1_peers, b1_pairs))
    else
      some (.inr (res2, b0_made2, b0_rest1, b0_met1, b2_kind, (Ops.std.iwrap .u32 res), b1_code, b1_has, b1_id, b1_key, b1_val, b1_peer_id, b1_peer_addr, b1_peers, b1_pairs))
  else
    some (.inr (res1, b0_made2, b0_rest1, b0_met1, b2_kind, (Ops.std.iwrap .u32 res), b1_code, b1_has, b1_id, b1_key, b1_val, b1_peer_id, b1_peer_addr, b1_peers, b1_pairs))
theorem fixed_Dec_s0_r {b1_made b1_rest b1_met b2_kind r} (h : fixed_Dec_s0_b b1_made b1_rest b1_met b2_kind = some r) : fixed_Dec_s0 b1_made b1_rest b1_met b2_kind = some r := by
  unfold fixed_Dec_s0_b at h
  refine asks_of fun γ => ?_
  obtain ⟨r1, h1, h⟩ := bind_ask h
  rcases r1 with ⟨res, b0_made, b0_rest, b0_met⟩
  obtain ⟨r2, h2, h⟩ := bind_ask h
  rcases r2 with ⟨b0_made1, b0_rest1, b0_met1, b1_code, b1_has, b1_id, b1_key, b1_val, b1_peer_id, b1_peer_addr, b1_peers, b1_pairs⟩
  obtain ⟨r3, h3, h⟩ := bind_ask h
  rcases r3 with ⟨res1, b0_made2⟩
  rcases cond_some h with ⟨h4, h⟩ | ⟨h4, h⟩
  obtain ⟨res2, h5, h⟩ := bind_ask h
  rcases cond_some h with ⟨h6, h⟩ | ⟨h6, h⟩
  cases h; refine ⟨gam [], seg_lim ?_⟩; rotate_left
  cases h; refine ⟨gam [], seg_lim ?_⟩; rotate_left
  cases h; refine ⟨gam [], seg_lim ?_⟩; rotate_left
  all_goals (dsimp only [R1, buf_Reader_End_e, buf_Reader_Fix_e, fixed_Dec_s0_x, fixed_fields_e] at *; show Ifc.apart IF_ _ b30_0F _ = _; exact fin_)
noncomputable def fixed_Dec_b (b : List Int) : Option ((Msg × Int)) :=
  (buf_Open b).bind fun ⟨b0_made, b0_met⟩ =>
  (buf_Reader_Fix 1 b0_made b b0_met).bind fun ⟨res, b0_made1, b0_rest, b0_met1⟩ =>
  (msg_Name (Ops.std.iwrap .i64 res)).bind fun res1 =>
  bif Ops.std.seq res1 ⟨#[63]⟩ then
    (buf_Reader_Fail 9 b0_made1 b0_rest b0_met1).bind fun ⟨b0_made2, b0_met2⟩ =>
    (fixed_Dec_s0 b0_made2 b0_rest b0_met2 (Ops.std.iwrap .i64 res)).bind fun r => match r with
      | .inl (b0_kind, b0_rid, b0_code, b0_has, b0_id, b0_key, b0_val, b0_peer_id, b0_peer_addr, b0_peers, b0_pairs, b1_made, b1_rest, b1_met, b2_kind, b2_rid, b2_code, b2_has, b2_id, b2_key, b2_val, b2_peer_id, b2_peer_addr, b2_peers, b2_pairs) =>
        some ((⟨b0_kind, b0_rid, b0_code, b0_has, b0_id, b0_key, b0_val, (⟨b0_peer_id, b0_peer_addr⟩ : Peer), b0_peers, b0_pairs⟩ : Msg), 0)
      | .inr (t3, b1_made, b1_rest, b1_met, b2_kind, b2_rid, b2_code, b2_has, b2_id, b2_key, b2_val, b2_peer_id, b2_peer_addr, b2_peers, b2_pairs) =>
        some ((⟨0, 0, 0, false, 0, ⟨#[]⟩, ⟨#[]⟩, (⟨0, 0⟩ : Peer), [], []⟩ : Msg), t3)
  else
    (fixed_Dec_s0 b0_made1 b0_rest b0_met1 (Ops.std.iwrap .i64 res)).bind fun r => match r with
      | .inl (b0_kind, b0_rid, b0_code, b0_has, b0_id, b0_key, b0_val, b0_peer_id, b0_peer_addr, b0_peers, b0_pairs, b1_made, b1_rest, b1_met, b2_kind, b2_rid, b2_code, b2_has, b2_id, b2_key, b2_val, b2_peer_id, b2_peer_addr, b2_peers, b2_pairs) =>
        some ((⟨b0_kind, b0_rid, b0_code, b0_has, b0_id, b0_key, b0_val, (⟨b0_peer_id, b0_peer_addr⟩ : Peer), b0_peers, b0_pairs⟩ : Msg), 0)
      | .inr (t3, b1_made, b1_rest, b1_met, b2_kind, b2_rid, b2_code, b2_has, b2_id, b2_key, b2_val, b2_peer_id, b2_peer_addr, b2_peers, b2_pairs) =>
        some ((⟨0, 0, 0, false, 0, ⟨#[]⟩, ⟨#[]⟩, (⟨0, 0⟩ : Peer), [], []⟩ : Msg), t3)
theorem fixed_Dec_r {b r} (h : fixed_Dec_b b = some r) : fixed_Dec b = some r := by
  unfold fixed_Dec_b at h
  refine ask_of ?_
  obtain ⟨r1, h1, h⟩ := bind_ask h
  rcases r1 with ⟨b0_made, b0_met⟩
  obtain ⟨r2, h2, h⟩ := bind_ask h
  rcases r2 with ⟨res, b0_made1, b0_rest, b0_met1⟩
  obtain ⟨res1, h3, h⟩ := bind_ask h
  rcases cond_some h with ⟨h4, h⟩ | ⟨h4, h⟩
  obtain ⟨r5, h5, h⟩ := bind_ask h
  rcases r5 with ⟨b0_made2, b0_met2⟩
  obtain ⟨r6, γ5, h6, h⟩ := bind_asks h (gam [])
  rcases r6 with ⟨b0_kind, b0_rid, b0_code, b0_has, b0_id, b0_key, b0_val, b0_peer_id, b0_peer_addr, b0_peers, b0_pairs, b1_made, b1_rest, b1_met, b2_kind, b2_rid, b2_code, b2_has, b2_id, b2_key, b2_val, b2_peer_id, b2_peer_addr, b2_peers, b2_pairs⟩ | ⟨t3, b1_made, b1_rest, b1_met, b2_kind, b2_rid, b2_code, b2_has, b2_id, b2_key, b2_val, b2_peer_id, b2_peer_addr, b2_peers, b2_pairs⟩
  cases h; refine call_lim rfl ?_; rotate_left
  cases h; refine call_lim rfl ?_; rotate_left
  obtain ⟨r5, γ4, h5, h⟩ := bind_asks h (gam [])
  rcases r5 with ⟨b0_kind, b0_rid, b0_code, b0_has, b0_id, b0_key, b0_val, b0_peer_id, b0_peer_addr, b0_peers, b0_pairs, b1_made, b1_rest, b1_met, b2_kind, b2_rid, b2_code, b2_has, b2_id, b2_key, b2_val, b2_peer_id, b2_peer_addr, b2_peers, b2_pairs⟩ | ⟨t3, b1_made, b1_rest, b1_met, b2_kind, b2_rid, b2_code, b2_has, b2_id, b2_key, b2_val, b2_peer_id, b2_peer_addr, b2_peers, b2_pairs⟩
  cases h; refine call_lim rfl ?_; rotate_left
  cases h; refine call_lim rfl ?_; rotate_left
  all_goals (dsimp only [R1, R2, buf_Open_e, buf_Reader_Fail_e, buf_Reader_Fix_e, fixed_Dec_s0_x] at *; show runFn IF_ (g30F b30_0) _ _ = _; generalize b30_0 = c0 at *; exact fin_)
end Go.Ab.Tryd
namespace Go.Ab.Tryd
open Go Go.Ab Go.Proofs
set_option linter.unusedVariables false
set_option linter.unusedSimpArgs false
set_option maxRecDepth 10000
set_option maxHeartbeats 4000000
noncomputable def r08_Same_b (a : Msg) (b : Msg) : Option (Bool) :=
  bif Ops.std.ieq a.kind b.kind then
    bif Ops.std.ieq a.rid b.rid then
      bif Ops.std.ieq a.code b.code then
        bif Ops.std.beq a.has b.has then
          bif Ops.std.ieq a.id b.id then
            bif Ops.std.seq a.key b.key then
              bif Ops.std.seq a.val b.val then
                bif Ops.std.ieq a.peer.id b.peer.id then
                  bif Ops.std.ieq a.peer.addr b.peer.addr then
                    (r08_Peers a.peers b.peers).bind fun res =>
                    bif res then r08_Pairs a.pairs b.pairs else
                    some false
                  else
                    some false
                else
                  some false
              else
                some false
            else
              some false
          else
            some false
        else
          some false
      else
        some false
    else
      some false
  else
    some false
theorem r08_Same_r {a b r} (h : r08_Same_b a b = some r) : r08_Same a b = some r := by
  unfold r08_Same_b at h
  refine ask_of ?_
  rcases cond_some h with ⟨h1, h⟩ | ⟨h1, h⟩
  rcases cond_some h with ⟨h2, h⟩ | ⟨h2, h⟩
  rcases cond_some h with ⟨h3, h⟩ | ⟨h3, h⟩
  rcases cond_some h with ⟨h4, h⟩ | ⟨h4, h⟩
  rcases cond_some h with ⟨h5, h⟩ | ⟨h5, h⟩
  rcases cond_some h with ⟨h6, h⟩ | ⟨h6, h⟩
  rcases cond_some h with ⟨h7, h⟩ | ⟨h7, h⟩
  rcases cond_some h with ⟨h8, h⟩ | ⟨h8, h⟩
  rcases cond_some h with ⟨h9, h⟩ | ⟨h9, h⟩
  obtain ⟨res, h10, h⟩ := bind_ask h
  rcases cond_some h with ⟨h11, h⟩ | ⟨h11, h⟩
  have h12 := ask_some h
  rcases r with res1
  refine call_lim rfl ?_; rotate_left
  cases h; refine call_lim rfl ?_; rotate_left
  cases h; refine call_lim rfl ?_; rotate_left
  cases h; refine call_lim rfl ?_; rotate_left
  cases h; refine call_lim rfl ?_; rotate_left
  cases h; refine call_lim rfl ?_; rotate_left
  cases h; refine call_lim rfl ?_; rotate_left
  cases h; refine call_lim rfl ?_; rotate_left
  cases h; refine call_lim rfl ?_; rotate_left
  cases h; refine call_lim rfl ?_; rotate_left
  cases h; refine call_lim rfl ?_; rotate_left
  all_goals (dsimp only [R1] at *; show runFn IF_ g32F _ _ = _; exact fin_)
noncomputable def msg_Right_b (m : Msg) : Option (Int) :=
  (msg_fields m).bind fun res =>
  (msg_Name m.kind).bind fun res1 =>
  bif Ops.std.seq res1 ⟨#[63]⟩ then some 9 else
  (msg_Bare m).bind fun res2 =>
  (msg_Same m res2).bind fun res3 =>
  bif res3 then
    (msg_text m res).bind fun res4 =>
    bif res4 then
      (msg_long m).bind fun res5 =>
      bif res5 then some 5 else
      (msg_short m).bind fun res6 =>
      bif res6 then some 2 else
      some 0
    else
      some 7
  else
    some 1
theorem msg_Right_r {m r} (h : msg_Right_b m = some r) : msg_Right m = some r := by
  unfold msg_Right_b at h
  refine ask_of ?_
  obtain ⟨res, h1, h⟩ := bind_ask h
  obtain ⟨res1, h2, h⟩ := bind_ask h
  rcases cond_some h with ⟨h3, h⟩ | ⟨h3, h⟩
  cases h; refine call_lim rfl ?_; rotate_left
  obtain ⟨res2, h4, h⟩ := bind_ask h
  obtain ⟨res3, h5, h⟩ := bind_ask h
  rcases cond_some h with ⟨h6, h⟩ | ⟨h6, h⟩
  obtain ⟨res4, h7, h⟩ := bind_ask h
  rcases cond_some h with ⟨h8, h⟩ | ⟨h8, h⟩
  obtain ⟨res5, h9, h⟩ := bind_ask h
  rcases cond_some h with ⟨h10, h⟩ | ⟨h10, h⟩
  cases h; refine call_lim rfl ?_; rotate_left
  obtain ⟨res6, h11, h⟩ := bind_ask h
  rcases cond_some h with ⟨h12, h⟩ | ⟨h12, h⟩
  cases h; refine call_lim rfl ?_; rotate_left
  cases h; refine call_lim rfl ?_; rotate_left
  cases h; refine call_lim rfl ?_; rotate_left
  cases h; refine call_lim rfl ?_; rotate_left
  all_goals (dsimp only [R1] at *; show runFn IF_ g50F _ _ = _; exact fin_)
noncomputable def buf_Fix_l0_x (γ : Nat → Nat) : (List Int) → X × St
  | a0 => (.brk 0, ⟨.sl 0 ((γ 0)) :: bd 29 [], [.row 5 (γ 0) false (List.map vB a0), .row 5 (γ 1) false (List.map vB [])]⟩)
instance : InjS buf_Fix_l0_x := ⟨fun γ γ' x y h => by
  rcases x with a0 <;> rcases y with a0' <;> simp only [buf_Fix_l0_x] at h <;> exact inj_⟩
noncomputable def buf_Fix_l0 (n : Int) (i : Int) (r0' : List Int) : Option ((List Int)) := asks (fun γ => (lim F pr).loop [1, 7, 0] 2 b91_0 ⟨.sl 0 ((γ 0)) :: vU n :: bd 5 (vI i :: bd 22 []), [.row 5 (γ 0) false (List.map vB r0'), .row 5 (γ 1) false (List.map vB [])]⟩) buf_Fix_l0_x
noncomputable def buf_Fix_l0_b (n : Int) (i : Int) (r0' : List Int) : Option ((List Int)) :=
  bif Ops.std.ile 0 i then
    bif Ops.std.ilt (Ops.std.imul .i64 8 i) 0 then none else
    bif xroom vB 1 r0' [Ops.std.iwrap .u8 (Ops.std.ishr .u64 n (Ops.std.imul .i64 8 i))] then
      buf_Fix_l0 n (Ops.std.isub .i64 i 1) (r0' ++ [Ops.std.iwrap .u8 (Ops.std.ishr .u64 n (Ops.std.imul .i64 8 i))])
    else
      none
  else
    some r0'
theorem buf_Fix_l0_r {n i r0' r} (h : buf_Fix_l0_b n i r0' = some r) : buf_Fix_l0 n i r0' = some r := by
  unfold buf_Fix_l0_b at h
  refine asks_of fun γ => ?_
  rcases cond_some h with ⟨h1, h⟩ | ⟨h1, h⟩
  obtain ⟨h2, h⟩ := need_some' h
  obtain ⟨h3, h⟩ := need_some h
  replace h := asks_some h (gam [((γ 0) + 1), (γ 1)]); obtain ⟨γ', h0⟩ := h; refine ⟨γ', round_lim ?_⟩; rotate_left
  cases h; refine ⟨gam [(γ 0), (γ 1)], round_lim ?_⟩; rotate_left
  all_goals (dsimp only [buf_Fix_l0_x] at *; show roundAs IF_ _ _ b91_0 b91_0F _ = _; generalize b91_0 = c0 at *; exact fin_)
noncomputable def buf_Fix_b (n : Int) (size : Int) (r0 : List Int) : Option ((List Int)) :=
  bif Ops.std.ilt size 1 then some r0 else
  bif Ops.std.ilt 8 size then some r0 else
  buf_Fix_l0 n (Ops.std.isub .i64 size 1) r0
theorem buf_Fix_r {n size r0 r} (h : buf_Fix_b n size r0 = some r) : buf_Fix n size r0 = some r := by
  unfold buf_Fix_b at h
  refine asks_of fun γ => ?_
  rcases cond_some h with ⟨h1, h⟩ | ⟨h1, h⟩
  cases h; refine ⟨gam [γ 0], call_lim rfl ?_⟩; rotate_left
  rcases cond_some h with ⟨h2, h⟩ | ⟨h2, h⟩
  cases h; refine ⟨gam [γ 0], call_lim rfl ?_⟩; rotate_left
  obtain ⟨γ1, h3⟩ := asks_some h (gam [γ 0, 0])
  rcases r with r0'
  refine ⟨gam [(γ1 0)], call_lim rfl ?_⟩; rotate_left
  all_goals (dsimp only [buf_Fix_e, buf_Fix_l0_x] at *; show runFn IF_ (g91F b91_0) _ _ = _; generalize b91_0 = c0 at *; exact fin_)
noncomputable def fixed_writer_num_b (n : Int) (size : Int) (r1 : List Int) : Option ((List Int)) :=
  buf_Fix n size r1
theorem fixed_writer_num_r {n size r1 r} (h : fixed_writer_num_b n size r1 = some r) : fixed_writer_num n size r1 = some r := by
  unfold fixed_writer_num_b at h
  refine asks_of fun γ => ?_
  obtain ⟨γ1, h1⟩ := asks_some h (gam [γ 1])
  rcases r with r0
  refine ⟨gam [0, (γ1 0)], call_lim rfl ?_⟩; rotate_left
  all_goals (dsimp only [buf_Fix_e, fixed_writer_num_e] at *; show runFn IF_ g51F _ _ = _; exact fin_)
noncomputable def fixed_writer_flag_b (is : Bool) (r1 : List Int) : Option ((List Int)) :=
  bif is then fixed_writer_num 1 1 r1 else
  fixed_writer_num 0 1 r1
theorem fixed_writer_flag_r {is r1 r} (h : fixed_writer_flag_b is r1 = some r) : fixed_writer_flag is r1 = some r := by
  unfold fixed_writer_flag_b at h
  refine asks_of fun γ => ?_
  rcases cond_some h with ⟨h1, h⟩ | ⟨h1, h⟩
  obtain ⟨γ1, h2⟩ := asks_some h (gam [0, γ 1])
  rcases r with r11
  refine ⟨gam [0, (γ1 1)], call_lim rfl ?_⟩; rotate_left
  obtain ⟨γ1, h2⟩ := asks_some h (gam [0, γ 1])
  rcases r with r11
  refine ⟨gam [0, (γ1 1)], call_lim rfl ?_⟩; rotate_left
  all_goals (dsimp only [fixed_writer_flag_e, fixed_writer_num_e] at *; show runFn IF_ g52F _ _ = _; exact fin_)
noncomputable def fixed_writer_peer_b (p : Peer) (r1 : List Int) : Option ((List Int)) :=
  (fixed_writer_num p.id 8 r1).bind fun r11 =>
  fixed_writer_num (Ops.std.iwrap .u64 p.addr) 2 r11
theorem fixed_writer_peer_r {p r1 r} (h : fixed_writer_peer_b p r1 = some r) : fixed_writer_peer p r1 = some r := by
  unfold fixed_writer_peer_b at h
  refine asks_of fun γ => ?_
  obtain ⟨r11, γ1, h1, h⟩ := bind_asks h (gam [0, γ 1])
  obtain ⟨γ2, h2⟩ := asks_some h (gam [0, (γ1 1)])
  rcases r with r12
  refine ⟨gam [0, (γ2 1)], call_lim rfl ?_⟩; rotate_left
  all_goals (dsimp only [fixed_writer_num_e, fixed_writer_peer_e] at *; show runFn IF_ g53F _ _ = _; exact fin_)
noncomputable def fixed_writer_peers_l0_x (γ : Nat → Nat) : (List Int) → X × St
  | a0 => (.brk 0, ⟨bd 21 [], [.box 73 [.sl 1 ((γ 1))], .row 5 (γ 1) false (List.map vB a0)]⟩)
instance : InjS fixed_writer_peers_l0_x := ⟨fun γ γ' x y h => by
  rcases x with a0 <;> rcases y with a0' <;> simp only [fixed_writer_peers_l0_x] at h <;> exact inj_⟩
noncomputable def fixed_writer_peers_l0 (l : List Peer) (t13 : Int) (r1' : List Int) : Option ((List Int)) := asks (fun γ => (lim F pr).loop [12, 11, 0, 13] 2 b54_0 ⟨.bptr 0 0 :: bd 10 (.lit 46 false (List.map ePeer l) :: vI (xlen ePeer l) :: vI t13 :: bd 7 []), [.box 73 [.sl 1 ((γ 1))], .row 5 (γ 1) false (List.map vB r1')]⟩) fixed_writer_peers_l0_x
noncomputable def fixed_writer_peers_l0_b (l : List Peer) (t13 : Int) (r1' : List Int) : Option ((List Int)) :=
  bif Ops.std.ilt t13 (xlen ePeer l) then
    (xget ePeer l t13).bind fun x =>
    (fixed_writer_peer x r1').bind fun r11 =>
    fixed_writer_peers_l0 l (Ops.std.iadd .i64 t13 1) r11
  else
    some r1'
theorem fixed_writer_peers_l0_r {l t13 r1' r} (h : fixed_writer_peers_l0_b l t13 r1' = some r) : fixed_writer_peers_l0 l t13 r1' = some r := by
  unfold fixed_writer_peers_l0_b at h
  refine asks_of fun γ => ?_
  rcases cond_some h with ⟨h1, h⟩ | ⟨h1, h⟩
  obtain ⟨x, h2, h⟩ := bind_ask h
  obtain ⟨r11, γ1, h3, h⟩ := bind_asks h (gam [0, (γ 1)])
  replace h := asks_some h (gam [0, (γ1 1)]); obtain ⟨γ', h0⟩ := h; refine ⟨γ', round_lim ?_⟩; rotate_left
  cases h; refine ⟨gam [0, (γ 1)], round_lim ?_⟩; rotate_left
  all_goals (dsimp only [fixed_writer_peer_e, fixed_writer_peers_l0_x] at *; show roundAs IF_ _ _ b54_0 b54_0F _ = _; generalize b54_0 = c0 at *; exact fin_)
noncomputable def fixed_writer_peers_b (l : List Peer) (r1 : List Int) : Option ((List Int)) :=
  (fixed_writer_num (Ops.std.iwrap .u64 (xlen ePeer l)) 1 r1).bind fun r11 =>
  fixed_writer_peers_l0 l 0 r11
theorem fixed_writer_peers_r {l r1 r} (h : fixed_writer_peers_b l r1 = some r) : fixed_writer_peers l r1 = some r := by
  unfold fixed_writer_peers_b at h
  refine asks_of fun γ => ?_
  obtain ⟨r11, γ1, h1, h⟩ := bind_asks h (gam [0, γ 1])
  obtain ⟨γ2, h2⟩ := asks_some h (gam [0, (γ1 1)])
  rcases r with r1'
  refine ⟨gam [0, (γ2 1)], call_lim rfl ?_⟩; rotate_left
  all_goals (dsimp only [fixed_writer_num_e, fixed_writer_peers_e, fixed_writer_peers_l0_x] at *; show runFn IF_ (g54F b54_0) _ _ = _; generalize b54_0 = c0 at *; exact fin_)
noncomputable def fixed_writer_text_b (s : ByteArray) (size : Int) (r1 : List Int) : Option ((List Int)) :=
  (fixed_writer_num (Ops.std.iwrap .u64 (Ops.std.slen s)) size r1).bind fun r11 =>
  bif xroom vB 1 r11 (sbytes s) then some (r11 ++ (sbytes s)) else
  none
theorem fixed_writer_text_r {s size r1 r} (h : fixed_writer_text_b s size r1 = some r) : fixed_writer_text s size r1 = some r := by
  unfold fixed_writer_text_b at h
  refine asks_of fun γ => ?_
  obtain ⟨r11, γ1, h1, h⟩ := bind_asks h (gam [0, γ 1])
  obtain ⟨h2, h⟩ := need_some h
  cases h; refine ⟨gam [0, ((γ1 1) + 1)], call_lim rfl ?_⟩; rotate_left
  all_goals (dsimp only [fixed_writer_num_e, fixed_writer_text_e] at *; show runFn IF_ g55F _ _ = _; exact fin_)
noncomputable def fixed_writer_pairs_l0_x (γ : Nat → Nat) : (List Int) → X × St
  | a0 => (.brk 0, ⟨bd 26 [], [.box 73 [.sl 1 ((γ 1))], .row 5 (γ 1) false (List.map vB a0)]⟩)
instance : InjS fixed_writer_pairs_l0_x := ⟨fun γ γ' x y h => by
  rcases x with a0 <;> rcases y with a0' <;> simp only [fixed_writer_pairs_l0_x] at h <;> exact inj_⟩
noncomputable def fixed_writer_pairs_l0 (l : List Pair) (t13 : Int) (r1' : List Int) : Option ((List Int)) := asks (fun γ => (lim F pr).loop [12, 11, 0, 13] 2 b56_0 ⟨.bptr 0 0 :: bd 10 (.lit 41 false (List.map ePair l) :: vI (xlen ePair l) :: vI t13 :: bd 12 []), [.box 73 [.sl 1 ((γ 1))], .row 5 (γ 1) false (List.map vB r1')]⟩) fixed_writer_pairs_l0_x
noncomputable def fixed_writer_pairs_l0_b (l : List Pair) (t13 : Int) (r1' : List Int) : Option ((List Int)) :=
  bif Ops.std.ilt t13 (xlen ePair l) then
    (xget ePair l t13).bind fun x =>
    (fixed_writer_text x.key 1 r1').bind fun r11 =>
    (fixed_writer_text x.val 2 r11).bind fun r12 =>
    fixed_writer_pairs_l0 l (Ops.std.iadd .i64 t13 1) r12
  else
    some r1'
theorem fixed_writer_pairs_l0_r {l t13 r1' r} (h : fixed_writer_pairs_l0_b l t13 r1' = some r) : fixed_writer_pairs_l0 l t13 r1' = some r := by
  unfold fixed_writer_pairs_l0_b at h
  refine asks_of fun γ => ?_
  rcases cond_some h with ⟨h1, h⟩ | ⟨h1, h⟩
  obtain ⟨x, h2, h⟩ := bind_ask h
  obtain ⟨r11, γ1, h3, h⟩ := bind_asks h (gam [0, (γ 1)])
  obtain ⟨r12, γ2, h4, h⟩ := bind_asks h (gam [0, (γ1 1)])
  replace h := asks_some h (gam [0, (γ2 1)]); obtain ⟨γ', h0⟩ := h; refine ⟨γ', round_lim ?_⟩; rotate_left
  cases h; refine ⟨gam [0, (γ 1)], round_lim ?_⟩; rotate_left
  all_goals (dsimp only [fixed_writer_pairs_l0_x, fixed_writer_text_e] at *; show roundAs IF_ _ _ b56_0 b56_0F _ = _; generalize b56_0 = c0 at *; exact fin_)
noncomputable def fixed_writer_pairs_b (l : List Pair) (r1 : List Int) : Option ((List Int)) :=
  (fixed_writer_num (Ops.std.iwrap .u64 (xlen ePair l)) 1 r1).bind fun r11 =>
  fixed_writer_pairs_l0 l 0 r11
theorem fixed_writer_pairs_r {l r1 r} (h : fixed_writer_pairs_b l r1 = some r) : fixed_writer_pairs l r1 = some r := by
  unfold fixed_writer_pairs_b at h
  refine asks_of fun γ => ?_
  obtain ⟨r11, γ1, h1, h⟩ := bind_asks h (gam [0, γ 1])
  obtain ⟨γ2, h2⟩ := asks_some h (gam [0, (γ1 1)])
  rcases r with r1'
  refine ⟨gam [0, (γ2 1)], call_lim rfl ?_⟩; rotate_left
  all_goals (dsimp only [fixed_writer_num_e, fixed_writer_pairs_e, fixed_writer_pairs_l0_x] at *; show runFn IF_ (g56F b56_0) _ _ = _; generalize b56_0 = c0 at *; exact fin_)
noncomputable def buf_Open_b (b : List Int) : Option ((Bool × Int)) :=
  bif xroom vB 1 [] b then some (true, 0) else
  none
theorem buf_Open_r {b r} (h : buf_Open_b b = some r) : buf_Open b = some r := by
  unfold buf_Open_b at h
  refine ask_of ?_
  obtain ⟨h1, h⟩ := need_some h
  cases h; refine call_lim rfl ?_; rotate_left
  all_goals (dsimp only [buf_Open_e] at *; show runFn IF_ g59F _ _ = _; exact fin_)
noncomputable def buf_Reader_dead_b (b0_made : Bool) (b0_rest : List Int) (b0_met : Int) : Option ((Bool × Bool)) :=
  bif b0_made then some ((!(Ops.std.ieq b0_met 0)), true) else
  some (true, false)
theorem buf_Reader_dead_r {b0_made b0_rest b0_met r} (h : buf_Reader_dead_b b0_made b0_rest b0_met = some r) : buf_Reader_dead b0_made b0_rest b0_met = some r := by
  unfold buf_Reader_dead_b at h
  refine ask_of ?_
  rcases cond_some h with ⟨h1, h⟩ | ⟨h1, h⟩
  cases h; refine call_lim rfl ?_; rotate_left
  cases h; refine call_lim rfl ?_; rotate_left
  all_goals (dsimp only [buf_Reader_dead_e] at *; show runFn IF_ g99F _ _ = _; exact fin_)
noncomputable def buf_Reader_lacks_b (n : Int) (b0_made : Bool) (b0_rest : List Int) (b0_met : Int) : Option ((Bool × Int)) :=
  bif Ops.std.ile n (xlen vB b0_rest) then some (false, b0_met) else
  some (true, 2)
theorem buf_Reader_lacks_r {n b0_made b0_rest b0_met r} (h : buf_Reader_lacks_b n b0_made b0_rest b0_met = some r) : buf_Reader_lacks n b0_made b0_rest b0_met = some r := by
  unfold buf_Reader_lacks_b at h
  refine ask_of ?_
  rcases cond_some h with ⟨h1, h⟩ | ⟨h1, h⟩
  cases h; refine call_lim rfl ?_; rotate_left
  cases h; refine call_lim rfl ?_; rotate_left
  all_goals (dsimp only [buf_Reader_lacks_e] at *; show runFn IF_ g100F _ _ = _; exact fin_)
noncomputable def buf_Reader_take_b (n : Int) (b0_made : Bool) (b0_rest : List Int) (b0_met : Int) : Option (((List Int) × (List Int))) :=
  (xsub vB b0_rest 0 n).bind fun ys =>
  bif xroom vB 1 [] ys then
    (xsub vB b0_rest n (xlen vB b0_rest)).bind fun ys1 =>
    some (ys1, ys)
  else
    none
theorem buf_Reader_take_r {n b0_made b0_rest b0_met r} (h : buf_Reader_take_b n b0_made b0_rest b0_met = some r) : buf_Reader_take n b0_made b0_rest b0_met = some r := by
  unfold buf_Reader_take_b at h
  refine asks_of fun γ => ?_
  obtain ⟨ys, h1, h⟩ := bind_ask h
  obtain ⟨h2, h⟩ := need_some h
  obtain ⟨ys1, h3, h⟩ := bind_ask h
  cases h; refine ⟨gam [0, 0], call_lim rfl ?_⟩; rotate_left
  all_goals (dsimp only [buf_Reader_take_e] at *; show runFn IF_ g101F _ _ = _; exact fin_)
noncomputable def buf_Reader_Fix_s1_x (γ : Nat → Nat) : (Int × Bool × (List Int) × Int) → X × St
  | (a0, a1, a2, a3) => (.ret, ⟨bd 4 (vU a0 :: bd 32 []), [.box 112 [vF a1, .lit 5 false (List.map vB a2), vI a3]]⟩)
instance : InjS buf_Reader_Fix_s1_x := ⟨fun γ γ' x y h => by
  rcases x with ⟨a0, a1, a2, a3⟩ <;> rcases y with ⟨a0', a1', a2', a3'⟩ <;> simp only [buf_Reader_Fix_s1_x] at h <;> exact inj_⟩
noncomputable def buf_Reader_Fix_s1 (size : Int) (b0_rest : List Int) (b0_met : Int) (b0_made' : Bool) : Option ((Int × Bool × (List Int) × Int)) := asks (fun γ => (lim F pr).seg [4] b60_1 ⟨.bptr 0 0 :: vI size :: bd 35 [], [.box 112 [vF b0_made', .lit 5 false (List.map vB b0_rest), vI b0_met]]⟩) buf_Reader_Fix_s1_x
abbrev buf_Reader_Fix_l0_T := (Int × Bool × (List Int) × Int × (List Int))
noncomputable def buf_Reader_Fix_l0_x (γ : Nat → Nat) : buf_Reader_Fix_l0_T → X × St
  | (a0, a1, a2, a3, a4) => (.brk 0, ⟨bd 5 (vU a0 :: bd 31 []), [.box 112 [vF a1, .lit 5 false (List.map vB a2), vI a3], .row 5 (γ 1) false (List.map vB a4)]⟩)
instance : InjS buf_Reader_Fix_l0_x := ⟨fun γ γ' x y h => by
  rcases x with ⟨a0, a1, a2, a3, a4⟩ <;> rcases y with ⟨a0', a1', a2', a3', a4'⟩ <;> simp only [buf_Reader_Fix_l0_x] at h <;> exact inj_⟩
noncomputable def buf_Reader_Fix_l0 (n : Int) (t25 : Int) (t26 : Int) (b0_made' : Bool) (b0_rest' : List Int) (b0_met' : Int) (r1 : List Int) : Option (buf_Reader_Fix_l0_T) := asks (fun γ => (lim F pr).loop [25, 24, 26, 5] 2 b60_0 ⟨bd 5 (vU n :: bd 18 (.sl 1 ((γ 1)) :: vI t25 :: vI t26 :: bd 10 [])), [.box 112 [vF b0_made', .lit 5 false (List.map vB b0_rest'), vI b0_met'], .row 5 (γ 1) false (List.map vB r1)]⟩) buf_Reader_Fix_l0_x
noncomputable def buf_Reader_Fix_s1_b (size : Int) (b0_rest : List Int) (b0_met : Int) (b0_made' : Bool) : Option ((Int × Bool × (List Int) × Int)) :=
  (buf_Reader_lacks size b0_made' b0_rest b0_met).bind fun ⟨res, b0_met1⟩ =>
  bif res then some (0, b0_made', b0_rest, b0_met1) else
  (buf_Reader_take size b0_made' b0_rest b0_met1).bind fun ⟨b0_rest1, r1⟩ =>
  (buf_Reader_Fix_l0 0 (xlen vB r1) 0 b0_made' b0_rest1 b0_met1 r1).bind fun ⟨n, b0_made'1, b0_rest', b0_met', r11⟩ =>
  some (n, b0_made'1, b0_rest', b0_met')
theorem buf_Reader_Fix_s1_r {size b0_rest b0_met b0_made' r} (h : buf_Reader_Fix_s1_b size b0_rest b0_met b0_made' = some r) : buf_Reader_Fix_s1 size b0_rest b0_met b0_made' = some r := by
  unfold buf_Reader_Fix_s1_b at h
  refine asks_of fun γ => ?_
  obtain ⟨r1, h1, h⟩ := bind_ask h
  rcases r1 with ⟨res, b0_met1⟩
  rcases cond_some h with ⟨h2, h⟩ | ⟨h2, h⟩
  cases h; refine ⟨gam [], seg_lim ?_⟩; rotate_left
  obtain ⟨r3, γ2, h3, h⟩ := bind_asks h (gam [0])
  rcases r3 with ⟨b0_rest1, r1⟩
  obtain ⟨r4, γ3, h4, h⟩ := bind_asks h (gam [0, (γ2 1)])
  rcases r4 with ⟨n, b0_made'1, b0_rest', b0_met', r11⟩
  cases h; refine ⟨gam [], seg_lim ?_⟩; rotate_left
  all_goals (dsimp only [buf_Reader_Fix_l0_x, buf_Reader_Fix_s1_x, buf_Reader_lacks_e, buf_Reader_take_e] at *; show Ifc.apart IF_ _ (b60_1F b60_0) _ = _; generalize b60_0 = c0 at *; exact fin_)
noncomputable def buf_Reader_Fix_l0_b (n : Int) (t25 : Int) (t26 : Int) (b0_made' : Bool) (b0_rest' : List Int) (b0_met' : Int) (r1 : List Int) : Option (buf_Reader_Fix_l0_T) :=
  bif Ops.std.ilt t26 t25 then
    (xget vB r1 t26).bind fun x =>
    bif Ops.std.ilt 8 0 then none else
    buf_Reader_Fix_l0 (Ops.std.ibit .or .u64 (Ops.std.ishl .u64 n 8) (Ops.std.iwrap .u64 x)) t25 (Ops.std.iadd .i64 t26 1) b0_made' b0_rest' b0_met' r1
  else
    some (n, b0_made', b0_rest', b0_met', r1)
theorem buf_Reader_Fix_l0_r {n t25 t26 b0_made' b0_rest' b0_met' r1 r} (h : buf_Reader_Fix_l0_b n t25 t26 b0_made' b0_rest' b0_met' r1 = some r) : buf_Reader_Fix_l0 n t25 t26 b0_made' b0_rest' b0_met' r1 = some r := by
  unfold buf_Reader_Fix_l0_b at h
  refine asks_of fun γ => ?_
  rcases cond_some h with ⟨h1, h⟩ | ⟨h1, h⟩
  obtain ⟨x, h2, h⟩ := bind_ask h
  obtain ⟨h3, h⟩ := need_some' h
  replace h := asks_some h (gam [0, (γ 1)]); obtain ⟨γ', h0⟩ := h; refine ⟨γ', round_lim ?_⟩; rotate_left
  cases h; refine ⟨gam [0, (γ 1)], round_lim ?_⟩; rotate_left
  all_goals (dsimp only [buf_Reader_Fix_l0_x] at *; show roundAs IF_ _ _ b60_0 b60_0F _ = _; generalize b60_0 = c0 at *; exact fin_)
noncomputable def buf_Reader_Fix_b (size : Int) (b0_made : Bool) (b0_rest : List Int) (b0_met : Int) : Option ((Int × Bool × (List Int) × Int)) :=
  (buf_Reader_dead b0_made b0_rest b0_met).bind fun ⟨res, b0_made1⟩ =>
  bif res then some (0, b0_made1, b0_rest, b0_met) else
  bif Ops.std.ilt size 1 then some (0, b0_made1, b0_rest, 1) else
  bif Ops.std.ilt 8 size then some (0, b0_made1, b0_rest, 1) else
  buf_Reader_Fix_s1 size b0_rest b0_met b0_made1
theorem buf_Reader_Fix_r {size b0_made b0_rest b0_met r} (h : buf_Reader_Fix_b size b0_made b0_rest b0_met = some r) : buf_Reader_Fix size b0_made b0_rest b0_met = some r := by
  unfold buf_Reader_Fix_b at h
  refine ask_of ?_
  obtain ⟨r1, h1, h⟩ := bind_ask h
  rcases r1 with ⟨res, b0_made1⟩
  rcases cond_some h with ⟨h2, h⟩ | ⟨h2, h⟩
  cases h; refine call_lim rfl ?_; rotate_left
  rcases cond_some h with ⟨h3, h⟩ | ⟨h3, h⟩
  cases h; refine call_lim rfl ?_; rotate_left
  rcases cond_some h with ⟨h4, h⟩ | ⟨h4, h⟩
  cases h; refine call_lim rfl ?_; rotate_left
  obtain ⟨γ2, h5⟩ := asks_some h (gam [])
  rcases r with ⟨t4, b0_made', b0_rest', b0_met'⟩
  refine call_lim rfl ?_; rotate_left
  all_goals (dsimp only [buf_Reader_Fix_e, buf_Reader_Fix_s1_x, buf_Reader_dead_e] at *; show runFn IF_ (g60F b60_1) _ _ = _; generalize b60_1 = c0 at *; exact fin_)
noncomputable def msg_Name_b (k : Int) : Option (ByteArray) :=
  (msg_of k).bind fun res =>
  some res.name
theorem msg_Name_r {k r} (h : msg_Name_b k = some r) : msg_Name k = some r := by
  unfold msg_Name_b at h
  refine ask_of ?_
  obtain ⟨res, h1, h⟩ := bind_ask h
  cases h; refine call_lim rfl ?_; rotate_left
  all_goals (dsimp only [R1] at *; show runFn IF_ g61F _ _ = _; exact fin_)
noncomputable def buf_Reader_Fail_b (e_ : Int) (b0_made : Bool) (b0_rest : List Int) (b0_met : Int) : Option ((Bool × Int)) :=
  (buf_Reader_dead b0_made b0_rest b0_met).bind fun ⟨res, b0_made1⟩ =>
  bif res then some (b0_made1, b0_met) else
  some (b0_made1, e_)
theorem buf_Reader_Fail_r {e_ b0_made b0_rest b0_met r} (h : buf_Reader_Fail_b e_ b0_made b0_rest b0_met = some r) : buf_Reader_Fail e_ b0_made b0_rest b0_met = some r := by
  unfold buf_Reader_Fail_b at h
  refine ask_of ?_
  obtain ⟨r1, h1, h⟩ := bind_ask h
  rcases r1 with ⟨res, b0_made1⟩
  rcases cond_some h with ⟨h2, h⟩ | ⟨h2, h⟩
  cases h; refine call_lim rfl ?_; rotate_left
  cases h; refine call_lim rfl ?_; rotate_left
  all_goals (dsimp only [buf_Reader_Fail_e, buf_Reader_dead_e] at *; show runFn IF_ g62F _ _ = _; exact fin_)
noncomputable def buf_Reader_Flag_s0_x (γ : Nat → Nat) : (Bool × Bool × (List Int) × Int) → X × St
  | (a0, a1, a2, a3) => (.ret, ⟨bd 2 (vF a0 :: bd 21 []), [.box 112 [vF a1, .lit 5 false (List.map vB a2), vI a3]]⟩)
instance : InjS buf_Reader_Flag_s0_x := ⟨fun γ γ' x y h => by
  rcases x with ⟨a0, a1, a2, a3⟩ <;> rcases y with ⟨a0', a1', a2', a3'⟩ <;> simp only [buf_Reader_Flag_s0_x] at h <;> exact inj_⟩
noncomputable def buf_Reader_Flag_s0 (b0_rest : List Int) (b0_made' : Bool) (b0_met' : Int) : Option ((Bool × Bool × (List Int) × Int)) := asks (fun γ => (lim F pr).seg [2] b103_0 ⟨.bptr 0 0 :: bd 23 [], [.box 112 [vF b0_made', .lit 5 false (List.map vB b0_rest), vI b0_met']]⟩) buf_Reader_Flag_s0_x
noncomputable def buf_Reader_Flag_s0_b (b0_rest : List Int) (b0_made' : Bool) (b0_met' : Int) : Option ((Bool × Bool × (List Int) × Int)) :=
  (xget vB b0_rest 0).bind fun x =>
  bif Ops.std.ilt 1 x then some (false, b0_made', b0_rest, 3) else
  (buf_Reader_take 1 b0_made' b0_rest b0_met').bind fun ⟨b0_rest1, r1⟩ =>
  (xget vB r1 0).bind fun x1 =>
  some (Ops.std.ieq x1 1, b0_made', b0_rest1, b0_met')
theorem buf_Reader_Flag_s0_r {b0_rest b0_made' b0_met' r} (h : buf_Reader_Flag_s0_b b0_rest b0_made' b0_met' = some r) : buf_Reader_Flag_s0 b0_rest b0_made' b0_met' = some r := by
  unfold buf_Reader_Flag_s0_b at h
  refine asks_of fun γ => ?_
  obtain ⟨x, h1, h⟩ := bind_ask h
  rcases cond_some h with ⟨h2, h⟩ | ⟨h2, h⟩
  cases h; refine ⟨gam [], seg_lim ?_⟩; rotate_left
  obtain ⟨r3, γ1, h3, h⟩ := bind_asks h (gam [0])
  rcases r3 with ⟨b0_rest1, r1⟩
  obtain ⟨x1, h4, h⟩ := bind_ask h
  cases h; refine ⟨gam [], seg_lim ?_⟩; rotate_left
  all_goals (dsimp only [buf_Reader_Flag_s0_x, buf_Reader_take_e] at *; show Ifc.apart IF_ _ b103_0F _ = _; exact fin_)
noncomputable def buf_Reader_Flag_b (b0_made : Bool) (b0_rest : List Int) (b0_met : Int) : Option ((Bool × Bool × (List Int) × Int)) :=
  (buf_Reader_dead b0_made b0_rest b0_met).bind fun ⟨res, b0_made1⟩ =>
  bif res then some (false, b0_made1, b0_rest, b0_met) else
  (buf_Reader_lacks 1 b0_made1 b0_rest b0_met).bind fun ⟨res1, b0_met1⟩ =>
  bif res1 then some (false, b0_made1, b0_rest, b0_met1) else
  buf_Reader_Flag_s0 b0_rest b0_made1 b0_met1
theorem buf_Reader_Flag_r {b0_made b0_rest b0_met r} (h : buf_Reader_Flag_b b0_made b0_rest b0_met = some r) : buf_Reader_Flag b0_made b0_rest b0_met = some r := by
  unfold buf_Reader_Flag_b at h
  refine ask_of ?_
  obtain ⟨r1, h1, h⟩ := bind_ask h
  rcases r1 with ⟨res, b0_made1⟩
  rcases cond_some h with ⟨h2, h⟩ | ⟨h2, h⟩
  cases h; refine call_lim rfl ?_; rotate_left
  obtain ⟨r3, h3, h⟩ := bind_ask h
  rcases r3 with ⟨res1, b0_met1⟩
  rcases cond_some h with ⟨h4, h⟩ | ⟨h4, h⟩
  cases h; refine call_lim rfl ?_; rotate_left
  obtain ⟨γ3, h5⟩ := asks_some h (gam [])
  rcases r with ⟨t2, b0_made', b0_rest', b0_met'⟩
  refine call_lim rfl ?_; rotate_left
  all_goals (dsimp only [buf_Reader_Flag_e, buf_Reader_Flag_s0_x, buf_Reader_dead_e, buf_Reader_lacks_e] at *; show runFn IF_ (g103F b103_0) _ _ = _; generalize b103_0 = c0 at *; exact fin_)
noncomputable def fixed_peer_b (b0_made : Bool) (b0_rest : List Int) (b0_met : Int) : Option ((Peer × Bool × (List Int) × Int)) :=
  (buf_Reader_Fix 8 b0_made b0_rest b0_met).bind fun ⟨res, b0_made1, b0_rest1, b0_met1⟩ =>
  (buf_Reader_Fix 2 b0_made1 b0_rest1 b0_met1).bind fun ⟨res1, b0_made2, b0_rest2, b0_met2⟩ =>
  some ((⟨res, Ops.std.iwrap .u16 res1⟩ : Peer), b0_made2, b0_rest2, b0_met2)
theorem fixed_peer_r {b0_made b0_rest b0_met r} (h : fixed_peer_b b0_made b0_rest b0_met = some r) : fixed_peer b0_made b0_rest b0_met = some r := by
  unfold fixed_peer_b at h
  refine ask_of ?_
  obtain ⟨r1, h1, h⟩ := bind_ask h
  rcases r1 with ⟨res, b0_made1, b0_rest1, b0_met1⟩
  obtain ⟨r2, h2, h⟩ := bind_ask h
  rcases r2 with ⟨res1, b0_made2, b0_rest2, b0_met2⟩
  cases h; refine call_lim rfl ?_; rotate_left
  all_goals (dsimp only [buf_Reader_Fix_e, fixed_peer_e] at *; show runFn IF_ g104F _ _ = _; exact fin_)
end Go.Ab.Tryd
namespace Go.Ab.Tryd
open Go Go.Ab Go.Proofs
set_option linter.unusedVariables false
set_option linter.unusedSimpArgs false
set_option maxRecDepth 10000
set_option maxHeartbeats 4000000
noncomputable def buf_Reader_Err_b (b0_made : Bool) (b0_rest : List Int) (b0_met : Int) : Option ((Int × Bool)) :=
  bif b0_made then some (b0_met, true) else
  some (14, false)
theorem buf_Reader_Err_r {b0_made b0_rest b0_met r} (h : buf_Reader_Err_b b0_made b0_rest b0_met = some r) : buf_Reader_Err b0_made b0_rest b0_met = some r := by
  unfold buf_Reader_Err_b at h
  refine ask_of ?_
  rcases cond_some h with ⟨h1, h⟩ | ⟨h1, h⟩
  cases h; refine call_lim rfl ?_; rotate_left
  cases h; refine call_lim rfl ?_; rotate_left
  all_goals (dsimp only [buf_Reader_Err_e] at *; show runFn IF_ g108F _ _ = _; exact fin_)
noncomputable def fixed_many_b (most : Int) (b0_made : Bool) (b0_rest : List Int) (b0_met : Int) : Option ((Int × Bool × (List Int) × Int)) :=
  (buf_Reader_Fix 1 b0_made b0_rest b0_met).bind fun ⟨res, b0_made1, b0_rest1, b0_met1⟩ =>
  bif Ops.std.ilt most (Ops.std.iwrap .i64 res) then
    (buf_Reader_Fail 5 b0_made1 b0_rest1 b0_met1).bind fun ⟨b0_made2, b0_met2⟩ =>
    (buf_Reader_Err b0_made2 b0_rest1 b0_met2).bind fun ⟨res1, b0_made3⟩ =>
    bif Ops.std.ieq res1 0 then some (Ops.std.iwrap .i64 res, b0_made3, b0_rest1, b0_met2) else
    some (0, b0_made3, b0_rest1, b0_met2)
  else
    (buf_Reader_Err b0_made1 b0_rest1 b0_met1).bind fun ⟨res1, b0_made2⟩ =>
    bif Ops.std.ieq res1 0 then some (Ops.std.iwrap .i64 res, b0_made2, b0_rest1, b0_met1) else
    some (0, b0_made2, b0_rest1, b0_met1)
theorem fixed_many_r {most b0_made b0_rest b0_met r} (h : fixed_many_b most b0_made b0_rest b0_met = some r) : fixed_many most b0_made b0_rest b0_met = some r := by
  unfold fixed_many_b at h
  refine ask_of ?_
  obtain ⟨r1, h1, h⟩ := bind_ask h
  rcases r1 with ⟨res, b0_made1, b0_rest1, b0_met1⟩
  rcases cond_some h with ⟨h2, h⟩ | ⟨h2, h⟩
  obtain ⟨r3, h3, h⟩ := bind_ask h
  rcases r3 with ⟨b0_made2, b0_met2⟩
  obtain ⟨r4, h4, h⟩ := bind_ask h
  rcases r4 with ⟨res1, b0_made3⟩
  rcases cond_some h with ⟨h5, h⟩ | ⟨h5, h⟩
  cases h; refine call_lim rfl ?_; rotate_left
  cases h; refine call_lim rfl ?_; rotate_left
  obtain ⟨r3, h3, h⟩ := bind_ask h
  rcases r3 with ⟨res1, b0_made2⟩
  rcases cond_some h with ⟨h4, h⟩ | ⟨h4, h⟩
  cases h; refine call_lim rfl ?_; rotate_left
  cases h; refine call_lim rfl ?_; rotate_left
  all_goals (dsimp only [buf_Reader_Err_e, buf_Reader_Fail_e, buf_Reader_Fix_e, fixed_many_e] at *; show runFn IF_ g124F _ _ = _; exact fin_)
noncomputable def fixed_peers_l0_x (γ : Nat → Nat) : (Bool × (List Int) × Int × (List Peer)) → X × St
  | (a0, a1, a2, a3) => (.brk 0, ⟨bd 3 (.sl 2 ((γ 2)) :: bd 11 []), [.box 112 [vF a0, .lit 5 false (List.map vB a1), vI a2], .row 46 (γ 1) false (List.map ePeer []), .row 46 (γ 2) false (List.map ePeer a3)]⟩)
instance : InjS fixed_peers_l0_x := ⟨fun γ γ' x y h => by
  rcases x with ⟨a0, a1, a2, a3⟩ <;> rcases y with ⟨a0', a1', a2', a3'⟩ <;> simp only [fixed_peers_l0_x] at h <;> exact inj_⟩
noncomputable def fixed_peers_l0 (t5 : Int) (t6 : Int) (b0_made' : Bool) (b0_rest' : List Int) (b0_met' : Int) (r2 : List Peer) : Option ((Bool × (List Int) × Int × (List Peer))) := asks (fun γ => (lim F pr).loop [5, 0, 6, 3] 3 b105_0 ⟨.bptr 0 0 :: bd 2 (.sl 2 ((γ 2)) :: bd 1 (vI t5 :: vI t6 :: bd 8 [])), [.box 112 [vF b0_made', .lit 5 false (List.map vB b0_rest'), vI b0_met'], .row 46 (γ 1) false (List.map ePeer []), .row 46 (γ 2) false (List.map ePeer r2)]⟩) fixed_peers_l0_x
noncomputable def fixed_peers_l0_b (t5 : Int) (t6 : Int) (b0_made' : Bool) (b0_rest' : List Int) (b0_met' : Int) (r2 : List Peer) : Option ((Bool × (List Int) × Int × (List Peer))) :=
  bif Ops.std.ilt t6 t5 then
    (fixed_peer b0_made' b0_rest' b0_met').bind fun ⟨res, b0_made1, b0_rest1, b0_met1⟩ =>
    bif xroom ePeer 16 r2 [res] then
      fixed_peers_l0 t5 (Ops.std.iadd .i64 t6 1) b0_made1 b0_rest1 b0_met1 (r2 ++ [res])
    else
      none
  else
    some (b0_made', b0_rest', b0_met', r2)
theorem fixed_peers_l0_r {t5 t6 b0_made' b0_rest' b0_met' r2 r} (h : fixed_peers_l0_b t5 t6 b0_made' b0_rest' b0_met' r2 = some r) : fixed_peers_l0 t5 t6 b0_made' b0_rest' b0_met' r2 = some r := by
  unfold fixed_peers_l0_b at h
  refine asks_of fun γ => ?_
  rcases cond_some h with ⟨h1, h⟩ | ⟨h1, h⟩
  obtain ⟨r2, h2, h⟩ := bind_ask h
  rcases r2 with ⟨res, b0_made1, b0_rest1, b0_met1⟩
  obtain ⟨h3, h⟩ := need_some h
  replace h := asks_some h (gam [0, (γ 1), ((γ 2) + 1)]); obtain ⟨γ', h0⟩ := h; refine ⟨γ', round_lim ?_⟩; rotate_left
  cases h; refine ⟨gam [0, (γ 1), (γ 2)], round_lim ?_⟩; rotate_left
  all_goals (dsimp only [fixed_peer_e, fixed_peers_l0_x] at *; show roundAs IF_ _ _ b105_0 b105_0F _ = _; generalize b105_0 = c0 at *; exact fin_)
noncomputable def fixed_peers_b (b0_made : Bool) (b0_rest : List Int) (b0_met : Int) : Option ((Bool × (List Int) × Int × (List Peer))) :=
  (fixed_many 16 b0_made b0_rest b0_met).bind fun ⟨res, b0_made1, b0_rest1, b0_met1⟩ =>
  fixed_peers_l0 res 0 b0_made1 b0_rest1 b0_met1 []
theorem fixed_peers_r {b0_made b0_rest b0_met r} (h : fixed_peers_b b0_made b0_rest b0_met = some r) : fixed_peers b0_made b0_rest b0_met = some r := by
  unfold fixed_peers_b at h
  refine asks_of fun γ => ?_
  obtain ⟨r1, h1, h⟩ := bind_ask h
  rcases r1 with ⟨res, b0_made1, b0_rest1, b0_met1⟩
  obtain ⟨γ2, h2⟩ := asks_some h (gam [0, 0, 0])
  rcases r with ⟨b0_made', b0_rest', b0_met', r2⟩
  refine ⟨gam [0, (γ2 2)], call_lim rfl ?_⟩; rotate_left
  all_goals (dsimp only [fixed_many_e, fixed_peers_e, fixed_peers_l0_x] at *; show runFn IF_ (g105F b105_0) _ _ = _; generalize b105_0 = c0 at *; exact fin_)
noncomputable def buf_Reader_Take_b (n : Int) (b0_made : Bool) (b0_rest : List Int) (b0_met : Int) : Option ((Bool × (List Int) × Int × (List Int))) :=
  (buf_Reader_dead b0_made b0_rest b0_met).bind fun ⟨res, b0_made1⟩ =>
  bif res then some (b0_made1, b0_rest, b0_met, []) else
  bif Ops.std.ilt n 0 then some (b0_made1, b0_rest, 1, []) else
  (buf_Reader_lacks n b0_made1 b0_rest b0_met).bind fun ⟨res1, b0_met1⟩ =>
  bif res1 then some (b0_made1, b0_rest, b0_met1, []) else
  (buf_Reader_take n b0_made1 b0_rest b0_met1).bind fun ⟨b0_rest1, r1⟩ =>
  some (b0_made1, b0_rest1, b0_met1, r1)
theorem buf_Reader_Take_r {n b0_made b0_rest b0_met r} (h : buf_Reader_Take_b n b0_made b0_rest b0_met = some r) : buf_Reader_Take n b0_made b0_rest b0_met = some r := by
  unfold buf_Reader_Take_b at h
  refine asks_of fun γ => ?_
  obtain ⟨r1, h1, h⟩ := bind_ask h
  rcases r1 with ⟨res, b0_made1⟩
  rcases cond_some h with ⟨h2, h⟩ | ⟨h2, h⟩
  cases h; refine ⟨gam [0, 0], call_lim rfl ?_⟩; rotate_left
  rcases cond_some h with ⟨h3, h⟩ | ⟨h3, h⟩
  cases h; refine ⟨gam [0, 0], call_lim rfl ?_⟩; rotate_left
  obtain ⟨r4, h4, h⟩ := bind_ask h
  rcases r4 with ⟨res1, b0_met1⟩
  rcases cond_some h with ⟨h5, h⟩ | ⟨h5, h⟩
  cases h; refine ⟨gam [0, 0], call_lim rfl ?_⟩; rotate_left
  obtain ⟨r6, γ3, h6, h⟩ := bind_asks h (gam [0])
  rcases r6 with ⟨b0_rest1, r1⟩
  cases h; refine ⟨gam [0, (γ3 1)], call_lim rfl ?_⟩; rotate_left
  all_goals (dsimp only [buf_Reader_Take_e, buf_Reader_dead_e, buf_Reader_lacks_e, buf_Reader_take_e] at *; show runFn IF_ g125F _ _ = _; exact fin_)
noncomputable def fixed_text_b (size : Int) (most : Int) (b0_made : Bool) (b0_rest : List Int) (b0_met : Int) : Option ((ByteArray × Bool × (List Int) × Int)) :=
  (buf_Reader_Fix size b0_made b0_rest b0_met).bind fun ⟨res, b0_made1, b0_rest1, b0_met1⟩ =>
  bif Ops.std.ilt (Ops.std.iwrap .u64 most) res then
    (buf_Reader_Fail 5 b0_made1 b0_rest1 b0_met1).bind fun ⟨b0_made2, b0_met2⟩ =>
    (buf_Reader_Take (Ops.std.iwrap .i64 res) b0_made2 b0_rest1 b0_met2).bind fun ⟨b0_made3, b0_rest2, b0_met3, r1⟩ =>
    (xsofb r1).bind fun z =>
    some (z, b0_made3, b0_rest2, b0_met3)
  else
    (buf_Reader_Take (Ops.std.iwrap .i64 res) b0_made1 b0_rest1 b0_met1).bind fun ⟨b0_made2, b0_rest2, b0_met2, r1⟩ =>
    (xsofb r1).bind fun z =>
    some (z, b0_made2, b0_rest2, b0_met2)
theorem fixed_text_r {size most b0_made b0_rest b0_met r} (h : fixed_text_b size most b0_made b0_rest b0_met = some r) : fixed_text size most b0_made b0_rest b0_met = some r := by
  unfold fixed_text_b at h
  refine ask_of ?_
  obtain ⟨r1, h1, h⟩ := bind_ask h
  rcases r1 with ⟨res, b0_made1, b0_rest1, b0_met1⟩
  rcases cond_some h with ⟨h2, h⟩ | ⟨h2, h⟩
  obtain ⟨r3, h3, h⟩ := bind_ask h
  rcases r3 with ⟨b0_made2, b0_met2⟩
  obtain ⟨r4, γ3, h4, h⟩ := bind_asks h (gam [0])
  rcases r4 with ⟨b0_made3, b0_rest2, b0_met3, r1⟩
  obtain ⟨z, h5, h⟩ := bind_some h
  cases h; refine call_lim rfl ?_; rotate_left
  obtain ⟨r3, γ2, h3, h⟩ := bind_asks h (gam [0])
  rcases r3 with ⟨b0_made2, b0_rest2, b0_met2, r1⟩
  obtain ⟨z, h4, h⟩ := bind_some h
  cases h; refine call_lim rfl ?_; rotate_left
  all_goals (dsimp only [buf_Reader_Fail_e, buf_Reader_Fix_e, buf_Reader_Take_e, fixed_text_e] at *; show runFn IF_ g106F _ _ = _; exact fin_)
noncomputable def fixed_pairs_l0_x (γ : Nat → Nat) : (Bool × (List Int) × Int × (List Pair)) → X × St
  | (a0, a1, a2, a3) => (.brk 0, ⟨bd 3 (.sl 2 ((γ 2)) :: bd 16 []), [.box 112 [vF a0, .lit 5 false (List.map vB a1), vI a2], .row 41 (γ 1) false (List.map ePair []), .row 41 (γ 2) false (List.map ePair a3)]⟩)
instance : InjS fixed_pairs_l0_x := ⟨fun γ γ' x y h => by
  rcases x with ⟨a0, a1, a2, a3⟩ <;> rcases y with ⟨a0', a1', a2', a3'⟩ <;> simp only [fixed_pairs_l0_x] at h <;> exact inj_⟩
noncomputable def fixed_pairs_l0 (t6 : Int) (t7 : Int) (b0_made' : Bool) (b0_rest' : List Int) (b0_met' : Int) (r2 : List Pair) : Option ((Bool × (List Int) × Int × (List Pair))) := asks (fun γ => (lim F pr).loop [6, 0, 7, 3] 3 b107_0 ⟨.bptr 0 0 :: bd 2 (.sl 2 ((γ 2)) :: bd 2 (vI t6 :: vI t7 :: bd 12 [])), [.box 112 [vF b0_made', .lit 5 false (List.map vB b0_rest'), vI b0_met'], .row 41 (γ 1) false (List.map ePair []), .row 41 (γ 2) false (List.map ePair r2)]⟩) fixed_pairs_l0_x
noncomputable def fixed_pairs_l0_b (t6 : Int) (t7 : Int) (b0_made' : Bool) (b0_rest' : List Int) (b0_met' : Int) (r2 : List Pair) : Option ((Bool × (List Int) × Int × (List Pair))) :=
  bif Ops.std.ilt t7 t6 then
    (fixed_text 1 96 b0_made' b0_rest' b0_met').bind fun ⟨res, b0_made1, b0_rest1, b0_met1⟩ =>
    (fixed_text 2 512 b0_made1 b0_rest1 b0_met1).bind fun ⟨res1, b0_made2, b0_rest2, b0_met2⟩ =>
    bif xroom ePair 32 r2 [(⟨res, res1⟩ : Pair)] then
      fixed_pairs_l0 t6 (Ops.std.iadd .i64 t7 1) b0_made2 b0_rest2 b0_met2 (r2 ++ [(⟨res, res1⟩ : Pair)])
    else
      none
  else
    some (b0_made', b0_rest', b0_met', r2)
theorem fixed_pairs_l0_r {t6 t7 b0_made' b0_rest' b0_met' r2 r} (h : fixed_pairs_l0_b t6 t7 b0_made' b0_rest' b0_met' r2 = some r) : fixed_pairs_l0 t6 t7 b0_made' b0_rest' b0_met' r2 = some r := by
  unfold fixed_pairs_l0_b at h
  refine asks_of fun γ => ?_
  rcases cond_some h with ⟨h1, h⟩ | ⟨h1, h⟩
  obtain ⟨r2, h2, h⟩ := bind_ask h
  rcases r2 with ⟨res, b0_made1, b0_rest1, b0_met1⟩
  obtain ⟨r3, h3, h⟩ := bind_ask h
  rcases r3 with ⟨res1, b0_made2, b0_rest2, b0_met2⟩
  obtain ⟨h4, h⟩ := need_some h
  replace h := asks_some h (gam [0, (γ 1), ((γ 2) + 1)]); obtain ⟨γ', h0⟩ := h; refine ⟨γ', round_lim ?_⟩; rotate_left
  cases h; refine ⟨gam [0, (γ 1), (γ 2)], round_lim ?_⟩; rotate_left
  all_goals (dsimp only [fixed_pairs_l0_x, fixed_text_e] at *; show roundAs IF_ _ _ b107_0 b107_0F _ = _; generalize b107_0 = c0 at *; exact fin_)
noncomputable def fixed_pairs_b (b0_made : Bool) (b0_rest : List Int) (b0_met : Int) : Option ((Bool × (List Int) × Int × (List Pair))) :=
  (fixed_many 8 b0_made b0_rest b0_met).bind fun ⟨res, b0_made1, b0_rest1, b0_met1⟩ =>
  fixed_pairs_l0 res 0 b0_made1 b0_rest1 b0_met1 []
theorem fixed_pairs_r {b0_made b0_rest b0_met r} (h : fixed_pairs_b b0_made b0_rest b0_met = some r) : fixed_pairs b0_made b0_rest b0_met = some r := by
  unfold fixed_pairs_b at h
  refine asks_of fun γ => ?_
  obtain ⟨r1, h1, h⟩ := bind_ask h
  rcases r1 with ⟨res, b0_made1, b0_rest1, b0_met1⟩
  obtain ⟨γ2, h2⟩ := asks_some h (gam [0, 0, 0])
  rcases r with ⟨b0_made', b0_rest', b0_met', r2⟩
  refine ⟨gam [0, (γ2 2)], call_lim rfl ?_⟩; rotate_left
  all_goals (dsimp only [fixed_many_e, fixed_pairs_e, fixed_pairs_l0_x] at *; show runFn IF_ (g107F b107_0) _ _ = _; generalize b107_0 = c0 at *; exact fin_)
abbrev fixed_fields_s1_T := (Bool × (List Int) × Int × Int × Bool × ByteArray × ByteArray × Int × Int × (List Peer) × (List Pair))
noncomputable def fixed_fields_s1_x (b1_kind : Int) (b1_rid : Int) (b1_id : Int) (γ : Nat → Nat) : fixed_fields_s1_T → X × St
  | (a0, a1, a2, a3, a4, a5, a6, a7, a8, a9, a10) => (.nor, ⟨bd 105 [], [.box 112 [vF a0, .lit 5 false (List.map vB a1), vI a2], .box 49 [vI b1_kind, vW b1_rid, vB a3, vF a4, vU b1_id, vT a5, vT a6, vU a7, vH a8, .lit 46 false (List.map ePeer a9), .lit 41 false (List.map ePair a10)]]⟩)
instance {b1_kind b1_rid b1_id} : InjS (fixed_fields_s1_x b1_kind b1_rid b1_id) := ⟨fun γ γ' x y h => by
  rcases x with ⟨a0, a1, a2, a3, a4, a5, a6, a7, a8, a9, a10⟩ <;> rcases y with ⟨a0', a1', a2', a3', a4', a5', a6', a7', a8', a9', a10'⟩ <;> simp only [fixed_fields_s1_x] at h <;> exact inj_⟩
noncomputable def fixed_fields_s1 (b0_made : Bool) (b0_rest : List Int) (b0_met : Int) (b1_kind : Int) (b1_rid : Int) (b1_code : Int) (b1_has : Bool) (b1_id : Int) (b1_key : ByteArray) (b1_val : ByteArray) (b1_peer_id : Int) (b1_peer_addr : Int) (b1_peers : List Peer) (b1_pairs : List Pair) (t15 : Bool) : Option (fixed_fields_s1_T) := asks (fun γ => (lim F pr).seg [] b63_1 ⟨.bptr 0 0 :: .bptr 1 0 :: bd 5 (vI b1_kind :: bd 7 (vF t15 :: bd 89 [])), [.box 112 [vF b0_made, .lit 5 false (List.map vB b0_rest), vI b0_met], .box 49 [vI b1_kind, vW b1_rid, vB b1_code, vF b1_has, vU b1_id, vT b1_key, vT b1_val, vU b1_peer_id, vH b1_peer_addr, .lit 46 false (List.map ePeer b1_peers), .lit 41 false (List.map ePair b1_pairs)]]⟩) (fixed_fields_s1_x b1_kind b1_rid b1_id)
abbrev fixed_fields_s0_T := (Bool × (List Int) × Int × Int × Bool × ByteArray × ByteArray × (List Pair))
noncomputable def fixed_fields_s0_x (b1_kind : Int) (b1_rid : Int) (b1_id : Int) (b1_peer_id : Int) (b1_peer_addr : Int) (b1_peers : List Peer) (γ : Nat → Nat) : fixed_fields_s0_T → X × St
  | (a0, a1, a2, a3, a4, a5, a6, a7) => (.nor, ⟨bd 105 [], [.box 112 [vF a0, .lit 5 false (List.map vB a1), vI a2], .box 49 [vI b1_kind, vW b1_rid, vB a3, vF a4, vU b1_id, vT a5, vT a6, vU b1_peer_id, vH b1_peer_addr, .lit 46 false (List.map ePeer b1_peers), .lit 41 false (List.map ePair a7)]]⟩)
instance {b1_kind b1_rid b1_id b1_peer_id b1_peer_addr b1_peers} : InjS (fixed_fields_s0_x b1_kind b1_rid b1_id b1_peer_id b1_peer_addr b1_peers) := ⟨fun γ γ' x y h => by
  rcases x with ⟨a0, a1, a2, a3, a4, a5, a6, a7⟩ <;> rcases y with ⟨a0', a1', a2', a3', a4', a5', a6', a7'⟩ <;> simp only [fixed_fields_s0_x] at h <;> exact inj_⟩
noncomputable def fixed_fields_s0 (b0_made : Bool) (b0_rest : List Int) (b0_met : Int) (b1_kind : Int) (b1_rid : Int) (b1_code : Int) (b1_has : Bool) (b1_id : Int) (b1_key : ByteArray) (b1_val : ByteArray) (b1_peer_id : Int) (b1_peer_addr : Int) (b1_peers : List Peer) (b1_pairs : List Pair) (t51 : Bool) : Option (fixed_fields_s0_T) := asks (fun γ => (lim F pr).seg [] b63_0 ⟨.bptr 0 0 :: .bptr 1 0 :: bd 5 (vI b1_kind :: bd 43 (vF t51 :: bd 53 [])), [.box 112 [vF b0_made, .lit 5 false (List.map vB b0_rest), vI b0_met], .box 49 [vI b1_kind, vW b1_rid, vB b1_code, vF b1_has, vU b1_id, vT b1_key, vT b1_val, vU b1_peer_id, vH b1_peer_addr, .lit 46 false (List.map ePeer b1_peers), .lit 41 false (List.map ePair b1_pairs)]]⟩) (fixed_fields_s0_x b1_kind b1_rid b1_id b1_peer_id b1_peer_addr b1_peers)
noncomputable def fixed_fields_s1_b (b0_made : Bool) (b0_rest : List Int) (b0_met : Int) (b1_kind : Int) (b1_rid : Int) (b1_code : Int) (b1_has : Bool) (b1_id : Int) (b1_key : ByteArray) (b1_val : ByteArray) (b1_peer_id : Int) (b1_peer_addr : Int) (b1_peers : List Peer) (b1_pairs : List Pair) (t15 : Bool) : Option (fixed_fields_s1_T) :=
  bif t15 then
    (buf_Reader_Flag b0_made b0_rest b0_met).bind fun ⟨res, b0_made1, b0_rest1, b0_met1⟩ =>
    bif res then
      bif Ops.std.ieq b1_kind 4 then
        (fixed_peer b0_made1 b0_rest1 b0_met1).bind fun ⟨res1, b0_made2, b0_rest2, b0_met2⟩ =>
        (fixed_peers b0_made2 b0_rest2 b0_met2).bind fun ⟨b0_made3, b0_rest3, b0_met3, r1⟩ =>
        some (b0_made3, b0_rest3, b0_met3, b1_code, true, b1_key, b1_val, res1.id, res1.addr, r1, b1_pairs)
      else
        (fixed_peers b0_made1 b0_rest1 b0_met1).bind fun ⟨b0_made2, b0_rest2, b0_met2, r1⟩ =>
        some (b0_made2, b0_rest2, b0_met2, b1_code, true, b1_key, b1_val, b1_peer_id, b1_peer_addr, r1, b1_pairs)
    else
      (fixed_peers b0_made1 b0_rest1 b0_met1).bind fun ⟨b0_made2, b0_rest2, b0_met2, r1⟩ =>
      some (b0_made2, b0_rest2, b0_met2, b1_code, false, b1_key, b1_val, b1_peer_id, b1_peer_addr, r1, b1_pairs)
  else
    bif Ops.std.ieq b1_kind 5 then
      (fixed_peer b0_made b0_rest b0_met).bind fun ⟨res, b0_made1, b0_rest1, b0_met1⟩ =>
      some (b0_made1, b0_rest1, b0_met1, b1_code, b1_has, b1_key, b1_val, res.id, res.addr, b1_peers, b1_pairs)
    else
      bif Ops.std.ieq b1_kind 7 then
        (fixed_fields_s0 b0_made b0_rest b0_met b1_kind b1_rid b1_code b1_has b1_id b1_key b1_val b1_peer_id b1_peer_addr b1_peers b1_pairs true).bind fun ⟨b0_made', b0_rest', b0_met', b1_code', b1_has', b1_key', b1_val', b1_pairs'⟩ =>
        some (b0_made', b0_rest', b0_met', b1_code', b1_has', b1_key', b1_val', b1_peer_id, b1_peer_addr, b1_peers, b1_pairs')
      else
        (fixed_fields_s0 b0_made b0_rest b0_met b1_kind b1_rid b1_code b1_has b1_id b1_key b1_val b1_peer_id b1_peer_addr b1_peers b1_pairs (Ops.std.ieq b1_kind 8)).bind fun ⟨b0_made', b0_rest', b0_met', b1_code', b1_has', b1_key', b1_val', b1_pairs'⟩ =>
        some (b0_made', b0_rest', b0_met', b1_code', b1_has', b1_key', b1_val', b1_peer_id, b1_peer_addr, b1_peers, b1_pairs')
theorem fixed_fields_s1_r {b0_made b0_rest b0_met b1_kind b1_rid b1_code b1_has b1_id b1_key b1_val b1_peer_id b1_peer_addr b1_peers b1_pairs t15 r} (h : fixed_fields_s1_b b0_made b0_rest b0_met b1_kind b1_rid b1_code b1_has b1_id b1_key b1_val b1_peer_id b1_peer_addr b1_peers b1_pairs t15 = some r) : fixed_fields_s1 b0_made b0_rest b0_met b1_kind b1_rid b1_code b1_has b1_id b1_key b1_val b1_peer_id b1_peer_addr b1_peers b1_pairs t15 = some r := by
  unfold fixed_fields_s1_b at h
  refine asks_of fun γ => ?_
  rcases cond_some h with ⟨h1, h⟩ | ⟨h1, h⟩
  obtain ⟨r2, h2, h⟩ := bind_ask h
  rcases r2 with ⟨res, b0_made1, b0_rest1, b0_met1⟩
  rcases cond_some h with ⟨h3, h⟩ | ⟨h3, h⟩
  rcases cond_some h with ⟨h4, h⟩ | ⟨h4, h⟩
  obtain ⟨r5, h5, h⟩ := bind_ask h
  rcases r5 with ⟨res1, b0_made2, b0_rest2, b0_met2⟩
  obtain ⟨r6, γ3, h6, h⟩ := bind_asks h (gam [0])
  rcases r6 with ⟨b0_made3, b0_rest3, b0_met3, r1⟩
  cases h; refine ⟨gam [], seg_lim ?_⟩; rotate_left
  obtain ⟨r5, γ2, h5, h⟩ := bind_asks h (gam [0])
  rcases r5 with ⟨b0_made2, b0_rest2, b0_met2, r1⟩
  cases h; refine ⟨gam [], seg_lim ?_⟩; rotate_left
  obtain ⟨r4, γ2, h4, h⟩ := bind_asks h (gam [0])
  rcases r4 with ⟨b0_made2, b0_rest2, b0_met2, r1⟩
  cases h; refine ⟨gam [], seg_lim ?_⟩; rotate_left
  rcases cond_some h with ⟨h2, h⟩ | ⟨h2, h⟩
  obtain ⟨r3, h3, h⟩ := bind_ask h
  rcases r3 with ⟨res, b0_made1, b0_rest1, b0_met1⟩
  cases h; refine ⟨gam [], seg_lim ?_⟩; rotate_left
  rcases cond_some h with ⟨h3, h⟩ | ⟨h3, h⟩
  obtain ⟨r4, γ1, h4, h⟩ := bind_asks h (gam [])
  rcases r4 with ⟨b0_made', b0_rest', b0_met', b1_code', b1_has', b1_key', b1_val', b1_pairs'⟩
  cases h; refine ⟨gam [], seg_lim ?_⟩; rotate_left
  obtain ⟨r4, γ1, h4, h⟩ := bind_asks h (gam [])
  rcases r4 with ⟨b0_made', b0_rest', b0_met', b1_code', b1_has', b1_key', b1_val', b1_pairs'⟩
  cases h; refine ⟨gam [], seg_lim ?_⟩; rotate_left
  all_goals (dsimp only [buf_Reader_Flag_e, fixed_fields_s0_x, fixed_fields_s1_x, fixed_peer_e, fixed_peers_e] at *; show Ifc.apart IF_ _ (b63_1F b63_0) _ = _; generalize b63_0 = c0 at *; exact fin_)
noncomputable def fixed_fields_s0_b (b0_made : Bool) (b0_rest : List Int) (b0_met : Int) (b1_kind : Int) (b1_rid : Int) (b1_code : Int) (b1_has : Bool) (b1_id : Int) (b1_key : ByteArray) (b1_val : ByteArray) (b1_peer_id : Int) (b1_peer_addr : Int) (b1_peers : List Peer) (b1_pairs : List Pair) (t51 : Bool) : Option (fixed_fields_s0_T) :=
  bif t51 then
    (fixed_text 1 96 b0_made b0_rest b0_met).bind fun ⟨res, b0_made1, b0_rest1, b0_met1⟩ =>
    bif Ops.std.ieq b1_kind 7 then
      (fixed_text 2 512 b0_made1 b0_rest1 b0_met1).bind fun ⟨res1, b0_made2, b0_rest2, b0_met2⟩ =>
      some (b0_made2, b0_rest2, b0_met2, b1_code, b1_has, res, res1, b1_pairs)
    else
      some (b0_made1, b0_rest1, b0_met1, b1_code, b1_has, res, b1_val, b1_pairs)
  else
    bif Ops.std.ieq b1_kind 9 then
      (buf_Reader_Flag b0_made b0_rest b0_met).bind fun ⟨res, b0_made1, b0_rest1, b0_met1⟩ =>
      bif res then
        (fixed_text 2 512 b0_made1 b0_rest1 b0_met1).bind fun ⟨res1, b0_made2, b0_rest2, b0_met2⟩ =>
        some (b0_made2, b0_rest2, b0_met2, b1_code, true, b1_key, res1, b1_pairs)
      else
        some (b0_made1, b0_rest1, b0_met1, b1_code, false, b1_key, b1_val, b1_pairs)
    else
      bif Ops.std.ieq b1_kind 10 then
        (buf_Reader_Flag b0_made b0_rest b0_met).bind fun ⟨res, b0_made1, b0_rest1, b0_met1⟩ =>
        (fixed_pairs b0_made1 b0_rest1 b0_met1).bind fun ⟨b0_made2, b0_rest2, b0_met2, r1⟩ =>
        some (b0_made2, b0_rest2, b0_met2, b1_code, res, b1_key, b1_val, r1)
      else
        bif Ops.std.ieq b1_kind 12 then
          (buf_Reader_Fix 1 b0_made b0_rest b0_met).bind fun ⟨res, b0_made1, b0_rest1, b0_met1⟩ =>
          some (b0_made1, b0_rest1, b0_met1, Ops.std.iwrap .u8 res, b1_has, b1_key, b1_val, b1_pairs)
        else
          some (b0_made, b0_rest, b0_met, b1_code, b1_has, b1_key, b1_val, b1_pairs)
theorem fixed_fields_s0_r {b0_made b0_rest b0_met b1_kind b1_rid b1_code b1_has b1_id b1_key b1_val b1_peer_id b1_peer_addr b1_peers b1_pairs t51 r} (h : fixed_fields_s0_b b0_made b0_rest b0_met b1_kind b1_rid b1_code b1_has b1_id b1_key b1_val b1_peer_id b1_peer_addr b1_peers b1_pairs t51 = some r) : fixed_fields_s0 b0_made b0_rest b0_met b1_kind b1_rid b1_code b1_has b1_id b1_key b1_val b1_peer_id b1_peer_addr b1_peers b1_pairs t51 = some r := by
  unfold fixed_fields_s0_b at h
  refine asks_of fun γ => ?_
  rcases cond_some h with ⟨h1, h⟩ | ⟨h1, h⟩
  obtain ⟨r2, h2, h⟩ := bind_ask h
  rcases r2 with ⟨res, b0_made1, b0_rest1, b0_met1⟩
  rcases cond_some h with ⟨h3, h⟩ | ⟨h3, h⟩
  obtain ⟨r4, h4, h⟩ := bind_ask h
  rcases r4 with ⟨res1, b0_made2, b0_rest2, b0_met2⟩
  cases h; refine ⟨gam [], seg_lim ?_⟩; rotate_left
  cases h; refine ⟨gam [], seg_lim ?_⟩; rotate_left
  rcases cond_some h with ⟨h2, h⟩ | ⟨h2, h⟩
  obtain ⟨r3, h3, h⟩ := bind_ask h
  rcases r3 with ⟨res, b0_made1, b0_rest1, b0_met1⟩
  rcases cond_some h with ⟨h4, h⟩ | ⟨h4, h⟩
  obtain ⟨r5, h5, h⟩ := bind_ask h
  rcases r5 with ⟨res1, b0_made2, b0_rest2, b0_met2⟩
  cases h; refine ⟨gam [], seg_lim ?_⟩; rotate_left
  cases h; refine ⟨gam [], seg_lim ?_⟩; rotate_left
  rcases cond_some h with ⟨h3, h⟩ | ⟨h3, h⟩
  obtain ⟨r4, h4, h⟩ := bind_ask h
  rcases r4 with ⟨res, b0_made1, b0_rest1, b0_met1⟩
  obtain ⟨r5, γ2, h5, h⟩ := bind_asks h (gam [0])
  rcases r5 with ⟨b0_made2, b0_rest2, b0_met2, r1⟩
  cases h; refine ⟨gam [], seg_lim ?_⟩; rotate_left
  rcases cond_some h with ⟨h4, h⟩ | ⟨h4, h⟩
  obtain ⟨r5, h5, h⟩ := bind_ask h
  rcases r5 with ⟨res, b0_made1, b0_rest1, b0_met1⟩
  cases h; refine ⟨gam [], seg_lim ?_⟩; rotate_left
  cases h; refine ⟨gam [], seg_lim ?_⟩; rotate_left
  all_goals (dsimp only [buf_Reader_Fix_e, buf_Reader_Flag_e, fixed_fields_s0_x, fixed_pairs_e, fixed_text_e] at *; show Ifc.apart IF_ _ b63_0F _ = _; exact fin_)
noncomputable def fixed_fields_b (b0_made : Bool) (b0_rest : List Int) (b0_met : Int) (b1_kind : Int) (b1_rid : Int) (b1_code : Int) (b1_has : Bool) (b1_id : Int) (b1_key : ByteArray) (b1_val : ByteArray) (b1_peer_id : Int) (b1_peer_addr : Int) (b1_peers : List Peer) (b1_pairs : List Pair) : Option (fixed_fields_T) :=
  bif Ops.std.ieq b1_kind 1 then
    (buf_Reader_Fix 8 b0_made b0_rest b0_met).bind fun ⟨res, b0_made1, b0_rest1, b0_met1⟩ =>
    some (b0_made1, b0_rest1, b0_met1, b1_code, b1_has, res, b1_key, b1_val, b1_peer_id, b1_peer_addr, b1_peers, b1_pairs)
  else
    bif Ops.std.ieq b1_kind 2 then
      (fixed_fields_s1 b0_made b0_rest b0_met b1_kind b1_rid b1_code b1_has b1_id b1_key b1_val b1_peer_id b1_peer_addr b1_peers b1_pairs true).bind fun ⟨b0_made', b0_rest', b0_met', b1_code', b1_has', b1_key', b1_val', b1_peer_id', b1_peer_addr', b1_peers', b1_pairs'⟩ =>
      some (b0_made', b0_rest', b0_met', b1_code', b1_has', b1_id, b1_key', b1_val', b1_peer_id', b1_peer_addr', b1_peers', b1_pairs')
    else
      (fixed_fields_s1 b0_made b0_rest b0_met b1_kind b1_rid b1_code b1_has b1_id b1_key b1_val b1_peer_id b1_peer_addr b1_peers b1_pairs (Ops.std.ieq b1_kind 4)).bind fun ⟨b0_made', b0_rest', b0_met', b1_code', b1_has', b1_key', b1_val', b1_peer_id', b1_peer_addr', b1_peers', b1_pairs'⟩ =>
      some (b0_made', b0_rest', b0_met', b1_code', b1_has', b1_id, b1_key', b1_val', b1_peer_id', b1_peer_addr', b1_peers', b1_pairs')
theorem fixed_fields_r {b0_made b0_rest b0_met b1_kind b1_rid b1_code b1_has b1_id b1_key b1_val b1_peer_id b1_peer_addr b1_peers b1_pairs r} (h : fixed_fields_b b0_made b0_rest b0_met b1_kind b1_rid b1_code b1_has b1_id b1_key b1_val b1_peer_id b1_peer_addr b1_peers b1_pairs = some r) : fixed_fields b0_made b0_rest b0_met b1_kind b1_rid b1_code b1_has b1_id b1_key b1_val b1_peer_id b1_peer_addr b1_peers b1_pairs = some r := by
  unfold fixed_fields_b at h
  refine ask_of ?_
  rcases cond_some h with ⟨h1, h⟩ | ⟨h1, h⟩
  obtain ⟨r2, h2, h⟩ := bind_ask h
  rcases r2 with ⟨res, b0_made1, b0_rest1, b0_met1⟩
  cases h; refine call_lim rfl ?_; rotate_left
  rcases cond_some h with ⟨h2, h⟩ | ⟨h2, h⟩
  obtain ⟨r3, γ1, h3, h⟩ := bind_asks h (gam [])
  rcases r3 with ⟨b0_made', b0_rest', b0_met', b1_code', b1_has', b1_key', b1_val', b1_peer_id', b1_peer_addr', b1_peers', b1_pairs'⟩
  cases h; refine call_lim rfl ?_; rotate_left
  obtain ⟨r3, γ1, h3, h⟩ := bind_asks h (gam [])
  rcases r3 with ⟨b0_made', b0_rest', b0_met', b1_code', b1_has', b1_key', b1_val', b1_peer_id', b1_peer_addr', b1_peers', b1_pairs'⟩
  cases h; refine call_lim rfl ?_; rotate_left
  all_goals (dsimp only [buf_Reader_Fix_e, fixed_fields_e, fixed_fields_s1_x] at *; show runFn IF_ (g63F b63_1) _ _ = _; generalize b63_1 = c0 at *; exact fin_)
noncomputable def buf_Reader_End_b (b0_made : Bool) (b0_rest : List Int) (b0_met : Int) : Option ((Int × Bool)) :=
  (buf_Reader_Err b0_made b0_rest b0_met).bind fun ⟨res, b0_made1⟩ =>
  bif Ops.std.ieq res 0 then
    bif Ops.std.ilt 0 (xlen vB b0_rest) then some (4, b0_made1) else
    some (0, b0_made1)
  else
    some (res, b0_made1)
theorem buf_Reader_End_r {b0_made b0_rest b0_met r} (h : buf_Reader_End_b b0_made b0_rest b0_met = some r) : buf_Reader_End b0_made b0_rest b0_met = some r := by
  unfold buf_Reader_End_b at h
  refine ask_of ?_
  obtain ⟨r1, h1, h⟩ := bind_ask h
  rcases r1 with ⟨res, b0_made1⟩
  rcases cond_some h with ⟨h2, h⟩ | ⟨h2, h⟩
  rcases cond_some h with ⟨h3, h⟩ | ⟨h3, h⟩
  cases h; refine call_lim rfl ?_; rotate_left
  cases h; refine call_lim rfl ?_; rotate_left
  cases h; refine call_lim rfl ?_; rotate_left
  all_goals (dsimp only [buf_Reader_End_e, buf_Reader_Err_e] at *; show runFn IF_ g64F _ _ = _; exact fin_)
noncomputable def r08_Peers_l0_x (γ : Nat → Nat) : Unit ⊕ Unit → X × St
  | .inl () => (.ret, ⟨bd 4 (vF false :: bd 21 []), []⟩)
  | .inr () => (.brk 0, ⟨bd 26 [], []⟩)
instance : InjS r08_Peers_l0_x := ⟨fun γ γ' x y h => by
  rcases x with _ | _ <;> rcases y with _ | _ <;> simp only [r08_Peers_l0_x] at h <;> exact inj_⟩
noncomputable def r08_Peers_l0 (a : List Peer) (b : List Peer) (i : Int) : Option (Unit ⊕ Unit) := asks (fun γ => (lim F pr).loop [0, 1, 5] 0 b72_0 ⟨.lit 46 false (List.map ePeer a) :: .lit 46 false (List.map ePeer b) :: bd 3 (vI i :: bd 20 []), []⟩) r08_Peers_l0_x
noncomputable def r08_Peers_l0_b (a : List Peer) (b : List Peer) (i : Int) : Option (Unit ⊕ Unit) :=
  bif Ops.std.ilt i (xlen ePeer a) then
    (xget ePeer a i).bind fun x =>
    (xget ePeer b i).bind fun x1 =>
    bif Ops.std.ieq x.id x1.id then
      bif Ops.std.ieq x.addr x1.addr then r08_Peers_l0 a b (Ops.std.iadd .i64 i 1) else
      some (.inl ())
    else
      some (.inl ())
  else
    some (.inr ())
theorem r08_Peers_l0_r {a b i r} (h : r08_Peers_l0_b a b i = some r) : r08_Peers_l0 a b i = some r := by
  unfold r08_Peers_l0_b at h
  refine asks_of fun γ => ?_
  rcases cond_some h with ⟨h1, h⟩ | ⟨h1, h⟩
  obtain ⟨x, h2, h⟩ := bind_ask h
  obtain ⟨x1, h3, h⟩ := bind_ask h
  rcases cond_some h with ⟨h4, h⟩ | ⟨h4, h⟩
  rcases cond_some h with ⟨h5, h⟩ | ⟨h5, h⟩
  replace h := asks_some h (gam []); obtain ⟨γ', h0⟩ := h; refine ⟨γ', round_lim ?_⟩; rotate_left
  cases h; refine ⟨gam [], round_lim ?_⟩; rotate_left
  cases h; refine ⟨gam [], round_lim ?_⟩; rotate_left
  cases h; refine ⟨gam [], round_lim ?_⟩; rotate_left
  all_goals (dsimp only [r08_Peers_l0_x] at *; show roundAs IF_ _ _ b72_0 b72_0F _ = _; generalize b72_0 = c0 at *; exact fin_)
noncomputable def r08_Peers_b (a : List Peer) (b : List Peer) : Option (Bool) :=
  bif Ops.std.ieq (xlen ePeer a) (xlen ePeer b) then
    (r08_Peers_l0 a b 0).bind fun r => match r with
      | .inl () =>
        some false
      | .inr () =>
        some true
  else
    some false
theorem r08_Peers_r {a b r} (h : r08_Peers_b a b = some r) : r08_Peers a b = some r := by
  unfold r08_Peers_b at h
  refine ask_of ?_
  rcases cond_some h with ⟨h1, h⟩ | ⟨h1, h⟩
  obtain ⟨r2, γ1, h2, h⟩ := bind_asks h (gam [])
  rcases r2 with _ | _
  cases h; refine call_lim rfl ?_; rotate_left
  cases h; refine call_lim rfl ?_; rotate_left
  cases h; refine call_lim rfl ?_; rotate_left
  all_goals (dsimp only [R1, r08_Peers_l0_x] at *; show runFn IF_ (g72F b72_0) _ _ = _; generalize b72_0 = c0 at *; exact fin_)
noncomputable def r08_Pairs_l0_x (γ : Nat → Nat) : Unit ⊕ Unit → X × St
  | .inl () => (.ret, ⟨bd 4 (vF false :: bd 21 []), []⟩)
  | .inr () => (.brk 0, ⟨bd 26 [], []⟩)
instance : InjS r08_Pairs_l0_x := ⟨fun γ γ' x y h => by
  rcases x with _ | _ <;> rcases y with _ | _ <;> simp only [r08_Pairs_l0_x] at h <;> exact inj_⟩
noncomputable def r08_Pairs_l0 (a : List Pair) (b : List Pair) (i : Int) : Option (Unit ⊕ Unit) := asks (fun γ => (lim F pr).loop [0, 1, 5] 0 b16_0 ⟨.lit 41 false (List.map ePair a) :: .lit 41 false (List.map ePair b) :: bd 3 (vI i :: bd 20 []), []⟩) r08_Pairs_l0_x
noncomputable def r08_Pairs_l0_b (a : List Pair) (b : List Pair) (i : Int) : Option (Unit ⊕ Unit) :=
  bif Ops.std.ilt i (xlen ePair a) then
    (xget ePair a i).bind fun x =>
    (xget ePair b i).bind fun x1 =>
    bif Ops.std.seq x.key x1.key then
      bif Ops.std.seq x.val x1.val then r08_Pairs_l0 a b (Ops.std.iadd .i64 i 1) else
      some (.inl ())
    else
      some (.inl ())
  else
    some (.inr ())
theorem r08_Pairs_l0_r {a b i r} (h : r08_Pairs_l0_b a b i = some r) : r08_Pairs_l0 a b i = some r := by
  unfold r08_Pairs_l0_b at h
  refine asks_of fun γ => ?_
  rcases cond_some h with ⟨h1, h⟩ | ⟨h1, h⟩
  obtain ⟨x, h2, h⟩ := bind_ask h
  obtain ⟨x1, h3, h⟩ := bind_ask h
  rcases cond_some h with ⟨h4, h⟩ | ⟨h4, h⟩
  rcases cond_some h with ⟨h5, h⟩ | ⟨h5, h⟩
  replace h := asks_some h (gam []); obtain ⟨γ', h0⟩ := h; refine ⟨γ', round_lim ?_⟩; rotate_left
  cases h; refine ⟨gam [], round_lim ?_⟩; rotate_left
  cases h; refine ⟨gam [], round_lim ?_⟩; rotate_left
  cases h; refine ⟨gam [], round_lim ?_⟩; rotate_left
  all_goals (dsimp only [r08_Pairs_l0_x] at *; show roundAs IF_ _ _ b16_0 b16_0F _ = _; generalize b16_0 = c0 at *; exact fin_)
noncomputable def r08_Pairs_b (a : List Pair) (b : List Pair) : Option (Bool) :=
  bif Ops.std.ieq (xlen ePair a) (xlen ePair b) then
    (r08_Pairs_l0 a b 0).bind fun r => match r with
      | .inl () =>
        some false
      | .inr () =>
        some true
  else
    some false
theorem r08_Pairs_r {a b r} (h : r08_Pairs_b a b = some r) : r08_Pairs a b = some r := by
  unfold r08_Pairs_b at h
  refine ask_of ?_
  rcases cond_some h with ⟨h1, h⟩ | ⟨h1, h⟩
  obtain ⟨r2, γ1, h2, h⟩ := bind_asks h (gam [])
  rcases r2 with _ | _
  cases h; refine call_lim rfl ?_; rotate_left
  cases h; refine call_lim rfl ?_; rotate_left
  cases h; refine call_lim rfl ?_; rotate_left
  all_goals (dsimp only [R1, r08_Pairs_l0_x] at *; show runFn IF_ (g16F b16_0) _ _ = _; generalize b16_0 = c0 at *; exact fin_)
noncomputable def msg_fields_b (m : Msg) : Option (Int) :=
  (msg_of m.kind).bind fun res =>
  bif Ops.std.ieq (Ops.std.ibit .and .i64 res.fields 256) 0 then some (Ops.std.ibit .andNot .i64 res.fields 256) else
  bif m.has then some (Ops.std.ibit .andNot .i64 res.fields 256) else
  some (Ops.std.ibit .andNot .i64 (Ops.std.ibit .andNot .i64 res.fields 72) 256)
theorem msg_fields_r {m r} (h : msg_fields_b m = some r) : msg_fields m = some r := by
  unfold msg_fields_b at h
  refine ask_of ?_
  obtain ⟨res, h1, h⟩ := bind_ask h
  rcases cond_some h with ⟨h2, h⟩ | ⟨h2, h⟩
  cases h; refine call_lim rfl ?_; rotate_left
  rcases cond_some h with ⟨h3, h⟩ | ⟨h3, h⟩
  cases h; refine call_lim rfl ?_; rotate_left
  cases h; refine call_lim rfl ?_; rotate_left
  all_goals (dsimp only [R1] at *; show runFn IF_ g85F _ _ = _; (try dsimp only [ePeer, ePair, eMsg, eBuf_Reader, eAnnuletref06_Cur, eMsg_kind] at *); (try simp only [List.map_cons, List.map_nil] at *); (try generalize m.has = q0 at *); exact fin_)
abbrev msg_Bare_s2_T := (Int × Bool × Int × ByteArray × ByteArray × Int × Int × (List Peer) × (List Pair) × Int × Bool × Int × ByteArray × ByteArray × Int × Int × (List Peer) × (List Pair))
noncomputable def msg_Bare_s2_x (m : Msg) (γ : Nat → Nat) : msg_Bare_s2_T → X × St
  | (a0, a1, a2, a3, a4, a5, a6, a7, a8, a9, a10, a11, a12, a13, a14, a15, a16, a17) => (.ret, ⟨bd 2 (.bptr 1 0 :: bd 60 []), [.box 49 [vI m.kind, vW m.rid, vB m.code, vF m.has, vU m.id, vT m.key, vT m.val, vU m.peer.id, vH m.peer.addr, .lit 46 false (List.map ePeer m.peers), .lit 41 false (List.map ePair m.pairs)], .box 49 [vI m.kind, vW m.rid, vB a0, vF a1, vU a2, vT a3, vT a4, vU a5, vH a6, .lit 46 false (List.map ePeer a7), .lit 41 false (List.map ePair a8)], .box 49 [vI m.kind, vW m.rid, vB a9, vF a10, vU a11, vT a12, vT a13, vU a14, vH a15, .lit 46 false (List.map ePeer a16), .lit 41 false (List.map ePair a17)]]⟩)
instance {m} : InjS (msg_Bare_s2_x m) := ⟨fun γ γ' x y h => by
  rcases x with ⟨a0, a1, a2, a3, a4, a5, a6, a7, a8, a9, a10, a11, a12, a13, a14, a15, a16, a17⟩ <;> rcases y with ⟨a0', a1', a2', a3', a4', a5', a6', a7', a8', a9', a10', a11', a12', a13', a14', a15', a16', a17'⟩ <;> simp only [msg_Bare_s2_x] at h <;> exact inj_⟩
noncomputable def msg_Bare_s2 (m : Msg) (f : Int) (b2_code : Int) (b2_has : Bool) : Option (msg_Bare_s2_T) := asks (fun γ => (lim F pr).seg [2] b87_2 ⟨bd 1 (.bptr 0 0 :: .bptr 1 0 :: vI f :: .bptr 2 0 :: bd 58 []), [.box 49 [vI m.kind, vW m.rid, vB m.code, vF m.has, vU m.id, vT m.key, vT m.val, vU m.peer.id, vH m.peer.addr, .lit 46 false (List.map ePeer m.peers), .lit 41 false (List.map ePair m.pairs)], .box 49 [vI 0, vW 0, vB 0, vF false, vU 0, vT ⟨#[]⟩, vT ⟨#[]⟩, vU 0, vH 0, .lit 0 true [], .lit 0 true []], .box 49 [vI m.kind, vW m.rid, vB b2_code, vF b2_has, vU 0, vT ⟨#[]⟩, vT ⟨#[]⟩, vU 0, vH 0, .lit 46 false (List.map ePeer []), .lit 41 false (List.map ePair [])]]⟩) (msg_Bare_s2_x m)
abbrev msg_Bare_s1_T := (Int × Bool × Int × ByteArray × ByteArray × Int × Int × (List Peer) × (List Pair) × Int × Bool × Int × ByteArray × ByteArray × Int × Int × (List Peer) × (List Pair))
noncomputable def msg_Bare_s1_x (m : Msg) (γ : Nat → Nat) : msg_Bare_s1_T → X × St
  | (a0, a1, a2, a3, a4, a5, a6, a7, a8, a9, a10, a11, a12, a13, a14, a15, a16, a17) => (.ret, ⟨bd 2 (.bptr 1 0 :: bd 60 []), [.box 49 [vI m.kind, vW m.rid, vB m.code, vF m.has, vU m.id, vT m.key, vT m.val, vU m.peer.id, vH m.peer.addr, .lit 46 false (List.map ePeer m.peers), .lit 41 false (List.map ePair m.pairs)], .box 49 [vI m.kind, vW m.rid, vB a0, vF a1, vU a2, vT a3, vT a4, vU a5, vH a6, .lit 46 false (List.map ePeer a7), .lit 41 false (List.map ePair a8)], .box 49 [vI m.kind, vW m.rid, vB a9, vF a10, vU a11, vT a12, vT a13, vU a14, vH a15, .lit 46 false (List.map ePeer a16), .lit 41 false (List.map ePair a17)]]⟩)
instance {m} : InjS (msg_Bare_s1_x m) := ⟨fun γ γ' x y h => by
  rcases x with ⟨a0, a1, a2, a3, a4, a5, a6, a7, a8, a9, a10, a11, a12, a13, a14, a15, a16, a17⟩ <;> rcases y with ⟨a0', a1', a2', a3', a4', a5', a6', a7', a8', a9', a10', a11', a12', a13', a14', a15', a16', a17'⟩ <;> simp only [msg_Bare_s1_x] at h <;> exact inj_⟩
noncomputable def msg_Bare_s1 (m : Msg) (f : Int) (b2_code : Int) (b2_has : Bool) (b2_id : Int) (b2_peer_id : Int) (b2_peer_addr : Int) : Option (msg_Bare_s1_T) := asks (fun γ => (lim F pr).seg [2] b87_1 ⟨bd 1 (.bptr 0 0 :: .bptr 1 0 :: vI f :: .bptr 2 0 :: bd 58 []), [.box 49 [vI m.kind, vW m.rid, vB m.code, vF m.has, vU m.id, vT m.key, vT m.val, vU m.peer.id, vH m.peer.addr, .lit 46 false (List.map ePeer m.peers), .lit 41 false (List.map ePair m.pairs)], .box 49 [vI 0, vW 0, vB 0, vF false, vU 0, vT ⟨#[]⟩, vT ⟨#[]⟩, vU 0, vH 0, .lit 0 true [], .lit 0 true []], .box 49 [vI m.kind, vW m.rid, vB b2_code, vF b2_has, vU b2_id, vT ⟨#[]⟩, vT ⟨#[]⟩, vU b2_peer_id, vH b2_peer_addr, .lit 46 false (List.map ePeer []), .lit 41 false (List.map ePair [])]]⟩) (msg_Bare_s1_x m)
abbrev msg_Bare_s0_T := (Int × Bool × Int × ByteArray × ByteArray × Int × Int × (List Pair) × Int × Bool × Int × ByteArray × ByteArray × Int × Int × (List Pair)) ⊕ (Int × Bool × Int × ByteArray × ByteArray × Int × Int × (List Pair) × Int × Bool × Int × ByteArray × ByteArray × Int × Int × (List Pair))
noncomputable def msg_Bare_s0_x (m : Msg) (γ : Nat → Nat) : msg_Bare_s0_T → X × St
  | .inl (a0, a1, a2, a3, a4, a5, a6, a7, a8, a9, a10, a11, a12, a13, a14, a15) => (.ret, ⟨bd 2 (.bptr 1 0 :: bd 60 []), [.box 49 [vI m.kind, vW m.rid, vB m.code, vF m.has, vU m.id, vT m.key, vT m.val, vU m.peer.id, vH m.peer.addr, .lit 46 false (List.map ePeer m.peers), .lit 41 false (List.map ePair m.pairs)], .box 49 [vI m.kind, vW m.rid, vB a0, vF a1, vU a2, vT a3, vT a4, vU a5, vH a6, .lit 46 false (List.map ePeer []), .lit 41 false (List.map ePair a7)], .box 49 [vI m.kind, vW m.rid, vB a8, vF a9, vU a10, vT a11, vT a12, vU a13, vH a14, .lit 46 false (List.map ePeer []), .lit 41 false (List.map ePair a15)]]⟩)
  | .inr (b0, b1, b2, b3, b4, b5, b6, b7, b8, b9, b10, b11, b12, b13, b14, b15) => (.ret, ⟨bd 2 (.bptr 1 0 :: bd 60 []), [.box 49 [vI m.kind, vW m.rid, vB m.code, vF m.has, vU m.id, vT m.key, vT m.val, vU m.peer.id, vH m.peer.addr, .lit 46 false (List.map ePeer m.peers), .lit 41 false (List.map ePair m.pairs)], .box 49 [vI m.kind, vW m.rid, vB b0, vF b1, vU b2, vT b3, vT b4, vU b5, vH b6, .lit 46 false (List.map ePeer m.peers), .lit 41 false (List.map ePair b7)], .box 49 [vI m.kind, vW m.rid, vB b8, vF b9, vU b10, vT b11, vT b12, vU b13, vH b14, .lit 46 false (List.map ePeer m.peers), .lit 41 false (List.map ePair b15)], .row 46 (γ 3) true (List.map ePeer m.peers)]⟩)
instance {m} : InjS (msg_Bare_s0_x m) := ⟨fun γ γ' x y h => by
  rcases x with ⟨a0, a1, a2, a3, a4, a5, a6, a7, a8, a9, a10, a11, a12, a13, a14, a15⟩ | ⟨b0, b1, b2, b3, b4, b5, b6, b7, b8, b9, b10, b11, b12, b13, b14, b15⟩ <;> rcases y with ⟨a0', a1', a2', a3', a4', a5', a6', a7', a8', a9', a10', a11', a12', a13', a14', a15'⟩ | ⟨b0', b1', b2', b3', b4', b5', b6', b7', b8', b9', b10', b11', b12', b13', b14', b15'⟩ <;> simp only [msg_Bare_s0_x] at h <;> exact inj_⟩
noncomputable def msg_Bare_s0 (m : Msg) (f : Int) (b2_code : Int) (b2_has : Bool) (b2_id : Int) (b2_key : ByteArray) (b2_peer_id : Int) (b2_peer_addr : Int) : Option (msg_Bare_s0_T) := asks (fun γ => (lim F pr).seg [2] b87_0 ⟨bd 1 (.bptr 0 0 :: .bptr 1 0 :: vI f :: .bptr 2 0 :: bd 58 []), [.box 49 [vI m.kind, vW m.rid, vB m.code, vF m.has, vU m.id, vT m.key, vT m.val, vU m.peer.id, vH m.peer.addr, .lit 46 false (List.map ePeer m.peers), .lit 41 false (List.map ePair m.pairs)], .box 49 [vI 0, vW 0, vB 0, vF false, vU 0, vT ⟨#[]⟩, vT ⟨#[]⟩, vU 0, vH 0, .lit 0 true [], .lit 0 true []], .box 49 [vI m.kind, vW m.rid, vB b2_code, vF b2_has, vU b2_id, vT b2_key, vT ⟨#[]⟩, vU b2_peer_id, vH b2_peer_addr, .lit 46 false (List.map ePeer []), .lit 41 false (List.map ePair [])]]⟩) (msg_Bare_s0_x m)
noncomputable def msg_Bare_s0_1 (m : Msg) (f : Int) (b2_code : Int) (b2_has : Bool) (b2_id : Int) (b2_key : ByteArray) (b2_peer_id : Int) (b2_peer_addr : Int) : Option (msg_Bare_s0_T) := asks (fun γ => (lim F pr).seg [2] b87_0 ⟨bd 1 (.bptr 0 0 :: .bptr 1 0 :: vI f :: .bptr 2 0 :: bd 58 []), [.box 49 [vI m.kind, vW m.rid, vB m.code, vF m.has, vU m.id, vT m.key, vT m.val, vU m.peer.id, vH m.peer.addr, .lit 46 false (List.map ePeer m.peers), .lit 41 false (List.map ePair m.pairs)], .box 49 [vI 0, vW 0, vB 0, vF false, vU 0, vT ⟨#[]⟩, vT ⟨#[]⟩, vU 0, vH 0, .lit 0 true [], .lit 0 true []], .box 49 [vI m.kind, vW m.rid, vB b2_code, vF b2_has, vU b2_id, vT b2_key, vT ⟨#[]⟩, vU b2_peer_id, vH b2_peer_addr, .lit 46 false (List.map ePeer m.peers), .lit 41 false (List.map ePair [])], .row 46 (γ 3) true (List.map ePeer m.peers)]⟩) (msg_Bare_s0_x m)
noncomputable def msg_Bare_s2_b (m : Msg) (f : Int) (b2_code : Int) (b2_has : Bool) : Option (msg_Bare_s2_T) :=
  bif Ops.std.ieq (Ops.std.ibit .and .i64 f 4) 0 then
    bif Ops.std.ieq (Ops.std.ibit .and .i64 f 8) 0 then msg_Bare_s1 m f b2_code b2_has 0 0 0 else
    msg_Bare_s1 m f b2_code b2_has 0 m.peer.id m.peer.addr
  else
    bif Ops.std.ieq (Ops.std.ibit .and .i64 f 8) 0 then msg_Bare_s1 m f b2_code b2_has m.id 0 0 else
    msg_Bare_s1 m f b2_code b2_has m.id m.peer.id m.peer.addr
theorem msg_Bare_s2_r {m f b2_code b2_has r} (h : msg_Bare_s2_b m f b2_code b2_has = some r) : msg_Bare_s2 m f b2_code b2_has = some r := by
  unfold msg_Bare_s2_b at h
  refine asks_of fun γ => ?_
  rcases cond_some h with ⟨h1, h⟩ | ⟨h1, h⟩
  rcases cond_some h with ⟨h2, h⟩ | ⟨h2, h⟩
  obtain ⟨γ1, h3⟩ := asks_some h (gam [])
  rcases r with ⟨b1_code, b1_has, b1_id, b1_key, b1_val, b1_peer_id, b1_peer_addr, b1_peers, b1_pairs, b2_code1, b2_has1, b2_id, b2_key, b2_val, b2_peer_id, b2_peer_addr, b2_peers, b2_pairs⟩
  refine ⟨gam [], seg_lim ?_⟩; rotate_left
  obtain ⟨γ1, h3⟩ := asks_some h (gam [])
  rcases r with ⟨b1_code, b1_has, b1_id, b1_key, b1_val, b1_peer_id, b1_peer_addr, b1_peers, b1_pairs, b2_code1, b2_has1, b2_id, b2_key, b2_val, b2_peer_id, b2_peer_addr, b2_peers, b2_pairs⟩
  refine ⟨gam [], seg_lim ?_⟩; rotate_left
  rcases cond_some h with ⟨h2, h⟩ | ⟨h2, h⟩
  obtain ⟨γ1, h3⟩ := asks_some h (gam [])
  rcases r with ⟨b1_code, b1_has, b1_id, b1_key, b1_val, b1_peer_id, b1_peer_addr, b1_peers, b1_pairs, b2_code1, b2_has1, b2_id, b2_key, b2_val, b2_peer_id, b2_peer_addr, b2_peers, b2_pairs⟩
  refine ⟨gam [], seg_lim ?_⟩; rotate_left
  obtain ⟨γ1, h3⟩ := asks_some h (gam [])
  rcases r with ⟨b1_code, b1_has, b1_id, b1_key, b1_val, b1_peer_id, b1_peer_addr, b1_peers, b1_pairs, b2_code1, b2_has1, b2_id, b2_key, b2_val, b2_peer_id, b2_peer_addr, b2_peers, b2_pairs⟩
  refine ⟨gam [], seg_lim ?_⟩; rotate_left
  all_goals (dsimp only [msg_Bare_s1_x, msg_Bare_s2_x] at *; show Ifc.apart IF_ _ (b87_2F b87_1) _ = _; generalize b87_1 = c0 at *; exact fin_)
noncomputable def msg_Bare_s1_b (m : Msg) (f : Int) (b2_code : Int) (b2_has : Bool) (b2_id : Int) (b2_peer_id : Int) (b2_peer_addr : Int) : Option (msg_Bare_s1_T) :=
  bif Ops.std.ieq (Ops.std.ibit .and .i64 f 16) 0 then
    bif Ops.std.ieq (Ops.std.ibit .and .i64 f 32) 0 then
      (msg_Bare_s0 m f b2_code b2_has b2_id ⟨#[]⟩ b2_peer_id b2_peer_addr).bind fun r => match r with
        | .inl (b1_code, b1_has, b1_id, b1_key, b1_val, b1_peer_id, b1_peer_addr, b1_pairs, b2_code1, b2_has1, b2_id1, b2_key, b2_val, b2_peer_id1, b2_peer_addr1, b2_pairs) =>
          some (b1_code, b1_has, b1_id, b1_key, b1_val, b1_peer_id, b1_peer_addr, [], b1_pairs, b2_code1, b2_has1, b2_id1, b2_key, b2_val, b2_peer_id1, b2_peer_addr1, [], b2_pairs)
        | .inr (b1_code, b1_has, b1_id, b1_key, b1_val, b1_peer_id, b1_peer_addr, b1_pairs, b2_code1, b2_has1, b2_id1, b2_key, b2_val, b2_peer_id1, b2_peer_addr1, b2_pairs) =>
          some (b1_code, b1_has, b1_id, b1_key, b1_val, b1_peer_id, b1_peer_addr, m.peers, b1_pairs, b2_code1, b2_has1, b2_id1, b2_key, b2_val, b2_peer_id1, b2_peer_addr1, m.peers, b2_pairs)
    else
      (msg_Bare_s0 m f b2_code b2_has b2_id m.key b2_peer_id b2_peer_addr).bind fun r => match r with
        | .inl (b1_code, b1_has, b1_id, b1_key, b1_val, b1_peer_id, b1_peer_addr, b1_pairs, b2_code1, b2_has1, b2_id1, b2_key, b2_val, b2_peer_id1, b2_peer_addr1, b2_pairs) =>
          some (b1_code, b1_has, b1_id, b1_key, b1_val, b1_peer_id, b1_peer_addr, [], b1_pairs, b2_code1, b2_has1, b2_id1, b2_key, b2_val, b2_peer_id1, b2_peer_addr1, [], b2_pairs)
        | .inr (b1_code, b1_has, b1_id, b1_key, b1_val, b1_peer_id, b1_peer_addr, b1_pairs, b2_code1, b2_has1, b2_id1, b2_key, b2_val, b2_peer_id1, b2_peer_addr1, b2_pairs) =>
          some (b1_code, b1_has, b1_id, b1_key, b1_val, b1_peer_id, b1_peer_addr, m.peers, b1_pairs, b2_code1, b2_has1, b2_id1, b2_key, b2_val, b2_peer_id1, b2_peer_addr1, m.peers, b2_pairs)
  else
    bif xroom ePeer 16 [] m.peers then
      bif Ops.std.ieq (Ops.std.ibit .and .i64 f 32) 0 then
        (msg_Bare_s0_1 m f b2_code b2_has b2_id ⟨#[]⟩ b2_peer_id b2_peer_addr).bind fun r => match r with
          | .inl (b1_code, b1_has, b1_id, b1_key, b1_val, b1_peer_id, b1_peer_addr, b1_pairs, b2_code1, b2_has1, b2_id1, b2_key, b2_val, b2_peer_id1, b2_peer_addr1, b2_pairs) =>
            some (b1_code, b1_has, b1_id, b1_key, b1_val, b1_peer_id, b1_peer_addr, [], b1_pairs, b2_code1, b2_has1, b2_id1, b2_key, b2_val, b2_peer_id1, b2_peer_addr1, [], b2_pairs)
          | .inr (b1_code, b1_has, b1_id, b1_key, b1_val, b1_peer_id, b1_peer_addr, b1_pairs, b2_code1, b2_has1, b2_id1, b2_key, b2_val, b2_peer_id1, b2_peer_addr1, b2_pairs) =>
            some (b1_code, b1_has, b1_id, b1_key, b1_val, b1_peer_id, b1_peer_addr, m.peers, b1_pairs, b2_code1, b2_has1, b2_id1, b2_key, b2_val, b2_peer_id1, b2_peer_addr1, m.peers, b2_pairs)
      else
        (msg_Bare_s0_1 m f b2_code b2_has b2_id m.key b2_peer_id b2_peer_addr).bind fun r => match r with
          | .inl (b1_code, b1_has, b1_id, b1_key, b1_val, b1_peer_id, b1_peer_addr, b1_pairs, b2_code1, b2_has1, b2_id1, b2_key, b2_val, b2_peer_id1, b2_peer_addr1, b2_pairs) =>
            some (b1_code, b1_has, b1_id, b1_key, b1_val, b1_peer_id, b1_peer_addr, [], b1_pairs, b2_code1, b2_has1, b2_id1, b2_key, b2_val, b2_peer_id1, b2_peer_addr1, [], b2_pairs)
          | .inr (b1_code, b1_has, b1_id, b1_key, b1_val, b1_peer_id, b1_peer_addr, b1_pairs, b2_code1, b2_has1, b2_id1, b2_key, b2_val, b2_peer_id1, b2_peer_addr1, b2_pairs) =>
            some (b1_code, b1_has, b1_id, b1_key, b1_val, b1_peer_id, b1_peer_addr, m.peers, b1_pairs, b2_code1, b2_has1, b2_id1, b2_key, b2_val, b2_peer_id1, b2_peer_addr1, m.peers, b2_pairs)
    else
      none
theorem msg_Bare_s1_r {m f b2_code b2_has b2_id b2_peer_id b2_peer_addr r} (h : msg_Bare_s1_b m f b2_code b2_has b2_id b2_peer_id b2_peer_addr = some r) : msg_Bare_s1 m f b2_code b2_has b2_id b2_peer_id b2_peer_addr = some r := by
  unfold msg_Bare_s1_b at h
  refine asks_of fun γ => ?_
  rcases cond_some h with ⟨h1, h⟩ | ⟨h1, h⟩
  rcases cond_some h with ⟨h2, h⟩ | ⟨h2, h⟩
  obtain ⟨r3, γ1, h3, h⟩ := bind_asks h (gam [])
  rcases r3 with ⟨b1_code, b1_has, b1_id, b1_key, b1_val, b1_peer_id, b1_peer_addr, b1_pairs, b2_code1, b2_has1, b2_id1, b2_key, b2_val, b2_peer_id1, b2_peer_addr1, b2_pairs⟩ | ⟨b1_code, b1_has, b1_id, b1_key, b1_val, b1_peer_id, b1_peer_addr, b1_pairs, b2_code1, b2_has1, b2_id1, b2_key, b2_val, b2_peer_id1, b2_peer_addr1, b2_pairs⟩
  cases h; refine ⟨gam [], seg_lim ?_⟩; rotate_left
  cases h; refine ⟨gam [], seg_lim ?_⟩; rotate_left
  obtain ⟨r3, γ1, h3, h⟩ := bind_asks h (gam [])
  rcases r3 with ⟨b1_code, b1_has, b1_id, b1_key, b1_val, b1_peer_id, b1_peer_addr, b1_pairs, b2_code1, b2_has1, b2_id1, b2_key, b2_val, b2_peer_id1, b2_peer_addr1, b2_pairs⟩ | ⟨b1_code, b1_has, b1_id, b1_key, b1_val, b1_peer_id, b1_peer_addr, b1_pairs, b2_code1, b2_has1, b2_id1, b2_key, b2_val, b2_peer_id1, b2_peer_addr1, b2_pairs⟩
  cases h; refine ⟨gam [], seg_lim ?_⟩; rotate_left
  cases h; refine ⟨gam [], seg_lim ?_⟩; rotate_left
  obtain ⟨h2, h⟩ := need_some h
  rcases cond_some h with ⟨h3, h⟩ | ⟨h3, h⟩
  obtain ⟨r4, γ1, h4, h⟩ := bind_asks h (gam [0, 0, 0, 0])
  rcases r4 with ⟨b1_code, b1_has, b1_id, b1_key, b1_val, b1_peer_id, b1_peer_addr, b1_pairs, b2_code1, b2_has1, b2_id1, b2_key, b2_val, b2_peer_id1, b2_peer_addr1, b2_pairs⟩ | ⟨b1_code, b1_has, b1_id, b1_key, b1_val, b1_peer_id, b1_peer_addr, b1_pairs, b2_code1, b2_has1, b2_id1, b2_key, b2_val, b2_peer_id1, b2_peer_addr1, b2_pairs⟩
  cases h; refine ⟨gam [], seg_lim ?_⟩; rotate_left
  cases h; refine ⟨gam [], seg_lim ?_⟩; rotate_left
  obtain ⟨r4, γ1, h4, h⟩ := bind_asks h (gam [0, 0, 0, 0])
  rcases r4 with ⟨b1_code, b1_has, b1_id, b1_key, b1_val, b1_peer_id, b1_peer_addr, b1_pairs, b2_code1, b2_has1, b2_id1, b2_key, b2_val, b2_peer_id1, b2_peer_addr1, b2_pairs⟩ | ⟨b1_code, b1_has, b1_id, b1_key, b1_val, b1_peer_id, b1_peer_addr, b1_pairs, b2_code1, b2_has1, b2_id1, b2_key, b2_val, b2_peer_id1, b2_peer_addr1, b2_pairs⟩
  cases h; refine ⟨gam [], seg_lim ?_⟩; rotate_left
  cases h; refine ⟨gam [], seg_lim ?_⟩; rotate_left
  all_goals (dsimp only [msg_Bare_s0_x, msg_Bare_s1_x] at *; show Ifc.apart IF_ _ (b87_1F b87_0) _ = _; generalize b87_0 = c0 at *; exact fin_)
noncomputable def msg_Bare_s0_b (m : Msg) (f : Int) (b2_code : Int) (b2_has : Bool) (b2_id : Int) (b2_key : ByteArray) (b2_peer_id : Int) (b2_peer_addr : Int) : Option (msg_Bare_s0_T) :=
  bif Ops.std.ieq (Ops.std.ibit .and .i64 f 64) 0 then
    bif Ops.std.ieq (Ops.std.ibit .and .i64 f 128) 0 then
      some (.inl (b2_code, b2_has, b2_id, b2_key, ⟨#[]⟩, b2_peer_id, b2_peer_addr, [], b2_code, b2_has, b2_id, b2_key, ⟨#[]⟩, b2_peer_id, b2_peer_addr, []))
    else
      bif xroom ePair 32 [] m.pairs then
        some (.inl (b2_code, b2_has, b2_id, b2_key, ⟨#[]⟩, b2_peer_id, b2_peer_addr, m.pairs, b2_code, b2_has, b2_id, b2_key, ⟨#[]⟩, b2_peer_id, b2_peer_addr, m.pairs))
      else
        none
  else
    bif Ops.std.ieq (Ops.std.ibit .and .i64 f 128) 0 then
      some (.inl (b2_code, b2_has, b2_id, b2_key, m.val, b2_peer_id, b2_peer_addr, [], b2_code, b2_has, b2_id, b2_key, m.val, b2_peer_id, b2_peer_addr, []))
    else
      bif xroom ePair 32 [] m.pairs then
        some (.inl (b2_code, b2_has, b2_id, b2_key, m.val, b2_peer_id, b2_peer_addr, m.pairs, b2_code, b2_has, b2_id, b2_key, m.val, b2_peer_id, b2_peer_addr, m.pairs))
      else
        none
theorem msg_Bare_s0_r {m f b2_code b2_has b2_id b2_key b2_peer_id b2_peer_addr r} (h : msg_Bare_s0_b m f b2_code b2_has b2_id b2_key b2_peer_id b2_peer_addr = some r) : msg_Bare_s0 m f b2_code b2_has b2_id b2_key b2_peer_id b2_peer_addr = some r := by
  unfold msg_Bare_s0_b at h
  refine asks_of fun γ => ?_
  rcases cond_some h with ⟨h1, h⟩ | ⟨h1, h⟩
  rcases cond_some h with ⟨h2, h⟩ | ⟨h2, h⟩
  cases h; refine ⟨gam [], seg_lim ?_⟩; rotate_left
  obtain ⟨h3, h⟩ := need_some h
  cases h; refine ⟨gam [], seg_lim ?_⟩; rotate_left
  rcases cond_some h with ⟨h2, h⟩ | ⟨h2, h⟩
  cases h; refine ⟨gam [], seg_lim ?_⟩; rotate_left
  obtain ⟨h3, h⟩ := need_some h
  cases h; refine ⟨gam [], seg_lim ?_⟩; rotate_left
  all_goals (dsimp only [msg_Bare_s0_x] at *; show Ifc.apart IF_ _ b87_0F _ = _; exact fin_)
noncomputable def msg_Bare_s0_1_b (m : Msg) (f : Int) (b2_code : Int) (b2_has : Bool) (b2_id : Int) (b2_key : ByteArray) (b2_peer_id : Int) (b2_peer_addr : Int) : Option (msg_Bare_s0_T) :=
  bif Ops.std.ieq (Ops.std.ibit .and .i64 f 64) 0 then
    bif Ops.std.ieq (Ops.std.ibit .and .i64 f 128) 0 then
      some (.inr (b2_code, b2_has, b2_id, b2_key, ⟨#[]⟩, b2_peer_id, b2_peer_addr, [], b2_code, b2_has, b2_id, b2_key, ⟨#[]⟩, b2_peer_id, b2_peer_addr, []))
    else
      bif xroom ePair 32 [] m.pairs then
        some (.inr (b2_code, b2_has, b2_id, b2_key, ⟨#[]⟩, b2_peer_id, b2_peer_addr, m.pairs, b2_code, b2_has, b2_id, b2_key, ⟨#[]⟩, b2_peer_id, b2_peer_addr, m.pairs))
      else
        none
  else
    bif Ops.std.ieq (Ops.std.ibit .and .i64 f 128) 0 then
      some (.inr (b2_code, b2_has, b2_id, b2_key, m.val, b2_peer_id, b2_peer_addr, [], b2_code, b2_has, b2_id, b2_key, m.val, b2_peer_id, b2_peer_addr, []))
    else
      bif xroom ePair 32 [] m.pairs then
        some (.inr (b2_code, b2_has, b2_id, b2_key, m.val, b2_peer_id, b2_peer_addr, m.pairs, b2_code, b2_has, b2_id, b2_key, m.val, b2_peer_id, b2_peer_addr, m.pairs))
      else
        none
theorem msg_Bare_s0_1_r {m f b2_code b2_has b2_id b2_key b2_peer_id b2_peer_addr r} (h : msg_Bare_s0_1_b m f b2_code b2_has b2_id b2_key b2_peer_id b2_peer_addr = some r) : msg_Bare_s0_1 m f b2_code b2_has b2_id b2_key b2_peer_id b2_peer_addr = some r := by
  unfold msg_Bare_s0_1_b at h
  refine asks_of fun γ => ?_
  rcases cond_some h with ⟨h1, h⟩ | ⟨h1, h⟩
  rcases cond_some h with ⟨h2, h⟩ | ⟨h2, h⟩
  cases h; refine ⟨gam [0, 0, 0, (γ 3)], seg_lim ?_⟩; rotate_left
  obtain ⟨h3, h⟩ := need_some h
  cases h; refine ⟨gam [0, 0, 0, (γ 3)], seg_lim ?_⟩; rotate_left
  rcases cond_some h with ⟨h2, h⟩ | ⟨h2, h⟩
  cases h; refine ⟨gam [0, 0, 0, (γ 3)], seg_lim ?_⟩; rotate_left
  obtain ⟨h3, h⟩ := need_some h
  cases h; refine ⟨gam [0, 0, 0, (γ 3)], seg_lim ?_⟩; rotate_left
  all_goals (dsimp only [msg_Bare_s0_x] at *; show Ifc.apart IF_ _ b87_0F _ = _; exact fin_)
noncomputable def msg_Bare_b (m : Msg) : Option (Msg) :=
  (msg_fields m).bind fun res =>
  bif Ops.std.ieq (Ops.std.ibit .and .i64 res 1) 0 then
    bif Ops.std.ieq (Ops.std.ibit .and .i64 res 2) 0 then
      (msg_Bare_s2 m res 0 false).bind fun ⟨b1_code, b1_has, b1_id, b1_key, b1_val, b1_peer_id, b1_peer_addr, b1_peers, b1_pairs, b2_code, b2_has, b2_id, b2_key, b2_val, b2_peer_id, b2_peer_addr, b2_peers, b2_pairs⟩ =>
      some (⟨m.kind, m.rid, b1_code, b1_has, b1_id, b1_key, b1_val, (⟨b1_peer_id, b1_peer_addr⟩ : Peer), b1_peers, b1_pairs⟩ : Msg)
    else
      (msg_Bare_s2 m res 0 m.has).bind fun ⟨b1_code, b1_has, b1_id, b1_key, b1_val, b1_peer_id, b1_peer_addr, b1_peers, b1_pairs, b2_code, b2_has, b2_id, b2_key, b2_val, b2_peer_id, b2_peer_addr, b2_peers, b2_pairs⟩ =>
      some (⟨m.kind, m.rid, b1_code, b1_has, b1_id, b1_key, b1_val, (⟨b1_peer_id, b1_peer_addr⟩ : Peer), b1_peers, b1_pairs⟩ : Msg)
  else
    bif Ops.std.ieq (Ops.std.ibit .and .i64 res 2) 0 then
      (msg_Bare_s2 m res m.code false).bind fun ⟨b1_code, b1_has, b1_id, b1_key, b1_val, b1_peer_id, b1_peer_addr, b1_peers, b1_pairs, b2_code, b2_has, b2_id, b2_key, b2_val, b2_peer_id, b2_peer_addr, b2_peers, b2_pairs⟩ =>
      some (⟨m.kind, m.rid, b1_code, b1_has, b1_id, b1_key, b1_val, (⟨b1_peer_id, b1_peer_addr⟩ : Peer), b1_peers, b1_pairs⟩ : Msg)
    else
      (msg_Bare_s2 m res m.code m.has).bind fun ⟨b1_code, b1_has, b1_id, b1_key, b1_val, b1_peer_id, b1_peer_addr, b1_peers, b1_pairs, b2_code, b2_has, b2_id, b2_key, b2_val, b2_peer_id, b2_peer_addr, b2_peers, b2_pairs⟩ =>
      some (⟨m.kind, m.rid, b1_code, b1_has, b1_id, b1_key, b1_val, (⟨b1_peer_id, b1_peer_addr⟩ : Peer), b1_peers, b1_pairs⟩ : Msg)
theorem msg_Bare_r {m r} (h : msg_Bare_b m = some r) : msg_Bare m = some r := by
  unfold msg_Bare_b at h
  refine ask_of ?_
  obtain ⟨res, h1, h⟩ := bind_ask h
  rcases cond_some h with ⟨h2, h⟩ | ⟨h2, h⟩
  rcases cond_some h with ⟨h3, h⟩ | ⟨h3, h⟩
  obtain ⟨r4, γ2, h4, h⟩ := bind_asks h (gam [])
  rcases r4 with ⟨b1_code, b1_has, b1_id, b1_key, b1_val, b1_peer_id, b1_peer_addr, b1_peers, b1_pairs, b2_code, b2_has, b2_id, b2_key, b2_val, b2_peer_id, b2_peer_addr, b2_peers, b2_pairs⟩
  cases h; refine call_lim rfl ?_; rotate_left
  obtain ⟨r4, γ2, h4, h⟩ := bind_asks h (gam [])
  rcases r4 with ⟨b1_code, b1_has, b1_id, b1_key, b1_val, b1_peer_id, b1_peer_addr, b1_peers, b1_pairs, b2_code, b2_has, b2_id, b2_key, b2_val, b2_peer_id, b2_peer_addr, b2_peers, b2_pairs⟩
  cases h; refine call_lim rfl ?_; rotate_left
  rcases cond_some h with ⟨h3, h⟩ | ⟨h3, h⟩
  obtain ⟨r4, γ2, h4, h⟩ := bind_asks h (gam [])
  rcases r4 with ⟨b1_code, b1_has, b1_id, b1_key, b1_val, b1_peer_id, b1_peer_addr, b1_peers, b1_pairs, b2_code, b2_has, b2_id, b2_key, b2_val, b2_peer_id, b2_peer_addr, b2_peers, b2_pairs⟩
  cases h; refine call_lim rfl ?_; rotate_left
  obtain ⟨r4, γ2, h4, h⟩ := bind_asks h (gam [])
  rcases r4 with ⟨b1_code, b1_has, b1_id, b1_key, b1_val, b1_peer_id, b1_peer_addr, b1_peers, b1_pairs, b2_code, b2_has, b2_id, b2_key, b2_val, b2_peer_id, b2_peer_addr, b2_peers, b2_pairs⟩
  cases h; refine call_lim rfl ?_; rotate_left
  all_goals (dsimp only [R1, msg_Bare_s2_x] at *; show runFn IF_ (g87F b87_2) _ _ = _; generalize b87_2 = c0 at *; exact fin_)
end Go.Ab.Tryd
namespace Go.Ab.Tryd
open Go Go.Ab Go.Proofs
set_option linter.unusedVariables false
set_option linter.unusedSimpArgs false
set_option maxRecDepth 10000
set_option maxHeartbeats 4000000
noncomputable def msg_Same_s0_x (a : Msg) (b : Msg) (γ : Nat → Nat) : Bool → X × St
  | a0 => (.ret, ⟨bd 4 (vF a0 :: bd 70 []), [.box 49 [vI a.kind, vW a.rid, vB a.code, vF a.has, vU a.id, vT a.key, vT a.val, vU a.peer.id, vH a.peer.addr, .lit 46 false (List.map ePeer a.peers), .lit 41 false (List.map ePair a.pairs)], .box 49 [vI b.kind, vW b.rid, vB b.code, vF b.has, vU b.id, vT b.key, vT b.val, vU b.peer.id, vH b.peer.addr, .lit 46 false (List.map ePeer b.peers), .lit 41 false (List.map ePair b.pairs)]]⟩)
instance {a b} : InjS (msg_Same_s0_x a b) := ⟨fun γ γ' x y h => by
  rcases x with a0 <;> rcases y with a0' <;> simp only [msg_Same_s0_x] at h <;> exact inj_⟩
noncomputable def msg_Same_s0 (a : Msg) (b : Msg) (plain : Bool) : Option (Bool) := asks (fun γ => (lim F pr).seg [4] b86_0 ⟨bd 2 (.bptr 0 0 :: .bptr 1 0 :: bd 1 (vF plain :: bd 69 [])), [.box 49 [vI a.kind, vW a.rid, vB a.code, vF a.has, vU a.id, vT a.key, vT a.val, vU a.peer.id, vH a.peer.addr, .lit 46 false (List.map ePeer a.peers), .lit 41 false (List.map ePair a.pairs)], .box 49 [vI b.kind, vW b.rid, vB b.code, vF b.has, vU b.id, vT b.key, vT b.val, vU b.peer.id, vH b.peer.addr, .lit 46 false (List.map ePeer b.peers), .lit 41 false (List.map ePair b.pairs)]]⟩) (msg_Same_s0_x a b)
noncomputable def msg_Same_s0_b (a : Msg) (b : Msg) (plain : Bool) : Option (Bool) :=
  bif plain then
    bif Ops.std.seq a.key b.key then
      bif Ops.std.seq a.val b.val then
        bif Ops.std.ieq a.peer.id b.peer.id then
          bif Ops.std.ieq a.peer.addr b.peer.addr then
            (Equal_Peer a.peers b.peers).bind fun res =>
            bif res then Equal_Pair a.pairs b.pairs else
            some false
          else
            some false
        else
          some false
      else
        some false
    else
      some false
  else
    some false
theorem msg_Same_s0_r {a b plain r} (h : msg_Same_s0_b a b plain = some r) : msg_Same_s0 a b plain = some r := by
  unfold msg_Same_s0_b at h
  refine asks_of fun γ => ?_
  rcases cond_some h with ⟨h1, h⟩ | ⟨h1, h⟩
  rcases cond_some h with ⟨h2, h⟩ | ⟨h2, h⟩
  rcases cond_some h with ⟨h3, h⟩ | ⟨h3, h⟩
  rcases cond_some h with ⟨h4, h⟩ | ⟨h4, h⟩
  rcases cond_some h with ⟨h5, h⟩ | ⟨h5, h⟩
  obtain ⟨res, h6, h⟩ := bind_ask h
  rcases cond_some h with ⟨h7, h⟩ | ⟨h7, h⟩
  have h8 := ask_some h
  rcases r with res1
  refine ⟨gam [], seg_lim ?_⟩; rotate_left
  cases h; refine ⟨gam [], seg_lim ?_⟩; rotate_left
  cases h; refine ⟨gam [], seg_lim ?_⟩; rotate_left
  cases h; refine ⟨gam [], seg_lim ?_⟩; rotate_left
  cases h; refine ⟨gam [], seg_lim ?_⟩; rotate_left
  cases h; refine ⟨gam [], seg_lim ?_⟩; rotate_left
  cases h; refine ⟨gam [], seg_lim ?_⟩; rotate_left
  all_goals (dsimp only [R1, msg_Same_s0_x] at *; show Ifc.apart IF_ _ b86_0F _ = _; exact fin_)
noncomputable def msg_Same_b (a : Msg) (b : Msg) : Option (Bool) :=
  bif Ops.std.ieq a.kind b.kind then
    bif Ops.std.ieq a.rid b.rid then
      bif Ops.std.ieq a.code b.code then
        bif Ops.std.beq a.has b.has then msg_Same_s0 a b (Ops.std.ieq a.id b.id) else
        msg_Same_s0 a b false
      else
        msg_Same_s0 a b false
    else
      msg_Same_s0 a b false
  else
    msg_Same_s0 a b false
theorem msg_Same_r {a b r} (h : msg_Same_b a b = some r) : msg_Same a b = some r := by
  unfold msg_Same_b at h
  refine ask_of ?_
  rcases cond_some h with ⟨h1, h⟩ | ⟨h1, h⟩
  rcases cond_some h with ⟨h2, h⟩ | ⟨h2, h⟩
  rcases cond_some h with ⟨h3, h⟩ | ⟨h3, h⟩
  rcases cond_some h with ⟨h4, h⟩ | ⟨h4, h⟩
  obtain ⟨γ1, h5⟩ := asks_some h (gam [])
  rcases r with t4
  refine call_lim rfl ?_; rotate_left
  obtain ⟨γ1, h5⟩ := asks_some h (gam [])
  rcases r with t4
  refine call_lim rfl ?_; rotate_left
  obtain ⟨γ1, h4⟩ := asks_some h (gam [])
  rcases r with t4
  refine call_lim rfl ?_; rotate_left
  obtain ⟨γ1, h3⟩ := asks_some h (gam [])
  rcases r with t4
  refine call_lim rfl ?_; rotate_left
  obtain ⟨γ1, h2⟩ := asks_some h (gam [])
  rcases r with t4
  refine call_lim rfl ?_; rotate_left
  all_goals (dsimp only [R1, msg_Same_s0_x] at *; show runFn IF_ (g86F b86_0) _ _ = _; generalize b86_0 = c0 at *; exact fin_)
noncomputable def msg_text_b (m : Msg) (f : Int) : Option (Bool) :=
  bif Ops.std.ieq (Ops.std.ibit .and .i64 f 32) 0 then
    (ContainsFunc_Pair m.pairs).bind fun res =>
    some (!res)
  else
    (msg_Key m.key).bind fun res =>
    bif res then
      (ContainsFunc_Pair m.pairs).bind fun res1 =>
      some (!res1)
    else
      some false
theorem msg_text_r {m f r} (h : msg_text_b m f = some r) : msg_text m f = some r := by
  unfold msg_text_b at h
  refine ask_of ?_
  rcases cond_some h with ⟨h1, h⟩ | ⟨h1, h⟩
  obtain ⟨res, h2, h⟩ := bind_ask h
  cases h; refine call_lim rfl ?_; rotate_left
  obtain ⟨res, h2, h⟩ := bind_ask h
  rcases cond_some h with ⟨h3, h⟩ | ⟨h3, h⟩
  obtain ⟨res1, h4, h⟩ := bind_ask h
  cases h; refine call_lim rfl ?_; rotate_left
  cases h; refine call_lim rfl ?_; rotate_left
  all_goals (dsimp only [R1] at *; show runFn IF_ g88F _ _ = _; exact fin_)
noncomputable def msg_long_b (m : Msg) : Option (Bool) :=
  bif Ops.std.ilt 512 (Ops.std.slen m.val) then some true else
  bif Ops.std.ilt 16 (xlen ePeer m.peers) then some true else
  bif Ops.std.ilt 8 (xlen ePair m.pairs) then some true else
  ContainsFunc_Pair_1 m.pairs
theorem msg_long_r {m r} (h : msg_long_b m = some r) : msg_long m = some r := by
  unfold msg_long_b at h
  refine ask_of ?_
  rcases cond_some h with ⟨h1, h⟩ | ⟨h1, h⟩
  cases h; refine call_lim rfl ?_; rotate_left
  rcases cond_some h with ⟨h2, h⟩ | ⟨h2, h⟩
  cases h; refine call_lim rfl ?_; rotate_left
  rcases cond_some h with ⟨h3, h⟩ | ⟨h3, h⟩
  cases h; refine call_lim rfl ?_; rotate_left
  have h4 := ask_some h
  rcases r with res
  refine call_lim rfl ?_; rotate_left
  all_goals (dsimp only [R1] at *; show runFn IF_ g89F _ _ = _; exact fin_)
noncomputable def msg_short_b (m : Msg) : Option (Bool) :=
  bif Ops.std.ieq m.kind 2 then some (Ops.std.ieq (xlen ePeer m.peers) 0) else
  bif Ops.std.ieq m.kind 10 then some (Ops.std.ieq (xlen ePair m.pairs) 0) else
  bif Ops.std.ieq m.kind 12 then some (Ops.std.ieq m.code 0) else
  some false
theorem msg_short_r {m r} (h : msg_short_b m = some r) : msg_short m = some r := by
  unfold msg_short_b at h
  refine ask_of ?_
  rcases cond_some h with ⟨h1, h⟩ | ⟨h1, h⟩
  cases h; refine call_lim rfl ?_; rotate_left
  rcases cond_some h with ⟨h2, h⟩ | ⟨h2, h⟩
  cases h; refine call_lim rfl ?_; rotate_left
  rcases cond_some h with ⟨h3, h⟩ | ⟨h3, h⟩
  cases h; refine call_lim rfl ?_; rotate_left
  cases h; refine call_lim rfl ?_; rotate_left
  all_goals (dsimp only [R1] at *; show runFn IF_ g90F _ _ = _; exact fin_)
noncomputable def msg_of_b (k : Int) : Option (Msg_kind) :=
  (msg_kinds).bind fun res =>
  bif Ops.std.ilt k 0 then
    (xget eMsg_kind res 0).bind fun x =>
    some x
  else
    bif Ops.std.ile (xlen eMsg_kind res) k then
      (xget eMsg_kind res 0).bind fun x =>
      some x
    else
      (xget eMsg_kind res k).bind fun x =>
      some x
theorem msg_of_r {k r} (h : msg_of_b k = some r) : msg_of k = some r := by
  unfold msg_of_b at h
  refine ask_of ?_
  obtain ⟨res, h1, h⟩ := bind_ask h
  rcases cond_some h with ⟨h2, h⟩ | ⟨h2, h⟩
  obtain ⟨x, h3, h⟩ := bind_ask h
  cases h; refine call_lim rfl ?_; rotate_left
  rcases cond_some h with ⟨h3, h⟩ | ⟨h3, h⟩
  obtain ⟨x, h4, h⟩ := bind_ask h
  cases h; refine call_lim rfl ?_; rotate_left
  obtain ⟨x, h4, h⟩ := bind_ask h
  cases h; refine call_lim rfl ?_; rotate_left
  all_goals (dsimp only [R1] at *; show runFn IF_ g102F _ _ = _; exact fin_)
noncomputable def Equal_Peer_l0_x (γ : Nat → Nat) : Unit ⊕ Unit → X × St
  | .inl () => (.ret, ⟨bd 4 (vF false :: bd 21 []), []⟩)
  | .inr () => (.brk 0, ⟨bd 26 [], []⟩)
instance : InjS Equal_Peer_l0_x := ⟨fun γ γ' x y h => by
  rcases x with _ | _ <;> rcases y with _ | _ <;> simp only [Equal_Peer_l0_x] at h <;> exact inj_⟩
noncomputable def Equal_Peer_l0 (s1 : List Peer) (s2 : List Peer) (t13 : Int) : Option (Unit ⊕ Unit) := asks (fun γ => (lim F pr).loop [12, 0, 1, 13] 0 b115_0 ⟨.lit 46 false (List.map ePeer s1) :: .lit 46 false (List.map ePeer s2) :: bd 10 (vI (xlen ePeer s1) :: vI t13 :: bd 12 []), []⟩) Equal_Peer_l0_x
noncomputable def Equal_Peer_l0_b (s1 : List Peer) (s2 : List Peer) (t13 : Int) : Option (Unit ⊕ Unit) :=
  bif Ops.std.ilt t13 (xlen ePeer s1) then
    (xget ePeer s1 t13).bind fun x =>
    (xget ePeer s2 t13).bind fun x1 =>
    bif Ops.std.ieq x.id x1.id then
      bif Ops.std.ieq x.addr x1.addr then Equal_Peer_l0 s1 s2 (Ops.std.iadd .i64 t13 1) else
      some (.inl ())
    else
      some (.inl ())
  else
    some (.inr ())
theorem Equal_Peer_l0_r {s1 s2 t13 r} (h : Equal_Peer_l0_b s1 s2 t13 = some r) : Equal_Peer_l0 s1 s2 t13 = some r := by
  unfold Equal_Peer_l0_b at h
  refine asks_of fun γ => ?_
  rcases cond_some h with ⟨h1, h⟩ | ⟨h1, h⟩
  obtain ⟨x, h2, h⟩ := bind_ask h
  obtain ⟨x1, h3, h⟩ := bind_ask h
  rcases cond_some h with ⟨h4, h⟩ | ⟨h4, h⟩
  rcases cond_some h with ⟨h5, h⟩ | ⟨h5, h⟩
  replace h := asks_some h (gam []); obtain ⟨γ', h0⟩ := h; refine ⟨γ', round_lim ?_⟩; rotate_left
  cases h; refine ⟨gam [], round_lim ?_⟩; rotate_left
  cases h; refine ⟨gam [], round_lim ?_⟩; rotate_left
  cases h; refine ⟨gam [], round_lim ?_⟩; rotate_left
  all_goals (dsimp only [Equal_Peer_l0_x] at *; show roundAs IF_ _ _ b115_0 b115_0F _ = _; generalize b115_0 = c0 at *; exact fin_)
noncomputable def Equal_Peer_b (s1 : List Peer) (s2 : List Peer) : Option (Bool) :=
  bif Ops.std.ieq (xlen ePeer s1) (xlen ePeer s2) then
    (Equal_Peer_l0 s1 s2 0).bind fun r => match r with
      | .inl () =>
        some false
      | .inr () =>
        some true
  else
    some false
theorem Equal_Peer_r {s1 s2 r} (h : Equal_Peer_b s1 s2 = some r) : Equal_Peer s1 s2 = some r := by
  unfold Equal_Peer_b at h
  refine ask_of ?_
  rcases cond_some h with ⟨h1, h⟩ | ⟨h1, h⟩
  obtain ⟨r2, γ1, h2, h⟩ := bind_asks h (gam [])
  rcases r2 with _ | _
  cases h; refine call_lim rfl ?_; rotate_left
  cases h; refine call_lim rfl ?_; rotate_left
  cases h; refine call_lim rfl ?_; rotate_left
  all_goals (dsimp only [Equal_Peer_l0_x, R1] at *; show runFn IF_ (g115F b115_0) _ _ = _; generalize b115_0 = c0 at *; exact fin_)
noncomputable def Equal_Pair_l0_x (γ : Nat → Nat) : Unit ⊕ Unit → X × St
  | .inl () => (.ret, ⟨bd 4 (vF false :: bd 21 []), []⟩)
  | .inr () => (.brk 0, ⟨bd 26 [], []⟩)
instance : InjS Equal_Pair_l0_x := ⟨fun γ γ' x y h => by
  rcases x with _ | _ <;> rcases y with _ | _ <;> simp only [Equal_Pair_l0_x] at h <;> exact inj_⟩
noncomputable def Equal_Pair_l0 (s1 : List Pair) (s2 : List Pair) (t13 : Int) : Option (Unit ⊕ Unit) := asks (fun γ => (lim F pr).loop [12, 0, 1, 13] 0 b116_0 ⟨.lit 41 false (List.map ePair s1) :: .lit 41 false (List.map ePair s2) :: bd 10 (vI (xlen ePair s1) :: vI t13 :: bd 12 []), []⟩) Equal_Pair_l0_x
noncomputable def Equal_Pair_l0_b (s1 : List Pair) (s2 : List Pair) (t13 : Int) : Option (Unit ⊕ Unit) :=
  bif Ops.std.ilt t13 (xlen ePair s1) then
    (xget ePair s1 t13).bind fun x =>
    (xget ePair s2 t13).bind fun x1 =>
    bif Ops.std.seq x.key x1.key then
      bif Ops.std.seq x.val x1.val then Equal_Pair_l0 s1 s2 (Ops.std.iadd .i64 t13 1) else
      some (.inl ())
    else
      some (.inl ())
  else
    some (.inr ())
theorem Equal_Pair_l0_r {s1 s2 t13 r} (h : Equal_Pair_l0_b s1 s2 t13 = some r) : Equal_Pair_l0 s1 s2 t13 = some r := by
  unfold Equal_Pair_l0_b at h
  refine asks_of fun γ => ?_
  rcases cond_some h with ⟨h1, h⟩ | ⟨h1, h⟩
  obtain ⟨x, h2, h⟩ := bind_ask h
  obtain ⟨x1, h3, h⟩ := bind_ask h
  rcases cond_some h with ⟨h4, h⟩ | ⟨h4, h⟩
  rcases cond_some h with ⟨h5, h⟩ | ⟨h5, h⟩
  replace h := asks_some h (gam []); obtain ⟨γ', h0⟩ := h; refine ⟨γ', round_lim ?_⟩; rotate_left
  cases h; refine ⟨gam [], round_lim ?_⟩; rotate_left
  cases h; refine ⟨gam [], round_lim ?_⟩; rotate_left
  cases h; refine ⟨gam [], round_lim ?_⟩; rotate_left
  all_goals (dsimp only [Equal_Pair_l0_x] at *; show roundAs IF_ _ _ b116_0 b116_0F _ = _; generalize b116_0 = c0 at *; exact fin_)
noncomputable def Equal_Pair_b (s1 : List Pair) (s2 : List Pair) : Option (Bool) :=
  bif Ops.std.ieq (xlen ePair s1) (xlen ePair s2) then
    (Equal_Pair_l0 s1 s2 0).bind fun r => match r with
      | .inl () =>
        some false
      | .inr () =>
        some true
  else
    some false
theorem Equal_Pair_r {s1 s2 r} (h : Equal_Pair_b s1 s2 = some r) : Equal_Pair s1 s2 = some r := by
  unfold Equal_Pair_b at h
  refine ask_of ?_
  rcases cond_some h with ⟨h1, h⟩ | ⟨h1, h⟩
  obtain ⟨r2, γ1, h2, h⟩ := bind_asks h (gam [])
  rcases r2 with _ | _
  cases h; refine call_lim rfl ?_; rotate_left
  cases h; refine call_lim rfl ?_; rotate_left
  cases h; refine call_lim rfl ?_; rotate_left
  all_goals (dsimp only [Equal_Pair_l0_x, R1] at *; show runFn IF_ (g116F b116_0) _ _ = _; generalize b116_0 = c0 at *; exact fin_)
noncomputable def ContainsFunc_Pair_b (s : List Pair) : Option (Bool) :=
  (IndexFunc_Pair s).bind fun res =>
  some (Ops.std.ile 0 res)
theorem ContainsFunc_Pair_r {s r} (h : ContainsFunc_Pair_b s = some r) : ContainsFunc_Pair s = some r := by
  unfold ContainsFunc_Pair_b at h
  refine ask_of ?_
  obtain ⟨res, h1, h⟩ := bind_ask h
  cases h; refine call_lim rfl ?_; rotate_left
  all_goals (dsimp only [R1] at *; show runFn IF_ g118F _ _ = _; exact fin_)
noncomputable def msg_Key_b (s : ByteArray) : Option (Bool) :=
  bif Ops.std.seq s ⟨#[]⟩ then some false else
  bif Ops.std.ile (Ops.std.slen s) 96 then
    (utf_Valid s).bind fun res =>
    bif res then
      (utf_Count s).bind fun res1 =>
      some (Ops.std.ile res1 32)
    else
      some false
  else
    some false
theorem msg_Key_r {s r} (h : msg_Key_b s = some r) : msg_Key s = some r := by
  unfold msg_Key_b at h
  refine ask_of ?_
  rcases cond_some h with ⟨h1, h⟩ | ⟨h1, h⟩
  cases h; refine call_lim rfl ?_; rotate_left
  rcases cond_some h with ⟨h2, h⟩ | ⟨h2, h⟩
  obtain ⟨res, h3, h⟩ := bind_ask h
  rcases cond_some h with ⟨h4, h⟩ | ⟨h4, h⟩
  obtain ⟨res1, h5, h⟩ := bind_ask h
  cases h; refine call_lim rfl ?_; rotate_left
  cases h; refine call_lim rfl ?_; rotate_left
  cases h; refine call_lim rfl ?_; rotate_left
  all_goals (dsimp only [R1] at *; show runFn IF_ g35F _ _ = _; exact fin_)
noncomputable def ContainsFunc_Pair_1_b (s : List Pair) : Option (Bool) :=
  (IndexFunc_Pair_1 s).bind fun res =>
  some (Ops.std.ile 0 res)
theorem ContainsFunc_Pair_1_r {s r} (h : ContainsFunc_Pair_1_b s = some r) : ContainsFunc_Pair_1 s = some r := by
  unfold ContainsFunc_Pair_1_b at h
  refine ask_of ?_
  obtain ⟨res, h1, h⟩ := bind_ask h
  cases h; refine call_lim rfl ?_; rotate_left
  all_goals (dsimp only [R1] at *; show runFn IF_ g118F _ _ = _; exact fin_)
noncomputable def msg_kinds_b : Option ((List Msg_kind)) :=
  some ([(⟨⟨#[63]⟩, 0, []⟩ : Msg_kind), (⟨⟨#[102, 105, 110, 100]⟩, 4, [2, 12]⟩ : Msg_kind), (⟨⟨#[104, 111, 112]⟩, 18, []⟩ : Msg_kind), (⟨⟨#[97, 115, 107]⟩, 0, [4]⟩ : Msg_kind), (⟨⟨#[116, 101, 108, 108]⟩, 282, []⟩ : Msg_kind), (⟨⟨#[110, 111, 116, 101]⟩, 8, [6]⟩ : Msg_kind), (⟨⟨#[111, 107, 97, 121]⟩, 0, []⟩ : Msg_kind), (⟨⟨#[112, 117, 116]⟩, 96, [6, 12]⟩ : Msg_kind), (⟨⟨#[103, 101, 116]⟩, 32, [9, 12]⟩ : Msg_kind), (⟨⟨#[103, 111, 116]⟩, 322, []⟩ : Msg_kind), (⟨⟨#[109, 111, 118, 101]⟩, 130, [6]⟩ : Msg_kind), (⟨⟨#[112, 105, 110, 103]⟩, 0, [6]⟩ : Msg_kind), (⟨⟨#[110, 97, 121]⟩, 1, []⟩ : Msg_kind)])
theorem msg_kinds_r {r} (h : msg_kinds_b = some r) : msg_kinds = some r := by
  unfold msg_kinds_b at h
  refine ask_of ?_
  cases h; refine call_lim rfl ?_; rotate_left
  all_goals (dsimp only [R1] at *; show runFn IF_ g123F _ _ = _; exact fin_)
noncomputable def IndexFunc_Pair_l0_x (γ : Nat → Nat) : Int ⊕ Unit → X × St
  | .inl a0 => (.ret, ⟨bd 4 (vI a0 :: bd 14 []), []⟩)
  | .inr () => (.brk 0, ⟨bd 19 [], []⟩)
instance : InjS IndexFunc_Pair_l0_x := ⟨fun γ γ' x y h => by
  rcases x with a0 | _ <;> rcases y with a0' | _ <;> simp only [IndexFunc_Pair_l0_x] at h <;> exact inj_⟩
noncomputable def IndexFunc_Pair_l0 (s : List Pair) (t8 : Int) : Option (Int ⊕ Unit) := asks (fun γ => (lim F pr).loop [7, 1, 0, 8] 0 b36_0 ⟨.lit 41 false (List.map ePair s) :: .fn 119 [] :: bd 5 (vI (xlen ePair s) :: vI t8 :: bd 10 []), []⟩) IndexFunc_Pair_l0_x
noncomputable def IndexFunc_Pair_l0_b (s : List Pair) (t8 : Int) : Option (Int ⊕ Unit) :=
  bif Ops.std.ilt t8 (xlen ePair s) then
    (xget ePair s t8).bind fun x =>
    (msg_text_1 x).bind fun res =>
    bif res then some (.inl t8) else
    IndexFunc_Pair_l0 s (Ops.std.iadd .i64 t8 1)
  else
    some (.inr ())
theorem IndexFunc_Pair_l0_r {s t8 r} (h : IndexFunc_Pair_l0_b s t8 = some r) : IndexFunc_Pair_l0 s t8 = some r := by
  unfold IndexFunc_Pair_l0_b at h
  refine asks_of fun γ => ?_
  rcases cond_some h with ⟨h1, h⟩ | ⟨h1, h⟩
  obtain ⟨x, h2, h⟩ := bind_ask h
  obtain ⟨res, h3, h⟩ := bind_ask h
  rcases cond_some h with ⟨h4, h⟩ | ⟨h4, h⟩
  cases h; refine ⟨gam [], round_lim ?_⟩; rotate_left
  replace h := asks_some h (gam []); obtain ⟨γ', h0⟩ := h; refine ⟨γ', round_lim ?_⟩; rotate_left
  cases h; refine ⟨gam [], round_lim ?_⟩; rotate_left
  all_goals (dsimp only [IndexFunc_Pair_l0_x, R1] at *; show roundAs IF_ _ _ b36_0 b36_0F _ = _; generalize b36_0 = c0 at *; exact fin_)
noncomputable def IndexFunc_Pair_b (s : List Pair) : Option (Int) :=
  (IndexFunc_Pair_l0 s 0).bind fun r => match r with
    | .inl t4 =>
      some t4
    | .inr () =>
      some (-1)
theorem IndexFunc_Pair_r {s r} (h : IndexFunc_Pair_b s = some r) : IndexFunc_Pair s = some r := by
  unfold IndexFunc_Pair_b at h
  refine ask_of ?_
  obtain ⟨r1, γ1, h1, h⟩ := bind_asks h (gam [])
  rcases r1 with t4 | _
  cases h; refine call_lim rfl ?_; rotate_left
  cases h; refine call_lim rfl ?_; rotate_left
  all_goals (dsimp only [IndexFunc_Pair_l0_x, R1] at *; show runFn IF_ (g36F b36_0) _ _ = _; generalize b36_0 = c0 at *; exact fin_)
noncomputable def utf_Valid_l0_x (s : ByteArray) (γ : Nat → Nat) : Int ⊕ Int → X × St
  | .inl a0 => (.ret, ⟨bd 2 (vF false :: bd 12 []), [.it s a0]⟩)
  | .inr b0 => (.brk 0, ⟨bd 15 [], [.it s b0]⟩)
instance {s} : InjS (utf_Valid_l0_x s) := ⟨fun γ γ' x y h => by
  rcases x with a0 | b0 <;> rcases y with a0' | b0' <;> simp only [utf_Valid_l0_x] at h <;> exact inj_⟩
noncomputable def utf_Valid_l0 (s : ByteArray) (at0 : Int) : Option (Int ⊕ Int) := asks (fun γ => (lim F pr).loop [6, 0] 1 b74_0 ⟨vT s :: bd 5 (.bptr 0 0 :: bd 8 []), [.it s at0]⟩) (utf_Valid_l0_x s)
noncomputable def utf_Valid_l0_b (s : ByteArray) (at0 : Int) : Option (Int ⊕ Int) :=
  xopt (xsdec s at0) (fun ⟨c, nx⟩ =>
    (utf_stray s at0 c).bind fun res =>
    bif res then some (.inl nx) else
    utf_Valid_l0 s nx)
    (some (.inr at0))
theorem utf_Valid_l0_r {s at0 r} (h : utf_Valid_l0_b s at0 = some r) : utf_Valid_l0 s at0 = some r := by
  unfold utf_Valid_l0_b at h
  refine asks_of fun γ => ?_
  rcases xopt_some h with ⟨⟨c, nx⟩, h1, h⟩ | ⟨h1, h⟩
  obtain ⟨res, h2, h⟩ := bind_ask h
  rcases cond_some h with ⟨h3, h⟩ | ⟨h3, h⟩
  cases h; refine ⟨gam [], round_lim ?_⟩; rotate_left
  replace h := asks_some h (gam []); obtain ⟨γ', h0⟩ := h; refine ⟨γ', round_lim ?_⟩; rotate_left
  cases h; refine ⟨gam [], round_lim ?_⟩; rotate_left
  all_goals (dsimp only [R1, utf_Valid_l0_x] at *; show roundAs IF_ _ _ b74_0 b74_0F _ = _; generalize b74_0 = c0 at *; exact fin_)
noncomputable def utf_Valid_b (s : ByteArray) : Option (Bool) :=
  (utf_Valid_l0 s 0).bind fun r => match r with
    | .inl at0 =>
      some false
    | .inr at0 =>
      some true
theorem utf_Valid_r {s r} (h : utf_Valid_b s = some r) : utf_Valid s = some r := by
  unfold utf_Valid_b at h
  refine ask_of ?_
  obtain ⟨r1, γ1, h1, h⟩ := bind_asks h (gam [])
  rcases r1 with at0 | at0
  cases h; refine call_lim rfl ?_; rotate_left
  cases h; refine call_lim rfl ?_; rotate_left
  all_goals (dsimp only [R1, utf_Valid_l0_x] at *; show runFn IF_ (g74F b74_0) _ _ = _; generalize b74_0 = c0 at *; exact fin_)
noncomputable def utf_Count_l0_x (s : ByteArray) (γ : Nat → Nat) : (Int × Int) → X × St
  | (a0, a1) => (.brk 0, ⟨bd 3 (vI a0 :: bd 7 []), [.it s a1]⟩)
instance {s} : InjS (utf_Count_l0_x s) := ⟨fun γ γ' x y h => by
  rcases x with ⟨a0, a1⟩ <;> rcases y with ⟨a0', a1'⟩ <;> simp only [utf_Count_l0_x] at h <;> exact inj_⟩
noncomputable def utf_Count_l0 (s : ByteArray) (n : Int) (at0 : Int) : Option ((Int × Int)) := asks (fun γ => (lim F pr).loop [5, 3] 1 b75_0 ⟨bd 3 (vI n :: bd 1 (.bptr 0 0 :: bd 5 [])), [.it s at0]⟩) (utf_Count_l0_x s)
noncomputable def utf_Count_l0_b (s : ByteArray) (n : Int) (at0 : Int) : Option ((Int × Int)) :=
  xopt (xsdec s at0) (fun ⟨c, nx⟩ =>
    utf_Count_l0 s (Ops.std.iadd .i64 n 1) nx)
    (some (n, at0))
theorem utf_Count_l0_r {s n at0 r} (h : utf_Count_l0_b s n at0 = some r) : utf_Count_l0 s n at0 = some r := by
  unfold utf_Count_l0_b at h
  refine asks_of fun γ => ?_
  rcases xopt_some h with ⟨⟨c, nx⟩, h1, h⟩ | ⟨h1, h⟩
  replace h := asks_some h (gam []); obtain ⟨γ', h0⟩ := h; refine ⟨γ', round_lim ?_⟩; rotate_left
  cases h; refine ⟨gam [], round_lim ?_⟩; rotate_left
  all_goals (dsimp only [utf_Count_l0_x] at *; show roundAs IF_ _ _ b75_0 b75_0F _ = _; generalize b75_0 = c0 at *; exact fin_)
noncomputable def utf_Count_b (s : ByteArray) : Option (Int) :=
  (utf_Count_l0 s 0 0).bind fun ⟨n, at0⟩ =>
  some n
theorem utf_Count_r {s r} (h : utf_Count_b s = some r) : utf_Count s = some r := by
  unfold utf_Count_b at h
  refine ask_of ?_
  obtain ⟨r1, γ1, h1, h⟩ := bind_asks h (gam [])
  rcases r1 with ⟨n, at0⟩
  cases h; refine call_lim rfl ?_; rotate_left
  all_goals (dsimp only [R1, utf_Count_l0_x] at *; show runFn IF_ (g75F b75_0) _ _ = _; generalize b75_0 = c0 at *; exact fin_)
noncomputable def IndexFunc_Pair_1_l0_x (γ : Nat → Nat) : Int ⊕ Unit → X × St
  | .inl a0 => (.ret, ⟨bd 4 (vI a0 :: bd 14 []), []⟩)
  | .inr () => (.brk 0, ⟨bd 19 [], []⟩)
instance : InjS IndexFunc_Pair_1_l0_x := ⟨fun γ γ' x y h => by
  rcases x with a0 | _ <;> rcases y with a0' | _ <;> simp only [IndexFunc_Pair_1_l0_x] at h <;> exact inj_⟩
noncomputable def IndexFunc_Pair_1_l0 (s : List Pair) (t8 : Int) : Option (Int ⊕ Unit) := asks (fun γ => (lim F pr).loop [7, 1, 0, 8] 0 b36_0 ⟨.lit 41 false (List.map ePair s) :: .fn 120 [] :: bd 5 (vI (xlen ePair s) :: vI t8 :: bd 10 []), []⟩) IndexFunc_Pair_1_l0_x
noncomputable def IndexFunc_Pair_1_l0_b (s : List Pair) (t8 : Int) : Option (Int ⊕ Unit) :=
  bif Ops.std.ilt t8 (xlen ePair s) then
    (xget ePair s t8).bind fun x =>
    (msg_long_1 x).bind fun res =>
    bif res then some (.inl t8) else
    IndexFunc_Pair_1_l0 s (Ops.std.iadd .i64 t8 1)
  else
    some (.inr ())
theorem IndexFunc_Pair_1_l0_r {s t8 r} (h : IndexFunc_Pair_1_l0_b s t8 = some r) : IndexFunc_Pair_1_l0 s t8 = some r := by
  unfold IndexFunc_Pair_1_l0_b at h
  refine asks_of fun γ => ?_
  rcases cond_some h with ⟨h1, h⟩ | ⟨h1, h⟩
  obtain ⟨x, h2, h⟩ := bind_ask h
  obtain ⟨res, h3, h⟩ := bind_ask h
  rcases cond_some h with ⟨h4, h⟩ | ⟨h4, h⟩
  cases h; refine ⟨gam [], round_lim ?_⟩; rotate_left
  replace h := asks_some h (gam []); obtain ⟨γ', h0⟩ := h; refine ⟨γ', round_lim ?_⟩; rotate_left
  cases h; refine ⟨gam [], round_lim ?_⟩; rotate_left
  all_goals (dsimp only [IndexFunc_Pair_1_l0_x, R1] at *; show roundAs IF_ _ _ b36_0 b36_0F _ = _; generalize b36_0 = c0 at *; exact fin_)
noncomputable def IndexFunc_Pair_1_b (s : List Pair) : Option (Int) :=
  (IndexFunc_Pair_1_l0 s 0).bind fun r => match r with
    | .inl t4 =>
      some t4
    | .inr () =>
      some (-1)
theorem IndexFunc_Pair_1_r {s r} (h : IndexFunc_Pair_1_b s = some r) : IndexFunc_Pair_1 s = some r := by
  unfold IndexFunc_Pair_1_b at h
  refine ask_of ?_
  obtain ⟨r1, γ1, h1, h⟩ := bind_asks h (gam [])
  rcases r1 with t4 | _
  cases h; refine call_lim rfl ?_; rotate_left
  cases h; refine call_lim rfl ?_; rotate_left
  all_goals (dsimp only [IndexFunc_Pair_1_l0_x, R1] at *; show runFn IF_ (g36F b36_0) _ _ = _; generalize b36_0 = c0 at *; exact fin_)
noncomputable def msg_text_1_b (p : Pair) : Option (Bool) :=
  (msg_Key p.key).bind fun res =>
  some (!res)
theorem msg_text_1_r {p r} (h : msg_text_1_b p = some r) : msg_text_1 p = some r := by
  unfold msg_text_1_b at h
  refine ask_of ?_
  obtain ⟨res, h1, h⟩ := bind_ask h
  cases h; refine call_lim rfl ?_; rotate_left
  all_goals (dsimp only [R1] at *; show runFn IF_ g119F _ _ = _; exact fin_)
noncomputable def utf_stray_b (s : ByteArray) (at_ : Int) (c : Int) : Option (Bool) :=
  bif Ops.std.ieq c 65533 then
    (xssub s at_ (Ops.std.slen s)).bind fun z =>
    xopt (xsdec z 0) (fun ⟨c1, nx⟩ =>
      some (Ops.std.ieq nx 1))
      (some (Ops.std.ieq 0 1))
  else
    some false
theorem utf_stray_r {s at_ c r} (h : utf_stray_b s at_ c = some r) : utf_stray s at_ c = some r := by
  unfold utf_stray_b at h
  refine ask_of ?_
  rcases cond_some h with ⟨h1, h⟩ | ⟨h1, h⟩
  obtain ⟨z, h2, h⟩ := bind_some h
  rcases xopt_some h with ⟨⟨c1, nx⟩, h3, h⟩ | ⟨h3, h⟩
  cases h; refine call_lim rfl ?_; rotate_left
  cases h; refine call_lim rfl ?_; rotate_left
  cases h; refine call_lim rfl ?_; rotate_left
  all_goals (dsimp only [R1] at *; show runFn IF_ g111F _ _ = _; exact fin_)
noncomputable def msg_long_1_b (p : Pair) : Option (Bool) :=
  some (Ops.std.ilt 512 (Ops.std.slen p.val))
theorem msg_long_1_r {p r} (h : msg_long_1_b p = some r) : msg_long_1 p = some r := by
  unfold msg_long_1_b at h
  refine ask_of ?_
  cases h; refine call_lim rfl ?_; rotate_left
  all_goals (dsimp only [R1] at *; show runFn IF_ g120F _ _ = _; exact fin_)
end Go.Ab.Tryd
