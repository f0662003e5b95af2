/- What the functions of chapter 05 come to, in the interpreter. Conditions: none. -/
import Derived.Test.YtcnohiofldkcoaaIr
import Derived.Test.YtcnohiofldkcoaaAbLim
import Derived.KernelRfl
namespace Go.Ab.Try
open Go Go.Proofs
set_option linter.unusedVariables false

def F : FuncId → Option Fn
  | 3 => some g3
  | 4 => some g4
  | 5 => some g5
  | 9 => some g9
  | 10 => some g10
  | 11 => some g11
  | 12 => some g12
  | 13 => some g13
  | 14 => some g14
  | 15 => some g15
  | 16 => some g16
  | 29 => some g29
  | 30 => some g30
  | 31 => some g31
  | _ => none
theorem F_ok : ∀ f fn, F f = some fn → ∃ keep, cmpFn Try.prog keep f = some fn := by
  intro f fn h
  unfold F at h
  split at h <;> cases h
  · exact ⟨_, cmp3⟩
  · exact ⟨_, cmp4⟩
  · exact ⟨_, cmp5⟩
  · exact ⟨_, cmp9⟩
  · exact ⟨_, cmp10⟩
  · exact ⟨_, cmp11⟩
  · exact ⟨_, cmp12⟩
  · exact ⟨_, cmp13⟩
  · exact ⟨_, cmp14⟩
  · exact ⟨_, cmp15⟩
  · exact ⟨_, cmp16⟩
  · exact ⟨_, cmp29⟩
  · exact ⟨_, cmp30⟩
  · exact ⟨_, cmp31⟩

abbrev u64 (x : Int) : AV := .sc (.int .u64 x)
abbrev i64 (x : Int) : AV := .sc (.int .i64 x)
abbrev bo (x : Bool) : AV := .sc (.bool x)
abbrev str (x : ByteArray) : AV := .sc (.string x)

def body29 : Cd := match g29.body with | .seq _ (.seq (.seq _ (.block _ (.loop d))) _) => d | _ => .skip
def body30 : Cd := match g30.body with | .seq _ (.seq (.block _ (.loop d)) _) => d | _ => .skip
def body10 : Cd := match g10.body with | .seq _ (.seq _ (.seq (.seq _ (.block _ (.loop d))) _)) => d | _ => .skip
def body11 : Cd := match g11.body with | .seq _ (.seq _ (.seq (.seq _ (.block _ (.loop d))) _)) => d | _ => .skip

def mixO (o : Ops) (u : Int) : Int :=
  let a := o.imul .u64 (o.ibit .xor .u64 u (o.ishr .u64 u 30)) 13787848793156543929
  let b := o.imul .u64 (o.ibit .xor .u64 a (o.ishr .u64 a 27)) 10723151780598845931
  o.ibit .xor .u64 b (o.ishr .u64 b 31)

section
variable {iadd : IntKind → Int → Int → Int} {isub : IntKind → Int → Int → Int} {imul : IntKind → Int → Int → Int} {iquo : IntKind → Int → Int → Int} {irem : Int → Int → Int} {ibit : BinOp → IntKind → Int → Int → Int}
  {ishl : IntKind → Int → Int → Int} {ishr : IntKind → Int → Int → Int} {iwrap : IntKind → Int → Int} {ieq : Int → Int → Bool} {ilt : Int → Int → Bool} {ile : Int → Int → Bool} {beq : Bool → Bool → Bool} {bnot : Bool → Bool}
  {seq : ByteArray → ByteArray → Bool} {slt : ByteArray → ByteArray → Bool} {sapp : ByteArray → ByteArray → Option ByteArray} {slen : ByteArray → Int} {sget : ByteArray → Int → Option Int} {ssub : ByteArray → Int → Int → Option ByteArray}
  {llen : List AV → Int} {lget : List AV → Int → Option AV} {lset : List AV → Int → AV → List AV} {lapp : List AV → List AV → List AV} {lsub : List AV → Int → Int → Option (List AV)} {room : Nat → List AV → List AV → Bool}
  {call : FuncId → List AV → Store → Option (AV × Store)} {loop : Cd → St → Option (X × St)}

theorem run14 (h30 : ilt 30 0 = false) (h27 : ilt 27 0 = false) (h31 : ilt 31 0 = false) (u : Int) : runFn ⟨⟨iadd, isub, imul, iquo, irem, ibit, ishl, ishr, iwrap, ieq, ilt, ile, beq, bnot, seq, slt, sapp, slen, sget, ssub, llen, lget, lset, lapp, lsub, room⟩, call, loop⟩ g14 [u64 u] [] = some (u64 (mixO ⟨iadd, isub, imul, iquo, irem, ibit, ishl, ishr, iwrap, ieq, ilt, ile, beq, bnot, seq, slt, sapp, slen, sget, ssub, llen, lget, lset, lapp, lsub, room⟩ u), []) := by
  cbv
  rw [h30]
  cbv
  rw [h27]
  cbv
  rw [h31]
  cbv

theorem round29 (hq : ieq 2 0 = false) (x b i : Int) (j6 j7 j8 j9 j10 j11 j12 j13 : AV) : exec ⟨⟨iadd, isub, imul, iquo, irem, ibit, ishl, ishr, iwrap, ieq, ilt, ile, beq, bnot, seq, slt, sapp, slen, sget, ssub, llen, lget, lset, lapp, lsub, room⟩, call, loop⟩ (.loop body29)
   ⟨[u64 x, i64 b, .bad, .bad, u64 0, i64 i, j6, j7, j8, j9, j10, j11, j12, j13], []⟩ = (match ilt i b with
  | true => loop (.loop body29) ⟨[u64 (iquo .u64 x 2), i64 b, .bad, .bad, u64 0, i64 (iadd .i64 i 1), i64 i, i64 b, bo true, i64 i, i64 (iadd .i64 i 1), u64 x, u64 (iquo .u64 x 2), j13], []⟩
  | false => some (.brk 0, ⟨[u64 x, i64 b, .bad, .bad, u64 0, i64 i, i64 i, i64 b, bo false, j9, j10, j11, j12, j13], []⟩)) := by
  cases h : ilt i b
  · cbv
    rw [h]
    cbv
  · cbv
    rw [h]
    cbv
    rw [hq]
    cbv

theorem run29 (hq : ieq 2 0 = false) (x b y : Int) (h0 : ilt 0 b = true) {j5 j6 j7 j8 j9 j10 j11 j12 j13 : AV}
    (hl : loop (.loop (.seq (.seq (.region [⟨some 6, .mov (.t 5), none, false⟩, ⟨some 7, .mov (.t 1), none, false⟩, ⟨some 8, .bin .lss .num (.t 6) (.t 7), none, false⟩]) (.cond (.t 8) .skip (.exit 0))) (.seq (.block 1 (.region [⟨some 11, .mov (.t 0), none, false⟩, ⟨some 12, .bin .quo .num (.t 11) (.c (.sc (.int .u64 2))), none, false⟩, ⟨some 0, .mov (.t 12), none, false⟩])) (.region [⟨some 9, .mov (.t 5), none, false⟩, ⟨some 10, .bin .add .num (.t 9) (.c (.sc (.int .i64 1))), none, false⟩, ⟨some 5, .mov (.t 10), none, false⟩])))) ⟨[u64 (iquo .u64 x 2), i64 b, .bad, .bad, u64 0, i64 (iadd .i64 0 1), i64 0, i64 b, bo true, i64 0, i64 (iadd .i64 0 1), u64 x, u64 (iquo .u64 x 2), .bad], []⟩ = some (.brk 0, ⟨[u64 y, i64 b, .bad, .bad, u64 0, j5, j6, j7, j8, j9, j10, j11, j12, j13], []⟩)) :
    runFn ⟨⟨iadd, isub, imul, iquo, irem, ibit, ishl, ishr, iwrap, ieq, ilt, ile, beq, bnot, seq, slt, sapp, slen, sget, ssub, llen, lget, lset, lapp, lsub, room⟩, call, loop⟩ g29 [u64 x, i64 b] [] = some (u64 y, []) := by
  cbv
  rw [h0]
  cbv
  rw [hq]
  cbv
  rw [hl]
  cbv

theorem run15 (u x1 x2 x3 : Int) (h1 : call 29 [u64 u, i64 30] [] = some (u64 x1, []))
    (h2 : call 29 [u64 (imul .u64 (ibit .xor .u64 u x1) 13787848793156543929), i64 27] [] = some (u64 x2, []))
    (h3 : call 29 [u64 (imul .u64 (ibit .xor .u64 (imul .u64 (ibit .xor .u64 u x1) 13787848793156543929) x2) 10723151780598845931), i64 31] [] = some (u64 x3, [])) :
    runFn ⟨⟨iadd, isub, imul, iquo, irem, ibit, ishl, ishr, iwrap, ieq, ilt, ile, beq, bnot, seq, slt, sapp, slen, sget, ssub, llen, lget, lset, lapp, lsub, room⟩, call, loop⟩ g15 [u64 u] [] = some (u64 (ibit .xor .u64 (imul .u64 (ibit .xor .u64 (imul .u64 (ibit .xor .u64 u x1) 13787848793156543929) x2) 10723151780598845931) x3), []) := by
  cbv
  rw [h1]
  cbv
  rw [h2]
  cbv
  rw [h3]
  cbv

theorem run4 (u x y : Int) (h1 : call 14 [u64 u] [] = some (u64 x, [])) (h2 : call 15 [u64 u] [] = some (u64 y, [])) (h3 : ieq x y = true) (h4 : call 9 [] [] = some (bo true, [])) :
    runFn ⟨⟨iadd, isub, imul, iquo, irem, ibit, ishl, ishr, iwrap, ieq, ilt, ile, beq, bnot, seq, slt, sapp, slen, sget, ssub, llen, lget, lset, lapp, lsub, room⟩, call, loop⟩ g4 [u64 u] [] = some (bo true, []) := by
  cbv
  rw [h1]
  cbv
  rw [h2]
  cbv
  rw [h3]
  cbv
  rw [h4]
  cbv

theorem round30 (x b : Int) (j5 j6 j7 j8 j9 j10 j11 j12 j13 j14 : AV) : exec ⟨⟨iadd, isub, imul, iquo, irem, ibit, ishl, ishr, iwrap, ieq, ilt, ile, beq, bnot, seq, slt, sapp, slen, sget, ssub, llen, lget, lset, lapp, lsub, room⟩, call, loop⟩ (.loop body30) ⟨[u64 x, i64 b, .bad, .bad, u64 0, j5, j6, j7, j8, j9, j10, j11, j12, j13, j14], []⟩ = (match ilt b 64 with
  | true => (match ilt b 0 with
    | true => none
    | false => loop (.loop body30) ⟨[u64 (ibit .xor .u64 x (ishr .u64 x b)), i64 (imul .i64 b 2), .bad, .bad, u64 0, i64 b, bo true, u64 x, u64 x, i64 b, u64 (ishr .u64 x b), u64 (ibit .xor .u64 x (ishr .u64 x b)), i64 b, i64 (imul .i64 b 2), j14], []⟩)
  | false => some (.brk 0, ⟨[u64 x, i64 b, .bad, .bad, u64 0, i64 b, bo false, j7, j8, j9, j10, j11, j12, j13, j14], []⟩)) := by
  cases h : ilt b 64
  · cbv
    rw [h]
    cbv
  · cases h2 : ilt b 0
    · cbv
      rw [h]
      cbv
      rw [h2]
      cbv
    · cbv
      rw [h]
      cbv
      rw [h2]

theorem run30 (x b y c : Int) (h0 : ilt b 64 = true) (h1 : ilt b 0 = false) {j5 j6 j7 j8 j9 j10 j11 j12 j13 j14 : AV}
    (hl : loop (.loop (.seq (.seq (.region [⟨some 5, .mov (.t 1), none, false⟩, ⟨some 6, .bin .lss .num (.t 5) (.c (.sc (.int .i64 64))), none, false⟩]) (.cond (.t 6) .skip (.exit 0))) (.block 1 (.seq (.region [⟨some 7, .mov (.t 0), none, false⟩, ⟨some 8, .mov (.t 0), none, false⟩, ⟨some 9, .mov (.t 1), none, false⟩, ⟨some 10, .bin .shr .num (.t 8) (.t 9), none, false⟩, ⟨some 11, .bin .xor .num (.t 7) (.t 10), none, false⟩, ⟨some 0, .mov (.t 11), none, false⟩]) (.region [⟨some 12, .mov (.t 1), none, false⟩, ⟨some 13, .bin .mul .num (.t 12) (.c (.sc (.int .i64 2))), none, false⟩, ⟨some 1, .mov (.t 13), none, false⟩]))))) ⟨[u64 (ibit .xor .u64 x (ishr .u64 x b)), i64 (imul .i64 b 2), .bad, .bad, u64 0, i64 b, bo true, u64 x, u64 x, i64 b, u64 (ishr .u64 x b), u64 (ibit .xor .u64 x (ishr .u64 x b)), i64 b, i64 (imul .i64 b 2), .bad], []⟩ = some (.brk 0, ⟨[u64 y, i64 c, .bad, .bad, u64 0, j5, j6, j7, j8, j9, j10, j11, j12, j13, j14], []⟩)) :
    runFn ⟨⟨iadd, isub, imul, iquo, irem, ibit, ishl, ishr, iwrap, ieq, ilt, ile, beq, bnot, seq, slt, sapp, slen, sget, ssub, llen, lget, lset, lapp, lsub, room⟩, call, loop⟩ g30 [u64 x, i64 b] [] = some (u64 y, []) := by
  cbv
  rw [h0]
  cbv
  rw [h1]
  cbv
  rw [hl]
  cbv

theorem run16 (u x1 i2 x2 i1 x3 : Int) (h1 : call 30 [u64 u, i64 31] [] = some (u64 x1, [])) (h2 : call 31 [u64 10723151780598845931] [] = some (u64 i2, []))
    (h3 : call 30 [u64 (imul .u64 x1 i2), i64 27] [] = some (u64 x2, [])) (h4 : call 31 [u64 13787848793156543929] [] = some (u64 i1, []))
    (h5 : call 30 [u64 (imul .u64 x2 i1), i64 30] [] = some (u64 x3, [])) : runFn ⟨⟨iadd, isub, imul, iquo, irem, ibit, ishl, ishr, iwrap, ieq, ilt, ile, beq, bnot, seq, slt, sapp, slen, sget, ssub, llen, lget, lset, lapp, lsub, room⟩, call, loop⟩ g16 [u64 u] [] = some (u64 x3, []) := by
  cbv
  rw [h1]
  cbv
  rw [h2]
  cbv
  rw [h3]
  cbv
  rw [h4]
  cbv
  rw [h5]
  cbv

theorem run5 (u v m n w : Int) (q r : Bool) (h1 : call 14 [u64 u] [] = some (u64 m, [])) (h2 : call 16 [u64 m] [] = some (u64 u, [])) (h3 : call 16 [u64 u] [] = some (u64 w, [])) (h4 : call 14 [u64 w] [] = some (u64 u, []))
    (h5 : call 14 [u64 v] [] = some (u64 n, [])) (h6 : ieq u u = true) (h7 : ieq u v = q) (h8 : ieq m n = r) (h9 : beq q r = true) (h10 : call 9 [] [] = some (bo true, [])) :
    runFn ⟨⟨iadd, isub, imul, iquo, irem, ibit, ishl, ishr, iwrap, ieq, ilt, ile, beq, bnot, seq, slt, sapp, slen, sget, ssub, llen, lget, lset, lapp, lsub, room⟩, call, loop⟩ g5 [u64 u, u64 v] [] = some (bo true, []) := by
  cbv
  rw [h1]
  cbv
  rw [h2]
  cbv
  rw [h6]
  cbv
  rw [h3]
  cbv
  rw [h4]
  cbv
  rw [h6]
  cbv
  rw [h7]
  cbv
  rw [h1]
  cbv
  rw [h5]
  cbv
  rw [h8]
  cbv
  rw [h9]
  cbv
  rw [h10]
  cbv

theorem round10 (s : ByteArray) (acc n i : Int) (j4 j5 : AV) (j8 j9 j10 j11 j12 j13 j14 j15 j16 j17 j18 : AV) : exec ⟨⟨iadd, isub, imul, iquo, irem, ibit, ishl, ishr, iwrap, ieq, ilt, ile, beq, bnot, seq, slt, sapp, slen, sget, ssub, llen, lget, lset, lapp, lsub, room⟩, call, loop⟩ (.loop body10) ⟨[str s, .bad, u64 0, u64 acc, j4, j5, i64 n, i64 i, j8, j9, j10, j11, j12, j13, j14, j15, j16, j17, j18], []⟩ = (match ilt i n with
  | true => (match sget s i with
    | none => none
    | some c => loop (.loop body10) ⟨[str s, .bad, u64 0, u64 (imul .u64 (ibit .xor .u64 acc (iwrap .u64 c)) 1099511628211), i64 i, j5, i64 n, i64 (iadd .i64 i 1), bo true, i64 i, u64 acc, str s, i64 i, .sc (.int .u8 c), u64 (iwrap .u64 c),
        u64 (ibit .xor .u64 acc (iwrap .u64 c)), u64 (imul .u64 (ibit .xor .u64 acc (iwrap .u64 c)) 1099511628211), i64 (iadd .i64 i 1), j18], []⟩)
  | false => some (.brk 0, ⟨[str s, .bad, u64 0, u64 acc, j4, j5, i64 n, i64 i, bo false, j9, j10, j11, j12, j13, j14, j15, j16, j17, j18], []⟩)) := by
  cases h : ilt i n
  · cbv
    rw [h]
    cbv
  · cases h2 : sget s i
    · cbv
      rw [h]
      cbv
      rw [h2]
    · cbv
      rw [h]
      cbv
      rw [h2]
      cbv

theorem run10a (s : ByteArray) (h : ilt 0 (slen s) = false) : runFn ⟨⟨iadd, isub, imul, iquo, irem, ibit, ishl, ishr, iwrap, ieq, ilt, ile, beq, bnot, seq, slt, sapp, slen, sget, ssub, llen, lget, lset, lapp, lsub, room⟩, call, loop⟩ g10 [str s] [] = some (u64 14695981039346656037, []) := by
  cbv
  rw [h]
  cbv

theorem run10b (s : ByteArray) (c n i y : Int) (h : ilt 0 (slen s) = true) (h2 : sget s 0 = some c) {j4 j5 j8 j9 j10 j11 j12 j13 j14 j15 j16 j17 j18 : AV}
    (hl : loop (.loop (.seq (.region [⟨some 8, .bin .lss .num (.t 7) (.t 6), none, false⟩]) (.seq (.cond (.t 8) .skip (.exit 0)) (.seq (.block 1 (.seq (.region [⟨some 9, .mov (.t 7), none, false⟩, ⟨some 4, .mov (.t 9), none, false⟩]) (.region [⟨some 10, .mov (.t 3), none, false⟩, ⟨some 11, .mov (.t 0), none, false⟩, ⟨some 12, .mov (.t 4), none, false⟩, ⟨some 13, .sidx (.t 11) (.t 12), none, false⟩, ⟨some 14, .conv .u64 (.t 13), none, false⟩, ⟨some 15, .bin .xor .num (.t 10) (.t 14), none, false⟩, ⟨some 16, .bin .mul .num (.t 15) (.c (.sc (.int .u64 1099511628211))), none, false⟩, ⟨some 3, .mov (.t 16), none, false⟩]))) (.region [⟨some 17, .bin .add .num (.t 7) (.c (.sc (.int .i64 1))), none, false⟩, ⟨some 7, .mov (.t 17), none, false⟩]))))) ⟨[str s, .bad, u64 0, u64 (imul .u64 (ibit .xor .u64 14695981039346656037 (iwrap .u64 c)) 1099511628211), i64 0, str s, i64 (slen s), i64 (iadd .i64 0 1), bo true, i64 0, u64 14695981039346656037, str s, i64 0, .sc (.int .u8 c), u64 (iwrap .u64 c),
        u64 (ibit .xor .u64 14695981039346656037 (iwrap .u64 c)), u64 (imul .u64 (ibit .xor .u64 14695981039346656037 (iwrap .u64 c)) 1099511628211), i64 (iadd .i64 0 1), .bad], []⟩ = some (.brk 0, ⟨[str s, .bad, u64 0, u64 y, j4, j5, i64 n, i64 i, j8, j9, j10, j11, j12, j13, j14, j15, j16, j17, j18], []⟩)) :
    runFn ⟨⟨iadd, isub, imul, iquo, irem, ibit, ishl, ishr, iwrap, ieq, ilt, ile, beq, bnot, seq, slt, sapp, slen, sget, ssub, llen, lget, lset, lapp, lsub, room⟩, call, loop⟩ g10 [str s] [] = some (u64 y, []) := by
  cbv
  rw [h]
  cbv
  rw [h2]
  cbv
  rw [hl]
  cbv

theorem round11 (s : ByteArray) (acc i : Int) (j5 j6 j7 j8 j9 j10 j11 j12 j13 j14 j15 j16 j17 j18 j19 : AV) : exec ⟨⟨iadd, isub, imul, iquo, irem, ibit, ishl, ishr, iwrap, ieq, ilt, ile, beq, bnot, seq, slt, sapp, slen, sget, ssub, llen, lget, lset, lapp, lsub, room⟩, call, loop⟩ (.loop body11) ⟨[str s, .bad, u64 0, u64 acc, i64 i, j5, j6, j7, j8, j9, j10, j11, j12, j13, j14, j15, j16, j17, j18, j19], []⟩ = (match ilt i (slen s) with
  | true => (match sget s i with
    | none => none
    | some c => loop (.loop body11) ⟨[str s, .bad, u64 0, u64 (imul .u64 (ibit .xor .u64 acc (iwrap .u64 c)) 1099511628211), i64 (iadd .i64 i 1), i64 i, str s, i64 (slen s), bo true, i64 i, i64 (iadd .i64 i 1), u64 acc, str s, i64 i, .sc (.int .u8 c), u64 (iwrap .u64 c),
        u64 (ibit .xor .u64 acc (iwrap .u64 c)), u64 (ibit .xor .u64 acc (iwrap .u64 c)), u64 (imul .u64 (ibit .xor .u64 acc (iwrap .u64 c)) 1099511628211), j19], []⟩)
  | false => some (.brk 0, ⟨[str s, .bad, u64 0, u64 acc, i64 i, i64 i, str s, i64 (slen s), bo false, j9, j10, j11, j12, j13, j14, j15, j16, j17, j18, j19], []⟩)) := by
  cases h : ilt i (slen s)
  · cbv
    rw [h]
    cbv
  · cases h2 : sget s i
    · cbv
      rw [h]
      cbv
      rw [h2]
    · cbv
      rw [h]
      cbv
      rw [h2]
      cbv

theorem run11a (s : ByteArray) (h : ilt 0 (slen s) = false) : runFn ⟨⟨iadd, isub, imul, iquo, irem, ibit, ishl, ishr, iwrap, ieq, ilt, ile, beq, bnot, seq, slt, sapp, slen, sget, ssub, llen, lget, lset, lapp, lsub, room⟩, call, loop⟩ g11 [str s] [] = some (u64 14695981039346656037, []) := by
  cbv
  rw [h]
  cbv

theorem run11b (s : ByteArray) (c i y : Int) (h : ilt 0 (slen s) = true) (h2 : sget s 0 = some c) {j5 j6 j7 j8 j9 j10 j11 j12 j13 j14 j15 j16 j17 j18 j19 : AV}
    (hl : loop (.loop (.seq (.seq (.region [⟨some 5, .mov (.t 4), none, false⟩, ⟨some 6, .mov (.t 0), none, false⟩, ⟨some 7, .len true (.t 6), none, false⟩, ⟨some 8, .bin .lss .num (.t 5) (.t 7), none, false⟩]) (.cond (.t 8) .skip (.exit 0))) (.seq (.block 1 (.seq (.region [⟨some 11, .mov (.t 3), none, false⟩, ⟨some 12, .mov (.t 0), none, false⟩, ⟨some 13, .mov (.t 4), none, false⟩, ⟨some 14, .sidx (.t 12) (.t 13), none, false⟩, ⟨some 15, .conv .u64 (.t 14), none, false⟩, ⟨some 16, .bin .xor .num (.t 11) (.t 15), none, false⟩, ⟨some 3, .mov (.t 16), none, false⟩]) (.region [⟨some 17, .mov (.t 3), none, false⟩, ⟨some 18, .bin .mul .num (.t 17) (.c (.sc (.int .u64 1099511628211))), none, false⟩, ⟨some 3, .mov (.t 18), none, false⟩]))) (.region [⟨some 9, .mov (.t 4), none, false⟩, ⟨some 10, .bin .add .num (.t 9) (.c (.sc (.int .i64 1))), none, false⟩, ⟨some 4, .mov (.t 10), none, false⟩])))) ⟨[str s, .bad, u64 0, u64 (imul .u64 (ibit .xor .u64 14695981039346656037 (iwrap .u64 c)) 1099511628211), i64 (iadd .i64 0 1), i64 0, str s, i64 (slen s), bo true, i64 0, i64 (iadd .i64 0 1), u64 14695981039346656037, str s, i64 0, .sc (.int .u8 c), u64 (iwrap .u64 c),
        u64 (ibit .xor .u64 14695981039346656037 (iwrap .u64 c)), u64 (ibit .xor .u64 14695981039346656037 (iwrap .u64 c)), u64 (imul .u64 (ibit .xor .u64 14695981039346656037 (iwrap .u64 c)) 1099511628211), .bad], []⟩ = some (.brk 0, ⟨[str s, .bad, u64 0, u64 y, i64 i, j5, j6, j7, j8, j9, j10, j11, j12, j13, j14, j15, j16, j17, j18, j19], []⟩)) :
    runFn ⟨⟨iadd, isub, imul, iquo, irem, ibit, ishl, ishr, iwrap, ieq, ilt, ile, beq, bnot, seq, slt, sapp, slen, sget, ssub, llen, lget, lset, lapp, lsub, room⟩, call, loop⟩ g11 [str s] [] = some (u64 y, []) := by
  cbv
  rw [h]
  cbv
  rw [h2]
  cbv
  rw [hl]
  cbv

theorem run12 (s : ByteArray) (x y : Int) (h1 : call 10 [str s] [] = some (u64 x, [])) (h2 : call 14 [u64 x] [] = some (u64 y, [])) : runFn ⟨⟨iadd, isub, imul, iquo, irem, ibit, ishl, ishr, iwrap, ieq, ilt, ile, beq, bnot, seq, slt, sapp, slen, sget, ssub, llen, lget, lset, lapp, lsub, room⟩, call, loop⟩ g12 [str s] [] = some (u64 y, []) := by
  cbv
  rw [h1]
  cbv
  rw [h2]
  cbv

theorem run13 (s : ByteArray) (x y : Int) (h1 : call 11 [str s] [] = some (u64 x, [])) (h2 : call 15 [u64 x] [] = some (u64 y, [])) : runFn ⟨⟨iadd, isub, imul, iquo, irem, ibit, ishl, ishr, iwrap, ieq, ilt, ile, beq, bnot, seq, slt, sapp, slen, sget, ssub, llen, lget, lset, lapp, lsub, room⟩, call, loop⟩ g13 [str s] [] = some (u64 y, []) := by
  cbv
  rw [h1]
  cbv
  rw [h2]
  cbv

theorem run3a (s : ByteArray) (h : ilt 600 (slen s) = true) (h10 : call 9 [] [] = some (bo true, [])) : runFn ⟨⟨iadd, isub, imul, iquo, irem, ibit, ishl, ishr, iwrap, ieq, ilt, ile, beq, bnot, seq, slt, sapp, slen, sget, ssub, llen, lget, lset, lapp, lsub, room⟩, call, loop⟩ g3 [str s] [] = some (bo true, []) := by
  cbv
  rw [h]
  cbv
  rw [h10]
  cbv

theorem run3b (s : ByteArray) (x y : Int) (h : ilt 600 (slen s) = false) (h10 : call 9 [] [] = some (bo true, [])) (h1 : call 10 [str s] [] = some (u64 x, [])) (h2 : call 11 [str s] [] = some (u64 x, []))
    (h3 : call 12 [str s] [] = some (u64 y, [])) (h4 : call 13 [str s] [] = some (u64 y, [])) (h5 : ieq x x = true) (h6 : ieq y y = true) : runFn ⟨⟨iadd, isub, imul, iquo, irem, ibit, ishl, ishr, iwrap, ieq, ilt, ile, beq, bnot, seq, slt, sapp, slen, sget, ssub, llen, lget, lset, lapp, lsub, room⟩, call, loop⟩ g3 [str s] [] = some (bo true, []) := by
  cbv
  rw [h]
  cbv
  rw [h1]
  cbv
  rw [h2]
  cbv
  rw [h5]
  cbv
  rw [h3]
  cbv
  rw [h4]
  cbv
  rw [h6]
  cbv
  rw [h10]
  cbv

end

theorem lim_eta (c : Nat → List AV → Store → Option (AV × Store)) : lim F = ⟨⟨Ops.std.iadd, Ops.std.isub, Ops.std.imul, Ops.std.iquo, Ops.std.irem, Ops.std.ibit, Ops.std.ishl, Ops.std.ishr, Ops.std.iwrap, Ops.std.ieq, Ops.std.ilt, Ops.std.ile, Ops.std.beq, Ops.std.bnot, Ops.std.seq, Ops.std.slt, Ops.std.sapp, Ops.std.slen, Ops.std.sget, Ops.std.ssub, Ops.std.llen, Ops.std.lget, Ops.std.lset, Ops.std.lapp, Ops.std.lsub, Ops.std.room⟩, (lim F).call, (lim F).loop⟩ := rfl

theorem awake_is : (lim F).call 9 [] [] = some (bo true, []) := (le_lim 40).call _ _ _ _ (by kernel_rfl)
end Go.Ab.Try
