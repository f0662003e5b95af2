/- Chapter 05's arithmetic, over 64-bit words, and what the functions come to on them. Conditions: none. -/
import Derived.Test.YtcnohiofldkcoaaHash
namespace Go.Ab.Try
open Go Go.Proofs
set_option linter.unusedVariables false

def n64 (x : BitVec 64) : Int := (x.toNat : Int)
theorem of_wf {a : Int} (h : (Lit.int .u64 a).wf = true) : ∃ x : BitVec 64, a = n64 x := by
  simp only [Lit.wf, IntKind.min, IntKind.max, IntKind.signed, IntKind.bits, Bool.and_eq_true, decide_eq_true_eq] at h
  obtain ⟨n, rfl⟩ := Int.eq_ofNat_of_zero_le (a := a) (by simpa using h.1)
  have hn : n < 2 ^ 64 := by have := h.2; simp at this; omega
  exact ⟨BitVec.ofNat 64 n, by simp only [n64, BitVec.toNat_ofNat]; rw [Nat.mod_eq_of_lt hn]⟩
theorem n64_inj {x y : BitVec 64} : n64 x = n64 y ↔ x = y := by
  unfold n64
  constructor
  · intro h; exact BitVec.eq_of_toNat_eq (by exact_mod_cast h)
  · rintro rfl; rfl
theorem wrap_n64 (n : Int) : IntKind.u64.wrap n = n % 18446744073709551616 := by simp [IntKind.wrap, IntKind.bits, IntKind.signed]
theorem wrap_nat (n : Nat) : IntKind.u64.wrap (n : Int) = n64 (BitVec.ofNat 64 n) := by
  rw [wrap_n64]; unfold n64; rw [BitVec.toNat_ofNat]; omega
theorem wrap_self (x : BitVec 64) : IntKind.u64.wrap (n64 x) = n64 x := by
  have := x.isLt
  rw [wrap_n64]; unfold n64; omega
theorem xor_n64 (x y : BitVec 64) : Ops.std.ibit .xor .u64 (n64 x) (n64 y) = n64 (x ^^^ y) := by
  show Go.bits .xor .u64 (n64 x) (n64 y) = _
  unfold n64
  simp only [Go.bits, IntKind.bits, BitVec.ofInt_natCast, BitVec.ofNat_toNat, BitVec.setWidth_eq]
  exact wrap_self (x ^^^ y)
theorem mul_n64 (x y : BitVec 64) : Ops.std.imul .u64 (n64 x) (n64 y) = n64 (x * y) := by
  show IntKind.u64.wrap (n64 x * n64 y) = _
  unfold n64
  rw [← Int.natCast_mul, wrap_nat]; unfold n64
  rw [BitVec.toNat_mul, BitVec.toNat_ofNat]
theorem shr_div (x : BitVec 64) (k : Nat) : n64 x / ((2 ^ k : Nat) : Int) = n64 (x >>> k) := by
  unfold n64
  rw [BitVec.toNat_ushiftRight, Nat.shiftRight_eq_div_pow]; exact (Int.natCast_ediv _ _).symm
theorem shr_n64 (x : BitVec 64) (k : Nat) (hk : k ≤ 64) : Ops.std.ishr .u64 (n64 x) (k : Int) = n64 (x >>> k) := by
  show Int.fdiv (n64 x) (2 ^ (min ((k : Int)).toNat IntKind.u64.bits)) = _
  have e : min ((k : Int)).toNat IntKind.u64.bits = k := by simp only [Int.toNat_natCast]; exact Nat.min_eq_left hk
  have e2 : ((2 : Int) ^ k) = ((2 ^ k : Nat) : Int) := (Int.natCast_pow 2 k).symm
  rw [e, e2, Int.fdiv_eq_ediv_of_nonneg _ (Int.natCast_nonneg _)]
  exact shr_div x k
theorem half_n64 (x : BitVec 64) : Ops.std.iquo .u64 (n64 x) 2 = n64 (x >>> 1) := by
  show IntKind.u64.wrap (Int.tdiv (n64 x) 2) = _
  have h1 : Int.tdiv (n64 x) 2 = n64 x / 2 := by
    unfold n64; exact Int.tdiv_eq_ediv_of_nonneg (Int.natCast_nonneg _)
  have e : n64 x / (2 : Int) = n64 (x >>> 1) := shr_div x 1
  rw [h1, e, wrap_self]
theorem add_small {i : Int} (h0 : 0 ≤ i) (h : i < 9223372036854775807) : Ops.std.iadd .i64 i 1 = i + 1 := by
  show IntKind.i64.wrap (i + 1) = _
  simp only [IntKind.wrap, IntKind.bits, IntKind.signed]
  simp
  omega
theorem dbl_small {i : Int} (h0 : 0 ≤ i) (h : i < 1000) : Ops.std.imul .i64 i 2 = i * 2 := by
  show IntKind.i64.wrap (i * 2) = _
  simp only [IntKind.wrap, IntKind.bits, IntKind.signed]
  simp
  omega

/-! ### Mix -/
def c1 : BitVec 64 := 13787848793156543929#64
def c2 : BitVec 64 := 10723151780598845931#64
def mixB (u : BitVec 64) : BitVec 64 :=
  let a := (u ^^^ (u >>> 30)) * c1
  let b := (a ^^^ (a >>> 27)) * c2
  b ^^^ (b >>> 31)
theorem sh30 (x : BitVec 64) : Ops.std.ishr .u64 (n64 x) 30 = n64 (x >>> 30) := shr_n64 x 30 (by omega)
theorem sh27 (x : BitVec 64) : Ops.std.ishr .u64 (n64 x) 27 = n64 (x >>> 27) := shr_n64 x 27 (by omega)
theorem sh31 (x : BitVec 64) : Ops.std.ishr .u64 (n64 x) 31 = n64 (x >>> 31) := shr_n64 x 31 (by omega)
theorem mulc1 (x : BitVec 64) : Ops.std.imul .u64 (n64 x) 13787848793156543929 = n64 (x * c1) := mul_n64 x c1
theorem mulc2 (x : BitVec 64) : Ops.std.imul .u64 (n64 x) 10723151780598845931 = n64 (x * c2) := mul_n64 x c2
theorem mixO_is (u : BitVec 64) : mixO Ops.std (n64 u) = n64 (mixB u) := by
  simp only [mixO, mixB, sh30, sh27, sh31, xor_n64, mulc1, mulc2]
theorem call14 (u : BitVec 64) : (lim F).call 14 [u64 (n64 u)] [] = some (u64 (n64 (mixB u)), []) := by
  rw [← mixO_is u]
  exact call_lim (fn := g14) rfl (run14 (iadd := Ops.std.iadd) (isub := Ops.std.isub) (imul := Ops.std.imul) (iquo := Ops.std.iquo) (irem := Ops.std.irem) (ibit := Ops.std.ibit) (ishl := Ops.std.ishl) (ishr := Ops.std.ishr) (iwrap := Ops.std.iwrap) (ieq := Ops.std.ieq) (ilt := Ops.std.ilt) (ile := Ops.std.ile) (beq := Ops.std.beq) (bnot := Ops.std.bnot) (seq := Ops.std.seq) (slt := Ops.std.slt) (sapp := Ops.std.sapp) (slen := Ops.std.slen) (sget := Ops.std.sget) (ssub := Ops.std.ssub) (llen := Ops.std.llen) (lget := Ops.std.lget) (lset := Ops.std.lset) (lapp := Ops.std.lapp) (lsub := Ops.std.lsub) (room := Ops.std.room) (call := (lim F).call) (loop := (lim F).loop) rfl rfl rfl (n64 u))

theorem down_loop (b : Nat) (hb : b ≤ 64) (d : Nat) : ∀ (i : Nat) (x : BitVec 64) (j6 j7 j8 j9 j10 j11 j12 j13 : AV), i + d = b → ∃ k6 k7 k8 k9 k10 k11 k12 k13 : AV,
    (lim F).loop (.loop body29) ⟨[u64 (n64 x), i64 b, .bad, .bad, u64 0, i64 i, j6, j7, j8, j9, j10, j11, j12, j13], []⟩ = some (.brk 0, ⟨[u64 (n64 (x >>> d)), i64 b, .bad, .bad, u64 0, i64 b, k6, k7, k8, k9, k10, k11, k12, k13], []⟩) := by
  induction d with
  | zero =>
    intro i x j6 j7 j8 j9 j10 j11 j12 j13 hi
    refine ⟨i64 b, i64 b, bo false, j9, j10, j11, j12, j13, loop_lim ((round29 (iadd := Ops.std.iadd) (isub := Ops.std.isub) (imul := Ops.std.imul) (iquo := Ops.std.iquo) (irem := Ops.std.irem) (ibit := Ops.std.ibit) (ishl := Ops.std.ishl) (ishr := Ops.std.ishr) (iwrap := Ops.std.iwrap) (ieq := Ops.std.ieq) (ilt := Ops.std.ilt) (ile := Ops.std.ile) (beq := Ops.std.beq) (bnot := Ops.std.bnot) (seq := Ops.std.seq) (slt := Ops.std.slt) (sapp := Ops.std.sapp) (slen := Ops.std.slen) (sget := Ops.std.sget) (ssub := Ops.std.ssub) (llen := Ops.std.llen) (lget := Ops.std.lget) (lset := Ops.std.lset) (lapp := Ops.std.lapp) (lsub := Ops.std.lsub) (room := Ops.std.room) (call := (lim F).call) (loop := (lim F).loop) rfl (n64 x) b i j6 j7 j8 j9 j10 j11 j12 j13).trans ?_)⟩
    have h : Ops.std.ilt (i : Int) (b : Int) = false := decide_eq_false (by omega)
    rw [h, show i = b by omega]
    simp only [BitVec.ushiftRight_zero]
  | succ d ih =>
    intro i x j6 j7 j8 j9 j10 j11 j12 j13 hi
    have h : Ops.std.ilt (i : Int) (b : Int) = true := decide_eq_true (by omega)
    obtain ⟨k6, k7, k8, k9, k10, k11, k12, k13, hk⟩ := ih (i + 1) (x >>> 1) (i64 i) (i64 b) (bo true) (i64 i) (i64 (Ops.std.iadd .i64 i 1)) (u64 (n64 x)) (u64 (Ops.std.iquo .u64 (n64 x) 2)) j13 (by omega)
    refine ⟨k6, k7, k8, k9, k10, k11, k12, k13, loop_lim ((round29 (iadd := Ops.std.iadd) (isub := Ops.std.isub) (imul := Ops.std.imul) (iquo := Ops.std.iquo) (irem := Ops.std.irem) (ibit := Ops.std.ibit) (ishl := Ops.std.ishl) (ishr := Ops.std.ishr) (iwrap := Ops.std.iwrap) (ieq := Ops.std.ieq) (ilt := Ops.std.ilt) (ile := Ops.std.ile) (beq := Ops.std.beq) (bnot := Ops.std.bnot) (seq := Ops.std.seq) (slt := Ops.std.slt) (sapp := Ops.std.sapp) (slen := Ops.std.slen) (sget := Ops.std.sget) (ssub := Ops.std.ssub) (llen := Ops.std.llen) (lget := Ops.std.lget) (lset := Ops.std.lset) (lapp := Ops.std.lapp) (lsub := Ops.std.lsub) (room := Ops.std.room) (call := (lim F).call) (loop := (lim F).loop) rfl (n64 x) b i j6 j7 j8 j9 j10 j11 j12 j13).trans ?_)⟩
    rw [h]
    simp only []
    rw [half_n64, add_small (by omega) (by omega)] at *
    rw [← BitVec.shiftRight_add, Nat.add_comm 1 d] at hk
    rw [show ((i : Int) + 1) = ((i + 1 : Nat) : Int) by omega]
    exact hk

theorem call29 (b : Nat) (h0 : 0 < b) (hb : b ≤ 64) (x : BitVec 64) : (lim F).call 29 [u64 (n64 x), i64 b] [] = some (u64 (n64 (x >>> b)), []) := by
  obtain ⟨k6, k7, k8, k9, k10, k11, k12, k13, hk⟩ := down_loop b hb (b - 1) 1 (x >>> 1) (i64 0) (i64 b) (bo true) (i64 0) (i64 (Ops.std.iadd .i64 0 1)) (u64 (n64 x)) (u64 (Ops.std.iquo .u64 (n64 x) 2)) .bad (by omega)
  rw [← BitVec.shiftRight_add, show 1 + (b - 1) = b by omega] at hk
  have h : Ops.std.ilt 0 (b : Int) = true := decide_eq_true (by omega)
  refine call_lim (fn := g29) rfl (run29 (iadd := Ops.std.iadd) (isub := Ops.std.isub) (imul := Ops.std.imul) (iquo := Ops.std.iquo) (irem := Ops.std.irem) (ibit := Ops.std.ibit) (ishl := Ops.std.ishl) (ishr := Ops.std.ishr) (iwrap := Ops.std.iwrap) (ieq := Ops.std.ieq) (ilt := Ops.std.ilt) (ile := Ops.std.ile) (beq := Ops.std.beq) (bnot := Ops.std.bnot) (seq := Ops.std.seq) (slt := Ops.std.slt) (sapp := Ops.std.sapp) (slen := Ops.std.slen) (sget := Ops.std.sget) (ssub := Ops.std.ssub) (llen := Ops.std.llen) (lget := Ops.std.lget) (lset := Ops.std.lset) (lapp := Ops.std.lapp) (lsub := Ops.std.lsub) (room := Ops.std.room) (call := (lim F).call) (loop := (lim F).loop) rfl (n64 x) b (n64 (x >>> b)) h (j5 := i64 b) (j6 := k6) (j7 := k7) (j8 := k8) (j9 := k9) (j10 := k10) (j11 := k11) (j12 := k12) (j13 := k13) ?_)
  rw [half_n64] at *
  exact hk

theorem call15 (u : BitVec 64) : (lim F).call 15 [u64 (n64 u)] [] = some (u64 (n64 (mixB u)), []) := by
  have h := run15 (iadd := Ops.std.iadd) (isub := Ops.std.isub) (imul := Ops.std.imul) (iquo := Ops.std.iquo) (irem := Ops.std.irem) (ibit := Ops.std.ibit) (ishl := Ops.std.ishl) (ishr := Ops.std.ishr) (iwrap := Ops.std.iwrap) (ieq := Ops.std.ieq) (ilt := Ops.std.ilt) (ile := Ops.std.ile) (beq := Ops.std.beq) (bnot := Ops.std.bnot) (seq := Ops.std.seq) (slt := Ops.std.slt) (sapp := Ops.std.sapp) (slen := Ops.std.slen) (sget := Ops.std.sget) (ssub := Ops.std.ssub) (llen := Ops.std.llen) (lget := Ops.std.lget) (lset := Ops.std.lset) (lapp := Ops.std.lapp) (lsub := Ops.std.lsub) (room := Ops.std.room) (call := (lim F).call) (loop := (lim F).loop) (n64 u) (n64 (u >>> 30)) (n64 (((u ^^^ (u >>> 30)) * c1) >>> 27)) (n64 ((((((u ^^^ (u >>> 30)) * c1) ^^^ (((u ^^^ (u >>> 30)) * c1) >>> 27)) * c2)) >>> 31))
    (call29 30 (by omega) (by omega) u) (by rw [xor_n64, mulc1]; exact call29 27 (by omega) (by omega) _) (by rw [xor_n64, mulc1, xor_n64, mulc2]; exact call29 31 (by omega) (by omega) _)
  rw [xor_n64, mulc1, xor_n64, mulc2, xor_n64] at h
  exact call_lim (fn := g15) rfl h

theorem call4 (u : BitVec 64) : (lim F).call 4 [u64 (n64 u)] [] = some (bo true, []) :=
  call_lim (fn := g4) rfl (run4 (iadd := Ops.std.iadd) (isub := Ops.std.isub) (imul := Ops.std.imul) (iquo := Ops.std.iquo) (irem := Ops.std.irem) (ibit := Ops.std.ibit) (ishl := Ops.std.ishl) (ishr := Ops.std.ishr) (iwrap := Ops.std.iwrap) (ieq := Ops.std.ieq) (ilt := Ops.std.ilt) (ile := Ops.std.ile) (beq := Ops.std.beq) (bnot := Ops.std.bnot) (seq := Ops.std.seq) (slt := Ops.std.slt) (sapp := Ops.std.sapp) (slen := Ops.std.slen) (sget := Ops.std.sget) (ssub := Ops.std.ssub) (llen := Ops.std.llen) (lget := Ops.std.lget) (lset := Ops.std.lset) (lapp := Ops.std.lapp) (lsub := Ops.std.lsub) (room := Ops.std.room) (call := (lim F).call) (loop := (lim F).loop) (n64 u) (n64 (mixB u)) (n64 (mixB u)) (call14 u) (call15 u) (decide_eq_true rfl) awake_is)
end Go.Ab.Try
