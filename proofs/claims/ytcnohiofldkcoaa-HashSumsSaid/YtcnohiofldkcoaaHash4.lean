/- The sums and the places of chapter 05, and the laws' calls. Conditions: none. -/
import Derived.Test.YtcnohiofldkcoaaHash3
namespace Go.Ab.Try
open Go Go.Proofs
set_option linter.unusedVariables false

def initB : BitVec 64 := 14695981039346656037#64
theorem ltT {a b : Int} (h : a < b) : Ops.std.ilt a b = true := decide_eq_true h
theorem ltF {a b : Int} (h : ¬ a < b) : Ops.std.ilt a b = false := decide_eq_false h

def iter (f : BitVec 64 → Nat → BitVec 64) : Nat → Nat → BitVec 64 → BitVec 64
  | 0, _, x => x
  | d + 1, i, x => iter f d (i + 1) (f x i)
theorem iter_0 (f : BitVec 64 → Nat → BitVec 64) (i : Nat) (x : BitVec 64) : iter f 0 i x = x := rfl
theorem iter_s (f : BitVec 64 → Nat → BitVec 64) (d i : Nat) (x : BitVec 64) : iter f (d + 1) i x = iter f d (i + 1) (f x i) := rfl
def sumC (s : ByteArray) (d i : Nat) (x : BitVec 64) : BitVec 64 := iter (fun x i => step x s i) d i x
theorem sumB_0 (s : ByteArray) (i : Nat) (x : BitVec 64) : sumC s 0 i x = x := iter_0 _ i x
theorem sumB_s (s : ByteArray) (d i : Nat) (x : BitVec 64) : sumC s (d + 1) i x = sumC s d (i + 1) (step x s i) := iter_s (fun x i => step x s i) d i x
theorem initB_is : n64 initB = 14695981039346656037 := rfl

theorem loop10 (s : ByteArray) (hs : s.size < 1000000) (d : Nat) : ∀ (i : Nat) (x : BitVec 64) (j4 j5 j8 j9 j10 j11 j12 j13 j14 j15 j16 j17 j18 : AV), i + d = s.size → ∃ k4 k5 k8 k9 k10 k11 k12 k13 k14 k15 k16 k17 k18 : AV,
    (lim F).loop (.loop body10) ⟨[str s, .bad, u64 0, u64 (n64 x), j4, j5, i64 (s.size : Int), i64 (i : Int), j8, j9, j10, j11, j12, j13, j14, j15, j16, j17, j18], []⟩ = some (.brk 0, ⟨[str s, .bad, u64 0, u64 (n64 (sumC s d i x)), k4, k5, i64 (s.size : Int), i64 (s.size : Int), k8, k9, k10, k11, k12, k13, k14, k15, k16, k17, k18], []⟩) := by
  induction d with
  | zero =>
    intro i x j4 j5 j8 j9 j10 j11 j12 j13 j14 j15 j16 j17 j18 hi
    refine ⟨j4, j5, bo false, j9, j10, j11, j12, j13, j14, j15, j16, j17, j18, loop_lim ((round10 (iadd := Ops.std.iadd) (isub := Ops.std.isub) (imul := Ops.std.imul) (iquo := Ops.std.iquo) (irem := Ops.std.irem) (ibit := Ops.std.ibit) (ishl := Ops.std.ishl) (ishr := Ops.std.ishr) (iwrap := Ops.std.iwrap) (ieq := Ops.std.ieq) (ilt := Ops.std.ilt) (ile := Ops.std.ile) (beq := Ops.std.beq) (bnot := Ops.std.bnot) (seq := Ops.std.seq) (slt := Ops.std.slt) (sapp := Ops.std.sapp) (slen := Ops.std.slen) (sget := Ops.std.sget) (ssub := Ops.std.ssub) (llen := Ops.std.llen) (lget := Ops.std.lget) (lset := Ops.std.lset) (lapp := Ops.std.lapp) (lsub := Ops.std.lsub) (room := Ops.std.room) (call := (lim F).call) (loop := (lim F).loop) s (n64 x) (s.size : Int) (i : Int) j4 j5 j8 j9 j10 j11 j12 j13 j14 j15 j16 j17 j18).trans ?_)⟩
    rw [ltF (by omega), show i = s.size by omega, sumB_0]
  | succ d ih =>
    intro i x j4 j5 j8 j9 j10 j11 j12 j13 j14 j15 j16 j17 j18 hi
    obtain ⟨c, hc, hcv⟩ := sget_some s i (by omega)
    obtain ⟨k4, k5, k8, k9, k10, k11, k12, k13, k14, k15, k16, k17, k18, hk⟩ := ih (i + 1) (step x s i) (i64 i) j5 (bo true) (i64 i) (u64 (n64 x)) (str s) (i64 i) (.sc (.int .u8 c)) (u64 (Ops.std.iwrap .u64 c)) (u64 (Ops.std.ibit .xor .u64 (n64 x) (Ops.std.iwrap .u64 c)))
      (u64 (n64 (step x s i))) (i64 ((i + 1 : Nat) : Int)) j18 (by omega)
    refine ⟨k4, k5, k8, k9, k10, k11, k12, k13, k14, k15, k16, k17, k18, loop_lim ((round10 (iadd := Ops.std.iadd) (isub := Ops.std.isub) (imul := Ops.std.imul) (iquo := Ops.std.iquo) (irem := Ops.std.irem) (ibit := Ops.std.ibit) (ishl := Ops.std.ishl) (ishr := Ops.std.ishr) (iwrap := Ops.std.iwrap) (ieq := Ops.std.ieq) (ilt := Ops.std.ilt) (ile := Ops.std.ile) (beq := Ops.std.beq) (bnot := Ops.std.bnot) (seq := Ops.std.seq) (slt := Ops.std.slt) (sapp := Ops.std.sapp) (slen := Ops.std.slen) (sget := Ops.std.sget) (ssub := Ops.std.ssub) (llen := Ops.std.llen) (lget := Ops.std.lget) (lset := Ops.std.lset) (lapp := Ops.std.lapp) (lsub := Ops.std.lsub) (room := Ops.std.room) (call := (lim F).call) (loop := (lim F).loop) s (n64 x) (s.size : Int) (i : Int) j4 j5 j8 j9 j10 j11 j12 j13 j14 j15 j16 j17 j18).trans ?_)⟩
    rw [ltT (by omega), hc]
    simp only []
    rw [stp_is x s i hcv, add_small (by omega) (by omega), show ((i : Int) + 1) = ((i + 1 : Nat) : Int) by omega, sumB_s]
    exact hk

theorem call10 (s : ByteArray) (hs : s.size < 1000000) : (lim F).call 10 [str s] [] = some (u64 (n64 (sumC s s.size 0 initB)), []) := by
  by_cases h0 : s.size = 0
  · have hz : Ops.std.ilt 0 (Ops.std.slen s) = false := ltF (by show ¬ (0 : Int) < (s.size : Int); omega)
    rw [h0, sumB_0, initB_is]
    exact call_lim (fn := g10) rfl (run10a (iadd := Ops.std.iadd) (isub := Ops.std.isub) (imul := Ops.std.imul) (iquo := Ops.std.iquo) (irem := Ops.std.irem) (ibit := Ops.std.ibit) (ishl := Ops.std.ishl) (ishr := Ops.std.ishr) (iwrap := Ops.std.iwrap) (ieq := Ops.std.ieq) (ilt := Ops.std.ilt) (ile := Ops.std.ile) (beq := Ops.std.beq) (bnot := Ops.std.bnot) (seq := Ops.std.seq) (slt := Ops.std.slt) (sapp := Ops.std.sapp) (slen := Ops.std.slen) (sget := Ops.std.sget) (ssub := Ops.std.ssub) (llen := Ops.std.llen) (lget := Ops.std.lget) (lset := Ops.std.lset) (lapp := Ops.std.lapp) (lsub := Ops.std.lsub) (room := Ops.std.room) (call := (lim F).call) (loop := (lim F).loop) s hz)
  · have hp : Ops.std.ilt 0 (Ops.std.slen s) = true := ltT (by show (0 : Int) < (s.size : Int); omega)
    obtain ⟨c, hc, hcv⟩ := sget_some s 0 (by omega)
    obtain ⟨k4, k5, k8, k9, k10, k11, k12, k13, k14, k15, k16, k17, k18, hk⟩ := loop10 s hs (s.size - 1) 1 (step initB s 0) (i64 0) (str s) (bo true) (i64 0) (u64 (n64 initB)) (str s) (i64 0) (.sc (.int .u8 c)) (u64 (Ops.std.iwrap .u64 c)) (u64 (Ops.std.ibit .xor .u64 (n64 initB) (Ops.std.iwrap .u64 c)))
      (u64 (n64 (step initB s 0))) (i64 1) .bad (by omega)
    have e : sumC s s.size 0 initB = sumC s (s.size - 1) 1 (step initB s 0) := by
      conv => lhs; rw [show s.size = (s.size - 1) + 1 by omega, sumB_s]
    rw [e]
    have hst : Ops.std.imul .u64 (Ops.std.ibit .xor .u64 14695981039346656037 (Ops.std.iwrap .u64 c)) 1099511628211 = n64 (step initB s 0) := initB_is ▸ stp_is initB s 0 hcv
    refine call_lim (fn := g10) rfl (run10b (iadd := Ops.std.iadd) (isub := Ops.std.isub) (imul := Ops.std.imul) (iquo := Ops.std.iquo) (irem := Ops.std.irem) (ibit := Ops.std.ibit) (ishl := Ops.std.ishl) (ishr := Ops.std.ishr) (iwrap := Ops.std.iwrap) (ieq := Ops.std.ieq) (ilt := Ops.std.ilt) (ile := Ops.std.ile) (beq := Ops.std.beq) (bnot := Ops.std.bnot) (seq := Ops.std.seq) (slt := Ops.std.slt) (sapp := Ops.std.sapp) (slen := Ops.std.slen) (sget := Ops.std.sget) (ssub := Ops.std.ssub) (llen := Ops.std.llen) (lget := Ops.std.lget) (lset := Ops.std.lset) (lapp := Ops.std.lapp) (lsub := Ops.std.lsub) (room := Ops.std.room) (call := (lim F).call) (loop := (lim F).loop) s c (s.size : Int) (s.size : Int) _ hp hc (j4 := k4) (j5 := k5) (j8 := k8) (j9 := k9) (j10 := k10) (j11 := k11) (j12 := k12) (j13 := k13) (j14 := k14) (j15 := k15) (j16 := k16) (j17 := k17) (j18 := k18) ?_)
    rw [hst, add_small (by omega) (by omega)]
    rw [initB_is] at hk
    exact hk

theorem loop11 (s : ByteArray) (hs : s.size < 1000000) (d : Nat) : ∀ (i : Nat) (x : BitVec 64) (j5 j6 j7 j8 j9 j10 j11 j12 j13 j14 j15 j16 j17 j18 j19 : AV), i + d = s.size → ∃ k5 k6 k7 k8 k9 k10 k11 k12 k13 k14 k15 k16 k17 k18 k19 : AV,
    (lim F).loop (.loop body11) ⟨[str s, .bad, u64 0, u64 (n64 x), i64 (i : Int), j5, j6, j7, j8, j9, j10, j11, j12, j13, j14, j15, j16, j17, j18, j19], []⟩ = some (.brk 0, ⟨[str s, .bad, u64 0, u64 (n64 (sumC s d i x)), i64 (s.size : Int), k5, k6, k7, k8, k9, k10, k11, k12, k13, k14, k15, k16, k17, k18, k19], []⟩) := by
  induction d with
  | zero =>
    intro i x j5 j6 j7 j8 j9 j10 j11 j12 j13 j14 j15 j16 j17 j18 j19 hi
    refine ⟨i64 (s.size : Int), str s, i64 (s.size : Int), bo false, j9, j10, j11, j12, j13, j14, j15, j16, j17, j18, j19, loop_lim ((round11 (iadd := Ops.std.iadd) (isub := Ops.std.isub) (imul := Ops.std.imul) (iquo := Ops.std.iquo) (irem := Ops.std.irem) (ibit := Ops.std.ibit) (ishl := Ops.std.ishl) (ishr := Ops.std.ishr) (iwrap := Ops.std.iwrap) (ieq := Ops.std.ieq) (ilt := Ops.std.ilt) (ile := Ops.std.ile) (beq := Ops.std.beq) (bnot := Ops.std.bnot) (seq := Ops.std.seq) (slt := Ops.std.slt) (sapp := Ops.std.sapp) (slen := Ops.std.slen) (sget := Ops.std.sget) (ssub := Ops.std.ssub) (llen := Ops.std.llen) (lget := Ops.std.lget) (lset := Ops.std.lset) (lapp := Ops.std.lapp) (lsub := Ops.std.lsub) (room := Ops.std.room) (call := (lim F).call) (loop := (lim F).loop) s (n64 x) (i : Int) j5 j6 j7 j8 j9 j10 j11 j12 j13 j14 j15 j16 j17 j18 j19).trans ?_)⟩
    rw [ltF (by show ¬ (i : Int) < (s.size : Int); omega), show i = s.size by omega, sumB_0]
    rfl
  | succ d ih =>
    intro i x j5 j6 j7 j8 j9 j10 j11 j12 j13 j14 j15 j16 j17 j18 j19 hi
    obtain ⟨c, hc, hcv⟩ := sget_some s i (by omega)
    obtain ⟨k5, k6, k7, k8, k9, k10, k11, k12, k13, k14, k15, k16, k17, k18, k19, hk⟩ := ih (i + 1) (step x s i) (i64 i) (str s) (i64 (Ops.std.slen s)) (bo true) (i64 i) (i64 ((i + 1 : Nat) : Int)) (u64 (n64 x)) (str s) (i64 i) (.sc (.int .u8 c)) (u64 (Ops.std.iwrap .u64 c)) (u64 (Ops.std.ibit .xor .u64 (n64 x) (Ops.std.iwrap .u64 c))) (u64 (Ops.std.ibit .xor .u64 (n64 x) (Ops.std.iwrap .u64 c)))
      (u64 (n64 (step x s i))) j19 (by omega)
    refine ⟨k5, k6, k7, k8, k9, k10, k11, k12, k13, k14, k15, k16, k17, k18, k19, loop_lim ((round11 (iadd := Ops.std.iadd) (isub := Ops.std.isub) (imul := Ops.std.imul) (iquo := Ops.std.iquo) (irem := Ops.std.irem) (ibit := Ops.std.ibit) (ishl := Ops.std.ishl) (ishr := Ops.std.ishr) (iwrap := Ops.std.iwrap) (ieq := Ops.std.ieq) (ilt := Ops.std.ilt) (ile := Ops.std.ile) (beq := Ops.std.beq) (bnot := Ops.std.bnot) (seq := Ops.std.seq) (slt := Ops.std.slt) (sapp := Ops.std.sapp) (slen := Ops.std.slen) (sget := Ops.std.sget) (ssub := Ops.std.ssub) (llen := Ops.std.llen) (lget := Ops.std.lget) (lset := Ops.std.lset) (lapp := Ops.std.lapp) (lsub := Ops.std.lsub) (room := Ops.std.room) (call := (lim F).call) (loop := (lim F).loop) s (n64 x) (i : Int) j5 j6 j7 j8 j9 j10 j11 j12 j13 j14 j15 j16 j17 j18 j19).trans ?_)⟩
    rw [ltT (by show (i : Int) < (s.size : Int); omega), hc]
    simp only []
    rw [stp_is x s i hcv, add_small (by omega) (by omega), show ((i : Int) + 1) = ((i + 1 : Nat) : Int) by omega, sumB_s]
    exact hk

theorem call11 (s : ByteArray) (hs : s.size < 1000000) : (lim F).call 11 [str s] [] = some (u64 (n64 (sumC s s.size 0 initB)), []) := by
  by_cases h0 : s.size = 0
  · have hz : Ops.std.ilt 0 (Ops.std.slen s) = false := ltF (by show ¬ (0 : Int) < (s.size : Int); omega)
    rw [h0, sumB_0, initB_is]
    exact call_lim (fn := g11) rfl (run11a (iadd := Ops.std.iadd) (isub := Ops.std.isub) (imul := Ops.std.imul) (iquo := Ops.std.iquo) (irem := Ops.std.irem) (ibit := Ops.std.ibit) (ishl := Ops.std.ishl) (ishr := Ops.std.ishr) (iwrap := Ops.std.iwrap) (ieq := Ops.std.ieq) (ilt := Ops.std.ilt) (ile := Ops.std.ile) (beq := Ops.std.beq) (bnot := Ops.std.bnot) (seq := Ops.std.seq) (slt := Ops.std.slt) (sapp := Ops.std.sapp) (slen := Ops.std.slen) (sget := Ops.std.sget) (ssub := Ops.std.ssub) (llen := Ops.std.llen) (lget := Ops.std.lget) (lset := Ops.std.lset) (lapp := Ops.std.lapp) (lsub := Ops.std.lsub) (room := Ops.std.room) (call := (lim F).call) (loop := (lim F).loop) s hz)
  · have hp : Ops.std.ilt 0 (Ops.std.slen s) = true := ltT (by show (0 : Int) < (s.size : Int); omega)
    obtain ⟨c, hc, hcv⟩ := sget_some s 0 (by omega)
    obtain ⟨k5, k6, k7, k8, k9, k10, k11, k12, k13, k14, k15, k16, k17, k18, k19, hk⟩ := loop11 s hs (s.size - 1) 1 (step initB s 0) (i64 0) (str s) (i64 (Ops.std.slen s)) (bo true) (i64 0) (i64 1) (u64 (n64 initB)) (str s) (i64 0) (.sc (.int .u8 c)) (u64 (Ops.std.iwrap .u64 c)) (u64 (Ops.std.ibit .xor .u64 (n64 initB) (Ops.std.iwrap .u64 c))) (u64 (Ops.std.ibit .xor .u64 (n64 initB) (Ops.std.iwrap .u64 c)))
      (u64 (n64 (step initB s 0))) .bad (by omega)
    have e : sumC s s.size 0 initB = sumC s (s.size - 1) 1 (step initB s 0) := by
      conv => lhs; rw [show s.size = (s.size - 1) + 1 by omega, sumB_s]
    rw [e]
    have hst : Ops.std.imul .u64 (Ops.std.ibit .xor .u64 14695981039346656037 (Ops.std.iwrap .u64 c)) 1099511628211 = n64 (step initB s 0) := initB_is ▸ stp_is initB s 0 hcv
    refine call_lim (fn := g11) rfl (run11b (iadd := Ops.std.iadd) (isub := Ops.std.isub) (imul := Ops.std.imul) (iquo := Ops.std.iquo) (irem := Ops.std.irem) (ibit := Ops.std.ibit) (ishl := Ops.std.ishl) (ishr := Ops.std.ishr) (iwrap := Ops.std.iwrap) (ieq := Ops.std.ieq) (ilt := Ops.std.ilt) (ile := Ops.std.ile) (beq := Ops.std.beq) (bnot := Ops.std.bnot) (seq := Ops.std.seq) (slt := Ops.std.slt) (sapp := Ops.std.sapp) (slen := Ops.std.slen) (sget := Ops.std.sget) (ssub := Ops.std.ssub) (llen := Ops.std.llen) (lget := Ops.std.lget) (lset := Ops.std.lset) (lapp := Ops.std.lapp) (lsub := Ops.std.lsub) (room := Ops.std.room) (call := (lim F).call) (loop := (lim F).loop) s c (s.size : Int) _ hp hc (j5 := k5) (j6 := k6) (j7 := k7) (j8 := k8) (j9 := k9) (j10 := k10) (j11 := k11) (j12 := k12) (j13 := k13) (j14 := k14) (j15 := k15) (j16 := k16) (j17 := k17) (j18 := k18) (j19 := k19) ?_)
    rw [hst, add_small (by omega) (by omega)]
    rw [initB_is] at hk
    exact hk

theorem call12 (s : ByteArray) (hs : s.size < 1000000) : (lim F).call 12 [str s] [] = some (u64 (n64 (mixB (sumC s s.size 0 initB))), []) :=
  call_lim (fn := g12) rfl (run12 (iadd := Ops.std.iadd) (isub := Ops.std.isub) (imul := Ops.std.imul) (iquo := Ops.std.iquo) (irem := Ops.std.irem) (ibit := Ops.std.ibit) (ishl := Ops.std.ishl) (ishr := Ops.std.ishr) (iwrap := Ops.std.iwrap) (ieq := Ops.std.ieq) (ilt := Ops.std.ilt) (ile := Ops.std.ile) (beq := Ops.std.beq) (bnot := Ops.std.bnot) (seq := Ops.std.seq) (slt := Ops.std.slt) (sapp := Ops.std.sapp) (slen := Ops.std.slen) (sget := Ops.std.sget) (ssub := Ops.std.ssub) (llen := Ops.std.llen) (lget := Ops.std.lget) (lset := Ops.std.lset) (lapp := Ops.std.lapp) (lsub := Ops.std.lsub) (room := Ops.std.room) (call := (lim F).call) (loop := (lim F).loop) s _ _ (call10 s hs) (call14 _))
theorem call13 (s : ByteArray) (hs : s.size < 1000000) : (lim F).call 13 [str s] [] = some (u64 (n64 (mixB (sumC s s.size 0 initB))), []) :=
  call_lim (fn := g13) rfl (run13 (iadd := Ops.std.iadd) (isub := Ops.std.isub) (imul := Ops.std.imul) (iquo := Ops.std.iquo) (irem := Ops.std.irem) (ibit := Ops.std.ibit) (ishl := Ops.std.ishl) (ishr := Ops.std.ishr) (iwrap := Ops.std.iwrap) (ieq := Ops.std.ieq) (ilt := Ops.std.ilt) (ile := Ops.std.ile) (beq := Ops.std.beq) (bnot := Ops.std.bnot) (seq := Ops.std.seq) (slt := Ops.std.slt) (sapp := Ops.std.sapp) (slen := Ops.std.slen) (sget := Ops.std.sget) (ssub := Ops.std.ssub) (llen := Ops.std.llen) (lget := Ops.std.lget) (lset := Ops.std.lset) (lapp := Ops.std.lapp) (lsub := Ops.std.lsub) (room := Ops.std.room) (call := (lim F).call) (loop := (lim F).loop) s _ _ (call11 s hs) (call15 _))

theorem call3 (s : ByteArray) : (lim F).call 3 [str s] [] = some (bo true, []) := by
  by_cases h : s.size ≤ 600
  · have hz : Ops.std.ilt 600 (Ops.std.slen s) = false := ltF (by show ¬ (600 : Int) < (s.size : Int); omega)
    exact call_lim (fn := g3) rfl (run3b (iadd := Ops.std.iadd) (isub := Ops.std.isub) (imul := Ops.std.imul) (iquo := Ops.std.iquo) (irem := Ops.std.irem) (ibit := Ops.std.ibit) (ishl := Ops.std.ishl) (ishr := Ops.std.ishr) (iwrap := Ops.std.iwrap) (ieq := Ops.std.ieq) (ilt := Ops.std.ilt) (ile := Ops.std.ile) (beq := Ops.std.beq) (bnot := Ops.std.bnot) (seq := Ops.std.seq) (slt := Ops.std.slt) (sapp := Ops.std.sapp) (slen := Ops.std.slen) (sget := Ops.std.sget) (ssub := Ops.std.ssub) (llen := Ops.std.llen) (lget := Ops.std.lget) (lset := Ops.std.lset) (lapp := Ops.std.lapp) (lsub := Ops.std.lsub) (room := Ops.std.room) (call := (lim F).call) (loop := (lim F).loop) s _ _ hz awake_is (call10 s (by omega)) (call11 s (by omega)) (call12 s (by omega)) (call13 s (by omega)) (decide_eq_true rfl) (decide_eq_true rfl))
  · have hz : Ops.std.ilt 600 (Ops.std.slen s) = true := ltT (by show (600 : Int) < (s.size : Int); omega)
    exact call_lim (fn := g3) rfl (run3a (iadd := Ops.std.iadd) (isub := Ops.std.isub) (imul := Ops.std.imul) (iquo := Ops.std.iquo) (irem := Ops.std.irem) (ibit := Ops.std.ibit) (ishl := Ops.std.ishl) (ishr := Ops.std.ishr) (iwrap := Ops.std.iwrap) (ieq := Ops.std.ieq) (ilt := Ops.std.ilt) (ile := Ops.std.ile) (beq := Ops.std.beq) (bnot := Ops.std.bnot) (seq := Ops.std.seq) (slt := Ops.std.slt) (sapp := Ops.std.sapp) (slen := Ops.std.slen) (sget := Ops.std.sget) (ssub := Ops.std.ssub) (llen := Ops.std.llen) (lget := Ops.std.lget) (lset := Ops.std.lset) (lapp := Ops.std.lapp) (lsub := Ops.std.lsub) (room := Ops.std.room) (call := (lim F).call) (loop := (lim F).loop) s hz awake_is)
end Go.Ab.Try
