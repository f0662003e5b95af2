/- The sums, the places and the way back of chapter 05, and the laws' calls. Conditions: none. -/
import Derived.Test.YtcnohiofldkcoaaHash2
namespace Go.Ab.Try
open Go Go.Proofs
set_option linter.unusedVariables false

/-! ### Back -/
theorem fold_shift (y : BitVec 64) (k j : Nat) (h : j = k + k) : (y ^^^ y >>> k) ^^^ ((y ^^^ y >>> k) >>> k) = y ^^^ y >>> j := by
  subst h
  rw [BitVec.ushiftRight_xor_distrib, ← BitVec.shiftRight_add]
  rw [BitVec.xor_assoc, ← BitVec.xor_assoc (y >>> k), BitVec.xor_self, BitVec.zero_xor]
theorem far (y : BitVec 64) (j : Nat) (h : 64 ≤ j) : y ^^^ y >>> j = y := by
  have : y >>> j = 0#64 := by
    apply BitVec.eq_of_toNat_eq
    rw [BitVec.toNat_ushiftRight, Nat.shiftRight_eq_div_pow]
    simp only [BitVec.toNat_ofNat, Nat.zero_mod]
    exact Nat.div_eq_of_lt (Nat.lt_of_lt_of_le y.isLt (Nat.pow_le_pow_right (by decide) h))
  rw [this, BitVec.xor_zero]
def unB (k : Nat) (u : BitVec 64) : BitVec 64 := (u ^^^ u >>> k) ^^^ ((u ^^^ u >>> k) >>> (2 * k))
theorem un_fold (k : Nat) (hk : 16 ≤ k) (y : BitVec 64) : unB k (y ^^^ y >>> k) = y := by
  unfold unB
  rw [fold_shift y k (2 * k) (by omega), fold_shift y (2 * k) (4 * k) (by omega), far _ _ (by omega)]
theorem fold_un (k : Nat) (hk : 16 ≤ k) (y : BitVec 64) : unB k y ^^^ unB k y >>> k = y := by
  unfold unB
  generalize ha : y ^^^ y >>> k = a
  have hcomm : (a ^^^ a >>> (2 * k)) ^^^ ((a ^^^ a >>> (2 * k)) >>> k) = (a ^^^ a >>> k) ^^^ ((a ^^^ a >>> k) >>> (2 * k)) := by
    rw [BitVec.ushiftRight_xor_distrib, BitVec.ushiftRight_xor_distrib, ← BitVec.shiftRight_add, ← BitVec.shiftRight_add, Nat.add_comm k (2 * k)]
    rw [BitVec.xor_assoc, BitVec.xor_assoc, ← BitVec.xor_assoc (a >>> (2 * k)), ← BitVec.xor_assoc (a >>> k), BitVec.xor_comm (a >>> (2 * k)) (a >>> k)]
  rw [hcomm, ← ha, fold_shift y k (2 * k) (by omega), fold_shift y (2 * k) (4 * k) (by omega), far _ _ (by omega)]

theorem ilt_t {a b : Int} (h : a < b) : Ops.std.ilt a b = true := decide_eq_true h
theorem ilt_f {a b : Int} (h : ¬ a < b) : Ops.std.ilt a b = false := decide_eq_false h
theorem call30 (b : Nat) (h1 : 16 ≤ b) (h2 : 32 ≤ 2 * b) (h3 : 2 * b < 64) (h4 : 64 ≤ 4 * b) (x : BitVec 64) : (lim F).call 30 [u64 (n64 x), i64 b] [] = some (u64 (n64 (unB b x)), []) := by
  have e1 : Ops.std.ishr .u64 (n64 x) (b : Int) = n64 (x >>> b) := shr_n64 x b (by omega)
  have e2 : Ops.std.imul .i64 (b : Int) 2 = ((2 * b : Nat) : Int) := by rw [dbl_small (by omega) (by omega)]; omega
  have e3 : Ops.std.imul .i64 ((2 * b : Nat) : Int) 2 = ((4 * b : Nat) : Int) := by rw [dbl_small (by omega) (by omega)]; omega
  have e4 : ∀ y, Ops.std.ishr .u64 (n64 y) ((2 * b : Nat) : Int) = n64 (y >>> (2 * b)) := fun y => shr_n64 y (2 * b) (by omega)
  have d1 : Ops.std.ilt (b : Int) 64 = true := ilt_t (by omega)
  have d2 : Ops.std.ilt (b : Int) 0 = false := ilt_f (by omega)
  have d3 : Ops.std.ilt ((2 * b : Nat) : Int) 64 = true := ilt_t (by omega)
  have d4 : Ops.std.ilt ((2 * b : Nat) : Int) 0 = false := ilt_f (by omega)
  have d5 : Ops.std.ilt ((4 * b : Nat) : Int) 64 = false := ilt_f (by omega)
  have third : ∀ (y : BitVec 64) (j5 j6 j7 j8 j9 j10 j11 j12 j13 j14 : AV), (lim F).loop (.loop body30) ⟨[u64 (n64 y), i64 ((4 * b : Nat) : Int), .bad, .bad, u64 0, j5, j6, j7, j8, j9, j10, j11, j12, j13, j14], []⟩ =
      some (.brk 0, ⟨[u64 (n64 y), i64 ((4 * b : Nat) : Int), .bad, .bad, u64 0, i64 ((4 * b : Nat) : Int), bo false, j7, j8, j9, j10, j11, j12, j13, j14], []⟩) := fun y j5 j6 j7 j8 j9 j10 j11 j12 j13 j14 =>
    loop_lim ((round30 (iadd := Ops.std.iadd) (isub := Ops.std.isub) (imul := Ops.std.imul) (iquo := Ops.std.iquo) (irem := Ops.std.irem) (ibit := Ops.std.ibit) (ishl := Ops.std.ishl) (ishr := Ops.std.ishr) (iwrap := Ops.std.iwrap) (ieq := Ops.std.ieq) (ilt := Ops.std.ilt) (ile := Ops.std.ile) (beq := Ops.std.beq) (bnot := Ops.std.bnot) (seq := Ops.std.seq) (slt := Ops.std.slt) (sapp := Ops.std.sapp) (slen := Ops.std.slen) (sget := Ops.std.sget) (ssub := Ops.std.ssub) (llen := Ops.std.llen) (lget := Ops.std.lget) (lset := Ops.std.lset) (lapp := Ops.std.lapp) (lsub := Ops.std.lsub) (room := Ops.std.room) (call := (lim F).call) (loop := (lim F).loop) (n64 y) ((4 * b : Nat) : Int) j5 j6 j7 j8 j9 j10 j11 j12 j13 j14).trans (by rw [d5]))
  have second : ∀ (y : BitVec 64) (j5 j6 j7 j8 j9 j10 j11 j12 j13 j14 : AV), (lim F).loop (.loop body30) ⟨[u64 (n64 y), i64 ((2 * b : Nat) : Int), .bad, .bad, u64 0, j5, j6, j7, j8, j9, j10, j11, j12, j13, j14], []⟩ =
      some (.brk 0, ⟨[u64 (n64 (y ^^^ y >>> (2 * b))), i64 ((4 * b : Nat) : Int), .bad, .bad, u64 0, i64 ((4 * b : Nat) : Int), bo false, u64 (n64 y), u64 (n64 y), i64 ((2 * b : Nat) : Int), u64 (n64 (y >>> (2 * b))), u64 (n64 (y ^^^ y >>> (2 * b))), i64 ((2 * b : Nat) : Int), i64 ((4 * b : Nat) : Int), j14], []⟩) := fun y j5 j6 j7 j8 j9 j10 j11 j12 j13 j14 =>
    loop_lim ((round30 (iadd := Ops.std.iadd) (isub := Ops.std.isub) (imul := Ops.std.imul) (iquo := Ops.std.iquo) (irem := Ops.std.irem) (ibit := Ops.std.ibit) (ishl := Ops.std.ishl) (ishr := Ops.std.ishr) (iwrap := Ops.std.iwrap) (ieq := Ops.std.ieq) (ilt := Ops.std.ilt) (ile := Ops.std.ile) (beq := Ops.std.beq) (bnot := Ops.std.bnot) (seq := Ops.std.seq) (slt := Ops.std.slt) (sapp := Ops.std.sapp) (slen := Ops.std.slen) (sget := Ops.std.sget) (ssub := Ops.std.ssub) (llen := Ops.std.llen) (lget := Ops.std.lget) (lset := Ops.std.lset) (lapp := Ops.std.lapp) (lsub := Ops.std.lsub) (room := Ops.std.room) (call := (lim F).call) (loop := (lim F).loop) (n64 y) ((2 * b : Nat) : Int) j5 j6 j7 j8 j9 j10 j11 j12 j13 j14).trans (by
      rw [d3, d4]
      simp only []
      rw [e4, xor_n64, e3]
      exact third _ _ _ _ _ _ _ _ _ _ _))
  refine call_lim (fn := g30) rfl (run30 (iadd := Ops.std.iadd) (isub := Ops.std.isub) (imul := Ops.std.imul) (iquo := Ops.std.iquo) (irem := Ops.std.irem) (ibit := Ops.std.ibit) (ishl := Ops.std.ishl) (ishr := Ops.std.ishr) (iwrap := Ops.std.iwrap) (ieq := Ops.std.ieq) (ilt := Ops.std.ilt) (ile := Ops.std.ile) (beq := Ops.std.beq) (bnot := Ops.std.bnot) (seq := Ops.std.seq) (slt := Ops.std.slt) (sapp := Ops.std.sapp) (slen := Ops.std.slen) (sget := Ops.std.sget) (ssub := Ops.std.ssub) (llen := Ops.std.llen) (lget := Ops.std.lget) (lset := Ops.std.lset) (lapp := Ops.std.lapp) (lsub := Ops.std.lsub) (room := Ops.std.room) (call := (lim F).call) (loop := (lim F).loop) (n64 x) b (n64 (unB b x)) ((4 * b : Nat) : Int) d1 d2 (j5 := i64 ((4 * b : Nat) : Int)) (j6 := bo false) (j7 := u64 (n64 (x ^^^ x >>> b))) (j8 := u64 (n64 (x ^^^ x >>> b))) (j9 := i64 ((2 * b : Nat) : Int)) (j10 := u64 (n64 ((x ^^^ x >>> b) >>> (2 * b)))) (j11 := u64 (n64 ((x ^^^ x >>> b) ^^^ (x ^^^ x >>> b) >>> (2 * b)))) (j12 := i64 ((2 * b : Nat) : Int)) (j13 := i64 ((4 * b : Nat) : Int)) (j14 := .bad) ?_)
  rw [e1, xor_n64, e2]
  exact second _ _ _ _ _ _ _ _ _ _ _

def i1 : BitVec 64 := 10871156337175269513#64
def i2 : BitVec 64 := 3573116690164977347#64
theorem inv1 : (lim F).call 31 [u64 13787848793156543929] [] = some (u64 (n64 i1), []) := (le_lim 40).call _ _ _ _ (by kernel_rfl)
theorem inv2 : (lim F).call 31 [u64 10723151780598845931] [] = some (u64 (n64 i2), []) := (le_lim 40).call _ _ _ _ (by kernel_rfl)
theorem c1i1 : c1 * i1 = 1#64 := by decide +kernel
theorem c2i2 : c2 * i2 = 1#64 := by decide +kernel
def unmixB (u : BitVec 64) : BitVec 64 := unB 30 (unB 27 (unB 31 u * i2) * i1)

theorem call16 (u : BitVec 64) : (lim F).call 16 [u64 (n64 u)] [] = some (u64 (n64 (unmixB u)), []) := by
  refine call_lim (fn := g16) rfl (run16 (iadd := Ops.std.iadd) (isub := Ops.std.isub) (imul := Ops.std.imul) (iquo := Ops.std.iquo) (irem := Ops.std.irem) (ibit := Ops.std.ibit) (ishl := Ops.std.ishl) (ishr := Ops.std.ishr) (iwrap := Ops.std.iwrap) (ieq := Ops.std.ieq) (ilt := Ops.std.ilt) (ile := Ops.std.ile) (beq := Ops.std.beq) (bnot := Ops.std.bnot) (seq := Ops.std.seq) (slt := Ops.std.slt) (sapp := Ops.std.sapp) (slen := Ops.std.slen) (sget := Ops.std.sget) (ssub := Ops.std.ssub) (llen := Ops.std.llen) (lget := Ops.std.lget) (lset := Ops.std.lset) (lapp := Ops.std.lapp) (lsub := Ops.std.lsub) (room := Ops.std.room) (call := (lim F).call) (loop := (lim F).loop) (n64 u) (n64 (unB 31 u)) (n64 i2) (n64 (unB 27 (unB 31 u * i2))) (n64 i1) (n64 (unmixB u)) (call30 31 (by omega) (by omega) (by omega) (by omega) u) inv2 ?_ inv1 ?_)
  · rw [mul_n64]; exact call30 27 (by omega) (by omega) (by omega) (by omega) _
  · rw [mul_n64]; exact call30 30 (by omega) (by omega) (by omega) (by omega) _

theorem un_mix (u : BitVec 64) : unmixB (mixB u) = u := by
  unfold unmixB mixB
  simp only []
  rw [un_fold 31 (by omega), BitVec.mul_assoc, c2i2, BitVec.mul_one, un_fold 27 (by omega), BitVec.mul_assoc, c1i1, BitVec.mul_one, un_fold 30 (by omega)]
theorem mix_un (u : BitVec 64) : mixB (unmixB u) = u := by
  have i1c1 : i1 * c1 = 1#64 := by rw [BitVec.mul_comm, c1i1]
  have i2c2 : i2 * c2 = 1#64 := by rw [BitVec.mul_comm, c2i2]
  unfold unmixB mixB
  simp only []
  rw [fold_un 30 (by omega), BitVec.mul_assoc, i1c1, BitVec.mul_one, fold_un 27 (by omega), BitVec.mul_assoc, i2c2, BitVec.mul_one, fold_un 31 (by omega)]

theorem call5 (u v : BitVec 64) : (lim F).call 5 [u64 (n64 u), u64 (n64 v)] [] = some (bo true, []) := by
  refine call_lim (fn := g5) rfl (run5 (iadd := Ops.std.iadd) (isub := Ops.std.isub) (imul := Ops.std.imul) (iquo := Ops.std.iquo) (irem := Ops.std.irem) (ibit := Ops.std.ibit) (ishl := Ops.std.ishl) (ishr := Ops.std.ishr) (iwrap := Ops.std.iwrap) (ieq := Ops.std.ieq) (ilt := Ops.std.ilt) (ile := Ops.std.ile) (beq := Ops.std.beq) (bnot := Ops.std.bnot) (seq := Ops.std.seq) (slt := Ops.std.slt) (sapp := Ops.std.sapp) (slen := Ops.std.slen) (sget := Ops.std.sget) (ssub := Ops.std.ssub) (llen := Ops.std.llen) (lget := Ops.std.lget) (lset := Ops.std.lset) (lapp := Ops.std.lapp) (lsub := Ops.std.lsub) (room := Ops.std.room) (call := (lim F).call) (loop := (lim F).loop) (n64 u) (n64 v) (n64 (mixB u)) (n64 (mixB v)) (n64 (unmixB u)) (decide (n64 u = n64 v)) (decide (n64 (mixB u) = n64 (mixB v))) (call14 u) ?_ (call16 u) ?_ (call14 v) (decide_eq_true rfl) rfl rfl ?_ awake_is)
  · have := call16 (mixB u); rw [un_mix] at this; exact this
  · have := call14 (unmixB u); rw [mix_un] at this; exact this
  · show (decide (n64 u = n64 v) == decide (n64 (mixB u) = n64 (mixB v))) = true
    have h : (n64 u = n64 v) ↔ (n64 (mixB u) = n64 (mixB v)) := by
      rw [n64_inj, n64_inj]
      constructor
      · rintro rfl; rfl
      · intro h; rw [← un_mix u, h, un_mix]
    simp [h]

/-! ### Sums -/
def bt (s : ByteArray) (i : Nat) : BitVec 64 := BitVec.ofNat 64 (s.data.toList.getD i 0).toNat
def step (x : BitVec 64) (s : ByteArray) (i : Nat) : BitVec 64 := (x ^^^ bt s i) * 1099511628211#64
def sumB (s : ByteArray) : Nat → Nat → BitVec 64 → BitVec 64
  | 0, _, x => x
  | d + 1, i, x => sumB s d (i + 1) (step x s i)
theorem stp_is (x : BitVec 64) (s : ByteArray) (i : Nat) {c : Int} (hc : c = ((s.data.toList.getD i 0).toNat : Int)) : Ops.std.imul .u64 (Ops.std.ibit .xor .u64 (n64 x) (Ops.std.iwrap .u64 c)) 1099511628211 = n64 (step x s i) := by
  have e : Ops.std.iwrap .u64 c = n64 (bt s i) := by rw [hc]; exact wrap_nat _
  rw [e, xor_n64]
  exact mul_n64 _ 1099511628211#64

theorem sget_some (s : ByteArray) (i : Nat) (h : i < s.size) : ∃ c : Int, Ops.std.sget s (i : Int) = some c ∧ c = ((s.data.toList.getD i 0).toNat : Int) := by
  have h' : i < s.data.toList.length := by simpa using h
  refine ⟨((s.data.toList.getD i 0).toNat : Int), ?_, rfl⟩
  show (if 0 ≤ (i : Int) then (s[(i : Int).toNat]?).map (fun c => (c.toNat : Int)) else none) = _
  rw [if_pos (by omega)]
  simp [h, ByteArray.getElem_eq_getElem_data]
end Go.Ab.Try
