/- What the work on data says of numbers and lists; lists met from their heads on. -/
import Derived.Test.YtcnohiofldkcoabAbLaw
namespace Go.Ab
open Go
set_option linter.unusedVariables false

abbrev i64 (x : Int) : AV := .sc (.int .i64 x)
abbrev u64 (x : Int) : AV := .sc (.int .u64 x)
abbrev bo (x : Bool) : AV := .sc (.bool x)
abbrev str (x : ByteArray) : AV := .sc (.string x)
abbrev vI (x : Int) : AV := .sc (.int .i64 x)
abbrev vU (x : Int) : AV := .sc (.int .u64 x)
abbrev vW (x : Int) : AV := .sc (.int .u32 x)
abbrev vH (x : Int) : AV := .sc (.int .u16 x)
abbrev vB (x : Int) : AV := .sc (.int .u8 x)
abbrev vF (x : Bool) : AV := .sc (.bool x)
abbrev vT (x : ByteArray) : AV := .sc (.string x)

theorem iltT {a b : Int} (h : a < b) : Ops.std.ilt a b = true := decide_eq_true h
theorem iltF {a b : Int} (h : ¬ a < b) : Ops.std.ilt a b = false := decide_eq_false h
theorem ileT {a b : Int} (h : a ≤ b) : Ops.std.ile a b = true := decide_eq_true h
theorem ileF {a b : Int} (h : ¬ a ≤ b) : Ops.std.ile a b = false := decide_eq_false h
theorem ieqT {a b : Int} (h : a = b) : Ops.std.ieq a b = true := decide_eq_true h
theorem ieqF {a b : Int} (h : ¬ a = b) : Ops.std.ieq a b = false := decide_eq_false h
theorem ilt_iff {a b : Int} : Ops.std.ilt a b = true ↔ a < b := by simp [Ops.std]
theorem ieq_iff {a b : Int} : Ops.std.ieq a b = true ↔ a = b := by simp [Ops.std]

theorem wrap64 {x : Int} (h1 : -9223372036854775808 ≤ x) (h2 : x ≤ 9223372036854775807) : IntKind.i64.wrap x = x := by
  rw [IntKind.wrap_i64]; omega
theorem iaddS {a b : Int} (h1 : -9223372036854775808 ≤ a + b) (h2 : a + b ≤ 9223372036854775807) : Ops.std.iadd .i64 a b = a + b := wrap64 h1 h2
theorem isubS {a b : Int} (h1 : -9223372036854775808 ≤ a - b) (h2 : a - b ≤ 9223372036854775807) : Ops.std.isub .i64 a b = a - b := wrap64 h1 h2
theorem iadd1 {n : Nat} (h : n < 9223372036854775807) : Ops.std.iadd .i64 (n : Int) 1 = ((n + 1 : Nat) : Int) := by rw [iaddS (by omega) (by omega)]; omega

theorem llen_is (xs : List AV) : Ops.std.llen xs = (xs.length : Int) := rfl
theorem slen_is (s : ByteArray) : Ops.std.slen s = (s.size : Int) := rfl
theorem lget_in {xs : List AV} {i : Nat} (h : i < xs.length) : Ops.std.lget xs (i : Int) = some xs[i] := by
  simp [Ops.std, h]
theorem lget_mid {pre rest : List AV} {x : AV} : Ops.std.lget (pre ++ x :: rest) (pre.length : Int) = some x := by
  rw [lget_in (by simp)]; simp
theorem more {pre rest : List AV} {x : AV} : Ops.std.ilt (pre.length : Int) (Ops.std.llen (pre ++ x :: rest)) = true := by
  refine iltT ?_
  rw [llen_is]; simp; omega
theorem done {pre : List AV} : Ops.std.ilt (pre.length : Int) (Ops.std.llen pre) = false := by
  refine iltF ?_
  rw [llen_is]; omega
end Go.Ab
namespace Go.Ab
open Go
section
variable {α : Type} {f : α → AV} {pre rest : List α} {x : α}
theorem moreM : Ops.std.ilt (pre.length : Int) (Ops.std.llen ((pre ++ x :: rest).map f)) = true := by
  refine iltT ?_
  rw [llen_is]; simp; omega
theorem lgetM : Ops.std.lget ((pre ++ x :: rest).map f) (pre.length : Int) = some (f x) := by
  rw [lget_in (by simp)]; simp
theorem doneM : Ops.std.ilt (pre.length : Int) (Ops.std.llen ((pre ++ []).map f)) = false := by
  refine iltF ?_
  rw [llen_is]; simp
theorem stepM (h : pre.length < 9223372036854775807) : Ops.std.iadd .i64 (pre.length : Int) 1 = ((pre ++ [x]).length : Int) := by
  rw [iadd1 h]; simp
theorem llenM {l : List α} : Ops.std.llen (l.map f) = (l.length : Int) := by rw [llen_is]; simp
end
end Go.Ab
