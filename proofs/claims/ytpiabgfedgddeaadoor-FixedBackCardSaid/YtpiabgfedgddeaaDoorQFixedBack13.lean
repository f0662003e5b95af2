/- Our texts for this statement, merged: what its theorem leads to. -/
import Derived.Lib.DecodeN
import Derived.Test.YtpiabgfedgddeaaDoorQFixedBack12
namespace Go.Ab.Tryd
open Go Go.Ab Go.Proofs Go.Lib
set_option linter.unusedVariables false
set_option linter.unusedSimpArgs false
theorem i64_add {a b : Nat} (h : a + b < 9223372036854775808) : Ops.std.iadd .i64 (a : Int) (b : Int) = ((a + b : Nat) : Int) := by
  show IntKind.i64.wrap _ = _
  unfold IntKind.wrap
  simp [IntKind.signed, IntKind.bits]
  omega
theorem slen_nat (s : ByteArray) : Ops.std.slen s = (s.size : Int) := rfl
def tl (b : Nat) : Bool := decide (128 ≤ b ∧ b ≤ 191)
section
variable {s : ByteArray} {i : Nat} (hi : i < s.size) (hs : s.size < 4611686018427387904)
include hi hs
end
end Go.Ab.Tryd
