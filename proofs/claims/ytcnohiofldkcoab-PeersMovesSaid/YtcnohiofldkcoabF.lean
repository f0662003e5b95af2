/- The functions, as the interpreter has them. -/
import Derived.Test.YtcnohiofldkcoabIr
namespace Go.Ab.Try
open Go Go.Ab Go.Proofs
def F : FuncId → Option Fn
  | 3 => some g3
  | 4 => some g4
  | 5 => some g5
  | 7 => some g7
  | 8 => some g8
  | 9 => some g9
  | 10 => some g10
  | 11 => some g11
  | 12 => some g12
  | 13 => some g13
  | 14 => some g14
  | 15 => some g15
  | 16 => some g16
  | 17 => some g17
  | 18 => some g18
  | 19 => some g19
  | 20 => some g20
  | 21 => some g21
  | 22 => some g22
  | 23 => some g23
  | 24 => some g24
  | 25 => some g25
  | 26 => some g26
  | 27 => some g27
  | 38 => some g38
  | 39 => some g39
  | 41 => some g41
  | 42 => some g42
  | 43 => some g43
  | 44 => some g44
  | 45 => some g45
  | 46 => some g46
  | 47 => some g47
  | 48 => some g48
  | 49 => some g49
  | _ => none
theorem F_ok : ∀ f fn, F f = some fn → ∃ md fz, cmpFn Try.prog md fz f = some fn := by
  intro f fn h
  unfold F at h
  split at h
  · cases h; exact ⟨_, _, cmp3⟩
  · cases h; exact ⟨_, _, cmp4⟩
  · cases h; exact ⟨_, _, cmp5⟩
  · cases h; exact ⟨_, _, cmp7⟩
  · cases h; exact ⟨_, _, cmp8⟩
  · cases h; exact ⟨_, _, cmp9⟩
  · cases h; exact ⟨_, _, cmp10⟩
  · cases h; exact ⟨_, _, cmp11⟩
  · cases h; exact ⟨_, _, cmp12⟩
  · cases h; exact ⟨_, _, cmp13⟩
  · cases h; exact ⟨_, _, cmp14⟩
  · cases h; exact ⟨_, _, cmp15⟩
  · cases h; exact ⟨_, _, cmp16⟩
  · cases h; exact ⟨_, _, cmp17⟩
  · cases h; exact ⟨_, _, cmp18⟩
  · cases h; exact ⟨_, _, cmp19⟩
  · cases h; exact ⟨_, _, cmp20⟩
  · cases h; exact ⟨_, _, cmp21⟩
  · cases h; exact ⟨_, _, cmp22⟩
  · cases h; exact ⟨_, _, cmp23⟩
  · cases h; exact ⟨_, _, cmp24⟩
  · cases h; exact ⟨_, _, cmp25⟩
  · cases h; exact ⟨_, _, cmp26⟩
  · cases h; exact ⟨_, _, cmp27⟩
  · cases h; exact ⟨_, _, cmp38⟩
  · cases h; exact ⟨_, _, cmp39⟩
  · cases h; exact ⟨_, _, cmp41⟩
  · cases h; exact ⟨_, _, cmp42⟩
  · cases h; exact ⟨_, _, cmp43⟩
  · cases h; exact ⟨_, _, cmp44⟩
  · cases h; exact ⟨_, _, cmp45⟩
  · cases h; exact ⟨_, _, cmp46⟩
  · cases h; exact ⟨_, _, cmp47⟩
  · cases h; exact ⟨_, _, cmp48⟩
  · cases h; exact ⟨_, _, cmp49⟩
  · cases h
end Go.Ab.Try
