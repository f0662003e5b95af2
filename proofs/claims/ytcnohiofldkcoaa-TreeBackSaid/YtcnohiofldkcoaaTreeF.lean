/- The functions of chapter 11 and of its reference, as the interpreter has them; its first examples. -/
import Derived.Test.YtcnohiofldkcoaaIr
import Derived.Test.YtcnohiofldkcoaaPrims
namespace Go.Ab.Try
open Go Go.Ab Go.Proofs
def F : FuncId → Option Fn
  | 6 => some g6
  | 7 => some g7
  | 8 => some g8
  | 17 => some g17
  | 18 => some g18
  | 19 => some g19
  | 20 => some g20
  | 21 => some g21
  | 22 => some g22
  | 23 => some g23
  | 24 => some g24
  | 25 => some g25
  | 26 => some g26
  | 27 => some g27
  | 28 => some g28
  | 32 => some g32
  | 33 => some g33
  | 34 => some g34
  | 35 => some g35
  | 36 => some g36
  | 37 => some g37
  | 38 => some g38
  | 39 => some g39
  | 40 => some g40
  | 41 => some g41
  | 42 => some g42
  | 43 => some g43
  | 46 => some g46
  | 47 => some g47
  | 48 => some g48
  | 55 => some g55
  | 56 => some g56
  | 57 => some g57
  | _ => none
theorem F_ok : ∀ f fn, F f = some fn → ∃ keep fz, cmpFn Try.prog keep fz f = some fn := by
  intro f fn h
  unfold F at h
  split at h
  · cases h; exact ⟨_, _, cmp6⟩
  · cases h; exact ⟨_, _, cmp7⟩
  · cases h; exact ⟨_, _, cmp8⟩
  · cases h; exact ⟨_, _, cmp17⟩
  · cases h; exact ⟨_, _, cmp18⟩
  · cases h; exact ⟨_, _, cmp19⟩
  · cases h; exact ⟨_, _, cmp20⟩
  · cases h; exact ⟨_, _, cmp21⟩
  · cases h; exact ⟨_, _, cmp22⟩
  · cases h; exact ⟨_, _, cmp23⟩
  · cases h; exact ⟨_, _, cmp24⟩
  · cases h; exact ⟨_, _, cmp25⟩
  · cases h; exact ⟨_, _, cmp26⟩
  · cases h; exact ⟨_, _, cmp27⟩
  · cases h; exact ⟨_, _, cmp28⟩
  · cases h; exact ⟨_, _, cmp32⟩
  · cases h; exact ⟨_, _, cmp33⟩
  · cases h; exact ⟨_, _, cmp34⟩
  · cases h; exact ⟨_, _, cmp35⟩
  · cases h; exact ⟨_, _, cmp36⟩
  · cases h; exact ⟨_, _, cmp37⟩
  · cases h; exact ⟨_, _, cmp38⟩
  · cases h; exact ⟨_, _, cmp39⟩
  · cases h; exact ⟨_, _, cmp40⟩
  · cases h; exact ⟨_, _, cmp41⟩
  · cases h; exact ⟨_, _, cmp42⟩
  · cases h; exact ⟨_, _, cmp43⟩
  · cases h; exact ⟨_, _, cmp46⟩
  · cases h; exact ⟨_, _, cmp47⟩
  · cases h; exact ⟨_, _, cmp48⟩
  · cases h; exact ⟨_, _, cmp55⟩
  · cases h; exact ⟨_, _, cmp56⟩
  · cases h; exact ⟨_, _, cmp57⟩
  · cases h
theorem awake : (lim F pr).call 18 [] [] = some (.sc (.bool true), []) := (le_lim 40).call _ _ _ _ (by kernel_rfl)
end Go.Ab.Try
