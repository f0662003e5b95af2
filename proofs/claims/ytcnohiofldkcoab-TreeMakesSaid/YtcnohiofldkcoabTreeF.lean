/- The functions, as the interpreter has them; the first examples. -/
import Derived.Test.YtcnohiofldkcoabIr
import Derived.Test.YtcnohiofldkcoabPrims
namespace Go.Ab.Try
open Go Go.Ab Go.Proofs
def F : FuncId → Option Fn
  | 6 => some g6
  | 28 => some g28
  | 29 => some g29
  | 30 => some g30
  | 31 => some g31
  | 32 => some g32
  | 33 => some g33
  | 34 => some g34
  | 35 => some g35
  | 36 => some g36
  | 50 => some g50
  | 51 => some g51
  | 52 => some g52
  | 53 => some g53
  | 54 => some g54
  | 57 => some g57
  | 58 => some g58
  | 59 => some g59
  | 62 => some g62
  | 63 => some g63
  | 64 => some g64
  | 67 => some g67
  | 73 => some g73
  | 77 => some g77
  | 78 => some g78
  | 79 => some g79
  | _ => none
theorem F_ok : ∀ f fn, F f = some fn → ∃ keep fz, cmpFn Try.prog keep fz f = some fn := by
  intro f fn h
  unfold F at h
  split at h
  · cases h; exact ⟨_, _, cmp6⟩
  · cases h; exact ⟨_, _, cmp28⟩
  · cases h; exact ⟨_, _, cmp29⟩
  · cases h; exact ⟨_, _, cmp30⟩
  · cases h; exact ⟨_, _, cmp31⟩
  · cases h; exact ⟨_, _, cmp32⟩
  · cases h; exact ⟨_, _, cmp33⟩
  · cases h; exact ⟨_, _, cmp34⟩
  · cases h; exact ⟨_, _, cmp35⟩
  · cases h; exact ⟨_, _, cmp36⟩
  · cases h; exact ⟨_, _, cmp50⟩
  · cases h; exact ⟨_, _, cmp51⟩
  · cases h; exact ⟨_, _, cmp52⟩
  · cases h; exact ⟨_, _, cmp53⟩
  · cases h; exact ⟨_, _, cmp54⟩
  · cases h; exact ⟨_, _, cmp57⟩
  · cases h; exact ⟨_, _, cmp58⟩
  · cases h; exact ⟨_, _, cmp59⟩
  · cases h; exact ⟨_, _, cmp62⟩
  · cases h; exact ⟨_, _, cmp63⟩
  · cases h; exact ⟨_, _, cmp64⟩
  · cases h; exact ⟨_, _, cmp67⟩
  · cases h; exact ⟨_, _, cmp73⟩
  · cases h; exact ⟨_, _, cmp77⟩
  · cases h; exact ⟨_, _, cmp78⟩
  · cases h; exact ⟨_, _, cmp79⟩
  · cases h
theorem awake : (lim F pr).call 29 [] [] = some (.sc (.bool true), []) := (le_lim 40).call _ _ _ _ (by kernel_rfl)
end Go.Ab.Try
