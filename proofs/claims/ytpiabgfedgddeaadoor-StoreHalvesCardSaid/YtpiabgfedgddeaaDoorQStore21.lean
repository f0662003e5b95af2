/- Our texts for this statement, merged: what its theorem leads to. -/
import Derived.LaidMore
import Derived.LaidOnce
import Derived.Lay
import Derived.Lib.LaidU8T
import Derived.PinnedBridge
import Derived.Test.YtpiabgfedgddeaaDoorRows
import Derived.Test.YtpiabgfedgddeaaDoorQStore20
namespace Go.Ab.Tryd
open Go Go.Ab Go.Proofs Go.Lib Go.Shelf
def laidL : List (String × DataW Unit) := [("unicode/utf8.acceptRanges", Go.Proofs.YtpiabgfedgddeaaDoor.Rows.laid_unicode_utf8_acceptRanges), ("unicode/utf8.first", Go.Proofs.YtpiabgfedgddeaaDoor.Rows.laid_unicode_utf8_first)]
theorem acc_eq : (Go.Proofs.YtpiabgfedgddeaaDoor.Rows.laid_unicode_utf8_acceptRanges : DataW Unit) = acceptData := by kernel_rfl
theorem fst_eq : Go.Proofs.YtpiabgfedgddeaaDoor.Rows.laid_unicode_utf8_first = firstData := Pinned.utf8First_eq
theorem u8t : U8Types Tryd.prog Tryd.dec126_ren := { Tryd.dec126 with }
theorem u8x : U8Extra Tryd.prog Tryd.dec126_ren := ⟨by kernel_rfl, by kernel_rfl, by kernel_rfl, by kernel_rfl, by kernel_rfl, by kernel_rfl, by kernel_rfl⟩
theorem tabs_of {W : World} (h : laidMetH Tryd.prog laidL W) : tabs ⟨W.heap.size, W⟩ := by
  rw [MakeChecks.laidMetH_plain _ _ _ (by kernel_rfl)] at h
  have T := utf8Tabs_of_readsT u8t u8x (fst_eq ▸ Lib.laidMet.reads h (.tail _ (.head _))) (acc_eq ▸ Lib.laidMet.reads h (.head _))
  exact ⟨World.block_lt_of_cell? _ _ (T.1 0 (by omega)), World.block_lt_of_cell? _ _ (T.2 0 (by omega)).1, T⟩
end Go.Ab.Tryd
