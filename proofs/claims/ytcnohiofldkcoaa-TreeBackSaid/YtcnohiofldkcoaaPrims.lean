/- The library's functions that the interpreter has as one step, at this program: slices.Clone and slices.Insert of texts and of trees. -/
import Derived.Test.YtcnohiofldkcoaaProg
import Derived.Test.YtcnohiofldkcoaaAbPrim4
import Derived.Shelf.SlGeneric
namespace Go.Proofs
open Go.Shelf
def Try.clone49_ren : Go.Shelf.Ren := ⟨fun | 41 => 49 | n => n, fun | 22 => 29 | 23 => 9 | 4 => 4 | n => n, fun | n => n⟩
theorem Try.clone49 : Go.Proofs.SlLaysE0.n41 Try.prog Try.clone49_ren where
  mixed := by kernel_rfl
  f41 := ⟨Try.f49.name, by decide, Try.func49.trans (congrArg some (by kernel_rfl))⟩
  t4 := Try.underlying4
  a4 := Try.isAgg4
  z4 := Try.sizeOf4
  v4 := Try.zeroValue4
  t22 := Try.underlying29
  a22 := Try.isAgg29
  z22 := Try.sizeOf29
  v22 := Try.zeroValue29
def Try.clone50_ren : Go.Shelf.Ren := ⟨fun | 41 => 50 | n => n, fun | 22 => 30 | 23 => 32 | 4 => 4 | n => n, fun | n => n⟩
theorem Try.clone50 : Go.Proofs.SlLaysE0.n41 Try.prog Try.clone50_ren where
  mixed := by kernel_rfl
  f41 := ⟨Try.f50.name, by decide, Try.func50.trans (congrArg some (by kernel_rfl))⟩
  t4 := Try.underlying4
  a4 := Try.isAgg4
  z4 := Try.sizeOf4
  v4 := Try.zeroValue4
  t22 := Try.underlying30
  a22 := Try.isAgg30
  z22 := Try.sizeOf30
  v22 := Try.zeroValue30
def Try.ins44_ren : Go.Shelf.Ren := ⟨fun | 22 => 44 | 29 => 51 | 30 => 52 | 36 => 58 | 17 => 60 | n => n, fun | 24 => 29 | 9 => 9 | 3 => 3 | 4 => 4 | 0 => 0 | n => n, fun | n => n⟩
theorem Try.ins44 : Go.Ab.InsBase Try.prog Try.ins44_ren where
  mixed := by kernel_rfl
  f22 := ⟨Try.f44.name, by decide, Try.func44.trans (congrArg some (by kernel_rfl))⟩
  t0 := Try.underlying0
  a0 := Try.isAgg0
  z0 := Try.sizeOf0
  v0 := Try.zeroValue0
  t3 := Try.underlying3
  a3 := Try.isAgg3
  z3 := Try.sizeOf3
  v3 := Try.zeroValue3
  t4 := Try.underlying4
  a4 := Try.isAgg4
  z4 := Try.sizeOf4
  v4 := Try.zeroValue4
  t24 := Try.underlying29
  a24 := Try.isAgg29
  z24 := Try.sizeOf29
  v24 := Try.zeroValue29
def Try.ins45_ren : Go.Shelf.Ren := ⟨fun | 22 => 45 | 29 => 53 | 30 => 54 | 36 => 59 | 17 => 61 | n => n, fun | 24 => 30 | 9 => 32 | 3 => 3 | 4 => 4 | 0 => 0 | n => n, fun | n => n⟩
theorem Try.ins45 : Go.Ab.InsBase Try.prog Try.ins45_ren where
  mixed := by kernel_rfl
  f22 := ⟨Try.f45.name, by decide, Try.func45.trans (congrArg some (by kernel_rfl))⟩
  t0 := Try.underlying0
  a0 := Try.isAgg0
  z0 := Try.sizeOf0
  v0 := Try.zeroValue0
  t3 := Try.underlying3
  a3 := Try.isAgg3
  z3 := Try.sizeOf3
  v3 := Try.zeroValue3
  t4 := Try.underlying4
  a4 := Try.isAgg4
  z4 := Try.sizeOf4
  v4 := Try.zeroValue4
  t24 := Try.underlying30
  a24 := Try.isAgg30
  z24 := Try.sizeOf30
  v24 := Try.zeroValue30

theorem Try.over51 (args : Array Value) (w : World) (v : Value) (h : (Extern.SlicesOverlaps.overlaps #[Try.ins44_ren.t 24, Try.ins44_ren.t 24] #[Try.ins44_ren.t 4] args).run Try.prog w = .ok v w) : (callFunc (Try.ins44_ren.f 29) args).run Try.prog w = .ok (.value v) w := by
  show (callFunc 51 args).run Try.prog w = _
  rw [run_callFunc_extern Try.func51 (by kernel_rfl) (by kernel_rfl) (by kernel_rfl) (e := Extern.SlicesOverlaps.overlaps #[Try.ins44_ren.t 24, Try.ins44_ren.t 24] #[Try.ins44_ren.t 4]) (by kernel_rfl), h]
  rfl
theorem Try.over53 (args : Array Value) (w : World) (v : Value) (h : (Extern.SlicesOverlaps.overlaps #[Try.ins45_ren.t 24, Try.ins45_ren.t 24] #[Try.ins45_ren.t 4] args).run Try.prog w = .ok v w) : (callFunc (Try.ins45_ren.f 29) args).run Try.prog w = .ok (.value v) w := by
  show (callFunc 53 args).run Try.prog w = _
  rw [run_callFunc_extern Try.func53 (by kernel_rfl) (by kernel_rfl) (by kernel_rfl) (e := Extern.SlicesOverlaps.overlaps #[Try.ins45_ren.t 24, Try.ins45_ren.t 24] #[Try.ins45_ren.t 4]) (by kernel_rfl), h]
  rfl
end Go.Proofs

namespace Go.Ab.Try
open Go Go.Ab Go.Proofs
def pr : FuncId → Option Prim
  | 44 => some (.insert 9 16)
  | 45 => some (.insert 32 80)
  | 49 => some (.clone 9 16)
  | 50 => some (.clone 32 80)
  | _ => none
theorem zero9 : zeroOf Try.prog 9 = some (.sc (.string ⟨#[]⟩)) := by kernel_rfl
theorem zero32 : zeroOf Try.prog 32 = some (.agg [.sc (.int .i64 0), .sc (.int .i64 0), .sc (.string ⟨#[]⟩), .lit 0 true [], .lit 0 true []]) := by kernel_rfl
theorem cells9 : Try.prog.cellsOf 9 = 1 := by kernel_rfl
theorem cells32 : Try.prog.cellsOf 32 = 5 := by kernel_rfl
theorem bytes9 : Try.prog.bytesOf 9 = 16 := by kernel_rfl
theorem bytes32 : Try.prog.bytesOf 32 = 80 := by kernel_rfl
theorem pr_ok : ∀ base f p, pr f = some p → PrimOk Try.prog base f p := by
  intro base f p h
  unfold pr at h
  split at h
  · cases h
    have := insert_ok (base := base) (P := Try.prog) (ρ := Try.ins44_ren) { Try.ins44 with ov := Try.over51 } zero9 (by show 0 < Try.prog.cellsOf 9; rw [cells9]; omega)
    rw [show Try.prog.bytesOf (Try.ins44_ren.t 9) = 16 from bytes9] at this
    exact this
  · cases h
    have := insert_ok (base := base) (P := Try.prog) (ρ := Try.ins45_ren) { Try.ins45 with ov := Try.over53 } zero32 (by show 0 < Try.prog.cellsOf 32; rw [cells32]; omega)
    rw [show Try.prog.bytesOf (Try.ins45_ren.t 9) = 80 from bytes32] at this
    exact this
  · cases h
    have := clone_ok (base := base) (P := Try.prog) (ρ := Try.clone49_ren) Try.clone49 zero9 (by show 0 < Try.prog.cellsOf 9; rw [cells9]; omega)
    rw [show Try.prog.bytesOf (Try.clone49_ren.t 23) = 16 from bytes9] at this
    exact this
  · cases h
    have := clone_ok (base := base) (P := Try.prog) (ρ := Try.clone50_ren) Try.clone50 zero32 (by show 0 < Try.prog.cellsOf 32; rw [cells32]; omega)
    rw [show Try.prog.bytesOf (Try.clone50_ren.t 23) = 80 from bytes32] at this
    exact this
  · cases h
end Go.Ab.Try
