/- The library's functions that the interpreter has as one step, at this program. -/
import Derived.Test.YtcnohiofldkcoabProg
import Derived.Test.YtcnohiofldkcoabAbPrim4
import Derived.Shelf.SlGeneric
namespace Go.Proofs
open Go.Shelf
def Try.clone37_ren : Go.Shelf.Ren := ⟨fun | 41 => 37 | n => n, fun | 22 => 26 | 23 => 41 | 4 => 4 | n => n, fun | n => n⟩
theorem Try.clone37 : Go.Proofs.SlLaysE0.n41 Try.prog Try.clone37_ren where
  mixed := by kernel_rfl
  f41 := ⟨Try.f37.name, by decide, Try.func37.trans (congrArg some (by kernel_rfl))⟩
  t4 := Try.underlying4
  a4 := Try.isAgg4
  z4 := Try.sizeOf4
  v4 := Try.zeroValue4
  t22 := Try.underlying26
  a22 := Try.isAgg26
  z22 := Try.sizeOf26
  v22 := Try.zeroValue26
def Try.ins40_ren : Go.Shelf.Ren := ⟨fun | 22 => 40 | 29 => 60 | 30 => 61 | 36 => 68 | 17 => 74 | n => n, fun | 24 => 26 | 9 => 41 | 3 => 3 | 4 => 4 | 0 => 0 | n => n, fun | n => n⟩
theorem Try.ins40 : Go.Ab.InsBase Try.prog Try.ins40_ren where
  mixed := by kernel_rfl
  f22 := ⟨Try.f40.name, by decide, Try.func40.trans (congrArg some (by kernel_rfl))⟩
  t0 := Try.underlying0
  a0 := Try.isAgg0
  z0 := Try.sizeOf0
  v0 := Try.zeroValue0
  t3 := Try.underlying3
  a3 := Try.isAgg3
  z3 := Try.sizeOf3
  v3 := Try.zeroValue3
  t4 := Try.underlying4
  a4 := Try.isAgg4
  z4 := Try.sizeOf4
  v4 := Try.zeroValue4
  t24 := Try.underlying26
  a24 := Try.isAgg26
  z24 := Try.sizeOf26
  v24 := Try.zeroValue26

theorem Try.over60 (args : Array Value) (w : World) (v : Value) (h : (Extern.SlicesOverlaps.overlaps #[Try.ins40_ren.t 24, Try.ins40_ren.t 24] #[Try.ins40_ren.t 4] args).run Try.prog w = .ok v w) : (callFunc (Try.ins40_ren.f 29) args).run Try.prog w = .ok (.value v) w := by
  show (callFunc 60 args).run Try.prog w = _
  rw [run_callFunc_extern Try.func60 (by kernel_rfl) (by kernel_rfl) (by kernel_rfl) (e := Extern.SlicesOverlaps.overlaps #[Try.ins40_ren.t 24, Try.ins40_ren.t 24] #[Try.ins40_ren.t 4]) (by kernel_rfl), h]
  rfl
end Go.Proofs

namespace Go.Ab.Try
open Go Go.Ab Go.Proofs
def pr : FuncId → Option Prim
  | 37 => some (.clone 41 24)
  | 40 => some (.insert 41 24)
  | 41 => some .mv
  | 42 => some .mv
  | _ => none
theorem zero41 : zeroOf Try.prog 41 = some (.agg [.sc (.int .u64 0), .sc (.int .u16 0), .sc (.int .i64 0)]) := by kernel_rfl
theorem cells41 : Try.prog.cellsOf 41 = 3 := by kernel_rfl
theorem bytes41 : Try.prog.bytesOf 41 = 24 := by kernel_rfl
theorem pr_ok : ∀ base f p, pr f = some p → PrimOk Try.prog base f p := by
  intro base f p h
  unfold pr at h
  split at h
  · cases h
    have := clone_ok (base := base) (P := Try.prog) (ρ := Try.clone37_ren) Try.clone37 zero41 (by show 0 < Try.prog.cellsOf 41; rw [cells41]; omega)
    rw [show Try.prog.bytesOf (Try.clone37_ren.t 23) = 24 from bytes41] at this
    exact this
  · cases h
    have := insert_ok (base := base) (P := Try.prog) (ρ := Try.ins40_ren) { Try.ins40 with ov := Try.over60 } zero41 (by show 0 < Try.prog.cellsOf 41; rw [cells41]; omega)
    rw [show Try.prog.bytesOf (Try.ins40_ren.t 9) = 24 from bytes41] at this
    exact this
  · cases h; exact mv_ok Try.func41 (by kernel_rfl) (by decide)
  · cases h; exact mv_ok Try.func42 (by kernel_rfl) (by decide)
  · cases h
end Go.Ab.Try
