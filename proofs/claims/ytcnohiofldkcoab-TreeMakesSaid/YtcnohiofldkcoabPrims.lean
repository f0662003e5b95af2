/- The library's functions that the interpreter has as one step, at this program. -/
import Derived.Test.YtcnohiofldkcoabProg
import Derived.Test.YtcnohiofldkcoabAbPrim4
import Derived.Shelf.SlGeneric
namespace Go.Proofs
open Go.Shelf
def Try.clone55_ren : Go.Shelf.Ren := ⟨fun | 41 => 55 | n => n, fun | 22 => 43 | 23 => 9 | 4 => 4 | n => n, fun | n => n⟩
theorem Try.clone55 : Go.Proofs.SlLaysE0.n41 Try.prog Try.clone55_ren where
  mixed := by kernel_rfl
  f41 := ⟨Try.f55.name, by decide, Try.func55.trans (congrArg some (by kernel_rfl))⟩
  t4 := Try.underlying4
  a4 := Try.isAgg4
  z4 := Try.sizeOf4
  v4 := Try.zeroValue4
  t22 := Try.underlying43
  a22 := Try.isAgg43
  z22 := Try.sizeOf43
  v22 := Try.zeroValue43
def Try.clone56_ren : Go.Shelf.Ren := ⟨fun | 41 => 56 | n => n, fun | 22 => 42 | 23 => 45 | 4 => 4 | n => n, fun | n => n⟩
theorem Try.clone56 : Go.Proofs.SlLaysE0.n41 Try.prog Try.clone56_ren where
  mixed := by kernel_rfl
  f41 := ⟨Try.f56.name, by decide, Try.func56.trans (congrArg some (by kernel_rfl))⟩
  t4 := Try.underlying4
  a4 := Try.isAgg4
  z4 := Try.sizeOf4
  v4 := Try.zeroValue4
  t22 := Try.underlying42
  a22 := Try.isAgg42
  z22 := Try.sizeOf42
  v22 := Try.zeroValue42
def Try.ins65_ren : Go.Shelf.Ren := ⟨fun | 22 => 65 | 29 => 69 | 30 => 70 | 36 => 75 | 17 => 80 | n => n, fun | 24 => 43 | 9 => 9 | 3 => 3 | 4 => 4 | 0 => 0 | n => n, fun | n => n⟩
theorem Try.ins65 : Go.Ab.InsBase Try.prog Try.ins65_ren where
  mixed := by kernel_rfl
  f22 := ⟨Try.f65.name, by decide, Try.func65.trans (congrArg some (by kernel_rfl))⟩
  t0 := Try.underlying0
  a0 := Try.isAgg0
  z0 := Try.sizeOf0
  v0 := Try.zeroValue0
  t3 := Try.underlying3
  a3 := Try.isAgg3
  z3 := Try.sizeOf3
  v3 := Try.zeroValue3
  t4 := Try.underlying4
  a4 := Try.isAgg4
  z4 := Try.sizeOf4
  v4 := Try.zeroValue4
  t24 := Try.underlying43
  a24 := Try.isAgg43
  z24 := Try.sizeOf43
  v24 := Try.zeroValue43
def Try.ins66_ren : Go.Shelf.Ren := ⟨fun | 22 => 66 | 29 => 71 | 30 => 72 | 36 => 76 | 17 => 81 | n => n, fun | 24 => 42 | 9 => 45 | 3 => 3 | 4 => 4 | 0 => 0 | n => n, fun | n => n⟩
theorem Try.ins66 : Go.Ab.InsBase Try.prog Try.ins66_ren where
  mixed := by kernel_rfl
  f22 := ⟨Try.f66.name, by decide, Try.func66.trans (congrArg some (by kernel_rfl))⟩
  t0 := Try.underlying0
  a0 := Try.isAgg0
  z0 := Try.sizeOf0
  v0 := Try.zeroValue0
  t3 := Try.underlying3
  a3 := Try.isAgg3
  z3 := Try.sizeOf3
  v3 := Try.zeroValue3
  t4 := Try.underlying4
  a4 := Try.isAgg4
  z4 := Try.sizeOf4
  v4 := Try.zeroValue4
  t24 := Try.underlying42
  a24 := Try.isAgg42
  z24 := Try.sizeOf42
  v24 := Try.zeroValue42

theorem Try.over69 (args : Array Value) (w : World) (v : Value) (h : (Extern.SlicesOverlaps.overlaps #[Try.ins65_ren.t 24, Try.ins65_ren.t 24] #[Try.ins65_ren.t 4] args).run Try.prog w = .ok v w) : (callFunc (Try.ins65_ren.f 29) args).run Try.prog w = .ok (.value v) w := by
  show (callFunc 69 args).run Try.prog w = _
  rw [run_callFunc_extern Try.func69 (by kernel_rfl) (by kernel_rfl) (by kernel_rfl) (e := Extern.SlicesOverlaps.overlaps #[Try.ins65_ren.t 24, Try.ins65_ren.t 24] #[Try.ins65_ren.t 4]) (by kernel_rfl), h]
  rfl

theorem Try.over71 (args : Array Value) (w : World) (v : Value) (h : (Extern.SlicesOverlaps.overlaps #[Try.ins66_ren.t 24, Try.ins66_ren.t 24] #[Try.ins66_ren.t 4] args).run Try.prog w = .ok v w) : (callFunc (Try.ins66_ren.f 29) args).run Try.prog w = .ok (.value v) w := by
  show (callFunc 71 args).run Try.prog w = _
  rw [run_callFunc_extern Try.func71 (by kernel_rfl) (by kernel_rfl) (by kernel_rfl) (e := Extern.SlicesOverlaps.overlaps #[Try.ins66_ren.t 24, Try.ins66_ren.t 24] #[Try.ins66_ren.t 4]) (by kernel_rfl), h]
  rfl
end Go.Proofs

namespace Go.Ab.Try
open Go Go.Ab Go.Proofs
def pr : FuncId → Option Prim
  | 55 => some (.clone 9 16)
  | 56 => some (.clone 45 80)
  | 65 => some (.insert 9 16)
  | 66 => some (.insert 45 80)
  | _ => none
theorem zero9 : zeroOf Try.prog 9 = some (.sc (.string ⟨#[]⟩)) := by kernel_rfl
theorem cells9 : Try.prog.cellsOf 9 = 1 := by kernel_rfl
theorem bytes9 : Try.prog.bytesOf 9 = 16 := by kernel_rfl
theorem zero45 : zeroOf Try.prog 45 = some (.agg [.sc (.int .i64 0), .sc (.int .i64 0), .sc (.string ⟨#[]⟩), .lit 0 true [], .lit 0 true []]) := by kernel_rfl
theorem cells45 : Try.prog.cellsOf 45 = 5 := by kernel_rfl
theorem bytes45 : Try.prog.bytesOf 45 = 80 := by kernel_rfl
theorem pr_ok : ∀ base f p, pr f = some p → PrimOk Try.prog base f p := by
  intro base f p h
  unfold pr at h
  split at h
  · cases h
    have := clone_ok (base := base) (P := Try.prog) (ρ := Try.clone55_ren) Try.clone55 zero9 (by show 0 < Try.prog.cellsOf 9; rw [cells9]; omega)
    rw [show Try.prog.bytesOf (Try.clone55_ren.t 23) = 16 from bytes9] at this
    exact this
  · cases h
    have := clone_ok (base := base) (P := Try.prog) (ρ := Try.clone56_ren) Try.clone56 zero45 (by show 0 < Try.prog.cellsOf 45; rw [cells45]; omega)
    rw [show Try.prog.bytesOf (Try.clone56_ren.t 23) = 80 from bytes45] at this
    exact this
  · cases h
    have := insert_ok (base := base) (P := Try.prog) (ρ := Try.ins65_ren) { Try.ins65 with ov := Try.over69 } zero9 (by show 0 < Try.prog.cellsOf 9; rw [cells9]; omega)
    rw [show Try.prog.bytesOf (Try.ins65_ren.t 9) = 16 from bytes9] at this
    exact this
  · cases h
    have := insert_ok (base := base) (P := Try.prog) (ρ := Try.ins66_ren) { Try.ins66 with ov := Try.over71 } zero45 (by show 0 < Try.prog.cellsOf 45; rw [cells45]; omega)
    rw [show Try.prog.bytesOf (Try.ins66_ren.t 9) = 80 from bytes45] at this
    exact this
  · cases h
end Go.Ab.Try
