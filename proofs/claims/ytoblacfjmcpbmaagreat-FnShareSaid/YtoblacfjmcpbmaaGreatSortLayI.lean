/- The kit's contract of slices.insertionSortCmpFunc, laid by the kit's own tool. -/
import Derived.Shelf.SlSortCmp.InsertionK
import Derived.Test.YtoblacfjmcpbmaaGreatProg
namespace Go.Proofs
open Go.Shelf
def Tryz.insTask_ren : Go.Shelf.Ren := ⟨fun | 20 => 122 | n => n, fun | 24 => 46 | 22 => 32 | 3 => 3 | 25 => 68 | 4 => 4 | 0 => 0 | n => n, fun | n => n⟩
theorem Tryz.insTask : Go.Proofs.SlLaysF0.n20 Tryz.prog Tryz.insTask_ren := {
  mixed := by kernel_rfl
  f20 := ⟨Tryz.f122.name, by decide, Tryz.func122.trans (congrArg some (by kernel_rfl))⟩
  t0 := Tryz.underlying0
  a0 := Tryz.isAgg0
  z0 := Tryz.sizeOf0
  v0 := Tryz.zeroValue0
  t3 := Tryz.underlying3
  a3 := Tryz.isAgg3
  z3 := Tryz.sizeOf3
  v3 := Tryz.zeroValue3
  t4 := Tryz.underlying4
  a4 := Tryz.isAgg4
  z4 := Tryz.sizeOf4
  v4 := Tryz.zeroValue4
  t22 := Tryz.underlying32
  a22 := Tryz.isAgg32
  z22 := Tryz.sizeOf32
  v22 := Tryz.zeroValue32
  t25 := Tryz.underlying68
  a25 := Tryz.isAgg68
  z25 := Tryz.sizeOf68
  v25 := Tryz.zeroValue68 }
end Go.Proofs
