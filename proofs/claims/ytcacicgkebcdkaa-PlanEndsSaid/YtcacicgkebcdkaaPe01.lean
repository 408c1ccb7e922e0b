/-
  Shelf, packed: what the claim needs of them.
-/
import Derived.Shelf.SlGeneric
import Derived.Shelf.SlSortCmp.InsertionK
import Derived.Ground.SlsfProg
import Derived.Test.YtcacicgkebcdkaaProg
namespace Go.Proofs.Ytcacicgkebcdkaa
open Go.Shelf Go.Proofs
def Try.insA_ren : Go.Shelf.Ren := ⟨fun | 20 => 74 | n => n, fun | 24 => 39 | 22 => 29 | 3 => 3 | 25 => 68 | 4 => 4 | 0 => 0 | n => n, fun | n => n⟩
theorem Try.insA : Go.Proofs.SlLaysF0.n20 Try.prog Try.insA_ren := {
  mixed := by kernel_rfl
  f20 := ⟨Try.f74.name, by decide, Try.func74.trans (congrArg some (by kernel_rfl))⟩
  t0 := Try.underlying0
  a0 := Try.isAgg0
  z0 := Try.sizeOf0
  v0 := Try.zeroValue0
  t3 := Try.underlying3
  a3 := Try.isAgg3
  z3 := Try.sizeOf3
  v3 := Try.zeroValue3
  t4 := Try.underlying4
  a4 := Try.isAgg4
  z4 := Try.sizeOf4
  v4 := Try.zeroValue4
  t22 := Try.underlying29
  a22 := Try.isAgg29
  z22 := Try.sizeOf29
  v22 := Try.zeroValue29
  t25 := Try.underlying68
  a25 := Try.isAgg68
  z25 := Try.sizeOf68
  v25 := Try.zeroValue68 }
end Go.Proofs.Ytcacicgkebcdkaa
