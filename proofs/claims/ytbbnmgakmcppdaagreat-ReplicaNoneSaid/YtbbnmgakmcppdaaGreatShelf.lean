/- The library functions that are taken off the shelf, laid over this program by the kit's own tools: each body is the body that a contract was proved of. No condition. -/
import Derived.Test.YtbbnmgakmcppdaaGreatProg
import Derived.Shelf.SlGeneric
import Derived.Shelf.SlMaps.Clone
namespace Go.Proofs
open Go.Shelf
open Go.Shelf
def Tryz.cloneM_ren : Go.Shelf.Ren := ⟨fun | 5 => 208 | 7 => 225 | n => n, fun | 23 => 223 | 25 => 9 | 3 => 240 | 4 => 4 | 20 => 20 | n => n, fun | n => n⟩
theorem Tryz.cloneM : Go.Proofs.SlLaysW.n5 Tryz.prog Tryz.cloneM_ren := {
  mixed := by kernel_rfl
  f5 := ⟨Tryz.f208.name, by decide, Tryz.func208.trans (congrArg some (by kernel_rfl))⟩
  f7 := Tryz.func225.trans (congrArg some (by kernel_rfl))
  t4 := Tryz.underlying4
  a4 := Tryz.isAgg4
  z4 := Tryz.sizeOf4
  v4 := Tryz.zeroValue4
  t20 := Tryz.underlying20
  a20 := Tryz.isAgg20
  z20 := Tryz.sizeOf20
  v20 := Tryz.zeroValue20
  t23 := Tryz.underlying223
  a23 := Tryz.isAgg223
  z23 := Tryz.sizeOf223
  v23 := Tryz.zeroValue223 }
end Go.Proofs
