/- Operations: what is wrong with one, and what it counts for, by the program and by the reference alike. No condition. -/
import Derived.Test.YtceobomlmdmicaaDoorVgH
import Derived.Test.YtceobomlmdmicaaDoorTab
namespace Go.Proofs.YtceobomlmdmicaaDoor.Api
open Go Go.Proofs.YtceobomlmdmicaaDoor.Vg Go.Proofs.YtceobomlmdmicaaDoor.T
set_option linter.unusedSimpArgs false
set_option linter.unusedVariables false
attribute [local irreducible] VO VC VA

structure OpM where
  kind : Int
  key : ByteArray
  value : ByteArray
  version : Int
def OpM.cells (o : OpM) : List Value := [.int .i64 o.kind, .string o.key, .string o.value, .int .i64 o.version]

def opBad (o : OpM) : Bool :=
  decide (o.kind < 1) || decide (4 < o.kind) || decide (o.key.size = 0) || decide (o.version < 0) || decide (4096 < o.version) || (decide (o.version ≠ 0) && decide (o.kind ≠ 4)) ||
    (decide (o.value.size ≠ 0) && !(decide (o.kind = 2) || decide (o.kind = 4)))
def opLong (o : OpM) : Bool := decide (16 < o.key.size) || decide (64 < o.value.size)
def opCheck (o : OpM) : Int := if opBad o then 2 else if opLong o then 3 else 0
def opCost (o : OpM) : Int := if opCheck o = 0 then 16 + o.key.size + o.value.size else 0

theorem toList_size (s : ByteArray) : s.toList.length = s.size := by rw [ByteArray.toList_eq]; simp
theorem str_empty (s : ByteArray) (t : ByteArray) (ht : t.size = 0) : (s.toList == t.toList) = decide (s.size = 0) := by
  have h2 : t.toList = [] := List.eq_nil_of_length_eq_zero (by rw [toList_size]; exact ht)
  rw [h2]
  by_cases h : s.size = 0
  · have h1 : s.toList = [] := List.eq_nil_of_length_eq_zero (by rw [toList_size]; exact h)
    rw [h1]; simp [h]
  · have h1 : s.toList ≠ [] := fun e => h (by rw [← toList_size, e]; rfl)
    simp [h]
    exact h1

end Go.Proofs.YtceobomlmdmicaaDoor.Api
