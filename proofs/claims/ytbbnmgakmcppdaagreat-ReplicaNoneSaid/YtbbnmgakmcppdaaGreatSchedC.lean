/- The scheduler: copies. No condition. -/
import Derived.Test.YtbbnmgakmcppdaaGreatSched
import Derived.Test.YtbbnmgakmcppdaaGreatRingC
namespace Go.Proofs.YtbbnmgakmcppdaaGreat.Sched
open Go Go.Proofs.YtbbnmgakmcppdaaGreat.Vg Go.Proofs.YtbbnmgakmcppdaaGreat.T Go.Proofs.YtbbnmgakmcppdaaGreat.Api Go.Proofs.YtbbnmgakmcppdaaGreat.Ring
set_option linter.unusedSimpArgs false
set_option linter.unusedVariables false
attribute [local irreducible] VO VC VA

structure CopyI (S : SchM) (x : Nat × Option Addr × Nat × List Row) : Prop where
  le : x.1 ≤ S.cls.length
  room : x.1 ≤ x.2.2.1
  rows : x.2.2.2.map Prod.snd = S.cls.take x.1
theorem CopyI.len {S : SchM} {x : Nat × Option Addr × Nat × List Row} (h : CopyI S x) : x.2.2.2.length = x.1 := by
  have := congrArg List.length h.rows
  have h2 := h.le
  simp only [List.length_map, List.length_take] at this
  omega

end Go.Proofs.YtbbnmgakmcppdaaGreat.Sched
