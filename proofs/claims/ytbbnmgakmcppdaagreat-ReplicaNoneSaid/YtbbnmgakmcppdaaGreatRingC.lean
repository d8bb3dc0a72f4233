/- Rings: copies. No condition. -/
import Derived.Test.YtbbnmgakmcppdaaGreatRing
namespace Go.Proofs.YtbbnmgakmcppdaaGreat.Ring
open Go Go.Proofs.YtbbnmgakmcppdaaGreat.Vg Go.Proofs.YtbbnmgakmcppdaaGreat.T Go.Proofs.YtbbnmgakmcppdaaGreat.Api
set_option linter.unusedSimpArgs false
set_option linter.unusedVariables false
attribute [local irreducible] VO VC VA

structure CopyI (pl : List FM) (x : Nat × List FM) : Prop where
  le : x.1 ≤ pl.length
  len : x.2.length = pl.length
  same : ∀ j, j < x.1 → (x.2[j]?).map Prod.fst = (pl[j]?).map Prod.fst

end Go.Proofs.YtbbnmgakmcppdaaGreat.Ring
