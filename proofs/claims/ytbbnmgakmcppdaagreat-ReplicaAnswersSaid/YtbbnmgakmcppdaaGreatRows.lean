/-
  No cell of these rows narrows 'for every input' (looked for: loops, veiled, ifaces, maps, wideKeys, modest, calm, conditions, laid).
  DERIVED. THE GIVEN ROWS OF THIS SEAT. 9 by the template 'for every input the law returns true; each argument reads behind the call as it read before'; 0 by the template 'total and deterministic' (their statements: YtbbnmgakmcppdaaGreatTotals.lean).
  GIVEN WITH THE SEED: the statements are not yours to turn. If you find one false, say at which input.
  Laid BY PROGRAM, IN A SANDBOX (cutbox-rows.mjs): the forced cells as the released guide's own fill.sh prints them over the translation 5aa624ba252fa7ff… (all of the seat's roots in one cut). By AI agents, Wed Nov 11 2026. No macro, syntax, notation, axiom, sorry.
-/
import Derived.Test.YtbbnmgakmcppdaaGreatChecked
import GoSem.Claim
import GoSem.ClaimJoined
import GoSem.ClaimMapViews
import Derived.JoinedTies
import Derived.KernelRfl
namespace Go.Proofs.YtbbnmgakmcppdaaGreat
/- THE CELL 'sum', in the pinned program and in every row, IS THE sha256 OF THE DUMP (.gsa) THAT YtbbnmgakmcppdaaGreatProg.lean LOADS. Nothing in Lean hashes anything: it is a label: what it is worth is what the hold of that sum in a sandbox is worth. -/
noncomputable def Tryz.pinned : Pinned := { name := "ytbbnmgakmcppdaagreat", sum := "5aa624ba252fa7fff6e8091fbd9747ac5f6b1a78a639fec588c0de883b09b1d4", checked := Tryz.checked }
namespace Rows
def none {H : Type} : Left H := { results := [], args := [] }

/-- 'fairwaylaw19.ReplicaFresh': WHATEVER THE INPUT: true; the input reads as it did. -/
def replicaFreshSpec : ChangeSpec := { name := "replicaFresh", fn := fun _ => fun
  | [d1, d2, d3] => { results := [.lit (.bool true)], args := [d1, d2, d3] }
  | _ => none }
def replicaFreshRow : OpenClaim := { program := "ytbbnmgakmcppdaagreat", sum := "5aa624ba252fa7fff6e8091fbd9747ac5f6b1a78a639fec588c0de883b09b1d4", func := "fairway/fairwaylaw19.ReplicaFresh", spec := "replicaFresh", inPlace := ["maps.clone"], unfollowed := true, recurses := true, apart := false }
def ReplicaFreshSaid : Prop := replicaFreshRow.holds Tryz.pinned (OpenSpec.ofChange replicaFreshSpec)

/-- ITS FALSE NEIGHBOUR: 'it returns false'. Refute it at one input. -/
def replicaFreshWrong : ChangeSpec := { name := "replicaFresh", fn := fun _ => fun
  | [d1, d2, d3] => { results := [.lit (.bool false)], args := [d1, d2, d3] }
  | _ => none }
def ReplicaFreshWrongFalsely : Prop := replicaFreshRow.holds Tryz.pinned (OpenSpec.ofChange replicaFreshWrong)

/-- 'fairwaylaw19.ReplicaTails': WHATEVER THE INPUT: true; the input reads as it did. -/
def replicaTailsSpec : ChangeSpec := { name := "replicaTails", fn := fun _ => fun
  | [d1, d2, d3] => { results := [.lit (.bool true)], args := [d1, d2, d3] }
  | _ => none }
def replicaTailsRow : OpenClaim := { program := "ytbbnmgakmcppdaagreat", sum := "5aa624ba252fa7fff6e8091fbd9747ac5f6b1a78a639fec588c0de883b09b1d4", func := "fairway/fairwaylaw19.ReplicaTails", spec := "replicaTails", inPlace := ["maps.clone"], unfollowed := true, recurses := true, apart := false }
def ReplicaTailsSaid : Prop := replicaTailsRow.holds Tryz.pinned (OpenSpec.ofChange replicaTailsSpec)

/-- ITS FALSE NEIGHBOUR: 'it returns false'. Refute it at one input. -/
def replicaTailsWrong : ChangeSpec := { name := "replicaTails", fn := fun _ => fun
  | [d1, d2, d3] => { results := [.lit (.bool false)], args := [d1, d2, d3] }
  | _ => none }
def ReplicaTailsWrongFalsely : Prop := replicaTailsRow.holds Tryz.pinned (OpenSpec.ofChange replicaTailsWrong)

/-- 'fairwaylaw19.ReplicaAnswers': WHATEVER THE INPUT: true; the input reads as it did. -/
def replicaAnswersSpec : ChangeSpec := { name := "replicaAnswers", fn := fun _ => fun
  | [d1, d2, d3] => { results := [.lit (.bool true)], args := [d1, d2, d3] }
  | _ => none }
def replicaAnswersRow : OpenClaim := { program := "ytbbnmgakmcppdaagreat", sum := "5aa624ba252fa7fff6e8091fbd9747ac5f6b1a78a639fec588c0de883b09b1d4", func := "fairway/fairwaylaw19.ReplicaAnswers", spec := "replicaAnswers", unfollowed := true, recurses := true, apart := false }
def ReplicaAnswersSaid : Prop := replicaAnswersRow.holds Tryz.pinned (OpenSpec.ofChange replicaAnswersSpec)

/-- ITS FALSE NEIGHBOUR: 'it returns false'. Refute it at one input. -/
def replicaAnswersWrong : ChangeSpec := { name := "replicaAnswers", fn := fun _ => fun
  | [d1, d2, d3] => { results := [.lit (.bool false)], args := [d1, d2, d3] }
  | _ => none }
def ReplicaAnswersWrongFalsely : Prop := replicaAnswersRow.holds Tryz.pinned (OpenSpec.ofChange replicaAnswersWrong)

/-- 'fairwaylaw19.ReplicaTwice': WHATEVER THE INPUT: true; the input reads as it did. -/
def replicaTwiceSpec : ChangeSpec := { name := "replicaTwice", fn := fun _ => fun
  | [d1, d2, d3] => { results := [.lit (.bool true)], args := [d1, d2, d3] }
  | _ => none }
def replicaTwiceRow : OpenClaim := { program := "ytbbnmgakmcppdaagreat", sum := "5aa624ba252fa7fff6e8091fbd9747ac5f6b1a78a639fec588c0de883b09b1d4", func := "fairway/fairwaylaw19.ReplicaTwice", spec := "replicaTwice", inPlace := ["maps.clone"], unfollowed := true, recurses := true, apart := false }
def ReplicaTwiceSaid : Prop := replicaTwiceRow.holds Tryz.pinned (OpenSpec.ofChange replicaTwiceSpec)

/-- ITS FALSE NEIGHBOUR: 'it returns false'. Refute it at one input. -/
def replicaTwiceWrong : ChangeSpec := { name := "replicaTwice", fn := fun _ => fun
  | [d1, d2, d3] => { results := [.lit (.bool false)], args := [d1, d2, d3] }
  | _ => none }
def ReplicaTwiceWrongFalsely : Prop := replicaTwiceRow.holds Tryz.pinned (OpenSpec.ofChange replicaTwiceWrong)

/-- 'fairwaylaw19.ReplicaCredits': WHATEVER THE INPUT: true; the input reads as it did. -/
def replicaCreditsSpec : ChangeSpec := { name := "replicaCredits", fn := fun _ => fun
  | [d1, d2, d3] => { results := [.lit (.bool true)], args := [d1, d2, d3] }
  | _ => none }
def replicaCreditsRow : OpenClaim := { program := "ytbbnmgakmcppdaagreat", sum := "5aa624ba252fa7fff6e8091fbd9747ac5f6b1a78a639fec588c0de883b09b1d4", func := "fairway/fairwaylaw19.ReplicaCredits", spec := "replicaCredits", inPlace := ["maps.clone"], unfollowed := true, recurses := true, apart := false }
def ReplicaCreditsSaid : Prop := replicaCreditsRow.holds Tryz.pinned (OpenSpec.ofChange replicaCreditsSpec)

/-- ITS FALSE NEIGHBOUR: 'it returns false'. Refute it at one input. -/
def replicaCreditsWrong : ChangeSpec := { name := "replicaCredits", fn := fun _ => fun
  | [d1, d2, d3] => { results := [.lit (.bool false)], args := [d1, d2, d3] }
  | _ => none }
def ReplicaCreditsWrongFalsely : Prop := replicaCreditsRow.holds Tryz.pinned (OpenSpec.ofChange replicaCreditsWrong)

/-- 'fairwaylaw19.ReplicaDrains': WHATEVER THE INPUT: true; the input reads as it did. -/
def replicaDrainsSpec : ChangeSpec := { name := "replicaDrains", fn := fun _ => fun
  | [d1, d2, d3] => { results := [.lit (.bool true)], args := [d1, d2, d3] }
  | _ => none }
def replicaDrainsRow : OpenClaim := { program := "ytbbnmgakmcppdaagreat", sum := "5aa624ba252fa7fff6e8091fbd9747ac5f6b1a78a639fec588c0de883b09b1d4", func := "fairway/fairwaylaw19.ReplicaDrains", spec := "replicaDrains", inPlace := ["maps.clone"], unfollowed := true, recurses := true, apart := false }
def ReplicaDrainsSaid : Prop := replicaDrainsRow.holds Tryz.pinned (OpenSpec.ofChange replicaDrainsSpec)

/-- ITS FALSE NEIGHBOUR: 'it returns false'. Refute it at one input. -/
def replicaDrainsWrong : ChangeSpec := { name := "replicaDrains", fn := fun _ => fun
  | [d1, d2, d3] => { results := [.lit (.bool false)], args := [d1, d2, d3] }
  | _ => none }
def ReplicaDrainsWrongFalsely : Prop := replicaDrainsRow.holds Tryz.pinned (OpenSpec.ofChange replicaDrainsWrong)

/-- 'fairwaylaw19.ReplicaPair': WHATEVER THE INPUT: true; the input reads as it did. -/
def replicaPairSpec : ChangeSpec := { name := "replicaPair", fn := fun _ => fun
  | [d1, d2] => { results := [.lit (.bool true)], args := [d1, d2] }
  | _ => none }
def replicaPairRow : OpenClaim := { program := "ytbbnmgakmcppdaagreat", sum := "5aa624ba252fa7fff6e8091fbd9747ac5f6b1a78a639fec588c0de883b09b1d4", func := "fairway/fairwaylaw19.ReplicaPair", spec := "replicaPair", inPlace := ["maps.clone"], unfollowed := true, recurses := true, apart := false }
def ReplicaPairSaid : Prop := replicaPairRow.holds Tryz.pinned (OpenSpec.ofChange replicaPairSpec)

/-- ITS FALSE NEIGHBOUR: 'it returns false'. Refute it at one input. -/
def replicaPairWrong : ChangeSpec := { name := "replicaPair", fn := fun _ => fun
  | [d1, d2] => { results := [.lit (.bool false)], args := [d1, d2] }
  | _ => none }
def ReplicaPairWrongFalsely : Prop := replicaPairRow.holds Tryz.pinned (OpenSpec.ofChange replicaPairWrong)

/-- 'fairwaylaw19.ReplicaEpochs': WHATEVER THE INPUT: true; the input reads as it did. -/
def replicaEpochsSpec : ChangeSpec := { name := "replicaEpochs", fn := fun _ => fun
  | [d1, d2, d3] => { results := [.lit (.bool true)], args := [d1, d2, d3] }
  | _ => none }
def replicaEpochsRow : OpenClaim := { program := "ytbbnmgakmcppdaagreat", sum := "5aa624ba252fa7fff6e8091fbd9747ac5f6b1a78a639fec588c0de883b09b1d4", func := "fairway/fairwaylaw19.ReplicaEpochs", spec := "replicaEpochs", inPlace := ["maps.clone"], unfollowed := true, recurses := true, apart := false }
def ReplicaEpochsSaid : Prop := replicaEpochsRow.holds Tryz.pinned (OpenSpec.ofChange replicaEpochsSpec)

/-- ITS FALSE NEIGHBOUR: 'it returns false'. Refute it at one input. -/
def replicaEpochsWrong : ChangeSpec := { name := "replicaEpochs", fn := fun _ => fun
  | [d1, d2, d3] => { results := [.lit (.bool false)], args := [d1, d2, d3] }
  | _ => none }
def ReplicaEpochsWrongFalsely : Prop := replicaEpochsRow.holds Tryz.pinned (OpenSpec.ofChange replicaEpochsWrong)

/-- 'fairwaylaw19.ReplicaNone': WHATEVER THE INPUT: true; the input reads as it did. -/
def replicaNoneSpec : ChangeSpec := { name := "replicaNone", fn := fun _ => fun
  | [d1, d2, d3] => { results := [.lit (.bool true)], args := [d1, d2, d3] }
  | _ => none }
def replicaNoneRow : OpenClaim := { program := "ytbbnmgakmcppdaagreat", sum := "5aa624ba252fa7fff6e8091fbd9747ac5f6b1a78a639fec588c0de883b09b1d4", func := "fairway/fairwaylaw19.ReplicaNone", spec := "replicaNone", inPlace := ["maps.clone"], unfollowed := true, recurses := true, apart := false }
def ReplicaNoneSaid : Prop := replicaNoneRow.holds Tryz.pinned (OpenSpec.ofChange replicaNoneSpec)

/-- ITS FALSE NEIGHBOUR: 'it returns false'. Refute it at one input. -/
def replicaNoneWrong : ChangeSpec := { name := "replicaNone", fn := fun _ => fun
  | [d1, d2, d3] => { results := [.lit (.bool false)], args := [d1, d2, d3] }
  | _ => none }
def ReplicaNoneWrongFalsely : Prop := replicaNoneRow.holds Tryz.pinned (OpenSpec.ofChange replicaNoneWrong)

/- THE SECOND FORM. 'bulk': how many values and letters a reading holds, each counted each time it is reached (what is shared counts as often as it is met; a slice's spare places count too). A statement '..UptoSaid' is the law's where the arguments, and the package variables that the reading takes, are together of bulk at most 1048576: NARROWER than '..Said'. Prove '..Said' where nothing that the law and all that it calls make is longer than what came in: it says more and counts as full. Else prove '..UptoSaid'. A law counts once. -/
mutual
def uptoBulk {H : Type} : DataW H → Nat
  | .lit (.string bytes) => bytes.length + 1
  | .lit _ => 1
  | .nil => 1
  | .ptr d => uptoBulk d + 1
  | .slice elems spare => uptoBulkAll elems + uptoBulkAll spare + 1
  | .agg parts => uptoBulkAll parts + 1
  | .iface _ d => uptoBulk d + 1
  | .map entries => uptoBulkEntries entries + 1
  | .held _ => 1
def uptoBulkAll {H : Type} : List (DataW H) → Nat
  | [] => 0
  | d :: r => uptoBulk d + uptoBulkAll r
def uptoBulkEntries {H : Type} : List (Lit × DataW H) → Nat
  | [] => 0
  | x :: r => uptoBulkEntry x + uptoBulkEntries r
def uptoBulkEntry {H : Type} : Lit × DataW H → Nat
  | (.string bytes, d) => bytes.length + uptoBulk d + 1
  | (_, d) => uptoBulk d + 1
 end
def uptoSmall : (H : Type) → List (DataW H) → Bool := fun _ ds => decide (uptoBulkAll ds ≤ 1048576)
def OpenSpec.upto (s : _root_.Go.ChangeSpec) : _root_.Go.OpenSpec := { _root_.Go.OpenSpec.ofChange s with cond := some uptoSmall }

/-- 'fairwaylaw19.ReplicaFresh', WHERE WHAT IT READS IS OF BULK AT MOST 1048576: true; the input reads as it did. -/
def replicaFreshUptoRow : OpenClaim := { program := "ytbbnmgakmcppdaagreat", sum := "5aa624ba252fa7fff6e8091fbd9747ac5f6b1a78a639fec588c0de883b09b1d4", func := "fairway/fairwaylaw19.ReplicaFresh", spec := "replicaFresh", inPlace := ["maps.clone"], unfollowed := true, recurses := true, apart := false, narrowed := true }
def ReplicaFreshUptoSaid : Prop := replicaFreshUptoRow.holds Tryz.pinned (OpenSpec.upto replicaFreshSpec)

/-- 'fairwaylaw19.ReplicaTails', WHERE WHAT IT READS IS OF BULK AT MOST 1048576: true; the input reads as it did. -/
def replicaTailsUptoRow : OpenClaim := { program := "ytbbnmgakmcppdaagreat", sum := "5aa624ba252fa7fff6e8091fbd9747ac5f6b1a78a639fec588c0de883b09b1d4", func := "fairway/fairwaylaw19.ReplicaTails", spec := "replicaTails", inPlace := ["maps.clone"], unfollowed := true, recurses := true, apart := false, narrowed := true }
def ReplicaTailsUptoSaid : Prop := replicaTailsUptoRow.holds Tryz.pinned (OpenSpec.upto replicaTailsSpec)

/-- 'fairwaylaw19.ReplicaAnswers', WHERE WHAT IT READS IS OF BULK AT MOST 1048576: true; the input reads as it did. -/
def replicaAnswersUptoRow : OpenClaim := { program := "ytbbnmgakmcppdaagreat", sum := "5aa624ba252fa7fff6e8091fbd9747ac5f6b1a78a639fec588c0de883b09b1d4", func := "fairway/fairwaylaw19.ReplicaAnswers", spec := "replicaAnswers", unfollowed := true, recurses := true, apart := false, narrowed := true }
def ReplicaAnswersUptoSaid : Prop := replicaAnswersUptoRow.holds Tryz.pinned (OpenSpec.upto replicaAnswersSpec)

/-- 'fairwaylaw19.ReplicaTwice', WHERE WHAT IT READS IS OF BULK AT MOST 1048576: true; the input reads as it did. -/
def replicaTwiceUptoRow : OpenClaim := { program := "ytbbnmgakmcppdaagreat", sum := "5aa624ba252fa7fff6e8091fbd9747ac5f6b1a78a639fec588c0de883b09b1d4", func := "fairway/fairwaylaw19.ReplicaTwice", spec := "replicaTwice", inPlace := ["maps.clone"], unfollowed := true, recurses := true, apart := false, narrowed := true }
def ReplicaTwiceUptoSaid : Prop := replicaTwiceUptoRow.holds Tryz.pinned (OpenSpec.upto replicaTwiceSpec)

/-- 'fairwaylaw19.ReplicaCredits', WHERE WHAT IT READS IS OF BULK AT MOST 1048576: true; the input reads as it did. -/
def replicaCreditsUptoRow : OpenClaim := { program := "ytbbnmgakmcppdaagreat", sum := "5aa624ba252fa7fff6e8091fbd9747ac5f6b1a78a639fec588c0de883b09b1d4", func := "fairway/fairwaylaw19.ReplicaCredits", spec := "replicaCredits", inPlace := ["maps.clone"], unfollowed := true, recurses := true, apart := false, narrowed := true }
def ReplicaCreditsUptoSaid : Prop := replicaCreditsUptoRow.holds Tryz.pinned (OpenSpec.upto replicaCreditsSpec)

/-- 'fairwaylaw19.ReplicaDrains', WHERE WHAT IT READS IS OF BULK AT MOST 1048576: true; the input reads as it did. -/
def replicaDrainsUptoRow : OpenClaim := { program := "ytbbnmgakmcppdaagreat", sum := "5aa624ba252fa7fff6e8091fbd9747ac5f6b1a78a639fec588c0de883b09b1d4", func := "fairway/fairwaylaw19.ReplicaDrains", spec := "replicaDrains", inPlace := ["maps.clone"], unfollowed := true, recurses := true, apart := false, narrowed := true }
def ReplicaDrainsUptoSaid : Prop := replicaDrainsUptoRow.holds Tryz.pinned (OpenSpec.upto replicaDrainsSpec)

/-- 'fairwaylaw19.ReplicaPair', WHERE WHAT IT READS IS OF BULK AT MOST 1048576: true; the input reads as it did. -/
def replicaPairUptoRow : OpenClaim := { program := "ytbbnmgakmcppdaagreat", sum := "5aa624ba252fa7fff6e8091fbd9747ac5f6b1a78a639fec588c0de883b09b1d4", func := "fairway/fairwaylaw19.ReplicaPair", spec := "replicaPair", inPlace := ["maps.clone"], unfollowed := true, recurses := true, apart := false, narrowed := true }
def ReplicaPairUptoSaid : Prop := replicaPairUptoRow.holds Tryz.pinned (OpenSpec.upto replicaPairSpec)

/-- 'fairwaylaw19.ReplicaEpochs', WHERE WHAT IT READS IS OF BULK AT MOST 1048576: true; the input reads as it did. -/
def replicaEpochsUptoRow : OpenClaim := { program := "ytbbnmgakmcppdaagreat", sum := "5aa624ba252fa7fff6e8091fbd9747ac5f6b1a78a639fec588c0de883b09b1d4", func := "fairway/fairwaylaw19.ReplicaEpochs", spec := "replicaEpochs", inPlace := ["maps.clone"], unfollowed := true, recurses := true, apart := false, narrowed := true }
def ReplicaEpochsUptoSaid : Prop := replicaEpochsUptoRow.holds Tryz.pinned (OpenSpec.upto replicaEpochsSpec)

/-- 'fairwaylaw19.ReplicaNone', WHERE WHAT IT READS IS OF BULK AT MOST 1048576: true; the input reads as it did. -/
def replicaNoneUptoRow : OpenClaim := { program := "ytbbnmgakmcppdaagreat", sum := "5aa624ba252fa7fff6e8091fbd9747ac5f6b1a78a639fec588c0de883b09b1d4", func := "fairway/fairwaylaw19.ReplicaNone", spec := "replicaNone", inPlace := ["maps.clone"], unfollowed := true, recurses := true, apart := false, narrowed := true }
def ReplicaNoneUptoSaid : Prop := replicaNoneUptoRow.holds Tryz.pinned (OpenSpec.upto replicaNoneSpec)

end Rows
end Go.Proofs.YtbbnmgakmcppdaaGreat
