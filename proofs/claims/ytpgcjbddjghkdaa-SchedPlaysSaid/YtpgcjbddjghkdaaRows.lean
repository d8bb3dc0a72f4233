/-
  No cell of these rows narrows 'for every input' (looked for: loops, veiled, ifaces, maps, wideKeys, modest, calm, conditions, laid).
  DERIVED. THE GIVEN ROWS OF THIS SEAT. 7 by the template 'for every input the law returns true; each argument reads behind the call as it read before'; 0 by the template 'total and deterministic' (their statements: YtpgcjbddjghkdaaTotals.lean).
  GIVEN WITH THE SEED: the statements are not yours to turn. If you find one false, say at which input.
  Laid BY PROGRAM, IN A SANDBOX (cutbox-rows.mjs): the forced cells as the released guide's own fill.sh prints them over the translation 549c2154230c46f6… (all of the seat's roots in one cut). By AI agents, Wed Nov 11 2026. No macro, syntax, notation, axiom, sorry.
-/
import Derived.Test.YtpgcjbddjghkdaaChecked
import GoSem.Claim
import GoSem.ClaimJoined
import GoSem.ClaimMapViews
import Derived.JoinedTies
import Derived.KernelRfl
namespace Go.Proofs.Ytpgcjbddjghkdaa
/- THE CELL 'sum', in the pinned program and in every row, IS THE sha256 OF THE DUMP (.gsa) THAT YtpgcjbddjghkdaaProg.lean LOADS. Nothing in Lean hashes anything: it is a label: what it is worth is what the hold of that sum in a sandbox is worth. -/
noncomputable def Try.pinned : Pinned := { name := "ytpgcjbddjghkdaa", sum := "549c2154230c46f69508d42c18556b91786149574dd3b2e63ed442ed67741d18", checked := Try.checked }
namespace Rows
def none {H : Type} : Left H := { results := [], args := [] }

/-- 'fairwaylaw06.BackoffTell': WHATEVER THE INPUT: true; the input reads as it did. -/
def backoffTellSpec : ChangeSpec := { name := "backoffTell", fn := fun _ => fun
  | [d1, d2] => { results := [.lit (.bool true)], args := [d1, d2] }
  | _ => none }
def backoffTellRow : OpenClaim := { program := "ytpgcjbddjghkdaa", sum := "549c2154230c46f69508d42c18556b91786149574dd3b2e63ed442ed67741d18", func := "fairway/fairwaylaw06.BackoffTell", spec := "backoffTell", apart := false }
def BackoffTellSaid : Prop := backoffTellRow.holds Try.pinned (OpenSpec.ofChange backoffTellSpec)

/-- ITS FALSE NEIGHBOUR: 'it returns false'. Refute it at one input. -/
def backoffTellWrong : ChangeSpec := { name := "backoffTell", fn := fun _ => fun
  | [d1, d2] => { results := [.lit (.bool false)], args := [d1, d2] }
  | _ => none }
def BackoffTellWrongFalsely : Prop := backoffTellRow.holds Try.pinned (OpenSpec.ofChange backoffTellWrong)

/-- 'fairwaylaw06.BackoffSums': WHATEVER THE INPUT: true; the input reads as it did. -/
def backoffSumsSpec : ChangeSpec := { name := "backoffSums", fn := fun _ => fun
  | [d1, d2] => { results := [.lit (.bool true)], args := [d1, d2] }
  | _ => none }
def backoffSumsRow : OpenClaim := { program := "ytpgcjbddjghkdaa", sum := "549c2154230c46f69508d42c18556b91786149574dd3b2e63ed442ed67741d18", func := "fairway/fairwaylaw06.BackoffSums", spec := "backoffSums", apart := false }
def BackoffSumsSaid : Prop := backoffSumsRow.holds Try.pinned (OpenSpec.ofChange backoffSumsSpec)

/-- ITS FALSE NEIGHBOUR: 'it returns false'. Refute it at one input. -/
def backoffSumsWrong : ChangeSpec := { name := "backoffSums", fn := fun _ => fun
  | [d1, d2] => { results := [.lit (.bool false)], args := [d1, d2] }
  | _ => none }
def BackoffSumsWrongFalsely : Prop := backoffSumsRow.holds Try.pinned (OpenSpec.ofChange backoffSumsWrong)

/-- 'fairwaylaw16.SchedCredit': WHATEVER THE INPUT: true; the input reads as it did. -/
def schedCreditSpec : ChangeSpec := { name := "schedCredit", fn := fun _ => fun
  | [d1, d2] => { results := [.lit (.bool true)], args := [d1, d2] }
  | _ => none }
def schedCreditRow : OpenClaim := { program := "ytpgcjbddjghkdaa", sum := "549c2154230c46f69508d42c18556b91786149574dd3b2e63ed442ed67741d18", func := "fairway/fairwaylaw16.SchedCredit", spec := "schedCredit", apart := false }
def SchedCreditSaid : Prop := schedCreditRow.holds Try.pinned (OpenSpec.ofChange schedCreditSpec)

/-- ITS FALSE NEIGHBOUR: 'it returns false'. Refute it at one input. -/
def schedCreditWrong : ChangeSpec := { name := "schedCredit", fn := fun _ => fun
  | [d1, d2] => { results := [.lit (.bool false)], args := [d1, d2] }
  | _ => none }
def SchedCreditWrongFalsely : Prop := schedCreditRow.holds Try.pinned (OpenSpec.ofChange schedCreditWrong)

/-- 'fairwaylaw16.SchedAll': WHATEVER THE INPUT: true; the input reads as it did. -/
def schedAllSpec : ChangeSpec := { name := "schedAll", fn := fun _ => fun
  | [d1, d2] => { results := [.lit (.bool true)], args := [d1, d2] }
  | _ => none }
def schedAllRow : OpenClaim := { program := "ytpgcjbddjghkdaa", sum := "549c2154230c46f69508d42c18556b91786149574dd3b2e63ed442ed67741d18", func := "fairway/fairwaylaw16.SchedAll", spec := "schedAll", apart := false }
def SchedAllSaid : Prop := schedAllRow.holds Try.pinned (OpenSpec.ofChange schedAllSpec)

/-- ITS FALSE NEIGHBOUR: 'it returns false'. Refute it at one input. -/
def schedAllWrong : ChangeSpec := { name := "schedAll", fn := fun _ => fun
  | [d1, d2] => { results := [.lit (.bool false)], args := [d1, d2] }
  | _ => none }
def SchedAllWrongFalsely : Prop := schedAllRow.holds Try.pinned (OpenSpec.ofChange schedAllWrong)

/-- 'fairwaylaw16.SchedWorks': WHATEVER THE INPUT: true; the input reads as it did. -/
def schedWorksSpec : ChangeSpec := { name := "schedWorks", fn := fun _ => fun
  | [d1, d2] => { results := [.lit (.bool true)], args := [d1, d2] }
  | _ => none }
def schedWorksRow : OpenClaim := { program := "ytpgcjbddjghkdaa", sum := "549c2154230c46f69508d42c18556b91786149574dd3b2e63ed442ed67741d18", func := "fairway/fairwaylaw16.SchedWorks", spec := "schedWorks", apart := false }
def SchedWorksSaid : Prop := schedWorksRow.holds Try.pinned (OpenSpec.ofChange schedWorksSpec)

/-- ITS FALSE NEIGHBOUR: 'it returns false'. Refute it at one input. -/
def schedWorksWrong : ChangeSpec := { name := "schedWorks", fn := fun _ => fun
  | [d1, d2] => { results := [.lit (.bool false)], args := [d1, d2] }
  | _ => none }
def SchedWorksWrongFalsely : Prop := schedWorksRow.holds Try.pinned (OpenSpec.ofChange schedWorksWrong)

/-- 'fairwaylaw16.SchedPlays': WHATEVER THE INPUT: true; the input reads as it did. -/
def schedPlaysSpec : ChangeSpec := { name := "schedPlays", fn := fun _ => fun
  | [d1, d2, d3] => { results := [.lit (.bool true)], args := [d1, d2, d3] }
  | _ => none }
def schedPlaysRow : OpenClaim := { program := "ytpgcjbddjghkdaa", sum := "549c2154230c46f69508d42c18556b91786149574dd3b2e63ed442ed67741d18", func := "fairway/fairwaylaw16.SchedPlays", spec := "schedPlays", apart := false }
def SchedPlaysSaid : Prop := schedPlaysRow.holds Try.pinned (OpenSpec.ofChange schedPlaysSpec)

/-- ITS FALSE NEIGHBOUR: 'it returns false'. Refute it at one input. -/
def schedPlaysWrong : ChangeSpec := { name := "schedPlays", fn := fun _ => fun
  | [d1, d2, d3] => { results := [.lit (.bool false)], args := [d1, d2, d3] }
  | _ => none }
def SchedPlaysWrongFalsely : Prop := schedPlaysRow.holds Try.pinned (OpenSpec.ofChange schedPlaysWrong)

/-- 'fairwaylaw16.SchedNone': WHATEVER THE INPUT: true; the input reads as it did. -/
def schedNoneSpec : ChangeSpec := { name := "schedNone", fn := fun _ => fun
  | [d] => { results := [.lit (.bool true)], args := [d] }
  | _ => none }
def schedNoneRow : OpenClaim := { program := "ytpgcjbddjghkdaa", sum := "549c2154230c46f69508d42c18556b91786149574dd3b2e63ed442ed67741d18", func := "fairway/fairwaylaw16.SchedNone", spec := "schedNone", apart := false }
def SchedNoneSaid : Prop := schedNoneRow.holds Try.pinned (OpenSpec.ofChange schedNoneSpec)

/-- ITS FALSE NEIGHBOUR: 'it returns false'. Refute it at one input. -/
def schedNoneWrong : ChangeSpec := { name := "schedNone", fn := fun _ => fun
  | [d] => { results := [.lit (.bool false)], args := [d] }
  | _ => none }
def SchedNoneWrongFalsely : Prop := schedNoneRow.holds Try.pinned (OpenSpec.ofChange schedNoneWrong)

/- THE SECOND FORM. 'bulk': how many values and letters a reading holds, each counted each time it is reached (what is shared counts as often as it is met; a slice's spare places count too). A statement '..UptoSaid' is the law's where the arguments, and the package variables that the reading takes, are together of bulk at most 1048576: NARROWER than '..Said'. Prove '..Said' where nothing that the law and all that it calls make is longer than what came in: it says more and counts as full. Else prove '..UptoSaid'. A law counts once. -/
mutual
def uptoBulk {H : Type} : DataW H → Nat
  | .lit (.string bytes) => bytes.length + 1
  | .lit _ => 1
  | .nil => 1
  | .ptr d => uptoBulk d + 1
  | .slice elems spare => uptoBulkAll elems + uptoBulkAll spare + 1
  | .agg parts => uptoBulkAll parts + 1
  | .iface _ d => uptoBulk d + 1
  | .map entries => uptoBulkEntries entries + 1
  | .held _ => 1
def uptoBulkAll {H : Type} : List (DataW H) → Nat
  | [] => 0
  | d :: r => uptoBulk d + uptoBulkAll r
def uptoBulkEntries {H : Type} : List (Lit × DataW H) → Nat
  | [] => 0
  | x :: r => uptoBulkEntry x + uptoBulkEntries r
def uptoBulkEntry {H : Type} : Lit × DataW H → Nat
  | (.string bytes, d) => bytes.length + uptoBulk d + 1
  | (_, d) => uptoBulk d + 1
 end
def uptoSmall : (H : Type) → List (DataW H) → Bool := fun _ ds => decide (uptoBulkAll ds ≤ 1048576)
def OpenSpec.upto (s : _root_.Go.ChangeSpec) : _root_.Go.OpenSpec := { _root_.Go.OpenSpec.ofChange s with cond := some uptoSmall }

/-- 'fairwaylaw06.BackoffTell', WHERE WHAT IT READS IS OF BULK AT MOST 1048576: true; the input reads as it did. -/
def backoffTellUptoRow : OpenClaim := { program := "ytpgcjbddjghkdaa", sum := "549c2154230c46f69508d42c18556b91786149574dd3b2e63ed442ed67741d18", func := "fairway/fairwaylaw06.BackoffTell", spec := "backoffTell", apart := false, narrowed := true }
def BackoffTellUptoSaid : Prop := backoffTellUptoRow.holds Try.pinned (OpenSpec.upto backoffTellSpec)

/-- 'fairwaylaw06.BackoffSums', WHERE WHAT IT READS IS OF BULK AT MOST 1048576: true; the input reads as it did. -/
def backoffSumsUptoRow : OpenClaim := { program := "ytpgcjbddjghkdaa", sum := "549c2154230c46f69508d42c18556b91786149574dd3b2e63ed442ed67741d18", func := "fairway/fairwaylaw06.BackoffSums", spec := "backoffSums", apart := false, narrowed := true }
def BackoffSumsUptoSaid : Prop := backoffSumsUptoRow.holds Try.pinned (OpenSpec.upto backoffSumsSpec)

/-- 'fairwaylaw16.SchedCredit', WHERE WHAT IT READS IS OF BULK AT MOST 1048576: true; the input reads as it did. -/
def schedCreditUptoRow : OpenClaim := { program := "ytpgcjbddjghkdaa", sum := "549c2154230c46f69508d42c18556b91786149574dd3b2e63ed442ed67741d18", func := "fairway/fairwaylaw16.SchedCredit", spec := "schedCredit", apart := false, narrowed := true }
def SchedCreditUptoSaid : Prop := schedCreditUptoRow.holds Try.pinned (OpenSpec.upto schedCreditSpec)

/-- 'fairwaylaw16.SchedAll', WHERE WHAT IT READS IS OF BULK AT MOST 1048576: true; the input reads as it did. -/
def schedAllUptoRow : OpenClaim := { program := "ytpgcjbddjghkdaa", sum := "549c2154230c46f69508d42c18556b91786149574dd3b2e63ed442ed67741d18", func := "fairway/fairwaylaw16.SchedAll", spec := "schedAll", apart := false, narrowed := true }
def SchedAllUptoSaid : Prop := schedAllUptoRow.holds Try.pinned (OpenSpec.upto schedAllSpec)

/-- 'fairwaylaw16.SchedWorks', WHERE WHAT IT READS IS OF BULK AT MOST 1048576: true; the input reads as it did. -/
def schedWorksUptoRow : OpenClaim := { program := "ytpgcjbddjghkdaa", sum := "549c2154230c46f69508d42c18556b91786149574dd3b2e63ed442ed67741d18", func := "fairway/fairwaylaw16.SchedWorks", spec := "schedWorks", apart := false, narrowed := true }
def SchedWorksUptoSaid : Prop := schedWorksUptoRow.holds Try.pinned (OpenSpec.upto schedWorksSpec)

/-- 'fairwaylaw16.SchedPlays', WHERE WHAT IT READS IS OF BULK AT MOST 1048576: true; the input reads as it did. -/
def schedPlaysUptoRow : OpenClaim := { program := "ytpgcjbddjghkdaa", sum := "549c2154230c46f69508d42c18556b91786149574dd3b2e63ed442ed67741d18", func := "fairway/fairwaylaw16.SchedPlays", spec := "schedPlays", apart := false, narrowed := true }
def SchedPlaysUptoSaid : Prop := schedPlaysUptoRow.holds Try.pinned (OpenSpec.upto schedPlaysSpec)

/-- 'fairwaylaw16.SchedNone', WHERE WHAT IT READS IS OF BULK AT MOST 1048576: true; the input reads as it did. -/
def schedNoneUptoRow : OpenClaim := { program := "ytpgcjbddjghkdaa", sum := "549c2154230c46f69508d42c18556b91786149574dd3b2e63ed442ed67741d18", func := "fairway/fairwaylaw16.SchedNone", spec := "schedNone", apart := false, narrowed := true }
def SchedNoneUptoSaid : Prop := schedNoneUptoRow.holds Try.pinned (OpenSpec.upto schedNoneSpec)

end Rows
end Go.Proofs.Ytpgcjbddjghkdaa
