/-
  No cell of these rows narrows 'for every input' (looked for: loops, veiled, ifaces, maps, wideKeys, modest, calm, conditions, laid).
  DERIVED. THE GIVEN ROWS OF THIS SEAT. 4 by the template 'for every input the law returns true; each argument reads behind the call as it read before'; 0 by the template 'total and deterministic' (their statements: YtoinocihlfmnnaaTotals.lean).
  GIVEN WITH THE SEED: the statements are not yours to turn. If you find one false, say at which input.
  Laid BY PROGRAM, IN A SANDBOX (cutbox-rows.mjs): the forced cells as the released guide's own fill.sh prints them over the translation 9116a7a489ae7ddd… (all of the seat's roots in one cut). By AI agents, Wed Nov 11 2026. No macro, syntax, notation, axiom, sorry.
-/
import Derived.Test.YtoinocihlfmnnaaChecked
import GoSem.Claim
import GoSem.ClaimJoined
import GoSem.ClaimMapViews
import Derived.JoinedTies
import Derived.KernelRfl
namespace Go.Proofs.Ytoinocihlfmnnaa
/- THE CELL 'sum', in the pinned program and in every row, IS THE sha256 OF THE DUMP (.gsa) THAT YtoinocihlfmnnaaProg.lean LOADS. Nothing in Lean hashes anything: it is a label: what it is worth is what the hold of that sum in a sandbox is worth. -/
noncomputable def Try.pinned : Pinned := { name := "ytoinocihlfmnnaa", sum := "9116a7a489ae7dddab336d28660933cbb585dfe42519aac0a82bb8d8dd7baf5e", checked := Try.checked }
namespace Rows
def none {H : Type} : Left H := { results := [], args := [] }

/-- 'fairwaylaw17.AdmitBars': WHATEVER THE INPUT: true; the input reads as it did. -/
def admitBarsSpec : ChangeSpec := { name := "admitBars", fn := fun _ => fun
  | [d1, d2] => { results := [.lit (.bool true)], args := [d1, d2] }
  | _ => none }
def admitBarsRow : OpenClaim := { program := "ytoinocihlfmnnaa", sum := "9116a7a489ae7dddab336d28660933cbb585dfe42519aac0a82bb8d8dd7baf5e", func := "fairway/fairwaylaw17.AdmitBars", spec := "admitBars", unfollowed := true, recurses := true, apart := false }
def AdmitBarsSaid : Prop := admitBarsRow.holds Try.pinned (OpenSpec.ofChange admitBarsSpec)

/-- ITS FALSE NEIGHBOUR: 'it returns false'. Refute it at one input. -/
def admitBarsWrong : ChangeSpec := { name := "admitBars", fn := fun _ => fun
  | [d1, d2] => { results := [.lit (.bool false)], args := [d1, d2] }
  | _ => none }
def AdmitBarsWrongFalsely : Prop := admitBarsRow.holds Try.pinned (OpenSpec.ofChange admitBarsWrong)

/-- 'fairwaylaw17.AdmitTimely': WHATEVER THE INPUT: true; the input reads as it did. -/
def admitTimelySpec : ChangeSpec := { name := "admitTimely", fn := fun _ => fun
  | [d1, d2] => { results := [.lit (.bool true)], args := [d1, d2] }
  | _ => none }
def admitTimelyRow : OpenClaim := { program := "ytoinocihlfmnnaa", sum := "9116a7a489ae7dddab336d28660933cbb585dfe42519aac0a82bb8d8dd7baf5e", func := "fairway/fairwaylaw17.AdmitTimely", spec := "admitTimely", unfollowed := true, recurses := true, apart := false }
def AdmitTimelySaid : Prop := admitTimelyRow.holds Try.pinned (OpenSpec.ofChange admitTimelySpec)

/-- ITS FALSE NEIGHBOUR: 'it returns false'. Refute it at one input. -/
def admitTimelyWrong : ChangeSpec := { name := "admitTimely", fn := fun _ => fun
  | [d1, d2] => { results := [.lit (.bool false)], args := [d1, d2] }
  | _ => none }
def AdmitTimelyWrongFalsely : Prop := admitTimelyRow.holds Try.pinned (OpenSpec.ofChange admitTimelyWrong)

/-- 'fairwaylaw17.AdmitSticks': WHATEVER THE INPUT: true; the input reads as it did. -/
def admitSticksSpec : ChangeSpec := { name := "admitSticks", fn := fun _ => fun
  | [d1, d2] => { results := [.lit (.bool true)], args := [d1, d2] }
  | _ => none }
def admitSticksRow : OpenClaim := { program := "ytoinocihlfmnnaa", sum := "9116a7a489ae7dddab336d28660933cbb585dfe42519aac0a82bb8d8dd7baf5e", func := "fairway/fairwaylaw17.AdmitSticks", spec := "admitSticks", unfollowed := true, recurses := true, apart := false }
def AdmitSticksSaid : Prop := admitSticksRow.holds Try.pinned (OpenSpec.ofChange admitSticksSpec)

/-- ITS FALSE NEIGHBOUR: 'it returns false'. Refute it at one input. -/
def admitSticksWrong : ChangeSpec := { name := "admitSticks", fn := fun _ => fun
  | [d1, d2] => { results := [.lit (.bool false)], args := [d1, d2] }
  | _ => none }
def AdmitSticksWrongFalsely : Prop := admitSticksRow.holds Try.pinned (OpenSpec.ofChange admitSticksWrong)

/-- 'fairwaylaw17.AdmitNone': WHATEVER THE INPUT: true; the input reads as it did. -/
def admitNoneSpec : ChangeSpec := { name := "admitNone", fn := fun _ => fun
  | [d1, d2] => { results := [.lit (.bool true)], args := [d1, d2] }
  | _ => none }
def admitNoneRow : OpenClaim := { program := "ytoinocihlfmnnaa", sum := "9116a7a489ae7dddab336d28660933cbb585dfe42519aac0a82bb8d8dd7baf5e", func := "fairway/fairwaylaw17.AdmitNone", spec := "admitNone", unfollowed := true, recurses := true, apart := false }
def AdmitNoneSaid : Prop := admitNoneRow.holds Try.pinned (OpenSpec.ofChange admitNoneSpec)

/-- ITS FALSE NEIGHBOUR: 'it returns false'. Refute it at one input. -/
def admitNoneWrong : ChangeSpec := { name := "admitNone", fn := fun _ => fun
  | [d1, d2] => { results := [.lit (.bool false)], args := [d1, d2] }
  | _ => none }
def AdmitNoneWrongFalsely : Prop := admitNoneRow.holds Try.pinned (OpenSpec.ofChange admitNoneWrong)

/- THE SECOND FORM. 'bulk': how many values and letters a reading holds, each counted each time it is reached (what is shared counts as often as it is met; a slice's spare places count too). A statement '..UptoSaid' is the law's where the arguments, and the package variables that the reading takes, are together of bulk at most 1048576: NARROWER than '..Said'. Prove '..Said' where nothing that the law and all that it calls make is longer than what came in: it says more and counts as full. Else prove '..UptoSaid'. A law counts once. -/
mutual
def uptoBulk {H : Type} : DataW H → Nat
  | .lit (.string bytes) => bytes.length + 1
  | .lit _ => 1
  | .nil => 1
  | .ptr d => uptoBulk d + 1
  | .slice elems spare => uptoBulkAll elems + uptoBulkAll spare + 1
  | .agg parts => uptoBulkAll parts + 1
  | .iface _ d => uptoBulk d + 1
  | .map entries => uptoBulkEntries entries + 1
  | .held _ => 1
def uptoBulkAll {H : Type} : List (DataW H) → Nat
  | [] => 0
  | d :: r => uptoBulk d + uptoBulkAll r
def uptoBulkEntries {H : Type} : List (Lit × DataW H) → Nat
  | [] => 0
  | x :: r => uptoBulkEntry x + uptoBulkEntries r
def uptoBulkEntry {H : Type} : Lit × DataW H → Nat
  | (.string bytes, d) => bytes.length + uptoBulk d + 1
  | (_, d) => uptoBulk d + 1
 end
def uptoSmall : (H : Type) → List (DataW H) → Bool := fun _ ds => decide (uptoBulkAll ds ≤ 1048576)
def OpenSpec.upto (s : _root_.Go.ChangeSpec) : _root_.Go.OpenSpec := { _root_.Go.OpenSpec.ofChange s with cond := some uptoSmall }

/-- 'fairwaylaw17.AdmitBars', WHERE WHAT IT READS IS OF BULK AT MOST 1048576: true; the input reads as it did. -/
def admitBarsUptoRow : OpenClaim := { program := "ytoinocihlfmnnaa", sum := "9116a7a489ae7dddab336d28660933cbb585dfe42519aac0a82bb8d8dd7baf5e", func := "fairway/fairwaylaw17.AdmitBars", spec := "admitBars", unfollowed := true, recurses := true, apart := false, narrowed := true }
def AdmitBarsUptoSaid : Prop := admitBarsUptoRow.holds Try.pinned (OpenSpec.upto admitBarsSpec)

/-- 'fairwaylaw17.AdmitTimely', WHERE WHAT IT READS IS OF BULK AT MOST 1048576: true; the input reads as it did. -/
def admitTimelyUptoRow : OpenClaim := { program := "ytoinocihlfmnnaa", sum := "9116a7a489ae7dddab336d28660933cbb585dfe42519aac0a82bb8d8dd7baf5e", func := "fairway/fairwaylaw17.AdmitTimely", spec := "admitTimely", unfollowed := true, recurses := true, apart := false, narrowed := true }
def AdmitTimelyUptoSaid : Prop := admitTimelyUptoRow.holds Try.pinned (OpenSpec.upto admitTimelySpec)

/-- 'fairwaylaw17.AdmitSticks', WHERE WHAT IT READS IS OF BULK AT MOST 1048576: true; the input reads as it did. -/
def admitSticksUptoRow : OpenClaim := { program := "ytoinocihlfmnnaa", sum := "9116a7a489ae7dddab336d28660933cbb585dfe42519aac0a82bb8d8dd7baf5e", func := "fairway/fairwaylaw17.AdmitSticks", spec := "admitSticks", unfollowed := true, recurses := true, apart := false, narrowed := true }
def AdmitSticksUptoSaid : Prop := admitSticksUptoRow.holds Try.pinned (OpenSpec.upto admitSticksSpec)

/-- 'fairwaylaw17.AdmitNone', WHERE WHAT IT READS IS OF BULK AT MOST 1048576: true; the input reads as it did. -/
def admitNoneUptoRow : OpenClaim := { program := "ytoinocihlfmnnaa", sum := "9116a7a489ae7dddab336d28660933cbb585dfe42519aac0a82bb8d8dd7baf5e", func := "fairway/fairwaylaw17.AdmitNone", spec := "admitNone", unfollowed := true, recurses := true, apart := false, narrowed := true }
def AdmitNoneUptoSaid : Prop := admitNoneUptoRow.holds Try.pinned (OpenSpec.upto admitNoneSpec)

end Rows
end Go.Proofs.Ytoinocihlfmnnaa
