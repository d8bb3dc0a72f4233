/-
  DERIVED. GIVEN WITH THE SEED: THE CARDS: each row of YthnlpdacbcjgpaaGreatDoorRows.lean that lists a variable, with what it lists TIED to the program's text (the seventh form; the later family's looks); each row that meets fmt, with fmt's text TOLD by the authors' own Lean function (tested against real Go, not proved from fmt's source: count such statements apart). THE CARD IS WHAT COUNTS. Prove the row's statement (the work); the ties are given (YthnlpdacbcjgpaaGreatDoorTie.lean); close each card by the builder's one call (the guide's Derived/Test/ToyasCard.lean, 'card_holds'). Laid BY PROGRAM, IN A SANDBOX (cutbox-door.mjs). By AI agents, Wed Nov 11 2026. No macro, syntax, notation, axiom, sorry.
-/
import Derived.Test.YthnlpdacbcjgpaaGreatDoorRows
import GoSem.ClaimSeven
namespace Go.Proofs.YthnlpdacbcjgpaaGreatDoor
namespace Rows

/-- THE TIED CARD OF 'fairwaylaw36.ReplaysSame'. -/
def replaysSameCard : Claim7 := { stood := { row := replaysSameRow, standIns := [], harness := (true, "347b9ce5fa40a908cf7095ea3fe2c6fe8eed35d3f9082de3cfdba21ab8adcadd"), looks := true }, kinds := [], alts := [], laidByText := true, laidKinds := [.data, .data, .data, .data, .sentinel, .sentinel, .data, .pinned], laidTests := true, laidLooks := .later }
def ReplaysSameCardSaid : Prop := Claim7.holds Tryz.pinned (.plain (OpenSpec.ofChange replaysSameSpec)) replaysSameCard

/-- THE TIED CARD OF 'fairwaylaw36.ReplaysFinds'. -/
def replaysFindsCard : Claim7 := { stood := { row := replaysFindsRow, standIns := [], harness := (true, "347b9ce5fa40a908cf7095ea3fe2c6fe8eed35d3f9082de3cfdba21ab8adcadd"), looks := true }, kinds := [], alts := [], laidByText := true, laidKinds := [.data, .data, .data, .data, .sentinel, .sentinel, .data, .pinned], laidTests := true, laidLooks := .later }
def ReplaysFindsCardSaid : Prop := Claim7.holds Tryz.pinned (.plain (OpenSpec.ofChange replaysFindsSpec)) replaysFindsCard

/-- THE SECOND FORM's CARD OF 'fairwaylaw36.ReplaysSame'. -/
def replaysSameUptoCard : Claim7 := { stood := { row := replaysSameUptoRow, standIns := [], harness := (true, "347b9ce5fa40a908cf7095ea3fe2c6fe8eed35d3f9082de3cfdba21ab8adcadd"), looks := true }, kinds := [], alts := [], laidByText := true, laidKinds := [.data, .data, .data, .data, .sentinel, .sentinel, .data, .pinned], laidTests := true, laidLooks := .later }
def ReplaysSameUptoCardSaid : Prop := Claim7.holds Tryz.pinned (.plain (OpenSpec.upto replaysSameSpec)) replaysSameUptoCard

/-- THE SECOND FORM's CARD OF 'fairwaylaw36.ReplaysFinds'. -/
def replaysFindsUptoCard : Claim7 := { stood := { row := replaysFindsUptoRow, standIns := [], harness := (true, "347b9ce5fa40a908cf7095ea3fe2c6fe8eed35d3f9082de3cfdba21ab8adcadd"), looks := true }, kinds := [], alts := [], laidByText := true, laidKinds := [.data, .data, .data, .data, .sentinel, .sentinel, .data, .pinned], laidTests := true, laidLooks := .later }
def ReplaysFindsUptoCardSaid : Prop := Claim7.holds Tryz.pinned (.plain (OpenSpec.upto replaysFindsSpec)) replaysFindsUptoCard
end Rows
end Go.Proofs.YthnlpdacbcjgpaaGreatDoor
