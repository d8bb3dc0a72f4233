/-
  DERIVED. GIVEN WITH THE SEED: THE CARDS: each row of YtbmakdofbejlnaaGreatDoorRows.lean that lists a variable, with what it lists TIED to the program's text (the seventh form; the later family's looks); each row that meets fmt, with fmt's text TOLD by the authors' own Lean function (tested against real Go, not proved from fmt's source: count such statements apart). THE CARD IS WHAT COUNTS. Prove the row's statement (the work); the ties are given (YtbmakdofbejlnaaGreatDoorTie.lean); close each card by the builder's one call (the guide's Derived/Test/ToyasCard.lean, 'card_holds'). Laid BY PROGRAM, IN A SANDBOX (cutbox-door.mjs). By AI agents, Wed Nov 11 2026. No macro, syntax, notation, axiom, sorry.
-/
import Derived.Test.YtbmakdofbejlnaaGreatDoorRows
import GoSem.ClaimSeven
namespace Go.Proofs.YtbmakdofbejlnaaGreatDoor
namespace Rows

/-- THE TIED CARD OF 'fairwaylaw35.DeskNone'. -/
def deskNoneCard : Claim7 := { stood := { row := deskNoneRow, standIns := [], harness := (true, "5f6e35e44cbe5fa8b5ef71316e0b8800cb36169a2be9fefb00287d82b6f4cab2"), looks := true }, kinds := [], alts := [], laidByText := true, laidKinds := [.data, .data, .data, .data, .sentinel, .sentinel, .data, .pinned], laidTests := true, laidLooks := .later }
def DeskNoneCardSaid : Prop := Claim7.holds Tryz.pinned (.plain (OpenSpec.ofChange deskNoneSpec)) deskNoneCard

/-- THE SECOND FORM's CARD OF 'fairwaylaw35.DeskNone'. -/
def deskNoneUptoCard : Claim7 := { stood := { row := deskNoneUptoRow, standIns := [], harness := (true, "5f6e35e44cbe5fa8b5ef71316e0b8800cb36169a2be9fefb00287d82b6f4cab2"), looks := true }, kinds := [], alts := [], laidByText := true, laidKinds := [.data, .data, .data, .data, .sentinel, .sentinel, .data, .pinned], laidTests := true, laidLooks := .later }
def DeskNoneUptoCardSaid : Prop := Claim7.holds Tryz.pinned (.plain (OpenSpec.upto deskNoneSpec)) deskNoneUptoCard
end Rows
end Go.Proofs.YtbmakdofbejlnaaGreatDoor
