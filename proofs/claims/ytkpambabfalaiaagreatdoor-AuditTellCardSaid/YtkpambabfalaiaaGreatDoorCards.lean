/-
  DERIVED. GIVEN WITH THE SEED: THE CARDS: each row of YtkpambabfalaiaaGreatDoorRows.lean that lists a variable, with what it lists TIED to the program's text (the seventh form; the later family's looks); each row that meets fmt, with fmt's text TOLD by the authors' own Lean function (tested against real Go, not proved from fmt's source: count such statements apart). THE CARD IS WHAT COUNTS. Prove the row's statement (the work); the ties are given (YtkpambabfalaiaaGreatDoorTie.lean); close each card by the builder's one call (the guide's Derived/Test/ToyasCard.lean, 'card_holds'). Laid BY PROGRAM, IN A SANDBOX (cutbox-door.mjs). By AI agents, Wed Nov 11 2026. No macro, syntax, notation, axiom, sorry.
-/
import Derived.Test.YtkpambabfalaiaaGreatDoorRows
import GoSem.ClaimSeven
namespace Go.Proofs.YtkpambabfalaiaaGreatDoor
namespace Rows

/-- THE TIED CARD OF 'fairwaylaw32.AuditTell'. -/
def auditTellCard : Claim7 := { stood := { row := auditTellRow, standIns := [], harness := (true, "90e1ff3777a1a7ab94bef6179874974db257fee029e4f0b6f2e9d69fffd53df4"), looks := true }, kinds := [], alts := [], laidByText := true, laidKinds := [.data, .data, .data, .data], laidTests := true, laidLooks := .later }
def AuditTellCardSaid : Prop := Claim7.holds Tryz.pinned (.plain (OpenSpec.ofChange auditTellSpec)) auditTellCard

/-- THE TIED CARD OF 'fairwaylaw32.AuditNone'. -/
def auditNoneCard : Claim7 := { stood := { row := auditNoneRow, standIns := [], harness := (true, "90e1ff3777a1a7ab94bef6179874974db257fee029e4f0b6f2e9d69fffd53df4"), looks := true }, kinds := [], alts := [], laidByText := true, laidKinds := [.data, .data, .data, .data], laidTests := true, laidLooks := .later }
def AuditNoneCardSaid : Prop := Claim7.holds Tryz.pinned (.plain (OpenSpec.ofChange auditNoneSpec)) auditNoneCard

/-- THE SECOND FORM's CARD OF 'fairwaylaw32.AuditTell'. -/
def auditTellUptoCard : Claim7 := { stood := { row := auditTellUptoRow, standIns := [], harness := (true, "90e1ff3777a1a7ab94bef6179874974db257fee029e4f0b6f2e9d69fffd53df4"), looks := true }, kinds := [], alts := [], laidByText := true, laidKinds := [.data, .data, .data, .data], laidTests := true, laidLooks := .later }
def AuditTellUptoCardSaid : Prop := Claim7.holds Tryz.pinned (.plain (OpenSpec.upto auditTellSpec)) auditTellUptoCard

/-- THE SECOND FORM's CARD OF 'fairwaylaw32.AuditNone'. -/
def auditNoneUptoCard : Claim7 := { stood := { row := auditNoneUptoRow, standIns := [], harness := (true, "90e1ff3777a1a7ab94bef6179874974db257fee029e4f0b6f2e9d69fffd53df4"), looks := true }, kinds := [], alts := [], laidByText := true, laidKinds := [.data, .data, .data, .data], laidTests := true, laidLooks := .later }
def AuditNoneUptoCardSaid : Prop := Claim7.holds Tryz.pinned (.plain (OpenSpec.upto auditNoneSpec)) auditNoneUptoCard
end Rows
end Go.Proofs.YtkpambabfalaiaaGreatDoor
