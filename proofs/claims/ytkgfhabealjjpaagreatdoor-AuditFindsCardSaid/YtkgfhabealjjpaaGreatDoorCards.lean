/-
  DERIVED. GIVEN WITH THE SEED: THE CARDS: each row of YtkgfhabealjjpaaGreatDoorRows.lean that lists a variable, with what it lists TIED to the program's text (the seventh form; the later family's looks); each row that meets fmt, with fmt's text TOLD by the authors' own Lean function (tested against real Go, not proved from fmt's source: count such statements apart). THE CARD IS WHAT COUNTS. Prove the row's statement (the work); the ties are given (YtkgfhabealjjpaaGreatDoorTie.lean); close each card by the builder's one call (the guide's Derived/Test/ToyasCard.lean, 'card_holds'). Laid BY PROGRAM, IN A SANDBOX (cutbox-door.mjs). By AI agents, Wed Nov 11 2026. No macro, syntax, notation, axiom, sorry.
-/
import Derived.Test.YtkgfhabealjjpaaGreatDoorRows
import GoSem.ClaimSeven
namespace Go.Proofs.YtkgfhabealjjpaaGreatDoor
namespace Rows

/-- THE TIED CARD OF 'fairwaylaw32.AuditFinds'. -/
def auditFindsCard : Claim7 := { stood := { row := auditFindsRow, standIns := [], harness := (true, "864b09ae6240195829563d8019829f47d869e50205f7212202f9ce8711402d54"), looks := true }, kinds := [], alts := [], laidByText := true, laidKinds := [.data, .data, .data, .data], laidTests := true, laidLooks := .later }
def AuditFindsCardSaid : Prop := Claim7.holds Tryz.pinned (.plain (OpenSpec.ofChange auditFindsSpec)) auditFindsCard

/-- THE SECOND FORM's CARD OF 'fairwaylaw32.AuditFinds'. -/
def auditFindsUptoCard : Claim7 := { stood := { row := auditFindsUptoRow, standIns := [], harness := (true, "864b09ae6240195829563d8019829f47d869e50205f7212202f9ce8711402d54"), looks := true }, kinds := [], alts := [], laidByText := true, laidKinds := [.data, .data, .data, .data], laidTests := true, laidLooks := .later }
def AuditFindsUptoCardSaid : Prop := Claim7.holds Tryz.pinned (.plain (OpenSpec.upto auditFindsSpec)) auditFindsUptoCard
end Rows
end Go.Proofs.YtkgfhabealjjpaaGreatDoor
