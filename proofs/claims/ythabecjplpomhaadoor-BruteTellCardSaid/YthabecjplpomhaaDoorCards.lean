/-
  DERIVED. GIVEN WITH THE SEED: THE CARDS: each row of YthabecjplpomhaaDoorRows.lean that lists a variable, with what it lists TIED to the program's text (the seventh form; the later family's looks); each row that meets fmt, with fmt's text TOLD by the authors' own Lean function (tested against real Go, not proved from fmt's source: count such statements apart). THE CARD IS WHAT COUNTS. Prove the row's statement (the work); the ties are given (YthabecjplpomhaaDoorTie.lean); close each card by the builder's one call (the guide's Derived/Test/ToyasCard.lean, 'card_holds'). Laid BY PROGRAM, IN A SANDBOX (cutbox-door.mjs). By AI agents, Wed Nov 11 2026. No macro, syntax, notation, axiom, sorry.
-/
import Derived.Test.YthabecjplpomhaaDoorRows
import GoSem.ClaimSeven
namespace Go.Proofs.YthabecjplpomhaaDoor
namespace Rows

/-- THE TIED CARD OF 'fairwaylaw33.BruteTell'. -/
def bruteTellCard : Claim7 := { stood := { row := bruteTellRow, standIns := [], harness := (true, "da693ac22e8090da0c356f950e597b6ca6d9a410e18f23f1c01d5f21b83ca938"), looks := true }, kinds := [], alts := [], laidByText := true, laidKinds := [.data, .data, .data], laidTests := true, laidLooks := .later }
def BruteTellCardSaid : Prop := Claim7.holds Tryd.pinned (.plain (OpenSpec.ofChange bruteTellSpec)) bruteTellCard

/-- THE TIED CARD OF 'fairwaylaw33.BruteMore'. -/
def bruteMoreCard : Claim7 := { stood := { row := bruteMoreRow, standIns := [], harness := (true, "da693ac22e8090da0c356f950e597b6ca6d9a410e18f23f1c01d5f21b83ca938"), looks := true }, kinds := [], alts := [], laidByText := true, laidKinds := [.data, .data, .data], laidTests := true, laidLooks := .later }
def BruteMoreCardSaid : Prop := Claim7.holds Tryd.pinned (.plain (OpenSpec.ofChange bruteMoreSpec)) bruteMoreCard

/-- THE TIED CARD OF 'fairwaylaw33.BruteSerial'. -/
def bruteSerialCard : Claim7 := { stood := { row := bruteSerialRow, standIns := [], harness := (true, "da693ac22e8090da0c356f950e597b6ca6d9a410e18f23f1c01d5f21b83ca938"), looks := true }, kinds := [], alts := [], laidByText := true, laidKinds := [.data, .data, .data], laidTests := true, laidLooks := .later }
def BruteSerialCardSaid : Prop := Claim7.holds Tryd.pinned (.plain (OpenSpec.ofChange bruteSerialSpec)) bruteSerialCard

/-- THE SECOND FORM's CARD OF 'fairwaylaw33.BruteTell'. -/
def bruteTellUptoCard : Claim7 := { stood := { row := bruteTellUptoRow, standIns := [], harness := (true, "da693ac22e8090da0c356f950e597b6ca6d9a410e18f23f1c01d5f21b83ca938"), looks := true }, kinds := [], alts := [], laidByText := true, laidKinds := [.data, .data, .data], laidTests := true, laidLooks := .later }
def BruteTellUptoCardSaid : Prop := Claim7.holds Tryd.pinned (.plain (OpenSpec.upto bruteTellSpec)) bruteTellUptoCard

/-- THE SECOND FORM's CARD OF 'fairwaylaw33.BruteMore'. -/
def bruteMoreUptoCard : Claim7 := { stood := { row := bruteMoreUptoRow, standIns := [], harness := (true, "da693ac22e8090da0c356f950e597b6ca6d9a410e18f23f1c01d5f21b83ca938"), looks := true }, kinds := [], alts := [], laidByText := true, laidKinds := [.data, .data, .data], laidTests := true, laidLooks := .later }
def BruteMoreUptoCardSaid : Prop := Claim7.holds Tryd.pinned (.plain (OpenSpec.upto bruteMoreSpec)) bruteMoreUptoCard

/-- THE SECOND FORM's CARD OF 'fairwaylaw33.BruteSerial'. -/
def bruteSerialUptoCard : Claim7 := { stood := { row := bruteSerialUptoRow, standIns := [], harness := (true, "da693ac22e8090da0c356f950e597b6ca6d9a410e18f23f1c01d5f21b83ca938"), looks := true }, kinds := [], alts := [], laidByText := true, laidKinds := [.data, .data, .data], laidTests := true, laidLooks := .later }
def BruteSerialUptoCardSaid : Prop := Claim7.holds Tryd.pinned (.plain (OpenSpec.upto bruteSerialSpec)) bruteSerialUptoCard
end Rows
end Go.Proofs.YthabecjplpomhaaDoor
