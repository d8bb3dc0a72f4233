/-
  DERIVED. GIVEN WITH THE SEED: THE CARDS: each row of YtoinocihlfmnnaaDoorRows.lean that lists a variable, with what it lists TIED to the program's text (the seventh form; the later family's looks); each row that meets fmt, with fmt's text TOLD by the authors' own Lean function (tested against real Go, not proved from fmt's source: count such statements apart). THE CARD IS WHAT COUNTS. Prove the row's statement (the work); the ties are given (YtoinocihlfmnnaaDoorTie.lean); close each card by the builder's one call (the guide's Derived/Test/ToyasCard.lean, 'card_holds'). Laid BY PROGRAM, IN A SANDBOX (cutbox-door.mjs). By AI agents, Wed Nov 11 2026. No macro, syntax, notation, axiom, sorry.
-/
import Derived.Test.YtoinocihlfmnnaaDoorRows
import GoSem.ClaimSeven
namespace Go.Proofs.YtoinocihlfmnnaaDoor
namespace Rows

/-- THE TIED CARD OF 'fairwaylaw30.MetersParts'. -/
def metersPartsCard : Claim7 := { stood := { row := metersPartsRow, standIns := [], harness := (true, "84171493286540efce119cba0a1005ce3da08d0a0777450db10fae20a511b45b"), looks := true }, kinds := [], alts := [], laidByText := true, laidKinds := [.data, .data, .data], laidTests := true, laidLooks := .later }
def MetersPartsCardSaid : Prop := Claim7.holds Tryd.pinned (.plain (OpenSpec.ofChange metersPartsSpec)) metersPartsCard

/-- THE TIED CARD OF 'fairwaylaw30.MetersSee'. -/
def metersSeeCard : Claim7 := { stood := { row := metersSeeRow, standIns := [], harness := (true, "84171493286540efce119cba0a1005ce3da08d0a0777450db10fae20a511b45b"), looks := true }, kinds := [], alts := [], laidByText := true, laidKinds := [.data, .data, .data], laidTests := true, laidLooks := .later }
def MetersSeeCardSaid : Prop := Claim7.holds Tryd.pinned (.plain (OpenSpec.ofChange metersSeeSpec)) metersSeeCard

/-- THE TIED CARD OF 'fairwaylaw30.MetersNone'. -/
def metersNoneCard : Claim7 := { stood := { row := metersNoneRow, standIns := [], harness := (true, "84171493286540efce119cba0a1005ce3da08d0a0777450db10fae20a511b45b"), looks := true }, kinds := [], alts := [], laidByText := true, laidKinds := [.data, .data, .data], laidTests := true, laidLooks := .later }
def MetersNoneCardSaid : Prop := Claim7.holds Tryd.pinned (.plain (OpenSpec.ofChange metersNoneSpec)) metersNoneCard

/-- THE TIED CARD OF 'fairwaylaw33.BruteTell'. -/
def bruteTellCard : Claim7 := { stood := { row := bruteTellRow, standIns := [], harness := (true, "84171493286540efce119cba0a1005ce3da08d0a0777450db10fae20a511b45b"), looks := true }, kinds := [], alts := [], laidByText := true, laidKinds := [.data, .data, .data], laidTests := true, laidLooks := .later }
def BruteTellCardSaid : Prop := Claim7.holds Tryd.pinned (.plain (OpenSpec.ofChange bruteTellSpec)) bruteTellCard

/-- THE TIED CARD OF 'fairwaylaw33.BruteMore'. -/
def bruteMoreCard : Claim7 := { stood := { row := bruteMoreRow, standIns := [], harness := (true, "84171493286540efce119cba0a1005ce3da08d0a0777450db10fae20a511b45b"), looks := true }, kinds := [], alts := [], laidByText := true, laidKinds := [.data, .data, .data], laidTests := true, laidLooks := .later }
def BruteMoreCardSaid : Prop := Claim7.holds Tryd.pinned (.plain (OpenSpec.ofChange bruteMoreSpec)) bruteMoreCard

/-- THE TIED CARD OF 'fairwaylaw33.BruteSerial'. -/
def bruteSerialCard : Claim7 := { stood := { row := bruteSerialRow, standIns := [], harness := (true, "84171493286540efce119cba0a1005ce3da08d0a0777450db10fae20a511b45b"), looks := true }, kinds := [], alts := [], laidByText := true, laidKinds := [.data, .data, .data], laidTests := true, laidLooks := .later }
def BruteSerialCardSaid : Prop := Claim7.holds Tryd.pinned (.plain (OpenSpec.ofChange bruteSerialSpec)) bruteSerialCard

/-- THE SECOND FORM's CARD OF 'fairwaylaw30.MetersParts'. -/
def metersPartsUptoCard : Claim7 := { stood := { row := metersPartsUptoRow, standIns := [], harness := (true, "84171493286540efce119cba0a1005ce3da08d0a0777450db10fae20a511b45b"), looks := true }, kinds := [], alts := [], laidByText := true, laidKinds := [.data, .data, .data], laidTests := true, laidLooks := .later }
def MetersPartsUptoCardSaid : Prop := Claim7.holds Tryd.pinned (.plain (OpenSpec.upto metersPartsSpec)) metersPartsUptoCard

/-- THE SECOND FORM's CARD OF 'fairwaylaw30.MetersSee'. -/
def metersSeeUptoCard : Claim7 := { stood := { row := metersSeeUptoRow, standIns := [], harness := (true, "84171493286540efce119cba0a1005ce3da08d0a0777450db10fae20a511b45b"), looks := true }, kinds := [], alts := [], laidByText := true, laidKinds := [.data, .data, .data], laidTests := true, laidLooks := .later }
def MetersSeeUptoCardSaid : Prop := Claim7.holds Tryd.pinned (.plain (OpenSpec.upto metersSeeSpec)) metersSeeUptoCard

/-- THE SECOND FORM's CARD OF 'fairwaylaw30.MetersNone'. -/
def metersNoneUptoCard : Claim7 := { stood := { row := metersNoneUptoRow, standIns := [], harness := (true, "84171493286540efce119cba0a1005ce3da08d0a0777450db10fae20a511b45b"), looks := true }, kinds := [], alts := [], laidByText := true, laidKinds := [.data, .data, .data], laidTests := true, laidLooks := .later }
def MetersNoneUptoCardSaid : Prop := Claim7.holds Tryd.pinned (.plain (OpenSpec.upto metersNoneSpec)) metersNoneUptoCard

/-- THE SECOND FORM's CARD OF 'fairwaylaw33.BruteTell'. -/
def bruteTellUptoCard : Claim7 := { stood := { row := bruteTellUptoRow, standIns := [], harness := (true, "84171493286540efce119cba0a1005ce3da08d0a0777450db10fae20a511b45b"), looks := true }, kinds := [], alts := [], laidByText := true, laidKinds := [.data, .data, .data], laidTests := true, laidLooks := .later }
def BruteTellUptoCardSaid : Prop := Claim7.holds Tryd.pinned (.plain (OpenSpec.upto bruteTellSpec)) bruteTellUptoCard

/-- THE SECOND FORM's CARD OF 'fairwaylaw33.BruteMore'. -/
def bruteMoreUptoCard : Claim7 := { stood := { row := bruteMoreUptoRow, standIns := [], harness := (true, "84171493286540efce119cba0a1005ce3da08d0a0777450db10fae20a511b45b"), looks := true }, kinds := [], alts := [], laidByText := true, laidKinds := [.data, .data, .data], laidTests := true, laidLooks := .later }
def BruteMoreUptoCardSaid : Prop := Claim7.holds Tryd.pinned (.plain (OpenSpec.upto bruteMoreSpec)) bruteMoreUptoCard

/-- THE SECOND FORM's CARD OF 'fairwaylaw33.BruteSerial'. -/
def bruteSerialUptoCard : Claim7 := { stood := { row := bruteSerialUptoRow, standIns := [], harness := (true, "84171493286540efce119cba0a1005ce3da08d0a0777450db10fae20a511b45b"), looks := true }, kinds := [], alts := [], laidByText := true, laidKinds := [.data, .data, .data], laidTests := true, laidLooks := .later }
def BruteSerialUptoCardSaid : Prop := Claim7.holds Tryd.pinned (.plain (OpenSpec.upto bruteSerialSpec)) bruteSerialUptoCard
end Rows
end Go.Proofs.YtoinocihlfmnnaaDoor
