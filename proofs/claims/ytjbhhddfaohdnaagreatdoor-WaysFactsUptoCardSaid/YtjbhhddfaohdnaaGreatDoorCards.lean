/-
  DERIVED. GIVEN WITH THE SEED: THE CARDS: each row of YtjbhhddfaohdnaaGreatDoorRows.lean that lists a variable, with what it lists TIED to the program's text (the seventh form; the later family's looks); each row that meets fmt, with fmt's text TOLD by the authors' own Lean function (tested against real Go, not proved from fmt's source: count such statements apart). THE CARD IS WHAT COUNTS. Prove the row's statement (the work); the ties are given (YtjbhhddfaohdnaaGreatDoorTie.lean); close each card by the builder's one call (the guide's Derived/Test/ToyasCard.lean, 'card_holds'). Laid BY PROGRAM, IN A SANDBOX (cutbox-door.mjs). By AI agents, Wed Nov 11 2026. No macro, syntax, notation, axiom, sorry.
-/
import Derived.Test.YtjbhhddfaohdnaaGreatDoorRows
import GoSem.ClaimSeven
namespace Go.Proofs.YtjbhhddfaohdnaaGreatDoor
namespace Rows

/-- THE TIED CARD OF 'cleanselaw34.WaysMatchReference'. -/
def waysMatchReferenceCard : Claim7 := { stood := { row := waysMatchReferenceRow, standIns := [], harness := (true, "709db9b42c92547ff3b5c10c67a9418b50c1e69aa11f060e795aed9d8aa4409e"), looks := true }, kinds := [], alts := [], laidByText := true, laidKinds := [.data, .data, .data], laidTests := true, laidLooks := .later }
def WaysMatchReferenceCardSaid : Prop := Claim7.holds Tryz.pinned (.plain (OpenSpec.ofChange waysMatchReferenceSpec)) waysMatchReferenceCard

/-- THE TIED CARD OF 'cleanselaw34.WaysForm'. -/
def waysFormCard : Claim7 := { stood := { row := waysFormRow, standIns := [], harness := (true, "709db9b42c92547ff3b5c10c67a9418b50c1e69aa11f060e795aed9d8aa4409e"), looks := true }, kinds := [], alts := [], laidByText := true, laidKinds := [.data, .data, .data], laidTests := true, laidLooks := .later }
def WaysFormCardSaid : Prop := Claim7.holds Tryz.pinned (.plain (OpenSpec.ofChange waysFormSpec)) waysFormCard

/-- THE TIED CARD OF 'cleanselaw34.WaysMinimal'. -/
def waysMinimalCard : Claim7 := { stood := { row := waysMinimalRow, standIns := [], harness := (true, "709db9b42c92547ff3b5c10c67a9418b50c1e69aa11f060e795aed9d8aa4409e"), looks := true }, kinds := [], alts := [], laidByText := true, laidKinds := [.data, .data, .data], laidTests := true, laidLooks := .later }
def WaysMinimalCardSaid : Prop := Claim7.holds Tryz.pinned (.plain (OpenSpec.ofChange waysMinimalSpec)) waysMinimalCard

/-- THE TIED CARD OF 'cleanselaw34.WaysFacts'. -/
def waysFactsCard : Claim7 := { stood := { row := waysFactsRow, standIns := [], harness := (true, "709db9b42c92547ff3b5c10c67a9418b50c1e69aa11f060e795aed9d8aa4409e"), looks := true }, kinds := [], alts := [], laidByText := true, laidKinds := [.data, .data, .data], laidTests := true, laidLooks := .later }
def WaysFactsCardSaid : Prop := Claim7.holds Tryz.pinned (.plain (OpenSpec.ofChange waysFactsSpec)) waysFactsCard

/-- THE TIED CARD OF 'cleanselaw34.WaysJoined'. -/
def waysJoinedCard : Claim7 := { stood := { row := waysJoinedRow, standIns := [], harness := (true, "709db9b42c92547ff3b5c10c67a9418b50c1e69aa11f060e795aed9d8aa4409e"), looks := true }, kinds := [], alts := [], laidByText := true, laidKinds := [.data, .data, .data], laidTests := true, laidLooks := .later }
def WaysJoinedCardSaid : Prop := Claim7.holds Tryz.pinned (.plain (OpenSpec.ofChange waysJoinedSpec)) waysJoinedCard

/-- THE TIED CARD OF 'cleanselaw34.WaysExact'. -/
def waysExactCard : Claim7 := { stood := { row := waysExactRow, standIns := [], harness := (true, "709db9b42c92547ff3b5c10c67a9418b50c1e69aa11f060e795aed9d8aa4409e"), looks := true }, kinds := [], alts := [], laidByText := true, laidKinds := [.data, .data, .data], laidTests := true, laidLooks := .later }
def WaysExactCardSaid : Prop := Claim7.holds Tryz.pinned (.plain (OpenSpec.ofChange waysExactSpec)) waysExactCard

/-- THE TIED CARD OF 'cleanselaw34.WaysPossible'. -/
def waysPossibleCard : Claim7 := { stood := { row := waysPossibleRow, standIns := [], harness := (true, "709db9b42c92547ff3b5c10c67a9418b50c1e69aa11f060e795aed9d8aa4409e"), looks := true }, kinds := [], alts := [], laidByText := true, laidKinds := [.data, .data, .data], laidTests := true, laidLooks := .later }
def WaysPossibleCardSaid : Prop := Claim7.holds Tryz.pinned (.plain (OpenSpec.ofChange waysPossibleSpec)) waysPossibleCard

/-- THE SECOND FORM's CARD OF 'cleanselaw34.WaysMatchReference'. -/
def waysMatchReferenceUptoCard : Claim7 := { stood := { row := waysMatchReferenceUptoRow, standIns := [], harness := (true, "709db9b42c92547ff3b5c10c67a9418b50c1e69aa11f060e795aed9d8aa4409e"), looks := true }, kinds := [], alts := [], laidByText := true, laidKinds := [.data, .data, .data], laidTests := true, laidLooks := .later }
def WaysMatchReferenceUptoCardSaid : Prop := Claim7.holds Tryz.pinned (.plain (OpenSpec.upto waysMatchReferenceSpec)) waysMatchReferenceUptoCard

/-- THE SECOND FORM's CARD OF 'cleanselaw34.WaysForm'. -/
def waysFormUptoCard : Claim7 := { stood := { row := waysFormUptoRow, standIns := [], harness := (true, "709db9b42c92547ff3b5c10c67a9418b50c1e69aa11f060e795aed9d8aa4409e"), looks := true }, kinds := [], alts := [], laidByText := true, laidKinds := [.data, .data, .data], laidTests := true, laidLooks := .later }
def WaysFormUptoCardSaid : Prop := Claim7.holds Tryz.pinned (.plain (OpenSpec.upto waysFormSpec)) waysFormUptoCard

/-- THE SECOND FORM's CARD OF 'cleanselaw34.WaysMinimal'. -/
def waysMinimalUptoCard : Claim7 := { stood := { row := waysMinimalUptoRow, standIns := [], harness := (true, "709db9b42c92547ff3b5c10c67a9418b50c1e69aa11f060e795aed9d8aa4409e"), looks := true }, kinds := [], alts := [], laidByText := true, laidKinds := [.data, .data, .data], laidTests := true, laidLooks := .later }
def WaysMinimalUptoCardSaid : Prop := Claim7.holds Tryz.pinned (.plain (OpenSpec.upto waysMinimalSpec)) waysMinimalUptoCard

/-- THE SECOND FORM's CARD OF 'cleanselaw34.WaysFacts'. -/
def waysFactsUptoCard : Claim7 := { stood := { row := waysFactsUptoRow, standIns := [], harness := (true, "709db9b42c92547ff3b5c10c67a9418b50c1e69aa11f060e795aed9d8aa4409e"), looks := true }, kinds := [], alts := [], laidByText := true, laidKinds := [.data, .data, .data], laidTests := true, laidLooks := .later }
def WaysFactsUptoCardSaid : Prop := Claim7.holds Tryz.pinned (.plain (OpenSpec.upto waysFactsSpec)) waysFactsUptoCard

/-- THE SECOND FORM's CARD OF 'cleanselaw34.WaysJoined'. -/
def waysJoinedUptoCard : Claim7 := { stood := { row := waysJoinedUptoRow, standIns := [], harness := (true, "709db9b42c92547ff3b5c10c67a9418b50c1e69aa11f060e795aed9d8aa4409e"), looks := true }, kinds := [], alts := [], laidByText := true, laidKinds := [.data, .data, .data], laidTests := true, laidLooks := .later }
def WaysJoinedUptoCardSaid : Prop := Claim7.holds Tryz.pinned (.plain (OpenSpec.upto waysJoinedSpec)) waysJoinedUptoCard

/-- THE SECOND FORM's CARD OF 'cleanselaw34.WaysExact'. -/
def waysExactUptoCard : Claim7 := { stood := { row := waysExactUptoRow, standIns := [], harness := (true, "709db9b42c92547ff3b5c10c67a9418b50c1e69aa11f060e795aed9d8aa4409e"), looks := true }, kinds := [], alts := [], laidByText := true, laidKinds := [.data, .data, .data], laidTests := true, laidLooks := .later }
def WaysExactUptoCardSaid : Prop := Claim7.holds Tryz.pinned (.plain (OpenSpec.upto waysExactSpec)) waysExactUptoCard

/-- THE SECOND FORM's CARD OF 'cleanselaw34.WaysPossible'. -/
def waysPossibleUptoCard : Claim7 := { stood := { row := waysPossibleUptoRow, standIns := [], harness := (true, "709db9b42c92547ff3b5c10c67a9418b50c1e69aa11f060e795aed9d8aa4409e"), looks := true }, kinds := [], alts := [], laidByText := true, laidKinds := [.data, .data, .data], laidTests := true, laidLooks := .later }
def WaysPossibleUptoCardSaid : Prop := Claim7.holds Tryz.pinned (.plain (OpenSpec.upto waysPossibleSpec)) waysPossibleUptoCard
end Rows
end Go.Proofs.YtjbhhddfaohdnaaGreatDoor
