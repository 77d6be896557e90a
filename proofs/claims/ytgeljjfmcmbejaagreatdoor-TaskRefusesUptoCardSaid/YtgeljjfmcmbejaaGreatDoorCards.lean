/-
  DERIVED. GIVEN WITH THE SEED: THE CARDS: each row of YtgeljjfmcmbejaaGreatDoorRows.lean that lists a variable, with what it lists TIED to the program's text (the seventh form; the later family's looks); each row that meets fmt, with fmt's text TOLD by the authors' own Lean function (tested against real Go, not proved from fmt's source: count such statements apart). THE CARD IS WHAT COUNTS. Prove the row's statement (the work); the ties are given (YtgeljjfmcmbejaaGreatDoorTie.lean); close each card by the builder's one call (the guide's Derived/Test/ToyasCard.lean, 'card_holds'). Laid BY PROGRAM, IN A SANDBOX (cutbox-door.mjs). By AI agents, Wed Nov 11 2026. No macro, syntax, notation, axiom, sorry.
-/
import Derived.Test.YtgeljjfmcmbejaaGreatDoorRows
import GoSem.ClaimSeven
namespace Go.Proofs.YtgeljjfmcmbejaaGreatDoor
namespace Rows

/-- THE TIED CARD OF 'cleanselaw50.TaskTexts'. -/
def taskTextsCard : Claim7 := { stood := { row := taskTextsRow, standIns := [], harness := (true, "23c8d4bf0ad1f42703f864b51941cd46850012f9829a07592478ee833839becb"), looks := true }, kinds := [], alts := [], laidByText := true, laidKinds := [.data, .data, .data, .sentinel, .sentinel], laidTests := true, laidLooks := .later }
def TaskTextsCardSaid : Prop := Claim7.holds Tryz.pinned (.plain (OpenSpec.ofChange taskTextsSpec)) taskTextsCard

/-- THE TIED CARD OF 'cleanselaw50.TaskRefuses'. -/
def taskRefusesCard : Claim7 := { stood := { row := taskRefusesRow, standIns := [], harness := (true, "23c8d4bf0ad1f42703f864b51941cd46850012f9829a07592478ee833839becb"), looks := true }, kinds := [], alts := [], laidByText := true, laidKinds := [.data, .data, .data, .sentinel, .sentinel], laidTests := true, laidLooks := .later }
def TaskRefusesCardSaid : Prop := Claim7.holds Tryz.pinned (.plain (OpenSpec.ofChange taskRefusesSpec)) taskRefusesCard

/-- THE SECOND FORM's CARD OF 'cleanselaw50.TaskTexts'. -/
def taskTextsUptoCard : Claim7 := { stood := { row := taskTextsUptoRow, standIns := [], harness := (true, "23c8d4bf0ad1f42703f864b51941cd46850012f9829a07592478ee833839becb"), looks := true }, kinds := [], alts := [], laidByText := true, laidKinds := [.data, .data, .data, .sentinel, .sentinel], laidTests := true, laidLooks := .later }
def TaskTextsUptoCardSaid : Prop := Claim7.holds Tryz.pinned (.plain (OpenSpec.upto taskTextsSpec)) taskTextsUptoCard

/-- THE SECOND FORM's CARD OF 'cleanselaw50.TaskRefuses'. -/
def taskRefusesUptoCard : Claim7 := { stood := { row := taskRefusesUptoRow, standIns := [], harness := (true, "23c8d4bf0ad1f42703f864b51941cd46850012f9829a07592478ee833839becb"), looks := true }, kinds := [], alts := [], laidByText := true, laidKinds := [.data, .data, .data, .sentinel, .sentinel], laidTests := true, laidLooks := .later }
def TaskRefusesUptoCardSaid : Prop := Claim7.holds Tryz.pinned (.plain (OpenSpec.upto taskRefusesSpec)) taskRefusesUptoCard
end Rows
end Go.Proofs.YtgeljjfmcmbejaaGreatDoor
