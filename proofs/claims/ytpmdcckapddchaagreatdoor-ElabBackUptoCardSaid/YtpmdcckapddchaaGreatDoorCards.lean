/-
  DERIVED. GIVEN WITH THE SEED: THE CARDS: each row of YtpmdcckapddchaaGreatDoorRows.lean that lists a variable, with what it lists TIED to the program's text (the seventh form; the later family's looks); each row that meets fmt, with fmt's text TOLD by the authors' own Lean function (tested against real Go, not proved from fmt's source: count such statements apart). THE CARD IS WHAT COUNTS. Prove the row's statement (the work); the ties are given (YtpmdcckapddchaaGreatDoorTie.lean); close each card by the builder's one call (the guide's Derived/Test/ToyasCard.lean, 'card_holds'). Laid BY PROGRAM, IN A SANDBOX (cutbox-door.mjs). By AI agents, Wed Nov 11 2026. No macro, syntax, notation, axiom, sorry.
-/
import Derived.Test.YtpmdcckapddchaaGreatDoorRows
import GoSem.ClaimSeven
namespace Go.Proofs.YtpmdcckapddchaaGreatDoor
namespace Rows

/-- THE TIED CARD OF 'gantrylaw07.ElabTexts'. -/
def elabTextsCard : Claim7 := { stood := { row := elabTextsRow, standIns := [], harness := (true, "ed901eebea9c266be5522f7da4a13886b8acd3b351a1875d10907b9d0eca31bf"), looks := false }, kinds := [], alts := [], laidByText := true, laidKinds := [.data, .data, .data], laidTests := true, laidLooks := .later }
def ElabTextsCardSaid : Prop := Claim7.holds Tryz.pinned (.plain (OpenSpec.ofChange elabTextsSpec)) elabTextsCard

/-- THE TIED CARD OF 'gantrylaw07.ElabBack'. -/
def elabBackCard : Claim7 := { stood := { row := elabBackRow, standIns := [], harness := (true, "ed901eebea9c266be5522f7da4a13886b8acd3b351a1875d10907b9d0eca31bf"), looks := false }, kinds := [], alts := [], laidByText := true, laidKinds := [.data, .data, .data], laidTests := true, laidLooks := .later }
def ElabBackCardSaid : Prop := Claim7.holds Tryz.pinned (.plain (OpenSpec.ofChange elabBackSpec)) elabBackCard

/-- THE SECOND FORM's CARD OF 'gantrylaw07.ElabTexts'. -/
def elabTextsUptoCard : Claim7 := { stood := { row := elabTextsUptoRow, standIns := [], harness := (true, "ed901eebea9c266be5522f7da4a13886b8acd3b351a1875d10907b9d0eca31bf"), looks := false }, kinds := [], alts := [], laidByText := true, laidKinds := [.data, .data, .data], laidTests := true, laidLooks := .later }
def ElabTextsUptoCardSaid : Prop := Claim7.holds Tryz.pinned (.plain (OpenSpec.upto elabTextsSpec)) elabTextsUptoCard

/-- THE SECOND FORM's CARD OF 'gantrylaw07.ElabBack'. -/
def elabBackUptoCard : Claim7 := { stood := { row := elabBackUptoRow, standIns := [], harness := (true, "ed901eebea9c266be5522f7da4a13886b8acd3b351a1875d10907b9d0eca31bf"), looks := false }, kinds := [], alts := [], laidByText := true, laidKinds := [.data, .data, .data], laidTests := true, laidLooks := .later }
def ElabBackUptoCardSaid : Prop := Claim7.holds Tryz.pinned (.plain (OpenSpec.upto elabBackSpec)) elabBackUptoCard
end Rows
end Go.Proofs.YtpmdcckapddchaaGreatDoor
