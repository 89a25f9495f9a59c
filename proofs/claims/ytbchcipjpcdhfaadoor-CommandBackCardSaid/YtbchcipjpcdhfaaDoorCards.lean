/-
  DERIVED. GIVEN WITH THE SEED: THE CARDS: each row of YtbchcipjpcdhfaaDoorRows.lean that lists a variable, with what it lists TIED to the program's text (the seventh form; the later family's looks); each row that meets fmt, with fmt's text TOLD by the authors' own Lean function (tested against real Go, not proved from fmt's source: count such statements apart). THE CARD IS WHAT COUNTS. Prove the row's statement (the work); the ties are given (YtbchcipjpcdhfaaDoorTie.lean); close each card by the builder's one call (the guide's Derived/Test/ToyasCard.lean, 'card_holds'). Laid BY PROGRAM, IN A SANDBOX (cutbox-door.mjs). By AI agents, Wed Nov 11 2026. No macro, syntax, notation, axiom, sorry.
-/
import Derived.Test.YtbchcipjpcdhfaaDoorRows
import GoSem.ClaimSeven
namespace Go.Proofs.YtbchcipjpcdhfaaDoor
namespace Rows

/-- THE TIED CARD OF 'gantrylaw08.CommandBack'. -/
def commandBackCard : Claim7 := { stood := { row := commandBackRow, standIns := [], harness := (true, "0b6a31cbacc57e15e02235fee427ce2413aba2a3ae01702edc97070d032f4059"), looks := false }, kinds := [], alts := [], laidByText := true, laidKinds := [.data, .data, .data], laidTests := true, laidLooks := .later }
def CommandBackCardSaid : Prop := Claim7.holds Tryd.pinned (.plain (OpenSpec.ofChange commandBackSpec)) commandBackCard

/-- THE TIED CARD OF 'gantrylaw08.CommandOnce'. -/
def commandOnceCard : Claim7 := { stood := { row := commandOnceRow, standIns := [], harness := (true, "0b6a31cbacc57e15e02235fee427ce2413aba2a3ae01702edc97070d032f4059"), looks := false }, kinds := [], alts := [], laidByText := true, laidKinds := [.data, .data, .data], laidTests := true, laidLooks := .later }
def CommandOnceCardSaid : Prop := Claim7.holds Tryd.pinned (.plain (OpenSpec.ofChange commandOnceSpec)) commandOnceCard

/-- THE SECOND FORM's CARD OF 'gantrylaw08.CommandBack'. -/
def commandBackUptoCard : Claim7 := { stood := { row := commandBackUptoRow, standIns := [], harness := (true, "0b6a31cbacc57e15e02235fee427ce2413aba2a3ae01702edc97070d032f4059"), looks := false }, kinds := [], alts := [], laidByText := true, laidKinds := [.data, .data, .data], laidTests := true, laidLooks := .later }
def CommandBackUptoCardSaid : Prop := Claim7.holds Tryd.pinned (.plain (OpenSpec.upto commandBackSpec)) commandBackUptoCard

/-- THE SECOND FORM's CARD OF 'gantrylaw08.CommandOnce'. -/
def commandOnceUptoCard : Claim7 := { stood := { row := commandOnceUptoRow, standIns := [], harness := (true, "0b6a31cbacc57e15e02235fee427ce2413aba2a3ae01702edc97070d032f4059"), looks := false }, kinds := [], alts := [], laidByText := true, laidKinds := [.data, .data, .data], laidTests := true, laidLooks := .later }
def CommandOnceUptoCardSaid : Prop := Claim7.holds Tryd.pinned (.plain (OpenSpec.upto commandOnceSpec)) commandOnceUptoCard
end Rows
end Go.Proofs.YtbchcipjpcdhfaaDoor
