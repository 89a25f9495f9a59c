/-
  DERIVED. GIVEN WITH THE SEED: THE CARDS: each row of YtbchcipjpcdhfaaGreatDoorRows.lean that lists a variable, with what it lists TIED to the program's text (the seventh form; the later family's looks); each row that meets fmt, with fmt's text TOLD by the authors' own Lean function (tested against real Go, not proved from fmt's source: count such statements apart). THE CARD IS WHAT COUNTS. Prove the row's statement (the work); the ties are given (YtbchcipjpcdhfaaGreatDoorTie.lean); close each card by the builder's one call (the guide's Derived/Test/ToyasCard.lean, 'card_holds'). Laid BY PROGRAM, IN A SANDBOX (cutbox-door.mjs). By AI agents, Wed Nov 11 2026. No macro, syntax, notation, axiom, sorry.
-/
import Derived.Test.YtbchcipjpcdhfaaGreatDoorRows
import GoSem.ClaimSeven
namespace Go.Proofs.YtbchcipjpcdhfaaGreatDoor
namespace Rows

/-- THE TIED CARD OF 'gantrylaw08.CommandReads'. -/
def commandReadsCard : Claim7 := { stood := { row := commandReadsRow, standIns := [], harness := (true, "6ebbdef4359cc6c7e363f9413fb98ec3fe4c22882a0c41fae6f36b6688a85241"), looks := false }, kinds := [], alts := [], laidByText := true, laidKinds := [.data, .data, .data], laidTests := true, laidLooks := .later }
def CommandReadsCardSaid : Prop := Claim7.holds Tryz.pinned (.plain (OpenSpec.ofChange commandReadsSpec)) commandReadsCard

/-- THE TIED CARD OF 'gantrylaw08.CommandWrites'. -/
def commandWritesCard : Claim7 := { stood := { row := commandWritesRow, standIns := [], harness := (true, "6ebbdef4359cc6c7e363f9413fb98ec3fe4c22882a0c41fae6f36b6688a85241"), looks := false }, kinds := [], alts := [], laidByText := true, laidKinds := [.data, .data, .data], laidTests := true, laidLooks := .later }
def CommandWritesCardSaid : Prop := Claim7.holds Tryz.pinned (.plain (OpenSpec.ofChange commandWritesSpec)) commandWritesCard

/-- THE TIED CARD OF 'gantrylaw08.CommandText'. -/
def commandTextCard : Claim7 := { stood := { row := commandTextRow, standIns := [], harness := (true, "6ebbdef4359cc6c7e363f9413fb98ec3fe4c22882a0c41fae6f36b6688a85241"), looks := false }, kinds := [], alts := [], laidByText := true, laidKinds := [.data, .data, .data], laidTests := true, laidLooks := .later }
def CommandTextCardSaid : Prop := Claim7.holds Tryz.pinned (.plain (OpenSpec.ofChange commandTextSpec)) commandTextCard

/-- THE SECOND FORM's CARD OF 'gantrylaw08.CommandReads'. -/
def commandReadsUptoCard : Claim7 := { stood := { row := commandReadsUptoRow, standIns := [], harness := (true, "6ebbdef4359cc6c7e363f9413fb98ec3fe4c22882a0c41fae6f36b6688a85241"), looks := false }, kinds := [], alts := [], laidByText := true, laidKinds := [.data, .data, .data], laidTests := true, laidLooks := .later }
def CommandReadsUptoCardSaid : Prop := Claim7.holds Tryz.pinned (.plain (OpenSpec.upto commandReadsSpec)) commandReadsUptoCard

/-- THE SECOND FORM's CARD OF 'gantrylaw08.CommandWrites'. -/
def commandWritesUptoCard : Claim7 := { stood := { row := commandWritesUptoRow, standIns := [], harness := (true, "6ebbdef4359cc6c7e363f9413fb98ec3fe4c22882a0c41fae6f36b6688a85241"), looks := false }, kinds := [], alts := [], laidByText := true, laidKinds := [.data, .data, .data], laidTests := true, laidLooks := .later }
def CommandWritesUptoCardSaid : Prop := Claim7.holds Tryz.pinned (.plain (OpenSpec.upto commandWritesSpec)) commandWritesUptoCard

/-- THE SECOND FORM's CARD OF 'gantrylaw08.CommandText'. -/
def commandTextUptoCard : Claim7 := { stood := { row := commandTextUptoRow, standIns := [], harness := (true, "6ebbdef4359cc6c7e363f9413fb98ec3fe4c22882a0c41fae6f36b6688a85241"), looks := false }, kinds := [], alts := [], laidByText := true, laidKinds := [.data, .data, .data], laidTests := true, laidLooks := .later }
def CommandTextUptoCardSaid : Prop := Claim7.holds Tryz.pinned (.plain (OpenSpec.upto commandTextSpec)) commandTextUptoCard
end Rows
end Go.Proofs.YtbchcipjpcdhfaaGreatDoor
