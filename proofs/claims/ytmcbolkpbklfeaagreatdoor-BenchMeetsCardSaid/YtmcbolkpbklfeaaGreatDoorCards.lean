/-
  DERIVED. GIVEN WITH THE SEED: THE CARDS: each row of YtmcbolkpbklfeaaGreatDoorRows.lean that lists a variable, with what it lists TIED to the program's text (the seventh form; the later family's looks); each row that meets fmt, with fmt's text TOLD by the authors' own Lean function (tested against real Go, not proved from fmt's source: count such statements apart). THE CARD IS WHAT COUNTS. Prove the row's statement (the work); the ties are given (YtmcbolkpbklfeaaGreatDoorTie.lean); close each card by the builder's one call (the guide's Derived/Test/ToyasCard.lean, 'card_holds'). Laid BY PROGRAM, IN A SANDBOX (cutbox-door.mjs). By AI agents, Wed Nov 11 2026. No macro, syntax, notation, axiom, sorry.
-/
import Derived.Test.YtmcbolkpbklfeaaGreatDoorRows
import GoSem.ClaimSeven
namespace Go.Proofs.YtmcbolkpbklfeaaGreatDoor
namespace Rows

/-- THE TIED CARD OF 'gantrylaw32.BenchMeets'. -/
def benchMeetsCard : Claim7 := { stood := { row := benchMeetsRow, standIns := [], harness := (true, "a4f9a79f6feed4e2d124fb123d6373d70e30bd6995287c41ce558a53c9d88f8b"), looks := false }, kinds := [], alts := [], laidByText := true, laidKinds := [.pinned, .data, .data, .data, .data, .pinned, .pinned, .pinned, .pinned, .pinned], laidTests := true, laidLooks := .later }
def BenchMeetsCardSaid : Prop := Claim7.holds Tryz.pinned (.plain (OpenSpec.ofChange benchMeetsSpec)) benchMeetsCard

/-- THE SECOND FORM's CARD OF 'gantrylaw32.BenchMeets'. -/
def benchMeetsUptoCard : Claim7 := { stood := { row := benchMeetsUptoRow, standIns := [], harness := (true, "a4f9a79f6feed4e2d124fb123d6373d70e30bd6995287c41ce558a53c9d88f8b"), looks := false }, kinds := [], alts := [], laidByText := true, laidKinds := [.pinned, .data, .data, .data, .data, .pinned, .pinned, .pinned, .pinned, .pinned], laidTests := true, laidLooks := .later }
def BenchMeetsUptoCardSaid : Prop := Claim7.holds Tryz.pinned (.plain (OpenSpec.upto benchMeetsSpec)) benchMeetsUptoCard
end Rows
end Go.Proofs.YtmcbolkpbklfeaaGreatDoor
