/-
  DERIVED. GIVEN WITH THE SEED: THE CARDS: each row of YtfcmpfaonpnbaaaDoorRows.lean that lists a variable, with what it lists TIED to the program's text (the seventh form; the later family's looks); each row that meets fmt, with fmt's text TOLD by the authors' own Lean function (tested against real Go, not proved from fmt's source: count such statements apart). THE CARD IS WHAT COUNTS. Prove the row's statement (the work); the ties are given (YtfcmpfaonpnbaaaDoorTie.lean); close each card by the builder's one call (the guide's Derived/Test/ToyasCard.lean, 'card_holds'). Laid BY PROGRAM, IN A SANDBOX (cutbox-door.mjs). By AI agents, Wed Nov 11 2026. No macro, syntax, notation, axiom, sorry.
-/
import Derived.Test.YtfcmpfaonpnbaaaDoorRows
import GoSem.ClaimSeven
namespace Go.Proofs.YtfcmpfaonpnbaaaDoor
namespace Rows

/-- THE TIED CARD OF 'gantrylaw09.ValueWith'. -/
def valueWithCard : Claim7 := { stood := { row := valueWithRow, standIns := [], harness := (true, "e1219e8166555047dd49119b55e47791e8ea9408a72626d268997c1024d66fbd"), looks := false }, kinds := [], alts := [], laidByText := true, laidKinds := [.data, .data, .data], laidTests := true, laidLooks := .later }
def ValueWithCardSaid : Prop := Claim7.holds Tryd.pinned (.plain (OpenSpec.ofChange valueWithSpec)) valueWithCard

/-- THE TIED CARD OF 'gantrylaw09.ValuePlain'. -/
def valuePlainCard : Claim7 := { stood := { row := valuePlainRow, standIns := [], harness := (true, "e1219e8166555047dd49119b55e47791e8ea9408a72626d268997c1024d66fbd"), looks := false }, kinds := [], alts := [], laidByText := true, laidKinds := [.data, .data, .data], laidTests := true, laidLooks := .later }
def ValuePlainCardSaid : Prop := Claim7.holds Tryd.pinned (.plain (OpenSpec.ofChange valuePlainSpec)) valuePlainCard

/-- THE TIED CARD OF 'gantrylaw09.ValueTexts'. -/
def valueTextsCard : Claim7 := { stood := { row := valueTextsRow, standIns := [], harness := (true, "e1219e8166555047dd49119b55e47791e8ea9408a72626d268997c1024d66fbd"), looks := false }, kinds := [], alts := [], laidByText := true, laidKinds := [.data, .data, .data], laidTests := true, laidLooks := .later }
def ValueTextsCardSaid : Prop := Claim7.holds Tryd.pinned (.plain (OpenSpec.ofChange valueTextsSpec)) valueTextsCard

/-- THE TIED CARD OF 'gantrylaw09.ValueTurns'. -/
def valueTurnsCard : Claim7 := { stood := { row := valueTurnsRow, standIns := [], harness := (true, "e1219e8166555047dd49119b55e47791e8ea9408a72626d268997c1024d66fbd"), looks := false }, kinds := [], alts := [], laidByText := true, laidKinds := [.data, .data, .data], laidTests := true, laidLooks := .later }
def ValueTurnsCardSaid : Prop := Claim7.holds Tryd.pinned (.plain (OpenSpec.ofChange valueTurnsSpec)) valueTurnsCard

/-- THE SECOND FORM's CARD OF 'gantrylaw09.ValueWith'. -/
def valueWithUptoCard : Claim7 := { stood := { row := valueWithUptoRow, standIns := [], harness := (true, "e1219e8166555047dd49119b55e47791e8ea9408a72626d268997c1024d66fbd"), looks := false }, kinds := [], alts := [], laidByText := true, laidKinds := [.data, .data, .data], laidTests := true, laidLooks := .later }
def ValueWithUptoCardSaid : Prop := Claim7.holds Tryd.pinned (.plain (OpenSpec.upto valueWithSpec)) valueWithUptoCard

/-- THE SECOND FORM's CARD OF 'gantrylaw09.ValuePlain'. -/
def valuePlainUptoCard : Claim7 := { stood := { row := valuePlainUptoRow, standIns := [], harness := (true, "e1219e8166555047dd49119b55e47791e8ea9408a72626d268997c1024d66fbd"), looks := false }, kinds := [], alts := [], laidByText := true, laidKinds := [.data, .data, .data], laidTests := true, laidLooks := .later }
def ValuePlainUptoCardSaid : Prop := Claim7.holds Tryd.pinned (.plain (OpenSpec.upto valuePlainSpec)) valuePlainUptoCard

/-- THE SECOND FORM's CARD OF 'gantrylaw09.ValueTexts'. -/
def valueTextsUptoCard : Claim7 := { stood := { row := valueTextsUptoRow, standIns := [], harness := (true, "e1219e8166555047dd49119b55e47791e8ea9408a72626d268997c1024d66fbd"), looks := false }, kinds := [], alts := [], laidByText := true, laidKinds := [.data, .data, .data], laidTests := true, laidLooks := .later }
def ValueTextsUptoCardSaid : Prop := Claim7.holds Tryd.pinned (.plain (OpenSpec.upto valueTextsSpec)) valueTextsUptoCard

/-- THE SECOND FORM's CARD OF 'gantrylaw09.ValueTurns'. -/
def valueTurnsUptoCard : Claim7 := { stood := { row := valueTurnsUptoRow, standIns := [], harness := (true, "e1219e8166555047dd49119b55e47791e8ea9408a72626d268997c1024d66fbd"), looks := false }, kinds := [], alts := [], laidByText := true, laidKinds := [.data, .data, .data], laidTests := true, laidLooks := .later }
def ValueTurnsUptoCardSaid : Prop := Claim7.holds Tryd.pinned (.plain (OpenSpec.upto valueTurnsSpec)) valueTurnsUptoCard
end Rows
end Go.Proofs.YtfcmpfaonpnbaaaDoor
