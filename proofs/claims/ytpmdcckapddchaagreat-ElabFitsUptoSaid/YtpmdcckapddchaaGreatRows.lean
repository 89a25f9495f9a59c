/-
  NARROWER THAN 'FOR EVERY INPUT', by the rows' own cells (each row's printed sentence says how): ElabLets: loops · ElabFits: loops · ElabSorts: loops · ElabMacros: loops.
  DERIVED. THE GIVEN ROWS OF THIS SEAT. 4 by the template 'for every input the law returns true; each argument reads behind the call as it read before'; 0 by the template 'total and deterministic' (their statements: YtpmdcckapddchaaGreatTotals.lean).
  GIVEN WITH THE SEED: the statements are not yours to turn. If you find one false, say at which input.
  Laid BY PROGRAM, IN A SANDBOX (cutbox-rows.mjs): the forced cells as the released guide's own fill.sh prints them over the translation 63ddb88dc3f4eb4d… (all of the seat's roots in one cut). By AI agents, Wed Nov 11 2026. No macro, syntax, notation, axiom, sorry.
-/
import Derived.Test.YtpmdcckapddchaaGreatChecked
import GoSem.Claim
import GoSem.ClaimJoined
import GoSem.ClaimMapViews
import Derived.JoinedTies
import Derived.KernelRfl
namespace Go.Proofs.YtpmdcckapddchaaGreat
/- THE CELL 'sum', in the pinned program and in every row, IS THE sha256 OF THE DUMP (.gsa) THAT YtpmdcckapddchaaGreatProg.lean LOADS. Nothing in Lean hashes anything: it is a label: what it is worth is what the hold of that sum in a sandbox is worth. -/
noncomputable def Tryz.pinned : Pinned := { name := "ytpmdcckapddchaagreat", sum := "63ddb88dc3f4eb4d61475023a093255ff6c771fde0485374601569dca76f3d8d", checked := Tryz.checked }
namespace Rows
def none {H : Type} : Left H := { results := [], args := [] }

/-- 'gantrylaw07.ElabLets': WHATEVER THE INPUT: true; the input reads as it did. -/
def elabLetsSpec : ChangeSpec := { name := "elabLets", fn := fun _ => fun
  | [d1, d2] => { results := [.lit (.bool true)], args := [d1, d2] }
  | _ => none }
def elabLetsRow : OpenClaim := { program := "ytpmdcckapddchaagreat", sum := "63ddb88dc3f4eb4d61475023a093255ff6c771fde0485374601569dca76f3d8d", func := "gantry/gantrylaw07.ElabLets", spec := "elabLets", inPlace := ["internal/bytealg.IndexByteString"], unfollowed := true, recurses := true, loops := true, plainKeys := false, apart := false }
def ElabLetsSaid : Prop := elabLetsRow.holds Tryz.pinned (OpenSpec.ofChange elabLetsSpec)

/-- ITS FALSE NEIGHBOUR: 'it returns false'. Refute it at one input. -/
def elabLetsWrong : ChangeSpec := { name := "elabLets", fn := fun _ => fun
  | [d1, d2] => { results := [.lit (.bool false)], args := [d1, d2] }
  | _ => none }
def ElabLetsWrongFalsely : Prop := elabLetsRow.holds Tryz.pinned (OpenSpec.ofChange elabLetsWrong)

/-- 'gantrylaw07.ElabFits': WHATEVER THE INPUT: true; the input reads as it did. -/
def elabFitsSpec : ChangeSpec := { name := "elabFits", fn := fun _ => fun
  | [d1, d2] => { results := [.lit (.bool true)], args := [d1, d2] }
  | _ => none }
def elabFitsRow : OpenClaim := { program := "ytpmdcckapddchaagreat", sum := "63ddb88dc3f4eb4d61475023a093255ff6c771fde0485374601569dca76f3d8d", func := "gantry/gantrylaw07.ElabFits", spec := "elabFits", inPlace := ["internal/bytealg.IndexByteString"], unfollowed := true, recurses := true, loops := true, plainKeys := false, apart := false }
def ElabFitsSaid : Prop := elabFitsRow.holds Tryz.pinned (OpenSpec.ofChange elabFitsSpec)

/-- ITS FALSE NEIGHBOUR: 'it returns false'. Refute it at one input. -/
def elabFitsWrong : ChangeSpec := { name := "elabFits", fn := fun _ => fun
  | [d1, d2] => { results := [.lit (.bool false)], args := [d1, d2] }
  | _ => none }
def ElabFitsWrongFalsely : Prop := elabFitsRow.holds Tryz.pinned (OpenSpec.ofChange elabFitsWrong)

/-- 'gantrylaw07.ElabSorts': WHATEVER THE INPUT: true; the input reads as it did. -/
def elabSortsSpec : ChangeSpec := { name := "elabSorts", fn := fun _ => fun
  | [d1, d2] => { results := [.lit (.bool true)], args := [d1, d2] }
  | _ => none }
def elabSortsRow : OpenClaim := { program := "ytpmdcckapddchaagreat", sum := "63ddb88dc3f4eb4d61475023a093255ff6c771fde0485374601569dca76f3d8d", func := "gantry/gantrylaw07.ElabSorts", spec := "elabSorts", inPlace := ["internal/bytealg.IndexByteString"], unfollowed := true, recurses := true, loops := true, plainKeys := false, apart := false }
def ElabSortsSaid : Prop := elabSortsRow.holds Tryz.pinned (OpenSpec.ofChange elabSortsSpec)

/-- ITS FALSE NEIGHBOUR: 'it returns false'. Refute it at one input. -/
def elabSortsWrong : ChangeSpec := { name := "elabSorts", fn := fun _ => fun
  | [d1, d2] => { results := [.lit (.bool false)], args := [d1, d2] }
  | _ => none }
def ElabSortsWrongFalsely : Prop := elabSortsRow.holds Tryz.pinned (OpenSpec.ofChange elabSortsWrong)

/-- 'gantrylaw07.ElabMacros': WHATEVER THE INPUT: true; the input reads as it did. -/
def elabMacrosSpec : ChangeSpec := { name := "elabMacros", fn := fun _ => fun
  | [d1, d2, d3] => { results := [.lit (.bool true)], args := [d1, d2, d3] }
  | _ => none }
def elabMacrosRow : OpenClaim := { program := "ytpmdcckapddchaagreat", sum := "63ddb88dc3f4eb4d61475023a093255ff6c771fde0485374601569dca76f3d8d", func := "gantry/gantrylaw07.ElabMacros", spec := "elabMacros", inPlace := ["internal/bytealg.IndexByteString"], unfollowed := true, recurses := true, loops := true, plainKeys := false, apart := false }
def ElabMacrosSaid : Prop := elabMacrosRow.holds Tryz.pinned (OpenSpec.ofChange elabMacrosSpec)

/-- ITS FALSE NEIGHBOUR: 'it returns false'. Refute it at one input. -/
def elabMacrosWrong : ChangeSpec := { name := "elabMacros", fn := fun _ => fun
  | [d1, d2, d3] => { results := [.lit (.bool false)], args := [d1, d2, d3] }
  | _ => none }
def ElabMacrosWrongFalsely : Prop := elabMacrosRow.holds Tryz.pinned (OpenSpec.ofChange elabMacrosWrong)

/- THE SECOND FORM. 'bulk': how many values and letters a reading holds, each counted each time it is reached (what is shared counts as often as it is met; a slice's spare places count too). A statement '..UptoSaid' is the law's where the arguments, and the package variables that the reading takes, are together of bulk at most 1048576: NARROWER than '..Said'. Prove '..Said' where nothing that the law and all that it calls make is longer than what came in: it says more and counts as full. Else prove '..UptoSaid'. A law counts once. -/
mutual
def uptoBulk {H : Type} : DataW H → Nat
  | .lit (.string bytes) => bytes.length + 1
  | .lit _ => 1
  | .nil => 1
  | .ptr d => uptoBulk d + 1
  | .slice elems spare => uptoBulkAll elems + uptoBulkAll spare + 1
  | .agg parts => uptoBulkAll parts + 1
  | .iface _ d => uptoBulk d + 1
  | .map entries => uptoBulkEntries entries + 1
  | .held _ => 1
def uptoBulkAll {H : Type} : List (DataW H) → Nat
  | [] => 0
  | d :: r => uptoBulk d + uptoBulkAll r
def uptoBulkEntries {H : Type} : List (Lit × DataW H) → Nat
  | [] => 0
  | x :: r => uptoBulkEntry x + uptoBulkEntries r
def uptoBulkEntry {H : Type} : Lit × DataW H → Nat
  | (.string bytes, d) => bytes.length + uptoBulk d + 1
  | (_, d) => uptoBulk d + 1
 end
def uptoSmall : (H : Type) → List (DataW H) → Bool := fun _ ds => decide (uptoBulkAll ds ≤ 1048576)
def OpenSpec.upto (s : _root_.Go.ChangeSpec) : _root_.Go.OpenSpec := { _root_.Go.OpenSpec.ofChange s with cond := some uptoSmall }

/-- 'gantrylaw07.ElabLets', WHERE WHAT IT READS IS OF BULK AT MOST 1048576: true; the input reads as it did. -/
def elabLetsUptoRow : OpenClaim := { program := "ytpmdcckapddchaagreat", sum := "63ddb88dc3f4eb4d61475023a093255ff6c771fde0485374601569dca76f3d8d", func := "gantry/gantrylaw07.ElabLets", spec := "elabLets", inPlace := ["internal/bytealg.IndexByteString"], unfollowed := true, recurses := true, loops := true, plainKeys := false, apart := false, narrowed := true }
def ElabLetsUptoSaid : Prop := elabLetsUptoRow.holds Tryz.pinned (OpenSpec.upto elabLetsSpec)

/-- 'gantrylaw07.ElabFits', WHERE WHAT IT READS IS OF BULK AT MOST 1048576: true; the input reads as it did. -/
def elabFitsUptoRow : OpenClaim := { program := "ytpmdcckapddchaagreat", sum := "63ddb88dc3f4eb4d61475023a093255ff6c771fde0485374601569dca76f3d8d", func := "gantry/gantrylaw07.ElabFits", spec := "elabFits", inPlace := ["internal/bytealg.IndexByteString"], unfollowed := true, recurses := true, loops := true, plainKeys := false, apart := false, narrowed := true }
def ElabFitsUptoSaid : Prop := elabFitsUptoRow.holds Tryz.pinned (OpenSpec.upto elabFitsSpec)

/-- 'gantrylaw07.ElabSorts', WHERE WHAT IT READS IS OF BULK AT MOST 1048576: true; the input reads as it did. -/
def elabSortsUptoRow : OpenClaim := { program := "ytpmdcckapddchaagreat", sum := "63ddb88dc3f4eb4d61475023a093255ff6c771fde0485374601569dca76f3d8d", func := "gantry/gantrylaw07.ElabSorts", spec := "elabSorts", inPlace := ["internal/bytealg.IndexByteString"], unfollowed := true, recurses := true, loops := true, plainKeys := false, apart := false, narrowed := true }
def ElabSortsUptoSaid : Prop := elabSortsUptoRow.holds Tryz.pinned (OpenSpec.upto elabSortsSpec)

/-- 'gantrylaw07.ElabMacros', WHERE WHAT IT READS IS OF BULK AT MOST 1048576: true; the input reads as it did. -/
def elabMacrosUptoRow : OpenClaim := { program := "ytpmdcckapddchaagreat", sum := "63ddb88dc3f4eb4d61475023a093255ff6c771fde0485374601569dca76f3d8d", func := "gantry/gantrylaw07.ElabMacros", spec := "elabMacros", inPlace := ["internal/bytealg.IndexByteString"], unfollowed := true, recurses := true, loops := true, plainKeys := false, apart := false, narrowed := true }
def ElabMacrosUptoSaid : Prop := elabMacrosUptoRow.holds Tryz.pinned (OpenSpec.upto elabMacrosSpec)

end Rows
end Go.Proofs.YtpmdcckapddchaaGreat
