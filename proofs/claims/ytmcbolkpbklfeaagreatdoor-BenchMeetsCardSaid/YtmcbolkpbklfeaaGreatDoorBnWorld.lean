/- BenchMeets: a world in which the laid tables read as told. No condition. -/
import Derived.Test.YtmcbolkpbklfeaaGreatDoorCards
import Derived.PinnedBridge
import Derived.LaidSub
import Derived.Lib.LaidIn
import Derived.Lib.LaidSlice
import Derived.Lib.LaidPrint
import Derived.Test.YtmcbolkpbklfeaaGreatDoorLaw
namespace Go.Proofs.YtmcbolkpbklfeaaGreatDoor.benchMeets
open Go.RowKit Go.ChangeShapes Go.WideShapes Go.ChangeAt Go.WideMaps Go.WideElems
open Go.ChangeMaps (setBlock shut_map_nil open_string shut_string keptBut_setBlock frozen?_setBlock heap_setBlock_same)
theorem laid_plain {W : World} : laidMetH Tryz.prog Rows.benchMeetsRow.laid W ↔ laidMet Tryz.prog Rows.benchMeetsRow.laid W := by rw [MakeChecks.laidMetH_plain _ _ _ (by kernel_rfl)]
/-- a datum's cells, where it is made of numbers -/
def numCells : DataW Unit → List Value
  | .lit (.int k n) => [.int k n]
  | .agg l => l.flatMap fun d => match d with
    | .lit (.int k n) => [.int k n]
    | .agg m => m.flatMap fun e => match e with
      | .lit (.int k n) => [.int k n]
      | _ => []
    | _ => []
  | _ => []
def graphicT : List Nat := match Go.Pinned.isGraphic with
  | .slice l _ => l.map fun d => match d with
    | .lit (.int _ n) => n.toNat
    | _ => 0
  | _ => []
theorem graphic_eq : Go.Pinned.isGraphic = Lib.sliceData .u16 graphicT := by kernel_rfl
def putG (h : Array Obj) (g : Nat) (cs : Array Value) : Array Obj := h.modify g fun
  | .cells _ t frozen => .cells cs t frozen
  | o => o
noncomputable def laidWorld (os : Os) : World :=
  let N := (World.settled Tryz.prog os).heap.size
  let T := Lib.goPrintTabs
  let w0 := World.holding Tryz.prog os ⟨#[.cells (Lib.intCellsOf .u16 T.p16) 514, .cells (Lib.intCellsOf .u16 T.n16) 514, .cells (Lib.intCellsOf .u32 T.p32) 225, .cells (Lib.intCellsOf .u16 T.n32) 514, .cells (Lib.intCellsOf .u16 graphicT) 514], #[], []⟩
  let h1 := putG w0.heap 1 (numCells Rows.laid_unicode_utf8_first).toArray
  let h2 := putG h1 2 (numCells Rows.laid_unicode_utf8_acceptRanges).toArray
  let h3 := putG h2 3 (numCells Rows.laid_internal_strconv_uint64pow10).toArray
  let h4 := putG h3 4 (numCells Rows.laid_math_bits_deBruijn32tab).toArray
  let h5 := putG h4 5 (numCells Rows.laid_math_bits_deBruijn64tab).toArray
  let h6 := putG h5 6 #[.slice (some ⟨N, 0, none⟩) T.p16.length T.p16.length]
  let h7 := putG h6 7 #[.slice (some ⟨N + 1, 0, none⟩) T.n16.length T.n16.length]
  let h8 := putG h7 8 #[.slice (some ⟨N + 2, 0, none⟩) T.p32.length T.p32.length]
  let h9 := putG h8 9 #[.slice (some ⟨N + 3, 0, none⟩) T.n32.length T.n32.length]
  let h10 := putG h9 10 #[.slice (some ⟨N + 4, 0, none⟩) graphicT.length graphicT.length]
  { w0 with heap := h10 }
noncomputable abbrev N0 : Nat := (World.settled Tryz.prog default).heap.size
theorem piece0 (os : Os) (args : Array Value) : LaidIn Tryz.prog ((laidWorld os).forCall (fun _ _ => 0) ⟨#[], args, []⟩).memory [("unicode/utf8.first", Rows.laid_unicode_utf8_first), ("unicode/utf8.acceptRanges", Rows.laid_unicode_utf8_acceptRanges), ("internal/strconv.uint64pow10", Rows.laid_internal_strconv_uint64pow10), ("math/bits.deBruijn32tab", Rows.laid_math_bits_deBruijn32tab), ("math/bits.deBruijn64tab", Rows.laid_math_bits_deBruijn64tab)] [1, 2, 3, 4, 5] :=
  LaidIn.of_run [1, 2, 3, 4, 5] 8 (by kernel_rfl) (by kernel_rfl) (by kernel_rfl) (by kernel_rfl)
set_option maxRecDepth 1000000 in
theorem piece1 (os : Os) (args : Array Value) : LaidIn Tryz.prog ((laidWorld os).forCall (fun _ _ => 0) ⟨#[], args, []⟩).memory [("strconv.isPrint16", Lib.sliceData .u16 Lib.goPrintTabs.p16)] [6, N0 + 0] :=
  Lib.laidIn_slice (t := 515) (e := 514) (te := 514) Lib.goPrintTabs.p16 (N0 + 0) (by kernel_rfl) (by kernel_rfl) (by kernel_rfl) (by kernel_rfl) (by kernel_rfl) (by kernel_rfl) (by kernel_rfl) (by kernel_rfl) (of_decide_eq_true (by kernel_rfl)) (of_decide_eq_true (by kernel_rfl))
set_option maxRecDepth 1000000 in
theorem piece2 (os : Os) (args : Array Value) : LaidIn Tryz.prog ((laidWorld os).forCall (fun _ _ => 0) ⟨#[], args, []⟩).memory [("strconv.isNotPrint16", Lib.sliceData .u16 Lib.goPrintTabs.n16)] [7, N0 + 1] :=
  Lib.laidIn_slice (t := 515) (e := 514) (te := 514) Lib.goPrintTabs.n16 (N0 + 1) (by kernel_rfl) (by kernel_rfl) (by kernel_rfl) (by kernel_rfl) (by kernel_rfl) (by kernel_rfl) (by kernel_rfl) (by kernel_rfl) (of_decide_eq_true (by kernel_rfl)) (of_decide_eq_true (by kernel_rfl))
set_option maxRecDepth 1000000 in
theorem piece3 (os : Os) (args : Array Value) : LaidIn Tryz.prog ((laidWorld os).forCall (fun _ _ => 0) ⟨#[], args, []⟩).memory [("strconv.isPrint32", Lib.sliceData .u32 Lib.goPrintTabs.p32)] [8, N0 + 2] :=
  Lib.laidIn_slice (t := 517) (e := 225) (te := 225) Lib.goPrintTabs.p32 (N0 + 2) (by kernel_rfl) (by kernel_rfl) (by kernel_rfl) (by kernel_rfl) (by kernel_rfl) (by kernel_rfl) (by kernel_rfl) (by kernel_rfl) (of_decide_eq_true (by kernel_rfl)) (of_decide_eq_true (by kernel_rfl))
set_option maxRecDepth 1000000 in
theorem piece4 (os : Os) (args : Array Value) : LaidIn Tryz.prog ((laidWorld os).forCall (fun _ _ => 0) ⟨#[], args, []⟩).memory [("strconv.isNotPrint32", Lib.sliceData .u16 Lib.goPrintTabs.n32)] [9, N0 + 3] :=
  Lib.laidIn_slice (t := 515) (e := 514) (te := 514) Lib.goPrintTabs.n32 (N0 + 3) (by kernel_rfl) (by kernel_rfl) (by kernel_rfl) (by kernel_rfl) (by kernel_rfl) (by kernel_rfl) (by kernel_rfl) (by kernel_rfl) (of_decide_eq_true (by kernel_rfl)) (of_decide_eq_true (by kernel_rfl))
set_option maxRecDepth 1000000 in
theorem piece5 (os : Os) (args : Array Value) : LaidIn Tryz.prog ((laidWorld os).forCall (fun _ _ => 0) ⟨#[], args, []⟩).memory [("strconv.isGraphic", Lib.sliceData .u16 graphicT)] [10, N0 + 4] :=
  Lib.laidIn_slice (t := 515) (e := 514) (te := 514) graphicT (N0 + 4) (by kernel_rfl) (by kernel_rfl) (by kernel_rfl) (by kernel_rfl) (by kernel_rfl) (by kernel_rfl) (by kernel_rfl) (by kernel_rfl) (of_decide_eq_true (by kernel_rfl)) (of_decide_eq_true (by kernel_rfl))
theorem laid_list : Rows.benchMeetsRow.laid = [("unicode/utf8.first", Rows.laid_unicode_utf8_first), ("unicode/utf8.acceptRanges", Rows.laid_unicode_utf8_acceptRanges), ("internal/strconv.uint64pow10", Rows.laid_internal_strconv_uint64pow10), ("math/bits.deBruijn32tab", Rows.laid_math_bits_deBruijn32tab), ("math/bits.deBruijn64tab", Rows.laid_math_bits_deBruijn64tab)] ++ [("strconv.isPrint16", Lib.sliceData .u16 Lib.goPrintTabs.p16)] ++ [("strconv.isNotPrint16", Lib.sliceData .u16 Lib.goPrintTabs.n16)] ++ [("strconv.isPrint32", Lib.sliceData .u32 Lib.goPrintTabs.p32)] ++ [("strconv.isNotPrint32", Lib.sliceData .u16 Lib.goPrintTabs.n32)] ++ [("strconv.isGraphic", Lib.sliceData .u16 graphicT)] := by
  rw [← Pinned.isPrint16_eq, ← Pinned.isNotPrint16_eq, ← Pinned.isPrint32_eq, ← Pinned.isNotPrint32_eq, ← graphic_eq]
  rfl
theorem laid_met_at (os : Os) (args : Array Value) : laidMetH Tryz.prog Rows.benchMeetsRow.laid ((laidWorld os).forCall (fun _ _ => 0) ⟨#[], args, []⟩).memory := by
  rw [laid_plain, laid_list]
  exact ((((((piece0 os args).append (piece1 os args) (by kernel_rfl)).append (piece2 os args) (by kernel_rfl)).append (piece3 os args) (by kernel_rfl)).append (piece4 os args) (by kernel_rfl)).append (piece5 os args) (by kernel_rfl)).met
theorem laid_met (os : Os) : laidMetH Tryz.prog Rows.benchMeetsRow.laid ((laidWorld os).forCall (fun _ _ => 0) ⟨#[], #[.agg #[.int .i8 0, .int .i64 0, .string ⟨#[]⟩], .slice none 0 0], []⟩).memory := laid_met_at os _
theorem reads (os : Os) {H : Type} (enc : TypeId × Value → H) : ∃ x, DataW.whole enc Tryz.prog ((laidWorld os).forCall (fun _ _ => 0) ⟨#[], #[.agg #[.int .i8 0, .int .i64 0, .string ⟨#[]⟩], .slice none 0 0], []⟩).memory Tryz.f3.params.toList Rows.benchMeetsSpec.vars false #[Value.agg #[.int .i8 0, .int .i64 0, .string ⟨#[]⟩], .slice none 0 0].toList 8 = some ([.agg [.lit (.int .i8 0), .lit (.int .i64 0), .lit (.string [])], .nil], [], x) :=
  ⟨[], by kernel_rfl⟩

end Go.Proofs.YtmcbolkpbklfeaaGreatDoor.benchMeets
