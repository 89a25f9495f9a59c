/- BenchMeets: the closed facts of its row, each by itself. No condition. -/
import Derived.Test.YtmcbolkpbklfeaaGreatDoorBnWorld
import Derived.Deep.DeepWitnessRowRef
namespace Go.Proofs.YtmcbolkpbklfeaaGreatDoor.benchMeets
open Go.RowKit Go.ChangeShapes Go.WideShapes Go.ChangeAt Go.WideMaps Go.WideElems
open Go.ChangeMaps (setBlock shut_map_nil open_string shut_string keptBut_setBlock frozen?_setBlock heap_setBlock_same)
theorem s1 (os : Os) : ((laidWorld os).forCall (fun _ _ => 0) ⟨#[], #[.agg #[.int .i8 0, .int .i64 0, .string ⟨#[]⟩], .slice none 0 0], []⟩).variablesRefB Tryz.checked.prog = true := by kernel_rfl
theorem s2 (os : Os) : (((laidWorld os).forCall (fun _ _ => 0) ⟨#[], #[.agg #[.int .i8 0, .int .i64 0, .string ⟨#[]⟩], .slice none 0 0], []⟩).heap.toList.drop Tryz.checked.prog.globals.size).take ((begin Tryz.checked.prog (fun _ _ => 0) default).world.heap.size - Tryz.checked.prog.globals.size) = (begin Tryz.checked.prog (fun _ _ => 0) default).world.heap.toList.drop Tryz.checked.prog.globals.size := by kernel_rfl
theorem s3 (os : Os) : Input.okWideB Tryz.checked.prog ((laidWorld os).forCall (fun _ _ => 0) ⟨#[], #[.agg #[.int .i8 0, .int .i64 0, .string ⟨#[]⟩], .slice none 0 0], []⟩) 3 ⟨#[], #[.agg #[.int .i8 0, .int .i64 0, .string ⟨#[]⟩], .slice none 0 0], []⟩ = true := by kernel_rfl
theorem s4 : Tryz.checked.prog.inits.idxOf? 3 = none := by kernel_rfl
theorem s5 : Tryz.pinned.checked.prog.funcNamed Rows.benchMeetsRow.func = some 3 := by kernel_rfl
end Go.Proofs.YtmcbolkpbklfeaaGreatDoor.benchMeets
