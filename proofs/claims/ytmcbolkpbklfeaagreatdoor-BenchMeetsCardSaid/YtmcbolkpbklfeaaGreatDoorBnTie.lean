/- The laid tables of BenchMeets tied to the program's text, each of the nine closed facts a theorem of its own. No condition. -/
import Derived.Test.YtmcbolkpbklfeaaGreatDoorRows
import Derived.LaidByTextLater
import Derived.SevenTiedAt
namespace Go.Proofs.YtmcbolkpbklfeaaGreatDoor.BnTie
open Go
def laidL : List (String × DataW Unit) := [("unicode/utf8.acceptRanges", Rows.laid_unicode_utf8_acceptRanges), ("internal/strconv.uint64pow10", Rows.laid_internal_strconv_uint64pow10), ("math/bits.deBruijn32tab", Rows.laid_math_bits_deBruijn32tab), ("math/bits.deBruijn64tab", Rows.laid_math_bits_deBruijn64tab)]
theorem tt1 : Program.worded Tryz.prog (varsWordLater true) = true := by kernel_rfl
theorem tt2 : Program.worded Tryz.prog (varsWordLater !true) = false := by kernel_rfl
theorem tt3 : Program.worded Tryz.prog rootWordLater = true := by kernel_rfl
theorem tt4 : laidL.map (fun x => Program.kindOfLater Tryz.prog x.1) = [LaidKind.data, LaidKind.data, LaidKind.data, LaidKind.data].map some := by kernel_rfl
theorem tt5 : (Program.funcNamed Tryz.prog "gosem.cut.vars").isSome = true := by kernel_rfl
theorem tt6 : varsNamedLaterB Tryz.prog (varsId Tryz.prog) laidL = true := by kernel_rfl
theorem tt7 (os : Os) (tape : Tape) : varsDone Tryz.prog 400 (varsId Tryz.prog) os tape = true := by kernel_rfl
theorem tt8 (os : Os) (tape : Tape) : (DataW.laidRun Tryz.prog (varsWorld Tryz.prog 400 (varsId Tryz.prog) os tape).memory 8 (laidL.map (·.1))).map (·.1) = some laidL := by kernel_rfl
theorem tt9 (os : Os) (tape : Tape) : (DataW.laidRun Tryz.prog (varsWorld Tryz.prog 400 (varsId Tryz.prog) os tape).memory 8 (laidL.map (·.1))).map (fun x => decide x.2.Nodup && laidRowsB Tryz.prog (varsWorld Tryz.prog 400 (varsId Tryz.prog) os tape).memory x.2) = some true := by kernel_rfl
theorem tie : Tryz.prog.laidByTextLater laidL [LaidKind.data, LaidKind.data, LaidKind.data, LaidKind.data] true := Program.laidByTextLater_by_run 400 8 tt1 tt2 tt3 tt4 tt5 tt6 tt7 tt8 tt9
end Go.Proofs.YtmcbolkpbklfeaaGreatDoor.BnTie
