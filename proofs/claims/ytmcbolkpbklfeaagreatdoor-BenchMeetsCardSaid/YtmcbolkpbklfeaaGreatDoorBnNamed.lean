/- BenchMeets: the variables that the law's function can name. No condition. -/
import Derived.Test.YtmcbolkpbklfeaaGreatDoorBnClo
namespace Go.Proofs.YtmcbolkpbklfeaaGreatDoor.benchMeets
open Go.RowKit
theorem c_named : Tryz.pinned.checked.prog.varsNamed 3 = Rows.benchMeetsRow.named := by
  show Tryz.prog.varsNamed 3 = _
  unfold Program.varsNamed
  rw [closure_eq]
  kernel_rfl
end Go.Proofs.YtmcbolkpbklfeaaGreatDoor.benchMeets
