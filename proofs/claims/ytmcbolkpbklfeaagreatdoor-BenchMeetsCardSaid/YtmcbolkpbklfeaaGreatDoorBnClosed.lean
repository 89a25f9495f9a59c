/- BenchMeets: the closed facts of its row over the whole program, but for its closure's. No condition. -/
import Derived.Test.YtmcbolkpbklfeaaGreatDoorCards
import Derived.Test.YtmcbolkpbklfeaaGreatDoorLaw
import Derived.JoinedCond
import Derived.SevenTiedAt
namespace Go.Proofs.YtmcbolkpbklfeaaGreatDoor.benchMeets
open Go.RowKit
theorem c2 : Tryz.f3.isInstance Tryz.pinned.checked.prog Rows.benchMeetsRow.origin Rows.benchMeetsRow.targs := of_decide_eq_true (by kernel_rfl)
theorem c3 : Tryz.f3.isWrapper Tryz.pinned.checked.prog Rows.benchMeetsRow.wrapper Rows.benchMeetsRow.mainSum := by
  unfold Func.isWrapper
  first | (rw [if_pos (by decide +kernel)]; kernel_rfl) | (rw [if_neg (by decide +kernel)]; exact ⟨rfl, rfl⟩)
theorem c4 : Rows.benchMeetsRow.wfByText (OpenSpec.ofChange Rows.benchMeetsSpec) = true := by kernel_rfl
theorem c5 : Tryz.pinned.checked.prog.mainIs = some (Rows.benchMeetsCard.stood.harness.1, Rows.benchMeetsCard.stood.harness.2.toList) := by kernel_rfl
theorem c7 : false = Tryz.pinned.checked.prog.looks [] := by kernel_rfl
theorem c8 : (Tryz.f3.params.toList.all fun u => !Tryz.prog.wantsStandIn u) = true := by kernel_rfl
end Go.Proofs.YtmcbolkpbklfeaaGreatDoor.benchMeets
