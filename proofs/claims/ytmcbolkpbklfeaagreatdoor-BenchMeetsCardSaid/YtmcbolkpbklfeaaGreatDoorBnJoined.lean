/- BenchMeets: the joined facts of its row, one by one. No condition. -/
import Derived.Test.YtmcbolkpbklfeaaGreatDoorBnNamed
namespace Go.Proofs.YtmcbolkpbklfeaaGreatDoor.benchMeets
open Go.RowKit
theorem j1 : (Rows.benchMeetsRow.wf (OpenSpec.ofChange (OpenSpec.ofChange Rows.benchMeetsSpec).bare)) = true := by kernel_rfl
theorem j2 : (laidOutB Tryz.pinned.checked.prog) = true := laidOut
theorem j3 : (mapsRowed Tryz.pinned.checked.prog) = true := by kernel_rfl
theorem j4 : (Tryz.f3.params.all (Tryz.pinned.checked.prog.readableRec ·)) = true := by kernel_rfl
theorem j5 : (namedTie Tryz.pinned.checked.prog Rows.benchMeetsRow.named (OpenSpec.ofChange Rows.benchMeetsSpec).bare.vars) = true := by kernel_rfl
theorem j6 : ((Rows.benchMeetsRow.stops == [])) = true := by kernel_rfl
theorem j7 : ((Tryz.pinned.checked.prog.stops == [])) = true := by kernel_rfl
theorem j8 : ((Rows.benchMeetsRow.knobs == [])) = true := by kernel_rfl
theorem j9 : ((Tryz.pinned.checked.prog.stopKnobs == [])) = true := by kernel_rfl
theorem j10 : ((Rows.benchMeetsRow.inPlace == Tryz.pinned.checked.prog.inPlace 3)) = true := by
  rw [c_inPlace]
  kernel_rfl
theorem j11 : ((Rows.benchMeetsRow.unfollowed == Tryz.pinned.checked.prog.unfollowed 3)) = true := by
  rw [c_unf]
  kernel_rfl
theorem j12 : ((Rows.benchMeetsRow.recurses == Tryz.pinned.checked.prog.recurses 3)) = true := by
  rw [c_rec]
  kernel_rfl
theorem j13 : ((Rows.benchMeetsRow.named == Tryz.pinned.checked.prog.varsNamed 3)) = true := by
  rw [c_named]
  kernel_rfl
theorem j14 : ((Rows.benchMeetsRow.maps == (Tryz.f3.params.toList ++ (OpenSpec.ofChange Rows.benchMeetsSpec).bare.plain.varTypes Tryz.pinned.checked.prog).any (Tryz.pinned.checked.prog.mapsRec ·))) = true := by kernel_rfl
theorem j15 : ((Rows.benchMeetsRow.ifaces == (Tryz.f3.params.toList ++ (OpenSpec.ofChange Rows.benchMeetsSpec).bare.plain.varTypes Tryz.pinned.checked.prog).any (Tryz.pinned.checked.prog.ifacesRec ·))) = true := by kernel_rfl
theorem j16 : ((Rows.benchMeetsRow.mapsOut == Tryz.pinned.checked.prog.mapsAmong Tryz.f3.resultTypes.toList)) = true := by kernel_rfl
theorem j17 : ((Rows.benchMeetsRow.loops == (Tryz.f3.params.toList ++ (OpenSpec.ofChange Rows.benchMeetsSpec).bare.plain.varTypes Tryz.pinned.checked.prog).any (Tryz.pinned.checked.prog.loopsFrom ·))) = true := by kernel_rfl
theorem j18 : ((Rows.benchMeetsRow.wideKeys == (Tryz.f3.params.toList ++ (OpenSpec.ofChange Rows.benchMeetsSpec).bare.plain.varTypes Tryz.pinned.checked.prog ++ Tryz.f3.resultTypes.toList).any (Tryz.pinned.checked.prog.wideKeysFrom ·))) = true := by kernel_rfl
theorem j19 : ((OpenSpec.ofChange Rows.benchMeetsSpec).bare.vars.all (Tryz.pinned.checked.prog.varReadable ·)) = true := by kernel_rfl
theorem j20 : (Tryz.f3.resultTypes.all (fun t => Tryz.pinned.checked.prog.readableRec t && decide (t < Tryz.pinned.checked.prog.types.size))) = true := by kernel_rfl
theorem j21 : ((Rows.benchMeetsRow.ifacesOut == Tryz.f3.resultTypes.toList.any (Tryz.pinned.checked.prog.ifacesRec ·))) = true := by kernel_rfl
theorem j22 : ((Rows.benchMeetsRow.loopsOut == Tryz.f3.resultTypes.toList.any (Tryz.pinned.checked.prog.loopsFrom ·))) = true := by kernel_rfl
theorem j23 : ((Rows.benchMeetsRow.plainKeys == Tryz.pinned.checked.prog.plainKeys)) = true := by kernel_rfl
theorem j24 : (Rows.benchMeetsRow.shortTexts.isNone) = true := by kernel_rfl
theorem j25 : (Tryz.pinned.checked.prog.stopsHeard) = true := by kernel_rfl
theorem j26 : (Tryz.pinned.checked.prog.mayEnter) = true := by kernel_rfl
theorem j27 : ((Rows.benchMeetsRow.lifted == Tryz.pinned.checked.prog.liftsFinal)) = true := by kernel_rfl
theorem j28 : ((Tryz.pinned.checked.prog.make == some Rows.benchMeetsRow.make)) = true := by kernel_rfl
theorem j29 : ((Rows.benchMeetsRow.kinds == (if Rows.benchMeetsRow.domain.isEmpty then [] else Tryz.f3.params.toList.map fun t => match Tryz.pinned.checked.prog.underlying t with | some (.int k) => some k | _ => none))) = true := by kernel_rfl
theorem j30 : ((Rows.benchMeetsRow.pinned == Rows.benchMeetsRow.pinnedBy)) = true := by kernel_rfl
theorem j31 : ((Rows.benchMeetsRow.veiled == (Tryz.f3.params.toList ++ (OpenSpec.ofChange Rows.benchMeetsSpec).bare.plain.varTypes Tryz.pinned.checked.prog ++ Tryz.f3.resultTypes.toList).any (Tryz.pinned.checked.prog.veiledRec ·))) = true := by kernel_rfl
theorem j32 : (Rows.benchMeetsRow.veiledFits Tryz.pinned.checked.prog Tryz.f3.params.toList (Tryz.f3.params.toList ++ (OpenSpec.ofChange Rows.benchMeetsSpec).bare.plain.varTypes Tryz.pinned.checked.prog ++ Tryz.f3.resultTypes.toList)) = true := by kernel_rfl
theorem and_i {a b : Bool} (ha : a = true) (hb : b = true) : (a && b) = true := by rw [ha, hb]; rfl
set_option maxRecDepth 100000 in
theorem c1 : joinedFacts Tryz.pinned.checked.prog 3 Tryz.f3 (OpenSpec.ofChange Rows.benchMeetsSpec).bare Rows.benchMeetsRow = true := (and_i (and_i (and_i (and_i (and_i (and_i (and_i (and_i (and_i (and_i (and_i (and_i (and_i (and_i (and_i (and_i (and_i (and_i (and_i (and_i (and_i (and_i (and_i (and_i (and_i (and_i (and_i (and_i (and_i (and_i (and_i j1 j2) j3) j4) j5) j6) j7) j8) j9) j10) j11) j12) j13) j14) j15) j16) j17) j18) j19) j20) j21) j22) j23) j24) j25) j26) j27) j28) j29) j30) j31) j32)
end Go.Proofs.YtmcbolkpbklfeaaGreatDoor.benchMeets
