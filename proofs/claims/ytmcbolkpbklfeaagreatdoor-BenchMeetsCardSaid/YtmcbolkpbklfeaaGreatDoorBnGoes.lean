/- BenchMeets: the law's function starts no goroutine: no function of the program does. No condition. -/
import Derived.Test.YtmcbolkpbklfeaaGreatDoorCards
import Derived.Test.YtmcbolkpbklfeaaGreatDoorLaw
namespace Go.Proofs.YtmcbolkpbklfeaaGreatDoor.benchMeets
open Go.RowKit
theorem no_go : Tryz.prog.funcs.any Func.goes = false := by kernel_rfl
theorem any_no {p : FuncId → Bool} (h : ∀ f, p f = false) (o : Option FuncId) : o.any p = false := by
  cases o with
  | none => rfl
  | some f => exact h f
theorem goes_no {P : Program} (h : P.funcs.any Func.goes = false) (f : FuncId) : P.goes f = false := by
  have h1 : ∀ g : Nat, (P.funcs[g]?).any Func.goes = false := fun g => by
    cases hg : P.funcs[g]? with
    | none => rfl
    | some fn =>
      cases hq : fn.goes with
      | false => exact hq
      | true =>
        rw [Array.any_eq_false] at h
        obtain ⟨hi, rfl⟩ := Array.getElem?_eq_some_iff.1 hg
        exact absurd hq (h g hi)
  unfold Program.goes
  rw [h, Bool.and_false, Bool.or_false, List.any_eq_false]
  intro g _
  rw [h1 g]
  exact Bool.false_ne_true
theorem goesAt_no {P : Program} (h : P.funcs.any Func.goes = false) (n : String) : P.goesAt .entering n = false := by
  show (P.goesFrom n || false) = false
  rw [Bool.or_false]
  exact any_no (goes_no h) _
theorem c6 : false = Rows.benchMeetsRow.goesBy Tryz.pinned.checked.prog := (goesAt_no no_go _).symm
end Go.Proofs.YtmcbolkpbklfeaaGreatDoor.benchMeets
