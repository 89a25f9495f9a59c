/- The walks of the heap's order: ahead, swap, rise, sink. -/
import Derived.Test.YtdelfgilcfoaoaaHeapMem
import Derived.BigRegion
namespace Go.Proofs.Ytdelfgilcfoaoaa.Hp
open Go.RowKit

/-- whether a node is ahead, as the code asks it -/
def aheadB (act : Nat → Int) (a b : Nat) : Bool := decide (act b < act a) || (act a == act b && decide (a < b))
theorem aheadB_iff {act : Nat → Int} {a b : Nat} : aheadB act a b = true ↔ ahead act a b := by simp [aheadB, ahead]
theorem aheadB_no {act : Nat → Int} {a b : Nat} : aheadB act a b = false ↔ ¬ ahead act a b := by rw [Bool.eq_false_iff, Ne, aheadB_iff]

set_option maxHeartbeats 800000 in
theorem ahead_raw {w : World} {H ba : Nat} {n ca : Nat} (c0 : w.cell? ⟨H, 0, none⟩ = some (.slice (some ⟨ba, 0, none⟩) n ca)) (a b : Nat) (x y : Int) (ha : a < n) (hb : b < n)
    (hx : w.cell? ⟨ba, a, none⟩ = some (.int .i64 x)) (hy : w.cell? ⟨ba, b, none⟩ = some (.int .i64 y)) :
    Calls Try.prog 33 #[.pointer (some ⟨H, 0, none⟩), .int .i64 a, .int .i64 b] w fun e w' => e = .returned (.bool (decide (y < x) || (x == y && decide (a < b)))) ∧ ∃ q, w' = w.drewN q := by
  have ha2 : (a : Int) < (n : Int) := by omega
  have hb2 : (b : Int) < (n : Int) := by omega
  by_cases h1 : y < x
  · have hd : decide (y < x) = true := decide_eq_true h1
    go_enter Try.func33, Try.ntmps33
    go_wp2
    go_quiet (fail)
    go_wp2
    go_ret
    exact ⟨ret_bool (by simp [h1]), _, rfl⟩
  · have hd : decide (y < x) = false := decide_eq_false h1
    cases h2 : (x == y) with
    | true =>
      go_enter Try.func33, Try.ntmps33
      go_wp2
      go_quiet (fail)
      go_wp2
      go_ret
      exact ⟨ret_bool (by simp; omega), _, rfl⟩
    | false =>
      go_enter Try.func33, Try.ntmps33
      go_wp2
      go_quiet (fail)
      go_wp2
      go_ret
      exact ⟨ret_bool (by simp; omega), _, rfl⟩

end Go.Proofs.Ytdelfgilcfoaoaa.Hp
