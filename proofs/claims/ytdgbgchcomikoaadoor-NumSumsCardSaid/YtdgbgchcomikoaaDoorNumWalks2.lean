/- The walks of layer 1's Add, Sub, and of their references. -/
import Derived.Test.YtdgbgchcomikoaaDoorNumWalks
namespace Go.Proofs.YtdgbgchcomikoaaDoor
open Go.RowKit

theorem cells2_of {w : World} (a b : Int) (e : TypeId) : ∀ j u, ([a, b].map (Value.int .i64))[j]? = some u → (w.alloc (Obj.cells #[.int .i64 a, .int .i64 b] e)).cell? ⟨w.heap.size, j, none⟩ = some u := by
  intro j u hu
  rw [World.cell?_alloc_at _ _ _ _ rfl]
  match j with
  | 0 => simpa using hu
  | 1 => simpa using hu
  | j + 2 => simp at hu

set_option maxHeartbeats 400000 in
theorem add_any (a b : Int) (ha : I64 a) (hb : I64 b) (w : World) :
    Calls Tryd.prog 13 #[.int .i64 a, .int .i64 b] w fun e w' => e = .returned (.tuple #[.int .i64 (addV a b), .int .i64 (addE a b)]) ∧ Below w.heap.size w w' := by
  have hwin := within_any (wrap64 (a + b)) [a, b] (I64_wrap _) (by simp; exact ⟨ha, hb⟩) (by simp) w.heap.size 2 (w.alloc (.cells #[.int .i64 a, .int .i64 b] 3)) (cells2_of a b _) (by simp) (by simp)
  rw [(win_add a b).1, (win_add a b).2] at hwin
  have H := Lib.hid hwin
  clear hwin ha hb
  go_enter Tryd.func13, Tryd.ntmps13
  go_wp2_with fail
  refine H.out.mono ?_
  rintro e w1 ⟨rfl, hb1⟩
  have HB := Lib.hid (show Below w.heap.size w w1 from ((Below.refl _ _).alloc (Nat.le_refl _) _).trans (hb1.mono (by simp)))
  clear hb1
  go_wp2
  go_ret2
  exact ⟨rfl, HB.out⟩
set_option maxHeartbeats 400000 in
theorem sub_any (a b : Int) (ha : I64 a) (hb : I64 b) (w : World) :
    Calls Tryd.prog 15 #[.int .i64 a, .int .i64 b] w fun e w' => e = .returned (.tuple #[.int .i64 (subV a b), .int .i64 (subE a b)]) ∧ Below w.heap.size w w' := by
  have hwin := within_any (wrap64 (a - b)) [a, b] (I64_wrap _) (by simp; exact ⟨ha, hb⟩) (by simp) w.heap.size 2 (w.alloc (.cells #[.int .i64 a, .int .i64 b] 3)) (cells2_of a b _) (by simp) (by simp)
  rw [(win_sub a b).1, (win_sub a b).2] at hwin
  have H := Lib.hid hwin
  clear hwin ha hb
  go_enter Tryd.func15, Tryd.ntmps15
  go_wp2_with fail
  refine H.out.mono ?_
  rintro e w1 ⟨rfl, hb1⟩
  have HB := Lib.hid (show Below w.heap.size w w1 from ((Below.refl _ _).alloc (Nat.le_refl _) _).trans (hb1.mono (by simp)))
  clear hb1
  go_wp2
  go_ret2
  exact ⟨rfl, HB.out⟩

set_option maxHeartbeats 400000 in
theorem rmay_any (n : Int) (w : World) :
    Calls Tryd.prog 20 #[.int .i64 n] w fun e w' => e = .returned (.bool (mayB n)) ∧ w = w' := by
  go_enter Tryd.func20, Tryd.ntmps20
  go_wp2
  all_goals go_ret
  all_goals refine ⟨ret_bool ?_, rfl⟩
  all_goals simp [mayB]
  all_goals omega

theorem okAdd_pre {a b : Int} (ha : mayB a = true) (hb : mayB b = true) : mayB (wrap64 (a + b)) = okAdd a b := by
  rw [← winB_add]; simp [winB, ha, hb]
theorem okSub_pre {a b : Int} (ha : mayB a = true) (hb : mayB b = true) : mayB (wrap64 (a - b)) = okSub a b := by
  rw [← winB_sub]; simp [winB, ha, hb]
theorem add_no {a b : Int} (h : okAdd a b = false) : addV a b = 0 ∧ addE a b = 10 := by simp [addV, addE, h]
theorem add_yes {a b : Int} (h : okAdd a b = true) : addV a b = wrap64 (a + b) ∧ addE a b = 0 := by simp [addV, addE, h, okAdd_wrap h]
theorem sub_no {a b : Int} (h : okSub a b = false) : subV a b = 0 ∧ subE a b = 10 := by simp [subV, subE, h]
theorem sub_yes {a b : Int} (h : okSub a b = true) : subV a b = wrap64 (a - b) ∧ subE a b = 0 := by simp [subV, subE, h, okSub_wrap h]

set_option maxHeartbeats 400000 in
theorem radd_any (a b : Int) (w : World) :
    Calls Tryd.prog 14 #[.int .i64 a, .int .i64 b] w fun e w' => e = .returned (.tuple #[.int .i64 (addV a b), .int .i64 (addE a b)]) ∧ w = w' := by
  go_enter Tryd.func14, Tryd.ntmps14
  go_wp2_with (go_at_call 20; refine (rmay_any _ _).mono ?_; rintro e w' ⟨rfl, rfl⟩)
  all_goals go_ret2
  all_goals refine ⟨pair_int ?_, rfl⟩
  · have h2 := add_no (a := a) (b := b) (by rw [← okAdd_pre ‹_› ‹_›]; simpa using ‹(!mayB (wrap64 (a + b))) = true›)
    exact ⟨h2.1.symm, h2.2.symm⟩
  · have h2 := add_yes (a := a) (b := b) (by rw [← okAdd_pre ‹_› ‹_›]; simpa using ‹(!mayB (wrap64 (a + b))) = false›)
    exact ⟨h2.1.symm, h2.2.symm⟩
  · have h2 := add_no (a := a) (b := b) (by simp [okAdd, ‹¬mayB b = true›])
    exact ⟨h2.1.symm, h2.2.symm⟩
  · have h2 := add_no (a := a) (b := b) (by simp [okAdd, ‹¬mayB a = true›])
    exact ⟨h2.1.symm, h2.2.symm⟩
set_option maxHeartbeats 400000 in
theorem rsub_any (a b : Int) (w : World) :
    Calls Tryd.prog 16 #[.int .i64 a, .int .i64 b] w fun e w' => e = .returned (.tuple #[.int .i64 (subV a b), .int .i64 (subE a b)]) ∧ w = w' := by
  go_enter Tryd.func16, Tryd.ntmps16
  go_wp2_with (go_at_call 20; refine (rmay_any _ _).mono ?_; rintro e w' ⟨rfl, rfl⟩)
  all_goals go_ret2
  all_goals refine ⟨pair_int ?_, rfl⟩
  · have h2 := sub_no (a := a) (b := b) (by rw [← okSub_pre ‹_› ‹_›]; simpa using ‹(!mayB (wrap64 (a - b))) = true›)
    exact ⟨h2.1.symm, h2.2.symm⟩
  · have h2 := sub_yes (a := a) (b := b) (by rw [← okSub_pre ‹_› ‹_›]; simpa using ‹(!mayB (wrap64 (a - b))) = false›)
    exact ⟨h2.1.symm, h2.2.symm⟩
  · have h2 := sub_no (a := a) (b := b) (by simp [okSub, ‹¬mayB b = true›])
    exact ⟨h2.1.symm, h2.2.symm⟩
  · have h2 := sub_no (a := a) (b := b) (by simp [okSub, ‹¬mayB a = true›])
    exact ⟨h2.1.symm, h2.2.symm⟩
end Go.Proofs.YtdgbgchcomikoaaDoor
