/- The walks of the heap's is, Len, Act, Has, Put. -/
import Derived.Test.YtdelfgilcfoaoaaHeapRise
import Derived.Maps.AppendAt
import Derived.StillTailTactics
namespace Go.Proofs.Ytdelfgilcfoaoaa.Hp
open Go.RowKit

/-- whether it is a node -/
def isB (n : Nat) (i : Int) : Bool := decide (0 ≤ i) && decide (i < (n : Int))
theorem isB_iff {n : Nat} {i : Int} : isB n i = true ↔ 0 ≤ i ∧ i < (n : Int) := by simp [isB]

set_option maxHeartbeats 400000 in
theorem is_any {O : Nat → Prop} {w : World} {H ba bt : Nat} {rv : Value} {s : St} (h : Mem O w H ba bt rv s) (i : Int) :
    Calls Try.prog 29 #[.pointer (some ⟨H, 0, none⟩), .int .i64 i] w fun e w' => e = .returned (.bool (isB s.n i)) ∧ w = w' := by
  obtain ⟨ca, ct, c0, c1, c2, _⟩ := h.obj_cells
  clear h
  go_enter Try.func29, Try.ntmps29
  go_wp2
  all_goals go_ret
  all_goals exact ⟨ret_bool (by simp [isB]; omega), rfl⟩
set_option maxHeartbeats 400000 in
theorem is_nil (i : Int) (w : World) :
    Calls Try.prog 29 #[.pointer none, .int .i64 i] w fun e w' => e = .returned (.bool false) ∧ w = w' := by
  go_enter Try.func29, Try.ntmps29
  go_wp2
  go_ret
  exact ⟨rfl, rfl⟩

set_option maxHeartbeats 400000 in
theorem len_any {O : Nat → Prop} {w : World} {H ba bt : Nat} {rv : Value} {s : St} (h : Mem O w H ba bt rv s) :
    Calls Try.prog 10 #[.pointer (some ⟨H, 0, none⟩)] w fun e w' => e = .returned (.int .i64 s.m) ∧ w = w' := by
  obtain ⟨ca, ct, c0, c1, c2, _⟩ := h.obj_cells
  obtain ⟨A, cp, hrv⟩ : ∃ A cp, rv = .slice A s.m cp := by
    rcases h.row with ⟨h1, h2⟩ | ⟨br, cap, cs, h1, _⟩
    · exact ⟨none, 0, by rw [h1, h2]⟩
    · exact ⟨_, cap, h1⟩
  rw [hrv] at c1
  clear h hrv
  go_enter Try.func10, Try.ntmps10
  go_wp2
  go_ret
  exact ⟨rfl, rfl⟩
set_option maxHeartbeats 400000 in
theorem len_nil (w : World) : Calls Try.prog 10 #[.pointer none] w fun e w' => e = .returned (.int .i64 0) ∧ w = w' := by
  go_enter Try.func10, Try.ntmps10
  go_wp2
  go_ret
  exact ⟨rfl, rfl⟩

set_option maxHeartbeats 400000 in
theorem act_any {O : Nat → Prop} {w : World} {H ba bt : Nat} {rv : Value} {s : St} (h : Mem O w H ba bt rv s) (i : Int) :
    Calls Try.prog 11 #[.pointer (some ⟨H, 0, none⟩), .int .i64 i] w fun e w' => e = .returned (.int .i64 (if isB s.n i then s.act i.toNat else 0)) ∧ w = w' := by
  obtain ⟨ca, ct, c0, c1, c2, _⟩ := h.obj_cells
  have HI := Lib.hid (is_any h i)
  cases hb : isB s.n i with
  | true =>
    have hb2 := isB_iff.1 hb
    obtain ⟨k, rfl⟩ := Int.eq_ofNat_of_zero_le hb2.1
    have hk : k < s.n := by omega
    have hk2 : (k : Int) < (s.n : Int) := by omega
    have hc := h.act_cell hk
    rw [hb] at HI
    clear h hb hb2
    rw [if_pos rfl, show ((k : Int)).toNat = k by omega]
    generalize s.act k = x at *
    go_enter Try.func11, Try.ntmps11
    go_wp2_with fail
    refine (HI.out).mono ?_
    rintro e w' ⟨rfl, rfl⟩
    go_wp2_with fail
    go_ret
    exact ⟨rfl, rfl⟩
  | false =>
    rw [hb] at HI
    clear h hb
    go_enter Try.func11, Try.ntmps11
    go_wp2_with fail
    refine (HI.out).mono ?_
    rintro e w' ⟨rfl, rfl⟩
    go_wp2_with fail
    go_ret
    exact ⟨rfl, rfl⟩
set_option maxHeartbeats 400000 in
theorem act_nil (i : Int) (w : World) :
    Calls Try.prog 11 #[.pointer none, .int .i64 i] w fun e w' => e = .returned (.int .i64 0) ∧ w = w' := by
  go_enter Try.func11, Try.ntmps11
  go_wp2_with fail
  refine (is_nil i w).mono ?_
  rintro e w' ⟨rfl, rfl⟩
  go_wp2_with fail
  go_ret
  exact ⟨rfl, rfl⟩
set_option maxHeartbeats 400000 in
theorem hasB_any {O : Nat → Prop} {w : World} {H ba bt : Nat} {rv : Value} {s : St} (h : Mem O w H ba bt rv s) (i : Int) :
    Calls Try.prog 12 #[.pointer (some ⟨H, 0, none⟩), .int .i64 i] w fun e w' => e = .returned (.bool (isB s.n i && decide (0 ≤ s.pos i.toNat))) ∧ w = w' := by
  obtain ⟨ca, ct, c0, c1, c2, _⟩ := h.obj_cells
  have HI := Lib.hid (is_any h i)
  cases hb : isB s.n i with
  | true =>
    have hb2 := isB_iff.1 hb
    obtain ⟨k, rfl⟩ := Int.eq_ofNat_of_zero_le hb2.1
    have hk : k < s.n := by omega
    have HH := Lib.hid (has_any h k hk)
    rw [hb] at HI
    clear h hb hb2
    rw [Bool.true_and, show ((k : Int)).toNat = k by omega]
    generalize decide (0 ≤ s.pos k) = x at *
    go_enter Try.func12, Try.ntmps12
    go_wp2_with fail
    refine (HI.out).mono ?_
    rintro e w' ⟨rfl, rfl⟩
    go_wp2_with fail
    refine (HH.out).mono ?_
    rintro e w' ⟨rfl, rfl⟩
    go_wp2_with fail
    go_ret
    exact ⟨rfl, rfl⟩
  | false =>
    rw [hb] at HI
    clear h hb
    go_enter Try.func12, Try.ntmps12
    go_wp2_with fail
    refine (HI.out).mono ?_
    rintro e w' ⟨rfl, rfl⟩
    go_wp2_with fail
    go_ret
    exact ⟨rfl, rfl⟩
set_option maxHeartbeats 400000 in
theorem hasB_nil (i : Int) (w : World) :
    Calls Try.prog 12 #[.pointer none, .int .i64 i] w fun e w' => e = .returned (.bool false) ∧ w = w' := by
  go_enter Try.func12, Try.ntmps12
  go_wp2_with fail
  refine (is_nil i w).mono ?_
  rintro e w' ⟨rfl, rfl⟩
  go_wp2_with fail
  go_ret
  exact ⟨rfl, rfl⟩
end Go.Proofs.Ytdelfgilcfoaoaa.Hp
