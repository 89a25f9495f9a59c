/- The walk of the heap's New. -/
import Derived.Test.YtdelfgilcfoaoaaHeapMem
import Derived.Test.YtdelfgilcfoaoaaMore
namespace Go.Proofs.Ytdelfgilcfoaoaa.Hp
open Go.RowKit

/-- a new heap: all out -/
def newSt (n : Nat) : St := { n := n, act := fun _ => 0, m := 0, row := fun _ => 0, pos := fun _ => -1 }
theorem newSt_fit {n : Nat} (h : n ≤ 65536) : Fit (newSt n) :=
  ⟨h, fun i _ => ⟨Int.le_refl 0, by show (0 : Int) ≤ _; omega⟩, fun k hk => by have hk' : k < 0 := hk; omega, fun k hk => by have hk' : k < 0 := hk; omega, fun i _ => .inl rfl, by
    show 0 = cnt n (fun _ => decide ((0 : Int) ≤ -1))
    unfold cnt; rw [eq_comm, List.length_eq_zero_iff, List.filter_eq_nil_iff]; intro i _; decide⟩
theorem newSt_ord (n : Nat) : Ord (newSt n) := fun c _ hc => by have hc' : c < 0 := hc; omega

set_option maxHeartbeats 800000 in
theorem new_bad (n : Int) (hn : n < 0 ∨ 65536 < n) (w : World) :
    Calls Try.prog 17 #[.int .i64 n] w fun e w' => e = .returned (.pointer none) ∧ w = w' := by
  rcases hn with h | h
  all_goals
    go_enter Try.func17, Try.ntmps17
    go_wp2_with fail
    go_ret
    exact ⟨rfl, rfl⟩

/-- what stands in memory while the places are laid -/
structure NewAt (w : World) (n : Nat) (H ba bt : Nat) (k : Nat) (wr : World) : Prop where
  obj : wr.heap[H]? = some (.cells #[.slice (some ⟨ba, 0, none⟩) n n, .slice none 0 0, .slice (some ⟨bt, 0, none⟩) n n] 48 (0, 0))
  act : wr.heap[ba]? = some (.cells (madeCells #[.int .i64 0] n) 3 (0, 0))
  pos : ∃ cs, wr.heap[bt]? = some (.cells cs 3 (0, 0)) ∧ cs.size = n ∧ ∀ i, i < k → cs[i]? = some (.int .i64 (-1))
  ne : ba ≠ bt
  gH : w.heap.size ≤ H
  ga : w.heap.size ≤ ba
  gt : w.heap.size ≤ bt
  keep : Below w.heap.size w wr

theorem NewAt.start {w : World} {n a b : Nat} (hab : (a = 0 ∧ b = 1) ∨ (a = 1 ∧ b = 0)) :
    NewAt w n (w.heap.size + 1 + 1) (w.heap.size + a) (w.heap.size + b) 0 ((((w.alloc (.cells (madeCells #[.int .i64 0] n) 3)).alloc (.cells (madeCells #[.int .i64 0] n) 3)).alloc (.cells #[.slice (some ⟨w.heap.size + a, 0, none⟩) n n, .slice none 0 0, .slice (some ⟨w.heap.size + b, 0, none⟩) n n] 48)).drew) := by
  have h0 : ((((w.heap.push (Obj.cells (madeCells #[.int .i64 0] n) 3)).push (Obj.cells (madeCells #[.int .i64 0] n) 3)).push (Obj.cells #[.slice (some ⟨w.heap.size + a, 0, none⟩) n n, .slice none 0 0, .slice (some ⟨w.heap.size + b, 0, none⟩) n n] 48)))[w.heap.size]? = some (.cells (madeCells #[.int .i64 0] n) 3 (0, 0)) := by
    simp only [Array.getElem?_push, Array.size_push]
    rw [if_neg (by omega), if_neg (by omega), if_pos trivial]
  have h1 : ((((w.heap.push (Obj.cells (madeCells #[.int .i64 0] n) 3)).push (Obj.cells (madeCells #[.int .i64 0] n) 3)).push (Obj.cells #[.slice (some ⟨w.heap.size + a, 0, none⟩) n n, .slice none 0 0, .slice (some ⟨w.heap.size + b, 0, none⟩) n n] 48)))[w.heap.size + 1]? = some (.cells (madeCells #[.int .i64 0] n) 3 (0, 0)) := by
    simp only [Array.getElem?_push, Array.size_push]
    rw [if_neg (by omega), if_pos trivial]
  have h2 : ((((w.heap.push (Obj.cells (madeCells #[.int .i64 0] n) 3)).push (Obj.cells (madeCells #[.int .i64 0] n) 3)).push (Obj.cells #[.slice (some ⟨w.heap.size + a, 0, none⟩) n n, .slice none 0 0, .slice (some ⟨w.heap.size + b, 0, none⟩) n n] 48)))[w.heap.size + 1 + 1]? = some (.cells #[.slice (some ⟨w.heap.size + a, 0, none⟩) n n, .slice none 0 0, .slice (some ⟨w.heap.size + b, 0, none⟩) n n] 48 (0, 0)) := by
    simp only [Array.getElem?_push, Array.size_push]
    rw [if_pos trivial]
  refine ⟨h2, ?_, ⟨madeCells #[.int .i64 0] n, ?_, size_madeCells _ _, fun i hi => by omega⟩, by omega, by omega, by omega, by omega, ((((Below.refl _ _).alloc (Nat.le_refl _) _).alloc (by simp) _).alloc (by simp; omega) _).drew⟩
  · rcases hab with ⟨rfl, rfl⟩ | ⟨rfl, rfl⟩
    · exact h0
    · exact h1
  · rcases hab with ⟨rfl, rfl⟩ | ⟨rfl, rfl⟩
    · exact h1
    · exact h0

theorem NewAt.step {w wr : World} {n H ba bt k : Nat} (h : NewAt w n H ba bt k wr) (hk : k < n) : NewAt w n H ba bt (k + 1) (wr.setCell ⟨bt, k, none⟩ (.int .i64 (-1))) := by
  obtain ⟨cs, h1, h2, h3⟩ := h.pos
  have hHt : H ≠ bt := by rintro rfl; rw [h.obj] at h1; simp at h1
  refine ⟨by rw [setCell_far _ _ hHt]; exact h.obj, by rw [setCell_far _ _ h.ne]; exact h.act, ⟨_, setCell_at h1 _ _, by simpa using h2, fun i hi => ?_⟩, h.ne, h.gH, h.ga, h.gt, h.keep.setCell h.gt _⟩
  rw [Array.getElem?_setIfInBounds]
  by_cases e : k = i
  · subst e; simp [h2, hk]
  · rw [if_neg e]; exact h3 i (by omega)

theorem NewAt.mem {w wr : World} {n H ba bt : Nat} (h : NewAt w n H ba bt n wr) : Mem (more (fun _ => False) w wr) wr H ba bt (.slice none 0 0) (newSt n) ∧ (more (fun _ => False) w wr) ba := by
  obtain ⟨cs, h1, h2, h3⟩ := h.pos
  exact ⟨⟨⟨n, n, h.obj⟩, ⟨_, h.act, fun i hi => madeCells_at _ n i hi⟩, ⟨cs, h1, h3⟩, .inl ⟨rfl, rfl⟩, h.ne, .inr ⟨h.gH, lt_of_block h.obj⟩, .inr ⟨h.gt, lt_of_block h1⟩⟩, .inr ⟨h.ga, lt_of_block h.act⟩⟩

set_option maxRecDepth 100000 in
set_option maxHeartbeats 3200000 in
theorem new_any (n : Nat) (hn : n ≤ 65536) (w : World) :
    Calls Try.prog 17 #[.int .i64 n] w fun e w' => ∃ H, e = .returned (.pointer (some ⟨H, 0, none⟩)) ∧ ∃ ba bt, Mem (more (fun _ => False) w w') w' H ba bt (.slice none 0 0) (newSt n) ∧ (more (fun _ => False) w w') ba ∧ Below w.heap.size w w' := by
  have hmk := run_make_int n (by omega)
  go_enter Try.func17, Try.ntmps17
  go_wp2_with fail
  go_region
  · have H0 := Lib.hid (NewAt.start (w := w) (n := n) (a := 0) (b := 1) (by omega))
    go_wp2_with fail
    go_loopw [19] (fun v wr => ∃ k : Nat, k ≤ n ∧ v = .int .i64 k ∧ NewAt w n (w.heap.size + 1 + 1) (w.heap.size) (w.heap.size + 1) k wr) (fun v _ => n - (intOf v).toNat)
    case atStart => exact ⟨0, Nat.zero_le _, rfl, H0.out⟩
    case round =>
      obtain ⟨k, hk, rfl, hN⟩ := hrel
      have HN := Lib.hid hN
      obtain ⟨cs, g1, g2, _⟩ := hN.pos
      have c0 := cell_of_cells hN.obj 2
      have ft := frozen_of_cells g1 k
      by_cases hlt : k < n
      · have hlt2 : (k : Int) < (n : Int) := by omega
        have ct : wr.cell? ⟨w.heap.size + 1, k, none⟩ = some cs[k] := by rw [cell_of_cells g1]; exact Array.getElem?_eq_getElem (by omega)
        clear hN g1
        go_wp2_with fail
        go_roundw
        case rel => exact ⟨k + 1, by omega, by go_num, HN.out.step hlt⟩
        case measure => simp [intOf]; omega
      · obtain rfl : k = n := by omega
        clear hN g1 c0 ft
        go_wp2_with fail
        go_ret
        have hm := HN.out.mem
        exact ⟨_, rfl, _, _, hm.1, hm.2, HN.out.keep⟩
  · have H0 := Lib.hid (NewAt.start (w := w) (n := n) (a := 1) (b := 0) (by omega))
    go_wp2_with fail
    go_loopw [19] (fun v wr => ∃ k : Nat, k ≤ n ∧ v = .int .i64 k ∧ NewAt w n (w.heap.size + 1 + 1) (w.heap.size + 1) (w.heap.size) k wr) (fun v _ => n - (intOf v).toNat)
    case atStart => exact ⟨0, Nat.zero_le _, rfl, H0.out⟩
    case round =>
      obtain ⟨k, hk, rfl, hN⟩ := hrel
      have HN := Lib.hid hN
      obtain ⟨cs, g1, g2, _⟩ := hN.pos
      have c0 := cell_of_cells hN.obj 2
      have ft := frozen_of_cells g1 k
      by_cases hlt : k < n
      · have hlt2 : (k : Int) < (n : Int) := by omega
        have ct : wr.cell? ⟨w.heap.size, k, none⟩ = some cs[k] := by rw [cell_of_cells g1]; exact Array.getElem?_eq_getElem (by omega)
        clear hN g1
        go_wp2_with fail
        go_roundw
        case rel => exact ⟨k + 1, by omega, by go_num, HN.out.step hlt⟩
        case measure => simp [intOf]; omega
      · obtain rfl : k = n := by omega
        clear hN g1 c0 ft
        go_wp2_with fail
        go_ret
        have hm := HN.out.mem
        exact ⟨_, rfl, _, _, hm.1, hm.2, HN.out.keep⟩
end Go.Proofs.Ytdelfgilcfoaoaa.Hp
