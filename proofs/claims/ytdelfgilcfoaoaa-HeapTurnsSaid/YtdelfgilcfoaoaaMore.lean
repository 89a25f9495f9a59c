/- More general lemmas: make. No condition. -/
import Derived.Test.YtdelfgilcfoaoaaFrame
namespace Go.Proofs.Ytdelfgilcfoaoaa
open Go.RowKit

theorem run_make_int (n : Nat) (hn : n ≤ 1000000) (W : World) : (Instr.makeSlice 42 (.int .i64 n) (.int .i64 n)).run Try.prog W = .ok (.slice (some ⟨W.heap.size, 0, none⟩) n n) (W.alloc (.cells (madeCells #[.int .i64 0] n) 3)) := by
  obtain ⟨i0, hi, hz0, hz1, hz2⟩ := info_parts info_int
  have h := run_make (P := Try.prog) W 42 3 i0 (.int .i64 0) Try.underlying42 hi hz0 .i64 .i64 n n (by omega) (by omega) (by rw [hz2]; omega) (by omega)
  simp only [Int.toNat_natCast, hz1, Nat.mul_one] at h
  exact h
theorem madeCells_at (v : Value) (n i : Nat) (h : i < n) : (madeCells #[v] n)[i]? = some v := by
  unfold madeCells
  rw [Array.getElem?_map, Array.getElem?_eq_getElem (by simpa using h)]
  simp [Nat.mod_one]
end Go.Proofs.Ytdelfgilcfoaoaa
