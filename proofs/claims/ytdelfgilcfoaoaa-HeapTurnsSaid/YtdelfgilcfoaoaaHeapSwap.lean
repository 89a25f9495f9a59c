/- The walk of the heap's swap. -/
import Derived.Test.YtdelfgilcfoaoaaHeapWalks
import Derived.BigRegion
namespace Go.Proofs.Ytdelfgilcfoaoaa.Hp
open Go.RowKit

/-- what a swap may touch -/
def swapSet (rv : Value) (bt : Nat) : Nat → Prop := fun b => rv.ownBlock = some b ∨ b = bt

set_option maxRecDepth 100000 in
set_option maxHeartbeats 3200000 in
theorem swap_any {O : Nat → Prop} {w : World} {H ba bt : Nat} {rv : Value} {s : St} (h : Mem O w H ba bt rv s) (hf : Fit s) (i k : Nat) (hne : i ≠ k) (hi : i < s.m) (hk : k < s.m) :
    Calls Try.prog 35 #[.pointer (some ⟨H, 0, none⟩), .int .i64 i, .int .i64 k] w fun e w' => e = .returned (.tuple #[]) ∧ Mem O w' H ba bt rv (swap s i k) ∧ Keeps (swapSet rv bt) w w' := by
  obtain ⟨br, cap, rfl, hmc, hcm, hrow, hrf, hrba, hrbt, hrH, _, _⟩ := h.rows (by omega)
  obtain ⟨ca, ct, c0, c1, c2, hfz⟩ := h.obj_cells
  have hx := hf.node i hi
  have hy := hf.node k hk
  have hxy : s.row i ≠ s.row k := fun e => hne (hf.inj hi hk e)
  have h1 := h.set_row hi (s.row k)
  have h2 := h1.set_row hk (s.row i)
  have h2d := h2.of_heap (w' := ((w.setCell ⟨br, i, none⟩ (.int .i64 (s.row k))).setCell ⟨br, k, none⟩ (.int .i64 (s.row i))).drew) rfl
  have H2 := Lib.hid h2d
  have hK := Lib.hid (show Keeps (swapSet (.slice (some ⟨br, 0, none⟩) s.m cap) bt) w ((w.setCell ⟨br, i, none⟩ (.int .i64 (s.row k))).setCell ⟨br, k, none⟩ (.int .i64 (s.row i))).drew from
    (((Keeps.refl _ _).setCell (.inl (.inl rfl)) _).setCell (.inl (.inl rfl)) _).drew)
  have ri := hrow i hi
  have rk := hrow k hk
  have HI := Lib.hid (show (upd (upd s.row i (s.row k)) k (s.row i)) i = s.row k by rw [upd_other _ _ hne, upd_self])
  have HK := Lib.hid (show (upd (upd s.row i (s.row k)) k (s.row i)) k = s.row i by rw [upd_self])
  have hi2 : (i : Int) < (s.m : Int) := by omega
  have hk2 : (k : Int) < (s.m : Int) := by omega
  have hx2 : (s.row i : Int) < (s.n : Int) := by omega
  have hy2 : (s.row k : Int) < (s.n : Int) := by omega
  have HS := Lib.hid (show swap s i k = { n := s.n, act := s.act, m := s.m, row := upd (upd s.row i (s.row k)) k (s.row i), pos := upd (upd s.pos (s.row k) i) (s.row i) k } from rfl)
  clear h h1 h2 h2d hrow hf
  generalize hxe : s.row i = x at *
  generalize hye : s.row k = y at *
  clear hxe hye
  go_enter Try.func35, Try.ntmps35
  go_wp2
  go_region
  generalize ((w.setCell ⟨br, i, none⟩ (.int .i64 y)).setCell ⟨br, k, none⟩ (.int .i64 x)).drew = w1 at *
  have M := H2.out
  obtain ⟨br', cap', he, _, _, hrow, hrf1, _, _, _, _, _⟩ := M.rows (by show 0 < s.m; omega)
  simp only [Value.slice.injEq, Option.some.injEq, Addr.mk.injEq, and_true] at he
  obtain ⟨rfl, _, rfl⟩ := he
  obtain ⟨ca', ct', _, d1, d2, _⟩ := M.obj_cells
  replace d2 : w1.cell? ⟨H, 2, none⟩ = some (.slice (some ⟨bt, 0, none⟩) s.n ct') := d2
  have ri1 : w1.cell? ⟨br, i, none⟩ = some (.int .i64 y) := (hrow i hi).trans (by show some (Value.int .i64 (((upd (upd s.row i y) k x) i : Nat) : Int)) = _; rw [HI.out])
  have rk1 : w1.cell? ⟨br, k, none⟩ = some (.int .i64 x) := (hrow k hk).trans (by show some (Value.int .i64 (((upd (upd s.row i y) k x) k : Nat) : Int)) = _; rw [HK.out])
  have px : w1.cell? ⟨bt, x, none⟩ = some (.int .i64 (s.pos x)) := M.pos_cell hx
  have py : w1.cell? ⟨bt, y, none⟩ = some (.int .i64 (s.pos y)) := M.pos_cell hy
  have pf := M.pos_free
  have h3 := M.set_pos (i := y) hy i
  have h4 := h3.set_pos (i := x) hx k
  have h4d := h4.of_heap (w' := ((w1.setCell ⟨bt, y, none⟩ (.int .i64 i)).setCell ⟨bt, x, none⟩ (.int .i64 k)).drew) rfl
  have H4 := Lib.hid h4d
  have hK2 := Lib.hid (hK.out.trans_same (show Keeps (swapSet (.slice (some ⟨br, 0, none⟩) s.m cap) bt) w1 ((w1.setCell ⟨bt, y, none⟩ (.int .i64 i)).setCell ⟨bt, x, none⟩ (.int .i64 k)).drew from
    (((Keeps.refl _ _).setCell (.inl (.inr rfl)) _).setCell (.inl (.inr rfl)) _).drew))
  clear M h3 h4 h4d hrow H2 hK HI HK c0 c1 c2 hfz hrf ri rk
  go_wp2
  go_region
  go_end0
  refine ⟨rfl, ?_, ?_⟩
  · rw [HS.out]; exact H4.out
  · exact hK2.out
end Go.Proofs.Ytdelfgilcfoaoaa.Hp
