/- How a heap lies in memory, and the walks of its small functions. -/
import Derived.Test.YtdelfgilcfoaoaaHeapPlain
import Derived.Test.YtdelfgilcfoaoaaFrame
import Derived.Deep.QuietTactic
import Derived.BigQuiet
namespace Go.Proofs.Ytdelfgilcfoaoaa.Hp
open Go.RowKit

/-- the heap s lies at block H: its activities at ba, its nodes' places at bt, its rows in the slice rv; all but the activities in the set O -/
structure Mem (O : Nat → Prop) (w : World) (H ba bt : Nat) (rv : Value) (s : St) : Prop where
  obj : ∃ ca ct, w.heap[H]? = some (.cells #[.slice (some ⟨ba, 0, none⟩) s.n ca, rv, .slice (some ⟨bt, 0, none⟩) s.n ct] 48 (0, 0))
  act : ∃ cs, w.heap[ba]? = some (.cells cs 3 (0, 0)) ∧ ∀ i, i < s.n → cs[i]? = some (.int .i64 (s.act i))
  pos : ∃ cs, w.heap[bt]? = some (.cells cs 3 (0, 0)) ∧ ∀ i, i < s.n → cs[i]? = some (.int .i64 (s.pos i))
  row : (rv = .slice none 0 0 ∧ s.m = 0) ∨ ∃ br cap cs, rv = .slice (some ⟨br, 0, none⟩) s.m cap ∧ w.heap[br]? = some (.cells cs 3 (0, 0)) ∧ s.m ≤ cap ∧ cap ≤ maxLen ∧ cs.size = cap ∧ (∀ k, k < s.m → cs[k]? = some (.int .i64 (s.row k))) ∧ br ≠ ba ∧ br ≠ bt ∧ O br
  ne : ba ≠ bt
  oH : O H
  ot : O bt

section
variable {O : Nat → Prop} {w : World} {H ba bt : Nat} {rv : Value} {s : St}
theorem Mem.act_cell (h : Mem O w H ba bt rv s) {i : Nat} (hi : i < s.n) : w.cell? ⟨ba, i, none⟩ = some (.int .i64 (s.act i)) := by
  obtain ⟨cs, h1, h2⟩ := h.act; rw [cell_of_cells h1]; exact h2 i hi
theorem Mem.pos_cell (h : Mem O w H ba bt rv s) {i : Nat} (hi : i < s.n) : w.cell? ⟨bt, i, none⟩ = some (.int .i64 (s.pos i)) := by
  obtain ⟨cs, h1, h2⟩ := h.pos; rw [cell_of_cells h1]; exact h2 i hi
theorem Mem.act_free (h : Mem O w H ba bt rv s) (i : Nat) : w.frozen? ⟨ba, i, none⟩ = false := by
  obtain ⟨cs, h1, h2⟩ := h.act; exact frozen_of_cells h1 i
theorem Mem.pos_free (h : Mem O w H ba bt rv s) (i : Nat) : w.frozen? ⟨bt, i, none⟩ = false := by
  obtain ⟨cs, h1, h2⟩ := h.pos; exact frozen_of_cells h1 i
theorem Mem.neHa (h : Mem O w H ba bt rv s) : H ≠ ba := by
  obtain ⟨ca, ct, h1⟩ := h.obj
  obtain ⟨cs, h2, _⟩ := h.act
  rintro rfl; rw [h1] at h2; simp at h2
theorem Mem.neHt (h : Mem O w H ba bt rv s) : H ≠ bt := by
  obtain ⟨ca, ct, h1⟩ := h.obj
  obtain ⟨cs, h2, _⟩ := h.pos
  rintro rfl; rw [h1] at h2; simp at h2
/-- the rows, where there are any -/
theorem Mem.rows (h : Mem O w H ba bt rv s) (hm : 0 < s.m) : ∃ br cap, rv = .slice (some ⟨br, 0, none⟩) s.m cap ∧ s.m ≤ cap ∧ cap ≤ maxLen ∧ (∀ k, k < s.m → w.cell? ⟨br, k, none⟩ = some (.int .i64 (s.row k))) ∧ (∀ k, w.frozen? ⟨br, k, none⟩ = false) ∧ br ≠ ba ∧ br ≠ bt ∧ br ≠ H ∧ O br ∧ br < w.heap.size := by
  rcases h.row with ⟨_, h0⟩ | ⟨br, cap, cs, hr, hb, h1, h2, h3, h4, h5, h6, h7⟩
  · omega
  · refine ⟨br, cap, hr, h1, h2, fun k hk => by rw [cell_of_cells hb]; exact h4 k hk, fun k => frozen_of_cells hb k, h5, h6, ?_, h7, lt_of_block hb⟩
    obtain ⟨ca, ct, ho⟩ := h.obj
    rintro rfl; rw [ho] at hb; simp at hb
theorem Mem.obj_cells (h : Mem O w H ba bt rv s) : ∃ ca ct, w.cell? ⟨H, 0, none⟩ = some (.slice (some ⟨ba, 0, none⟩) s.n ca) ∧ w.cell? ⟨H, 1, none⟩ = some rv ∧ w.cell? ⟨H, 2, none⟩ = some (.slice (some ⟨bt, 0, none⟩) s.n ct) ∧ (∀ j, w.frozen? ⟨H, j, none⟩ = false) := by
  obtain ⟨ca, ct, h1⟩ := h.obj
  exact ⟨ca, ct, by rw [cell_of_cells h1]; rfl, by rw [cell_of_cells h1]; rfl, by rw [cell_of_cells h1]; rfl, fun j => frozen_of_cells h1 j⟩
theorem Mem.of_heap {w' : World} (h : Mem O w H ba bt rv s) (e : w'.heap = w.heap) : Mem O w' H ba bt rv s := by
  refine ⟨?_, ?_, ?_, ?_, h.ne, h.oH, h.ot⟩
  · rw [e]; exact h.obj
  · rw [e]; exact h.act
  · rw [e]; exact h.pos
  · rw [e]; exact h.row
theorem Mem.mono {O' : Nat → Prop} (h : Mem O w H ba bt rv s) (hO : ∀ k, O k → O' k) : Mem O' w H ba bt rv s := by
  refine ⟨h.obj, h.act, h.pos, ?_, h.ne, hO _ h.oH, hO _ h.ot⟩
  rcases h.row with h1 | ⟨br, cap, cs, h1, h2, h3, h4, h5, h6, h7, h8, h9⟩
  · exact .inl h1
  · exact .inr ⟨br, cap, cs, h1, h2, h3, h4, h5, h6, h7, h8, hO _ h9⟩
/-- what is not touched stays -/
theorem Mem.keep {S : Nat → Prop} {w' : World} (h : Mem O w H ba bt rv s) (hk : Keeps S w w') (hS : ∀ k, O k → ¬ S k) (ha : ¬ S ba) : Mem O w' H ba bt rv s := by
  obtain ⟨ca, ct, h1⟩ := h.obj
  obtain ⟨cs, h2, h2'⟩ := h.act
  obtain ⟨cp, h3, h3'⟩ := h.pos
  refine ⟨⟨ca, ct, ?_⟩, ⟨cs, ?_, h2'⟩, ⟨cp, ?_, h3'⟩, ?_, h.ne, h.oH, h.ot⟩
  · rw [hk.block _ (lt_of_block h1) (hS _ h.oH)]; exact h1
  · rw [hk.block _ (lt_of_block h2) ha]; exact h2
  · rw [hk.block _ (lt_of_block h3) (hS _ h.ot)]; exact h3
  · rcases h.row with h4 | ⟨br, cap, cs, h4, h5, h6⟩
    · exact .inl h4
    · exact .inr ⟨br, cap, cs, h4, by rw [hk.block _ (lt_of_block h5) (hS _ h6.2.2.2.2.2.2)]; exact h5, h6⟩
theorem setCell_at {w : World} {g : Nat} {cs : Array Value} {e : TypeId} {fr : Nat × Nat} (h : w.heap[g]? = some (.cells cs e fr)) (i : Nat) (v : Value) : (w.setCell ⟨g, i, none⟩ v).heap[g]? = some (.cells (cs.setIfInBounds i v) e fr) := by
  simp [World.setCell, Array.getElem?_modify, h]
theorem setCell_far {w : World} {g k : Nat} (i : Nat) (v : Value) (h : k ≠ g) : (w.setCell ⟨g, i, none⟩ v).heap[k]? = w.heap[k]? := Below.heap_setCell _ _ _ _ h
theorem cells_upd {cs : Array Value} {n : Nat} {f : Nat → Int} (h : ∀ i, i < n → cs[i]? = some (.int .i64 (f i))) {i : Nat} (hi : i < n) (v : Int) :
    ∀ j, j < n → (cs.setIfInBounds i (.int .i64 v))[j]? = some (.int .i64 (upd f i v j)) := by
  intro j hj
  have hsz : i < cs.size := (Array.getElem?_eq_some_iff.1 (h i hi)).1
  rw [Array.getElem?_setIfInBounds]
  by_cases e : i = j
  · subst e; simp [upd_self, hsz]
  · rw [if_neg e, h j hj, upd_other _ _ (Ne.symm e)]
theorem cells_updN {cs : Array Value} {n : Nat} {f : Nat → Nat} (h : ∀ i, i < n → cs[i]? = some (.int .i64 (f i))) {i : Nat} (hi : i < n) (v : Nat) :
    ∀ j, j < n → (cs.setIfInBounds i (.int .i64 v))[j]? = some (.int .i64 ((upd f i v j : Nat) : Int)) := by
  intro j hj
  have hsz : i < cs.size := (Array.getElem?_eq_some_iff.1 (h i hi)).1
  rw [Array.getElem?_setIfInBounds]
  by_cases e : i = j
  · subst e; simp [upd_self, hsz]
  · rw [if_neg e, h j hj, upd_other _ _ (Ne.symm e)]
theorem Mem.set_pos (h : Mem O w H ba bt rv s) {i : Nat} (hi : i < s.n) (v : Int) : Mem O (w.setCell ⟨bt, i, none⟩ (.int .i64 v)) H ba bt rv { s with pos := upd s.pos i v } := by
  have hHt := h.neHt
  obtain ⟨ca, ct, h1⟩ := h.obj
  obtain ⟨cs, h2, h2'⟩ := h.act
  obtain ⟨cp, h3, h3'⟩ := h.pos
  refine ⟨⟨ca, ct, by rw [setCell_far _ _ hHt]; exact h1⟩, ⟨cs, by rw [setCell_far _ _ h.ne]; exact h2, h2'⟩, ⟨_, setCell_at h3 _ _, cells_upd h3' hi v⟩, ?_, h.ne, h.oH, h.ot⟩
  rcases h.row with h4 | ⟨br, cap, cs, h4, h5, h6, h7, h8, h9, h10, h11, h12⟩
  · exact .inl h4
  · exact .inr ⟨br, cap, cs, h4, by rw [setCell_far _ _ h11]; exact h5, h6, h7, h8, h9, h10, h11, h12⟩
theorem Mem.set_act (h : Mem O w H ba bt rv s) {i : Nat} (hi : i < s.n) (v : Int) : Mem O (w.setCell ⟨ba, i, none⟩ (.int .i64 v)) H ba bt rv { s with act := upd s.act i v } := by
  have hHa := h.neHa
  obtain ⟨ca, ct, h1⟩ := h.obj
  obtain ⟨cs, h2, h2'⟩ := h.act
  obtain ⟨cp, h3, h3'⟩ := h.pos
  refine ⟨⟨ca, ct, by rw [setCell_far _ _ hHa]; exact h1⟩, ⟨_, setCell_at h2 _ _, cells_upd h2' hi v⟩, ⟨cp, by rw [setCell_far _ _ (Ne.symm h.ne)]; exact h3, h3'⟩, ?_, h.ne, h.oH, h.ot⟩
  rcases h.row with h4 | ⟨br, cap, cs, h4, h5, h6, h7, h8, h9, h10, h11, h12⟩
  · exact .inl h4
  · exact .inr ⟨br, cap, cs, h4, by rw [setCell_far _ _ h10]; exact h5, h6, h7, h8, h9, h10, h11, h12⟩
theorem Mem.set_row {br m cap : Nat} (h : Mem O w H ba bt (.slice (some ⟨br, 0, none⟩) m cap) s) {i : Nat} (hi : i < s.m) (v : Nat) : Mem O (w.setCell ⟨br, i, none⟩ (.int .i64 v)) H ba bt (.slice (some ⟨br, 0, none⟩) m cap) { s with row := upd s.row i v } := by
  obtain ⟨ca, ct, h1⟩ := h.obj
  obtain ⟨cs, h2, h2'⟩ := h.act
  obtain ⟨cp, h3, h3'⟩ := h.pos
  rcases h.row with h4 | ⟨br', cap', cr, h4, h5, h6, h7, h8, h9, h10, h11, h12⟩
  · simp at h4
  · simp only [Value.slice.injEq, Option.some.injEq, Addr.mk.injEq, and_true] at h4
    obtain ⟨rfl, rfl, rfl⟩ := h4
    have hHr : H ≠ br := by rintro rfl; rw [h1] at h5; simp at h5
    refine ⟨⟨ca, ct, by rw [setCell_far _ _ hHr]; exact h1⟩, ⟨cs, by rw [setCell_far _ _ (Ne.symm h10)]; exact h2, h2'⟩, ⟨cp, by rw [setCell_far _ _ (Ne.symm h11)]; exact h3, h3'⟩, ?_, h.ne, h.oH, h.ot⟩
    exact .inr ⟨br, cap, _, rfl, setCell_at h5 _ _, h6, h7, by simpa using h8, cells_updN h9 hi v, h10, h11, h12⟩
end

set_option maxHeartbeats 400000 in
theorem has_any {O : Nat → Prop} {w : World} {H ba bt : Nat} {rv : Value} {s : St} (h : Mem O w H ba bt rv s) (i : Nat) (hi : i < s.n) :
    Calls Try.prog 30 #[.pointer (some ⟨H, 0, none⟩), .int .i64 i] w fun e w' => e = .returned (.bool (decide (0 ≤ s.pos i))) ∧ w = w' := by
  obtain ⟨ca, ct, c0, c1, c2, hf⟩ := h.obj_cells
  have hp := h.pos_cell hi
  have hi2 : (i : Int) < (s.n : Int) := by omega
  generalize s.pos i = q at *
  clear h
  go_enter Try.func30, Try.ntmps30
  go_wp2
  go_ret
  exact ⟨rfl, rfl⟩
end Go.Proofs.Ytdelfgilcfoaoaa.Hp
