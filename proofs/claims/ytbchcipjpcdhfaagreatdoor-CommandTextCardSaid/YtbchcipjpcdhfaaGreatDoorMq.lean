import Derived.Test.YtbchcipjpcdhfaaGreatDoorMp
import Derived.Test.YtbchcipjpcdhfaaGreatDoorMc
import Derived.Test.YtbchcipjpcdhfaaGreatDoorMb
import Derived.Deep.Cut
import Derived.Laws.EntriesVeiled
import Derived.Test.YtbchcipjpcdhfaaGreatDoorMk
import Derived.Test.YtbchcipjpcdhfaaGreatDoorMo
/- merged by wip/merge.py from: SexpPut SexpText CmdText Law8Plain -/
/- An expression written: the writer's put, symbol, number, key, list. -/
namespace Go.Proofs.YtbchcipjpcdhfaaGreatDoor.Dt
open Go.RowKit

/-- an expression behind a pointer -/
structure PtrE (w : World) (b o : Nat) (A : Option Addr) (c : Nat) (x : Sexp) : Prop where
  c0 : w.cell? ⟨b, o, none⟩ = some (.int .i8 x.kind)
  c1 : w.cell? ⟨b, o + 1, none⟩ = some (.string x.text)
  c2 : w.cell? ⟨b, o + 2, none⟩ = some (.slice A x.l.length c)
  lt : b < w.heap.size
  rep : SexpR w [.int .i8 x.kind, .string x.text, .slice A x.l.length c] x
theorem PtrE.on {w w' : World} {b o : Nat} {A : Option Addr} {c : Nat} {x : Sexp} (h : PtrE w b o A c x) (hb : Below w.heap.size w w') : PtrE w' b o A c x :=
  ⟨(hb.cell (p := ⟨b, o, none⟩) h.lt).trans h.c0, (hb.cell (p := ⟨b, o + 1, none⟩) h.lt).trans h.c1, (hb.cell (p := ⟨b, o + 2, none⟩) h.lt).trans h.c2, Nat.lt_of_lt_of_le h.lt hb.size, SexpR.lasts _ _ _ _ hb h.rep⟩
theorem PtrE.size {w : World} {b o : Nat} {A : Option Addr} {c : Nat} {x : Sexp} (h : PtrE w b o A c x) : (x.text.size : Int) ≤ 140737488351232 := by
  obtain ⟨_, _, _, _, _, _, h1, _⟩ := h.rep.open'
  exact h1
theorem WB.lt {B b : Nat} {l : List UInt8} {w : World} (h : WB B b l w) : b < w.heap.size ∧ B ≤ b := by
  rcases h with h | h
  · exact ⟨h.lt, h.1⟩
  · exact ⟨h.lt, h.1⟩
theorem WB.drew {B b : Nat} {l : List UInt8} {w : World} (h : WB B b l w) : WB B b l w.drew := by
  rcases h with h | h
  · exact .inl h
  · exact .inr h
theorem WB.below {B b : Nat} {l : List UInt8} {w w' : World} (h : WB B b l w) (hb : Below w.heap.size w w') : WB B b l w' := by
  have key : ∀ p, Lib.BuilderAt 89 5 B b p (Lib.byteCells l) w → Lib.BuilderAt 89 5 B b p (Lib.byteCells l) w' := fun p ⟨hB, v, hbk, hown, hne⟩ => by
    refine ⟨hB, v, (hb.block b (lt_of_block hbk)).trans hbk, ⟨hown.1, ?_⟩, hne⟩
    rcases hown.2 with h1 | ⟨g, cap, cur, h1, h2, h3, h4⟩
    · exact .inl h1
    · exact .inr ⟨g, cap, cur, h1, h2, (hb.block g (lt_of_block h3)).trans h3, h4⟩
  rcases h with h | h
  · exact .inl (key _ h)
  · exact .inr (key _ h)
def set4 (w : World) (b : Nat) (v0 v1 v2 v3 : Value) : World := (((w.setCell ⟨b, 0, none⟩ v0).setCell ⟨b, 1, none⟩ v1).setCell ⟨b, 2, none⟩ v2).setCell ⟨b, 3, none⟩ v3
theorem four_set {w : World} {b : Nat} {a0 a1 a2 a3 : Value} {t : TypeId} (h : w.heap[b]? = some (.cells #[a0, a1, a2, a3] t (0, 0))) (v0 v1 v2 v3 : Value) : (set4 w b v0 v1 v2 v3).heap[b]? = some (.cells #[v0, v1, v2, v3] t (0, 0)) := by
  simp [set4, World.setCell, Array.getElem?_modify, h]
theorem four_cells {w : World} {b : Nat} {a0 a1 a2 a3 : Value} {t : TypeId} (h : w.heap[b]? = some (.cells #[a0, a1, a2, a3] t (0, 0))) : w.cell? ⟨b, 0, none⟩ = some a0 ∧ w.cell? ⟨b, 1, none⟩ = some a1 ∧ w.cell? ⟨b, 2, none⟩ = some a2 ∧ w.cell? ⟨b, 3, none⟩ = some a3 ∧ ∀ j, w.frozen? ⟨b, j, none⟩ = false :=
  ⟨by rw [cell_of_cells h]; rfl, by rw [cell_of_cells h]; rfl, by rw [cell_of_cells h]; rfl, by rw [cell_of_cells h]; rfl, fun j => frozen_of_cells h j⟩
theorem set4_below {B b : Nat} {w0 w : World} (h : Below B w0 w) (hb : B ≤ b) (v0 v1 v2 v3 : Value) : Below B w0 (set4 w b v0 v1 v2 v3) :=
  (((h.setCell (p := ⟨b, 0, none⟩) hb v0).setCell (p := ⟨b, 1, none⟩) hb v1).setCell (p := ⟨b, 2, none⟩) hb v2).setCell (p := ⟨b, 3, none⟩) hb v3
theorem bs_size (s : ByteArray) : (Lx.bs s).length = s.size := by unfold Lx.bs; simp
/-- what a writer's call does: the text comes behind -/
def PutPost (B b : Nat) (l : List UInt8) (w : World) (e : Ending) (w' : World) : Prop := e = .returned (.tuple #[]) ∧ WB B b l w' ∧ Below B w w'
section
variable {W0 w : World} {bb o wb B c : Nat} {A : Option Addr} {x : Sexp} {l : List UInt8}
set_option maxHeartbeats 1600000 in
theorem wnum_any (hp : PtrE W0 bb o A c x) (hb : Below W0.heap.size W0 w) (hB : W0.heap.size ≤ B) (hw : WB B wb l w) (hlen : l.length + (Lx.bs x.text).length ≤ 140737488355328) :
    Calls Tryz.prog 91 #[.pointer (some ⟨wb, 0, none⟩), .pointer (some ⟨bb, o, none⟩)] w (PutPost B wb (l ++ Lx.bs x.text) w) := by
  have HB := Lib.hid hB
  have HP := Lib.hid hp
  have p1 := (hb.cell (p := ⟨bb, o + 1, none⟩) hp.lt).trans hp.c1
  have HW := Lib.hid hw.drew
  have HS := Lib.hid (wstr_any B wb l x.text w.drew hw.drew (by rw [← bs_size]; exact hlen) (by have := hw.lt; show B ≤ w.heap.size; omega))
  clear hp hb hB hw hlen
  go_enter Tryz.func91, Tryz.ntmps91
  go_wp2_with fail
  refine wp_region_held_drew (S := fun W => W.cell? ⟨bb, o + 1, none⟩ = some (.string x.text)) (by kernel_rfl) (p1) (fun hHeld => ?_)
  refine wpAnyH_take (i := 0) (oi := Oper.mk _ _ _ _ _ _) (v := ?_) rfl (by kernel_rfl) (by kernel_rfl) (by kernel_rfl) (fun _ _ _ h => h) (Or.inl ⟨by rfl, ?_⟩) (by assumption) ?_
  rotate_left
  · (intro w hSw; (try dsimp only at hSw); go_simp; try with_reducible rfl)
  try simp only [Act.put, List.setIfInBounds_toArray, List.set_cons_zero, List.set_cons_succ]
  refine wpAnyH_take (i := 1) (oi := Oper.mk _ _ _ _ _ _) (v := ?_) rfl (by kernel_rfl) (by kernel_rfl) (by kernel_rfl) (fun _ _ _ h => h) (Or.inl ⟨by rfl, ?_⟩) (by assumption) ?_
  rotate_left
  · (intro w hSw; (try dsimp only at hSw); go_simp; try with_reducible rfl)
  try simp only [Act.put, List.setIfInBounds_toArray, List.set_cons_zero, List.set_cons_succ]
  refine wpAnyH_take (i := 2) (oi := Oper.mk _ _ _ _ _ _) (v := ?_) rfl (by kernel_rfl) (by kernel_rfl) (by kernel_rfl) (fun _ _ _ h => h) (Or.inl ⟨by rfl, ?_⟩) (by assumption) ?_
  rotate_left
  · (intro w hSw; (try dsimp only at hSw); go_simp; try with_reducible rfl)
  try simp only [Act.put, List.setIfInBounds_toArray, List.set_cons_zero, List.set_cons_succ]
  refine wpAnyH_take (i := 3) (oi := Oper.mk _ _ _ _ _ _) (v := ?_) rfl (by kernel_rfl) (by kernel_rfl) (by kernel_rfl) (fun _ _ _ h => h) (Or.inl ⟨by rfl, ?_⟩) (by assumption) ?_
  rotate_left
  · (intro w hSw; (try dsimp only at hSw); go_simp; try with_reducible rfl)
  try simp only [Act.put, List.setIfInBounds_toArray, List.set_cons_zero, List.set_cons_succ]
  refine wpAnyH_take (i := 4) (oi := Oper.mk _ _ _ _ _ _) (v := ?_) rfl (by kernel_rfl) (by kernel_rfl) (by kernel_rfl) (fun _ _ _ h => h) (Or.inl ⟨by rfl, ?_⟩) (by assumption) ?_
  rotate_left
  · (intro w hSw; (try dsimp only at hSw); go_simp; try with_reducible rfl)
  try simp only [Act.put, List.setIfInBounds_toArray, List.set_cons_zero, List.set_cons_succ]
  refine wpAnyH_take (i := 5) (oi := Oper.mk _ _ _ _ _ _) (v := ?_) rfl (by kernel_rfl) (by kernel_rfl) (by kernel_rfl) (fun _ _ _ h => h) (Or.inl ⟨by rfl, ?_⟩) (by assumption) ?_
  rotate_left
  · (intro w hSw; (try dsimp only at hSw); go_simp; try with_reducible rfl)
  try simp only [Act.put, List.setIfInBounds_toArray, List.set_cons_zero, List.set_cons_succ]
  refine wpAnyH_take (i := 6) (oi := Oper.mk _ _ _ _ _ _) (v := ?_) rfl (by kernel_rfl) (by kernel_rfl) (by kernel_rfl) (fun _ _ _ h => h) (Or.inl ⟨by rfl, ?_⟩) (by assumption) ?_
  rotate_left
  · (intro w hSw; (try dsimp only at hSw); go_simp; try with_reducible rfl)
  try simp only [Act.put, List.setIfInBounds_toArray, List.set_cons_zero, List.set_cons_succ]
  refine wpAnyH_ready (rs := [7]) (by kernel_rfl) (by simp) ?_
  refine AllReadyH.cons (o := Oper.mk _ _ _ _ _ _) rfl (fun K hK => ?_) AllReadyH.nil
  go_simp
  go_wp2_with (go_at_call 112; refine HS.out.mono ?_; rintro e w1 ⟨rfl, h1, hb1⟩)
  refine hK.out _ _ ((hb1.cell (p := ⟨bb, o + 1, none⟩) (Nat.lt_of_lt_of_le HP.out.lt HB.out)).trans p1) (fun hHeld => ?_)
  clear hK K
  try simp only [Act.put, List.setIfInBounds_toArray, List.set_cons_zero, List.set_cons_succ]
  refine wpAnyH_done (by kernel_rfl) ?_ _
  clear hHeld
  have HF := Lib.hid (And.intro h1 ((Below.refl B w).drew.trans hb1))
  clear h1 hb1
  go_wp2_with fail
  go_end0
  exact ⟨rfl, HF.out⟩
set_option maxHeartbeats 1600000 in
theorem wkey_any (hp : PtrE W0 bb o A c x) (hb : Below W0.heap.size W0 w) (hB : W0.heap.size ≤ B) (hw : WB B wb l w) (hlen : l.length + (58 :: Lx.bs x.text).length ≤ 140737488355328) :
    Calls Tryz.prog 92 #[.pointer (some ⟨wb, 0, none⟩), .pointer (some ⟨bb, o, none⟩)] w (PutPost B wb (l ++ 58 :: Lx.bs x.text) w) := by
  have HB := Lib.hid hB
  have HP := Lib.hid hp
  have p1 := (hb.cell (p := ⟨bb, o + 1, none⟩) hp.lt).trans hp.c1
  have e58 : Lx.bs ({ data := #[58] } ++ x.text) = 58 :: Lx.bs x.text := by rw [Lx.bs_append]; rfl
  have HS := Lib.hid (wstr_any B wb l ({ data := #[58] } ++ x.text) w.drew hw.drew (by rw [← bs_size, e58]; exact hlen) (by have := hw.lt; show B ≤ w.heap.size; omega))
  rw [e58] at HS
  have hsz : ¬ 9223372036854775807 < 1 + x.text.size := by have := hp.size; omega
  clear hp hb hB hw hlen e58
  go_enter Tryz.func92, Tryz.ntmps92
  go_wp2_with fail
  refine wp_region_held_drew (S := fun W => W.cell? ⟨bb, o + 1, none⟩ = some (.string x.text)) (by kernel_rfl) (p1) (fun hHeld => ?_)
  refine wpAnyH_take (i := 0) (oi := Oper.mk _ _ _ _ _ _) (v := ?_) rfl (by kernel_rfl) (by kernel_rfl) (by kernel_rfl) (fun _ _ _ h => h) (Or.inl ⟨by rfl, ?_⟩) (by assumption) ?_
  rotate_left
  · (intro w hSw; (try dsimp only at hSw); go_simp; try with_reducible rfl)
  try simp only [Act.put, List.setIfInBounds_toArray, List.set_cons_zero, List.set_cons_succ]
  refine wpAnyH_take (i := 1) (oi := Oper.mk _ _ _ _ _ _) (v := ?_) rfl (by kernel_rfl) (by kernel_rfl) (by kernel_rfl) (fun _ _ _ h => h) (Or.inl ⟨by rfl, ?_⟩) (by assumption) ?_
  rotate_left
  · (intro w hSw; (try dsimp only at hSw); go_simp; try with_reducible rfl)
  try simp only [Act.put, List.setIfInBounds_toArray, List.set_cons_zero, List.set_cons_succ]
  refine wpAnyH_take (i := 2) (oi := Oper.mk _ _ _ _ _ _) (v := ?_) rfl (by kernel_rfl) (by kernel_rfl) (by kernel_rfl) (fun _ _ _ h => h) (Or.inl ⟨by rfl, ?_⟩) (by assumption) ?_
  rotate_left
  · (intro w hSw; (try dsimp only at hSw); go_simp; try with_reducible rfl)
  try simp only [Act.put, List.setIfInBounds_toArray, List.set_cons_zero, List.set_cons_succ]
  refine wpAnyH_take (i := 3) (oi := Oper.mk _ _ _ _ _ _) (v := ?_) rfl (by kernel_rfl) (by kernel_rfl) (by kernel_rfl) (fun _ _ _ h => h) (Or.inl ⟨by rfl, ?_⟩) (by assumption) ?_
  rotate_left
  · (intro w hSw; (try dsimp only at hSw); go_simp; try with_reducible rfl)
  try simp only [Act.put, List.setIfInBounds_toArray, List.set_cons_zero, List.set_cons_succ]
  refine wpAnyH_take (i := 4) (oi := Oper.mk _ _ _ _ _ _) (v := ?_) rfl (by kernel_rfl) (by kernel_rfl) (by kernel_rfl) (fun _ _ _ h => h) (Or.inl ⟨by rfl, ?_⟩) (by assumption) ?_
  rotate_left
  · (intro w hSw; (try dsimp only at hSw); go_simp; try with_reducible rfl)
  try simp only [Act.put, List.setIfInBounds_toArray, List.set_cons_zero, List.set_cons_succ]
  refine wpAnyH_take (i := 5) (oi := Oper.mk _ _ _ _ _ _) (v := ?_) rfl (by kernel_rfl) (by kernel_rfl) (by kernel_rfl) (fun _ _ _ h => h) (Or.inl ⟨by rfl, ?_⟩) (by assumption) ?_
  rotate_left
  · (intro w hSw; (try dsimp only at hSw); go_simp; try with_reducible rfl)
  try simp only [Act.put, List.setIfInBounds_toArray, List.set_cons_zero, List.set_cons_succ]
  refine wpAnyH_take (i := 6) (oi := Oper.mk _ _ _ _ _ _) (v := ?_) rfl (by kernel_rfl) (by kernel_rfl) (by kernel_rfl) (fun _ _ _ h => h) (Or.inl ⟨by rfl, ?_⟩) (by assumption) ?_
  rotate_left
  · (intro w hSw; (try dsimp only at hSw); go_simp; try with_reducible rfl)
  try simp only [Act.put, List.setIfInBounds_toArray, List.set_cons_zero, List.set_cons_succ]
  refine wpAnyH_take (i := 7) (oi := Oper.mk _ _ _ _ _ _) (v := ?_) rfl (by kernel_rfl) (by kernel_rfl) (by kernel_rfl) (fun _ _ _ h => h) (Or.inl ⟨by rfl, ?_⟩) (by assumption) ?_
  rotate_left
  · (intro w hSw; (try dsimp only at hSw); go_simp; try with_reducible rfl)
  try simp only [Act.put, List.setIfInBounds_toArray, List.set_cons_zero, List.set_cons_succ]
  refine wpAnyH_ready (rs := [8]) (by kernel_rfl) (by simp) ?_
  refine AllReadyH.cons (o := Oper.mk _ _ _ _ _ _) rfl (fun K hK => ?_) AllReadyH.nil
  go_simp
  go_wp2_with (go_at_call 112; refine HS.out.mono ?_; rintro e w1 ⟨rfl, h1, hb1⟩)
  refine hK.out _ _ ((hb1.cell (p := ⟨bb, o + 1, none⟩) (Nat.lt_of_lt_of_le HP.out.lt HB.out)).trans p1) (fun hHeld => ?_)
  clear hK K
  try simp only [Act.put, List.setIfInBounds_toArray, List.set_cons_zero, List.set_cons_succ]
  refine wpAnyH_done (by kernel_rfl) ?_ _
  clear hHeld
  have HF := Lib.hid (And.intro h1 ((Below.refl B w).drew.trans hb1))
  clear h1 hb1
  go_wp2_with fail
  go_end0
  exact ⟨rfl, HF.out⟩
set_option maxHeartbeats 1600000 in
theorem wsym_any (hp : PtrE W0 bb o A c x) (hb : Below W0.heap.size W0 w) (hB : W0.heap.size ≤ B) (hw : WB B wb l w) (hlen : l.length + (Lx.quoteL (Lx.bs x.text)).length ≤ 140737488355328) :
    Calls Tryz.prog 90 #[.pointer (some ⟨wb, 0, none⟩), .pointer (some ⟨bb, o, none⟩)] w (PutPost B wb (l ++ Lx.quoteL (Lx.bs x.text)) w) := by
  have HB := Lib.hid hB
  have HP := Lib.hid hp
  have p1 := (hb.cell (p := ⟨bb, o + 1, none⟩) hp.lt).trans hp.c1
  have eq : Lx.bs (Lx.quoteS x.text) = Lx.quoteL (Lx.bs x.text) := Lx.bs_quoteS x.text
  have HS := Lib.hid (wstr_any B wb l (Lx.quoteS x.text) w.drew hw.drew (by rw [← bs_size, eq]; exact hlen) (by have := hw.lt; show B ≤ w.heap.size; omega))
  have HQ := Lib.hid (Lx.quote_any x.text w.drew hp.size)
  rw [eq] at HS
  clear hp hb hB hw hlen eq
  go_enter Tryz.func90, Tryz.ntmps90
  go_wp2_with fail
  refine wp_region_held_drew (S := fun W => W.cell? ⟨bb, o + 1, none⟩ = some (.string x.text)) (by kernel_rfl) (p1) (fun hHeld => ?_)
  refine wpAnyH_take (i := 0) (oi := Oper.mk _ _ _ _ _ _) (v := ?_) rfl (by kernel_rfl) (by kernel_rfl) (by kernel_rfl) (fun _ _ _ h => h) (Or.inl ⟨by rfl, ?_⟩) (by assumption) ?_
  rotate_left
  · (intro w hSw; (try dsimp only at hSw); go_simp; try with_reducible rfl)
  try simp only [Act.put, List.setIfInBounds_toArray, List.set_cons_zero, List.set_cons_succ]
  refine wpAnyH_take (i := 1) (oi := Oper.mk _ _ _ _ _ _) (v := ?_) rfl (by kernel_rfl) (by kernel_rfl) (by kernel_rfl) (fun _ _ _ h => h) (Or.inl ⟨by rfl, ?_⟩) (by assumption) ?_
  rotate_left
  · (intro w hSw; (try dsimp only at hSw); go_simp; try with_reducible rfl)
  try simp only [Act.put, List.setIfInBounds_toArray, List.set_cons_zero, List.set_cons_succ]
  refine wpAnyH_take (i := 2) (oi := Oper.mk _ _ _ _ _ _) (v := ?_) rfl (by kernel_rfl) (by kernel_rfl) (by kernel_rfl) (fun _ _ _ h => h) (Or.inl ⟨by rfl, ?_⟩) (by assumption) ?_
  rotate_left
  · (intro w hSw; (try dsimp only at hSw); go_simp; try with_reducible rfl)
  try simp only [Act.put, List.setIfInBounds_toArray, List.set_cons_zero, List.set_cons_succ]
  refine wpAnyH_take (i := 3) (oi := Oper.mk _ _ _ _ _ _) (v := ?_) rfl (by kernel_rfl) (by kernel_rfl) (by kernel_rfl) (fun _ _ _ h => h) (Or.inl ⟨by rfl, ?_⟩) (by assumption) ?_
  rotate_left
  · (intro w hSw; (try dsimp only at hSw); go_simp; try with_reducible rfl)
  try simp only [Act.put, List.setIfInBounds_toArray, List.set_cons_zero, List.set_cons_succ]
  refine wpAnyH_take (i := 4) (oi := Oper.mk _ _ _ _ _ _) (v := ?_) rfl (by kernel_rfl) (by kernel_rfl) (by kernel_rfl) (fun _ _ _ h => h) (Or.inl ⟨by rfl, ?_⟩) (by assumption) ?_
  rotate_left
  · (intro w hSw; (try dsimp only at hSw); go_simp; try with_reducible rfl)
  try simp only [Act.put, List.setIfInBounds_toArray, List.set_cons_zero, List.set_cons_succ]
  refine wpAnyH_take (i := 5) (oi := Oper.mk _ _ _ _ _ _) (v := ?_) rfl (by kernel_rfl) (by kernel_rfl) (by kernel_rfl) (fun _ _ _ h => h) (Or.inl ⟨by rfl, ?_⟩) (by assumption) ?_
  rotate_left
  · (intro w hSw; (try dsimp only at hSw); go_simp; try with_reducible rfl)
  try simp only [Act.put, List.setIfInBounds_toArray, List.set_cons_zero, List.set_cons_succ]
  refine wpAnyH_take (i := 6) (oi := Oper.mk _ _ _ _ _ _) (v := ?_) rfl (by kernel_rfl) (by kernel_rfl) (by kernel_rfl) (fun _ _ _ h => h) (Or.inl ⟨by rfl, ?_⟩) (by assumption) ?_
  rotate_left
  · (intro w hSw; (try dsimp only at hSw); go_simp; try with_reducible rfl)
  try simp only [Act.put, List.setIfInBounds_toArray, List.set_cons_zero, List.set_cons_succ]
  refine wpAnyH_ready (rs := [7]) (by kernel_rfl) (by simp) ?_
  refine AllReadyH.cons (o := Oper.mk _ _ _ _ _ _) rfl (fun K hK => ?_) AllReadyH.nil
  go_simp
  go_wp2_with (go_at_call 113; refine HQ.out.mono ?_; rintro e w0 ⟨rfl, rfl⟩)
  refine hK.out _ _ (p1) (fun hHeld => ?_)
  clear hK K
  try simp only [Act.put, List.setIfInBounds_toArray, List.set_cons_zero, List.set_cons_succ]
  refine wpAnyH_ready (rs := [8]) (by kernel_rfl) (by simp) ?_
  refine AllReadyH.cons (o := Oper.mk _ _ _ _ _ _) rfl (fun K hK => ?_) AllReadyH.nil
  go_simp
  go_wp2_with (go_at_call 112; refine HS.out.mono ?_; rintro e w1 ⟨rfl, h1, hb1⟩)
  refine hK.out _ _ ((hb1.cell (p := ⟨bb, o + 1, none⟩) (Nat.lt_of_lt_of_le HP.out.lt HB.out)).trans p1) (fun hHeld => ?_)
  clear hK K
  try simp only [Act.put, List.setIfInBounds_toArray, List.set_cons_zero, List.set_cons_succ]
  refine wpAnyH_done (by kernel_rfl) ?_ _
  clear hHeld
  have HF := Lib.hid (And.intro h1 ((Below.refl B w).drew.trans hb1))
  clear h1 hb1
  go_wp2_with fail
  go_end0
  exact ⟨rfl, HF.out⟩
end
/-- put does so, whatever stands in memory -/
def PutAt (x : Sexp) : Prop := ∀ (W0 w : World) (bb o wb B c : Nat) (A : Option Addr) (l : List UInt8), PtrE W0 bb o A c x → Below W0.heap.size W0 w → W0.heap.size ≤ B → WB B wb l w → x.stands = true → l.length + x.textL.length ≤ 140737488355328 →
  Calls Tryz.prog 72 #[.pointer (some ⟨wb, 0, none⟩), .pointer (some ⟨bb, o, none⟩)] w (PutPost B wb (l ++ x.textL) w)
theorem rests_snoc : ∀ (l : List Sexp) (y : Sexp), Sexp.restsL (l ++ [y]) = Sexp.restsL l ++ 32 :: y.textL
  | [], y => by simp [Sexp.restsL]
  | x :: r, y => by rw [List.cons_append]; unfold Sexp.restsL; rw [rests_snoc r y]; simp
theorem texts_snoc (l : List Sexp) (y : Sexp) : Sexp.textsL (l ++ [y]) = Sexp.textsL l ++ (if l.length = 0 then [] else [32]) ++ y.textL := by
  cases l with
  | nil => simp [Sexp.textsL, Sexp.restsL]
  | cons x r => rw [List.cons_append]; unfold Sexp.textsL; rw [rests_snoc]; simp
theorem rests_cons (x : Sexp) (r : List Sexp) : Sexp.restsL (x :: r) = 32 :: (x.textL ++ Sexp.restsL r) := by rw [Sexp.restsL]
theorem rests_append : ∀ (l m : List Sexp), Sexp.restsL (l ++ m) = Sexp.restsL l ++ Sexp.restsL m
  | [], m => by
    have e : Sexp.restsL [] = [] := by unfold Sexp.restsL; rfl
    rw [List.nil_append, e, List.nil_append]
  | x :: r, m => by rw [List.cons_append, rests_cons, rests_cons, rests_append r m]; simp
theorem texts_prefix (l m : List Sexp) : (Sexp.textsL l).length ≤ (Sexp.textsL (l ++ m)).length := by
  cases l with
  | nil => simp [Sexp.textsL]
  | cons x r => rw [List.cons_append]; unfold Sexp.textsL; rw [rests_append]; simp only [List.length_append]; omega
theorem texts_take (l : List Sexp) (k : Nat) : (Sexp.textsL (l.take k)).length ≤ (Sexp.textsL l).length := by
  have := texts_prefix (l.take k) (l.drop k)
  rw [List.take_append_drop] at this
  exact this
theorem standsL_mem : ∀ {l : List Sexp}, Sexp.standsL l = true → ∀ y ∈ l, y.stands = true
  | [], _, y, hy => by cases hy
  | x :: r, h, y, hy => by
    rw [Sexp.standsL, Bool.and_eq_true] at h
    rcases List.mem_cons.1 hy with e | e
    · subst e; exact h.1
    · exact standsL_mem h.2 y e
set_option maxHeartbeats 3200000 in
theorem wlist_any {W0 w : World} {bb o wb B c : Nat} {A : Option Addr} {x : Sexp} {l : List UInt8} (hs : ∀ y ∈ x.l, PutAt y) (hst : Sexp.standsL x.l = true) (hp : PtrE W0 bb o A c x) (hb : Below W0.heap.size W0 w) (hB : W0.heap.size ≤ B) (hw : WB B wb l w)
    (hlen : l.length + (40 :: (Sexp.textsL x.l ++ [41])).length ≤ 140737488355328) :
    Calls Tryz.prog 93 #[.pointer (some ⟨wb, 0, none⟩), .pointer (some ⟨bb, o, none⟩)] w (PutPost B wb (l ++ 40 :: (Sexp.textsL x.l ++ [41])) w) := by
  obtain ⟨_, _, e0, hl, _, _, _, hlb, _⟩ := hp.rep.open'
  simp only [List.cons.injEq, Value.slice.injEq, and_true, true_and] at e0
  obtain ⟨rfl, rfl⟩ := e0
  have hlen' : l.length + (Sexp.textsL x.l).length + 2 ≤ 140737488355328 := by simp only [List.length_cons, List.length_append, List.length_nil] at hlen; omega
  have HLen := Lib.hid hlen'
  have HX := Lib.hid hl
  have HBo := Lib.hid hB
  have HP := Lib.hid hp
  have HB0 := Lib.hid hb
  have HSm := Lib.hid hs
  have HSt := Lib.hid (standsL_mem hst)
  have HB1 := Lib.hid (show B ≤ w.heap.size by have := hw.lt; omega)
  have HW1 := Lib.hid (fun u m (h : WB B wb m u) (hm : m.length + 1 ≤ 140737488355328) ch => wbyte_any B wb m ch u h hm (by have := h.lt; omega))
  have HC := Lib.hid (fun u (hu : Below B w u) => (hu.cell (p := ⟨bb, o + 2, none⟩) (Nat.lt_of_lt_of_le hp.lt hB)).trans ((hb.cell (p := ⟨bb, o + 2, none⟩) hp.lt).trans hp.c2))
  have HWB := Lib.hid hw
  have HTx := Lib.hid (show l ++ 40 :: (Sexp.textsL x.l ++ [41]) = (l ++ [40] ++ Sexp.textsL x.l) ++ [41] by simp)
  rw [HTx.out]
  clear hs hst hp hb hB hw hlen hlen' hl HTx
  generalize hxl : x.l = xs at *
  go_enter Tryz.func93, Tryz.ntmps93
  go_wp2_with fail
  refine (HW1.out w l HWB.out (by have := HLen.out; omega) 40).mono ?_
  rintro e w1 ⟨rfl, h1, hb1⟩
  have W1 := Lib.hid h1
  have B1 := Lib.hid hb1
  have c2 := HC.out w1 hb1
  clear h1 hb1
  go_wp2_with fail
  clear c2
  go_loopw [14] (fun i' wr => ∃ k : Nat, k ≤ xs.length ∧ i' = .int .i64 k ∧ WB B wb (l ++ [40] ++ Sexp.textsL (xs.take k)) wr ∧ Below B w wr) (fun i' _ => xs.length - (intOf i').toNat)
  case atStart => exact ⟨0, Nat.zero_le _, rfl, by simpa [Sexp.textsL] using W1.out, B1.out⟩
  case round =>
    obtain ⟨k, hk, rfl, hwb, hbr⟩ := hrel
    have HWr := Lib.hid hwb
    have HBr := Lib.hid hbr
    have c2 := HC.out wr hbr
    clear hwb
    by_cases hlt : k < xs.length
    · have hlt2 : (k : Int) < (xs.length : Int) := by omega
      have hyk := List.getElem?_eq_getElem hlt
      have hym := List.getElem_mem hlt
      generalize xs[k] = y at hyk hym
      have HT1 := Lib.hid (show Sexp.textsL (xs.take (k + 1)) = Sexp.textsL (xs.take k) ++ (if k = 0 then [] else [32]) ++ y.textL by
        rw [List.take_add_one, hyk]
        show Sexp.textsL (xs.take k ++ [y]) = _
        rw [texts_snoc, List.length_take, Nat.min_eq_left hk])
      have HTl := Lib.hid (show (Sexp.textsL (xs.take k)).length + (if k = 0 then 0 else 1) + y.textL.length ≤ (Sexp.textsL xs).length by
        have h := texts_take xs (k + 1)
        rw [HT1.out] at h
        simp only [List.length_append] at h
        split at h <;> split <;> simp_all <;> omega)
      obtain ⟨bx, ox, A2, c3, rfl, hbl, e0, e1, e2, hr2⟩ := sexp_cells HX.out hyk
      have HPy := Lib.hid (show PtrE W0 bx (ox + k * 3) A2 c3 y from ⟨e0, e1, e2, hbl, hr2⟩)
      have HY := Lib.hid (HSm.out y hym)
      have HSy := Lib.hid (HSt.out y hym)
      clear hbl e0 e1 e2 hr2 hyk hym
      by_cases h0 : k = 0
      · subst h0
        have HQ := Lib.hid (fun u (hu : Below B w u) => HY.out W0 u bx (ox + 0 * 3) wb B c3 A2 (l ++ [40] ++ Sexp.textsL (xs.take 0)) HPy.out (HB0.out.trans (hu.mono HBo.out)) HBo.out)
        rw [show ox + 0 * 3 = ox by omega] at HQ
        clear hbr
        go_wp2_with fail
        refine (HQ.out wr HBr.out HWr.out HSy.out (by have := HLen.out; have := HTl.out; simp [Sexp.textsL] at this ⊢; omega)).mono ?_
        rintro e w2 ⟨rfl, h2, hb2⟩
        have HW2 := Lib.hid (show WB B wb (l ++ [40] ++ Sexp.textsL (xs.take (0 + 1))) w2 by rw [HT1.out]; simpa using h2)
        have HB2 := Lib.hid (HBr.out.trans hb2)
        clear h2 hb2 c2
        go_wp2_with fail
        go_roundw
        case rel => exact ⟨0 + 1, by omega, by go_num, HW2.out, HB2.out⟩
        case measure => simp [intOf]; omega
      · have h0' : decide ((k : Int) > 0) = true := decide_eq_true (by omega)
        have h0'' : (0 : Int) < (k : Int) := by omega
        clear hbr
        go_wp2_with fail
        refine (HW1.out wr _ HWr.out (by have := HLen.out; have := HTl.out; rw [if_neg h0] at this; simp; omega) 32).mono ?_
        rintro e w2 ⟨rfl, h2, hb2⟩
        have HW2 := Lib.hid h2
        have HB2 := Lib.hid (HBr.out.trans hb2)
        clear c2
        have c2 := HC.out w2 HB2.out
        clear h2 hb2
        have HQ := Lib.hid (HY.out W0 w2 bx (ox + k * 3) wb B c3 A2 _ HPy.out (HB0.out.trans (HB2.out.mono HBo.out)) HBo.out HW2.out HSy.out (by have := HLen.out; have := HTl.out; rw [if_neg h0] at this; simp; omega))
        go_wp2_with fail
        refine HQ.out.mono ?_
        rintro e w3 ⟨rfl, h3, hb3⟩
        have HW3 := Lib.hid (show WB B wb (l ++ [40] ++ Sexp.textsL (xs.take (k + 1))) w3 by rw [HT1.out, if_neg h0]; simpa using h3)
        have HB3 := Lib.hid (HB2.out.trans hb3)
        clear h3 hb3 c2
        go_wp2_with fail
        go_roundw
        case rel => exact ⟨k + 1, by omega, by go_num, HW3.out, HB3.out⟩
        case measure => simp [intOf]; omega
    · obtain rfl : k = xs.length := by omega
      clear hbr c2
      go_wp2_with fail
      refine (HW1.out wr _ HWr.out (by have := HLen.out; rw [List.take_length]; simp; omega) 41).mono ?_
      rintro e w2 ⟨rfl, h2, hb2⟩
      rw [List.take_length] at h2
      have HF := Lib.hid (And.intro h2 (HBr.out.trans hb2))
      clear h2 hb2
      go_wp2_with fail
      go_end0
      exact ⟨rfl, HF.out⟩
set_option maxRecDepth 100000 in
set_option maxHeartbeats 3200000 in
theorem put_all : ∀ (n : Nat) (x : Sexp), SizeOf.sizeOf x < n → PutAt x := by
  intro n
  induction n with
  | zero => intro x hx; omega
  | succ n ih =>
    intro x hy W0 w bb o wb B c A l hp hb hB hw hst hlen
    have HM := fun y (hm : y ∈ x.l) => ih y (by have := Sexp.mem_lt hm; omega)
    have hk : x.kind = 0 ∨ x.kind = 1 ∨ x.kind = 2 ∨ x.kind = 3 := by
      rw [Sexp.stands_eq] at hst
      split at hst
      · left; assumption
      split at hst
      · right; left; assumption
      split at hst
      · right; right; left; assumption
      split at hst
      · right; right; right; assumption
      · cases hst
    have HT := Sexp.textL_eq x
    have HBo := Lib.hid hB
    have p0 := (hb.cell (p := ⟨bb, o, none⟩) hp.lt).trans hp.c0
    have hbl := Nat.lt_of_lt_of_le hp.lt hb.size
    have hBw : B ≤ w.heap.size := by have := hw.lt; omega
    have hbs := hb.size
    have fin : ∀ v, (∀ u, Below B w u → Below W0.heap.size W0 u → WB B wb l u → Calls Tryz.prog v #[.pointer (some ⟨wb, 0, none⟩), .pointer (some ⟨bb, o, none⟩)] u (PutPost B wb (l ++ x.textL) u)) → ∀ u, Below w.heap.size w u → Calls Tryz.prog v #[.pointer (some ⟨wb, 0, none⟩), .pointer (some ⟨bb, o, none⟩)] u (PutPost B wb (l ++ x.textL) w) := fun v h u hu => by
      refine (h u (hu.mono hBw) (hb.trans (hu.mono hbs)) (hw.below hu)).mono ?_
      rintro e w2 ⟨rfl, h1, h2⟩
      exact ⟨rfl, h1, (hu.mono hBw).trans h2⟩
    have HN := Lib.hid (show (w.alloc (.cells #[.func (.func 90) #[] #[], .func (.func 91) #[] #[], .func (.func 92) #[] #[], .func (.func 93) #[] #[]] 107)).heap[w.heap.size]? = some (.cells #[.func (.func 90) #[] #[], .func (.func 91) #[] #[], .func (.func 92) #[] #[], .func (.func 93) #[] #[]] 107 (0, 0)) from Array.getElem?_push_size)
    have HNb := Lib.hid ((Below.refl w.heap.size w).alloc (Nat.le_refl _) (.cells #[.func (.func 90) #[] #[], .func (.func 91) #[] #[], .func (.func 92) #[] #[], .func (.func 93) #[] #[]] 107))
    have p0' := fun u (hu : Below w.heap.size w u) => (hu.cell (p := ⟨bb, o, none⟩) hbl).trans p0
    rcases hk with hk | hk | hk | hk
    · have HT' : x.textL = Lx.quoteL (Lx.bs x.text) := by rw [HT, hk, if_pos (by decide)]
      have HF := Lib.hid (fin 90 (fun u _ hu hwu => by rw [HT']; exact wsym_any hp hu hB hwu (by rw [HT'] at hlen; exact hlen)))
      rw [hk] at p0'
      have HP0 := Lib.hid p0'
      clear fin hp hb hB hw hst hlen HM HT HT' hk ih hy p0 p0' hbl hBw hbs
      go_enter Tryz.func72, Tryz.ntmps72
      go_upto_region 1 with fail
      have HF1 := Lib.hid HN.out
      have HF2 := Lib.hid HNb.out
      generalize w.alloc (.cells #[.func (.func 90) #[] #[], .func (.func 91) #[] #[], .func (.func 92) #[] #[], .func (.func 93) #[] #[]] 107) = w1 at *
      obtain ⟨q0, q1, q2, q3, qf⟩ := four_cells HF1.out
      have p0 := HP0.out w1 HF2.out
      go_wp2_with fail
      refine (HF.out _ HF2.out).mono ?_
      rintro e w3 ⟨rfl, h1, hb1⟩
      have HE := Lib.hid (And.intro h1 hb1)
      clear h1 hb1
      go_wp2_with fail
      go_end0
      exact ⟨rfl, HE.out⟩
    · have HT' : x.textL = Lx.bs x.text := by rw [HT, hk, if_neg (by decide), if_neg (by decide), if_neg (by decide)]
      have HF := Lib.hid (fin 91 (fun u _ hu hwu => by rw [HT']; exact wnum_any hp hu hB hwu (by rw [HT'] at hlen; exact hlen)))
      rw [hk] at p0'
      have HP0 := Lib.hid p0'
      clear fin hp hb hB hw hst hlen HM HT HT' hk ih hy p0 p0' hbl hBw hbs
      go_enter Tryz.func72, Tryz.ntmps72
      go_upto_region 1 with fail
      have HF1 := Lib.hid HN.out
      have HF2 := Lib.hid HNb.out
      generalize w.alloc (.cells #[.func (.func 90) #[] #[], .func (.func 91) #[] #[], .func (.func 92) #[] #[], .func (.func 93) #[] #[]] 107) = w1 at *
      obtain ⟨q0, q1, q2, q3, qf⟩ := four_cells HF1.out
      have p0 := HP0.out w1 HF2.out
      go_wp2_with fail
      refine (HF.out _ HF2.out).mono ?_
      rintro e w3 ⟨rfl, h1, hb1⟩
      have HE := Lib.hid (And.intro h1 hb1)
      clear h1 hb1
      go_wp2_with fail
      go_end0
      exact ⟨rfl, HE.out⟩
    · have HT' : x.textL = 58 :: Lx.bs x.text := by rw [HT, hk, if_neg (by decide), if_pos (by decide)]
      have HF := Lib.hid (fin 92 (fun u _ hu hwu => by rw [HT']; exact wkey_any hp hu hB hwu (by rw [HT'] at hlen; exact hlen)))
      rw [hk] at p0'
      have HP0 := Lib.hid p0'
      clear fin hp hb hB hw hst hlen HM HT HT' hk ih hy p0 p0' hbl hBw hbs
      go_enter Tryz.func72, Tryz.ntmps72
      go_upto_region 1 with fail
      have HF1 := Lib.hid HN.out
      have HF2 := Lib.hid HNb.out
      generalize w.alloc (.cells #[.func (.func 90) #[] #[], .func (.func 91) #[] #[], .func (.func 92) #[] #[], .func (.func 93) #[] #[]] 107) = w1 at *
      obtain ⟨q0, q1, q2, q3, qf⟩ := four_cells HF1.out
      have p0 := HP0.out w1 HF2.out
      go_wp2_with fail
      refine (HF.out _ HF2.out).mono ?_
      rintro e w3 ⟨rfl, h1, hb1⟩
      have HE := Lib.hid (And.intro h1 hb1)
      clear h1 hb1
      go_wp2_with fail
      go_end0
      exact ⟨rfl, HE.out⟩
    · have HT' : x.textL = 40 :: (Sexp.textsL x.l ++ [41]) := by rw [HT, hk, if_neg (by decide), if_neg (by decide), if_pos (by decide)]
      have hst' : Sexp.standsL x.l = true := by rw [Sexp.stands_eq, hk, if_neg (by decide), if_neg (by decide), if_neg (by decide), if_pos (by decide), Bool.and_eq_true] at hst; exact hst.2
      have HF := Lib.hid (fin 93 (fun u _ hu hwu => by rw [HT']; exact wlist_any HM hst' hp hu hB hwu (by rw [HT'] at hlen; exact hlen)))
      rw [hk] at p0'
      have HP0 := Lib.hid p0'
      clear fin hp hb hB hw hst hlen HM HT HT' hk ih hy p0 p0' hbl hBw hbs hst'
      go_enter Tryz.func72, Tryz.ntmps72
      go_upto_region 1 with fail
      have HF1 := Lib.hid HN.out
      have HF2 := Lib.hid HNb.out
      generalize w.alloc (.cells #[.func (.func 90) #[] #[], .func (.func 91) #[] #[], .func (.func 92) #[] #[], .func (.func 93) #[] #[]] 107) = w1 at *
      obtain ⟨q0, q1, q2, q3, qf⟩ := four_cells HF1.out
      have p0 := HP0.out w1 HF2.out
      go_wp2_with fail
      refine (HF.out _ HF2.out).mono ?_
      rintro e w3 ⟨rfl, h1, hb1⟩
      have HE := Lib.hid (And.intro h1 hb1)
      clear h1 hb1
      go_wp2_with fail
      go_end0
      exact ⟨rfl, HE.out⟩
end Go.Proofs.YtbchcipjpcdhfaaGreatDoor.Dt
/- An expression's text: the program's answer. -/
namespace Go.Proofs.YtbchcipjpcdhfaaGreatDoor.Dt
open Go.RowKit

def Sexp.textE (x : Sexp) : Int := if x.may then (if 8192 < x.textL.length then 41 else 0) else 2
def Sexp.textB (x : Sexp) : ByteArray := if x.textE = 0 then ⟨x.textL.toArray⟩ else { data := #[] }
theorem text_ne {x : Sexp} (h : x.stands = true) : x.textL ≠ [] := by
  obtain ⟨c, r, e, _⟩ := head_text h
  rw [e]; simp
set_option maxHeartbeats 3200000 in
theorem stext_any {w : World} {A : Option Addr} {c : Nat} {x : Sexp} (h : SexpR w [.int .i8 x.kind, .string x.text, .slice A x.l.length c] x) (hlen : x.may = true → x.textL.length ≤ 140737488355328) :
    Calls Tryz.prog 41 #[.agg #[.int .i8 x.kind, .string x.text, .slice A x.l.length c]] w fun e w' => e = .returned (.tuple #[.string x.textB, .int .i64 x.textE]) ∧ Below w.heap.size w w' := by
  have HB := Lib.hid ((Below.refl w.heap.size w).alloc (Nat.le_refl _) (.cells #[.int .i8 x.kind, .string x.text, .slice A x.l.length c] 25))
  have HPt := Lib.hid (show PtrE (w.alloc (.cells #[.int .i8 x.kind, .string x.text, .slice A x.l.length c] 25)) w.heap.size 0 A c x from by
    obtain ⟨q0, q1, q2, z⟩ := box_cells w (.int .i8 x.kind) (.string x.text) (.slice A x.l.length c) 25
    exact ⟨q0, q1, q2, by omega, SexpR.lasts _ _ _ _ HB.out h⟩)
  have HM := Lib.hid (sxmay_any (SexpR.lasts _ _ _ _ HB.out h))
  have HE := Lib.hid (show x.textE = if x.may then (if 8192 < x.textL.length then 41 else 0) else 2 from rfl)
  have HT := Lib.hid (show x.textB = if x.textE = 0 then ⟨x.textL.toArray⟩ else { data := #[] } from rfl)
  have HMs := Lib.hid (show x.may = true → x.stands = true from fun e => by unfold Sexp.may at e; rw [Bool.and_eq_true] at e; exact e.2)
  have HLen := Lib.hid hlen
  have HPut := Lib.hid (put_all _ x (Nat.lt_succ_self _))
  clear h hlen
  go_enter Tryz.func41, Tryz.ntmps41
  go_upto_region 1 with fail
  generalize w.alloc (.cells #[.int .i8 x.kind, .string x.text, .slice A x.l.length c] 25) = w1 at *
  have q0 := HPt.out.c0
  have q1 := HPt.out.c1
  have q2 := HPt.out.c2
  rw [Nat.zero_add] at q1 q2
  go_wp2_with fail
  refine HM.out.mono ?_
  rintro e w2 ⟨rfl, hb2⟩
  have B2 := Lib.hid (HB.out.trans (hb2.mono HB.out.size))
  have P2 := Lib.hid (HPt.out.on hb2)
  clear hb2 q0 q1 q2
  cases hm : x.may with
  | false =>
    have HR := Lib.hid (show x.textE = 2 by rw [HE.out, hm]; rfl)
    have HR2 := Lib.hid (show x.textB = { data := #[] } by rw [HT.out, HR.out]; rfl)
    go_wp2_with fail
    go_ret2
    exact ⟨pair_str_int ⟨HR2.out.symm, HR.out.symm⟩, B2.out⟩
  | true =>
    have HSt := Lib.hid (HMs.out hm)
    have HL := Lib.hid (HLen.out hm)
    have HR := Lib.hid (show x.textE = if 8192 < x.textL.length then 41 else 0 by rw [HE.out, hm]; rfl)
    have HBld := Lib.hid (show WB w2.heap.size w2.heap.size [] (w2.alloc (.cells #[.pointer none, .slice none 0 0] 89)) from Lib.fresh_isBuilder _ _ _)
    have HBb := Lib.hid ((Below.refl w2.heap.size w2).alloc (Nat.le_refl _) (.cells #[.pointer none, .slice none 0 0] 89))
    have HQ := Lib.hid (HPut.out w2 _ w.heap.size 0 w2.heap.size w2.heap.size c A [] P2.out HBb.out (Nat.le_refl _) HBld.out HSt.out (by simpa using HL.out))
    rw [List.nil_append] at HQ
    clear hm HPut HLen HMs HE
    go_wp2_with fail
    refine HQ.out.mono ?_
    rintro e w3 ⟨rfl, h3, hb3⟩
    have W3 := Lib.hid h3
    have B3 := Lib.hid (B2.out.trans ((HBb.out.trans hb3).mono B2.out.size))
    have HLn := Lib.hid (blen_any _ _ _ _ h3)
    have HSg := Lib.hid (bstring_any _ _ _ _ h3 (text_ne HSt.out))
    clear h3 hb3
    go_wp2_with fail
    refine HLn.out.mono ?_
    rintro e w3' ⟨rfl, rfl⟩
    by_cases h8 : 8192 < x.textL.length
    · have h8' : decide ((8192 : Int) < (x.textL.length : Int)) = true := decide_eq_true (by omega)
      have h8'' : ((x.textL.length : Int) > 8192) := by omega
      have HR1 := Lib.hid (show x.textE = 41 by rw [HR.out, if_pos h8])
      have HR2 := Lib.hid (show x.textB = { data := #[] } by rw [HT.out, HR1.out]; rfl)
      go_wp2_with fail
      go_ret2
      exact ⟨pair_str_int ⟨HR2.out.symm, HR1.out.symm⟩, B3.out⟩
    · have h8' : decide ((8192 : Int) < (x.textL.length : Int)) = false := decide_eq_false (by omega)
      have h8'' : decide ((x.textL.length : Int) > 8192) = false := decide_eq_false (by omega)
      have HR1 := Lib.hid (show x.textE = 0 by rw [HR.out, if_neg h8])
      have HR2 := Lib.hid (show x.textB = ⟨x.textL.toArray⟩ by rw [HT.out, HR1.out]; rfl)
      go_wp2_with fail
      refine HSg.out.mono ?_
      rintro e w4 ⟨rfl, hb4⟩
      have B4 := Lib.hid (B3.out.trans (hb4.mono B2.out.size))
      clear hb4
      go_wp2_with fail
      go_ret2
      exact ⟨pair_str_int ⟨HR2.out.symm, HR1.out.symm⟩, B4.out⟩
end Go.Proofs.YtbchcipjpcdhfaaGreatDoor.Dt
/- A command's text: the program's answer. -/
namespace Go.Proofs.YtbchcipjpcdhfaaGreatDoor.Cm
open Go.RowKit Go.Proofs.YtbchcipjpcdhfaaGreatDoor.Dt

noncomputable def ctextE (c : Cmd) : Int := if mayCB c then (writeX c).textE else 2
noncomputable def ctextB (c : Cmd) : ByteArray := if mayCB c then (writeX c).textB else { data := #[] }
set_option maxHeartbeats 3200000 in
theorem ctext_any {w : World} {A1 A2 A3 A4 : Option Addr} {c1 c2 c3 c4 : Nat} {c : Cmd} (h : CmdAt w A1 c1 A2 c2 A3 c3 A4 c4 c) (hs : CmdSmall c) (ht : TabOk w) (hlen : mayCB c = true → (writeX c).textL.length ≤ 140737488355328) :
    Calls Tryz.prog 14 #[agC A1 c1 A2 c2 A3 c3 A4 c4 c] w fun e w' => e = .returned (.tuple #[.string (ctextB c), .int .i64 (ctextE c)]) ∧ Below w.heap.size w w' := by
  have BX := Lib.hid ((Below.refl w.heap.size w).alloc (Nat.le_refl _) (.cells #[.int .i8 c.kind, .string c.name, .int .i64 c.n, .slice A1 c.l.length c1, .slice A2 c.args.length c2, .slice A3 c.params.length c3, .string c.res, .slice A4 c.terms.length c4] 32))
  have NB := Lib.hid (blk_new w (.cells #[.int .i8 c.kind, .string c.name, .int .i64 c.n, .slice A1 c.l.length c1, .slice A2 c.args.length c2, .slice A3 c.params.length c3, .string c.res, .slice A4 c.terms.length c4] 32))
  have HS := Lib.hid (csexp_any h BX.out hs (ht.on BX.out))
  have HE := Lib.hid (show ctextE c = if mayCB c then (writeX c).textE else 2 from rfl)
  have HT := Lib.hid (show ctextB c = if mayCB c then (writeX c).textB else { data := #[] } from rfl)
  have HL := Lib.hid hlen
  clear h hs ht hlen
  unfold agC at *
  go_enter Tryz.func14, Tryz.ntmps14
  go_upto_region 1 with fail
  generalize w.alloc (.cells #[.int .i8 c.kind, .string c.name, .int .i64 c.n, .slice A1 c.l.length c1, .slice A2 c.args.length c2, .slice A3 c.params.length c3, .string c.res, .slice A4 c.terms.length c4] 32) = w1 at *
  obtain ⟨n0, n1, n2, n3, n4, n5, n6, n7, nf⟩ := eight_cells NB.out
  go_wp2_with fail
  refine HS.out.mono ?_
  rintro e w2 ⟨x, A', c', ⟨rfl, hx⟩, hr, hb2⟩
  have B2 := Lib.hid (BX.out.trans (hb2.mono BX.out.size))
  have HR := Lib.hid (hr _ (Keeps.refl _ _))
  have HX := Lib.hid hx
  clear hb2 hr hx n0 n1 n2 n3 n4 n5 n6 n7 nf
  have B3 := Lib.hid (B2.out.alloc B2.out.size (.cells #[.int .i8 x.kind, .string x.text, .slice A' x.l.length c'] 25))
  have Bx := Lib.hid ((Below.refl w2.heap.size w2).alloc (Nat.le_refl _) (.cells #[.int .i8 x.kind, .string x.text, .slice A' x.l.length c'] 25))
  cases hm : mayCB c with
  | false =>
    have HR1 := Lib.hid (show ctextE c = 2 by rw [HE.out, hm]; rfl)
    have HR2 := Lib.hid (show ctextB c = { data := #[] } by rw [HT.out, hm]; rfl)
    clear hm
    go_wp2_with fail
    go_ret2
    exact ⟨pair_str_int ⟨HR2.out.symm, HR1.out.symm⟩, B3.out⟩
  | true =>
    have hx' : x = writeX c := by have := HX.out; rw [hm] at this; exact this
    have HR1 := Lib.hid (show ctextE c = x.textE by rw [HE.out, hm, hx']; rfl)
    have HR2 := Lib.hid (show ctextB c = x.textB by rw [HT.out, hm, hx']; rfl)
    have HTx := Lib.hid (stext_any (SexpR.lasts _ _ _ _ Bx.out HR.out) (fun _ => by rw [hx']; exact HL.out hm))
    obtain ⟨q0, q1, q2, _⟩ := box_cells w2 (.int .i8 x.kind) (.string x.text) (.slice A' x.l.length c') 25
    clear hm hx'
    go_wp2_with fail
    refine HTx.out.mono ?_
    rintro e w4 ⟨rfl, hb4⟩
    have B4 := Lib.hid (B3.out.trans (hb4.mono B3.out.size))
    clear hb4
    go_wp2_with fail
    go_ret2
    exact ⟨pair_str_int ⟨HR2.out.symm, HR1.out.symm⟩, B4.out⟩
end Go.Proofs.YtbchcipjpcdhfaaGreatDoor.Cm
/- Plain facts of three commands. No program in sight. -/
namespace Go.Proofs.YtbchcipjpcdhfaaGreatDoor.Cm
open Go.RowKit Go.Proofs.YtbchcipjpcdhfaaGreatDoor.Dt

def one1 : Sexp := .mk 1 { data := #[49] } []
def cPush : Cmd := { noCmd with kind := 6, n := 1 }
def cChk : Cmd := { noCmd with kind := 8 }
theorem may_push : (listX [symX sPush, one1]).may = true := by kernel_rfl
theorem may_push0 : (listX [symX sPush]).may = true := by kernel_rfl
theorem may_chk : (listX [symX sCheck]).may = true := by kernel_rfl
theorem cmd_push : cmdO (listX [symX sPush, one1]) = some cPush := by
  unfold cmdO
  rw [may_push, if_pos rfl]
  kernel_rfl
theorem cmd_push0 : cmdO (listX [symX sPush]) = none := by
  unfold cmdO
  rw [may_push0, if_pos rfl]
  kernel_rfl
theorem cmd_chk : cmdO (writeX cChk) = some cChk := by
  show cmdO (listX [symX sCheck]) = some cChk
  unfold cmdO
  rw [may_chk, if_pos rfl]
  kernel_rfl
theorem mayc_chk : mayCB cChk = true := by unfold mayCB; rw [cmd_chk]; exact eqB_self _
theorem textL_chk : (writeX cChk).textL = [40, 99, 104, 101, 99, 107, 45, 115, 97, 116, 41] := by kernel_rfl
theorem texte_chk : ctextE cChk = 0 := by
  unfold ctextE
  rw [mayc_chk, if_pos rfl]
  unfold Sexp.textE
  rw [show (writeX cChk).may = true from may_chk, if_pos rfl, textL_chk]
  rfl
theorem textb_chk : ctextB cChk = { data := #[40, 99, 104, 101, 99, 107, 45, 115, 97, 116, 41] } := by
  unfold ctextB
  rw [mayc_chk, if_pos rfl]
  unfold Sexp.textB
  have h : (writeX cChk).textE = 0 := by
    have := texte_chk
    unfold ctextE at this
    rw [mayc_chk, if_pos rfl] at this
    exact this
  rw [h, if_pos rfl, textL_chk]
end Go.Proofs.YtbchcipjpcdhfaaGreatDoor.Cm
