import Derived.Test.YtbchcipjpcdhfaaGreatDoorMd
import Derived.ChangeKeysEq
import Derived.Test.YtbchcipjpcdhfaaGreatDoorMb
import Derived.Test.YtbchcipjpcdhfaaGreatDoorMa
import Derived.Deep.Cut
import Derived.Test.YtbchcipjpcdhfaaGreatDoorMc
/- merged by wip/merge.py from: CmdSeq2 CmdPar SexpDepth CmdParts CmdParts2 -/
/- Rows of pairs: are they the same? -/
namespace Go.Proofs.YtbchcipjpcdhfaaGreatDoor.Cm
open Go.RowKit Go.Proofs.YtbchcipjpcdhfaaGreatDoor.Dt
theorem cS' : Tryz.prog.cellsOf 9 = 1 := by kernel_rfl
set_option maxRecDepth 100000 in
theorem pair_ne (a b : ByteArray × ByteArray) (W : World) : (binOp .neq 56 (.agg #[.string a.1, .string a.2]) (.agg #[.string b.1, .string b.2])).run Tryz.prog W = .ok (.bool (!eqB a b)) W := by
  have h : eqB a b = (eqB a.1 b.1 && eqB a.2 b.2) := by
    rw [Bool.eq_iff_iff, eqB_true, Bool.and_eq_true, eqB_true, eqB_true]
    obtain ⟨a0, a1⟩ := a
    obtain ⟨b0, b1⟩ := b
    simp
  have hs : (Tryz.prog.info? 9).isSome = true := by kernel_rfl
  obtain ⟨i, hi⟩ := Option.isSome_iff_exists.1 hs
  have ha : ∀ d, (Op.equalIn (d + 2) 56 (.agg #[.string a.1, .string a.2]) (.agg #[.string b.1, .string b.2])).run Tryz.prog W = .ok (eqB a b) W := fun d => by
    rw [run_equalIn_array W (d + 1) _ _ Tryz.underlying56 hi, cS', h]
    have r2 : List.range 2 = [0, 1] := rfl
    rw [r2]
    simp only [Op.eqItems]
    by_cases h0 : a.1 = b.1
    · by_cases h1 : a.2 = b.2
      · rw [eqB_true.2 h0, eqB_true.2 h1]
        have t0 : (a.1.toList == b.1.toList) = true := by simp [h0]
        have t1 : (a.2.toList == b.2.toList) = true := by simp [h1]
        go_simp
      · rw [eqB_true.2 h0, eqB_false.2 h1]
        have t0 : (a.1.toList == b.1.toList) = true := by simp [h0]
        have t1 : (a.2.toList == b.2.toList) = false := bytes_ne h1
        go_simp
    · rw [eqB_false.2 h0]
      have t0 : (a.1.toList == b.1.toList) = false := bytes_ne h0
      go_simp
  have hb : (Op.equalIn 10000 56 (.agg #[.string a.1, .string a.2]) (.agg #[.string b.1, .string b.2])).run Tryz.prog W = .ok (eqB a b) W := ha 9998
  clear ha h
  generalize eqB a b = bb at *
  go_simp
set_option maxHeartbeats 1600000 in
theorem eqPairs_any (xs ys : List (ByteArray × ByteArray)) (w : World) (A B : Option Addr) (c d : Nat) (hx : Lies 2 PairR w A xs) (hy : Lies 2 PairR w B ys) (hl : (xs.length : Int) ≤ 9223372036854775807) (_ : (ys.length : Int) ≤ 9223372036854775807) :
    Calls Tryz.prog 45 #[.slice A xs.length c, .slice B ys.length d] w fun e w' => e = .returned (.bool (eqB xs ys)) ∧ Below w.heap.size w w' := by
  by_cases hq : xs.length = ys.length
  · have hq2 : ((xs.length : Int) != (ys.length : Int)) = false := by simp; omega
    have HE := Lib.hid (eqB_full hq)
    have hle : ys.length ≤ xs.length := by omega
    have hle' : xs.length ≤ ys.length := by omega
    clear hq
    go_enter Tryz.func45, Tryz.ntmps45
    go_wp2_with fail
    go_loopw [13] (fun v wr => ∃ k : Nat, k ≤ xs.length ∧ v = .int .i64 k ∧ xs.take k = ys.take k ∧ Below w.heap.size w wr) (fun v _ => xs.length - (intOf v).toNat)
    case atStart => exact ⟨0, Nat.zero_le _, rfl, by simp, Below.refl _ _⟩
    case round =>
      obtain ⟨k, hk, rfl, ht, hb⟩ := hrel
      have HT := Lib.hid ht
      have HB := Lib.hid hb
      clear ht
      by_cases hlt : k < xs.length
      · have hlt2 : (k : Int) < (xs.length : Int) := by omega
        have hltm : (k : Int) < (ys.length : Int) := by omega
        obtain ⟨b, o, rfl, p0, p1⟩ := pair_get (hx.on PairR.lasts (hb.drew)) hlt
        obtain ⟨b', o', rfl, r0, r1⟩ := pair_get (hy.on PairR.lasts (hb.drew)) (show k < ys.length by omega)
        have HS := Lib.hid (eqB_step (xs := xs) (ys := ys) (d := (noS, noS)) hlt (by omega))
        generalize xs.getD k (noS, noS) = x at *
        generalize ys.getD k (noS, noS) = y at *
        clear hb
        by_cases he : x = y
        · have he2 := fun W => pair_ne x y W
          rw [eqB_true.2 he] at he2
          have HN := Lib.hid ((HS.out.1 he) HT.out)
          clear he HS
          go_wp2_with fail
          refine wp_region_held_drew (S := fun W => (W.cell? ⟨b, o + k * 2, none⟩ = some (.string x.1) ∧ W.cell? ⟨b, o + k * 2 + 1, none⟩ = some (.string x.2)) ∧ W.cell? ⟨b', o' + k * 2, none⟩ = some (.string y.1) ∧ W.cell? ⟨b', o' + k * 2 + 1, none⟩ = some (.string y.2)) (by kernel_rfl) (⟨⟨p0, p1⟩, r0, r1⟩) (fun hHeld => ?_)
          refine wpAnyH_take (i := 0) (oi := Oper.mk _ _ _ _ _ _) (v := ?_) rfl (by kernel_rfl) (by kernel_rfl) (by kernel_rfl) (fun _ _ _ h => h) (Or.inl ⟨by rfl, ?_⟩) (by assumption) ?_
          rotate_left
          · (intro w hSw; (try dsimp only at hSw); go_simp; try with_reducible rfl)
          try simp only [Act.put, List.setIfInBounds_toArray, List.set_cons_zero, List.set_cons_succ]
          refine wpAnyH_take (i := 1) (oi := Oper.mk _ _ _ _ _ _) (v := ?_) rfl (by kernel_rfl) (by kernel_rfl) (by kernel_rfl) (fun _ _ _ h => h) (Or.inl ⟨by rfl, ?_⟩) (by assumption) ?_
          rotate_left
          · (intro w hSw; (try dsimp only at hSw); go_simp; try with_reducible rfl)
          try simp only [Act.put, List.setIfInBounds_toArray, List.set_cons_zero, List.set_cons_succ]
          refine wpAnyH_take (i := 2) (oi := Oper.mk _ _ _ _ _ _) (v := ?_) rfl (by kernel_rfl) (by kernel_rfl) (by kernel_rfl) (fun _ _ _ h => h) (Or.inl ⟨by rfl, ?_⟩) (by assumption) ?_
          rotate_left
          · (intro w hSw; (try dsimp only at hSw); go_simp; try with_reducible rfl)
          try simp only [Act.put, List.setIfInBounds_toArray, List.set_cons_zero, List.set_cons_succ]
          refine wpAnyH_take (i := 3) (oi := Oper.mk _ _ _ _ _ _) (v := ?_) rfl (by kernel_rfl) (by kernel_rfl) (by kernel_rfl) (fun _ _ _ h => h) (Or.inl ⟨by rfl, ?_⟩) (by assumption) ?_
          rotate_left
          · (intro w hSw; (try dsimp only at hSw); go_simp; try with_reducible rfl)
          try simp only [Act.put, List.setIfInBounds_toArray, List.set_cons_zero, List.set_cons_succ]
          refine wpAnyH_take (i := 4) (oi := Oper.mk _ _ _ _ _ _) (v := ?_) rfl (by kernel_rfl) (by kernel_rfl) (by kernel_rfl) (fun _ _ _ h => h) (Or.inl ⟨by rfl, ?_⟩) (by assumption) ?_
          rotate_left
          · (intro w hSw; (try dsimp only at hSw); go_simp; try with_reducible rfl)
          try simp only [Act.put, List.setIfInBounds_toArray, List.set_cons_zero, List.set_cons_succ]
          refine wpAnyH_take (i := 5) (oi := Oper.mk _ _ _ _ _ _) (v := ?_) rfl (by kernel_rfl) (by kernel_rfl) (by kernel_rfl) (fun _ _ _ h => h) (Or.inl ⟨by rfl, ?_⟩) (by assumption) ?_
          rotate_left
          · (intro w hSw; (try dsimp only at hSw); go_simp; try with_reducible rfl)
          try simp only [Act.put, List.setIfInBounds_toArray, List.set_cons_zero, List.set_cons_succ]
          refine wpAnyH_take (i := 6) (oi := Oper.mk _ _ _ _ _ _) (v := ?_) rfl (by kernel_rfl) (by kernel_rfl) (by kernel_rfl) (fun _ _ _ h => h) (Or.inl ⟨by rfl, ?_⟩) (by assumption) ?_
          rotate_left
          · (intro w hSw; (try dsimp only at hSw); go_simp; try with_reducible rfl)
          try simp only [Act.put, List.setIfInBounds_toArray, List.set_cons_zero, List.set_cons_succ]
          refine wpAnyH_take (i := 7) (oi := Oper.mk _ _ _ _ _ _) (v := ?_) rfl (by kernel_rfl) (by kernel_rfl) (by kernel_rfl) (fun _ _ _ h => h) (Or.inl ⟨by rfl, ?_⟩) (by assumption) ?_
          rotate_left
          · (intro w hSw; (try dsimp only at hSw); go_simp; try with_reducible rfl)
          try simp only [Act.put, List.setIfInBounds_toArray, List.set_cons_zero, List.set_cons_succ]
          refine wpAnyH_take (i := 8) (oi := Oper.mk _ _ _ _ _ _) (v := ?_) rfl (by kernel_rfl) (by kernel_rfl) (by kernel_rfl) (fun _ _ _ h => h) (Or.inl ⟨by rfl, ?_⟩) (by assumption) ?_
          rotate_left
          · (intro w hSw; (try dsimp only at hSw); go_simp; try with_reducible rfl)
          try simp only [Act.put, List.setIfInBounds_toArray, List.set_cons_zero, List.set_cons_succ]
          refine wpAnyH_done (by kernel_rfl) ?_ _
          go_wp2_with fail
          go_roundw
          case rel => exact ⟨k + 1, by omega, by go_num, HN.out, HB.out.drew⟩
          case measure => simp [intOf]; omega
        · have he2 := fun W => pair_ne x y W
          rw [eqB_false.2 he] at he2
          have HN := Lib.hid (HS.out.2 he)
          clear he HS
          go_wp2_with fail
          refine wp_region_held_drew (S := fun W => (W.cell? ⟨b, o + k * 2, none⟩ = some (.string x.1) ∧ W.cell? ⟨b, o + k * 2 + 1, none⟩ = some (.string x.2)) ∧ W.cell? ⟨b', o' + k * 2, none⟩ = some (.string y.1) ∧ W.cell? ⟨b', o' + k * 2 + 1, none⟩ = some (.string y.2)) (by kernel_rfl) (⟨⟨p0, p1⟩, r0, r1⟩) (fun hHeld => ?_)
          refine wpAnyH_take (i := 0) (oi := Oper.mk _ _ _ _ _ _) (v := ?_) rfl (by kernel_rfl) (by kernel_rfl) (by kernel_rfl) (fun _ _ _ h => h) (Or.inl ⟨by rfl, ?_⟩) (by assumption) ?_
          rotate_left
          · (intro w hSw; (try dsimp only at hSw); go_simp; try with_reducible rfl)
          try simp only [Act.put, List.setIfInBounds_toArray, List.set_cons_zero, List.set_cons_succ]
          refine wpAnyH_take (i := 1) (oi := Oper.mk _ _ _ _ _ _) (v := ?_) rfl (by kernel_rfl) (by kernel_rfl) (by kernel_rfl) (fun _ _ _ h => h) (Or.inl ⟨by rfl, ?_⟩) (by assumption) ?_
          rotate_left
          · (intro w hSw; (try dsimp only at hSw); go_simp; try with_reducible rfl)
          try simp only [Act.put, List.setIfInBounds_toArray, List.set_cons_zero, List.set_cons_succ]
          refine wpAnyH_take (i := 2) (oi := Oper.mk _ _ _ _ _ _) (v := ?_) rfl (by kernel_rfl) (by kernel_rfl) (by kernel_rfl) (fun _ _ _ h => h) (Or.inl ⟨by rfl, ?_⟩) (by assumption) ?_
          rotate_left
          · (intro w hSw; (try dsimp only at hSw); go_simp; try with_reducible rfl)
          try simp only [Act.put, List.setIfInBounds_toArray, List.set_cons_zero, List.set_cons_succ]
          refine wpAnyH_take (i := 3) (oi := Oper.mk _ _ _ _ _ _) (v := ?_) rfl (by kernel_rfl) (by kernel_rfl) (by kernel_rfl) (fun _ _ _ h => h) (Or.inl ⟨by rfl, ?_⟩) (by assumption) ?_
          rotate_left
          · (intro w hSw; (try dsimp only at hSw); go_simp; try with_reducible rfl)
          try simp only [Act.put, List.setIfInBounds_toArray, List.set_cons_zero, List.set_cons_succ]
          refine wpAnyH_take (i := 4) (oi := Oper.mk _ _ _ _ _ _) (v := ?_) rfl (by kernel_rfl) (by kernel_rfl) (by kernel_rfl) (fun _ _ _ h => h) (Or.inl ⟨by rfl, ?_⟩) (by assumption) ?_
          rotate_left
          · (intro w hSw; (try dsimp only at hSw); go_simp; try with_reducible rfl)
          try simp only [Act.put, List.setIfInBounds_toArray, List.set_cons_zero, List.set_cons_succ]
          refine wpAnyH_take (i := 5) (oi := Oper.mk _ _ _ _ _ _) (v := ?_) rfl (by kernel_rfl) (by kernel_rfl) (by kernel_rfl) (fun _ _ _ h => h) (Or.inl ⟨by rfl, ?_⟩) (by assumption) ?_
          rotate_left
          · (intro w hSw; (try dsimp only at hSw); go_simp; try with_reducible rfl)
          try simp only [Act.put, List.setIfInBounds_toArray, List.set_cons_zero, List.set_cons_succ]
          refine wpAnyH_take (i := 6) (oi := Oper.mk _ _ _ _ _ _) (v := ?_) rfl (by kernel_rfl) (by kernel_rfl) (by kernel_rfl) (fun _ _ _ h => h) (Or.inl ⟨by rfl, ?_⟩) (by assumption) ?_
          rotate_left
          · (intro w hSw; (try dsimp only at hSw); go_simp; try with_reducible rfl)
          try simp only [Act.put, List.setIfInBounds_toArray, List.set_cons_zero, List.set_cons_succ]
          refine wpAnyH_take (i := 7) (oi := Oper.mk _ _ _ _ _ _) (v := ?_) rfl (by kernel_rfl) (by kernel_rfl) (by kernel_rfl) (fun _ _ _ h => h) (Or.inl ⟨by rfl, ?_⟩) (by assumption) ?_
          rotate_left
          · (intro w hSw; (try dsimp only at hSw); go_simp; try with_reducible rfl)
          try simp only [Act.put, List.setIfInBounds_toArray, List.set_cons_zero, List.set_cons_succ]
          refine wpAnyH_take (i := 8) (oi := Oper.mk _ _ _ _ _ _) (v := ?_) rfl (by kernel_rfl) (by kernel_rfl) (by kernel_rfl) (fun _ _ _ h => h) (Or.inl ⟨by rfl, ?_⟩) (by assumption) ?_
          rotate_left
          · (intro w hSw; (try dsimp only at hSw); go_simp; try with_reducible rfl)
          try simp only [Act.put, List.setIfInBounds_toArray, List.set_cons_zero, List.set_cons_succ]
          refine wpAnyH_done (by kernel_rfl) ?_ _
          go_wp2_with fail
          go_ret
          exact ⟨ret_bool HN.out.symm, HB.out.drew⟩
      · obtain rfl : k = xs.length := by omega
        have HN := Lib.hid (HE.out HT.out)
        clear hb
        go_wp2_with fail
        go_ret
        exact ⟨ret_bool HN.out.symm, HB.out⟩
  · have hq2 : ((xs.length : Int) != (ys.length : Int)) = true := by simp; omega
    have HN := Lib.hid (eqB_len hq)
    clear hq
    go_enter Tryz.func45, Tryz.ntmps45
    go_wp2_with fail
    go_ret
    exact ⟨ret_bool HN.out.symm, Below.refl _ _⟩
end Go.Proofs.YtbchcipjpcdhfaaGreatDoor.Cm
/- The reader of commands: how it lies in memory. No condition. -/
namespace Go.Proofs.YtbchcipjpcdhfaaGreatDoor.Cm
open Go.RowKit Go.Proofs.YtbchcipjpcdhfaaGreatDoor.Dt

def upv (f : Nat → Value) (i : Nat) (v : Value) : Nat → Value := fun j => if j = i then v else f j
theorem setCell_at {w : World} {g : Nat} {cs : Array Value} {e : TypeId} {fr : Nat × Nat} (h : w.heap[g]? = some (.cells cs e fr)) (i : Nat) (v : Value) : (w.setCell ⟨g, i, none⟩ v).heap[g]? = some (.cells (cs.setIfInBounds i v) e fr) := by
  simp [World.setCell, Array.getElem?_modify, h]
/-- the reader at block pb: its list, the eight cells of its command, whether something was wrong -/
structure ParB (w : World) (pb : Nat) (L : Value) (cv : Nat → Value) (bad : Bool) : Prop where
  block : ∃ cs, w.heap[pb]? = some (.cells cs 49 (0, 0)) ∧ cs.size = 10 ∧ cs[0]? = some L ∧ (∀ i, i < 8 → cs[1 + i]? = some (cv i)) ∧ cs[9]? = some (.bool bad)
section
variable {w w' : World} {pb : Nat} {L : Value} {cv : Nat → Value} {bad : Bool}
theorem ParB.lt (h : ParB w pb L cv bad) : pb < w.heap.size := by obtain ⟨cs, h1, _⟩ := h.block; exact lt_of_block h1
theorem ParB.list (h : ParB w pb L cv bad) : w.cell? ⟨pb, 0, none⟩ = some L := by obtain ⟨cs, h1, _, h2, _⟩ := h.block; rw [cell_of_cells h1]; exact h2
theorem ParB.badc (h : ParB w pb L cv bad) : w.cell? ⟨pb, 9, none⟩ = some (.bool bad) := by obtain ⟨cs, h1, _, _, _, h2⟩ := h.block; rw [cell_of_cells h1]; exact h2
theorem ParB.cell (h : ParB w pb L cv bad) (i : Nat) (hi : i < 8) : w.cell? ⟨pb, 1 + i, none⟩ = some (cv i) := by obtain ⟨cs, h1, _, _, h2, _⟩ := h.block; rw [cell_of_cells h1]; exact h2 i hi
theorem ParB.free (h : ParB w pb L cv bad) (i : Nat) : w.frozen? ⟨pb, i, none⟩ = false := by obtain ⟨cs, h1, _⟩ := h.block; exact frozen_of_cells h1 i
theorem ParB.keep {S : Nat → Prop} (h : ParB w pb L cv bad) (hk : Keeps S w w') (hS : ¬ S pb) : ParB w' pb L cv bad := by
  obtain ⟨cs, h1, h2⟩ := h.block
  exact ⟨cs, by rw [hk.block _ (lt_of_block h1) hS]; exact h1, h2⟩
theorem ParB.below (h : ParB w pb L cv bad) (hb : Below w.heap.size w w') : ParB w' pb L cv bad := h.keep (Keeps.of_below hb (fun _ => False)) id
theorem ParB.setBad (h : ParB w pb L cv bad) (b : Bool) : ParB (w.setCell ⟨pb, 9, none⟩ (.bool b)) pb L cv b := by
  obtain ⟨cs, h1, h2, h3, h4, h5⟩ := h.block
  refine ⟨_, setCell_at h1 9 _, by simpa using h2, ?_, ?_, ?_⟩
  · rw [Array.getElem?_setIfInBounds, if_neg (by decide)]; exact h3
  · intro i hi; rw [Array.getElem?_setIfInBounds, if_neg (by omega)]; exact h4 i hi
  · rw [Array.getElem?_setIfInBounds, if_pos rfl, if_pos (by omega)]
theorem ParB.setCmd (h : ParB w pb L cv bad) (i : Nat) (hi : i < 8) (v : Value) : ParB (w.setCell ⟨pb, 1 + i, none⟩ v) pb L (upv cv i v) bad := by
  obtain ⟨cs, h1, h2, h3, h4, h5⟩ := h.block
  refine ⟨_, setCell_at h1 (1 + i) _, by simpa using h2, ?_, ?_, ?_⟩
  · rw [Array.getElem?_setIfInBounds, if_neg (by omega)]; exact h3
  · intro j hj
    rw [Array.getElem?_setIfInBounds]
    unfold upv
    by_cases e : j = i
    · subst e; rw [if_pos rfl, if_pos (by omega), if_pos rfl]
    · rw [if_neg (by omega), if_neg e]; exact h4 j hj
  · rw [Array.getElem?_setIfInBounds, if_neg (by omega)]; exact h5
end
/-- three cells stored -/
def set3 (w : World) (b : Nat) (v0 v1 v2 : Value) : World := ((w.setCell ⟨b, 0, none⟩ v0).setCell ⟨b, 1, none⟩ v1).setCell ⟨b, 2, none⟩ v2
theorem three_set {w : World} {b : Nat} {a0 a1 a2 : Value} {t : TypeId} (h : w.heap[b]? = some (.cells #[a0, a1, a2] t (0, 0))) (v0 v1 v2 : Value) : (set3 w b v0 v1 v2).heap[b]? = some (.cells #[v0, v1, v2] t (0, 0)) := by
  simp [set3, World.setCell, Array.getElem?_modify, h]
theorem three_cells {w : World} {b : Nat} {a0 a1 a2 : Value} {t : TypeId} (h : w.heap[b]? = some (.cells #[a0, a1, a2] t (0, 0))) : w.cell? ⟨b, 0, none⟩ = some a0 ∧ w.cell? ⟨b, 1, none⟩ = some a1 ∧ w.cell? ⟨b, 2, none⟩ = some a2 ∧ ∀ j, w.frozen? ⟨b, j, none⟩ = false :=
  ⟨by rw [cell_of_cells h]; rfl, by rw [cell_of_cells h]; rfl, by rw [cell_of_cells h]; rfl, fun j => frozen_of_cells h j⟩
theorem set3_keeps {S : Nat → Prop} {w0 w : World} {b : Nat} (h : Keeps S w0 w) (hb : S b ∨ w0.heap.size ≤ b) (v0 v1 v2 : Value) : Keeps S w0 (set3 w b v0 v1 v2) := ((h.setCell (p := ⟨b, 0, none⟩) hb v0).setCell (p := ⟨b, 1, none⟩) hb v1).setCell (p := ⟨b, 2, none⟩) hb v2
theorem blk_new (w : World) (o : Obj) : (w.alloc o).heap[w.heap.size]? = some o := Array.getElem?_push_size
/-- a reading that looks at no memory -/
def Flat {α : Type} (R : World → List Value → α → Prop) : Prop := ∀ w w' vs x, R w vs x → R w' vs x
theorem strR_flat : Flat StrR := fun _ _ _ _ h => h
theorem intR_flat (k : IntKind) : Flat (IntR k) := fun _ _ _ _ h => h
theorem pairR_flat : Flat PairR := fun _ _ _ _ h => h
/-- elements that lie in none of the old blocks -/
def NewLies {α : Type} (n : Nat) (R : World → List Value → α → Prop) (B : Nat) (w : World) (A : Option Addr) (xs : List α) : Prop :=
  xs = [] ∨ ∃ b o, A = some ⟨b, o, none⟩ ∧ B ≤ b ∧ b < w.heap.size ∧ RowAt n R w b o xs
theorem NewLies.lies {α : Type} {n : Nat} {R : World → List Value → α → Prop} {B : Nat} {w : World} {A : Option Addr} {xs : List α} (h : NewLies n R B w A xs) : Lies n R w A xs :=
  h.imp_right fun ⟨b, o, h1, _, h2, h3⟩ => ⟨b, o, h1, h2, h3⟩
theorem NewLies.keep {α : Type} {n : Nat} {R : World → List Value → α → Prop} {B : Nat} {w w' : World} {A : Option Addr} {xs : List α} {S : Nat → Prop} (h : NewLies n R B w A xs) (hR : Flat R) (hk : Keeps S w w') (hS : ∀ b, S b → b < B) : NewLies n R B w' A xs := by
  rcases h with h | ⟨b, o, hA, hB, hlt, hr⟩
  · exact .inl h
  · refine .inr ⟨b, o, hA, hB, Nat.lt_of_lt_of_le hlt hk.size, fun i x hx => ?_⟩
    obtain ⟨vs, h1, h2, h3⟩ := hr i x hx
    exact ⟨vs, h1, fun j u hu => (hk.cell hlt (fun hs => by have := hS b hs; omega)).trans (h2 j u hu), hR _ _ _ _ h3⟩
end Go.Proofs.YtbchcipjpcdhfaaGreatDoor.Cm
/- Depth: the program's walk and the document's. -/
namespace Go.Proofs.YtbchcipjpcdhfaaGreatDoor.Dt
open Go.RowKit

theorem max_if (a b : Int) : (if a < b then b else a) = max a b := by split <;> omega
theorem sexp_cells {w : World} {A : Option Addr} {l : List Sexp} (h : Lies 3 SexpR w A l) {k : Nat} {y : Sexp} (hy : l[k]? = some y) :
    ∃ b o A' c', A = some ⟨b, o, none⟩ ∧ b < w.heap.size ∧ w.cell? ⟨b, o + k * 3, none⟩ = some (.int .i8 y.kind) ∧ w.cell? ⟨b, o + k * 3 + 1, none⟩ = some (.string y.text) ∧ w.cell? ⟨b, o + k * 3 + 2, none⟩ = some (.slice A' y.l.length c') ∧
      SexpR w [.int .i8 y.kind, .string y.text, .slice A' y.l.length c'] y := by
  obtain ⟨b, o, vs, hA, hb, _, hc, hr⟩ := h.at' hy
  obtain ⟨A', c', e, _⟩ := hr.open'
  subst e
  exact ⟨b, o, A', c', hA, hb, hc 0 _ rfl, hc 1 _ rfl, hc 2 _ rfl, hr⟩

set_option maxRecDepth 100000 in
set_option maxHeartbeats 3200000 in
theorem depth_any : ∀ (n : Nat) (x : Sexp), SizeOf.sizeOf x < n → ∀ (w : World) (A : Option Addr) (c : Nat), SexpR w [.int .i8 x.kind, .string x.text, .slice A x.l.length c] x →
    Calls Tryz.prog 57 #[.agg #[.int .i8 x.kind, .string x.text, .slice A x.l.length c]] w fun e w' => e = .returned (.int .i64 x.depth) ∧ Below w.heap.size w w' := by
  intro n
  induction n with
  | zero => intro x hx; omega
  | succ n ih =>
    intro x hx w A c hr
    have IH := Lib.hid ih
    obtain ⟨A0, c0, e0, hl, hc, hcm, _, hlb, _⟩ := hr.open'
    simp only [List.cons.injEq, Value.slice.injEq, and_true, true_and] at e0
    obtain ⟨rfl, rfl⟩ := e0
    have HE := Lib.hid (Sexp.depth_eq x)
    by_cases hk : x.kind = 3
    · replace HE := Lib.hid (HE.out.trans (if_pos hk))
      have HL := Lib.hid hl
      have HX := Lib.hid hx
      have HM := Lib.hid (fun y (hy : y ∈ x.l) => Sexp.mem_lt hy)
      rw [hk]
      generalize x.l = l at *
      generalize x.text = t at *
      generalize x.depth = d at *
      clear hl hr hk hx ih
      go_enter Tryz.func57, Tryz.ntmps57
      go_wp2_with fail
      have B0 := Lib.hid ((Below.refl w.heap.size w).alloc (Nat.le_refl _) (.cells #[.int .i8 3, .string t, .slice A l.length c] 25))
      generalize w.alloc (.cells #[.int .i8 3, .string t, .slice A l.length c] 25) = w0 at *
      go_loopw [3, 12] (fun v i wr => ∃ k : Nat, k ≤ l.length ∧ i = .int .i64 k ∧ v = .int .i64 (Sexp.depthL (l.take k)) ∧ Below w.heap.size w wr) (fun _ i _ => l.length - (intOf i).toNat)
      case atStart => exact ⟨0, Nat.zero_le _, rfl, rfl, B0.out⟩
      case round =>
        obtain ⟨k, hk, rfl, rfl, hb⟩ := hrel
        have HB := Lib.hid hb
        obtain ⟨d0, d1⟩ := Sexp.depthL_I64 (l.take k)
        by_cases hlt : k < l.length
        · have hlt2 : (k : Int) < (l.length : Int) := by omega
          have hy := List.getElem?_eq_getElem hlt
          have hym := List.getElem_mem hlt
          generalize l[k] = y at hy hym
          obtain ⟨b, o, A', c', rfl, hbl, e0, e1, e2, hr⟩ := sexp_cells (HL.out.on SexpR.lasts hb) hy
          have HY := Lib.hid (fun W (hW : Below wr.heap.size wr W) => IH.out y (by have h1 := HM.out y hym; have h2 := HX.out; omega) W A' c' (SexpR.lasts _ _ _ _ hW hr))
          have HT := Lib.hid (show Sexp.depthL (l.take (k + 1)) = max (Sexp.depthL (l.take k)) y.depth by rw [List.take_add_one, hy]; exact Sexp.depthL_snoc _ _)
          obtain ⟨f0, f1⟩ := Sexp.depth_I64 y
          generalize Sexp.depthL (l.take k) = dl at *
          clear hb hr hy hym
          go_wp2_with fail
          refine (HY.out _ ((Below.refl _ _).alloc (Nat.le_refl _) _)).mono ?_
          rintro e w2 ⟨rfl, hb2⟩
          have HB2 := Lib.hid ((HB.out.alloc HB.out.size _).trans (hb2.mono (by have := HB.out.size; simp; omega)))
          clear hb2
          go_wp2_with fail
          go_roundw
          case rel => exact ⟨k + 1, by omega, by go_num, by first | rw [HT.out, max_if] | rw [HT.out], HB2.out⟩
          case measure => simp [intOf]; omega
        · obtain rfl : k = l.length := by omega
          rw [List.take_length] at d0 d1 ⊢
          go_wp2_with fail
          go_ret
          exact ⟨ret_int HE.out.symm, HB.out⟩
    · replace HE := Lib.hid (HE.out.trans (if_neg hk))
      have hk2 : (x.kind == 3) = false := beq_eq_false_iff_ne.2 hk
      go_enter Tryz.func57, Tryz.ntmps57
      go_wp2_with fail
      go_ret
      exact ⟨ret_int HE.out.symm, (Below.refl w.heap.size w).alloc (Nat.le_refl _) _⟩

/-- a box of an expression -/
def boxOf (x : Sexp) (A : Option Addr) (c : Nat) : Obj := .cells #[.int .i8 x.kind, .string x.text, .slice A x.l.length c] 25
theorem box_cells (w : World) (a b c : Value) (t : TypeId) : (w.alloc (.cells #[a, b, c] t)).cell? ⟨w.heap.size, 0, none⟩ = some a ∧ (w.alloc (.cells #[a, b, c] t)).cell? ⟨w.heap.size, 1, none⟩ = some b ∧ (w.alloc (.cells #[a, b, c] t)).cell? ⟨w.heap.size, 2, none⟩ = some c ∧ (w.alloc (.cells #[a, b, c] t)).heap.size = w.heap.size + 1 := by
  refine ⟨?_, ?_, ?_, by simp⟩ <;> rw [World.cell?_alloc_mark] <;> rfl

set_option maxRecDepth 100000 in
set_option maxHeartbeats 3200000 in
theorem rdepth_any : ∀ (n : Nat) (x : Sexp), SizeOf.sizeOf x < n → ∀ (w : World) (A : Option Addr) (c : Nat), SexpR w [.int .i8 x.kind, .string x.text, .slice A x.l.length c] x →
    Calls Tryz.prog 37 #[.agg #[.int .i8 x.kind, .string x.text, .slice A x.l.length c]] w fun e w' => e = .returned (.int .i64 x.depth) ∧ Below w.heap.size w w' := by
  intro n
  induction n with
  | zero => intro x hx; omega
  | succ n ih =>
    intro x hx w A c hr
    have IH := Lib.hid ih
    obtain ⟨A0, c0, e0, hl, hc, hcm, _, hlb, _⟩ := hr.open'
    simp only [List.cons.injEq, Value.slice.injEq, and_true, true_and] at e0
    obtain ⟨rfl, rfl⟩ := e0
    have HE := Lib.hid (Sexp.depth_eq x)
    by_cases hk : x.kind = 3
    · replace HE := Lib.hid (HE.out.trans (if_pos hk))
      have HX := Lib.hid hx
      have HM := Lib.hid (fun y (hy : y ∈ x.l) => Sexp.mem_lt hy)
      rw [hk]
      generalize x.l = l at *
      generalize x.text = t at *
      generalize x.depth = d at *
      clear hr hk hx ih
      go_enter Tryz.func37, Tryz.ntmps37
      go_wp2_with fail
      obtain ⟨_, _, q2, z0⟩ := box_cells w (.int .i8 3) (.string t) (.slice A l.length c) 25
      have B0 := Lib.hid ((Below.refl w.heap.size w).alloc (Nat.le_refl _) (.cells #[.int .i8 3, .string t, .slice A l.length c] 25))
      have HL := Lib.hid (hl.on SexpR.lasts B0.out)
      generalize w.alloc (.cells #[.int .i8 3, .string t, .slice A l.length c] 25) = w0 at *
      clear hl
      go_loopw [3, 4] (fun v i wr => ∃ k : Nat, k ≤ l.length ∧ i = .int .i64 k ∧ v = .int .i64 (Sexp.depthL (l.take k)) ∧ Below w0.heap.size w0 wr) (fun _ i _ => l.length - (intOf i).toNat)
      case atStart => exact ⟨0, Nat.zero_le _, rfl, rfl, Below.refl _ _⟩
      case round =>
        obtain ⟨k, hk, rfl, rfl, hb⟩ := hrel
        have HB := Lib.hid hb
        obtain ⟨d0, d1⟩ := Sexp.depthL_I64 (l.take k)
        have qr := ((bcell hb).1 w.heap.size 2 (by omega)).trans q2
        by_cases hlt : k < l.length
        · have hlt2 : (k : Int) < (l.length : Int) := by omega
          have hy := List.getElem?_eq_getElem hlt
          have hym := List.getElem_mem hlt
          generalize l[k] = y at hy hym
          obtain ⟨b, o, A', c', rfl, hbl, e0, e1, e2, hr⟩ := sexp_cells (HL.out.on SexpR.lasts hb) hy
          have HY := Lib.hid (IH.out y (by have h1 := HM.out y hym; have h2 := HX.out; omega) wr A' c' hr)
          have HT := Lib.hid (show Sexp.depthL (l.take (k + 1)) = max (Sexp.depthL (l.take k)) y.depth by rw [List.take_add_one, hy]; exact Sexp.depthL_snoc _ _)
          obtain ⟨f0, f1⟩ := Sexp.depth_I64 y
          generalize Sexp.depthL (l.take k) = dl at *
          clear hb hr hy hym q2
          go_wp2_with fail
          refine HY.out.mono ?_
          rintro e w2 ⟨rfl, hb2⟩
          have HB2 := Lib.hid (HB.out.trans (hb2.mono HB.out.size))
          clear hb2
          go_wp2_with fail
          go_roundw
          case rel => exact ⟨k + 1, by omega, by go_num, by first | rw [HT.out, max_if] | rw [HT.out], HB2.out⟩
          case measure => simp [intOf]; omega
        · obtain rfl : k = l.length := by omega
          rw [List.take_length] at d0 d1 ⊢
          clear hb q2
          go_wp2_with fail
          go_ret
          exact ⟨ret_int HE.out.symm, B0.out.trans (HB.out.mono (by omega))⟩
    · replace HE := Lib.hid (HE.out.trans (if_neg hk))
      have hk2 : (x.kind == 3) = false := beq_eq_false_iff_ne.2 hk
      go_enter Tryz.func37, Tryz.ntmps37
      go_wp2_with fail
      go_ret
      exact ⟨ret_int HE.out.symm, (Below.refl w.heap.size w).alloc (Nat.le_refl _) _⟩
end Go.Proofs.YtbchcipjpcdhfaaGreatDoor.Dt
/- The reader's small methods: is, part, symbol, number, list, kind. -/
namespace Go.Proofs.YtbchcipjpcdhfaaGreatDoor.Cm
open Go.RowKit Go.Proofs.YtbchcipjpcdhfaaGreatDoor.Dt

def KeepP (pb : Nat) (w w' : World) : Prop := Keeps (fun k => k = pb) w w'
def agS (x : Sexp) (A : Option Addr) (c : Nat) : Value := .agg #[.int .i8 x.kind, .string x.text, .slice A x.l.length c]
def noSexp : Sexp := .mk 0 noS []
def partS (xs : List Sexp) (k : Nat) : Sexp := (xs[k]?).getD noSexp
def ptrP (pb : Nat) : Value := .pointer (some ⟨pb, 0, none⟩)
set_option maxHeartbeats 400000 in
theorem is_any {w : World} {pb : Nat} {L : Value} {cv : Nat → Value} {b : Bool} (h : ParB w pb L cv b) (ok : Bool) :
    Calls Tryz.prog 52 #[ptrP pb, .bool ok] w fun e w' => e = .returned (.tuple #[]) ∧ ParB w' pb L cv (b || !ok) ∧ KeepP pb w w' := by
  have c9 := h.badc
  have f9 := h.free 9
  have H := Lib.hid h
  clear h
  unfold ptrP
  cases b <;> cases ok
  all_goals
    go_enter Tryz.func52, Tryz.ntmps52
    go_wp2
    go_end0
    exact ⟨rfl, H.out.setBad _, (Keeps.refl (fun k => k = pb) _).setCell (.inl rfl) _⟩
theorem noSexp_r (w : World) : SexpR w [.int .i8 noSexp.kind, .string noSexp.text, .slice none noSexp.l.length 0] noSexp :=
  SexpR.make (.inl rfl) (Nat.zero_le _) (by decide) (by decide) (by decide) (by decide)
def PartPost (W0 w : World) (pb : Nat) (L : Value) (cv : Nat → Value) (b : Bool) (x : Sexp) (e : Ending) (w' : World) : Prop :=
  ∃ A' c', (e = .returned (agS x A' c') ∧ SexpR W0 [.int .i8 x.kind, .string x.text, .slice A' x.l.length c'] x) ∧ ParB w' pb L cv b ∧ KeepP pb w w'
theorem part_ret {w : World} {b : Nat} {r0 r1 r2 : Value} {act : Act} {t : TypeId} {R : Ending → World → Prop} (hb : w.heap[b]? = some (.cells #[r0, r1, r2] t (0, 0))) (h4 : act.tmps[4]? = some (.pointer (some ⟨b, 0, none⟩))) (hd : act.defers = []) (hR : R (.returned (.agg #[r0, r1, r2])) w) :
    bodyPost Tryz.prog Tryz.f51 R .ret act w := by
  obtain ⟨y0, y1, y2, _⟩ := three_cells hb
  refine bodyPost_ret (v := .agg #[r0, r1, r2]) ?_ hd hR
  simp [results, Tryz.results51, go_sem, y0, y1, y2, h4]
set_option maxHeartbeats 400000 in
theorem part_any {W0 w : World} {pb : Nat} {A : Option Addr} {c : Nat} {cv : Nat → Value} {b : Bool} {xs : List Sexp} (h : ParB w pb (.slice A xs.length c) cv b) (hx : Lies 3 SexpR W0 A xs) (hb : Below W0.heap.size W0 w) (k : Nat) :
    Calls Tryz.prog 51 #[ptrP pb, .int .i64 k] w (PartPost W0 w pb (.slice A xs.length c) cv (b || decide (xs.length ≤ k)) (partS xs k)) := by
  have HA := Lib.hid (h.below ((Below.refl _ _).alloc (Nat.le_refl _) (.cells #[.int .i8 0, .string { data := #[] }, .slice none 0 0] 25)))
  have HN := Lib.hid (blk_new w (.cells #[.int .i8 0, .string { data := #[] }, .slice none 0 0] 25))
  have HK := Lib.hid (show KeepP pb w (w.alloc (.cells #[.int .i8 0, .string { data := #[] }, .slice none 0 0] 25)) from (Keeps.refl _ _).alloc _)
  have HW := Lib.hid (hb.alloc hb.size (.cells #[.int .i8 0, .string { data := #[] }, .slice none 0 0] 25))
  have hlt := h.lt
  have hbs := hb.size
  clear h hb
  unfold ptrP
  cases hk' : xs[k]? with
  | none =>
    have hl : xs.length ≤ k := List.getElem?_eq_none_iff.1 hk'
    have hl' : ((xs.length : Int) ≤ (k : Int)) := by omega
    have e : partS xs k = noSexp := by unfold partS; rw [hk']; rfl
    rw [e, decide_eq_true hl, Bool.or_true]
    have hne : w.heap.size ≠ pb := by omega
    clear hx hk' e
    go_enter Tryz.func51, Tryz.ntmps51
    go_upto_region 1 with fail
    generalize w.alloc (.cells #[.int .i8 0, .string { data := #[] }, .slice none 0 0] 25) = w1 at *
    have c0 := HA.out.list
    have f9 := HA.out.free 9
    have c9 := HA.out.badc
    obtain ⟨y0, y1, y2, yf⟩ := three_cells HN.out
    go_wp2_with fail
    have hP := HA.out.setBad true
    exact part_ret (w := set3 (w1.setCell ⟨pb, 9, none⟩ (.bool true)) w.heap.size (.int .i8 0) (.string { data := #[] }) (.slice none 0 0)) (three_set ((Below.heap_setCell _ _ _ _ hne).trans HN.out) _ _ _) rfl rfl ⟨none, 0, ⟨rfl, noSexp_r W0⟩, hP.keep (set3_keeps (S := fun k => k = w.heap.size) (Keeps.refl _ _) (.inl rfl) _ _ _) (Ne.symm hne), set3_keeps (HK.out.setCell (.inl rfl) _) (.inr (Nat.le_refl _)) _ _ _⟩
  | some y =>
    have hl : k < xs.length := (List.getElem?_eq_some_iff.1 hk').1
    have hl' : ¬ ((xs.length : Int) ≤ (k : Int)) := by omega
    have hl2 : ((k : Int) < (xs.length : Int)) := by omega
    have e : partS xs k = y := by unfold partS; rw [hk']; rfl
    rw [e, decide_eq_false (by omega : ¬ xs.length ≤ k), Bool.or_false]
    obtain ⟨bb, o, A', c', rfl, hbl, e0, e1, e2, hr⟩ := sexp_cells hx hk'
    have HR := Lib.hid hr
    have HC := Lib.hid (show ∀ j u, W0.cell? ⟨bb, o + k * 3 + j, none⟩ = some u → (w.alloc (.cells #[.int .i8 0, .string { data := #[] }, .slice none 0 0] 25)).cell? ⟨bb, o + k * 3 + j, none⟩ = some u from fun j u hu => (HW.out.cell (p := ⟨bb, o + k * 3 + j, none⟩) hbl).trans hu)
    have hne : w.heap.size ≠ pb := by omega
    clear hx hk' e hr
    go_enter Tryz.func51, Tryz.ntmps51
    go_upto_region 1 with fail
    generalize w.alloc (.cells #[.int .i8 0, .string { data := #[] }, .slice none 0 0] 25) = w1 at *
    have c0 := HA.out.list
    obtain ⟨y0, y1, y2, yf⟩ := three_cells HN.out
    have d0 := HC.out 0 _ e0
    have d1 := HC.out 1 _ e1
    have d2 := HC.out 2 _ e2
    rw [Nat.add_zero] at d0
    clear e0 e1 e2
    go_wp2_with fail
    exact part_ret (w := set3 w1 w.heap.size (.int .i8 y.kind) (.string y.text) (.slice A' y.l.length c')) (three_set HN.out _ _ _) rfl rfl ⟨A', c', ⟨rfl, HR.out⟩, HA.out.keep (set3_keeps (S := fun k => k = w.heap.size) (Keeps.refl _ _) (.inl rfl) _ _ _) (Ne.symm hne), set3_keeps HK.out (.inr (Nat.le_refl _)) _ _ _⟩
set_option maxHeartbeats 400000 in
theorem symbol_any {w : World} {pb : Nat} {L : Value} {cv : Nat → Value} {b : Bool} (h : ParB w pb L cv b) (x : Sexp) (A : Option Addr) (c : Nat) :
    Calls Tryz.prog 50 #[ptrP pb, agS x A c] w fun e w' => e = .returned (.string x.text) ∧ ParB w' pb L cv (b || !decide (x.kind = 0)) ∧ KeepP pb w w' := by
  have HI := Lib.hid (fun W (hW : Below w.heap.size w W) => is_any (h.below hW) (decide (x.kind = 0)))
  unfold ptrP agS at *
  have hk2 : (x.kind == 0) = decide (x.kind = 0) := rfl
  have HL := Lib.hid h.lt
  generalize x.kind = k at *
  generalize x.text = t at *
  generalize x.l.length = n at *
  clear h
  generalize decide (k = 0) = kb at *
  cases kb
  all_goals
    go_enter Tryz.func50, Tryz.ntmps50
    go_wp2_with fail
    refine (HI.out _ ((Below.refl _ _).alloc (Nat.le_refl _) _)).mono ?_
    rintro e w1 ⟨rfl, h1, h2⟩
    have HC := Lib.hid (show w1.cell? ⟨w.heap.size, 1, none⟩ = some (.string t) from (h2.cell (by simp) (by have := HL.out; show ¬ w.heap.size = pb; omega)).trans (box_cells w _ _ _ _).2.1)
    have H1 := Lib.hid h1
    have H2 := Lib.hid (((Keeps.refl (fun k => k = pb) w).alloc _).trans_same h2)
    clear h1 h2
    have hc := HC.out
    go_wp2_with fail
    go_ret
    exact ⟨rfl, H1.out, H2.out⟩
end Go.Proofs.YtbchcipjpcdhfaaGreatDoor.Cm
/- The reader's kind, number, list. -/
namespace Go.Proofs.YtbchcipjpcdhfaaGreatDoor.Cm
open Go.RowKit Go.Proofs.YtbchcipjpcdhfaaGreatDoor.Dt

set_option maxHeartbeats 400000 in
theorem kind_any {w : World} {pb : Nat} {A : Option Addr} {n c : Nat} {cv : Nat → Value} {b : Bool} (h : ParB w pb (.slice A n c) cv b) (k : Int) (m : Nat) :
    Calls Tryz.prog 49 #[ptrP pb, .int .i8 k, .int .i64 m] w fun e w' => e = .returned (.tuple #[]) ∧ ParB w' pb (.slice A n c) (upv cv 0 (.int .i8 k)) (b || !decide (n = m)) ∧ KeepP pb w w' := by
  have HA := Lib.hid (show ParB (w.setCell ⟨pb, 1, none⟩ (.int .i8 k)) pb (.slice A n c) (upv cv 0 (.int .i8 k)) b from h.setCmd 0 (by omega) _)
  have HK := Lib.hid (show KeepP pb w (w.setCell ⟨pb, 1, none⟩ (.int .i8 k)) from (Keeps.refl (fun k => k = pb) _).setCell (.inl rfl) _)
  have HI := Lib.hid (is_any HA.out (decide (n = m)))
  have hq : ((n : Int) == (m : Int)) = decide (n = m) := by rw [Bool.eq_iff_iff, beq_iff_eq, decide_eq_true_iff]; omega
  have c1 := h.cell 0 (by omega)
  rw [Nat.add_zero] at c1
  have f1 := h.free 1
  clear h
  unfold ptrP at *
  generalize decide (n = m) = q at *
  go_enter Tryz.func49, Tryz.ntmps49
  go_upto_region 1 with fail
  generalize w.setCell ⟨pb, 1, none⟩ (.int .i8 k) = w1 at *
  have c0 := HA.out.list
  go_wp2_with fail
  refine HI.out.mono ?_
  rintro e w2 ⟨rfl, h1, h2⟩
  have H1 := Lib.hid h1
  have H2 := Lib.hid (HK.out.trans_same h2)
  clear h1 h2
  go_wp2_with fail
  go_end0
  exact ⟨rfl, H1.out, H2.out⟩
theorem small_none (x : Sexp) (m : Int) : (smallN x m).isNone = !(decide (x.kind = 1) && (decide (parseE (Lx.bs x.text) = 0) && decide (parseV (Lx.bs x.text) ≤ m))) := by
  unfold smallN
  by_cases h1 : x.kind = 1 <;> by_cases h2 : parseE (Lx.bs x.text) = 0 <;> by_cases h3 : parseV (Lx.bs x.text) ≤ m <;> simp [h1, h2, h3]
theorem par_bad {w : World} {pb : Nat} {L : Value} {cv : Nat → Value} {b b' : Bool} (h : ParB w pb L cv b) (e : b = b') : ParB w pb L cv b' := e ▸ h
set_option maxHeartbeats 1600000 in
theorem number_any {w : World} {pb : Nat} {L : Value} {cv : Nat → Value} {b : Bool} (h : ParB w pb L cv b) (x : Sexp) (A : Option Addr) (c : Nat) (ht : (x.text.size : Int) ≤ 140737488351232) (m : Int) :
    Calls Tryz.prog 53 #[ptrP pb, agS x A c, .int .i64 m] w fun e w' => e = .returned (.int .i64 (parseV (Lx.bs x.text))) ∧ ParB w' pb L cv (b || (smallN x m).isNone) ∧ KeepP pb w w' := by
  have HI := Lib.hid (fun W (hW : Below w.heap.size w W) => is_any (h.below hW) (decide (x.kind = 1)))
  have HJ := Lib.hid (fun W b' (hW : ParB W pb L cv b') q => is_any hW q)
  have HP := Lib.hid (fun W => parse_any x.text (by omega) W)
  have HS := Lib.hid (small_none x m)
  have HL := Lib.hid h.lt
  unfold ptrP agS at *
  have hk2 : (x.kind == 1) = decide (x.kind = 1) := rfl
  replace HS := Lib.hid (show (smallN x m).isNone = !(decide (x.kind = 1) && (decide (parseE x.text.data.toList = 0) && decide (parseV x.text.data.toList ≤ m))) from HS.out)
  change Calls _ _ _ _ fun e w' => e = .returned (.int .i64 (parseV x.text.data.toList)) ∧ _ ∧ _
  generalize (smallN x m).isNone = sn at *
  generalize parseE x.text.data.toList = pe at *
  generalize parseV x.text.data.toList = pv at *
  generalize x.kind = k at *
  generalize x.text = t at *
  generalize x.l.length = n at *
  clear h ht
  generalize decide (k = 1) = kb at *
  go_enter Tryz.func53, Tryz.ntmps53
  go_wp2_with fail
  refine (HI.out _ ((Below.refl _ _).alloc (Nat.le_refl _) _)).mono ?_
  rintro e w1 ⟨rfl, h1, h2⟩
  have HC := Lib.hid (show w1.cell? ⟨w.heap.size, 1, none⟩ = some (.string t) from (h2.cell (by simp) (by have := HL.out; show ¬ w.heap.size = pb; omega)).trans (box_cells w _ _ _ _).2.1)
  have H1 := Lib.hid h1
  have H2 := Lib.hid (((Keeps.refl (fun k => k = pb) w).alloc _).trans_same h2)
  clear h1 h2
  have hc := HC.out
  go_wp2_with fail
  refine (HP.out _).mono ?_
  rintro e w2 ⟨rfl, hb⟩
  have H3 := Lib.hid (H1.out.below hb)
  have H4 := Lib.hid (show KeepP pb w w2 from H2.out.trans_same (Keeps.of_below hb _))
  clear hb hc
  have hq : (pe == 0) = decide (pe = 0) := rfl
  by_cases h0 : pe = 0
  · by_cases hm : pv ≤ m
    · go_wp2_with fail
      refine (HJ.out _ _ H3.out true).mono ?_
      rintro e w3 ⟨rfl, h1, h2⟩
      have H5 := Lib.hid h1
      have H6 := Lib.hid (H4.out.trans_same h2)
      clear h1 h2
      go_wp2_with fail
      go_ret
      exact ⟨rfl, par_bad H5.out (by rw [HS.out]; simp [h0, hm]), H6.out⟩
    · have hm' : decide (pv ≤ m) = false := decide_eq_false hm
      go_wp2_with fail
      refine (HJ.out _ _ H3.out false).mono ?_
      rintro e w3 ⟨rfl, h1, h2⟩
      have H5 := Lib.hid h1
      have H6 := Lib.hid (H4.out.trans_same h2)
      clear h1 h2
      go_wp2_with fail
      go_ret
      exact ⟨rfl, par_bad H5.out (by rw [HS.out]; simp [hm]), H6.out⟩
  · have h0' : (pe == 0) = false := beq_eq_false_iff_ne.2 h0
    go_wp2_with fail
    refine (HJ.out _ _ H3.out false).mono ?_
    rintro e w3 ⟨rfl, h1, h2⟩
    have H5 := Lib.hid h1
    have H6 := Lib.hid (H4.out.trans_same h2)
    clear h1 h2
    go_wp2_with fail
    go_ret
    exact ⟨rfl, par_bad H5.out (by rw [HS.out]; simp [h0]), H6.out⟩
end Go.Proofs.YtbchcipjpcdhfaaGreatDoor.Cm
