import Derived.Test.YtbchcipjpcdhfaaGreatDoorMb
import Derived.Test.YtbchcipjpcdhfaaGreatDoorMv
import Derived.Test.YtbchcipjpcdhfaaGreatDoorMc
import Derived.Test.YtbchcipjpcdhfaaGreatDoorMa
import Derived.Test.YtbchcipjpcdhfaaGreatDoorMq
import Derived.OwnWalk
import Derived.Test.YtbchcipjpcdhfaaGreatDoorMe
import Derived.Test.YtbchcipjpcdhfaaGreatDoorMf
import Derived.Test.YtbchcipjpcdhfaaGreatDoorMp
import Derived.Test.YtbchcipjpcdhfaaGreatDoorMr
import Derived.Test.YtbchcipjpcdhfaaGreatDoorMw
import Derived.Test.YtbchcipjpcdhfaaGreatDoorCards
import Derived.Test.YtbchcipjpcdhfaaGreatDoorTie
import Derived.Test.YtbchcipjpcdhfaaGreatDoorMd
/- merged by wip/merge.py from: Blk LexRQ R2Next R2Tok RowOk R3Read Law8Text CommandTextCard -/
/- Blocks known whole: their cells, what a new one is, what a store makes of one. No condition. -/
namespace Go.Proofs.YtbchcipjpcdhfaaGreatDoor.Bk
open Go.RowKit

theorem new (w : World) (o : Obj) : (w.alloc o).heap[w.heap.size]? = some o := Array.getElem?_push_size
theorem keep {w : World} {b : Nat} {x : Obj} (h : w.heap[b]? = some x) (o : Obj) : (w.alloc o).heap[b]? = some x := (Below.heap_alloc w o b (lt_of_block h)).trans h
theorem on {w w' : World} {b : Nat} {x : Obj} (h : w.heap[b]? = some x) (hb : Below w.heap.size w w') : w'.heap[b]? = some x := (hb.block b (lt_of_block h)).trans h
theorem on' {w w' : World} {b B : Nat} {x : Obj} (h : w.heap[b]? = some x) (hb : Below B w w') (hB : b < B) : w'.heap[b]? = some x := (hb.block b hB).trans h
theorem apart {w : World} {b : Nat} {x : Obj} (h : w.heap[b]? = some x) {p : Addr} (hp : b ≠ p.block) (u : Value) : (w.setCell p u).heap[b]? = some x := (Below.heap_setCell w p u b hp).trans h
theorem set_at {w : World} {b : Nat} {cs : Array Value} {t : TypeId} {fr : Nat × Nat} (h : w.heap[b]? = some (.cells cs t fr)) (j : Nat) (u : Value) : (w.setCell ⟨b, j, none⟩ u).heap[b]? = some (.cells (cs.setIfInBounds j u) t fr) := by
  simp [World.setCell, Array.getElem?_modify, h]
theorem c1 {w : World} {b : Nat} {a0 : Value} {t : TypeId} (h : w.heap[b]? = some (.cells #[a0] t (0, 0))) : w.cell? ⟨b, 0, none⟩ = some a0 ∧ ∀ j, w.frozen? ⟨b, j, none⟩ = false :=
  ⟨by rw [cell_of_cells h]; rfl, fun j => frozen_of_cells h j⟩
theorem c2 {w : World} {b : Nat} {a0 a1 : Value} {t : TypeId} (h : w.heap[b]? = some (.cells #[a0, a1] t (0, 0))) : w.cell? ⟨b, 0, none⟩ = some a0 ∧ w.cell? ⟨b, 1, none⟩ = some a1 ∧ ∀ j, w.frozen? ⟨b, j, none⟩ = false :=
  ⟨by rw [cell_of_cells h]; rfl, by rw [cell_of_cells h]; rfl, fun j => frozen_of_cells h j⟩
theorem c3 {w : World} {b : Nat} {a0 a1 a2 : Value} {t : TypeId} (h : w.heap[b]? = some (.cells #[a0, a1, a2] t (0, 0))) : w.cell? ⟨b, 0, none⟩ = some a0 ∧ w.cell? ⟨b, 1, none⟩ = some a1 ∧ w.cell? ⟨b, 2, none⟩ = some a2 ∧ ∀ j, w.frozen? ⟨b, j, none⟩ = false :=
  ⟨by rw [cell_of_cells h]; rfl, by rw [cell_of_cells h]; rfl, by rw [cell_of_cells h]; rfl, fun j => frozen_of_cells h j⟩
theorem c4 {w : World} {b : Nat} {a0 a1 a2 a3 : Value} {t : TypeId} (h : w.heap[b]? = some (.cells #[a0, a1, a2, a3] t (0, 0))) : w.cell? ⟨b, 0, none⟩ = some a0 ∧ w.cell? ⟨b, 1, none⟩ = some a1 ∧ w.cell? ⟨b, 2, none⟩ = some a2 ∧ w.cell? ⟨b, 3, none⟩ = some a3 ∧ ∀ j, w.frozen? ⟨b, j, none⟩ = false :=
  ⟨by rw [cell_of_cells h]; rfl, by rw [cell_of_cells h]; rfl, by rw [cell_of_cells h]; rfl, by rw [cell_of_cells h]; rfl, fun j => frozen_of_cells h j⟩
theorem c5 {w : World} {b : Nat} {a0 a1 a2 a3 a4 : Value} {t : TypeId} (h : w.heap[b]? = some (.cells #[a0, a1, a2, a3, a4] t (0, 0))) : w.cell? ⟨b, 0, none⟩ = some a0 ∧ w.cell? ⟨b, 1, none⟩ = some a1 ∧ w.cell? ⟨b, 2, none⟩ = some a2 ∧ w.cell? ⟨b, 3, none⟩ = some a3 ∧ w.cell? ⟨b, 4, none⟩ = some a4 ∧ ∀ j, w.frozen? ⟨b, j, none⟩ = false :=
  ⟨by rw [cell_of_cells h]; rfl, by rw [cell_of_cells h]; rfl, by rw [cell_of_cells h]; rfl, by rw [cell_of_cells h]; rfl, by rw [cell_of_cells h]; rfl, fun j => frozen_of_cells h j⟩
theorem c6 {w : World} {b : Nat} {a0 a1 a2 a3 a4 a5 : Value} {t : TypeId} (h : w.heap[b]? = some (.cells #[a0, a1, a2, a3, a4, a5] t (0, 0))) : w.cell? ⟨b, 0, none⟩ = some a0 ∧ w.cell? ⟨b, 1, none⟩ = some a1 ∧ w.cell? ⟨b, 2, none⟩ = some a2 ∧ w.cell? ⟨b, 3, none⟩ = some a3 ∧ w.cell? ⟨b, 4, none⟩ = some a4 ∧ w.cell? ⟨b, 5, none⟩ = some a5 ∧ ∀ j, w.frozen? ⟨b, j, none⟩ = false :=
  ⟨by rw [cell_of_cells h]; rfl, by rw [cell_of_cells h]; rfl, by rw [cell_of_cells h]; rfl, by rw [cell_of_cells h]; rfl, by rw [cell_of_cells h]; rfl, by rw [cell_of_cells h]; rfl, fun j => frozen_of_cells h j⟩
theorem c7 {w : World} {b : Nat} {a0 a1 a2 a3 a4 a5 a6 : Value} {t : TypeId} (h : w.heap[b]? = some (.cells #[a0, a1, a2, a3, a4, a5, a6] t (0, 0))) : w.cell? ⟨b, 0, none⟩ = some a0 ∧ w.cell? ⟨b, 1, none⟩ = some a1 ∧ w.cell? ⟨b, 2, none⟩ = some a2 ∧ w.cell? ⟨b, 3, none⟩ = some a3 ∧ w.cell? ⟨b, 4, none⟩ = some a4 ∧ w.cell? ⟨b, 5, none⟩ = some a5 ∧ w.cell? ⟨b, 6, none⟩ = some a6 ∧ ∀ j, w.frozen? ⟨b, j, none⟩ = false :=
  ⟨by rw [cell_of_cells h]; rfl, by rw [cell_of_cells h]; rfl, by rw [cell_of_cells h]; rfl, by rw [cell_of_cells h]; rfl, by rw [cell_of_cells h]; rfl, by rw [cell_of_cells h]; rfl, by rw [cell_of_cells h]; rfl, fun j => frozen_of_cells h j⟩
theorem c8 {w : World} {b : Nat} {a0 a1 a2 a3 a4 a5 a6 a7 : Value} {t : TypeId} (h : w.heap[b]? = some (.cells #[a0, a1, a2, a3, a4, a5, a6, a7] t (0, 0))) : w.cell? ⟨b, 0, none⟩ = some a0 ∧ w.cell? ⟨b, 1, none⟩ = some a1 ∧ w.cell? ⟨b, 2, none⟩ = some a2 ∧ w.cell? ⟨b, 3, none⟩ = some a3 ∧ w.cell? ⟨b, 4, none⟩ = some a4 ∧ w.cell? ⟨b, 5, none⟩ = some a5 ∧ w.cell? ⟨b, 6, none⟩ = some a6 ∧ w.cell? ⟨b, 7, none⟩ = some a7 ∧ ∀ j, w.frozen? ⟨b, j, none⟩ = false :=
  ⟨by rw [cell_of_cells h]; rfl, by rw [cell_of_cells h]; rfl, by rw [cell_of_cells h]; rfl, by rw [cell_of_cells h]; rfl, by rw [cell_of_cells h]; rfl, by rw [cell_of_cells h]; rfl, by rw [cell_of_cells h]; rfl, by rw [cell_of_cells h]; rfl, fun j => frozen_of_cells h j⟩
theorem c9 {w : World} {b : Nat} {a0 a1 a2 a3 a4 a5 a6 a7 a8 : Value} {t : TypeId} (h : w.heap[b]? = some (.cells #[a0, a1, a2, a3, a4, a5, a6, a7, a8] t (0, 0))) : w.cell? ⟨b, 0, none⟩ = some a0 ∧ w.cell? ⟨b, 1, none⟩ = some a1 ∧ w.cell? ⟨b, 2, none⟩ = some a2 ∧ w.cell? ⟨b, 3, none⟩ = some a3 ∧ w.cell? ⟨b, 4, none⟩ = some a4 ∧ w.cell? ⟨b, 5, none⟩ = some a5 ∧ w.cell? ⟨b, 6, none⟩ = some a6 ∧ w.cell? ⟨b, 7, none⟩ = some a7 ∧ w.cell? ⟨b, 8, none⟩ = some a8 ∧ ∀ j, w.frozen? ⟨b, j, none⟩ = false :=
  ⟨by rw [cell_of_cells h]; rfl, by rw [cell_of_cells h]; rfl, by rw [cell_of_cells h]; rfl, by rw [cell_of_cells h]; rfl, by rw [cell_of_cells h]; rfl, by rw [cell_of_cells h]; rfl, by rw [cell_of_cells h]; rfl, by rw [cell_of_cells h]; rfl, by rw [cell_of_cells h]; rfl, fun j => frozen_of_cells h j⟩
theorem c10 {w : World} {b : Nat} {a0 a1 a2 a3 a4 a5 a6 a7 a8 a9 : Value} {t : TypeId} (h : w.heap[b]? = some (.cells #[a0, a1, a2, a3, a4, a5, a6, a7, a8, a9] t (0, 0))) : w.cell? ⟨b, 0, none⟩ = some a0 ∧ w.cell? ⟨b, 1, none⟩ = some a1 ∧ w.cell? ⟨b, 2, none⟩ = some a2 ∧ w.cell? ⟨b, 3, none⟩ = some a3 ∧ w.cell? ⟨b, 4, none⟩ = some a4 ∧ w.cell? ⟨b, 5, none⟩ = some a5 ∧ w.cell? ⟨b, 6, none⟩ = some a6 ∧ w.cell? ⟨b, 7, none⟩ = some a7 ∧ w.cell? ⟨b, 8, none⟩ = some a8 ∧ w.cell? ⟨b, 9, none⟩ = some a9 ∧ ∀ j, w.frozen? ⟨b, j, none⟩ = false :=
  ⟨by rw [cell_of_cells h]; rfl, by rw [cell_of_cells h]; rfl, by rw [cell_of_cells h]; rfl, by rw [cell_of_cells h]; rfl, by rw [cell_of_cells h]; rfl, by rw [cell_of_cells h]; rfl, by rw [cell_of_cells h]; rfl, by rw [cell_of_cells h]; rfl, by rw [cell_of_cells h]; rfl, by rw [cell_of_cells h]; rfl, fun j => frozen_of_cells h j⟩
theorem c11 {w : World} {b : Nat} {a0 a1 a2 a3 a4 a5 a6 a7 a8 a9 a10 : Value} {t : TypeId} (h : w.heap[b]? = some (.cells #[a0, a1, a2, a3, a4, a5, a6, a7, a8, a9, a10] t (0, 0))) : w.cell? ⟨b, 0, none⟩ = some a0 ∧ w.cell? ⟨b, 1, none⟩ = some a1 ∧ w.cell? ⟨b, 2, none⟩ = some a2 ∧ w.cell? ⟨b, 3, none⟩ = some a3 ∧ w.cell? ⟨b, 4, none⟩ = some a4 ∧ w.cell? ⟨b, 5, none⟩ = some a5 ∧ w.cell? ⟨b, 6, none⟩ = some a6 ∧ w.cell? ⟨b, 7, none⟩ = some a7 ∧ w.cell? ⟨b, 8, none⟩ = some a8 ∧ w.cell? ⟨b, 9, none⟩ = some a9 ∧ w.cell? ⟨b, 10, none⟩ = some a10 ∧ ∀ j, w.frozen? ⟨b, j, none⟩ = false :=
  ⟨by rw [cell_of_cells h]; rfl, by rw [cell_of_cells h]; rfl, by rw [cell_of_cells h]; rfl, by rw [cell_of_cells h]; rfl, by rw [cell_of_cells h]; rfl, by rw [cell_of_cells h]; rfl, by rw [cell_of_cells h]; rfl, by rw [cell_of_cells h]; rfl, by rw [cell_of_cells h]; rfl, by rw [cell_of_cells h]; rfl, by rw [cell_of_cells h]; rfl, fun j => frozen_of_cells h j⟩
theorem c12 {w : World} {b : Nat} {a0 a1 a2 a3 a4 a5 a6 a7 a8 a9 a10 a11 : Value} {t : TypeId} (h : w.heap[b]? = some (.cells #[a0, a1, a2, a3, a4, a5, a6, a7, a8, a9, a10, a11] t (0, 0))) : w.cell? ⟨b, 0, none⟩ = some a0 ∧ w.cell? ⟨b, 1, none⟩ = some a1 ∧ w.cell? ⟨b, 2, none⟩ = some a2 ∧ w.cell? ⟨b, 3, none⟩ = some a3 ∧ w.cell? ⟨b, 4, none⟩ = some a4 ∧ w.cell? ⟨b, 5, none⟩ = some a5 ∧ w.cell? ⟨b, 6, none⟩ = some a6 ∧ w.cell? ⟨b, 7, none⟩ = some a7 ∧ w.cell? ⟨b, 8, none⟩ = some a8 ∧ w.cell? ⟨b, 9, none⟩ = some a9 ∧ w.cell? ⟨b, 10, none⟩ = some a10 ∧ w.cell? ⟨b, 11, none⟩ = some a11 ∧ ∀ j, w.frozen? ⟨b, j, none⟩ = false :=
  ⟨by rw [cell_of_cells h]; rfl, by rw [cell_of_cells h]; rfl, by rw [cell_of_cells h]; rfl, by rw [cell_of_cells h]; rfl, by rw [cell_of_cells h]; rfl, by rw [cell_of_cells h]; rfl, by rw [cell_of_cells h]; rfl, by rw [cell_of_cells h]; rfl, by rw [cell_of_cells h]; rfl, by rw [cell_of_cells h]; rfl, by rw [cell_of_cells h]; rfl, by rw [cell_of_cells h]; rfl, fun j => frozen_of_cells h j⟩
end Go.Proofs.YtbchcipjpcdhfaaGreatDoor.Bk
/- The document's lex: Plain, Quote. -/
namespace Go.Proofs.YtbchcipjpcdhfaaGreatDoor.Lx
open Go.RowKit

set_option maxHeartbeats 800000 in
theorem rdigit_any (c : Int) (w : World) :
    Calls Tryz.prog 98 #[.int .u8 c] w fun e w' => e = .returned (.bool (digitI c)) ∧ w = w' := by
  by_cases h2 : 48 ≤ c
  · by_cases h3 : c ≤ 57
    · have HR := Lib.hid (show digitI c = true by simp [digitI]; omega)
      go_enter Tryz.func98, Tryz.ntmps98
      go_wp2_with fail
      go_ret
      exact ⟨ret_bool HR.out.symm, rfl⟩
    · have h3' := decide_eq_false h3
      have HR := Lib.hid (show digitI c = false by simp [digitI]; omega)
      go_enter Tryz.func98, Tryz.ntmps98
      go_wp2_with fail
      go_ret
      exact ⟨ret_bool HR.out.symm, rfl⟩
  · have h2' := decide_eq_false h2
    have HR := Lib.hid (show digitI c = false by simp [digitI]; omega)
    go_enter Tryz.func98, Tryz.ntmps98
    go_wp2_with fail
    go_ret
    exact ⟨ret_bool HR.out.symm, rfl⟩
/-- signs alone, at least one, the first one no digit -/
def signsB (l : List UInt8) : Bool := (l.all fun c => signI c.toNat) && !l.isEmpty && !digitI (l.getD 0 0).toNat
theorem plain_split (l : List UInt8) : plainB l = (mayB l && signsB l && !resB l) := by
  unfold plainB signsB mayB
  have himp : (l.all fun c => signI c.toNat) = true → (l.all fun c => insideI c.toNat) = true := fun h => by
    rw [List.all_eq_true] at h ⊢
    intro c hc
    have := h c hc
    simp [signI] at this
    simp [insideI]
    omega
  cases hs : (l.all fun c => signI c.toNat) with
  | false => simp
  | true => rw [himp hs]; cases l.isEmpty <;> cases decide (l.length ≤ 100) <;> cases digitI (l.getD 0 0).toNat <;> cases resB l <;> rfl
set_option maxHeartbeats 1600000 in
theorem rsigns_any (s : ByteArray) (w : World) (hs : (s.size : Int) ≤ 9223372036854775807) :
    Calls Tryz.prog 126 #[.string s] w fun e w' => e = .returned (.bool (signsB (bs s))) ∧ w = w' := by
  have HM := Lib.hid (show signsB (bs s) = (((bs s).all fun c => signI c.toNat) && !(bs s).isEmpty && !digitI ((bs s).getD 0 0).toNat) from rfl)
  go_enter Tryz.func126, Tryz.ntmps126
  go_wp2_with fail
  go_loop [3] (fun v => ∃ k : Nat, k ≤ s.size ∧ v = .int .i64 k ∧ ((bs s).take k).all (fun c => signI c.toNat) = true) (fun v => s.size - (intOf v).toNat)
  case atStart => exact ⟨0, Nat.zero_le _, rfl, rfl⟩
  case round =>
    obtain ⟨k, hk, rfl, hall⟩ := hrel
    have HA := Lib.hid hall
    clear hall
    by_cases hlt : k < s.size
    · have hlt2 : (k : Int) < (s.size : Int) := by omega
      have HC := Lib.hid (rsign_any (s[k].toNat : Int) w (by omega) (by have := s[k].toNat_lt; omega))
      have HT := Lib.hid (bs_next hlt)
      have HMm := Lib.hid (bs_mem hlt)
      cases hb : signI (s[k].toNat : Int) with
      | true =>
        have HB := Lib.hid hb
        rw [hb] at HC
        clear hb
        go_wp2_with fail
        refine HC.out.mono ?_
        rintro e w' ⟨rfl, rfl⟩
        go_wp2_with fail
        go_round
        case rel => exact ⟨k + 1, by omega, by go_num, by rw [HT.out, List.all_append, HA.out]; simp [HB.out]⟩
        case measure => simp [intOf]; omega
      | false =>
        have HB := Lib.hid (show signsB (bs s) = false from by rw [HM.out, Bool.and_assoc, Bool.and_eq_false_iff]; left; rw [Bool.eq_false_iff]; intro h; rw [List.all_eq_true] at h; have := h _ HMm.out; rw [hb] at this; cases this)
        rw [hb] at HC
        clear hb
        go_wp2_with fail
        refine HC.out.mono ?_
        rintro e w' ⟨rfl, rfl⟩
        go_wp2_with fail
        go_ret
        exact ⟨ret_bool HB.out.symm, rfl⟩
    · obtain rfl : k = s.size := by omega
      have HB := Lib.hid (show signsB (bs s) = (!(bs s).isEmpty && !digitI ((bs s).getD 0 0).toNat) from by have h := HA.out; rw [List.take_of_length_le (by rw [bs_length]; omega)] at h; rw [HM.out, h, Bool.true_and])
      by_cases h0 : 0 < s.size
      · have h0' : (0 : Int) < (s.size : Int) := by omega
        have hne : s.toList.isEmpty = false := by rw [bs_toList, List.isEmpty_eq_false_iff, ← List.length_pos_iff, bs_length]; exact h0
        have e0 : (bs s).getD 0 0 = s[0] := by rw [List.getD_eq_getElem?_getD, bs_at h0]; rfl
        have HD := Lib.hid (rdigit_any (s[0].toNat : Int) w)
        replace HB := Lib.hid (show signsB (bs s) = !digitI (s[0].toNat : Int) by rw [HB.out, ← bs_toList, hne, bs_toList, e0]; rfl)
        clear e0
        go_wp2_with fail
        refine HD.out.mono ?_
        rintro e w' ⟨rfl, rfl⟩
        go_wp2_with fail
        go_ret
        exact ⟨ret_bool HB.out.symm, rfl⟩
      · have hb : bs s = [] := List.length_eq_zero_iff.1 (by rw [bs_length]; omega)
        have hne : s.toList = [] := by rw [bs_toList]; exact hb
        replace HB := Lib.hid (show signsB (bs s) = false by rw [HB.out, hb]; rfl)
        clear hb h0 hlt
        go_wp2_with fail
        go_ret
        exact ⟨ret_bool HB.out.symm, rfl⟩
set_option maxHeartbeats 1600000 in
theorem rplain_any (s : ByteArray) (w : World) (hs : (s.size : Int) ≤ 9223372036854775807) :
    Calls Tryz.prog 115 #[.string s] w fun e w' => e = .returned (.bool (plainB (bs s))) ∧ w = w' := by
  have H1 := Lib.hid (rmay_any s w hs)
  have H2 := Lib.hid (rsigns_any s w hs)
  have H3 := Lib.hid (rreserved_any s w)
  have HM := Lib.hid (plain_split (bs s))
  generalize plainB (bs s) = p at *
  generalize mayB (bs s) = a at *
  generalize signsB (bs s) = b at *
  generalize resB (bs s) = c at *
  cases a with
  | false =>
    go_enter Tryz.func115, Tryz.ntmps115
    go_wp2_with fail
    refine (H1.out).mono ?_
    rintro e w' ⟨rfl, rfl⟩
    go_wp2_with fail
    go_ret
    exact ⟨ret_bool (by rw [HM.out]; rfl), rfl⟩
  | true =>
    cases b with
    | false =>
      go_enter Tryz.func115, Tryz.ntmps115
      go_wp2_with fail
      refine (H1.out).mono ?_
      rintro e w' ⟨rfl, rfl⟩
      go_wp2_with fail
      refine (H2.out).mono ?_
      rintro e w' ⟨rfl, rfl⟩
      go_wp2_with fail
      go_ret
      exact ⟨ret_bool (by rw [HM.out]; rfl), rfl⟩
    | true =>
      go_enter Tryz.func115, Tryz.ntmps115
      go_wp2_with fail
      refine (H1.out).mono ?_
      rintro e w' ⟨rfl, rfl⟩
      go_wp2_with fail
      refine (H2.out).mono ?_
      rintro e w' ⟨rfl, rfl⟩
      go_wp2_with fail
      refine (H3.out).mono ?_
      rintro e w' ⟨rfl, rfl⟩
      go_wp2_with fail
      go_ret
      exact ⟨ret_bool (by rw [HM.out]; rfl), rfl⟩
set_option maxHeartbeats 1600000 in
theorem rquote_any (s : ByteArray) (w : World) (hs : (s.size : Int) ≤ 140737488351232) :
    Calls Tryz.prog 94 #[.string s] w fun e w' => e = .returned (.string (quoteS s)) ∧ w = w' := by
  have HP := Lib.hid (rplain_any s w (by omega))
  have HR := Lib.hid (rreserved_any s w)
  have HM := Lib.hid (show quoteS s = if plainB (bs s) || resB (bs s) then s else { data := #[124] } ++ s ++ { data := #[124] } from rfl)
  generalize plainB (bs s) = p at *
  generalize resB (bs s) = r at *
  cases p with
  | true =>
    go_enter Tryz.func94, Tryz.ntmps94
    go_wp2_with fail
    refine (HP.out).mono ?_
    rintro e w' ⟨rfl, rfl⟩
    go_wp2_with fail
    go_ret
    exact ⟨by rw [HM.out]; rfl, rfl⟩
  | false =>
    cases r with
    | true =>
      go_enter Tryz.func94, Tryz.ntmps94
      go_wp2_with fail
      refine (HP.out).mono ?_
      rintro e w' ⟨rfl, rfl⟩
      go_wp2_with fail
      refine (HR.out).mono ?_
      rintro e w' ⟨rfl, rfl⟩
      go_wp2_with fail
      go_ret
      exact ⟨by rw [HM.out]; rfl, rfl⟩
    | false =>
      go_enter Tryz.func94, Tryz.ntmps94
      go_wp2_with fail
      refine (HP.out).mono ?_
      rintro e w' ⟨rfl, rfl⟩
      go_wp2_with fail
      refine (HR.out).mono ?_
      rintro e w' ⟨rfl, rfl⟩
      go_wp2_with fail
      go_ret
      exact ⟨by rw [HM.out]; rfl, rfl⟩
end Go.Proofs.YtbchcipjpcdhfaaGreatDoor.Lx
/- The document's tokens: what goes over white space, signs, names between bars. -/
namespace Go.Proofs.YtbchcipjpcdhfaaGreatDoor.Dt
open Go.RowKit

/-- what is left of a text from a byte on -/
def from_ (s : ByteArray) (k : Nat) : List UInt8 := (Lx.bs s).drop k
theorem from_at {s : ByteArray} {k : Nat} (hk : k < s.size) : from_ s k = s[k] :: from_ s (k + 1) := by
  unfold from_
  have h : k < (Lx.bs s).length := by rw [Lx.bs_length]; exact hk
  rw [List.drop_eq_getElem_cons h]
  congr 1
theorem from_end {s : ByteArray} {k : Nat} (hk : s.size ≤ k) : from_ s k = [] := by
  unfold from_
  exact List.drop_eq_nil_of_le (by rw [Lx.bs_length]; exact hk)
theorem from_len (s : ByteArray) (k : Nat) : (from_ s k).length = s.size - k := by unfold from_; rw [List.length_drop, Lx.bs_length]
/-- the place of what is left -/
def at_ (s : ByteArray) (l : List UInt8) : Nat := s.size - l.length
theorem from_of_suffix {s : ByteArray} {l : List UInt8} {k : Nat} (h : l <:+ from_ s k) : from_ s (at_ s l) = l ∧ at_ s l ≤ s.size ∧ (k ≤ s.size → k ≤ at_ s l) := by
  have hl := h.length_le
  rw [from_len] at hl
  have hs : l <:+ Lx.bs s := h.trans (List.drop_suffix _ _)
  have := suffix_drop hs
  rw [Lx.bs_length] at this
  refine ⟨this, Nat.sub_le _ _, fun hk => ?_⟩
  unfold at_
  omega
theorem at_from {s : ByteArray} {k : Nat} (hk : k ≤ s.size) : at_ s (from_ s k) = k := by unfold at_; rw [from_len]; omega
def skipP (s : ByteArray) (k : Nat) : Nat := at_ s (skipL false (from_ s k))
theorem skip_white {c : UInt8} {r : List UInt8} (h : Lx.whiteI (c.toNat : Int) = true) : skipL false (c :: r) = skipL false r := by rw [skipL, if_pos h]
theorem skip_semi {c : UInt8} {r : List UInt8} (h : Lx.whiteI (c.toNat : Int) = false) (h2 : (c.toNat : Int) = 59) : skipL false (c :: r) = skipL true (c :: r) := by
  have h3 : ¬ (c.toNat : Int) = 10 := by omega
  conv => lhs; rw [skipL, if_neg (by rw [h]; decide), if_pos h2]
  rw [skipL, if_neg h3]
theorem skip_in {c : UInt8} {r : List UInt8} (h : ¬ (c.toNat : Int) = 10) : skipL true (c :: r) = skipL true r := by rw [skipL, if_neg h]
theorem skip_nl {c : UInt8} {r : List UInt8} (h : (c.toNat : Int) = 10) : skipL true (c :: r) = skipL false (c :: r) := by
  rw [skipL, if_pos h, skip_white (by rw [h]; decide)]
theorem skip_stop {c : UInt8} {r : List UInt8} (h : Lx.whiteI (c.toNat : Int) = false) (h2 : ¬ (c.toNat : Int) = 59) : skipL false (c :: r) = c :: r := by rw [skipL, h, if_neg (by decide), if_neg h2]
set_option maxHeartbeats 3200000 in
theorem rskip_any (s : ByteArray) (p : Nat) (w : World) (hp : p ≤ s.size) (hs : s.size ≤ 140737488351232) :
    Calls Tryz.prog 95 #[.string s, .int .i64 p] w fun e w' => e = .returned (.int .i64 (skipP s p)) ∧ w = w' := by
  have hmn : min (p : Int) (s.size : Int) = p := by omega
  have hmx : max (0 : Int) (p : Int) = p := by omega
  have HMn := Lib.hid hmn
  go_enter Tryz.func95, Tryz.ntmps95
  go_wp2_with fail
  all_goals
    go_loop [1] (fun v => ∃ k : Nat, k ≤ s.size ∧ v = .int .i64 k ∧ skipL false (from_ s k) = skipL false (from_ s p)) (fun v => s.size - (intOf v).toNat)
    case atStart => exact ⟨p, hp, by first | rfl | go_num, rfl⟩
    case round =>
      obtain ⟨k, hk, rfl, hl⟩ := hrel
      have HL := Lib.hid hl
      clear hl
      by_cases hlt : k < s.size
      · have hlt2 : (k : Int) < (s.size : Int) := by omega
        have HF := Lib.hid (from_at hlt)
        have HW := Lib.hid (Lx.rwhite_any (s[k].toNat : Int) w)
        cases hb : Lx.whiteI (s[k].toNat : Int) with
        | true =>
          have HB := Lib.hid (show skipL false (from_ s (k + 1)) = skipL false (from_ s p) by rw [← HL.out, HF.out, skip_white hb])
          rw [hb] at HW
          clear hb
          go_wp2_with fail
          refine HW.out.mono ?_
          rintro e w' ⟨rfl, rfl⟩
          go_wp2_with fail
          go_round
          case rel => exact ⟨k + 1, by omega, by go_num, HB.out⟩
          case measure => simp [intOf]; omega
        | false =>
          have HNw := Lib.hid hb
          rw [hb] at HW
          clear hb
          by_cases h59 : (s[k].toNat : Int) = 59
          · have h59' : ((s[k].toNat : Int) == 59) = true := by simp [h59]
            have HB := Lib.hid (show skipL true (from_ s k) = skipL false (from_ s p) by rw [← HL.out, HF.out, skip_semi HNw.out h59])
            have HKn := Lib.hid (show (s[k].toNat : Int) = 59 from h59)
            clear h59
            go_wp2_with fail
            refine HW.out.mono ?_
            rintro e w' ⟨rfl, rfl⟩
            go_wp2_with fail
            go_loop [1] (fun v => ∃ j : Nat, k ≤ j ∧ j ≤ s.size ∧ v = .int .i64 j ∧ skipL true (from_ s j) = skipL false (from_ s p)) (fun v => s.size - (intOf v).toNat)
            case atStart => exact ⟨k, Nat.le_refl _, hk, rfl, HB.out⟩
            case round =>
              obtain ⟨j, hkj, hj, rfl, hl⟩ := hrel
              have HJ := Lib.hid hl
              clear hl
              by_cases hjl : j < s.size
              · have hjl2 : (j : Int) < (s.size : Int) := by omega
                have HF2 := Lib.hid (from_at hjl)
                by_cases h10 : (s[j].toNat : Int) = 10
                · have h10' : ((s[j].toNat : Int) != 10) = false := by simp [h10]
                  have HB2 := Lib.hid (show skipL false (from_ s j) = skipL false (from_ s p) by rw [← HJ.out, HF2.out, skip_nl h10])
                  have hkj2 : k < j := by
                    rcases Nat.lt_or_ge k j with h | h
                    · exact h
                    · exfalso
                      obtain rfl : j = k := by omega
                      have := HKn.out
                      omega
                  clear h10
                  go_wp2_with fail
                  go_round
                  case rel => exact ⟨j, hj, rfl, HB2.out⟩
                  case measure => simp [intOf]; omega
                · have h10' : ((s[j].toNat : Int) != 10) = true := by simp [h10]
                  have HB2 := Lib.hid (show skipL true (from_ s (j + 1)) = skipL false (from_ s p) by rw [← HJ.out, HF2.out, skip_in h10])
                  clear h10
                  go_wp2_with fail
                  go_round
                  case rel => exact ⟨j + 1, by omega, by omega, by go_num, HB2.out⟩
                  case measure => simp [intOf]; omega
              · obtain rfl : j = s.size := by omega
                have HB2 := Lib.hid (show skipL false (from_ s s.size) = skipL false (from_ s p) by rw [← HJ.out, from_end (Nat.le_refl _)]; rfl)
                go_wp2_with fail
                go_round
                case rel => exact ⟨s.size, Nat.le_refl _, rfl, HB2.out⟩
                case measure => simp [intOf]; omega
          · have h59' : ((s[k].toNat : Int) == 59) = false := by simp [h59]
            have HP := Lib.hid (show skipP s p = k by unfold skipP; rw [← HL.out, HF.out, skip_stop HNw.out h59, ← HF.out, at_from hk])
            clear h59
            go_wp2_with fail
            refine HW.out.mono ?_
            rintro e w' ⟨rfl, rfl⟩
            go_wp2_with fail
            go_ret
            exact ⟨ret_int (by rw [HP.out]), rfl⟩
      · obtain rfl : k = s.size := by omega
        have HP := Lib.hid (show skipP s p = s.size by unfold skipP; rw [← HL.out, from_end (Nat.le_refl _)]; rfl)
        go_wp2_with fail
        go_ret
        exact ⟨ret_int (by rw [HP.out]), rfl⟩
/-- how many signs stand from a byte on -/
def runN (s : ByteArray) (k : Nat) : Nat := ((from_ s k).takeWhile sgn).length
theorem runN_more {s : ByteArray} {k : Nat} (hk : k < s.size) (h : Lx.signI (s[k].toNat : Int) = true) : runN s k = runN s (k + 1) + 1 := by
  unfold runN
  rw [from_at hk, List.takeWhile_cons, show sgn s[k] = true from h, if_pos rfl, List.length_cons]
theorem runN_stop {s : ByteArray} {k : Nat} (hk : k < s.size) (h : Lx.signI (s[k].toNat : Int) = false) : runN s k = 0 := by
  unfold runN
  rw [from_at hk, List.takeWhile_cons, show sgn s[k] = false from h]
  rfl
theorem runN_end {s : ByteArray} {k : Nat} (hk : s.size ≤ k) : runN s k = 0 := by
  unfold runN
  rw [from_end hk]
  rfl
theorem runN_le (s : ByteArray) (k : Nat) : runN s k ≤ s.size - k := by
  unfold runN
  rw [← from_len]
  exact (List.takeWhile_prefix _).length_le
set_option maxHeartbeats 3200000 in
theorem rrun_any (s : ByteArray) (p : Nat) (w : World) (hp : p ≤ s.size) (hs : s.size ≤ 140737488351232) :
    Calls Tryz.prog 96 #[.string s, .int .i64 p] w fun e w' => e = .returned (.int .i64 (p + runN s p : Nat)) ∧ w = w' := by
  go_enter Tryz.func96, Tryz.ntmps96
  go_wp2_with fail
  go_loop [1] (fun v => ∃ k : Nat, k ≤ s.size ∧ v = .int .i64 k ∧ k + runN s k = p + runN s p) (fun v => s.size - (intOf v).toNat)
  case atStart => exact ⟨p, hp, rfl, rfl⟩
  case round =>
    obtain ⟨k, hk, rfl, hl⟩ := hrel
    have HL := Lib.hid hl
    clear hl
    by_cases hlt : k < s.size
    · have hlt2 : (k : Int) < (s.size : Int) := by omega
      have HS := Lib.hid (Lx.rsign_any (s[k].toNat : Int) w (by omega) (by have := s[k].toNat_lt; omega))
      cases hb : Lx.signI (s[k].toNat : Int) with
      | true =>
        have HB := Lib.hid (show (k + 1) + runN s (k + 1) = p + runN s p by have := HL.out; have := runN_more hlt hb; omega)
        rw [hb] at HS
        clear hb
        go_wp2_with fail
        refine HS.out.mono ?_
        rintro e w' ⟨rfl, rfl⟩
        go_wp2_with fail
        go_round
        case rel => exact ⟨k + 1, by omega, by go_num, HB.out⟩
        case measure => simp [intOf]; omega
      | false =>
        have HB := Lib.hid (show k = p + runN s p by have := HL.out; have := runN_stop hlt hb; omega)
        rw [hb] at HS
        clear hb
        go_wp2_with fail
        refine HS.out.mono ?_
        rintro e w' ⟨rfl, rfl⟩
        go_wp2_with fail
        go_ret
        exact ⟨ret_int (by have := HB.out; omega), rfl⟩
    · obtain rfl : k = s.size := by omega
      have HB := Lib.hid (show s.size = p + runN s p by have := HL.out; have := runN_end (Nat.le_refl s.size); omega)
      go_wp2_with fail
      go_ret
      exact ⟨ret_int (by have := HB.out; omega), rfl⟩
theorem num_parts {s : ByteArray} (h : isNum (Lx.bs s) = true) : (∀ k (hk : k < s.size), Lx.digitI (s[k].toNat : Int) = true) ∧ (s.toList.isEmpty = false) ∧ 0 < s.size ∧ ((s.toList == [48]) = false → ∀ h : 0 < s.size, ((s[0].toNat : Int) == 48) = false) := by
  obtain ⟨h1, h2, h3⟩ := isNum_iff.1 h
  have hz : 0 < s.size := by rw [← Lx.bs_length]; exact List.length_pos_iff.2 h1
  refine ⟨fun k hk => ?_, ?_, hz, fun h4 h5 => ?_⟩
  · have := h3 _ (Lx.bs_mem hk)
    unfold isDig at this
    exact this
  · rw [Lx.bs_toList]
    cases hb : Lx.bs s with
    | nil => exact absurd hb h1
    | cons a b => rfl
  · rw [Lx.bs_toList] at h4
    have h6 : Lx.bs s = s[0] :: from_ s 1 := by have := from_at hz; unfold from_ at this; rw [List.drop_zero] at this; exact this
    rw [beq_eq_false_iff_ne]
    intro h7
    have h8 : s[0] = 48 := by apply UInt8.toNat_inj.1; show s[0].toNat = 48; omega
    by_cases h9 : 1 < (Lx.bs s).length
    · have := h2 h9
      rw [h6] at this
      simp at this
      exact this h8
    · have h10 : (from_ s 1) = [] := by rw [← List.length_eq_zero_iff]; rw [h6, List.length_cons] at h9; omega
      rw [h6, h10, h8] at h4
      simp at h4
set_option maxHeartbeats 3200000 in
theorem rnumeral_any (s : ByteArray) (w : World) (hn : isNum (Lx.bs s) = true) (hs : s.size ≤ 140737488351232) :
    Calls Tryz.prog 99 #[.string s] w fun e w' => e = .returned (.bool true) ∧ w = w' := by
  obtain ⟨hd, hne, hz, h48⟩ := num_parts hn
  have HD := Lib.hid hd
  have H48 := Lib.hid h48
  clear hd hn h48
  go_enter Tryz.func99, Tryz.ntmps99
  go_wp2_with fail
  go_loop [3] (fun v => ∃ k : Nat, k ≤ s.size ∧ v = .int .i64 k) (fun v => s.size - (intOf v).toNat)
  case atStart => exact ⟨0, Nat.zero_le _, rfl⟩
  case round =>
    obtain ⟨k, hk, rfl⟩ := hrel
    by_cases hlt : k < s.size
    · have hlt2 : (k : Int) < (s.size : Int) := by omega
      have HS := Lib.hid (Lx.rdigit_any (s[k].toNat : Int) w)
      rw [HD.out k hlt] at HS
      go_wp2_with fail
      refine HS.out.mono ?_
      rintro e w' ⟨rfl, rfl⟩
      go_wp2_with fail
      go_round
      case rel => exact ⟨k + 1, by omega, by go_num⟩
      case measure => simp [intOf]; omega
    · obtain rfl : k = s.size := by omega
      have hne2 : (s.toList == []) = false := by cases hx : s.toList with | nil => rw [hx] at hne; cases hne | cons a b => rfl
      have hne3 : (s.toList != []) = true := by rw [bne, hne2]; rfl
      cases hb : (s.toList == [48]) with
      | true =>
        go_wp2_with fail
        go_ret
        exact ⟨rfl, rfl⟩
      | false =>
        have hq := H48.out hb hz
        have hq2 : ((s[0].toNat : Int) != 48) = true := by rw [bne, hq]; rfl
        go_wp2_with fail
        go_ret
        exact ⟨rfl, rfl⟩
theorem extract_from (s : ByteArray) (i j : Nat) : s.extract i j = ⟨((from_ s i).take (j - i)).toArray⟩ := by
  apply Lx.bs_inj.1
  rw [Lx.bs_mk]
  unfold Lx.bs from_ Lx.bs
  simp
set_option maxHeartbeats 3200000 in
theorem rquoted_any (s : ByteArray) (p : Nat) (w : World) (hp : p < s.size) (hs : s.size ≤ 140737488351232) (n t : List UInt8) (hq : quotedL (from_ s (p + 1)) = some (n, t)) (hn : n.length ≤ 100) :
    Calls Tryz.prog 97 #[.string s, .int .i64 p] w fun e w' => e = .returned (.tuple #[.string ⟨n.toArray⟩, .int .i64 (at_ s t), .bool true]) ∧ w = w' := by
  have HQ := Lib.hid hq
  have HN := Lib.hid hn
  clear hq hn
  go_enter Tryz.func97, Tryz.ntmps97
  go_wp2_with fail
  go_loop [7] (fun v => ∃ (k : Nat) (m : List UInt8), p + 1 ≤ k ∧ k ≤ s.size ∧ v = .int .i64 k ∧ quotedL (from_ s k) = some (m, t) ∧ n = (from_ s (p + 1)).take (k - (p + 1)) ++ m) (fun v => s.size - (intOf v).toNat)
  case atStart => exact ⟨p + 1, n, Nat.le_refl _, hp, by go_num, HQ.out, by simp⟩
  case round =>
    obtain ⟨k, m, hpk, hk, rfl, hl, he⟩ := hrel
    have HL := Lib.hid hl
    have HE := Lib.hid he
    clear hl he
    by_cases hlt : k < s.size
    · have hlt2 : (k : Int) < (s.size : Int) := by omega
      by_cases hc : (s[k].toNat : Int) = 124
      · have hc' : ((s[k].toNat : Int) == 124) = true := by simp [hc]
        have hfin : m = [] ∧ t = from_ s (k + 1) := by
          have h := HL.out
          rw [from_at hlt, quotedL, if_pos hc] at h
          simp only [Option.some.injEq, Prod.mk.injEq] at h
          exact ⟨h.1.symm, h.2.symm⟩
        have HNN := Lib.hid (show n = (from_ s (p + 1)).take (k - (p + 1)) by rw [HE.out, hfin.1, List.append_nil])
        have HT := Lib.hid (show at_ s t = k + 1 by rw [hfin.2]; exact at_from hlt)
        have h100 : (k : Int) - p - 1 ≤ 100 := by
          have h1 := HN.out
          rw [HNN.out, List.length_take, from_len] at h1
          omega
        clear hfin hc
        go_wp2_with fail
        go_ret3
        refine ⟨?_, rfl⟩
        show Ending.returned (.tuple #[.string (s.extract (p + 1) k), .int .i64 ((k : Int) + 1), .bool true]) = _
        rw [extract_from s (p + 1) k, ← HNN.out, HT.out]
        rfl
      · have hc' : ((s[k].toNat : Int) == 124) = false := by simp [hc]
        have HI := Lib.hid (Lx.rinside_any (s[k].toNat : Int) w)
        have hstep : Lx.insideI (s[k].toNat : Int) = true ∧ ∃ m', m = s[k] :: m' ∧ quotedL (from_ s (k + 1)) = some (m', t) := by
          have h := HL.out
          rw [from_at hlt, quotedL, if_neg hc] at h
          split at h
          · rename_i hin
            cases hq : quotedL (from_ s (k + 1)) with
            | none => rw [hq] at h; simp at h
            | some q =>
              rw [hq] at h
              simp only [Option.map_some, Option.some.injEq, Prod.mk.injEq] at h
              exact ⟨hin, q.1, h.1.symm, by rw [← h.2]⟩
          · cases h
        obtain ⟨hin, m', hm, hq'⟩ := hstep
        rw [hin] at HI
        have HE2 := Lib.hid (show n = (from_ s (p + 1)).take (k + 1 - (p + 1)) ++ m' by
          rw [HE.out, hm, show k + 1 - (p + 1) = (k - (p + 1)) + 1 by omega, List.take_add_one]
          have : (from_ s (p + 1))[k - (p + 1)]? = some s[k] := by
            unfold from_
            rw [List.getElem?_drop, show p + 1 + (k - (p + 1)) = k by omega]
            exact Lx.bs_at hlt
          rw [this]
          simp)
        have HQ2 := Lib.hid hq'
        clear hin hm hq' hc
        go_wp2_with fail
        refine HI.out.mono ?_
        rintro e w' ⟨rfl, rfl⟩
        go_wp2_with fail
        go_round
        case rel => exact ⟨k + 1, m', by omega, by omega, by go_num, HQ2.out, HE2.out⟩
        case measure => simp [intOf]; omega
    · exfalso
      have h := HL.out
      rw [from_end (by omega)] at h
      cases h
end Go.Proofs.YtbchcipjpcdhfaaGreatDoor.Dt
/- The document's tokens: the token behind a byte, where there is one. -/
namespace Go.Proofs.YtbchcipjpcdhfaaGreatDoor.Dt
open Go.RowKit

theorem take_run (s : ByteArray) (j : Nat) : (from_ s j).takeWhile sgn = (from_ s j).take (runN s j) := List.prefix_iff_eq_take.1 (List.takeWhile_prefix _)
theorem extract_run (s : ByteArray) (j : Nat) : s.extract j (j + runN s j) = ⟨((from_ s j).takeWhile sgn).toArray⟩ := by
  rw [extract_from, take_run, show j + runN s j - j = runN s j by omega]
theorem at_run {s : ByteArray} {j : Nat} (hj : j ≤ s.size) : at_ s ((from_ s j).dropWhile sgn) = j + runN s j := by
  have h := congrArg List.length (List.takeWhile_append_dropWhile (p := sgn) (l := from_ s j))
  rw [List.length_append, from_len] at h
  unfold at_
  have h2 := runN_le s j
  unfold runN at *
  omega
theorem tok_ret {f : Func} {w : World} {b : Nat} {r0 r1 r2 r3 : Value} {o : Bool} {E : Int} {act : Act} {t : TypeId} {R : Ending → World → Prop} (hf : f.results = #[.cell 4 94, .tmp 5, .tmp 6]) (hb : w.heap[b]? = some (.cells #[r0, r1, r2, r3] t (0, 0))) (h2 : act.tmps[4]? = some (.pointer (some ⟨b, 0, none⟩))) (h3 : act.tmps[5]? = some (.bool o)) (h4 : act.tmps[6]? = some (.int .i64 E)) (hd : act.defers = []) (hR : R (.returned (.tuple #[.agg #[r0, r1, r2, r3], .bool o, .int .i64 E])) w) :
    bodyPost Tryz.prog f R .ret act w := by
  obtain ⟨y0, y1, y2, y3, _⟩ := four_cells hb
  refine bodyPost_ret (v := .tuple #[.agg #[r0, r1, r2, r3], .bool o, .int .i64 E]) ?_ hd hR
  simp [results, hf, go_sem, y0, y1, y2, y3, h2, h3, h4]
/-- what is told of a token that is there -/
def TokPost (w : World) (k : Int) (t : List UInt8) (a b : Nat) (e : Ending) (w' : World) : Prop :=
  e = .returned (.tuple #[.agg #[.int .i8 k, .string ⟨t.toArray⟩, .int .i64 a, .int .i64 b], .bool true, .int .i64 0]) ∧ Below w.heap.size w w'
set_option maxRecDepth 100000 in
set_option maxHeartbeats 6400000 in
theorem rnext_any (s : ByteArray) (p : Nat) (w : World) (hp : p ≤ s.size) (hs : s.size ≤ 140737488351232) (k : Int) (t r : List UInt8) (hn : nextL (skipL false (from_ s p)) = .tok k t r) :
    Calls Tryz.prog 76 #[.string s, .int .i64 p] w (TokPost w k t (skipP s p) (at_ s r)) := by
  have hsf := from_of_suffix (s := s) (k := p) (skipL_suffix false (from_ s p))
  have hq1 : from_ s (skipP s p) = skipL false (from_ s p) := hsf.1
  have HK := Lib.hid (rskip_any s p (w.alloc (.cells #[.int .i8 0, .string { data := #[] }, .int .i64 0, .int .i64 0] 94)) hp hs)
  rw [← hq1] at hn
  have hq : skipP s p < s.size := by
    rcases Nat.lt_or_ge (skipP s p) s.size with h | h
    · exact h
    · rw [from_end h] at hn; cases hn
  clear hsf hq1
  generalize skipP s p = q at *
  have hc := from_at hq
  rw [hc, nextL_cons] at hn
  have hn1 : at_ s (from_ s (q + 1)) = q + 1 := at_from hq
  have HRun := Lib.hid (fun W => rrun_any s q W (by omega) hs)
  have HRun1 := Lib.hid (fun W => rrun_any s (q + 1) W (by omega) hs)
  have hle := runN_le s q
  have hle1 := runN_le s (q + 1)
  have Z := Lib.hid (Bk.new w (.cells #[.int .i8 0, .string { data := #[] }, .int .i64 0, .int .i64 0] 94))
  have BZ := Lib.hid ((Below.refl w.heap.size w).alloc (Nat.le_refl _) (.cells #[.int .i8 0, .string { data := #[] }, .int .i64 0, .int .i64 0] 94))
  have hq2 : (q : Int) < (s.size : Int) := by omega
  have HN := Lib.hid hn
  have HC := Lib.hid hc
  have HN1 := Lib.hid hn1
  have HLe := Lib.hid hle
  have HLe1 := Lib.hid hle1
  clear hn hc hn1 hle hle1
  go_enter Tryz.func76, Tryz.ntmps76
  go_wp2_with fail
  refine HK.out.mono ?_
  rintro e w1 ⟨rfl, rfl⟩
  generalize hw1 : w.alloc (.cells #[.int .i8 0, .string { data := #[] }, .int .i64 0, .int .i64 0] 94) = w1 at *
  have BZ2 := Lib.hid (BZ.out.alloc BZ.out.size (.cells #[.int .i8 0, .string { data := #[] }, .int .i64 q, .int .i64 0] 94))
  have Z2 := Lib.hid ((Below.heap_alloc w1 (.cells #[.int .i8 0, .string { data := #[] }, .int .i64 q, .int .i64 0] 94) _ (lt_of_block Z.out)).trans Z.out)
  clear hw1 HK
  go_wp2_with fail
  generalize w1.alloc (.cells #[.int .i8 0, .string { data := #[] }, .int .i64 q, .int .i64 0] 94) = w2 at *
  refine (HRun.out _).mono ?_
  rintro e w2' ⟨rfl, rfl⟩
  obtain ⟨z0, z1, z2, z3, zf⟩ := four_cells Z2.out
  by_cases h40 : (s[q].toNat : Int) = 40
  · have h40' : ((s[q].toNat : Int) == 40) = true := by simp [h40]
    have hh := HN.out
    rw [if_pos h40] at hh
    obtain ⟨rfl, rfl, rfl⟩ : 0 = k ∧ [] = t ∧ from_ s (q + 1) = r := by simpa using hh
    clear h40 hh HN HRun1
    go_wp2_with fail
    refine tok_ret (w := set4 w2 w.heap.size (.int .i8 0) (.string { data := #[] }) (.int .i64 q) (.int .i64 (q + 1))) Tryz.results76 (four_set Z2.out _ _ _ _) rfl rfl rfl rfl ⟨?_, set4_below BZ2.out (Nat.le_refl _) _ _ _ _⟩
    rw [HN1.out]; rfl
  · have h40' : ((s[q].toNat : Int) == 40) = false := by simp [h40]
    by_cases h41 : (s[q].toNat : Int) = 41
    · have h41' : ((s[q].toNat : Int) == 41) = true := by simp [h41]
      have hh := HN.out
      rw [if_neg h40, if_pos h41] at hh
      obtain ⟨rfl, rfl, rfl⟩ : 1 = k ∧ [] = t ∧ from_ s (q + 1) = r := by simpa using hh
      clear h40 h41 hh HN HRun1
      go_wp2_with fail
      refine tok_ret (w := set4 w2 w.heap.size (.int .i8 1) (.string { data := #[] }) (.int .i64 q) (.int .i64 (q + 1))) Tryz.results76 (four_set Z2.out _ _ _ _) rfl rfl rfl rfl ⟨?_, set4_below BZ2.out (Nat.le_refl _) _ _ _ _⟩
      rw [HN1.out]; rfl
    have h41' : ((s[q].toNat : Int) == 41) = false := by simp [h41]
    by_cases h124 : (s[q].toNat : Int) = 124
    · have h124' : ((s[q].toNat : Int) == 124) = true := by simp [h124]
      have hh := HN.out
      rw [if_neg h40, if_neg h41, if_pos h124] at hh
      have hqq : quotedL (from_ s (q + 1)) = some (t, r) ∧ t.length ≤ 100 ∧ 2 = k := by
        cases hqq : quotedL (from_ s (q + 1)) with
        | none => rw [hqq] at hh; cases hh
        | some pr =>
          rw [hqq] at hh
          simp only at hh
          split at hh
          · rename_i h100
            simp only [Tk.tok.injEq] at hh
            obtain ⟨h1, h2, h3⟩ := hh
            subst h2 h3
            exact ⟨rfl, h100, h1⟩
          · cases hh
      obtain ⟨hqq, h100, rfl⟩ := hqq
      have HQ := Lib.hid (fun W => rquoted_any s q W hq hs t r hqq h100)
      clear h40 h41 h124 hh HN HRun1 hqq h100
      go_wp2_with fail
      refine (HQ.out _).mono ?_
      rintro e w3 ⟨rfl, rfl⟩
      go_wp2_with fail
      exact tok_ret (w := set4 w2 w.heap.size (.int .i8 2) (.string ⟨t.toArray⟩) (.int .i64 q) (.int .i64 (at_ s r))) Tryz.results76 (four_set Z2.out _ _ _ _) rfl rfl rfl rfl ⟨rfl, set4_below BZ2.out (Nat.le_refl _) _ _ _ _⟩
    have h124' : ((s[q].toNat : Int) == 124) = false := by simp [h124]
    by_cases h58 : (s[q].toNat : Int) = 58
    · have h58' : ((s[q].toNat : Int) == 58) = true := by simp [h58]
      have hh := HN.out
      rw [if_neg h40, if_neg h41, if_neg h124, if_pos h58] at hh
      split at hh
      · cases hh
      rename_i hno
      simp only [Tk.tok.injEq] at hh
      obtain ⟨rfl, rfl, rfl⟩ := hh
      have hr1 : 0 < runN s (q + 1) ∧ runN s (q + 1) ≤ 100 := by unfold runN; omega
      obtain ⟨hr1, hr2⟩ := hr1
      have HX := Lib.hid (extract_run s (q + 1))
      have HA := Lib.hid (at_run (s := s) (j := q + 1) (by omega))
      have hle1 := HLe1.out
      generalize hrn : runN s (q + 1) = n at *
      have hf1 : ((q : Int) + 1 + (n : Int) == (q : Int) + 1) = false := beq_eq_false_iff_ne.2 (by omega)
      have hf2 : (q : Int) + 1 + (n : Int) - (q : Int) ≤ 101 := by omega
      have hb1 : (q : Int) + 1 + (n : Int) ≤ (s.size : Int) := by omega
      clear h40 h41 h124 h58 hno HN hrn
      go_wp2_with fail
      refine (HRun1.out _).mono ?_
      rintro e w3 ⟨rfl, rfl⟩
      go_wp2_with fail
      refine tok_ret (w := set4 w2 w.heap.size (.int .i8 4) (.string (s.extract (q + 1) (q + 1 + n))) (.int .i64 q) (.int .i64 ((q : Int) + 1 + (n : Int)))) Tryz.results76 (four_set Z2.out _ _ _ _) rfl rfl rfl rfl ⟨?_, set4_below BZ2.out (Nat.le_refl _) _ _ _ _⟩
      rw [HX.out, HA.out]; rfl
    have h58' : ((s[q].toNat : Int) == 58) = false := by simp [h58]
    have hh := HN.out
    rw [if_neg h40, if_neg h41, if_neg h124, if_neg h58, ← HC.out] at hh
    split at hh
    · cases hh
    rename_i hno
    have hr1 : 0 < runN s q ∧ runN s q ≤ 100 := by unfold runN; omega
    obtain ⟨hr1, hr2⟩ := hr1
    have HX := Lib.hid (extract_run s q)
    have HA := Lib.hid (at_run (s := s) (j := q) (by omega))
    have hle1 := HLe.out
    have HD := Lib.hid (fun W => Lx.rdigit_any (s[q].toNat : Int) W)
    have HNm := Lib.hid (fun W (h : isNum ((from_ s q).takeWhile sgn) = true) => rnumeral_any (s.extract q (q + runN s q)) W (by rw [extract_run, Lx.bs_mk]; exact h) (by
      rw [← Lx.bs_length, extract_run, Lx.bs_mk]; have := hr2; unfold runN at this; omega))
    generalize hrn : runN s q = n at *
    have hf1 : ((q : Int) + (n : Int) == (q : Int)) = false := beq_eq_false_iff_ne.2 (by omega)
    have hf2 : (q : Int) + (n : Int) - (q : Int) ≤ 100 := by omega
    have hb1 : (q : Int) + (n : Int) ≤ (s.size : Int) := by omega
    split at hh
    · rename_i hdg
      split at hh
      · rename_i hnum
        simp only [Tk.tok.injEq] at hh
        obtain ⟨rfl, rfl, rfl⟩ := hh
        replace HNm := Lib.hid (fun W => HNm.out W hnum)
        rw [hdg] at HD
        clear h40 h41 h124 h58 hno HN hrn hdg hnum HRun1
        go_wp2_with fail
        refine (HD.out _).mono ?_
        rintro e w3 ⟨rfl, rfl⟩
        go_wp2_with fail
        refine (HNm.out _).mono ?_
        rintro e w3 ⟨rfl, rfl⟩
        go_wp2_with fail
        refine tok_ret (w := set4 w2 w.heap.size (.int .i8 3) (.string (s.extract q (q + n))) (.int .i64 q) (.int .i64 ((q : Int) + (n : Int)))) Tryz.results76 (four_set Z2.out _ _ _ _) rfl rfl rfl rfl ⟨?_, set4_below BZ2.out (Nat.le_refl _) _ _ _ _⟩
        rw [HX.out, HA.out]; rfl
      · cases hh
    · rename_i hdg
      simp only [Tk.tok.injEq] at hh
      obtain ⟨rfl, rfl, rfl⟩ := hh
      rw [Bool.not_eq_true] at hdg
      rw [hdg] at HD
      clear h40 h41 h124 h58 hno HN hrn hdg HRun1 HNm
      go_wp2_with fail
      refine (HD.out _).mono ?_
      rintro e w3 ⟨rfl, rfl⟩
      go_wp2_with fail
      refine tok_ret (w := set4 w2 w.heap.size (.int .i8 2) (.string (s.extract q (q + n))) (.int .i64 q) (.int .i64 ((q : Int) + (n : Int)))) Tryz.results76 (four_set Z2.out _ _ _ _) rfl rfl rfl rfl ⟨?_, set4_below BZ2.out (Nat.le_refl _) _ _ _ _⟩
      rw [HX.out, HA.out]; rfl
end Go.Proofs.YtbchcipjpcdhfaaGreatDoor.Dt
/- Rows that a call has made, of elements that lie in memory of the call's own, each in blocks between two places. No condition. -/
namespace Go.Proofs.YtbchcipjpcdhfaaGreatDoor
open Go.RowKit

/-- alike between two places -/
def SameIn (lo hi : Nat) (w W : World) : Prop := ∀ b, lo ≤ b → b < hi → W.heap[b]? = w.heap[b]?
theorem SameIn.refl (lo hi : Nat) (w : World) : SameIn lo hi w w := fun _ _ _ => rfl
theorem SameIn.part {lo hi l2 h2 : Nat} {w W : World} (h : SameIn lo hi w W) (h1 : lo ≤ l2) (h3 : h2 ≤ hi) : SameIn l2 h2 w W := fun b a c => h b (by omega) (by omega)
theorem SameIn.trans {lo hi : Nat} {w W V : World} (h : SameIn lo hi w W) (k : SameIn lo hi W V) : SameIn lo hi w V := fun b a c => (k b a c).trans (h b a c)
theorem SameIn.of_below {lo hi : Nat} {w W : World} (h : Below w.heap.size w W) (hh : hi ≤ w.heap.size) : SameIn lo hi w W := fun b _ c => h.block b (by omega)
theorem SameIn.setCell (lo hi : Nat) (w : World) (p : Addr) (u : Value) (hp : p.block < lo ∨ hi ≤ p.block) : SameIn lo hi w (w.setCell p u) := fun b a c => Below.heap_setCell w p u b (by omega)
theorem SameIn.keeps {S : Nat → Prop} {lo hi : Nat} {w W : World} (h : Keeps S w W) (hh : hi ≤ w.heap.size) (hS : ∀ b, lo ≤ b → b < hi → ¬ S b) : SameIn lo hi w W := fun b a c => h.block b (by omega) (hS b a c)
section
variable {α : Type} {n : Nat} {val : α → List Value} {Ok : World → α → Prop}
/-- read so in all worlds that are alike between the two places -/
def InOk (Ok : World → α → Prop) (lo hi : Nat) (w : World) (y : α) : Prop := lo ≤ hi ∧ hi ≤ w.heap.size ∧ ∀ W, SameIn lo hi w W → Ok W y
theorem InOk.on {lo hi : Nat} {w W : World} {y : α} (h : InOk Ok lo hi w y) (hs : SameIn lo hi w W) (hz : w.heap.size ≤ W.heap.size) : InOk Ok lo hi W y := ⟨h.1, by have := h.2.1; omega, fun V hV => h.2.2 V (hs.trans hV)⟩
theorem InOk.below {lo hi : Nat} {w W : World} {y : α} (h : InOk Ok lo hi w y) (hb : Below w.heap.size w W) : InOk Ok lo hi W y := h.on (SameIn.of_below hb h.2.1) hb.size
theorem InOk.wide {lo hi l2 h2 : Nat} {w : World} {y : α} (h : InOk Ok lo hi w y) (h1 : l2 ≤ lo) (h3 : hi ≤ h2) (h4 : h2 ≤ w.heap.size) : InOk Ok l2 h2 w y := ⟨by have := h.1; omega, h4, fun W hW => h.2.2 W (hW.part h1 h3)⟩
theorem InOk.now {lo hi : Nat} {w : World} {y : α} (h : InOk Ok lo hi w y) : Ok w y := h.2.2 w (SameIn.refl _ _ _)
def flatV (val : α → List Value) : List α → List Value
  | [] => []
  | y :: r => val y ++ flatV val r
theorem flatV_append (a b : List α) : flatV val (a ++ b) = flatV val a ++ flatV val b := by
  induction a with
  | nil => rfl
  | cons x a ih => simp only [List.cons_append, flatV, ih, List.append_assoc]
theorem flatV_snoc (a : List α) (y : α) : flatV val (a ++ [y]) = flatV val a ++ val y := by rw [flatV_append]; simp [flatV]
theorem flatV_len (hv : ∀ y, (val y).length = n) : ∀ ys : List α, (flatV val ys).length = ys.length * n
  | [] => by simp [flatV]
  | y :: r => by simp only [flatV, List.length_append, List.length_cons, hv, flatV_len hv r, Nat.succ_mul]; omega
theorem flatV_at (hv : ∀ y, (val y).length = n) : ∀ (ys : List α) (i : Nat) (y : α), ys[i]? = some y → ∀ j u, (val y)[j]? = some u → (flatV val ys)[i * n + j]? = some u
  | [], i, y, h => by simp at h
  | y0 :: r, 0, y, h => fun j u hu => by
    simp at h
    subst h
    have hj := (List.getElem?_eq_some_iff.1 hu).1
    rw [Nat.zero_mul, Nat.zero_add]
    show (val y0 ++ flatV val r)[j]? = some u
    rw [List.getElem?_append_left hj]; exact hu
  | y0 :: r, i + 1, y, h => fun j u hu => by
    have h' : r[i]? = some y := by simpa using h
    have := flatV_at hv r i y h' j u hu
    show (val y0 ++ flatV val r)[(i + 1) * n + j]? = some u
    rw [List.getElem?_append_right (by rw [hv, Nat.succ_mul]; omega), hv, Nat.succ_mul, show i * n + n + j - n = i * n + j by omega]
    exact this
/-- a row of one's own, and what its elements are -/
structure RowOk (n : Nat) (val : α → List Value) (Ok : World → α → Prop) (base : Nat) (t : TypeId) (w : World) (v : Value) (ys : List α) : Prop where
  own : w.ownsRow base t n v ys.length (flatV val ys)
  bits : ∀ y ∈ ys, ∃ lo hi, base ≤ lo ∧ InOk Ok lo hi w y ∧ ∀ g, v.ownBlock = some g → ¬ (lo ≤ g ∧ g < hi)
variable {base : Nat} {t : TypeId} {w w' : World} {v : Value} {ys : List α}
theorem RowOk.nil (w : World) : RowOk n val Ok base t w (.slice none 0 0) ([] : List α) := ⟨⟨by simp [flatV], .inl ⟨rfl, rfl⟩⟩, fun y hy => by cases hy⟩
theorem RowOk.lt (h : RowOk n val Ok base t w v ys) : ∀ g, v.ownBlock = some g → base ≤ g ∧ g < w.heap.size := h.own.lt
theorem RowOk.shape (h : RowOk n val Ok base t w v ys) : ∃ A c, v = .slice A ys.length c ∧ ys.length ≤ c ∧ c ≤ maxLen := by
  rcases h.own.2 with ⟨h1, h2⟩ | ⟨g, cap, cur, h1, _, _, h2, h3, _⟩
  · exact ⟨none, 0, by rw [h2]; exact h1, by omega, by unfold maxLen; omega⟩
  · exact ⟨_, cap, h1, h2, h3⟩
theorem RowOk.keep {S : Nat → Prop} (h : RowOk n val Ok base t w v ys) (hk : Keeps S w w') (hS : ∀ b, S b → b < base) : RowOk n val Ok base t w' v ys := by
  refine ⟨⟨h.own.1, ?_⟩, fun y hy => ?_⟩
  · rcases h.own.2 with h1 | ⟨g, cap, cur, h1, hg, hat, h2⟩
    · exact .inl h1
    · exact .inr ⟨g, cap, cur, h1, hg, (hk.block g (lt_of_block hat) (fun hs => by have := hS g hs; omega)).trans hat, h2⟩
  · obtain ⟨lo, hi, h1, h2, h3⟩ := h.bits y hy
    exact ⟨lo, hi, h1, h2.on (SameIn.keeps hk h2.2.1 (fun b a _ hs => by have := hS b hs; omega)) hk.size, h3⟩
theorem RowOk.below (h : RowOk n val Ok base t w v ys) (hb : Below w.heap.size w w') : RowOk n val Ok base t w' v ys := h.keep (Keeps.of_below hb (fun _ => False)) (fun _ h => h.elim)
theorem RowOk.push {v' : Value} {y : α} {lo hi : Nat} (h : RowOk n val Ok base t w v ys) (ho : w'.ownsRow base t n v' (ys.length + 1) (flatV val ys ++ val y)) (hg : w.grownBy w' v.ownBlock)
    (hat : v'.ownBlock = v.ownBlock ∨ v'.ownBlock = some w.heap.size) (hlo : base ≤ lo) (hy : InOk Ok lo hi w y) (hno : ∀ g, v.ownBlock = some g → ¬ (lo ≤ g ∧ g < hi)) : RowOk n val Ok base t w' v' (ys ++ [y]) := by
  have hsame : ∀ l2 h2, h2 ≤ w.heap.size → (∀ g, v.ownBlock = some g → ¬ (l2 ≤ g ∧ g < h2)) → SameIn l2 h2 w w' := fun l2 h2 hz hn b a c => hg.block b (by omega) (fun e => hn b e.symm ⟨a, c⟩)
  have hown : ∀ l2 h2, h2 ≤ w.heap.size → (∀ g, v.ownBlock = some g → ¬ (l2 ≤ g ∧ g < h2)) → ∀ g, v'.ownBlock = some g → ¬ (l2 ≤ g ∧ g < h2) := fun l2 h2 hz hn g he => by
    rcases hat with e | e
    · exact hn g (e ▸ he)
    · rw [e] at he; cases he; omega
  refine ⟨by rw [List.length_append, flatV_snoc]; exact ho, fun z hz => ?_⟩
  rcases List.mem_append.1 hz with hz | hz
  · obtain ⟨l2, h2, a, b, c⟩ := h.bits z hz
    exact ⟨l2, h2, a, b.on (hsame l2 h2 b.2.1 c) hg.size, hown l2 h2 b.2.1 c⟩
  · obtain rfl : z = y := by simpa using hz
    exact ⟨lo, hi, hlo, hy.on (hsame lo hi hy.2.1 hno) hg.size, hown lo hi hy.2.1 hno⟩
/-- the row is read so in all worlds that are alike above base -/
theorem RowOk.lies {α' : Type} {A : Option Addr} {k c : Nat} {R : World → List Value → α' → Prop} {f : α → α'} (hv : ∀ y, (val y).length = n) (hR : ∀ W y, Ok W y → R W (val y) (f y))
    (h : RowOk n val Ok base t w (.slice A k c) ys) {W : World} (hW : SameIn base w.heap.size w W) : Lies n R W A (ys.map f) := by
  rcases h.own.2 with ⟨h1, h2⟩ | ⟨g, cap, cur, h1, hg, hat, h2, h3, h4, h5⟩
  · exact .inl (by rw [List.map_eq_nil_iff]; exact List.length_eq_zero_iff.1 h2)
  · simp only [Value.slice.injEq] at h1
    have hgl := lt_of_block hat
    have hat' := (hW g hg hgl).trans hat
    refine .inr ⟨g, 0, h1.1, lt_of_block hat', fun i x hx => ?_⟩
    rw [List.getElem?_map] at hx
    cases hy : ys[i]? with
    | none => rw [hy] at hx; cases hx
    | some y =>
      rw [hy] at hx
      obtain rfl : f y = x := by simpa using hx
      obtain ⟨lo, hi, a, b, _⟩ := h.bits y (List.mem_of_getElem? hy)
      refine ⟨val y, hv y, fun j u hu => ?_, hR W y (b.2.2 W (hW.part a b.2.1))⟩
      rw [Nat.zero_add, cell_of_row W g (i * n + j) cur t (0, 0) hat']
      have := flatV_at hv ys i y hy j u hu
      rw [← h5, List.getElem?_take] at this
      split at this
      · simpa using this
      · cases this
end
end Go.Proofs.YtbchcipjpcdhfaaGreatDoor
/- The document's reading of an expression: what is written so is read so. -/
namespace Go.Proofs.YtbchcipjpcdhfaaGreatDoor.Dt
open Go.RowKit

/-- an expression and where its list lies -/
abbrev SxB := Sexp × Option Addr × Nat
def sxV (y : SxB) : List Value := [.int .i8 y.1.kind, .string y.1.text, .slice y.2.1 y.1.l.length y.2.2]
def sxOk (w : World) (y : SxB) : Prop := SexpR w (sxV y) y.1
theorem sxV_len (y : SxB) : (sxV y).length = 3 := rfl
theorem info_sexp3 : (Tryz.prog.info? 25).map (fun i => (i.zero, i.size, i.bytes)) = some (some (.agg #[.int .i8 0, .string { data := #[] }, .slice none 0 0]), 3, 48) := by kernel_rfl
theorem Rd.shorter {l r : List UInt8} {x : Sexp} (h : Rd l x r) : r.length < l.length := by
  have hsk : ∀ {l : List UInt8} {k : Int} {t r : List UInt8}, nextL (skipL false l) = .tok k t r → r.length < l.length := fun {l k t r} h => by
    have h1 := (nextL_suffix h).2
    have h2 := (skipL_suffix false l).length_le
    omega
  induction h with
  | name h hs => exact hsk h
  | num h hs => exact hsk h
  | key h hs => exact hsk h
  | @list l r rest xs f h h0 hc hx hn ih =>
    have hstep : ∀ k, k ≤ xs.length → (f k).length ≤ r.length := by
      intro k
      induction k with
      | zero => intro _; rw [h0]; exact Nat.le_refl _
      | succ k ihk => intro hk; have h1 := ih k xs[k] (List.getElem?_eq_getElem (by omega)); have h2 := ihk (by omega); omega
    have h1 := hsk h
    have h2 := hsk hn
    have h3 := hstep xs.length (Nat.le_refl _)
    omega
/-- what reading hands back -/
def ReadPost (w : World) (x : Sexp) (b : Nat) (e : Ending) (w' : World) : Prop :=
  ∃ A c, e = .returned (.tuple #[.agg #[.int .i8 x.kind, .string x.text, .slice A x.l.length c], .int .i64 b, .int .i64 0]) ∧ InOk sxOk w.heap.size w'.heap.size w' (x, A, c) ∧ Below w.heap.size w w'
theorem read_ret {f : Func} {w : World} {b : Nat} {r0 r1 r2 : Value} {E F : Int} {act : Act} {t : TypeId} {R : Ending → World → Prop} (hf : f.results = #[.cell 4 25, .tmp 5, .tmp 6]) (hb : w.heap[b]? = some (.cells #[r0, r1, r2] t (0, 0))) (h2 : act.tmps[4]? = some (.pointer (some ⟨b, 0, none⟩))) (h3 : act.tmps[5]? = some (.int .i64 E)) (h4 : act.tmps[6]? = some (.int .i64 F)) (hd : act.defers = []) (hR : R (.returned (.tuple #[.agg #[r0, r1, r2], .int .i64 E, .int .i64 F])) w) :
    bodyPost Tryz.prog f R .ret act w := by
  obtain ⟨y0, y1, y2, _⟩ := Bk.c3 hb
  refine bodyPost_ret (v := .tuple #[.agg #[r0, r1, r2], .int .i64 E, .int .i64 F]) ?_ hd hR
  simp [results, hf, go_sem, y0, y1, y2, h2, h3, h4]
theorem leaf_ret {f : Func} {w : World} {b : Nat} {r0 r1 r2 : Value} {act : Act} {t : TypeId} {R : Ending → World → Prop} (hf : f.results = #[.cell 2 25]) (hb : w.heap[b]? = some (.cells #[r0, r1, r2] t (0, 0))) (h2 : act.tmps[2]? = some (.pointer (some ⟨b, 0, none⟩))) (hd : act.defers = []) (hR : R (.returned (.agg #[r0, r1, r2])) w) :
    bodyPost Tryz.prog f R .ret act w := by
  obtain ⟨y0, y1, y2, _⟩ := Bk.c3 hb
  refine bodyPost_ret (v := .agg #[r0, r1, r2]) ?_ hd hR
  simp [results, hf, go_sem, y0, y1, y2, h2]
def set3' (w : World) (b : Nat) (v0 v1 v2 : Value) : World := ((w.setCell ⟨b, 0, none⟩ v0).setCell ⟨b, 1, none⟩ v1).setCell ⟨b, 2, none⟩ v2
theorem set3'_at {w : World} {b : Nat} {a0 a1 a2 : Value} {t : TypeId} (h : w.heap[b]? = some (.cells #[a0, a1, a2] t (0, 0))) (v0 v1 v2 : Value) : (set3' w b v0 v1 v2).heap[b]? = some (.cells #[v0, v1, v2] t (0, 0)) := by
  simp [set3', World.setCell, Array.getElem?_modify, h]
theorem set3'_keeps {S : Nat → Prop} {w w' : World} (h : Keeps S w w') {b : Nat} (hb : S b ∨ w.heap.size ≤ b) (v0 v1 v2 : Value) : Keeps S w (set3' w' b v0 v1 v2) :=
  ((h.setCell (p := ⟨b, 0, none⟩) hb v0).setCell (p := ⟨b, 1, none⟩) hb v1).setCell (p := ⟨b, 2, none⟩) hb v2
theorem set3'_below {B b : Nat} {w0 w : World} (h : Below B w0 w) (hb : B ≤ b) (v0 v1 v2 : Value) : Below B w0 (set3' w b v0 v1 v2) :=
  ((h.setCell (p := ⟨b, 0, none⟩) hb v0).setCell (p := ⟨b, 1, none⟩) hb v1).setCell (p := ⟨b, 2, none⟩) hb v2
set_option maxHeartbeats 1600000 in
theorem rleaf_any (k kk a b : Int) (s : ByteArray) (w : World) (hk : (k = 2 ∧ kk = 0) ∨ (k = 3 ∧ kk = 1) ∨ (k = 4 ∧ kk = 2)) :
    Calls Tryz.prog 77 #[.agg #[.int .i8 k, .string s, .int .i64 a, .int .i64 b]] w fun e w' => e = .returned (.agg #[.int .i8 kk, .string s, .slice none 0 0]) ∧ Below w.heap.size w w' := by
  have TB := Lib.hid (Bk.keep (Bk.new w (.cells #[.int .i8 k, .string s, .int .i64 a, .int .i64 b] 94)) (.cells #[.int .i8 0, .string { data := #[] }, .slice none 0 0] 25))
  have RB := Lib.hid (show ((w.alloc (.cells #[.int .i8 k, .string s, .int .i64 a, .int .i64 b] 94)).alloc (.cells #[.int .i8 0, .string { data := #[] }, .slice none 0 0] 25)).heap[w.heap.size + 1]? = some (.cells #[.int .i8 0, .string { data := #[] }, .slice none 0 0] 25 (0, 0)) by
    have h := Bk.new (w.alloc (.cells #[.int .i8 k, .string s, .int .i64 a, .int .i64 b] 94)) (.cells #[.int .i8 0, .string { data := #[] }, .slice none 0 0] 25)
    rwa [show (w.alloc (.cells #[.int .i8 k, .string s, .int .i64 a, .int .i64 b] 94)).heap.size = w.heap.size + 1 by simp] at h)
  have BX := Lib.hid (((Below.refl w.heap.size w).alloc (Nat.le_refl _) (.cells #[.int .i8 k, .string s, .int .i64 a, .int .i64 b] 94)).alloc (by simp) (.cells #[.int .i8 0, .string { data := #[] }, .slice none 0 0] 25))
  rcases hk with ⟨rfl, rfl⟩ | ⟨rfl, rfl⟩ | ⟨rfl, rfl⟩
  all_goals
    go_enter Tryz.func77, Tryz.ntmps77
    go_upto_region 1 with fail
    generalize ((w.alloc (.cells #[.int .i8 _, .string s, .int .i64 a, .int .i64 b] 94)).alloc (.cells #[.int .i8 0, .string { data := #[] }, .slice none 0 0] 25)) = w2 at *
    obtain ⟨t0, t1, t2, t3, tf⟩ := Bk.c4 TB.out
    obtain ⟨z0, z1, z2, zf⟩ := Bk.c3 RB.out
    go_wp2_with fail
    exact leaf_ret (w := set3' w2 (w.heap.size + 1) _ _ _) Tryz.results77 (set3'_at RB.out _ _ _) rfl rfl ⟨rfl, set3'_below BX.out (by omega) _ _ _⟩
def RReadAt (x : Sexp) : Prop := ∀ (s : ByteArray) (p : Nat) (w : World) (r : List UInt8), p ≤ s.size → s.size ≤ 100000 → Rd (from_ s p) x r → Calls Tryz.prog 48 #[.string s, .int .i64 p] w (ReadPost w x (at_ s r))
theorem nextL_text {l : List UInt8} {k : Int} {t r : List UInt8} (h : nextL l = .tok k t r) : t.length ≤ 100 := by
  cases l with
  | nil => unfold nextL at h; cases h
  | cons c l =>
    rw [nextL_cons] at h
    split at h
    · simp only [Tk.tok.injEq] at h; obtain ⟨_, rfl, _⟩ := h; simp
    split at h
    · simp only [Tk.tok.injEq] at h; obtain ⟨_, rfl, _⟩ := h; simp
    split at h
    · split at h
      · split at h
        · rename_i h1
          simp only [Tk.tok.injEq] at h; obtain ⟨_, rfl, _⟩ := h; exact h1
        · cases h
      · cases h
    split at h
    · split at h
      · cases h
      · simp only [Tk.tok.injEq] at h; obtain ⟨_, rfl, _⟩ := h; omega
    split at h
    · cases h
    · rename_i h1
      split at h
      · split at h
        · simp only [Tk.tok.injEq] at h; obtain ⟨_, rfl, _⟩ := h; omega
        · cases h
      · simp only [Tk.tok.injEq] at h; obtain ⟨_, rfl, _⟩ := h; omega
set_option maxRecDepth 100000 in
set_option maxHeartbeats 6400000 in
theorem rread_leaf (k kk : Int) (t : List UInt8) (tx : ByteArray) (ht : Lx.bs tx = t) (hk : (k = 2 ∧ kk = 0) ∨ (k = 3 ∧ kk = 1) ∨ (k = 4 ∧ kk = 2)) (s : ByteArray) (p : Nat) (w : World) (r : List UInt8) (hp : p ≤ s.size) (hs : s.size ≤ 100000) (hn : nextL (skipL false (from_ s p)) = .tok k t r) :
    Calls Tryz.prog 48 #[.string s, .int .i64 p] w (ReadPost w (.mk kk tx []) (at_ s r)) := by
  have HN := Lib.hid (rnext_any s p (w.alloc (.cells #[.int .i8 0, .string { data := #[] }, .slice none 0 0] 25)) hp (by omega) k t r hn)
  have RB := Lib.hid (Bk.new w (.cells #[.int .i8 0, .string { data := #[] }, .slice none 0 0] 25))
  have BR := Lib.hid ((Below.refl w.heap.size w).alloc (Nat.le_refl _) (.cells #[.int .i8 0, .string { data := #[] }, .slice none 0 0] 25))
  have HLen := Lib.hid (show (tx.size : Int) ≤ 140737488351232 by
    have h1 := nextL_text hn
    rw [← ht, Lx.bs_length] at h1
    omega)
  have hwf : (Lit.int .i8 kk).wf = true := by rcases hk with ⟨_, rfl⟩ | ⟨_, rfl⟩ | ⟨_, rfl⟩ <;> decide
  have HWf := Lib.hid hwf
  have HTx := Lib.hid (show (⟨t.toArray⟩ : ByteArray) = tx by apply Lx.bs_inj.1; rw [Lx.bs_mk, ht])
  generalize skipP s p = q at *
  generalize at_ s r = e0 at *
  have HLf := Lib.hid (fun W => rleaf_any k kk (q : Int) (e0 : Int) tx W hk)
  clear hn ht hwf
  unfold TokPost at HN
  rw [show (⟨t.toArray⟩ : ByteArray) = tx from HTx.out] at HN
  have HF := Lib.hid (fun (W : World) (hW : Below w.heap.size w W) (hz : w.heap.size ≤ W.heap.size) => show ReadPost w (.mk kk tx []) e0 (.returned (.tuple #[.agg #[.int .i8 kk, .string tx, .slice none 0 0], .int .i64 e0, .int .i64 0])) W from
    ⟨none, 0, rfl, ⟨hz, Nat.le_refl _, fun V _ => SexpR.make (w := V) (A := none) (k := kk) (t := tx) (c := 0) (l := []) (.inl rfl) (Nat.zero_le _) (Nat.zero_le _) HLen.out (by simp) HWf.out⟩, hW⟩)
  have hk1 : (k == 1) = false := by rw [beq_eq_false_iff_ne]; omega
  have hk0 : (k != 0) = true := by rw [bne_iff_ne]; omega
  clear hk
  go_enter Tryz.func48, Tryz.ntmps48
  go_wp2_with fail
  generalize w.alloc (.cells #[.int .i8 0, .string { data := #[] }, .slice none 0 0] 25) = w1 at *
  refine HN.out.mono ?_
  rintro e w2 ⟨rfl, hb2⟩
  have TB := Lib.hid (Bk.new w2 (.cells #[.int .i8 k, .string tx, .int .i64 q, .int .i64 e0] 94))
  have RB2 := Lib.hid (Bk.keep (Bk.on RB.out hb2) (.cells #[.int .i8 k, .string tx, .int .i64 q, .int .i64 e0] 94))
  have B2 := Lib.hid ((BR.out.trans (hb2.mono BR.out.size)).alloc (Nat.le_trans BR.out.size hb2.size) (.cells #[.int .i8 k, .string tx, .int .i64 q, .int .i64 e0] 94))
  have HLt := Lib.hid (show w.heap.size ≠ w2.heap.size from by have := Nat.lt_of_lt_of_le (lt_of_block RB.out) hb2.size; omega)
  clear HN hb2
  go_upto_region 6 with fail
  generalize w2.heap.size = tb at *
  generalize w2.alloc (.cells #[.int .i8 k, .string tx, .int .i64 q, .int .i64 e0] 94) = w3 at *
  obtain ⟨t0, t1, t2, t3, tf⟩ := Bk.c4 TB.out
  go_upto_region 9 with fail
  clear t0 t1 t2 t3 tf
  have B0 := Lib.hid (Below.refl w3.heap.size w3).drew
  go_wp2_with fail
  refine wp_region_held_drew (S := fun W => W.heap[tb]? = some (.cells #[.int .i8 k, .string tx, .int .i64 q, .int .i64 e0] 94 (0, 0))) (by kernel_rfl) (TB.out) (fun hHeld => ?_)
  refine wpAnyH_take (i := 0) (oi := Oper.mk _ _ _ _ _ _) (v := ?_) rfl (by kernel_rfl) (by kernel_rfl) (by kernel_rfl) (fun _ _ _ h => h) (Or.inl ⟨by rfl, ?_⟩) (by assumption) ?_
  rotate_left
  · (intro w hSw; (try dsimp only at hSw); (obtain ⟨t0, t1, t2, t3, tf⟩ := Bk.c4 hSw; go_simp; try with_reducible rfl))
  try simp only [Act.put, List.setIfInBounds_toArray, List.set_cons_zero, List.set_cons_succ]
  refine wpAnyH_take (i := 2) (oi := Oper.mk _ _ _ _ _ _) (v := ?_) rfl (by kernel_rfl) (by kernel_rfl) (by kernel_rfl) (fun _ _ _ h => h) (Or.inl ⟨by rfl, ?_⟩) (by assumption) ?_
  rotate_left
  · (intro w hSw; (try dsimp only at hSw); go_simp; try with_reducible rfl)
  try simp only [Act.put, List.setIfInBounds_toArray, List.set_cons_zero, List.set_cons_succ]
  refine wpAnyH_take (i := 3) (oi := Oper.mk _ _ _ _ _ _) (v := ?_) rfl (by kernel_rfl) (by kernel_rfl) (by kernel_rfl) (fun _ _ _ h => h) (Or.inl ⟨by rfl, ?_⟩) (by assumption) ?_
  rotate_left
  · (intro w hSw; (try dsimp only at hSw); (obtain ⟨t0, t1, t2, t3, tf⟩ := Bk.c4 hSw; go_simp; try with_reducible rfl))
  try simp only [Act.put, List.setIfInBounds_toArray, List.set_cons_zero, List.set_cons_succ]
  refine wpAnyH_ready (rs := [1]) (by kernel_rfl) (by simp) ?_
  refine AllReadyH.cons (o := Oper.mk _ _ _ _ _ _) rfl (fun K hK => ?_) AllReadyH.nil
  go_simp
  go_wp2_with (go_at_call 77; refine (HLf.out _).mono ?_; rintro e W1 ⟨rfl, hb⟩; have hb' := B0.out.trans hb; have B3 := Lib.hid (B2.out.trans (hb'.mono B2.out.size)); have RB3 := Lib.hid (Bk.on RB2.out hb'); have TB3 := Lib.hid (Bk.on TB.out hb'); clear hb hb')
  refine hK.out _ _ (TB3.out) (fun hHeld => ?_)
  clear hK K
  try simp only [Act.put, List.setIfInBounds_toArray, List.set_cons_zero, List.set_cons_succ]
  obtain ⟨z0, z1, z2, zf⟩ := Bk.c3 RB3.out
  refine wpAnyH_ready (rs := [4]) (by kernel_rfl) (by simp) ?_
  refine AllReadyH.cons (o := Oper.mk _ _ _ _ _ _) rfl (fun K hK => ?_) AllReadyH.nil
  go_simp
  refine hK.out _ _ ((Bk.apart (Bk.apart (Bk.apart TB3.out (p := ⟨w.heap.size, 0, none⟩) (Ne.symm HLt.out) _) (p := ⟨w.heap.size, 1, none⟩) (Ne.symm HLt.out) _) (p := ⟨w.heap.size, 2, none⟩) (Ne.symm HLt.out) _)) (fun hHeld => ?_)
  clear hK K
  try simp only [Act.put, List.setIfInBounds_toArray, List.set_cons_zero, List.set_cons_succ]
  refine wpAnyH_take (i := 5) (oi := Oper.mk _ _ _ _ _ _) (v := ?_) rfl (by kernel_rfl) (by kernel_rfl) (by kernel_rfl) (fun _ _ _ h => h) (Or.inl ⟨by rfl, ?_⟩) (by assumption) ?_
  rotate_left
  · (intro w hSw; (try dsimp only at hSw); go_simp; try with_reducible rfl)
  try simp only [Act.put, List.setIfInBounds_toArray, List.set_cons_zero, List.set_cons_succ]
  refine wpAnyH_take (i := 6) (oi := Oper.mk _ _ _ _ _ _) (v := ?_) rfl (by kernel_rfl) (by kernel_rfl) (by kernel_rfl) (fun _ _ _ h => h) (Or.inl ⟨by rfl, ?_⟩) (by assumption) ?_
  rotate_left
  · (intro w hSw; (try dsimp only at hSw); go_simp; try with_reducible rfl)
  try simp only [Act.put, List.setIfInBounds_toArray, List.set_cons_zero, List.set_cons_succ]
  refine wpAnyH_done (by kernel_rfl) ?_ _
  clear hHeld z0 z1 z2 zf
  go_wp2_with fail
  exact read_ret (w := set3' W1 w.heap.size _ _ _) Tryz.results48 (set3'_at RB3.out _ _ _) rfl rfl rfl rfl (HF.out _ (set3'_below B3.out (Nat.le_refl _) _ _ _) (set3'_below B3.out (Nat.le_refl _) _ _ _).size)
theorem Rd.next {l r : List UInt8} {x : Sexp} (h : Rd l x r) : ∃ k t q, nextL (skipL false l) = .tok k t q := by
  cases h with
  | name h hs => exact ⟨_, _, _, h⟩
  | num h hs => exact ⟨_, _, _, h⟩
  | key h hs => exact ⟨_, _, _, h⟩
  | list f h h0 hc hx hn => exact ⟨_, _, _, h⟩
theorem shape_own {w : World} {base s n : Nat} {t : TypeId} {v : Value} {vals : List Value} (ho : w.ownsRow base t s v n vals) : ∃ A c, v = .slice A n c := by
  rcases ho.2 with ⟨h1, h2⟩ | ⟨g, cap, cur, h1, _⟩
  · exact ⟨none, 0, by rw [h2]; exact h1⟩
  · exact ⟨_, cap, h1⟩
set_option maxRecDepth 100000 in
set_option maxHeartbeats 12800000 in
theorem rread_list (xs : List Sexp) (ih : ∀ y ∈ xs, RReadAt y) (s : ByteArray) (p : Nat) (w : World) (f : Nat → List UInt8) (rest : List UInt8) (hp : p ≤ s.size) (hs : s.size ≤ 100000) (hn : nextL (skipL false (from_ s p)) = .tok 0 [] (f 0))
    (hc : ∀ i, i < xs.length → ∀ t q, nextL (skipL false (f i)) ≠ .tok 1 t q) (hx : ∀ i x, xs[i]? = some x → Rd (f i) x (f (i + 1))) (hd : nextL (skipL false (f xs.length)) = .tok 1 [] rest) :
    Calls Tryz.prog 48 #[.string s, .int .i64 p] w (ReadPost w (.mk 3 { data := #[] } xs) (at_ s rest)) := by
  have hsuf : ∀ i, i ≤ xs.length → f i <:+ from_ s p := by
    intro i
    induction i with
    | zero => intro _; exact next_skip_suffix hn
    | succ i ihi => intro hi; exact (hx i xs[i] (List.getElem?_eq_getElem (by omega))).suffix.trans (ihi (by omega))
  have hat : ∀ i, i ≤ xs.length → from_ s (at_ s (f i)) = f i ∧ at_ s (f i) ≤ s.size := fun i hi => ⟨(from_of_suffix (hsuf i hi)).1, (from_of_suffix (hsuf i hi)).2.1⟩
  have hcount : ∀ i, i ≤ xs.length → i + (f i).length ≤ s.size := by
    intro i
    induction i with
    | zero => intro _; have := (hsuf 0 (Nat.zero_le _)).length_le; rw [from_len] at this; omega
    | succ i ihi => intro hi; have h1 := (hx i xs[i] (List.getElem?_eq_getElem (by omega))).shorter; have h2 := ihi (by omega); omega
  have HN := Lib.hid (rnext_any s p (w.alloc (.cells #[.int .i8 0, .string { data := #[] }, .slice none 0 0] 25)) hp (by omega) 0 [] (f 0) hn)
  have HTk := Lib.hid (fun i (hi : i < xs.length) => show ∃ k t q, nextL (skipL false (f i)) = .tok k t q ∧ ¬ k = 1 by
    obtain ⟨k, t, q, h⟩ := (hx i xs[i] (List.getElem?_eq_getElem hi)).next
    exact ⟨k, t, q, h, fun e => hc i hi t q (e ▸ h)⟩)
  have HAt := Lib.hid hat
  have HCt := Lib.hid hcount
  have HNx := Lib.hid (fun i (hi : i ≤ xs.length) W k t r (h : nextL (skipL false (f i)) = .tok k t r) => rnext_any s (at_ s (f i)) W (hat i hi).2 (by omega) k t r (by rw [(hat i hi).1]; exact h))
  have HIh := Lib.hid (fun i x (hi : xs[i]? = some x) W => ih x (List.mem_of_getElem? hi) s (at_ s (f i)) W (f (i + 1)) (hat i (by have := (List.getElem?_eq_some_iff.1 hi).1; omega)).2 hs (by rw [(hat i (by have := (List.getElem?_eq_some_iff.1 hi).1; omega)).1]; exact hx i x hi))
  have HC := Lib.hid hc
  have HX := Lib.hid hx
  have HD := Lib.hid hd
  have HXl := Lib.hid (show xs.length ≤ 100000 by have := hcount xs.length (Nat.le_refl _); omega)
  have RB := Lib.hid (Bk.new w (.cells #[.int .i8 0, .string { data := #[] }, .slice none 0 0] 25))
  have BR := Lib.hid ((Below.refl w.heap.size w).alloc (Nat.le_refl _) (.cells #[.int .i8 0, .string { data := #[] }, .slice none 0 0] 25))
  obtain ⟨i0, hi0, z0, z1, z2⟩ := info_parts info_sexp3
  have I0 := Lib.hid hi0
  have I1 := Lib.hid z0
  have I2 := Lib.hid z1
  have I3 := Lib.hid z2
  clear hi0 z0 z1 z2 hn hsuf hat hcount ih hc hx hd
  unfold TokPost at HN HNx
  generalize skipP s p = q at *
  go_enter Tryz.func48, Tryz.ntmps48
  go_wp2_with fail
  generalize w.alloc (.cells #[.int .i8 0, .string { data := #[] }, .slice none 0 0] 25) = w1 at *
  refine HN.out.mono ?_
  rintro e w2 ⟨rfl, hb2⟩
  have TB := Lib.hid (Bk.new w2 (.cells #[.int .i8 0, .string { data := #[] }, .int .i64 q, .int .i64 (at_ s (f 0))] 94))
  have RB2 := Lib.hid (Bk.keep (Bk.on RB.out hb2) (.cells #[.int .i8 0, .string { data := #[] }, .int .i64 q, .int .i64 (at_ s (f 0))] 94))
  have B2 := Lib.hid ((BR.out.trans (hb2.mono BR.out.size)).alloc (Nat.le_trans BR.out.size hb2.size) (.cells #[.int .i8 0, .string { data := #[] }, .int .i64 q, .int .i64 (at_ s (f 0))] 94))
  clear HN hb2
  go_upto_region 6 with fail
  generalize w2.heap.size = tb at *
  generalize w2.alloc (.cells #[.int .i8 0, .string { data := #[] }, .int .i64 q, .int .i64 (at_ s (f 0))] 94) = w3 at *
  obtain ⟨t0, t1, t2, t3, tf⟩ := Bk.c4 TB.out
  have XB := Lib.hid (Bk.new w3 (.cells #[.int .i8 3, .string { data := #[] }, .slice none 0 0] 25))
  have RB4 := Lib.hid (Bk.keep RB2.out (.cells #[.int .i8 3, .string { data := #[] }, .slice none 0 0] 25))
  have TB4 := Lib.hid (Bk.keep TB.out (.cells #[.int .i8 3, .string { data := #[] }, .slice none 0 0] 25))
  have B4 := Lib.hid (B2.out.alloc B2.out.size (.cells #[.int .i8 3, .string { data := #[] }, .slice none 0 0] 25))
  have HXw := Lib.hid (show w.heap.size < w3.heap.size from lt_of_block RB2.out)
  go_upto_region 11 with fail
  clear t0 t1 t2 t3 tf
  generalize hxb : w3.heap.size = xb at *
  generalize w3.alloc (.cells #[.int .i8 3, .string { data := #[] }, .slice none 0 0] 25) = w4 at *
  obtain ⟨t0, t1, t2, t3, tf⟩ := Bk.c4 TB4.out
  go_wp2_with fail
  clear t0 t1 t2 t3 tf
  go_loopw [1] (fun a' wr => ∃ (k : Nat) (ys : List SxB) (v : Value), k ≤ xs.length ∧ a' = .int .i64 (at_ s (f k)) ∧ ys.map Prod.fst = xs.take k ∧ RowOk 3 sxV sxOk w4.heap.size 25 wr v ys ∧ wr.heap[xb]? = some (.cells #[.int .i8 3, .string { data := #[] }, v] 25 (0, 0)) ∧ Keeps (fun b => b = xb) w4 wr) (fun a' _ => s.size - (intOf a').toNat)
  case atStart => exact ⟨0, [], _, Nat.zero_le _, rfl, rfl, RowOk.nil _, XB.out, Keeps.refl _ _⟩
  case round =>
    obtain ⟨k, ys, v, hk, rfl, hys, hrow, hxc, hkp⟩ := hrel
    have HYs := Lib.hid hys
    have HRow := Lib.hid hrow
    have XBr := Lib.hid hxc
    have KPr := Lib.hid hkp
    have hyl : ys.length = k := by have := congrArg List.length hys; rw [List.length_map, List.length_take] at this; omega
    have HYl := Lib.hid hyl
    obtain ⟨A, c, hv, hc1, hc2⟩ := hrow.shape
    rw [hyl] at hv hc1
    subst hv
    have HC1 := Lib.hid hc1
    have HC2 := Lib.hid hc2
    have HXz := Lib.hid (show xb < w4.heap.size from lt_of_block XB.out)
    have RBr := Lib.hid (show wr.heap[w.heap.size]? = _ from (hkp.block _ (lt_of_block RB4.out) (fun e => by have := HXw.out; omega)).trans RB4.out)
    have HSz := Lib.hid hkp.size
    have BWr := Lib.hid (show Below w.heap.size w wr from B4.out.trans (hkp.below (fun b e => by have := HXw.out; omega) B4.out.size))
    clear hys hrow hxc hkp hyl hc1 hc2
    by_cases hlt : k < xs.length
    · obtain ⟨kk, tt, qq, hnx, hk1⟩ := HTk.out k hlt
      have HNk := Lib.hid (fun W => HNx.out k hk W kk tt qq hnx)
      have hkk : (kk == 1) = false := beq_eq_false_iff_ne.2 hk1
      have hxk := List.getElem?_eq_getElem hlt
      have HTake := Lib.hid (show xs.take (k + 1) = xs.take k ++ [xs[k]] by rw [List.take_add_one, hxk]; rfl)
      have HRd := Lib.hid (fun W => HIh.out k xs[k] hxk W)
      have HPr := Lib.hid (show at_ s (f k) < at_ s (f (k + 1)) ∧ at_ s (f (k + 1)) ≤ s.size from by
        have h1 := (HX.out k xs[k] hxk).shorter
        have h2 := HCt.out k hk
        unfold at_
        omega)
      generalize xs[k] = y at *
      generalize skipP s (at_ s (f k)) = sk at *
      clear hnx hk1 hxk
      go_wp2_with fail
      refine (HNk.out _).mono ?_
      rintro e w5 ⟨rfl, hb5⟩
      have T5 := Lib.hid (Bk.new w5 (.cells #[.int .i8 kk, .string ⟨tt.toArray⟩, .int .i64 sk, .int .i64 (at_ s qq)] 94))
      have B5 := Lib.hid (hb5.alloc hb5.size (.cells #[.int .i8 kk, .string ⟨tt.toArray⟩, .int .i64 sk, .int .i64 (at_ s qq)] 94))
      clear hb5
      go_upto_region 13 with fail
      generalize w5.heap.size = t5b at *
      generalize w5.alloc (.cells #[.int .i8 kk, .string ⟨tt.toArray⟩, .int .i64 sk, .int .i64 (at_ s qq)] 94) = w6 at *
      obtain ⟨t0, t1, t2, t3, tf⟩ := Bk.c4 T5.out
      go_wp2_with fail
      clear t0 t1 t2 t3 tf
      refine (HRd.out _).mono ?_
      rintro e w7 ⟨Ay, cy, rfl, hyin, hb7⟩
      have B7 := Lib.hid (B5.out.trans (hb7.mono B5.out.size))
      have Y8 := Lib.hid (Bk.new w7 (.cells #[.int .i8 y.kind, .string y.text, .slice Ay y.l.length cy] 25))
      have B8 := Lib.hid (B7.out.alloc B7.out.size (.cells #[.int .i8 y.kind, .string y.text, .slice Ay y.l.length cy] 25))
      have X8 := Lib.hid (Bk.on XBr.out B8.out)
      have HIn := Lib.hid (hyin.below ((Below.refl w7.heap.size w7).alloc (Nat.le_refl _) (.cells #[.int .i8 y.kind, .string y.text, .slice Ay y.l.length cy] 25)))
      have HLo := Lib.hid B5.out.size
      have HHi := Lib.hid hb7.size
      clear hb7 hyin
      go_upto_region 18 with fail
      generalize w7.heap.size = y7b at *
      generalize w7.alloc (.cells #[.int .i8 y.kind, .string y.text, .slice Ay y.l.length cy] 25) = w8 at *
      obtain ⟨x0, x1, x2, xf⟩ := Bk.c3 X8.out
      obtain ⟨y0, y1, y2, yf⟩ := Bk.c3 Y8.out
      have HR8 := Lib.hid (show RowOk 3 sxV sxOk w4.heap.size 25 (w8.alloc (.cells #[.int .i8 y.kind, .string y.text, .slice Ay y.l.length cy] 25)) (.slice A k c) ys from (HRow.out.below B8.out).below ((Below.refl _ _).alloc (Nat.le_refl _) _))
      have HI8 := Lib.hid (HIn.out.below ((Below.refl w8.heap.size w8).alloc (Nat.le_refl _) (.cells #[.int .i8 y.kind, .string y.text, .slice Ay y.l.length cy] 25)))
      have HO8 := Lib.hid (show World.ownsRow (w8.alloc (.cells #[.int .i8 y.kind, .string y.text, .slice Ay y.l.length cy] 25)) w4.heap.size 25 3 (.slice A k c) k (flatV sxV ys) by have h := HR8.out.own; rw [HYl.out] at h; exact h)
      have HCl := Lib.hid (Cells.new w8 [.int .i8 y.kind, .string y.text, .slice Ay y.l.length cy] 25 (0, 0))
      have hk48 : k < 1000000 := by have := HXl.out; omega
      have HZ8 := Lib.hid (show w4.heap.size ≤ w8.heap.size from Nat.le_trans HSz.out B8.out.size)
      go_wp2_with (at_builtin; refine wpList_append_at rfl (.tmp 83) (.tmp 85) _ rfl w4.heap.size 25 i0 (.agg #[.int .i8 0, .string { data := #[] }, .slice none 0 0]) 3 48 Tryz.underlying23 I0.out I1.out I2.out I3.out rfl (by decide) (.slice A k c) k (flatV sxV ys) rfl HO8.out (some ⟨w8.heap.size, 0, none⟩) 1 1 [.int .i8 y.kind, .string y.text, .slice Ay y.l.length cy] rfl rfl HCl.out (by simp [Value.oneCell']) (by unfold maxLen; omega) (by omega) (by have := HZ8.out; simp; omega) ?_)
      intro v' w9 hown hgr hat
      obtain ⟨A', c', rfl⟩ := shape_own hown
      have HR9 := Lib.hid (show RowOk 3 sxV sxOk w4.heap.size 25 w9 (.slice A' (k + 1) c') (ys ++ [(y, Ay, cy)]) from HR8.out.push (y := (y, Ay, cy)) (by rw [HYl.out]; exact hown) hgr (by simpa using hat) (by have := HLo.out; have := HSz.out; omega) HI8.out (fun g he => by have h1 := HRow.out.lt g he; have h2 := HLo.out; omega))
      have K9 := Lib.hid (show Keeps (fun b => b = xb) w4 w9 from ((KPr.out.trans_same (Keeps.of_below B8.out _)).alloc _).grown hgr (fun g he => .inr (HRow.out.lt g he).1))
      have X9 := Lib.hid (show w9.heap[xb]? = some (.cells #[.int .i8 3, .string { data := #[] }, .slice A k c] 25 (0, 0)) from (hgr.block xb (by have := lt_of_block X8.out; simp; omega) (fun e => by have h1 := HRow.out.lt xb e.symm; have h2 := HXz.out; omega)).trans (Bk.keep X8.out _))
      clear hown hgr hat x0 x1 x2 xf y0 y1 y2 yf
      obtain ⟨x0, x1, x2, xf⟩ := Bk.c3 X9.out
      have X10 := Lib.hid (Bk.set_at X9.out 2 (.slice A' (k + 1) c'))
      simp only [List.setIfInBounds_toArray, List.set_cons_zero, List.set_cons_succ] at X10
      have K10 := Lib.hid (K9.out.setCell (p := ⟨xb, 2, none⟩) (.inl rfl) (.slice A' (k + 1) c'))
      have R10 := Lib.hid (HR9.out.keep (S := fun b => b = xb) ((Keeps.refl (fun b => b = xb) w9).setCell (p := ⟨xb, 2, none⟩) (.inl rfl) (.slice A' (k + 1) c')) (fun b e => by have := HXz.out; omega))
      go_wp2_with fail
      go_roundw
      case rel => exact ⟨k + 1, ys ++ [(y, Ay, cy)], _, by omega, rfl, by rw [List.map_append, HYs.out, HTake.out]; rfl, R10.out, X10.out, K10.out⟩
      case measure => have := HPr.out; simp [intOf]; omega
    · obtain rfl : k = xs.length := by omega
      have HNk := Lib.hid (fun W => HNx.out xs.length hk W 1 [] rest HD.out)
      generalize skipP s (at_ s (f xs.length)) = sk at *
      generalize at_ s rest = er at *
      have HFin := Lib.hid (fun (W : World) (hW : Keeps (fun b => b = w.heap.size) wr W) => show ReadPost w (.mk 3 { data := #[] } xs) er (.returned (.tuple #[.agg #[.int .i8 3, .string { data := #[] }, .slice A xs.length c], .int .i64 er, .int .i64 0])) W from by
        have hsz := hW.size
        have h4 := HSz.out
        have h5 := HXz.out
        have h6 := HXw.out
        have hin : InOk sxOk w4.heap.size wr.heap.size wr (.mk 3 { data := #[] } xs, A, c) := ⟨h4, Nat.le_refl _, fun V hV => by
          have hl := HRow.out.lies (R := SexpR) (f := Prod.fst) sxV_len (fun W y h => h) hV
          rw [HYs.out, List.take_length] at hl
          exact SexpR.make (w := V) (A := A) (k := 3) (t := { data := #[] }) (c := c) (l := xs) hl HC1.out HC2.out (by decide) (by have := HXl.out; omega) (by decide)⟩
        exact ⟨A, c, rfl, (hin.on (SameIn.keeps hW (Nat.le_refl _) (fun b h1 _ e => by omega)) hsz).wide (by omega) hsz (Nat.le_refl _), BWr.out.trans (hW.below (fun b e => by omega) (by omega))⟩)
      go_wp2_with fail
      refine (HNk.out _).mono ?_
      rintro e w5 ⟨rfl, hb5⟩
      have T5 := Lib.hid (Bk.new w5 (.cells #[.int .i8 1, .string { data := #[] }, .int .i64 sk, .int .i64 er] 94))
      have B5 := Lib.hid (hb5.alloc hb5.size (.cells #[.int .i8 1, .string { data := #[] }, .int .i64 sk, .int .i64 er] 94))
      have HLw := Lib.hid (show w.heap.size < w5.heap.size by have := lt_of_block RBr.out; have := hb5.size; omega)
      clear hb5
      go_upto_region 13 with fail
      generalize w5.heap.size = t5b at *
      generalize w5.alloc (.cells #[.int .i8 1, .string { data := #[] }, .int .i64 sk, .int .i64 er] 94) = w6 at *
      have X6 := Lib.hid (Bk.on XBr.out B5.out)
      have RB6 := Lib.hid (Bk.on RBr.out B5.out)
      obtain ⟨t0, t1, t2, t3, tf⟩ := Bk.c4 T5.out
      go_upto_region 14 with fail
      clear t0 t1 t2 t3 tf
      have B0 := Lib.hid (Below.refl w6.heap.size w6).drew
      go_wp2_with fail
      refine wp_region_held_drew (S := fun W => W.heap[t5b]? = some (.cells #[.int .i8 1, .string { data := #[] }, .int .i64 sk, .int .i64 er] 94 (0, 0)) ∧ W.heap[xb]? = some (.cells #[.int .i8 3, .string { data := #[] }, .slice A xs.length c] 25 (0, 0))) (by kernel_rfl) (⟨T5.out, X6.out⟩) (fun hHeld => ?_)
      refine wpAnyH_take (i := 0) (oi := Oper.mk _ _ _ _ _ _) (v := ?_) rfl (by kernel_rfl) (by kernel_rfl) (by kernel_rfl) (fun _ _ _ h => h) (Or.inl ⟨by rfl, ?_⟩) (by assumption) ?_
      rotate_left
      · (intro w hSw; (try dsimp only at hSw); (obtain ⟨t0, t1, t2, tf⟩ := Bk.c3 hSw.2; go_simp; try with_reducible rfl))
      try simp only [Act.put, List.setIfInBounds_toArray, List.set_cons_zero, List.set_cons_succ]
      refine wpAnyH_take (i := 1) (oi := Oper.mk _ _ _ _ _ _) (v := ?_) rfl (by kernel_rfl) (by kernel_rfl) (by kernel_rfl) (fun _ _ _ h => h) (Or.inl ⟨by rfl, ?_⟩) (by assumption) ?_
      rotate_left
      · (intro w hSw; (try dsimp only at hSw); go_simp; try with_reducible rfl)
      try simp only [Act.put, List.setIfInBounds_toArray, List.set_cons_zero, List.set_cons_succ]
      refine wpAnyH_take (i := 2) (oi := Oper.mk _ _ _ _ _ _) (v := ?_) rfl (by kernel_rfl) (by kernel_rfl) (by kernel_rfl) (fun _ _ _ h => h) (Or.inl ⟨by rfl, ?_⟩) (by assumption) ?_
      rotate_left
      · (intro w hSw; (try dsimp only at hSw); (obtain ⟨t0, t1, t2, t3, tf⟩ := Bk.c4 hSw.1; go_simp; try with_reducible rfl))
      try simp only [Act.put, List.setIfInBounds_toArray, List.set_cons_zero, List.set_cons_succ]
      have RB7 := Lib.hid (show w6.drew.heap[w.heap.size]? = _ from RB6.out)
      obtain ⟨z0, z1, z2, zf⟩ := Bk.c3 RB6.out
      have hne1 : t5b ≠ w.heap.size := by have := HLw.out; omega
      have hne2 : xb ≠ w.heap.size := by have := HXw.out; omega
      have HNe1 := Lib.hid hne1
      have HNe2 := Lib.hid hne2
      clear hne1 hne2
      refine wpAnyH_ready (rs := [3]) (by kernel_rfl) (by simp) ?_
      refine AllReadyH.cons (o := Oper.mk _ _ _ _ _ _) rfl (fun K hK => ?_) AllReadyH.nil
      go_simp
      refine hK.out _ _ (⟨Bk.apart (Bk.apart (Bk.apart hHeld.1 (p := ⟨w.heap.size, 0, none⟩) HNe1.out _) (p := ⟨w.heap.size, 1, none⟩) HNe1.out _) (p := ⟨w.heap.size, 2, none⟩) HNe1.out _, Bk.apart (Bk.apart (Bk.apart hHeld.2 (p := ⟨w.heap.size, 0, none⟩) HNe2.out _) (p := ⟨w.heap.size, 1, none⟩) HNe2.out _) (p := ⟨w.heap.size, 2, none⟩) HNe2.out _⟩) (fun hHeld => ?_)
      clear hK K
      try simp only [Act.put, List.setIfInBounds_toArray, List.set_cons_zero, List.set_cons_succ]
      refine wpAnyH_take (i := 4) (oi := Oper.mk _ _ _ _ _ _) (v := ?_) rfl (by kernel_rfl) (by kernel_rfl) (by kernel_rfl) (fun _ _ _ h => h) (Or.inl ⟨by rfl, ?_⟩) (by assumption) ?_
      rotate_left
      · (intro w hSw; (try dsimp only at hSw); go_simp; try with_reducible rfl)
      try simp only [Act.put, List.setIfInBounds_toArray, List.set_cons_zero, List.set_cons_succ]
      refine wpAnyH_take (i := 5) (oi := Oper.mk _ _ _ _ _ _) (v := ?_) rfl (by kernel_rfl) (by kernel_rfl) (by kernel_rfl) (fun _ _ _ h => h) (Or.inl ⟨by rfl, ?_⟩) (by assumption) ?_
      rotate_left
      · (intro w hSw; (try dsimp only at hSw); go_simp; try with_reducible rfl)
      try simp only [Act.put, List.setIfInBounds_toArray, List.set_cons_zero, List.set_cons_succ]
      refine wpAnyH_done (by kernel_rfl) ?_ _
      clear hHeld z0 z1 z2 zf
      go_wp2_with fail
      exact read_ret (w := set3' w6.drew w.heap.size _ _ _) Tryz.results48 (set3'_at RB7.out _ _ _) rfl rfl rfl rfl (HFin.out _ (set3'_keeps (S := fun b => b = w.heap.size) (Keeps.of_below B5.out _).drew (.inl rfl) _ _ _))
theorem rread_all : ∀ (n : Nat) (x : Sexp), SizeOf.sizeOf x < n → RReadAt x := by
  intro n
  induction n with
  | zero => intro x hx; omega
  | succ n ih =>
    intro x hx s p w r hp hs hr
    cases hr with
    | name h hs' => exact rread_leaf 2 0 _ _ hs' (.inl ⟨rfl, rfl⟩) s p w r hp hs h
    | num h hs' => exact rread_leaf 3 1 _ _ hs' (.inr (.inl ⟨rfl, rfl⟩)) s p w r hp hs h
    | key h hs' => exact rread_leaf 4 2 _ _ hs' (.inr (.inr ⟨rfl, rfl⟩)) s p w r hp hs h
    | @list _ r0 _ xs f h h0 hc hxs hn =>
      subst h0
      exact rread_list xs (fun y hy => ih y (by have := Sexp.mem_lt (x := .mk 3 { data := #[] } xs) (y := y) hy; omega)) s p w f r hp hs h hc hxs hn
set_option maxRecDepth 100000 in
set_option maxHeartbeats 6400000 in
theorem rRead_any (s : ByteArray) (p : Nat) (w : World) (x : Sexp) (r : List UInt8) (hp : p ≤ s.size) (hs : s.size ≤ 100000) (hd : x.depth ≤ 60) (hr : Rd (from_ s p) x r) :
    Calls Tryz.prog 20 #[.string s, .int .i64 p] w (ReadPost w x (at_ s r)) := by
  have HR := Lib.hid (rread_all _ x (Nat.lt_succ_self _) s p (w.alloc (.cells #[.int .i8 0, .string { data := #[] }, .slice none 0 0] 25)) r hp hs hr)
  have HDp := Lib.hid (fun W A c h => rdepth_any _ x (Nat.lt_succ_self _) W A c h)
  have RB := Lib.hid (Bk.new w (.cells #[.int .i8 0, .string { data := #[] }, .slice none 0 0] 25))
  have BR := Lib.hid ((Below.refl w.heap.size w).alloc (Nat.le_refl _) (.cells #[.int .i8 0, .string { data := #[] }, .slice none 0 0] 25))
  have hd' : decide ((60 : Int) < (x.depth : Int)) = false := decide_eq_false (by omega)
  have hp' : ¬ (p : Int) < 0 := by omega
  generalize at_ s r = er at *
  generalize x.depth = dp at *
  clear hr hd
  unfold ReadPost at HR
  go_enter Tryz.func20, Tryz.ntmps20
  go_wp2_with fail
  generalize hw1 : w.alloc (.cells #[.int .i8 0, .string { data := #[] }, .slice none 0 0] 25) = w1 at *
  have HZ1 := Lib.hid (show w1.heap.size = w.heap.size + 1 by rw [← hw1]; simp)
  clear hw1
  refine HR.out.mono ?_
  rintro e w2 ⟨A, c, rfl, hin, hb2⟩
  have HIn := Lib.hid hin
  have XB := Lib.hid (Bk.new w2 (.cells #[.int .i8 x.kind, .string x.text, .slice A x.l.length c] 25))
  have RB3 := Lib.hid (Bk.keep (Bk.on RB.out hb2) (.cells #[.int .i8 x.kind, .string x.text, .slice A x.l.length c] 25))
  have B3 := Lib.hid ((BR.out.trans (hb2.mono BR.out.size)).alloc (Nat.le_trans BR.out.size hb2.size) (.cells #[.int .i8 x.kind, .string x.text, .slice A x.l.length c] 25))
  have HIn3 := Lib.hid (hin.below ((Below.refl w2.heap.size w2).alloc (Nat.le_refl _) (.cells #[.int .i8 x.kind, .string x.text, .slice A x.l.length c] 25)))
  have HLt := Lib.hid (show w.heap.size < w2.heap.size by have := hb2.size; have := HZ1.out; omega)
  have HLe := Lib.hid hb2.size
  clear hin hb2 HR
  go_upto_region 4 with fail
  generalize hx2 : w2.heap.size = xb at *
  generalize w2.alloc (.cells #[.int .i8 x.kind, .string x.text, .slice A x.l.length c] 25) = w3 at *
  obtain ⟨x0, x1, x2, xf⟩ := Bk.c3 XB.out
  go_wp2_with fail
  refine (HDp.out _ A c (show SexpR w3 _ x from HIn3.out.now)).mono ?_
  rintro e w4 ⟨rfl, hb4⟩
  have XB4 := Lib.hid (Bk.on XB.out hb4)
  have RB4 := Lib.hid (Bk.on RB3.out hb4)
  have B4 := Lib.hid (B3.out.trans (hb4.mono B3.out.size))
  have HIn4 := Lib.hid (HIn3.out.below hb4)
  clear hb4 x0 x1 x2 xf
  obtain ⟨x0, x1, x2, xf⟩ := Bk.c3 XB4.out
  obtain ⟨z0, z1, z2, zf⟩ := Bk.c3 RB4.out
  go_wp2_with fail
  have HK := set3'_keeps (S := fun b => b = w.heap.size) (Keeps.refl _ w4) (b := w.heap.size) (.inl rfl) (.int .i8 x.kind) (.string x.text) (.slice A x.l.length c)
  exact read_ret (w := set3' w4 w.heap.size _ _ _) Tryz.results20 (set3'_at RB4.out _ _ _) rfl rfl rfl rfl
    ⟨A, c, rfl, (HIn4.out.on (SameIn.keeps HK HIn4.out.2.1 (fun b h1 _ e => by have := HZ1.out; omega)) HK.size).wide (by have := HZ1.out; omega) (by have := HIn4.out.2.1; have := HK.size; omega) (Nat.le_refl _), B4.out.trans ((set3'_keeps (S := fun b => b = w.heap.size) (Keeps.refl _ w4) (b := w.heap.size) (.inl rfl) _ _ _).below (fun b e => by omega) B4.out.size)⟩
end Go.Proofs.YtbchcipjpcdhfaaGreatDoor.Dt
/- CommandText: a command's text is read as its list, and that parsed as it. No condition. -/
namespace Go.Proofs.YtbchcipjpcdhfaaGreatDoor.Cm
open Go.RowKit Go.Proofs.YtbchcipjpcdhfaaGreatDoor.Dt

/-- what a command's text is -/
theorem text_bad {c : Cmd} (h : ¬ ctextE c = 0) : ctextB c = { data := #[] } := by
  unfold ctextB
  cases hm : mayCB c with
  | false => rfl
  | true =>
    unfold ctextE at h
    rw [hm, if_pos rfl] at h
    rw [if_pos rfl]
    unfold Sexp.textB
    rw [if_neg h]
theorem text_good {c : Cmd} (h : ctextE c = 0) : cmdO (writeX c) = some c ∧ (writeX c).depth ≤ 60 ∧ (ctextB c).size ≤ 8192 ∧ Rd (from_ (ctextB c) 0) (writeX c) [] := by
  have hm : mayCB c = true := by
    cases hm : mayCB c with
    | true => rfl
    | false => unfold ctextE at h; rw [hm] at h; simp at h
  have hy := may_of_mayCB hm
  have hst : (writeX c).stands = true := by
    have := hy
    unfold Sexp.may at this
    rw [Bool.and_eq_true] at this
    exact this.2
  have hdp : (writeX c).depth ≤ 60 := by
    have := hy
    unfold Sexp.may at this
    rw [Bool.and_eq_true] at this
    exact of_decide_eq_true this.1
  have he : (writeX c).textE = 0 := by unfold ctextE at h; rw [hm, if_pos rfl] at h; exact h
  have hb : ctextB c = ⟨(writeX c).textL.toArray⟩ := by
    unfold ctextB
    rw [hm, if_pos rfl]
    unfold Sexp.textB
    rw [he, if_pos rfl]
  have hl : (writeX c).textL.length ≤ 8192 := by
    unfold Sexp.textE at he
    rw [hy, if_pos rfl] at he
    split at he
    · cases he
    · omega
  refine ⟨eqB_true.1 hm, hdp, ?_, ?_⟩
  · rw [← Lx.bs_length, hb, Lx.bs_mk]; exact hl
  · have : from_ (ctextB c) 0 = (writeX c).textL ++ [] := by unfold from_; rw [hb, Lx.bs_mk, List.drop_zero, List.append_nil]
    rw [this]
    exact rd_text _ hst [] trivial
set_option maxRecDepth 100000 in
set_option maxHeartbeats 6400000 in
theorem text_all {w : World} {c : Cmd} {A1 A2 A3 A4 : Option Addr} {c1 c2 c3 c4 : Nat} (h : CmdAt w A1 c1 A2 c2 A3 c3 A4 c4 c) (ht : TabOk w) :
    Calls Tryz.prog 5 #[agC A1 c1 A2 c2 A3 c3 A4 c4 c] w fun e w' => e = .returned (.bool true) ∧ Below w.heap.size w w' := by
  have HA := Lib.hid h
  have HT := Lib.hid ht
  have HW := Lib.hid (fun W (hW : Below w.heap.size w W) => wakes8_any W (ht.on hW))
  have HG := Lib.hid (fun W (hW : Below w.heap.size w W) => great8_any (h.on hW))
  have NB := Lib.hid (Bk.new w (.cells #[.int .i8 c.kind, .string c.name, .int .i64 c.n, .slice A1 c.l.length c1, .slice A2 c.args.length c2, .slice A3 c.params.length c3, .string c.res, .slice A4 c.terms.length c4] 32))
  have B1 := Lib.hid ((Below.refl w.heap.size w).alloc (Nat.le_refl _) (.cells #[.int .i8 c.kind, .string c.name, .int .i64 c.n, .slice A1 c.l.length c1, .slice A2 c.args.length c2, .slice A3 c.params.length c3, .string c.res, .slice A4 c.terms.length c4] 32))
  clear h ht
  unfold agC at *
  go_enter Tryz.func5, Tryz.ntmps5
  go_upto_region 1 with fail
  generalize w.alloc (.cells #[.int .i8 c.kind, .string c.name, .int .i64 c.n, .slice A1 c.l.length c1, .slice A2 c.args.length c2, .slice A3 c.params.length c3, .string c.res, .slice A4 c.terms.length c4] 32) = w1 at *
  obtain ⟨n0, n1, n2, n3, n4, n5, n6, n7, nf⟩ := Bk.c8 NB.out
  go_wp2_with fail
  refine (HG.out w1 B1.out).mono ?_
  rintro e w2 ⟨⟨g, rfl, hg⟩, hb2⟩
  have B2 := Lib.hid (B1.out.trans (hb2.mono B1.out.size))
  have N2 := Lib.hid (Bk.on NB.out hb2)
  clear hb2 n0 n1 n2 n3 n4 n5 n6 n7 nf NB B1
  cases g with
  | true =>
    clear hg
    go_wp2_with fail
    refine (HW.out w2 B2.out).mono ?_
    rintro e w3 ⟨rfl, hb3⟩
    have B3 := Lib.hid (B2.out.trans (hb3.mono B2.out.size))
    clear hb3
    go_wp2_with fail
    go_ret
    exact ⟨rfl, B3.out⟩
  | false =>
    have HO := Lib.hid (hg rfl)
    clear hg
    have HTx := Lib.hid (ctext_any (HA.out.on B2.out) HO.out.small (HT.out.on B2.out) (fun _ => text_short HO.out (cmdAt_ns HA.out)))
    have HBad := Lib.hid (fun e => text_bad (c := c) e)
    have HGood := Lib.hid (fun e => text_good (c := c) e)
    unfold agC at *
    generalize ctextE c = te at *
    generalize ctextB c = tb at *
    obtain ⟨n0, n1, n2, n3, n4, n5, n6, n7, nf⟩ := Bk.c8 N2.out
    go_wp2_with fail
    refine HTx.out.mono ?_
    rintro e w3 ⟨rfl, hb3⟩
    have B3 := Lib.hid (B2.out.trans (hb3.mono B2.out.size))
    have N3 := Lib.hid (Bk.on N2.out hb3)
    clear hb3 n0 n1 n2 n3 n4 n5 n6 n7 nf
    by_cases he : te = 0
    · obtain ⟨hcm, hdp, hsz, hrd⟩ := HGood.out he
      subst he
      have HR := Lib.hid (rRead_any tb 0 w3 (writeX c) [] (Nat.zero_le _) (by omega) hdp hrd)
      have hat : at_ tb [] = tb.size := by unfold at_; simp
      rw [hat] at HR
      have HCm := Lib.hid hcm
      clear hcm hdp hsz hrd hat HGood HBad
      unfold ReadPost at HR
      generalize writeX c = x at *
      go_wp2_with fail
      refine HR.out.mono ?_
      rintro e w4 ⟨A, cc, rfl, hin, hb4⟩
      have B4 := Lib.hid ((B3.out.trans (hb4.mono B3.out.size)).alloc (Nat.le_trans B3.out.size hb4.size) (.cells #[.int .i8 x.kind, .string x.text, .slice A x.l.length cc] 25))
      have N4 := Lib.hid (Bk.keep (Bk.on N3.out hb4) (.cells #[.int .i8 x.kind, .string x.text, .slice A x.l.length cc] 25))
      have X4 := Lib.hid (Bk.new w4 (.cells #[.int .i8 x.kind, .string x.text, .slice A x.l.length cc] 25))
      have HIn := Lib.hid (hin.below ((Below.refl w4.heap.size w4).alloc (Nat.le_refl _) (.cells #[.int .i8 x.kind, .string x.text, .slice A x.l.length cc] 25))).now
      clear hin hb4
      go_upto_region 7 with fail
      generalize w4.heap.size = xb at *
      generalize w4.alloc (.cells #[.int .i8 x.kind, .string x.text, .slice A x.l.length cc] 25) = w5 at *
      obtain ⟨x0, x1, x2, xf⟩ := Bk.c3 X4.out
      have HP := Lib.hid (parse_cmd_any (A := A) (c := cc) (x := x) (show SexpR w5 _ x from HIn.out))
      rw [HCm.out] at HP
      unfold agS at HP
      go_wp2_with fail
      refine HP.out.mono ?_
      rintro e w6 ⟨D1, d1, D2, d2, D3, d3, D4, d4, rfl, hat, hb6⟩
      unfold cmdCells
      have B6 := Lib.hid ((B4.out.trans (hb6.mono B4.out.size)).alloc (Nat.le_trans B4.out.size hb6.size) (.cells #[.int .i8 c.kind, .string c.name, .int .i64 c.n, .slice D1 c.l.length d1, .slice D2 c.args.length d2, .slice D3 c.params.length d3, .string c.res, .slice D4 c.terms.length d4] 32))
      have N6 := Lib.hid (Bk.keep (Bk.on N4.out hb6) (.cells #[.int .i8 c.kind, .string c.name, .int .i64 c.n, .slice D1 c.l.length d1, .slice D2 c.args.length d2, .slice D3 c.params.length d3, .string c.res, .slice D4 c.terms.length d4] 32))
      have M6 := Lib.hid (Bk.new w6 (.cells #[.int .i8 c.kind, .string c.name, .int .i64 c.n, .slice D1 c.l.length d1, .slice D2 c.args.length d2, .slice D3 c.params.length d3, .string c.res, .slice D4 c.terms.length d4] 32))
      have HD := Lib.hid ((show CmdAt w6 D1 d1 D2 d2 D3 d3 D4 d4 c from hat).on ((Below.refl w6.heap.size w6).alloc (Nat.le_refl _) (.cells #[.int .i8 c.kind, .string c.name, .int .i64 c.n, .slice D1 c.l.length d1, .slice D2 c.args.length d2, .slice D3 c.params.length d3, .string c.res, .slice D4 c.terms.length d4] 32)))
      clear hat hb6 x0 x1 x2 xf HP
      go_upto_region 8 with fail
      generalize w6.heap.size = mb at *
      generalize w6.alloc (.cells #[.int .i8 c.kind, .string c.name, .int .i64 c.n, .slice D1 c.l.length d1, .slice D2 c.args.length d2, .slice D3 c.params.length d3, .string c.res, .slice D4 c.terms.length d4] 32) = w7 at *
      have HSm := Lib.hid (rcsame_any (HA.out.on B6.out) HD.out)
      have hself : eqB c c = true := eqB_self _
      rw [hself] at HSm
      clear hself
      unfold agC at HSm
      obtain ⟨n0, n1, n2, n3, n4, n5, n6, n7, nf⟩ := Bk.c8 N6.out
      obtain ⟨m0, m1, m2, m3, m4, m5, m6, m7, mf⟩ := Bk.c8 M6.out
      have hzz : ((tb.size : Int) == (tb.size : Int)) = true := by simp
      go_wp2_with fail
      refine HSm.out.mono ?_
      rintro e w8 ⟨rfl, hb8⟩
      have B8 := Lib.hid (B6.out.trans (hb8.mono B6.out.size))
      clear hb8 n0 n1 n2 n3 n4 n5 n6 n7 nf m0 m1 m2 m3 m4 m5 m6 m7 mf
      go_wp2_with fail
      refine (HW.out w8 B8.out).mono ?_
      rintro e w9 ⟨rfl, hb9⟩
      have B9 := Lib.hid (B8.out.trans (hb9.mono B8.out.size))
      clear hb9
      go_wp2_with fail
      go_ret
      exact ⟨rfl, B9.out⟩
    · have HE := HBad.out he
      subst HE
      have he' : (te == 0) = false := beq_eq_false_iff_ne.2 he
      have he'' : (te != 0) = true := by rw [bne, he']; rfl
      clear HBad HGood he
      go_wp2_with fail
      refine (HW.out w3 B3.out).mono ?_
      rintro e w4 ⟨rfl, hb4⟩
      have B4 := Lib.hid (B3.out.trans (hb4.mono B3.out.size))
      clear hb4
      go_wp2_with fail
      go_ret
      exact ⟨rfl, B4.out⟩
end Go.Proofs.YtbchcipjpcdhfaaGreatDoor.Cm
/- CommandText: for any input the law answers true, and each argument reads as before: the tied card. -/
namespace Go.Proofs.YtbchcipjpcdhfaaGreatDoor.commandText
open Go.RowKit Go.ChangeShapes Go.WideShapes Go.ChangeAt Go.WideMaps Go.WideElems
open Go.ChangeMaps (setBlock shut_map_nil open_string shut_string keptBut_setBlock frozen?_setBlock heap_setBlock_same)

theorem gTabType : (Tryz.prog.globals[0]?).map (·.type) = some 139 := by kernel_rfl
theorem cellsTab : Tryz.prog.cellsOf 139 = 20 := by kernel_rfl
theorem cellsU64 : Tryz.prog.cellsOf 126 = 1 := by kernel_rfl
theorem tabOk {W : World} (h : laidMetH Tryz.prog Rows.commandTextRow.laid W) : TabOk W := by
  have h2 := h.filter (fun x => x.1 == "internal/strconv.uint64pow10")
  rw [MakeChecks.laidMetH_plain _ _ _ (by kernel_rfl)] at h2
  exact Lib.tabIs_of_head (rest := []) gTab gTabType Tryz.underlying139 Tryz.underlying126 cellsU64 cellsTab h2
theorem cellsInt : Tryz.prog.cellsOf 3 = 1 := by kernel_rfl

set_option maxRecDepth 100000 in
theorem contract (H : Type) (enc : TypeId × Value → H) (W : World) (base : Nat) (args : Array Value) (ds gs : List (DataW H)) (before : List MemPlace)
    (hval : ∀ (j : Nat) t v, Tryz.f5.params[j]? = some t → args[j]? = some v → Value.okWide Tryz.prog W .any base t v)
    (hW : DataW.Whole enc Tryz.prog Tryz.f5.params.toList Rows.commandTextSpec.vars false W args.toList ds gs before) (hR : (DataW.weightsEach Tryz.prog (Tryz.f5.params.toList ++ Rows.commandTextSpec.plain.varTypes Tryz.prog) (ds ++ gs)).all (· ≤ reachBytes) = true) (hL : laidMetH Tryz.prog Rows.commandTextRow.laid W) :
    Calls Tryz.prog 5 args W fun e W' => ∃ v, e = .returned v ∧ Rows.commandTextSpec.post enc Tryz.prog Tryz.f5 false true false false W args v W' := by
  have hW' := hW
  obtain ⟨p, q, hA0, hV, rfl, hfz, hnd⟩ := hW
  have hA : DataW.TrodAll enc Tryz.prog W 0 (fun _ => true) true Tryz.f5.params.toList args.toList ds p := hA0
  have hfit : ∀ (j : Nat) t d, Tryz.f5.params.toList[j]? = some t → ds[j]? = some d → Fits Tryz.prog t d := fun j t d h1 h2 => fits_each (fun m hm => of_decide_eq_true (List.all_eq_true.1 hR m hm)) j t d (by rw [List.getElem?_append_left (List.getElem?_eq_some_iff.1 h1).1]; exact h1) (by rw [List.getElem?_append_left (List.getElem?_eq_some_iff.1 h2).1]; exact h2)
  rw [Tryz.params5] at hfit
  rw [Tryz.params5] at hA hval
  obtain ⟨v0, vs0, d0, ds0, p0, q0, hargs, rfl, rfl, h0, r0⟩ := trodAll_cons hA
  obtain ⟨rfl, rfl, rfl⟩ := trodAll_nil r0
  obtain rfl : args = #[v0] := by cases args; simp_all
  obtain ⟨g0, A0_0, c0_0, A0_1, c0_1, A0_2, c0_2, A0_3, c0_3, rfl, hg0⟩ := Dt.open_cmd (hval 0 32 v0 rfl rfl) h0 (hfit 0 32 d0 rfl rfl)
  refine (Cm.text_all (w := W) hg0  (tabOk hL)).mono fun e W' ⟨he, hb⟩ => ⟨_, he, ?_⟩
  exact law_post laidOut (by kernel_rfl) rfl Tryz.underlying4 rfl rfl hW' hb

noncomputable def laidWorld (os : Os) : World := World.doorLaid Tryz.prog 24 os
theorem laid_met (os : Os) : laidMetH Tryz.prog Rows.commandTextRow.laid ((laidWorld os).forCall (fun _ _ => 0) ⟨#[], #[.agg #[.int .i8 0, .string ⟨#[]⟩, .int .i64 0, .slice none 0 0, .slice none 0 0, .slice none 0 0, .string ⟨#[]⟩, .slice none 0 0]], []⟩).memory :=
  laidMetH_of_parts3 (fuel := 8) (laidMet_of_run' 8 (by kernel_rfl) (by kernel_rfl)) (by kernel_rfl) (by kernel_rfl)
theorem reads (os : Os) {H : Type} (enc : TypeId × Value → H) : ∃ x, DataW.whole enc Tryz.prog ((laidWorld os).forCall (fun _ _ => 0) ⟨#[], #[.agg #[.int .i8 0, .string ⟨#[]⟩, .int .i64 0, .slice none 0 0, .slice none 0 0, .slice none 0 0, .string ⟨#[]⟩, .slice none 0 0]], []⟩).memory Tryz.f5.params.toList Rows.commandTextSpec.vars false #[Value.agg #[.int .i8 0, .string ⟨#[]⟩, .int .i64 0, .slice none 0 0, .slice none 0 0, .slice none 0 0, .string ⟨#[]⟩, .slice none 0 0]].toList 8 = some ([.agg [.lit (.int .i8 0), .lit (.string []), .lit (.int .i64 0), .nil, .nil, .nil, .lit (.string []), .nil]], [], x) :=
  ⟨[], by kernel_rfl⟩

set_option maxRecDepth 100000 in
theorem lifted (os : Os) (started : os.Started) (H : Type) (enc : TypeId × Value → H) (F : Stop.Interp) :
    ReturnsInHanded {} Tryz.checked os 5 .any ((OpenSpec.ofChange Rows.commandTextSpec).preRow enc Tryz.prog Tryz.f5 Rows.commandTextRow.domain false Rows.commandTextRow.laid) (((OpenSpec.ofChange Rows.commandTextSpec).at F).post enc Tryz.prog Tryz.f5 false true false false) := by
  obtain ⟨places, hx⟩ := reads os enc
  refine returnsInHanded_of_row (C := Tryz.checked) (s := OpenSpec.ofChange Rows.commandTextSpec) own started (by kernel_rfl) Tryz.func5
    (witness_row_at (enc := enc) (C := Tryz.checked) false (laidWorld os) #[.agg #[.int .i8 0, .string ⟨#[]⟩, .int .i64 0, .slice none 0 0, .slice none 0 0, .slice none 0 0, .string ⟨#[]⟩, .slice none 0 0]] rfl (by kernel_rfl) (by kernel_rfl) (by kernel_rfl)
      (OpenSpec.preRow_of_cond 8 hx (by kernel_rfl) (fun k hk => by cases hk) (by kernel_rfl) (laid_met os))) ?_
  intro W base args ds gs before hval hW _ _ hR hL _ _
  exact contract H enc W base args ds gs before hval hW hR hL

theorem said : Rows.CommandTextSaid :=
  OpenClaim.holds_of_cond 5 Tryz.f5 rfl rfl rfl rfl rfl rfl rfl ⟨rfl, rfl, rfl, rfl, rfl⟩ rfl rfl rfl rfl rfl (by kernel_rfl) Tryz.func5 (by kernel_rfl)
    (of_decide_eq_true (by kernel_rfl)) (by unfold Func.isWrapper; first | (rw [if_pos (by decide +kernel)]; kernel_rfl) | (rw [if_neg (by decide +kernel)]; exact ⟨rfl, rfl⟩))
    (fun os started H enc _ F => by rw [OpenClaim.pre_eq_preRow]; exact lifted os started H enc F)

theorem plain (f : FuncId) (fn : Func) (hf : Tryz.pinned.checked.prog.funcNamed "gantry/gantrylaw08.CommandText" = some f) (hfn : Tryz.pinned.checked.prog.funcs[f]? = some fn) :
    false = Tryz.pinned.checked.prog.looks [] ∧ ∀ (j : Nat) t, fn.params[j]? = some t → Tryz.pinned.checked.prog.wantsStandIn t = false := by
  obtain rfl : f = 5 := Option.some.inj ((show Tryz.prog.funcNamed "gantry/gantrylaw08.CommandText" = some 5 by kernel_rfl).symm.trans hf) |>.symm
  obtain rfl : fn = Tryz.f5 := (Option.some.inj (Tryz.func5.symm.trans hfn)).symm
  refine ⟨by kernel_rfl, fun j t ht => ?_⟩
  have hm := Array.mem_of_getElem? ht
  have hall : (Tryz.f5.params.toList.all fun u => !Tryz.prog.wantsStandIn u) = true := by kernel_rfl
  exact (show Tryz.prog.wantsStandIn t = false by simpa using List.all_eq_true.1 hall t (by simpa using hm))

/-- the card -/
theorem card : Rows.CommandTextCardSaid :=
  Claim7.holds_tied_plain_at .later [] _ _ _ _ said (fun _ h => by cases h) (by kernel_rfl) (fun _ h => by cases h) commandText_row_tie rfl ⟨rfl, rfl⟩ (by kernel_rfl) rfl plain (by kernel_rfl)
end Go.Proofs.YtbchcipjpcdhfaaGreatDoor.commandText
