/- HeapHalves: the law. -/
import Derived.Test.YtdelfgilcfoaoaaHeapBehind
namespace Go.Proofs.Ytdelfgilcfoaoaa.Hp
open Go.RowKit

theorem actA_halve (a : Ab) (i : Int) : actA a.halve i = actA a i / 2 := by
  unfold actA
  show (if isB a.n i then a.act i.toNat / 2 else 0) = _
  cases hb : isB a.n i with
  | false => rfl
  | true => rfl
theorem At.actA0 {O : Nat → Prop} {w : World} {H : Nat} {a : Ab} (h : At O w H a) (i : Int) : 0 ≤ actA a i ∧ actA a i ≤ 1099511627776 := by
  unfold actA
  cases hb : isB a.n i with
  | false => simp
  | true =>
    obtain ⟨h0, h1⟩ := isB_iff.1 hb
    exact h.acts (i := i.toNat) (by omega)

set_option maxRecDepth 100000 in
set_option maxHeartbeats 3200000 in
theorem halves_far {w : World} (n : Int) (A : Option Addr) (cap : Nat) (l : List Act3) (a b : Int) (hl : (l.length : Int) ≤ 9223372036854775807) (h : 300 < l.length ∨ n < 0 ∨ 300 < n) :
    Calls Try.prog 3 #[.int .i64 n, .slice A l.length cap, .int .i64 a, .int .i64 b] w fun e w' => e = .returned (.bool true) ∧ Below w.heap.size w w' := by
  generalize hL : l.length = L at *
  have HW := Lib.hid (wakes_any w)
  by_cases h1 : 300 < L
  · have h1' : (300 : Int) < (L : Int) := by omega
    go_enter Try.func3, Try.ntmps3
    go_wp2_with fail
    refine HW.out.mono ?_
    rintro e w1 ⟨rfl, hb⟩
    go_wp2_with fail
    go_ret
    exact ⟨rfl, hb⟩
  · have h1' : ¬ (300 : Int) < (L : Int) := by omega
    have d1 := decide_eq_false h1'
    by_cases h2 : n < 0
    · go_enter Try.func3, Try.ntmps3
      go_wp2_with fail
      refine HW.out.mono ?_
      rintro e w1 ⟨rfl, hb⟩
      go_wp2_with fail
      go_ret
      exact ⟨rfl, hb⟩
    · have h3 : 300 < n := by omega
      have d2 := decide_eq_false h2
      go_enter Try.func3, Try.ntmps3
      go_wp2_with fail
      refine HW.out.mono ?_
      rintro e w1 ⟨rfl, hb⟩
      go_wp2_with fail
      go_ret
      exact ⟨rfl, hb⟩

set_option maxRecDepth 100000 in
set_option maxHeartbeats 3200000 in
theorem halves_near {w : World} (n : Nat) (hn : n ≤ 300) (A : Option Addr) (cap : Nat) (l : List Act3) (a b : Int) (hc : Cells w A (flat l)) (hl : l.length ≤ 300) :
    Calls Try.prog 3 #[.int .i64 n, .slice A l.length cap, .int .i64 a, .int .i64 b] w fun e w' => e = .returned (.bool true) ∧ Below w.heap.size w w' := by
  have HBe := Lib.hid (behind_any w n (by omega) A cap l hc hl)
  have h1' : ¬ (300 : Int) < (l.length : Int) := by omega
  have d1 := decide_eq_false h1'
  have h2 : ¬ (n : Int) < 0 := by omega
  have h3 : ¬ (300 : Int) < (n : Int) := by omega
  have d2 := decide_eq_false h2
  have d3 := decide_eq_false h3
  clear hc
  go_enter Try.func3, Try.ntmps3
  go_wp2_with fail
  refine HBe.out.mono ?_
  rintro e w1 ⟨H, rfl, ha, hb⟩
  have A1 := Lib.hid ha
  have B1 := Lib.hid hb
  generalize play (newA n) l = ab at A1
  clear ha hb
  obtain ⟨x0, x1⟩ := A1.out.1.actA0 a
  obtain ⟨y0, y1⟩ := A1.out.1.actA0 b
  have hxe := actA_halve ab a
  have hye := actA_halve ab b
  have hhas : hasA ab.halve a = hasA ab a := rfl
  have hlen : ab.halve.len = ab.len := rfl
  have P1 := ptr_act A1.out.1 a
  have P2 := ptr_act A1.out.1 b
  have P3 := ptr_has A1.out.1 a
  have P4 := ptr_len A1.out.1
  generalize actA ab a = x at *
  generalize actA ab b = y at *
  generalize hasA ab a = hs at *
  generalize hlx : ab.len = lx at *
  go_wp2_with fail
  refine (P4).mono ?_
  rintro e w' ⟨rfl, rfl⟩
  go_wp2_with fail
  refine (P1).mono ?_
  rintro e w' ⟨rfl, rfl⟩
  go_wp2_with fail
  refine (P2).mono ?_
  rintro e w' ⟨rfl, rfl⟩
  go_wp2_with fail
  refine (P3).mono ?_
  rintro e w' ⟨rfl, rfl⟩
  go_wp2_with fail
  refine (b_halve A1.out).mono ?_
  rintro e w2 ⟨rfl, ha, hb⟩
  have A2 := Lib.hid ha
  have B2 := Lib.hid (B1.out.trans hb)
  clear ha hb
  have Q1 := ptr_act A2.out.1 a
  have Q2 := ptr_act A2.out.1 b
  have Q3 := ptr_has A2.out.1 a
  have Q4 := ptr_len A2.out.1
  rw [hxe] at Q1
  rw [hye] at Q2
  rw [hhas] at Q3
  rw [hlen] at Q4
  have HW := Lib.hid (wakes_any w2)
  go_wp2_with fail
  refine (Q4).mono ?_
  rintro e w' ⟨rfl, rfl⟩
  go_wp2_with fail
  refine (Q1).mono ?_
  rintro e w' ⟨rfl, rfl⟩
  go_wp2_with fail
  refine (Q2).mono ?_
  rintro e w' ⟨rfl, rfl⟩
  go_wp2_with fail
  refine (Q3).mono ?_
  rintro e w' ⟨rfl, rfl⟩
  by_cases hxy : y < x
  · have hz : ¬ (x / 2 < y / 2) := by omega
    have dz := decide_eq_false hz
    go_wp2_with fail
    refine (Q1).mono ?_
    rintro e w' ⟨rfl, rfl⟩
    go_wp2_with fail
    refine (Q2).mono ?_
    rintro e w' ⟨rfl, rfl⟩
    go_wp2_with fail
    refine HW.out.mono ?_
    rintro e w3 ⟨rfl, hb⟩
    have B3 := Lib.hid (B2.out.trans (hb.mono B2.out.size))
    clear hb
    go_wp2_with fail
    go_ret
    exact ⟨rfl, B3.out⟩
  · have dz := decide_eq_false hxy
    go_wp2_with fail
    refine HW.out.mono ?_
    rintro e w3 ⟨rfl, hb⟩
    have B3 := Lib.hid (B2.out.trans (hb.mono B2.out.size))
    clear hb
    go_wp2_with fail
    go_ret
    exact ⟨rfl, B3.out⟩
theorem heapHalves_all {w : World} (n : Int) (l : List Act3) (A : Option Addr) (cap : Nat) (a b : Int) (hc : Cells w A (flat l)) (hl : l.length ≤ cap) (hm : cap ≤ 9223372036854775807) :
    Calls Try.prog 3 #[.int .i64 n, .slice A l.length cap, .int .i64 a, .int .i64 b] w fun e w' => e = .returned (.bool true) ∧ Below w.heap.size w w' := by
  by_cases h : 300 < l.length ∨ n < 0 ∨ 300 < n
  · exact halves_far n A cap l a b (by omega) h
  · obtain ⟨k, rfl⟩ := Int.eq_ofNat_of_zero_le (show 0 ≤ n by omega)
    exact halves_near k (by omega) A cap l a b hc (by omega)
end Go.Proofs.Ytdelfgilcfoaoaa.Hp
