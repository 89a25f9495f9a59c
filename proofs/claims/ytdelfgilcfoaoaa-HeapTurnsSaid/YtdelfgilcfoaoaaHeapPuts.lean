/- HeapPuts: the law. -/
import Derived.Test.YtdelfgilcfoaoaaHeapHalves
namespace Go.Proofs.Ytdelfgilcfoaoaa.Hp
open Go.RowKit

/-- what comes of it all: the heap behind both puts, both halvings and the bump -/
def putsA (a : Ab) (k : Nat) : Ab := ((a.put k).halve.halve).bump k 1099511627776
theorem puts_first {a : Ab} {k : Nat} (hk : k < a.n) (hb : ∀ i, i < a.n → 0 ≤ a.act i ∧ a.act i ≤ 1099511627776) : First (putsA a k) k := by
  refine ⟨hk, by simp [putsA, Ab.bump, Ab.halve, Ab.put, upd], fun j hj _ hne => .inl ?_⟩
  have hj' : j < a.n := hj
  have h1 := hb j hj'
  have h2 := hb k hk
  show upd (fun i => a.act i / 2 / 2) k _ j < upd (fun i => a.act i / 2 / 2) k _ k
  rw [upd_self, upd_other _ _ hne]
  show a.act j / 2 / 2 < min (a.act k / 2 / 2 + 1099511627776) 1099511627776
  omega
theorem isB_nat {n k : Nat} (h : k < n) : isB n (k : Int) = true := isB_iff.2 ⟨by omega, by omega⟩
theorem put_twice (a : Ab) (k : Nat) : (a.put k).put k = a.put k := by
  unfold Ab.put
  congr 1
  funext j
  by_cases e : j = k
  · subst e; rw [upd_self, upd_self]
  · rw [upd_other _ _ e]
theorem b_putN {B : Nat} {w : World} {H : Nat} {a : Ab} (h : AtB B w H a) {k : Nat} (hk : k < a.n) :
    Calls Try.prog 14 #[.pointer (some ⟨H, 0, none⟩), .int .i64 k] w fun e w' => e = .returned (.int .i64 0) ∧ AtB B w' H (a.put k) ∧ Below B w w' := by
  have := b_put h k
  rw [show putE a k = 0 by unfold putE; rw [isB_nat hk]; rfl, show putA a k = a.put k by unfold putA; rw [isB_nat hk]; rfl] at this
  exact this
theorem b_bumpN {B : Nat} {w : World} {H : Nat} {a : Ab} (h : AtB B w H a) {k : Nat} (hk : k < a.n) {d : Int} (h0 : 0 ≤ d) (h1 : d ≤ 1099511627776) :
    Calls Try.prog 15 #[.pointer (some ⟨H, 0, none⟩), .int .i64 k, .int .i64 d] w fun e w' => e = .returned (.int .i64 0) ∧ AtB B w' H (a.bump k d) ∧ Below B w w' := by
  have hg : bumpG a k d = true := by unfold bumpG; rw [isB_nat hk, decide_eq_true h0, decide_eq_true h1]; rfl
  have := b_bump h k d
  rw [show bumpE a k d = 0 by unfold bumpE; rw [hg]; rfl, show bumpA a k d = a.bump k d by unfold bumpA; rw [hg]; rfl] at this
  exact this
theorem actN {a : Ab} {k : Nat} (hk : k < a.n) : actA a k = a.act k := by unfold actA; rw [isB_nat hk]; rfl
theorem hasN {a : Ab} {k : Nat} (hk : k < a.n) : hasA a k = a.inn k := by unfold hasA; rw [isB_nat hk]; rfl
/-- the node that the law takes -/
theorem rem_node (x : Int) (n : Nat) (hn : 0 < n) : ∃ k : Nat, k < n ∧ x % n = k ∧ (x + n) % n = k := by
  have h3 : 0 ≤ x % (n : Int) := Int.emod_nonneg _ (by omega)
  have h4 : x % (n : Int) < n := Int.emod_lt_of_pos _ (by omega)
  obtain ⟨k, hk⟩ := Int.eq_ofNat_of_zero_le h3
  exact ⟨k, by omega, hk, by rw [Int.add_emod_right, hk]⟩
theorem next_node (k n : Nat) (hk : k < n) : ∃ o : Nat, o < n ∧ ((k : Int) + 1) % n = o := by
  have h3 : 0 ≤ ((k : Int) + 1) % (n : Int) := Int.emod_nonneg _ (by omega)
  have h4 : ((k : Int) + 1) % (n : Int) < n := Int.emod_lt_of_pos _ (by omega)
  obtain ⟨o, ho⟩ := Int.eq_ofNat_of_zero_le h3
  exact ⟨o, by omega, ho⟩

set_option maxRecDepth 100000 in
set_option maxHeartbeats 3200000 in
theorem puts_far {w : World} (n : Int) (A : Option Addr) (cap : Nat) (l : List Act3) (a : Int) (hl : (l.length : Int) ≤ 9223372036854775807) (h : 300 < l.length ∨ n < 1 ∨ 300 < n) :
    Calls Try.prog 4 #[.int .i64 n, .slice A l.length cap, .int .i64 a] w fun e w' => e = .returned (.bool true) ∧ Below w.heap.size w w' := by
  generalize hL : l.length = L at *
  have HW := Lib.hid (wakes_any w)
  by_cases h1 : 300 < L
  · have h1' : (300 : Int) < (L : Int) := by omega
    go_enter Try.func4, Try.ntmps4
    go_wp2_with fail
    refine HW.out.mono ?_
    rintro e w1 ⟨rfl, hb⟩
    go_wp2_with fail
    go_ret
    exact ⟨rfl, hb⟩
  · have h1' : ¬ (300 : Int) < (L : Int) := by omega
    have d1 := decide_eq_false h1'
    by_cases h2 : n < 1
    · go_enter Try.func4, Try.ntmps4
      go_wp2_with fail
      refine HW.out.mono ?_
      rintro e w1 ⟨rfl, hb⟩
      go_wp2_with fail
      go_ret
      exact ⟨rfl, hb⟩
    · have h3 : 300 < n := by omega
      have d2 := decide_eq_false h2
      go_enter Try.func4, Try.ntmps4
      go_wp2_with fail
      refine HW.out.mono ?_
      rintro e w1 ⟨rfl, hb⟩
      go_wp2_with fail
      go_ret
      exact ⟨rfl, hb⟩

set_option maxRecDepth 100000 in
set_option maxHeartbeats 3200000 in
theorem puts_near {w : World} (n : Nat) (hn0 : 1 ≤ n) (hn : n ≤ 300) (A : Option Addr) (cap : Nat) (l : List Act3) (x : Int) (hx : I64 x) (hc : Cells w A (flat l)) (hl : l.length ≤ 300) :
    Calls Try.prog 4 #[.int .i64 n, .slice A l.length cap, .int .i64 x] w fun e w' => e = .returned (.bool true) ∧ Below w.heap.size w w' := by
  have HBe := Lib.hid (behind_any w n (by omega) A cap l hc hl)
  have h1' : ¬ (300 : Int) < (l.length : Int) := by omega
  have d1 := decide_eq_false h1'
  have h2 : ¬ (n : Int) < 1 := by omega
  have h3 : ¬ (300 : Int) < (n : Int) := by omega
  have d2 := decide_eq_false h2
  have d3 := decide_eq_false h3
  have hn1 : (n : Int) ≠ 0 := by omega
  have hz : ((n : Int) == 0) = false := beq_eq_false_iff_ne.2 hn1
  have t1 : -(n : Int) < Int.tmod x n := by have := Int.lt_tmod_of_pos x (show (0 : Int) < n by omega); omega
  have t2 : Int.tmod x n < n := Int.tmod_lt_of_pos x (by omega)
  obtain ⟨xl, xh⟩ := hx
  clear hc
  go_enter Try.func4, Try.ntmps4
  go_wp2_with fail
  refine HBe.out.mono ?_
  rintro e w1 ⟨H, rfl, ha, hb⟩
  have A1 := Lib.hid ha
  have B1 := Lib.hid hb
  have hpn : (play (newA n) l).n = n := play_n l _
  generalize play (newA n) l = ab at A1 hpn
  clear ha hb
  obtain ⟨k, hk, hk1, hk2⟩ := rem_node (Int.tmod x n) n (by omega)
  obtain ⟨o, ho, ho1⟩ := next_node k n hk
  have hka : k < ab.n := by omega
  have hoa : o < ab.n := by omega
  go_wp2_with fail
  refine (b_putN A1.out hka).mono ?_
  rintro e w2 ⟨rfl, ha, hb⟩
  have A2 := Lib.hid ha
  have B2 := Lib.hid (B1.out.trans hb)
  clear ha hb
  go_wp2_with fail
  refine (ptr_len A2.out.1).mono ?_
  rintro e w' ⟨rfl, rfl⟩
  go_wp2_with fail
  refine (b_putN A2.out (show k < (ab.put k).n from hka)).mono ?_
  rintro e w3 ⟨rfl, ha, hb⟩
  rw [put_twice] at ha
  have A3 := Lib.hid ha
  have B3 := Lib.hid (B2.out.trans hb)
  clear ha hb
  have P1 := ptr_len A3.out.1
  have P2 := ptr_has A3.out.1 k
  rw [hasN (show k < (ab.put k).n from hka), show (ab.put k).inn k = true by simp [Ab.put, upd]] at P2
  have P3 := ptr_act A3.out.1 o
  rw [actN (show o < (ab.put k).n from hoa)] at P3
  have hy := A3.out.1.acts (show o < (ab.put k).n from hoa)
  have hbd := fun i (hi : i < (ab.put k).n) => A3.out.1.acts hi
  generalize hm : (ab.put k).len = m at *
  generalize hyy : (ab.put k).act o = y at *
  obtain ⟨hy0, hy1⟩ := hy
  go_wp2_with fail
  refine (P1).mono ?_
  rintro e w' ⟨rfl, rfl⟩
  go_wp2_with fail
  refine (P2).mono ?_
  rintro e w' ⟨rfl, rfl⟩
  go_wp2_with fail
  refine (P3).mono ?_
  rintro e w' ⟨rfl, rfl⟩
  go_wp2_with fail
  refine (b_halve A3.out).mono ?_
  rintro e w4 ⟨rfl, ha, hb⟩
  have A4 := Lib.hid ha
  have B4 := Lib.hid (B3.out.trans hb)
  clear ha hb
  go_wp2_with fail
  refine (b_halve A4.out).mono ?_
  rintro e w5 ⟨rfl, ha, hb⟩
  have A5 := Lib.hid ha
  have B5 := Lib.hid (B4.out.trans hb)
  clear ha hb
  go_wp2_with fail
  refine (b_bumpN A5.out (show k < (ab.put k).halve.halve.n from hka) (d := 1099511627776) (by omega) (by omega)).mono ?_
  rintro e w6 ⟨rfl, ha, hb⟩
  have A6 := Lib.hid (show AtB w.heap.size w6 H (putsA ab k) from ha)
  have B6 := Lib.hid (B5.out.trans hb)
  clear ha hb
  have hF := puts_first (a := ab) hka (fun i hi => hbd i hi)
  have Q1 := ptr_act A6.out.1 o
  rw [actN (show o < (putsA ab k).n from hoa)] at Q1
  have Q2 := ptr_act A6.out.1 k
  rw [actN (show k < (putsA ab k).n from hka)] at Q2
  have hk40 : (putsA ab k).act k = 1099511627776 := by
    have := hbd k hka
    have h0 : 0 ≤ ab.act k := this.1
    show upd (fun i => ab.act i / 2 / 2) k _ k = _
    rw [upd_self]
    show min (ab.act k / 2 / 2 + 1099511627776) 1099511627776 = _
    omega
  rw [hk40] at Q2
  have hend := Lib.hid (show ∀ (W : World), AtB w.heap.size W H (popA (putsA ab k)) → Calls Try.prog 10 #[.pointer (some ⟨H, 0, none⟩)] W fun e w' => e = .returned (.int .i64 ((m : Int) - 1)) ∧ W = w' from fun W hW => by
    have h1 := ptr_len hW.1
    rw [popA_first hF] at h1
    have h2 := hF.len
    have h3 : (putsA ab k).len = m := hm
    rw [show (((putsA ab k).out k).len : Int) = (m : Int) - 1 by omega] at h1
    exact h1)
  have hm1 : 1 ≤ m := by have h2 := hF.len; have h3 : (putsA ab k).len = m := hm; omega
  have hmn : m ≤ 300 := by have h3 : (putsA ab k).len = m := hm; have := cnt_le (putsA ab k).n (putsA ab k).inn; have h4 : (putsA ab k).n = n := hpn; unfold Ab.len at h3; omega
  by_cases hok : o = k
  · subst hok
    clear Q1
    go_wp2_with fail
    refine (Q2).mono ?_
    rintro e w' ⟨rfl, rfl⟩
    go_wp2_with fail
    refine (b_pop A6.out).mono ?_
    rintro e w7 ⟨he, ha, hb⟩
    have A7 := Lib.hid ha
    have B7 := Lib.hid (B6.out.trans hb)
    clear ha hb
    rcases he with ⟨k', hk', rfl⟩ | ⟨he, rfl⟩
    · obtain rfl : k' = _ := First.unique hk' hF
      have HW := Lib.hid (wakes_any w7)
      go_wp2_with fail
      refine (hend.out w7 A7.out).mono ?_
      rintro e w' ⟨rfl, rfl⟩
      go_wp2_with fail
      refine HW.out.mono ?_
      rintro e w8 ⟨rfl, hb⟩
      have B8 := Lib.hid (B7.out.trans (hb.mono B7.out.size))
      clear hb
      go_wp2_with fail
      go_ret
      exact ⟨rfl, B8.out⟩
    · exact absurd hF (fun f => he.no_first f)
  · have hne : ((o : Int) == (k : Int)) = false := by rw [beq_eq_false_iff_ne]; omega
    have hy4 : (putsA ab k).act o = y / 4 := by
      show upd (fun i => ab.act i / 2 / 2) k _ o = _
      rw [upd_other _ _ hok]
      have hy2 : ab.act o = y := hyy
      show ab.act o / 2 / 2 = y / 4
      omega
    rw [hy4] at Q1
    go_wp2_with fail
    refine (Q1).mono ?_
    rintro e w' ⟨rfl, rfl⟩
    go_wp2_with fail
    refine (Q2).mono ?_
    rintro e w' ⟨rfl, rfl⟩
    go_wp2_with fail
    refine (b_pop A6.out).mono ?_
    rintro e w7 ⟨he, ha, hb⟩
    have A7 := Lib.hid ha
    have B7 := Lib.hid (B6.out.trans hb)
    clear ha hb
    rcases he with ⟨k', hk', rfl⟩ | ⟨he, rfl⟩
    · obtain rfl : k' = _ := First.unique hk' hF
      have HW := Lib.hid (wakes_any w7)
      go_wp2_with fail
      refine (hend.out w7 A7.out).mono ?_
      rintro e w' ⟨rfl, rfl⟩
      go_wp2_with fail
      refine HW.out.mono ?_
      rintro e w8 ⟨rfl, hb⟩
      have B8 := Lib.hid (B7.out.trans (hb.mono B7.out.size))
      clear hb
      go_wp2_with fail
      go_ret
      exact ⟨rfl, B8.out⟩
    · exact absurd hF (fun f => he.no_first f)
theorem heapPuts_all {w : World} (n : Int) (l : List Act3) (A : Option Addr) (cap : Nat) (a : Int) (hc : Cells w A (flat l)) (hl : l.length ≤ cap) (hm : cap ≤ 9223372036854775807) (ha : I64 a) :
    Calls Try.prog 4 #[.int .i64 n, .slice A l.length cap, .int .i64 a] w fun e w' => e = .returned (.bool true) ∧ Below w.heap.size w w' := by
  by_cases h : 300 < l.length ∨ n < 1 ∨ 300 < n
  · exact puts_far n A cap l a (by omega) h
  · obtain ⟨k, rfl⟩ := Int.eq_ofNat_of_zero_le (show 0 ≤ n by omega)
    exact puts_near k (by omega) (by omega) A cap l a ha hc (by omega)
end Go.Proofs.Ytdelfgilcfoaoaa.Hp
