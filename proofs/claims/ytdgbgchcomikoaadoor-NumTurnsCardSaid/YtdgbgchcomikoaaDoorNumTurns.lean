/- The walk of the law NumTurns: it answers true whatever the two numbers. -/
import Derived.Test.YtdgbgchcomikoaaDoorNumLaw
namespace Go.Proofs.YtdgbgchcomikoaaDoor
open Go.RowKit

theorem okAdd_comm (a b : Int) : okAdd a b = okAdd b a := by
  unfold okAdd; rw [Int.add_comm a b, Bool.and_comm (mayB a)]
theorem addV_comm (a b : Int) : addV a b = addV b a := by unfold addV; rw [okAdd_comm, Int.add_comm]
theorem addE_comm (a b : Int) : addE a b = addE b a := by unfold addE; rw [okAdd_comm]

set_option maxHeartbeats 1600000 in
theorem numTurns_walk (a b : Int) (ha : I64 a) (hb : I64 b) (w : World) (ht : TabOk w) :
    Calls Tryd.prog 7 #[.int .i64 a, .int .i64 b] w fun e w' => e = .returned (.bool true) ∧ Below w.heap.size w w' := by
  have HT := Lib.hid ht
  clear ht
  have h1 := fun W => add_any a b ha hb W
  have h2 := fun W => add_any b a hb ha W
  rw [addV_comm b a, addE_comm b a] at h2
  cases hok : okAdd a b with
  | false =>
    rw [(add_no hok).1, (add_no hok).2] at h1 h2
    have H1 := Lib.hid h1
    have H2 := Lib.hid h2
    clear h1 h2 hok ha hb
    go_enter Tryd.func7, Tryd.ntmps7
    go_wp2_with fail
    refine (H1.out w).mono ?_
    rintro e w1 ⟨rfl, hb1⟩
    have T1 := Lib.hid (HT.out.on hb1)
    have B1 := Lib.hid hb1
    clear hb1
    go_wp2_with fail
    refine (H2.out w1).mono ?_
    rintro e w2 ⟨rfl, hb2⟩
    have T2 := Lib.hid (T1.out.on hb2)
    have B2 := Lib.hid (B1.out.trans (hb2.mono B1.out.size))
    clear hb2
    go_wp2_with fail
    refine (wakes01 w2 T2.out).mono ?_
    rintro e w3 ⟨rfl, hb3⟩
    have B3 := Lib.hid (B2.out.trans (hb3.mono B2.out.size))
    clear hb3
    go_wp2_with fail
    go_ret
    exact ⟨rfl, B3.out⟩
  | true =>
    have hy := add_yes hok
    rw [okAdd_wrap hok] at hy
    rw [hy.1, hy.2] at h1 h2
    have hm := hok
    simp only [okAdd, Bool.and_eq_true, mayB_iff] at hm
    obtain ⟨⟨⟨ha0, ha1⟩, hb0, hb1⟩, hs0, hs1⟩ := hm
    have h3 := fun W => sub_any (a + b) b ⟨by omega, by omega⟩ hb W
    have e3 : okSub (a + b) b = true := by simp only [okSub, Bool.and_eq_true, mayB_iff]; omega
    rw [(sub_yes e3).1, (sub_yes e3).2, okSub_wrap e3, show a + b - b = a by omega] at h3
    have h4 := fun W => sub_any 0 a ⟨by omega, by omega⟩ ha W
    have e4 : okSub 0 a = true := by simp only [okSub, Bool.and_eq_true, mayB_iff]; omega
    rw [(sub_yes e4).1, (sub_yes e4).2, okSub_wrap e4, show 0 - a = -a by omega] at h4
    have H1 := Lib.hid h1
    have H2 := Lib.hid h2
    have H3 := Lib.hid h3
    have H4 := Lib.hid h4
    clear h1 h2 h3 h4 hok ha hb e3 e4 hy
    go_enter Tryd.func7, Tryd.ntmps7
    go_wp2_with fail
    refine (H1.out w).mono ?_
    rintro e w1 ⟨rfl, hb1⟩
    have T1 := Lib.hid (HT.out.on hb1)
    have B1 := Lib.hid hb1
    clear hb1
    go_wp2_with fail
    refine (H2.out w1).mono ?_
    rintro e w2 ⟨rfl, hb2⟩
    have T2 := Lib.hid (T1.out.on hb2)
    have B2 := Lib.hid (B1.out.trans (hb2.mono B1.out.size))
    clear hb2
    go_wp2_with fail
    refine (H3.out w2).mono ?_
    rintro e w3 ⟨rfl, hb3⟩
    have T3 := Lib.hid (T2.out.on hb3)
    have B3 := Lib.hid (B2.out.trans (hb3.mono B2.out.size))
    clear hb3
    go_wp2_with fail
    refine (H4.out w3).mono ?_
    rintro e w4 ⟨rfl, hb4⟩
    have T4 := Lib.hid (T3.out.on hb4)
    have B4 := Lib.hid (B3.out.trans (hb4.mono B3.out.size))
    clear hb4
    go_wp2_with fail
    refine (wakes01 w4 T4.out).mono ?_
    rintro e w5 ⟨rfl, hb5⟩
    have B5 := Lib.hid (B4.out.trans (hb5.mono B4.out.size))
    clear hb5
    go_wp2_with fail
    go_ret
    exact ⟨rfl, B5.out⟩
end Go.Proofs.YtdgbgchcomikoaaDoor
