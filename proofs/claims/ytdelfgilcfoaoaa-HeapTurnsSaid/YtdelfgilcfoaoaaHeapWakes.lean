/- wakes: what the document says of two nodes. -/
import Derived.Test.YtdelfgilcfoaoaaHeapAt
namespace Go.Proofs.Ytdelfgilcfoaoaa.Hp
open Go.RowKit

def wk : Ab := (((newA 3).put 1).put 2).bump 2 1
theorem wk_first : First wk 2 := by
  refine ⟨by decide, by decide, fun j hj hin hne => ?_⟩
  have hj' : j < 3 := hj
  have : j = 0 ∨ j = 1 := by omega
  rcases this with rfl | rfl
  · exact absurd hin (by decide)
  · exact .inl (by decide)

set_option maxRecDepth 100000 in
set_option maxHeartbeats 3200000 in
theorem wakes_any (w : World) :
    Calls Try.prog 8 #[] w fun e w' => e = .returned (.bool true) ∧ Below w.heap.size w w' := by
  have B_w := Lib.hid (Below.refl w.heap.size w)
  go_enter Try.func8, Try.ntmps8
  go_wp2_with fail
  refine (b_new 3 (by omega) w).mono ?_
  rintro e w1 ⟨H, rfl, ha, hb⟩
  have A_w1 := Lib.hid ha
  have B_w1 := Lib.hid (B_w.out.trans hb)
  clear ha hb
  go_wp2_with fail
  refine (show Calls _ _ _ _ _ from b_put A_w1.out 1).mono ?_
  rintro e w2 ⟨rfl, ha_w2, hb_w2⟩
  have A_w2 := Lib.hid ha_w2
  have B_w2 := Lib.hid (B_w1.out.trans hb_w2)
  clear ha_w2 hb_w2
  go_wp2_with fail
  refine (show Calls _ _ _ _ _ from b_put A_w2.out 2).mono ?_
  rintro e w3 ⟨rfl, ha_w3, hb_w3⟩
  have A_w3 := Lib.hid ha_w3
  have B_w3 := Lib.hid (B_w2.out.trans hb_w3)
  clear ha_w3 hb_w3
  go_wp2_with fail
  refine (show Calls _ _ _ _ _ from b_bump A_w3.out 2 1).mono ?_
  rintro e w4 ⟨rfl, ha_w4, hb_w4⟩
  have A_w4 := Lib.hid ha_w4
  have B_w4 := Lib.hid (B_w3.out.trans hb_w4)
  clear ha_w4 hb_w4
  go_wp2_with fail
  refine (b_pop A_w4.out).mono ?_
  rintro e w5 ⟨he, ha, hb⟩
  rcases he with ⟨k, hk, rfl⟩ | ⟨he, rfl⟩
  · obtain rfl : k = 2 := First.unique hk wk_first
    rw [popA_first hk] at ha
    have A_w5 := Lib.hid ha
    have B_w5 := Lib.hid (B_w4.out.trans hb)
    clear ha hb
    go_wp2_with fail
    refine (ptr_len A_w5.out.1).mono ?_
    rintro e w' ⟨rfl, rfl⟩
    go_wp2_with fail
    refine (ptr_has A_w5.out.1 1).mono ?_
    rintro e w' ⟨rfl, rfl⟩
    go_wp2_with fail
    refine (ptr_has A_w5.out.1 2).mono ?_
    rintro e w' ⟨rfl, rfl⟩
    go_wp2_with fail
    refine (ptr_act A_w5.out.1 2).mono ?_
    rintro e w' ⟨rfl, rfl⟩
    go_wp2_with fail
    go_ret
    exact ⟨rfl, B_w5.out⟩
  · exact absurd wk_first (fun f => he.no_first f)
end Go.Proofs.Ytdelfgilcfoaoaa.Hp
