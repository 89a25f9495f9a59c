/- behind: a heap behind acts. -/
import Derived.Test.YtdelfgilcfoaoaaHeapActs
namespace Go.Proofs.Ytdelfgilcfoaoaa.Hp
open Go.RowKit

set_option maxRecDepth 100000 in
set_option maxHeartbeats 3200000 in
theorem behind_any (w : World) (n : Nat) (hn : n ≤ 65536) (A : Option Addr) (cap : Nat) (l : List Act3) (hc : Cells w A (flat l)) (hl : l.length ≤ 300) :
    Calls Try.prog 9 #[.int .i64 n, .slice A l.length cap] w fun e w' => ∃ H, e = .returned (.pointer (some ⟨H, 0, none⟩)) ∧ AtB w.heap.size w' H (play (newA n) l) ∧ Below w.heap.size w w' := by
  go_enter Try.func9, Try.ntmps9
  go_wp2_with fail
  refine (b_new n hn w).mono ?_
  rintro e w1 ⟨H, rfl, ha, hb⟩
  have A_w1 := Lib.hid ha
  have B_w1 := Lib.hid hb
  clear ha hb
  go_wp2_with fail
  go_loopw [6] (fun v wr => ∃ k : Nat, k ≤ l.length ∧ v = .int .i64 k ∧ AtB w.heap.size wr H (play (newA n) (l.take k)) ∧ Below w.heap.size w wr) (fun v _ => l.length - (intOf v).toNat)
  case atStart => exact ⟨0, Nat.zero_le _, rfl, A_w1.out, B_w1.out⟩
  case round =>
    obtain ⟨k, hk, rfl, ha, hb⟩ := hrel
    have HA := Lib.hid ha
    have HB := Lib.hid hb
    by_cases hlt : k < l.length
    · have hlt2 : (k : Int) < (l.length : Int) := by omega
      have hx := List.getElem?_eq_getElem hlt
      generalize l[k] = x at hx
      have HS := Lib.hid (play_take hx (newA n))
      rcases hc.on hb with h0 | ⟨b, o, rfl, hbl, hcell⟩
      · have := flat_length l; rw [h0] at this; simp at this; omega
      · obtain ⟨g0, g1, g2⟩ := flat_at l _ _ hx
        have c0 := hcell _ _ g0
        have c1 := hcell _ _ g1
        have c2 := hcell _ _ g2
        clear hcell ha hb
        obtain ⟨xd, xn, xb⟩ := x
        simp only at c0 c1 c2
        rw [← Nat.add_assoc] at c1 c2
        by_cases e0 : xd = 0
        · subst e0
          go_wp2_with fail
          refine (b_put HA.out xn).mono ?_
          rintro e w2 ⟨rfl, ha, hb⟩
          have HA2 := Lib.hid ha
          have HB2 := Lib.hid (HB.out.trans hb)
          clear ha hb c0 c1 c2
          go_wp2_with fail
          go_roundw
          case rel => exact ⟨k + 1, by omega, by go_num, by rw [HS.out]; exact HA2.out, HB2.out⟩
          case measure => simp [intOf]; omega
        · by_cases e1 : xd = 1
          · subst e1
            go_wp2_with fail
            refine (b_pop HA.out).mono ?_
            rintro e w2 ⟨he, ha, hb⟩
            have HA2 := Lib.hid ha
            have HB2 := Lib.hid (HB.out.trans hb)
            clear ha hb c0 c1 c2
            rcases he with ⟨j, _, rfl⟩ | ⟨_, rfl⟩
            · go_wp2_with fail
              go_roundw
              case rel => exact ⟨k + 1, by omega, by go_num, by rw [HS.out]; exact HA2.out, HB2.out⟩
              case measure => simp [intOf]; omega
            · go_wp2_with fail
              go_roundw
              case rel => exact ⟨k + 1, by omega, by go_num, by rw [HS.out]; exact HA2.out, HB2.out⟩
              case measure => simp [intOf]; omega
          · have n0 : (xd == 0) = false := beq_eq_false_iff_ne.2 e0
            have n1 : (xd == 1) = false := beq_eq_false_iff_ne.2 e1
            by_cases e2 : xd = 2
            · subst e2
              have HW := Lib.hid (fun (W : World) (hW : W.heap = wr.heap) => b_bump (show AtB w.heap.size W H (play (newA n) (l.take k)) from ⟨HA.out.1.heap hW, by rw [hW]; exact HA.out.2⟩) xn xb)
              go_wp2_with fail
              go_still_tail 11, (by kernel_rfl)
              change wpList _ _ _ _ _ wr.drew
              go_wp2_with fail
              refine (HW.out _ (by exact rfl)).mono ?_
              rintro e w2 ⟨rfl, ha, hb⟩
              have HA2 := Lib.hid ha
              have HB2 := Lib.hid (HB.out.drew.trans hb)
              clear ha hb c0 c1 c2
              go_wp2_with fail
              go_roundw
              case rel => exact ⟨k + 1, by omega, by go_num, by rw [HS.out]; exact HA2.out, HB2.out⟩
              case measure => simp [intOf]; omega
            · by_cases e3 : xd = 3
              · subst e3
                go_wp2_with fail
                refine (b_halve HA.out).mono ?_
                rintro e w2 ⟨rfl, ha, hb⟩
                have HA2 := Lib.hid ha
                have HB2 := Lib.hid (HB.out.trans hb)
                clear ha hb c0 c1 c2
                go_wp2_with fail
                go_roundw
                case rel => exact ⟨k + 1, by omega, by go_num, by rw [HS.out]; exact HA2.out, HB2.out⟩
                case measure => simp [intOf]; omega
              · have n2 : (xd == 2) = false := beq_eq_false_iff_ne.2 e2
                have n3 : (xd == 3) = false := beq_eq_false_iff_ne.2 e3
                go_wp2_with fail
                go_roundw
                case rel => exact ⟨k + 1, by omega, by go_num, by rw [HS.out]; unfold stepA; rw [if_neg e0, if_neg e1, if_neg e2, if_neg e3]; exact HA.out, HB.out⟩
                case measure => simp [intOf]; omega
    · obtain rfl : k = l.length := by omega
      rw [List.take_length] at HA
      clear ha hb
      go_wp2_with fail
      go_ret
      exact ⟨H, rfl, HA.out, HB.out⟩
end Go.Proofs.Ytdelfgilcfoaoaa.Hp
