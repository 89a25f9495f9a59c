/- The walk of the heap's sink. -/
import Derived.Test.YtdelfgilcfoaoaaHeapRise
namespace Go.Proofs.Ytdelfgilcfoaoaa.Hp
open Go.RowKit

/-- what stands at the head of a sink's round -/
structure SinkAt (O : Nat → Prop) (w : World) (H ba bt : Nat) (rv : Value) (s0 : St) (k : Nat) (wr : World) (s : St) : Prop where
  mem : Mem O wr H ba bt rv s
  fit : Fit s
  ord : OrdTop s k
  like : Like s0 s
  lt : k < s.m ∨ (s.m = 0 ∧ k = 0)
  keep : Keeps (swapSet rv bt) w wr

/-- the best of a parent and those of its children that were looked at -/
structure BestOf (t : St) (k c b : Nat) : Prop where
  lo : b = k ∨ (2 * k + 1 ≤ b ∧ b < c ∧ b < t.m)
  all : ∀ x, (x = k ∨ (2 * k + 1 ≤ x ∧ x < c ∧ x < t.m)) → x ≠ b → ahead t.act (t.row b) (t.row x)
theorem BestOf.start (t : St) (k : Nat) : BestOf t k (2 * k + 1) k := ⟨.inl rfl, fun x hx hne => by rcases hx with h | h; exact absurd h hne; omega⟩
theorem BestOf.out {t : St} {k c b : Nat} (h : BestOf t k c b) (hc : t.m ≤ c) : BestOf t k (c + 1) b :=
  ⟨by rcases h.lo with h1 | h1; exact .inl h1; exact .inr ⟨h1.1, by omega, h1.2.2⟩, fun x hx hne => h.all x (by rcases hx with h1 | h1; exact .inl h1; exact .inr ⟨h1.1, by omega, h1.2.2⟩) hne⟩
theorem BestOf.stay {t : St} {k c b : Nat} (hf : Fit t) (h : BestOf t k c b) (hc : c < t.m) (hck : k < c) (hkm : k < t.m) (ha : ¬ ahead t.act (t.row c) (t.row b)) : BestOf t k (c + 1) b := by
  have hb : b < c ∧ b < t.m := by rcases h.lo with h1 | h1 <;> omega
  refine ⟨by rcases h.lo with h1 | h1; exact .inl h1; exact .inr ⟨h1.1, by omega, h1.2.2⟩, fun x hx hne => ?_⟩
  by_cases hxc : x = c
  · subst hxc
    rcases ahead_total (act := t.act) (a := t.row x) (b := t.row b) (fun e => by have := hf.inj hc hb.2 e; omega) with h2 | h2
    · exact absurd h2 ha
    · exact h2
  · exact h.all x (by rcases hx with h1 | h1; exact .inl h1; exact .inr ⟨h1.1, by omega, h1.2.2⟩) hne
theorem BestOf.take {t : St} {k c b : Nat} (h : BestOf t k c b) (hc : c < t.m) (hck : 2 * k + 1 ≤ c) (ha : ahead t.act (t.row c) (t.row b)) : BestOf t k (c + 1) c := by
  refine ⟨.inr ⟨hck, by omega, hc⟩, fun x hx hne => ?_⟩
  by_cases hxb : x = b
  · subst hxb; exact ha
  · exact ahead_trans ha (h.all x (by rcases hx with h1 | h1; exact .inl h1; exact .inr ⟨h1.1, by omega, h1.2.2⟩) hxb)

set_option maxHeartbeats 3200000 in
theorem sink_any {O : Nat → Prop} {w : World} {H ba bt : Nat} {rv : Value} {s : St} (h : Mem O w H ba bt rv s) (hf : Fit s) (k : Nat) (hk : k < s.m ∨ (s.m = 0 ∧ k = 0)) (ho : OrdTop s k) :
    Calls Try.prog 36 #[.pointer (some ⟨H, 0, none⟩), .int .i64 k] w fun e w' => e = .returned (.tuple #[]) ∧ ∃ s', Mem O w' H ba bt rv s' ∧ Fit s' ∧ Ord s' ∧ Like s s' ∧ Keeps (swapSet rv bt) w w' := by
  have H0 := Lib.hid (show SinkAt O w H ba bt rv s k w s from ⟨h, hf, ho, Like.refl s, hk, Keeps.refl _ _⟩)
  clear h hf ho hk
  go_enter Try.func36, Try.ntmps36
  go_wp2_with fail
  go_loopw [1] (fun v wr => ∃ (j : Nat) (t : St), v = .int .i64 j ∧ SinkAt O w H ba bt rv s j wr t) (fun v _ => 65537 - (intOf v).toNat)
  case atStart => exact ⟨k, s, rfl, H0.out⟩
  case round =>
    obtain ⟨j, t, rfl, hR⟩ := hrel
    have HR := Lib.hid hR
    have hm := hR.mem
    have hle := hR.fit.le
    have hsm := hR.fit.small
    have hjt : j ≤ 65536 := by rcases hR.lt with h1 | h1 <;> omega
    obtain ⟨ca, ct, c0, c1, c2, _⟩ := hm.obj_cells
    clear hR
    obtain ⟨wo, rfl⟩ : ∃ wo : World, wo = wr := ⟨_, rfl⟩
    obtain ⟨A, cp, hrv⟩ : ∃ A cp, rv = .slice A t.m cp := by
      rcases hm.row with ⟨h1, h2⟩ | ⟨br, cap, cs, h1, _⟩
      · exact ⟨none, 0, by rw [h1, h2]⟩
      · exact ⟨_, cap, h1⟩
    have HV := Lib.hid hrv
    have HK := Lib.hid HR.out.keep
    have HM := Lib.hid hm
    clear hrv c0 c1 c2 hm
    go_wp2_with fail
    go_loopw [4, 5] (fun v u wi => ∃ (b c : Nat), 2 * j + 1 ≤ c ∧ c ≤ 2 * j + 3 ∧ v = .int .i64 b ∧ u = .int .i64 c ∧ b ≤ 65537 ∧ BestOf t j c b ∧ Mem O wi H ba bt rv t ∧ Keeps (swapSet rv bt) w wi) (fun _ u _ => 2 * j + 3 - (intOf u).toNat)
    case atStart => exact ⟨j, 2 * j + 1, by omega, by omega, rfl, by congr 1; omega, by omega, BestOf.start t j, HM.out, HK.out⟩
    case round =>
      obtain ⟨b, c, hc1, hc3, rfl, rfl, hb, hB, hm, hk⟩ := hrel
      have HB := Lib.hid hB
      have HK2 := Lib.hid hk
      have HM2 := Lib.hid hm
      obtain ⟨ca, ct, c0, c1, c2, _⟩ := hm.obj_cells
      rw [HV.out] at c1
      clear hk
      by_cases hin : c ≤ 2 * j + 2
      · have hin2 : (c : Int) ≤ (j : Int) * 2 + 2 := by omega
        by_cases hcm : c < t.m
        · have hd : decide ((c : Int) < (t.m : Int)) = true := decide_eq_true (by omega)
          have hbm : b < t.m := by
            rcases hB.lo with h1 | h1
            · subst h1; rcases HR.out.lt with h2 | h2 <;> omega
            · exact h1.2.2
          obtain ⟨br, cap, hrv2, _, _, hrow, _⟩ := hm.rows (by omega)
          have hx := HR.out.fit.node c hcm
          have hy := HR.out.fit.node b hbm
          have rx := hrow c hcm
          have ry := hrow b hbm
          rw [← HV.out, hrv2] at c1
          have hA := fun (W : World) (hW : W.heap = wr.heap) => ahead_any (hm.of_heap hW) (t.row c) (t.row b) hx hy
          have j2 : (c : Int) < (t.m : Int) := by omega
          have j3 : (b : Int) < (t.m : Int) := by omega
          clear hB hrow hrv2 hm
          cases ha : aheadB t.act (t.row c) (t.row b) with
          | false =>
            rw [ha] at hA
            have HA := Lib.hid hA
            have HF := Lib.hid ha
            clear hA ha
            go_wp2
            go_quiet ((go_at_call 33; exact Calls.quiet_of (HA.out _ rfl)))
            go_wp2
            go_roundw
            case rel => exact ⟨b, c + 1, by omega, by omega, rfl, by go_num, hb, HB.out.stay HR.out.fit hcm (by omega) (by omega) (aheadB_no.1 HF.out), HM2.out.of_heap rfl, HK2.out.drewN _⟩
            case measure => simp [intOf]; omega
          | true =>
            rw [ha] at hA
            have HA := Lib.hid hA
            have HF := Lib.hid ha
            clear hA ha
            go_wp2
            go_quiet ((go_at_call 33; exact Calls.quiet_of (HA.out _ rfl)))
            go_wp2
            go_roundw
            case rel => exact ⟨c, c + 1, by omega, by omega, rfl, by go_num, by omega, HB.out.take hcm hc1 (aheadB_iff.1 HF.out), HM2.out.of_heap rfl, HK2.out.drewN _⟩
            case measure => simp [intOf]; omega
        · have hd : decide ((c : Int) < (t.m : Int)) = false := decide_eq_false (by omega)
          clear hB hm
          go_wp2
          go_quiet (fail)
          go_wp2
          go_roundw
          case rel => exact ⟨b, c + 1, by omega, by omega, rfl, by go_num, hb, HB.out.out (by omega), HM2.out.of_heap rfl, HK2.out.drewN _⟩
          case measure => simp [intOf]; omega
      · have hin2 : ¬ (c : Int) ≤ (j : Int) * 2 + 2 := by omega
        by_cases hbj : b = j
        · subst hbj
          clear hB hm
          go_wp2_with fail
          have R := HR.out
          refine ret0 rfl rfl ⟨rfl, t, HM2.out, R.fit, sink_end R.ord (fun x h0 hx hp => HB.out.all x (.inr ⟨by omega, by omega, hx⟩) (by omega)), R.like, HK2.out⟩
        · have hbc : b < c := by rcases hB.lo with h1 | h1 <;> omega
          have hbm : 2 * j + 1 ≤ b ∧ b < t.m := by
            rcases hB.lo with h1 | h1
            · exact absurd h1 hbj
            · exact ⟨h1.1, h1.2.2⟩
          have hbj2 : ((b : Int) == (j : Int)) = false := by rw [beq_eq_false_iff_ne]; omega
          have hjm : j < t.m := by rcases HR.out.lt with h1 | h1 <;> omega
          have HW := Lib.hid (swap_any hm HR.out.fit j b (by omega) hjm hbm.2)
          clear hB hm
          go_wp2_with fail
          refine HW.out.mono ?_
          rintro e w1 ⟨rfl, hm1, hk1⟩
          have HM1 := Lib.hid hm1
          have HK1 := Lib.hid hk1
          clear hm1 hk1
          go_wp2_with fail
          go_roundw
          case rel =>
            have R := HR.out
            refine ⟨b, swap t j b, rfl, HM1.out, R.fit.swap hjm hbm.2, ?_, R.like.trans (Like.swap R.fit hjm hbm.2), .inl hbm.2, HK2.out.trans_same HK1.out⟩
            exact sink_step R.ord (by omega) hbm.2 (by omega) (HB.out.all j (.inl rfl) (by omega)) (fun x h0 hx hp hne => HB.out.all x (.inr ⟨by omega, by omega, hx⟩) hne)
          case measure => simp [intOf]; omega
end Go.Proofs.Ytdelfgilcfoaoaa.Hp
