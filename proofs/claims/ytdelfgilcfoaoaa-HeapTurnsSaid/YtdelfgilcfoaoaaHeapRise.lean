/- The walk of the heap's rise. -/
import Derived.Test.YtdelfgilcfoaoaaHeapSwap
namespace Go.Proofs.Ytdelfgilcfoaoaa.Hp
open Go.RowKit

theorem ahead_any {O : Nat → Prop} {w : World} {H ba bt : Nat} {rv : Value} {s : St} (h : Mem O w H ba bt rv s) (a b : Nat) (ha : a < s.n) (hb : b < s.n) :
    Calls Try.prog 33 #[.pointer (some ⟨H, 0, none⟩), .int .i64 a, .int .i64 b] w fun e w' => e = .returned (.bool (aheadB s.act a b)) ∧ ∃ q, w' = w.drewN q := by
  obtain ⟨ca, ct, c0, _⟩ := h.obj_cells
  exact ahead_raw c0 a b _ _ ha hb (h.act_cell ha) (h.act_cell hb)

/-- the same heap with its nodes at other places -/
structure Like (s s' : St) : Prop where
  n : s'.n = s.n
  act : s'.act = s.act
  m : s'.m = s.m
  has : ∀ i, i < s.n → (0 ≤ s'.pos i ↔ 0 ≤ s.pos i)
theorem Like.refl (s : St) : Like s s := ⟨rfl, rfl, rfl, fun _ _ => Iff.rfl⟩
theorem Like.trans {a b c : St} (h : Like a b) (k : Like b c) : Like a c :=
  ⟨k.n.trans h.n, k.act.trans h.act, k.m.trans h.m, fun i hi => (k.has i (by rw [h.n]; exact hi)).trans (h.has i hi)⟩
theorem Like.swap {s : St} (hf : Fit s) {i k : Nat} (hi : i < s.m) (hk : k < s.m) : Like s (swap s i k) := by
  refine ⟨rfl, rfl, rfl, fun x hx => ?_⟩
  have h1 := hf.back i hi
  have h2 := hf.back k hk
  rw [swap_pos]
  split
  · rename_i e; rw [e, h1]; omega
  · split
    · rename_i e; rw [e, h2]; omega
    · rfl

/-- what stands at the head of a rise's round -/
structure RiseAt (O : Nat → Prop) (w : World) (H ba bt : Nat) (rv : Value) (s0 : St) (k : Nat) (wr : World) (s : St) : Prop where
  mem : Mem O wr H ba bt rv s
  fit : Fit s
  ord : OrdBut s k
  like : Like s0 s
  lt : k < s.m
  keep : Keeps (swapSet rv bt) w wr

set_option maxHeartbeats 1600000 in
theorem rise_any {O : Nat → Prop} {w : World} {H ba bt : Nat} {rv : Value} {s : St} (h : Mem O w H ba bt rv s) (hf : Fit s) (k : Nat) (hk : k < s.m) (ho : OrdBut s k) :
    Calls Try.prog 34 #[.pointer (some ⟨H, 0, none⟩), .int .i64 k] w fun e w' => e = .returned (.tuple #[]) ∧ ∃ s', Mem O w' H ba bt rv s' ∧ Fit s' ∧ Ord s' ∧ Like s s' ∧ Keeps (swapSet rv bt) w w' := by
  have H0 := Lib.hid (show RiseAt O w H ba bt rv s k w s from ⟨h, hf, ho, Like.refl s, hk, Keeps.refl _ _⟩)
  have hk0 : k ≤ 65536 := by have := hf.le; have := hf.small; omega
  clear h hf ho
  go_enter Try.func34, Try.ntmps34
  go_wp2_with fail
  go_loopw [1, 4] (fun v u wr => ∃ (j : Nat) (t : St), j ≤ k ∧ v = .int .i64 j ∧ u = .int .i64 (((j : Int) - 1) / 2) ∧ RiseAt O w H ba bt rv s j wr t) (fun v _ _ => (intOf v).toNat)
  case atStart => exact ⟨k, s, Nat.le_refl _, rfl, rfl, H0.out⟩
  case round =>
    obtain ⟨j, t, hj, rfl, rfl, hR⟩ := hrel
    have HR := Lib.hid hR
    by_cases hj0 : j = 0
    · subst hj0
      have hd : decide ((0 : Int) < ((0 : Nat) : Int)) = false := by decide
      clear hR
      go_wp2
      go_quiet (fail)
      go_wp2
      go_end0
      have R := HR.out
      exact ⟨rfl, t, R.mem.of_heap rfl, R.fit, rise_end R.fit R.ord R.lt (.inl rfl), R.like, R.keep.drewN _⟩
    · have hm := hR.mem
      have hlt := hR.lt
      have hle := hR.fit.le
      obtain ⟨br, cap, hrv, hmc, hcm, hrow, _, _, _, _, _, _⟩ := hm.rows (by omega)
      obtain ⟨ca, ct, c0, c1, c2, _⟩ := hm.obj_cells
      rw [hrv] at c1
      have hu : (j - 1) / 2 < t.m := by omega
      have hx := hR.fit.node j hlt
      have hy := hR.fit.node ((j - 1) / 2) hu
      have rx := hrow j hlt
      have ry := hrow ((j - 1) / 2) hu
      have hA := fun (W : World) (hW : W.heap = wr.heap) => ahead_any (hm.of_heap hW) (t.row j) (t.row ((j - 1) / 2)) hx hy
      have j1 : 0 < (j : Int) := by omega
      have j2 : (j : Int) < (t.m : Int) := by omega
      have j3 : ((j : Int) - 1) / 2 < (t.m : Int) := by omega
      have j4 : 0 ≤ ((j : Int) - 1) / 2 := by omega
      have j5 : (((j : Int) - 1) / 2).toNat = (j - 1) / 2 := by omega
      have hd : decide ((0 : Int) < (j : Int)) = true := decide_eq_true j1
      have j0 : 0 < j := by omega
      cases ha : aheadB t.act (t.row j) (t.row ((j - 1) / 2)) with
      | false =>
        rw [ha] at hA
        have HA := Lib.hid hA
        have HF := Lib.hid ha
        clear hA hR hrow hm ha j5 hrv
        go_wp2
        go_quiet ((go_at_call 33; exact Calls.quiet_of (HA.out _ rfl)))
        go_wp2
        go_end0
        have R := HR.out
        exact ⟨rfl, t, R.mem.of_heap rfl, R.fit, rise_end R.fit R.ord R.lt (.inr (aheadB_no.1 HF.out)), R.like, R.keep.drewN _⟩
      | true =>
        rw [ha] at hA
        have HA := Lib.hid hA
        have HF := Lib.hid ha
        have HW := Lib.hid (fun (W : World) (hW : W.heap = wr.heap) => swap_any (hm.of_heap hW) hR.fit j ((j - 1) / 2) (by omega) hlt hu)
        clear hA hR hrow hm ha j5 hrv
        go_wp2
        go_quiet ((go_at_call 33; exact Calls.quiet_of (HA.out _ rfl)))
        go_wp2_with fail
        rw [show ((j : Int) - 1) / 2 = (((j - 1) / 2 : Nat) : Int) by omega]
        refine (HW.out _ (by exact rfl)).mono ?_
        rintro e w1 ⟨rfl, hm1, hk1⟩
        have HM1 := Lib.hid hm1
        have HK1 := Lib.hid hk1
        clear hm1 hk1
        have k1 : (((j - 1) / 2 : Nat) : Int) ≤ 65536 := by omega
        go_wp2_with fail
        go_roundw
        case rel =>
          have R := HR.out
          refine ⟨(j - 1) / 2, swap t j ((j - 1) / 2), by omega, rfl, rfl, HM1.out, R.fit.swap R.lt hu, rise_step R.ord (by omega) R.lt (aheadB_iff.1 HF.out), R.like.trans (Like.swap R.fit R.lt hu), hu, ?_⟩
          exact (R.keep.drewN _).trans_same HK1.out
        case measure => simp [intOf]; omega
end Go.Proofs.Ytdelfgilcfoaoaa.Hp
