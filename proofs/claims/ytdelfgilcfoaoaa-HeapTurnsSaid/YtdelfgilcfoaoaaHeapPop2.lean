/- The walk of the heap's Pop. -/
import Derived.Test.YtdelfgilcfoaoaaHeapPop
import Derived.Test.YtdelfgilcfoaoaaHeapSink
import Derived.Test.YtdelfgilcfoaoaaHeapPut
namespace Go.Proofs.Ytdelfgilcfoaoaa.Hp
open Go.RowKit

/-- the first taken out: the last one stands at its place, the order stands but for there -/
def popSt (s : St) : St := { Hp.swap s 0 (s.m - 1) with m := s.m - 1, pos := upd (Hp.swap s 0 (s.m - 1)).pos (s.row 0) (-1) }
theorem Fit.pop {s : St} (h : Fit s) (hm : 0 < s.m) : Fit (popSt s) := by
  have h2 := h.swap (i := 0) (k := s.m - 1) hm (by omega)
  have hlast : (Hp.swap s 0 (s.m - 1)).row (s.m - 1) = s.row 0 := by rw [swap_row, if_pos rfl]
  have hn0 := h.node 0 hm
  have hrow : ∀ k, k < s.m - 1 → (Hp.swap s 0 (s.m - 1)).row k ≠ s.row 0 := fun k hk e => by
    have := h2.inj (j := k) (k := s.m - 1) (by show k < s.m; omega) (by show s.m - 1 < s.m; omega) (by rw [e, hlast]); omega
  refine ⟨h.small, h.acts, ?_, ?_, ?_, ?_⟩
  · intro k hk
    have hk' : k < s.m - 1 := hk
    exact h2.node k (by show k < s.m; omega)
  · intro k hk
    have hk' : k < s.m - 1 := hk
    show upd (Hp.swap s 0 (s.m - 1)).pos (s.row 0) (-1) ((Hp.swap s 0 (s.m - 1)).row k) = k
    rw [upd_other _ _ (hrow k hk')]; exact h2.back k (by show k < s.m; omega)
  · intro x hx
    show upd (Hp.swap s 0 (s.m - 1)).pos (s.row 0) (-1) x = -1 ∨ _
    by_cases e : x = s.row 0
    · rw [e, upd_self]; exact .inl rfl
    · rw [upd_other _ _ e]
      rcases h2.place x hx with h1 | ⟨h1, h3, h4⟩
      · exact .inl h1
      · right
        have hne : ((Hp.swap s 0 (s.m - 1)).pos x).toNat ≠ s.m - 1 := fun e2 => e (by rw [← h4, e2, hlast])
        have h3' : (Hp.swap s 0 (s.m - 1)).pos x < (s.m : Int) := h3
        refine ⟨by show 0 ≤ upd (Hp.swap s 0 (s.m - 1)).pos (s.row 0) (-1) x; rw [upd_other _ _ e]; exact h1, by show upd (Hp.swap s 0 (s.m - 1)).pos (s.row 0) (-1) x < ((s.m - 1 : Nat) : Int); rw [upd_other _ _ e]; omega, ?_⟩
        show (Hp.swap s 0 (s.m - 1)).row (upd (Hp.swap s 0 (s.m - 1)).pos (s.row 0) (-1) x).toNat = x
        rw [upd_other _ _ e]; exact h4
  · show s.m - 1 = cnt s.n (fun x => decide (0 ≤ upd (Hp.swap s 0 (s.m - 1)).pos (s.row 0) (-1) x))
    have h5 : s.m = cnt s.n (fun x => decide (0 ≤ (Hp.swap s 0 (s.m - 1)).pos x)) := h2.many
    have h6 := cnt_on (n := s.n) (i := s.row 0) (p := fun x => decide (0 ≤ upd (Hp.swap s 0 (s.m - 1)).pos (s.row 0) (-1) x)) (q := fun x => decide (0 ≤ (Hp.swap s 0 (s.m - 1)).pos x)) hn0 (by simp [upd_self])
      (by
        have := h2.back (s.m - 1) (by show s.m - 1 < s.m; omega)
        rw [hlast] at this
        simp [this]) (fun j _ hne => by simp [upd_other _ _ hne])
    omega
theorem pop_ord {s : St} (h : Ord s) (hm : 0 < s.m) : OrdTop (popSt s) 0 := by
  refine ⟨fun c h0 hc hne => ?_, fun h0 => by omega⟩
  have hc' : c < s.m - 1 := hc
  show ahead s.act ((Hp.swap s 0 (s.m - 1)).row ((c - 1) / 2)) ((Hp.swap s 0 (s.m - 1)).row c)
  rw [swap_row, swap_row, if_neg (by omega), if_neg (by omega), if_neg (by omega), if_neg (by omega)]
  exact h c h0 (by omega)

/-- the rows cut short -/
theorem Mem.cut {O : Nat → Prop} {w : World} {H ba bt br m cap : Nat} {s : St} (h : Mem O w H ba bt (.slice (some ⟨br, 0, none⟩) m cap) s) (k : Nat) (hk : k ≤ s.m) :
    Mem O (w.setCell ⟨H, 1, none⟩ (.slice (some ⟨br, 0, none⟩) k cap)) H ba bt (.slice (some ⟨br, 0, none⟩) k cap) { s with m := k } := by
  have hHa := h.neHa
  have hHt := h.neHt
  obtain ⟨ca, ct, h1⟩ := h.obj
  obtain ⟨cs, h2, h2'⟩ := h.act
  obtain ⟨cp, h3, h3'⟩ := h.pos
  rcases h.row with h4 | ⟨br', cap', cr, h4, h5, h6, h7, h8, h9, h10, h11, h12⟩
  · simp at h4
  · simp only [Value.slice.injEq, Option.some.injEq, Addr.mk.injEq, and_true] at h4
    obtain ⟨rfl, rfl, rfl⟩ := h4
    have hHr : H ≠ br := by rintro rfl; rw [h1] at h5; simp at h5
    refine ⟨⟨ca, ct, by rw [setCell_at h1]; rfl⟩, ⟨cs, by rw [setCell_far _ _ (Ne.symm hHa)]; exact h2, h2'⟩, ⟨cp, by rw [setCell_far _ _ (Ne.symm hHt)]; exact h3, h3'⟩, ?_, h.ne, h.oH, h.ot⟩
    exact .inr ⟨br, cap, cr, rfl, by rw [setCell_far _ _ (Ne.symm hHr)]; exact h5, by show k ≤ cap; omega, h7, h8, fun j hj => h9 j (by have hj' : j < k := hj; omega), h10, h11, h12⟩

set_option maxHeartbeats 400000 in
theorem pop_nil (w : World) :
    Calls Try.prog 16 #[.pointer none] w fun e w' => e = .returned (.tuple #[.int .i64 0, .bool false]) ∧ w = w' := by
  go_enter Try.func16, Try.ntmps16
  go_wp2_with fail
  go_ret2
  exact ⟨rfl, rfl⟩
set_option maxHeartbeats 400000 in
theorem pop_none {O : Nat → Prop} {w : World} {H ba bt : Nat} {rv : Value} {s : St} (h : Mem O w H ba bt rv s) (hm : s.m = 0) :
    Calls Try.prog 16 #[.pointer (some ⟨H, 0, none⟩)] w fun e w' => e = .returned (.tuple #[.int .i64 0, .bool false]) ∧ w = w' := by
  obtain ⟨ca, ct, c0, c1, c2, _⟩ := h.obj_cells
  obtain ⟨A, cp, hrv⟩ : ∃ A cp, rv = .slice A 0 cp := by
    rcases h.row with ⟨h1, h2⟩ | ⟨br, cap, cs, h1, _⟩
    · exact ⟨none, 0, h1⟩
    · exact ⟨_, cap, by rw [h1, hm]⟩
  rw [hrv] at c1
  clear h hrv hm
  go_enter Try.func16, Try.ntmps16
  go_wp2_with fail
  go_ret2
  exact ⟨rfl, rfl⟩

set_option maxRecDepth 100000 in
set_option maxHeartbeats 3200000 in
theorem pop_any {O : Nat → Prop} {w : World} {H ba bt : Nat} {rv : Value} {s : St} (h : Mem O w H ba bt rv s) (hf : Fit s) (ho : Ord s) (hm : 0 < s.m) :
    Calls Try.prog 16 #[.pointer (some ⟨H, 0, none⟩)] w fun e w' => e = .returned (.tuple #[.int .i64 (s.row 0), .bool true]) ∧ ∃ rv' s', Mem O w' H ba bt rv' s' ∧ Fit s' ∧ Ord s' ∧ Like (popSt s) s' ∧ Keeps O w w' := by
  have hle := hf.le
  have hsm := hf.small
  obtain ⟨br, cap, rfl, hmc, hcm, hrow, hrf, hrba, hrbt, hrH, hOr, _⟩ := h.rows hm
  obtain ⟨ca, ct, c0, c1, c2, hfz⟩ := h.obj_cells
  have r0 := hrow 0 hm
  have hx := hf.node 0 hm
  have hx2 : (s.row 0 : Int) < (s.n : Int) := by omega
  have hm2 : (0 : Int) < (s.m : Int) := by omega
  have hm3 : ((s.m : Int) == 0) = false := by rw [beq_eq_false_iff_ne]; omega
  unfold maxLen at hcm
  have HS := Lib.hid (fun (W : World) (hW : W.heap = w.heap) => swap_all (h.of_heap hW) hf 0 (s.m - 1) hm (by omega))
  have HF := Lib.hid (show Fit (popSt s) ∧ OrdTop (popSt s) 0 from ⟨hf.pop hm, pop_ord ho hm⟩)
  have HO := Lib.hid h
  clear h hrow hf ho
  go_enter Try.func16, Try.ntmps16
  go_wp2_with fail
  go_quiet (fail)
  go_wp2_with fail
  rw [show ((s.m : Int) - 1) = ((s.m - 1 : Nat) : Int) by omega]
  refine (HS.out _ (by exact rfl)).mono ?_
  rintro e w1 ⟨rfl, hm1, hk1⟩
  have HM1 := Lib.hid hm1
  have HK1 := Lib.hid hk1
  obtain ⟨ca1, ct1, d0, d1, d2, dfz⟩ := hm1.obj_cells
  replace d2 : w1.cell? ⟨H, 2, none⟩ = some (.slice (some ⟨bt, 0, none⟩) s.n ct1) := d2
  have hHt := hm1.neHt
  have p1 := hm1.pos_cell (i := s.row 0) hx
  have pf1 := hm1.pos_free
  have hM2 := (hm1.cut (s.m - 1) (by show s.m - 1 ≤ s.m; omega)).set_pos (i := s.row 0) hx (-1)
  have HM2 := Lib.hid (show Mem O ((w1.setCell ⟨H, 1, none⟩ (.slice (some ⟨br, 0, none⟩) (s.m - 1) cap)).setCell ⟨bt, s.row 0, none⟩ (.int .i64 (-1))) H ba bt (.slice (some ⟨br, 0, none⟩) (s.m - 1) cap) (popSt s) from hM2)
  have HK2 := Lib.hid (show Keeps O w1 ((w1.setCell ⟨H, 1, none⟩ (.slice (some ⟨br, 0, none⟩) (s.m - 1) cap)).setCell ⟨bt, s.row 0, none⟩ (.int .i64 (-1))) from ((Keeps.refl O w1).setCell (.inl hm1.oH) _).setCell (.inl hm1.ot) _)
  have HKO := Lib.hid (show ∀ j, swapSet (.slice (some ⟨br, 0, none⟩) s.m cap) bt j → O j from fun j hj => by
    rcases hj with h1 | h1
    · simp [Value.ownBlock] at h1; subst h1; exact hOr
    · rw [h1]; exact hm1.ot)
  have HRK := Lib.hid ((Keeps.refl (swapSet (.slice (some ⟨br, 0, none⟩) s.m cap) bt) w))
  clear hm1 hk1 c0 c1 c2 hfz r0 hM2
  have hl1 : (s.m - 1 : Nat) ≤ cap := by omega
  go_wp2_with fail
  generalize (w1.setCell ⟨H, 1, none⟩ (.slice (some ⟨br, 0, none⟩) (s.m - 1) cap)).setCell ⟨bt, s.row 0, none⟩ (.int .i64 (-1)) = w2 at *
  refine (sink_any HM2.out HF.out.1 0 (by show 0 < s.m - 1 ∨ (s.m - 1 = 0 ∧ 0 = 0); omega) HF.out.2).mono ?_
  rintro e w3 ⟨rfl, s', hm3', hf3, ho3, hl3, hk3⟩
  have HE := Lib.hid (show ∃ rv' s', Mem O w3 H ba bt rv' s' ∧ Fit s' ∧ Ord s' ∧ Like (popSt s) s' ∧ Keeps O w w3 from
    ⟨_, s', hm3', hf3, ho3, hl3, (((Keeps.refl O w).drewN _).trans_same (HK1.out.mono HKO.out)).trans_same (HK2.out.trans_same (hk3.mono HKO.out))⟩)
  clear hm3' hf3 ho3 hl3 hk3
  go_wp2_with fail
  go_ret2
  exact ⟨rfl, HE.out⟩
end Go.Proofs.Ytdelfgilcfoaoaa.Hp
