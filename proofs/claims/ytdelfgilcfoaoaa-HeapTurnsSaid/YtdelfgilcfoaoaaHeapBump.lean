/- The walks of the heap's Put where nothing turns, and of Bump. -/
import Derived.Test.YtdelfgilcfoaoaaHeapPut2
namespace Go.Proofs.Ytdelfgilcfoaoaa.Hp
open Go.RowKit

set_option maxHeartbeats 400000 in
theorem put_nil (i : Int) (w : World) :
    Calls Try.prog 14 #[.pointer none, .int .i64 i] w fun e w' => e = .returned (.int .i64 3) ∧ w = w' := by
  go_enter Try.func14, Try.ntmps14
  go_wp2_with fail
  go_ret
  exact ⟨rfl, rfl⟩
set_option maxHeartbeats 400000 in
theorem put_bad {O : Nat → Prop} {w : World} {H ba bt : Nat} {rv : Value} {s : St} (h : Mem O w H ba bt rv s) (i : Int) (hi : isB s.n i = false) :
    Calls Try.prog 14 #[.pointer (some ⟨H, 0, none⟩), .int .i64 i] w fun e w' => e = .returned (.int .i64 2) ∧ w = w' := by
  have HI := Lib.hid (is_any h i)
  rw [hi] at HI
  clear h hi
  go_enter Try.func14, Try.ntmps14
  go_wp2_with fail
  refine (HI.out).mono ?_
  rintro e w' ⟨rfl, rfl⟩
  go_wp2_with fail
  go_ret
  exact ⟨rfl, rfl⟩
set_option maxHeartbeats 400000 in
theorem put_again {O : Nat → Prop} {w : World} {H ba bt : Nat} {rv : Value} {s : St} (h : Mem O w H ba bt rv s) (i : Nat) (hi : i < s.n) (hp : 0 ≤ s.pos i) :
    Calls Try.prog 14 #[.pointer (some ⟨H, 0, none⟩), .int .i64 i] w fun e w' => e = .returned (.int .i64 0) ∧ w = w' := by
  have HI := Lib.hid (is_any h i)
  have HH := Lib.hid (has_any h i hi)
  rw [show isB s.n i = true from isB_iff.2 ⟨by omega, by omega⟩] at HI
  rw [decide_eq_true hp] at HH
  clear h hi hp
  go_enter Try.func14, Try.ntmps14
  go_wp2_with fail
  refine (HI.out).mono ?_
  rintro e w' ⟨rfl, rfl⟩
  go_wp2_with fail
  refine (HH.out).mono ?_
  rintro e w' ⟨rfl, rfl⟩
  go_wp2_with fail
  go_ret
  exact ⟨rfl, rfl⟩

/-- a node more active -/
def bumpSt (s : St) (i : Nat) (d : Int) : St := { s with act := upd s.act i (min (s.act i + d) 1099511627776) }
theorem Fit.bump {s : St} (h : Fit s) {i : Nat} (hi : i < s.n) {d : Int} (hd : 0 ≤ d) : Fit (bumpSt s i d) := by
  refine ⟨h.small, fun j hj => ?_, h.node, h.back, h.place, h.many⟩
  show 0 ≤ upd s.act i _ j ∧ upd s.act i _ j ≤ 1099511627776
  have h1 := h.acts i hi
  by_cases e : j = i
  · rw [e, upd_self]; omega
  · rw [upd_other _ _ e]; exact h.acts j hj
theorem bump_grows {s : St} (h : Fit s) {i : Nat} (hi : i < s.n) {d : Int} (hd : 0 ≤ d) : s.act i ≤ (bumpSt s i d).act i := by
  show s.act i ≤ upd s.act i _ i
  have h1 := h.acts i hi
  rw [upd_self]; omega
/-- a node out of the heap: the order stands -/
theorem bump_ord_out {s : St} (hf : Fit s) (h : Ord s) {i : Nat} (hp : s.pos i = -1) (d : Int) : Ord (bumpSt s i d) := by
  intro c h0 hc
  have hc' : c < s.m := hc
  have hne : ∀ k, k < s.m → s.row k ≠ i := fun k hk e => by have := hf.back k hk; rw [e, hp] at this; omega
  have := h c h0 hc'
  show ahead (upd s.act i _) (s.row ((c - 1) / 2)) (s.row c)
  unfold ahead at *
  rw [upd_other _ _ (hne c hc'), upd_other _ _ (hne _ (by omega))]; exact this
/-- a node of the heap: the order stands but for its own parent -/
theorem bump_ord_in {s : St} (hf : Fit s) (h : Ord s) {i k : Nat} (hi : i < s.n) (hk : k < s.m) (hki : s.row k = i) {d : Int} (hd : 0 ≤ d) : OrdBut (bumpSt s i d) k := by
  have hg := bump_grows hf hi hd
  have hrow : ∀ j, j < s.m → j ≠ k → s.row j ≠ i := fun j hj hne e => hne (hf.inj hj hk (by rw [e, hki]))
  have hact : ∀ x, x ≠ i → (bumpSt s i d).act x = s.act x := fun x hx => upd_other _ _ hx
  refine ⟨fun c h0 hc hne => ?_, fun h0 c hc0 hc hp => ?_⟩
  · have hc' : c < s.m := hc
    have h1 := h c h0 hc'
    show ahead (bumpSt s i d).act (s.row ((c - 1) / 2)) (s.row c)
    unfold ahead at *
    rw [hact _ (hrow c hc' hne)]
    by_cases e : (c - 1) / 2 = k
    · rw [e, hki] at h1 ⊢; omega
    · rw [hact _ (hrow _ (by omega) e)]; exact h1
  · have hc' : c < s.m := hc
    have h1 := h c hc0 hc'
    rw [hp] at h1
    have h2 := h k h0 hk
    have h3 := ahead_trans h2 h1
    show ahead (bumpSt s i d).act (s.row ((k - 1) / 2)) (s.row c)
    unfold ahead at *
    rw [hact _ (hrow c hc' (by omega)), hact _ (hrow _ (by omega) (by omega))]; exact h3

set_option maxHeartbeats 400000 in
theorem bump_nil (i d : Int) (w : World) :
    Calls Try.prog 15 #[.pointer none, .int .i64 i, .int .i64 d] w fun e w' => e = .returned (.int .i64 3) ∧ w = w' := by
  go_enter Try.func15, Try.ntmps15
  go_wp2_with fail
  go_ret
  exact ⟨rfl, rfl⟩
set_option maxHeartbeats 800000 in
theorem bump_bad {O : Nat → Prop} {w : World} {H ba bt : Nat} {rv : Value} {s : St} (h : Mem O w H ba bt rv s) (i d : Int) (hi : isB s.n i = false ∨ d < 0 ∨ 1099511627776 < d) :
    Calls Try.prog 15 #[.pointer (some ⟨H, 0, none⟩), .int .i64 i, .int .i64 d] w fun e w' => e = .returned (.int .i64 2) ∧ w = w' := by
  have HI := Lib.hid (is_any h i)
  clear h
  cases hb : isB s.n i with
  | false =>
    rw [hb] at HI
    clear hb hi
    go_enter Try.func15, Try.ntmps15
    go_wp2_with fail
    refine (HI.out).mono ?_
    rintro e w' ⟨rfl, rfl⟩
    go_wp2_with fail
    go_ret
    exact ⟨rfl, rfl⟩
  | true =>
    rw [hb] at HI hi
    have hi2 : d < 0 ∨ 1099511627776 < d := by rcases hi with h1 | h1; cases h1; exact h1
    clear hi hb
    rcases hi2 with h1 | h1
    all_goals
      go_enter Try.func15, Try.ntmps15
      go_wp2_with fail
      refine (HI.out).mono ?_
      rintro e w' ⟨rfl, rfl⟩
      go_wp2_with fail
      go_ret
      exact ⟨rfl, rfl⟩

set_option maxRecDepth 100000 in
set_option maxHeartbeats 3200000 in
theorem bump_at {O : Nat → Prop} {w : World} {H ba bt : Nat} {rv : Value} {s : St} (h : Mem O w H ba bt rv s) (hO : O ba) (hf : Fit s) (ho : Ord s) (i : Nat) (d : Int) (hi : i < s.n) (hd0 : 0 ≤ d) (hd1 : d ≤ 1099511627776) (v : Int) (hv : v = min (s.act i + d) 1099511627776) (hv2 : (s.act i + d ≤ 1099511627776 ∧ v = s.act i + d) ∨ (1099511627776 < s.act i + d ∧ v = 1099511627776)) :
    Calls Try.prog 15 #[.pointer (some ⟨H, 0, none⟩), .int .i64 i, .int .i64 d] w fun e w' => e = .returned (.int .i64 0) ∧ ∃ s', Mem O w' H ba bt rv s' ∧ Fit s' ∧ Ord s' ∧ Like (bumpSt s i d) s' ∧ Keeps O w w' := by
  obtain ⟨ca, ct, c0, c1, c2, hfz⟩ := h.obj_cells
  have HI := Lib.hid (is_any h i)
  have hac := h.act_cell hi
  have haf := h.act_free
  have hbd := hf.acts i hi
  obtain ⟨hbd0, hbd1⟩ := hbd
  rw [show isB s.n i = true from isB_iff.2 ⟨by omega, by omega⟩] at HI
  have hi2 : (i : Int) < (s.n : Int) := by omega
  have H1 := Lib.hid (show Mem O (w.setCell ⟨ba, i, none⟩ (.int .i64 v)).drew H ba bt rv (bumpSt s i d) by unfold bumpSt; rw [← hv]; exact (h.set_act hi v).of_heap rfl)
  have HK := Lib.hid (show Keeps O w (w.setCell ⟨ba, i, none⟩ (.int .i64 v)).drew from ((Keeps.refl _ _).setCell (.inl hO) _).drew)
  have HF := Lib.hid (hf.bump hi hd0)
  have HP := Lib.hid (hf.place i hi)
  have HB := Lib.hid (fun k hk hki => bump_ord_in hf ho (i := i) (k := k) hi hk hki hd0)
  have HB2 := Lib.hid (fun hp => bump_ord_out hf ho (i := i) hp d)
  have HH := Lib.hid (fun w' (hm : Mem O w' H ba bt rv (bumpSt s i d)) => has_any hm i hi)
  have HOt := Lib.hid h.ot
  clear h hf ho hO hv
  rcases hv2 with ⟨hle, rfl⟩ | ⟨hle, rfl⟩
  all_goals
    go_enter Try.func15, Try.ntmps15
    go_wp2_with fail
    refine (HI.out).mono ?_
    rintro e w' ⟨rfl, rfl⟩
    go_wp2_with fail
    go_region
    generalize (w.setCell ⟨ba, i, none⟩ _).drew = w1 at *
    have HM := Lib.hid (show Mem O w1 H ba bt rv (bumpSt s i d) from H1.out)
    rcases HP.out with hp | ⟨hp1, hp2, hp3⟩
    · have hh := HH.out w1 HM.out
      rw [show decide (0 ≤ (bumpSt s i d).pos i) = false from decide_eq_false (by show ¬ 0 ≤ s.pos i; omega)] at hh
      have HH2 := Lib.hid hh
      have HE := Lib.hid (show ∃ s', Mem O w1 H ba bt rv s' ∧ Fit s' ∧ Ord s' ∧ Like (bumpSt s i d) s' ∧ Keeps O w w1 from ⟨_, HM.out, HF.out, HB2.out hp, Like.refl _, HK.out⟩)
      clear hh hp
      go_wp2_with fail
      refine (HH2.out).mono ?_
      rintro e w' ⟨rfl, rfl⟩
      go_wp2_with fail
      go_ret
      exact ⟨rfl, HE.out⟩
    · have hh := HH.out w1 HM.out
      rw [show decide (0 ≤ (bumpSt s i d).pos i) = true from decide_eq_true hp1] at hh
      have HH2 := Lib.hid hh
      obtain ⟨k, hk⟩ := Int.eq_ofNat_of_zero_le hp1
      have hk2 : k < s.m := by omega
      have hk3 : s.row k = i := by rw [hk] at hp3; simpa using hp3
      have HR := Lib.hid (fun (W : World) (hW : W.heap = w1.heap) => rise_any (HM.out.of_heap hW) HF.out k hk2 (HB.out k hk2 hk3))
      obtain ⟨ca3, ct3, e0, e1, e2, _⟩ := HM.out.obj_cells
      replace e2 : w1.cell? ⟨H, 2, none⟩ = some (.slice (some ⟨bt, 0, none⟩) s.n ct3) := e2
      have ep : w1.cell? ⟨bt, i, none⟩ = some (.int .i64 k) := (HM.out.pos_cell (i := i) hi).trans (by show some (Value.int .i64 (s.pos i)) = _; rw [hk])
      clear hh hp1 hp2 hp3 hk hk3
      go_wp2_with fail
      refine (HH2.out).mono ?_
      rintro e w' ⟨rfl, rfl⟩
      go_wp2_with fail
      go_still_tail 11, (by kernel_rfl)
      change wpList _ _ _ _ _ w1.drew
      go_wp2_with fail
      refine (HR.out _ (by exact rfl)).mono ?_
      rintro e w5 ⟨rfl, s', hm5, hf5, ho5, hl5, hk5⟩
      have HE := Lib.hid (show ∃ s', Mem O w5 H ba bt rv s' ∧ Fit s' ∧ Ord s' ∧ Like (bumpSt s i d) s' ∧ Keeps O w w5 from
        ⟨s', hm5, hf5, ho5, hl5, HK.out.drew.trans hk5 (fun j _ hs => by
          rcases hs with h1 | h1
          · rcases hm5.row with ⟨h2, _⟩ | ⟨br, cp2, cs, h2, _, _, _, _, _, _, _, h9⟩
            · rw [h2] at h1; simp [Value.ownBlock] at h1
            · rw [h2] at h1; simp [Value.ownBlock] at h1; subst h1; exact h9
          · rw [h1]; exact hm5.ot)⟩)
      clear hm5 hf5 ho5 hl5 hk5
      go_wp2_with fail
      go_ret
      exact ⟨rfl, HE.out⟩
theorem bump_any {O : Nat → Prop} {w : World} {H ba bt : Nat} {rv : Value} {s : St} (h : Mem O w H ba bt rv s) (hO : O ba) (hf : Fit s) (ho : Ord s) (i : Nat) (d : Int) (hi : i < s.n) (hd0 : 0 ≤ d) (hd1 : d ≤ 1099511627776) :
    Calls Try.prog 15 #[.pointer (some ⟨H, 0, none⟩), .int .i64 i, .int .i64 d] w fun e w' => e = .returned (.int .i64 0) ∧ ∃ s', Mem O w' H ba bt rv s' ∧ Fit s' ∧ Ord s' ∧ Like (bumpSt s i d) s' ∧ Keeps O w w' :=
  bump_at h hO hf ho i d hi hd0 hd1 _ rfl (by omega)
end Go.Proofs.Ytdelfgilcfoaoaa.Hp
