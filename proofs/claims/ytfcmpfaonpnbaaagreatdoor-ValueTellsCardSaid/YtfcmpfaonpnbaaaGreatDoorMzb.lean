import Derived.Test.YtfcmpfaonpnbaaaGreatDoorMr
import Derived.Test.YtfcmpfaonpnbaaaGreatDoorMl
/- merged by wip/merge.py from: VSame2 -/
/- Two worlds: are they the same? Rows, functions, worlds; both answers. -/
namespace Go.Proofs.YtfcmpfaonpnbaaaGreatDoor.Vl
open Go.RowKit Go.Proofs.YtfcmpfaonpnbaaaGreatDoor.Dt

theorem eqB_row (r q : Row) : eqB r q = (eqB (r.a0, r.a1, r.a2) (q.a0, q.a1, q.a2) && r.val == q.val) := by
  rw [Bool.eq_iff_iff, eqB_true, Bool.and_eq_true, eqB_true]
  cases r; cases q
  simp [and_assoc]
theorem eqB_fv (f h : FunVal) : eqB f h = (f.els == h.els && eqB f.rows h.rows) := by
  rw [Bool.eq_iff_iff, eqB_true, Bool.and_eq_true, eqB_true]
  cases f; cases h
  simp [and_comm]
theorem eqB_wrld (x y : Wrld) : eqB x y = (eqB x.sizes y.sizes && eqB x.funs y.funs) := by
  rw [Bool.eq_iff_iff, eqB_true, Bool.and_eq_true, eqB_true, eqB_true]
  cases x; cases y
  simp
set_option maxHeartbeats 1600000 in
theorem eqRows_any {w : World} {A B : Option Addr} {xs ys : List Row} (c d : Nat) (hx : Lies 4 RowR w A xs) (hy : Lies 4 RowR w B ys) (hl : (xs.length : Int) ≤ 9223372036854775807) :
    Calls Tryz.prog 45 #[.slice A xs.length c, .slice B ys.length d] w fun e w' => e = .returned (.bool (eqB xs ys)) ∧ Below w.heap.size w w' := by
  by_cases hq : xs.length = ys.length
  · have hq2 : ((xs.length : Int) != (ys.length : Int)) = false := by simp; omega
    have HE := Lib.hid (eqB_full hq)
    go_enter Tryz.func45, Tryz.ntmps45
    go_wp2_with fail
    go_loopw [13] (fun v wr => ∃ k : Nat, k ≤ xs.length ∧ v = .int .i64 k ∧ xs.take k = ys.take k ∧ Below w.heap.size w wr) (fun v _ => xs.length - (intOf v).toNat)
    case atStart => exact ⟨0, Nat.zero_le _, rfl, by simp, Below.refl _ _⟩
    case round =>
      obtain ⟨k, hk, rfl, ht, hb⟩ := hrel
      have HT := Lib.hid ht
      have HB := Lib.hid hb
      clear ht
      by_cases hlt : k < xs.length
      · have hlt2 : (k : Int) < (xs.length : Int) := by omega
        have hltm : (k : Int) < (ys.length : Int) := by omega
        obtain ⟨r, hr⟩ : ∃ r, xs[k]? = some r := ⟨_, List.getElem?_eq_getElem hlt⟩
        obtain ⟨q, hqq⟩ : ∃ q, ys[k]? = some q := ⟨_, List.getElem?_eq_getElem (show k < ys.length by omega)⟩
        obtain ⟨b, o, rfl, _, p0, p1, p2, p3⟩ := row4_cells (hx.on RowR.lasts hb.drew) hr
        obtain ⟨b', o', rfl, _, r0, r1, r2, r3⟩ := row4_cells (hy.on RowR.lasts hb.drew) hqq
        have HS := Lib.hid (eqB_next hr hqq)
        have HA := Lib.hid (show ∀ W, (Op.equalIn 9999 58 (.agg #[.int .i64 r.a0, .int .i64 r.a1, .int .i64 r.a2]) (.agg #[.int .i64 q.a0, .int .i64 q.a1, .int .i64 q.a2])).run Tryz.prog W = .ok (eqB (r.a0, r.a1, r.a2) (q.a0, q.a1, q.a2)) W from fun W => a3_eqIn 9997 (r.a0, r.a1, r.a2) (q.a0, q.a1, q.a2) W)
        have HRo := Lib.hid (eqB_row r q)
        clear hb hr hqq
        generalize hab : eqB (r.a0, r.a1, r.a2) (q.a0, q.a1, q.a2) = ab at *
        clear hab
        cases ab with
        | false =>
          have HN := Lib.hid (HS.out.2 (by have h := HRo.out; exact eqB_false.1 (by rw [h]; rfl)))
          have hab := HA.out
          clear HS HA HRo
          go_wp2_with fail
          refine wp_region_held_drew (S := fun W => (W.cell? ⟨b, o + k * 4, none⟩ = some (.int .i64 r.a0) ∧ W.cell? ⟨b, o + k * 4 + 1, none⟩ = some (.int .i64 r.a1) ∧ W.cell? ⟨b, o + k * 4 + 2, none⟩ = some (.int .i64 r.a2) ∧ W.cell? ⟨b, o + k * 4 + 3, none⟩ = some (.int .i64 r.val)) ∧ (W.cell? ⟨b', o' + k * 4, none⟩ = some (.int .i64 q.a0) ∧ W.cell? ⟨b', o' + k * 4 + 1, none⟩ = some (.int .i64 q.a1) ∧ W.cell? ⟨b', o' + k * 4 + 2, none⟩ = some (.int .i64 q.a2) ∧ W.cell? ⟨b', o' + k * 4 + 3, none⟩ = some (.int .i64 q.val))) (by kernel_rfl) (⟨⟨p0, p1, p2, p3⟩, r0, r1, r2, r3⟩) (fun hHeld => ?_)
          refine wpAnyH_take (i := 0) (oi := Oper.mk _ _ _ _ _ _) (v := ?_) rfl (by kernel_rfl) (by kernel_rfl) (by kernel_rfl) (fun _ _ _ h => h) (Or.inl ⟨by rfl, ?_⟩) (by assumption) ?_
          rotate_left
          · (intro w hSw; (try dsimp only at hSw); go_simp; try with_reducible rfl)
          try simp only [Act.put, List.setIfInBounds_toArray, List.set_cons_zero, List.set_cons_succ]
          refine wpAnyH_take (i := 1) (oi := Oper.mk _ _ _ _ _ _) (v := ?_) rfl (by kernel_rfl) (by kernel_rfl) (by kernel_rfl) (fun _ _ _ h => h) (Or.inl ⟨by rfl, ?_⟩) (by assumption) ?_
          rotate_left
          · (intro w hSw; (try dsimp only at hSw); go_simp; try with_reducible rfl)
          try simp only [Act.put, List.setIfInBounds_toArray, List.set_cons_zero, List.set_cons_succ]
          refine wpAnyH_take (i := 2) (oi := Oper.mk _ _ _ _ _ _) (v := ?_) rfl (by kernel_rfl) (by kernel_rfl) (by kernel_rfl) (fun _ _ _ h => h) (Or.inl ⟨by rfl, ?_⟩) (by assumption) ?_
          rotate_left
          · (intro w hSw; (try dsimp only at hSw); go_simp; try with_reducible rfl)
          try simp only [Act.put, List.setIfInBounds_toArray, List.set_cons_zero, List.set_cons_succ]
          refine wpAnyH_take (i := 3) (oi := Oper.mk _ _ _ _ _ _) (v := ?_) rfl (by kernel_rfl) (by kernel_rfl) (by kernel_rfl) (fun _ _ _ h => h) (Or.inl ⟨by rfl, ?_⟩) (by assumption) ?_
          rotate_left
          · (intro w hSw; (try dsimp only at hSw); go_simp; try with_reducible rfl)
          try simp only [Act.put, List.setIfInBounds_toArray, List.set_cons_zero, List.set_cons_succ]
          refine wpAnyH_take (i := 4) (oi := Oper.mk _ _ _ _ _ _) (v := ?_) rfl (by kernel_rfl) (by kernel_rfl) (by kernel_rfl) (fun _ _ _ h => h) (Or.inl ⟨by rfl, ?_⟩) (by assumption) ?_
          rotate_left
          · (intro w hSw; (try dsimp only at hSw); go_simp; try with_reducible rfl)
          try simp only [Act.put, List.setIfInBounds_toArray, List.set_cons_zero, List.set_cons_succ]
          refine wpAnyH_take (i := 5) (oi := Oper.mk _ _ _ _ _ _) (v := ?_) rfl (by kernel_rfl) (by kernel_rfl) (by kernel_rfl) (fun _ _ _ h => h) (Or.inl ⟨by rfl, ?_⟩) (by assumption) ?_
          rotate_left
          · (intro w hSw; (try dsimp only at hSw); go_simp; try with_reducible rfl)
          try simp only [Act.put, List.setIfInBounds_toArray, List.set_cons_zero, List.set_cons_succ]
          refine wpAnyH_take (i := 6) (oi := Oper.mk _ _ _ _ _ _) (v := ?_) rfl (by kernel_rfl) (by kernel_rfl) (by kernel_rfl) (fun _ _ _ h => h) (Or.inl ⟨by rfl, ?_⟩) (by assumption) ?_
          rotate_left
          · (intro w hSw; (try dsimp only at hSw); go_simp; try with_reducible rfl)
          try simp only [Act.put, List.setIfInBounds_toArray, List.set_cons_zero, List.set_cons_succ]
          refine wpAnyH_take (i := 7) (oi := Oper.mk _ _ _ _ _ _) (v := ?_) rfl (by kernel_rfl) (by kernel_rfl) (by kernel_rfl) (fun _ _ _ h => h) (Or.inl ⟨by rfl, ?_⟩) (by assumption) ?_
          rotate_left
          · (intro w hSw; (try dsimp only at hSw); go_simp; try with_reducible rfl)
          try simp only [Act.put, List.setIfInBounds_toArray, List.set_cons_zero, List.set_cons_succ]
          refine wpAnyH_take (i := 8) (oi := Oper.mk _ _ _ _ _ _) (v := ?_) rfl (by kernel_rfl) (by kernel_rfl) (by kernel_rfl) (fun _ _ _ h => h) (Or.inl ⟨by rfl, ?_⟩) (by assumption) ?_
          rotate_left
          · (intro w hSw; (try dsimp only at hSw); go_simp; try with_reducible rfl)
          try simp only [Act.put, List.setIfInBounds_toArray, List.set_cons_zero, List.set_cons_succ]
          refine wpAnyH_done (by kernel_rfl) ?_ _
          go_wp2_with fail
          go_ret
          exact ⟨ret_bool HN.out.symm, HB.out.drew⟩
        | true =>
          have hab := HA.out
          by_cases hv : r.val = q.val
          · have HN := Lib.hid (HS.out.1 (eqB_true.1 (by rw [HRo.out, hv]; simp)) HT.out)
            rw [← hv] at r3
            clear HS HA HRo hv
            generalize r.val = rv at *
            go_wp2_with fail
            refine wp_region_held_drew (S := fun W => (W.cell? ⟨b, o + k * 4, none⟩ = some (.int .i64 r.a0) ∧ W.cell? ⟨b, o + k * 4 + 1, none⟩ = some (.int .i64 r.a1) ∧ W.cell? ⟨b, o + k * 4 + 2, none⟩ = some (.int .i64 r.a2) ∧ W.cell? ⟨b, o + k * 4 + 3, none⟩ = some (.int .i64 rv)) ∧ (W.cell? ⟨b', o' + k * 4, none⟩ = some (.int .i64 q.a0) ∧ W.cell? ⟨b', o' + k * 4 + 1, none⟩ = some (.int .i64 q.a1) ∧ W.cell? ⟨b', o' + k * 4 + 2, none⟩ = some (.int .i64 q.a2) ∧ W.cell? ⟨b', o' + k * 4 + 3, none⟩ = some (.int .i64 rv))) (by kernel_rfl) (⟨⟨p0, p1, p2, p3⟩, r0, r1, r2, r3⟩) (fun hHeld => ?_)
            refine wpAnyH_take (i := 0) (oi := Oper.mk _ _ _ _ _ _) (v := ?_) rfl (by kernel_rfl) (by kernel_rfl) (by kernel_rfl) (fun _ _ _ h => h) (Or.inl ⟨by rfl, ?_⟩) (by assumption) ?_
            rotate_left
            · (intro w hSw; (try dsimp only at hSw); go_simp; try with_reducible rfl)
            try simp only [Act.put, List.setIfInBounds_toArray, List.set_cons_zero, List.set_cons_succ]
            refine wpAnyH_take (i := 1) (oi := Oper.mk _ _ _ _ _ _) (v := ?_) rfl (by kernel_rfl) (by kernel_rfl) (by kernel_rfl) (fun _ _ _ h => h) (Or.inl ⟨by rfl, ?_⟩) (by assumption) ?_
            rotate_left
            · (intro w hSw; (try dsimp only at hSw); go_simp; try with_reducible rfl)
            try simp only [Act.put, List.setIfInBounds_toArray, List.set_cons_zero, List.set_cons_succ]
            refine wpAnyH_take (i := 2) (oi := Oper.mk _ _ _ _ _ _) (v := ?_) rfl (by kernel_rfl) (by kernel_rfl) (by kernel_rfl) (fun _ _ _ h => h) (Or.inl ⟨by rfl, ?_⟩) (by assumption) ?_
            rotate_left
            · (intro w hSw; (try dsimp only at hSw); go_simp; try with_reducible rfl)
            try simp only [Act.put, List.setIfInBounds_toArray, List.set_cons_zero, List.set_cons_succ]
            refine wpAnyH_take (i := 3) (oi := Oper.mk _ _ _ _ _ _) (v := ?_) rfl (by kernel_rfl) (by kernel_rfl) (by kernel_rfl) (fun _ _ _ h => h) (Or.inl ⟨by rfl, ?_⟩) (by assumption) ?_
            rotate_left
            · (intro w hSw; (try dsimp only at hSw); go_simp; try with_reducible rfl)
            try simp only [Act.put, List.setIfInBounds_toArray, List.set_cons_zero, List.set_cons_succ]
            refine wpAnyH_take (i := 4) (oi := Oper.mk _ _ _ _ _ _) (v := ?_) rfl (by kernel_rfl) (by kernel_rfl) (by kernel_rfl) (fun _ _ _ h => h) (Or.inl ⟨by rfl, ?_⟩) (by assumption) ?_
            rotate_left
            · (intro w hSw; (try dsimp only at hSw); go_simp; try with_reducible rfl)
            try simp only [Act.put, List.setIfInBounds_toArray, List.set_cons_zero, List.set_cons_succ]
            refine wpAnyH_take (i := 5) (oi := Oper.mk _ _ _ _ _ _) (v := ?_) rfl (by kernel_rfl) (by kernel_rfl) (by kernel_rfl) (fun _ _ _ h => h) (Or.inl ⟨by rfl, ?_⟩) (by assumption) ?_
            rotate_left
            · (intro w hSw; (try dsimp only at hSw); go_simp; try with_reducible rfl)
            try simp only [Act.put, List.setIfInBounds_toArray, List.set_cons_zero, List.set_cons_succ]
            refine wpAnyH_take (i := 6) (oi := Oper.mk _ _ _ _ _ _) (v := ?_) rfl (by kernel_rfl) (by kernel_rfl) (by kernel_rfl) (fun _ _ _ h => h) (Or.inl ⟨by rfl, ?_⟩) (by assumption) ?_
            rotate_left
            · (intro w hSw; (try dsimp only at hSw); go_simp; try with_reducible rfl)
            try simp only [Act.put, List.setIfInBounds_toArray, List.set_cons_zero, List.set_cons_succ]
            refine wpAnyH_take (i := 7) (oi := Oper.mk _ _ _ _ _ _) (v := ?_) rfl (by kernel_rfl) (by kernel_rfl) (by kernel_rfl) (fun _ _ _ h => h) (Or.inl ⟨by rfl, ?_⟩) (by assumption) ?_
            rotate_left
            · (intro w hSw; (try dsimp only at hSw); go_simp; try with_reducible rfl)
            try simp only [Act.put, List.setIfInBounds_toArray, List.set_cons_zero, List.set_cons_succ]
            refine wpAnyH_take (i := 8) (oi := Oper.mk _ _ _ _ _ _) (v := ?_) rfl (by kernel_rfl) (by kernel_rfl) (by kernel_rfl) (fun _ _ _ h => h) (Or.inl ⟨by rfl, ?_⟩) (by assumption) ?_
            rotate_left
            · (intro w hSw; (try dsimp only at hSw); go_simp; try with_reducible rfl)
            try simp only [Act.put, List.setIfInBounds_toArray, List.set_cons_zero, List.set_cons_succ]
            refine wpAnyH_done (by kernel_rfl) ?_ _
            go_wp2_with fail
            go_roundw
            case rel => exact ⟨k + 1, by omega, by go_num, HN.out, HB.out.drew⟩
            case measure => simp [intOf]; omega
          · have HN := Lib.hid (HS.out.2 (by have h := HRo.out; exact eqB_false.1 (by rw [h]; simp [hv])))
            clear HS HA HRo
            go_wp2_with fail
            refine wp_region_held_drew (S := fun W => (W.cell? ⟨b, o + k * 4, none⟩ = some (.int .i64 r.a0) ∧ W.cell? ⟨b, o + k * 4 + 1, none⟩ = some (.int .i64 r.a1) ∧ W.cell? ⟨b, o + k * 4 + 2, none⟩ = some (.int .i64 r.a2) ∧ W.cell? ⟨b, o + k * 4 + 3, none⟩ = some (.int .i64 r.val)) ∧ (W.cell? ⟨b', o' + k * 4, none⟩ = some (.int .i64 q.a0) ∧ W.cell? ⟨b', o' + k * 4 + 1, none⟩ = some (.int .i64 q.a1) ∧ W.cell? ⟨b', o' + k * 4 + 2, none⟩ = some (.int .i64 q.a2) ∧ W.cell? ⟨b', o' + k * 4 + 3, none⟩ = some (.int .i64 q.val))) (by kernel_rfl) (⟨⟨p0, p1, p2, p3⟩, r0, r1, r2, r3⟩) (fun hHeld => ?_)
            refine wpAnyH_take (i := 0) (oi := Oper.mk _ _ _ _ _ _) (v := ?_) rfl (by kernel_rfl) (by kernel_rfl) (by kernel_rfl) (fun _ _ _ h => h) (Or.inl ⟨by rfl, ?_⟩) (by assumption) ?_
            rotate_left
            · (intro w hSw; (try dsimp only at hSw); go_simp; try with_reducible rfl)
            try simp only [Act.put, List.setIfInBounds_toArray, List.set_cons_zero, List.set_cons_succ]
            refine wpAnyH_take (i := 1) (oi := Oper.mk _ _ _ _ _ _) (v := ?_) rfl (by kernel_rfl) (by kernel_rfl) (by kernel_rfl) (fun _ _ _ h => h) (Or.inl ⟨by rfl, ?_⟩) (by assumption) ?_
            rotate_left
            · (intro w hSw; (try dsimp only at hSw); go_simp; try with_reducible rfl)
            try simp only [Act.put, List.setIfInBounds_toArray, List.set_cons_zero, List.set_cons_succ]
            refine wpAnyH_take (i := 2) (oi := Oper.mk _ _ _ _ _ _) (v := ?_) rfl (by kernel_rfl) (by kernel_rfl) (by kernel_rfl) (fun _ _ _ h => h) (Or.inl ⟨by rfl, ?_⟩) (by assumption) ?_
            rotate_left
            · (intro w hSw; (try dsimp only at hSw); go_simp; try with_reducible rfl)
            try simp only [Act.put, List.setIfInBounds_toArray, List.set_cons_zero, List.set_cons_succ]
            refine wpAnyH_take (i := 3) (oi := Oper.mk _ _ _ _ _ _) (v := ?_) rfl (by kernel_rfl) (by kernel_rfl) (by kernel_rfl) (fun _ _ _ h => h) (Or.inl ⟨by rfl, ?_⟩) (by assumption) ?_
            rotate_left
            · (intro w hSw; (try dsimp only at hSw); go_simp; try with_reducible rfl)
            try simp only [Act.put, List.setIfInBounds_toArray, List.set_cons_zero, List.set_cons_succ]
            refine wpAnyH_take (i := 4) (oi := Oper.mk _ _ _ _ _ _) (v := ?_) rfl (by kernel_rfl) (by kernel_rfl) (by kernel_rfl) (fun _ _ _ h => h) (Or.inl ⟨by rfl, ?_⟩) (by assumption) ?_
            rotate_left
            · (intro w hSw; (try dsimp only at hSw); go_simp; try with_reducible rfl)
            try simp only [Act.put, List.setIfInBounds_toArray, List.set_cons_zero, List.set_cons_succ]
            refine wpAnyH_take (i := 5) (oi := Oper.mk _ _ _ _ _ _) (v := ?_) rfl (by kernel_rfl) (by kernel_rfl) (by kernel_rfl) (fun _ _ _ h => h) (Or.inl ⟨by rfl, ?_⟩) (by assumption) ?_
            rotate_left
            · (intro w hSw; (try dsimp only at hSw); go_simp; try with_reducible rfl)
            try simp only [Act.put, List.setIfInBounds_toArray, List.set_cons_zero, List.set_cons_succ]
            refine wpAnyH_take (i := 6) (oi := Oper.mk _ _ _ _ _ _) (v := ?_) rfl (by kernel_rfl) (by kernel_rfl) (by kernel_rfl) (fun _ _ _ h => h) (Or.inl ⟨by rfl, ?_⟩) (by assumption) ?_
            rotate_left
            · (intro w hSw; (try dsimp only at hSw); go_simp; try with_reducible rfl)
            try simp only [Act.put, List.setIfInBounds_toArray, List.set_cons_zero, List.set_cons_succ]
            refine wpAnyH_take (i := 7) (oi := Oper.mk _ _ _ _ _ _) (v := ?_) rfl (by kernel_rfl) (by kernel_rfl) (by kernel_rfl) (fun _ _ _ h => h) (Or.inl ⟨by rfl, ?_⟩) (by assumption) ?_
            rotate_left
            · (intro w hSw; (try dsimp only at hSw); go_simp; try with_reducible rfl)
            try simp only [Act.put, List.setIfInBounds_toArray, List.set_cons_zero, List.set_cons_succ]
            refine wpAnyH_take (i := 8) (oi := Oper.mk _ _ _ _ _ _) (v := ?_) rfl (by kernel_rfl) (by kernel_rfl) (by kernel_rfl) (fun _ _ _ h => h) (Or.inl ⟨by rfl, ?_⟩) (by assumption) ?_
            rotate_left
            · (intro w hSw; (try dsimp only at hSw); go_simp; try with_reducible rfl)
            try simp only [Act.put, List.setIfInBounds_toArray, List.set_cons_zero, List.set_cons_succ]
            refine wpAnyH_done (by kernel_rfl) ?_ _
            go_wp2_with fail
            go_ret
            exact ⟨ret_bool HN.out.symm, HB.out.drew⟩
      · obtain rfl : k = xs.length := by omega
        have HN := Lib.hid (HE.out HT.out)
        clear hb
        go_wp2_with fail
        go_ret
        exact ⟨ret_bool HN.out.symm, HB.out⟩
  · have hq2 : ((xs.length : Int) != (ys.length : Int)) = true := by simp; omega
    have HN := Lib.hid (eqB_len hq)
    clear hq
    go_enter Tryz.func45, Tryz.ntmps45
    go_wp2_with fail
    go_ret
    exact ⟨ret_bool HN.out.symm, Below.refl _ _⟩
set_option maxHeartbeats 1600000 in
theorem same1_any {w : World} {A B : Option Addr} {f h : FunVal} (c d : Nat) (hx : Lies 4 RowR w A f.rows) (hy : Lies 4 RowR w B h.rows) (hl : (f.rows.length : Int) ≤ 9223372036854775807) :
    Calls Tryz.prog 44 #[.agg #[.slice A f.rows.length c, .int .i64 f.els], .agg #[.slice B h.rows.length d, .int .i64 h.els]] w fun e w' => e = .returned (.bool (eqB f h)) ∧ Below w.heap.size w w' := by
  have HE := Lib.hid (eqB_fv f h)
  have HR := Lib.hid (fun W (hW : Below w.heap.size w W) => eqRows_any c d (hx.on RowR.lasts hW) (hy.on RowR.lasts hW) hl)
  have HB2 := Lib.hid (((Below.refl w.heap.size w).alloc (Nat.le_refl _) (.cells #[.slice A f.rows.length c, .int .i64 f.els] 56)).alloc (by simp) (.cells #[.slice B h.rows.length d, .int .i64 h.els] 56))
  clear hx hy
  generalize eqB f h = r at *
  generalize eqB f.rows h.rows = r2 at *
  generalize f.rows.length = n at *
  generalize h.rows.length = m at *
  generalize f.els = a at *
  generalize h.els = b at *
  go_enter Tryz.func44, Tryz.ntmps44
  by_cases he : a = b
  · subst he
    have he2 : (a == a) = true := by simp
    rw [he2] at HE
    go_wp2_with fail
    refine (HR.out _ HB2.out).mono ?_
    rintro e w' ⟨rfl, hb⟩
    have HB3 := Lib.hid (HB2.out.trans (hb.mono HB2.out.size))
    clear hb
    go_wp2_with fail
    go_ret
    exact ⟨ret_bool HE.out.symm, HB3.out⟩
  · have he2 : (a == b) = false := beq_eq_false_iff_ne.2 he
    rw [he2] at HE
    go_wp2_with fail
    go_ret
    exact ⟨ret_bool HE.out.symm, HB2.out⟩
end Go.Proofs.YtfcmpfaonpnbaaaGreatDoor.Vl
