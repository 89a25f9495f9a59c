import Derived.Test.YtbchcipjpcdhfaaGreatDoorMn
/- merged by wip/merge.py from: RCmdSame -/
/- Two commands: are they the same? The document's answer. -/
namespace Go.Proofs.YtbchcipjpcdhfaaGreatDoor.Cm
open Go.RowKit Go.Proofs.YtbchcipjpcdhfaaGreatDoor.Dt

set_option maxRecDepth 100000 in
set_option maxHeartbeats 12800000 in
theorem rcsame_any {w : World} {a b : Cmd} {A1 A2 A3 A4 B1 B2 B3 B4 : Option Addr} {c1 c2 c3 c4 d1 d2 d3 d4 : Nat} (ha : CmdAt w A1 c1 A2 c2 A3 c3 A4 c4 a) (hb : CmdAt w B1 d1 B2 d2 B3 d3 B4 d4 b) :
    Calls Tryz.prog 10 #[agC A1 c1 A2 c2 A3 c3 A4 c4 a, agC B1 d1 B2 d2 B3 d3 B4 d4 b] w fun e w' => e = .returned (.bool (eqB a b)) ∧ Below w.heap.size w w' := by
  have HE := Lib.hid (eqB_cmd a b)
  have HBx := Lib.hid (((Below.refl w.heap.size w).alloc (Nat.le_refl _) (.cells #[.int .i8 a.kind, .string a.name, .int .i64 a.n, .slice A1 a.l.length c1, .slice A2 a.args.length c2, .slice A3 a.params.length c3, .string a.res, .slice A4 a.terms.length c4] 32)).alloc (by simp) (.cells #[.int .i8 b.kind, .string b.name, .int .i64 b.n, .slice B1 b.l.length d1, .slice B2 b.args.length d2, .slice B3 b.params.length d3, .string b.res, .slice B4 b.terms.length d4] 32))
  have NA := Lib.hid (show ((w.alloc (.cells #[.int .i8 a.kind, .string a.name, .int .i64 a.n, .slice A1 a.l.length c1, .slice A2 a.args.length c2, .slice A3 a.params.length c3, .string a.res, .slice A4 a.terms.length c4] 32)).alloc (.cells #[.int .i8 b.kind, .string b.name, .int .i64 b.n, .slice B1 b.l.length d1, .slice B2 b.args.length d2, .slice B3 b.params.length d3, .string b.res, .slice B4 b.terms.length d4] 32)).heap[w.heap.size]? = _ from (Below.heap_alloc _ _ _ (by simp)).trans (blk_new w (.cells #[.int .i8 a.kind, .string a.name, .int .i64 a.n, .slice A1 a.l.length c1, .slice A2 a.args.length c2, .slice A3 a.params.length c3, .string a.res, .slice A4 a.terms.length c4] 32)))
  have NB := Lib.hid (show ((w.alloc (.cells #[.int .i8 a.kind, .string a.name, .int .i64 a.n, .slice A1 a.l.length c1, .slice A2 a.args.length c2, .slice A3 a.params.length c3, .string a.res, .slice A4 a.terms.length c4] 32)).alloc (.cells #[.int .i8 b.kind, .string b.name, .int .i64 b.n, .slice B1 b.l.length d1, .slice B2 b.args.length d2, .slice B3 b.params.length d3, .string b.res, .slice B4 b.terms.length d4] 32)).heap[w.heap.size + 1]? = some (.cells #[.int .i8 b.kind, .string b.name, .int .i64 b.n, .slice B1 b.l.length d1, .slice B2 b.args.length d2, .slice B3 b.params.length d3, .string b.res, .slice B4 b.terms.length d4] 32 (0, 0)) from by
    have hh := blk_new (w.alloc (.cells #[.int .i8 a.kind, .string a.name, .int .i64 a.n, .slice A1 a.l.length c1, .slice A2 a.args.length c2, .slice A3 a.params.length c3, .string a.res, .slice A4 a.terms.length c4] 32)) (.cells #[.int .i8 b.kind, .string b.name, .int .i64 b.n, .slice B1 b.l.length d1, .slice B2 b.args.length d2, .slice B3 b.params.length d3, .string b.res, .slice B4 b.terms.length d4] 32)
    have e : (w.alloc (.cells #[.int .i8 a.kind, .string a.name, .int .i64 a.n, .slice A1 a.l.length c1, .slice A2 a.args.length c2, .slice A3 a.params.length c3, .string a.res, .slice A4 a.terms.length c4] 32)).heap.size = w.heap.size + 1 := by simp
    rw [e] at hh
    exact hh)
  have HLl := Lib.hid (show ((a.l.length : Int) ≤ 9223372036854775807 ∧ (a.args.length : Int) ≤ 9223372036854775807) ∧ (a.params.length : Int) ≤ 9223372036854775807 ∧ (a.terms.length : Int) ≤ 140737488351232 by have := ha.l1; have := ha.m1; have := ha.l2; have := ha.m2; have := ha.l3; have := ha.m3; have := ha.b4; unfold maxLen at *; omega)
  have HA := Lib.hid ha
  have HBb := Lib.hid hb
  clear ha hb
  have p1 := int_ne_eqB a.kind b.kind
  have p2 := txt_ne_eqB a.name b.name
  have p2' := txt_eq_eqB a.name b.name
  have p3 := int_ne_eqB a.n b.n
  have p4 := txt_ne_eqB a.res b.res
  have p4' := txt_eq_eqB a.res b.res
  generalize eqB a b = r at *
  generalize eqB a.kind b.kind = e1 at *
  generalize eqB a.name b.name = e2 at *
  generalize eqB a.n b.n = e3 at *
  generalize eqB a.res b.res = e4 at *
  unfold agC
  go_enter Tryz.func10, Tryz.ntmps10
  go_upto_region 1 with fail
  generalize ((w.alloc (.cells #[.int .i8 a.kind, .string a.name, .int .i64 a.n, .slice A1 a.l.length c1, .slice A2 a.args.length c2, .slice A3 a.params.length c3, .string a.res, .slice A4 a.terms.length c4] 32)).alloc (.cells #[.int .i8 b.kind, .string b.name, .int .i64 b.n, .slice B1 b.l.length d1, .slice B2 b.args.length d2, .slice B3 b.params.length d3, .string b.res, .slice B4 b.terms.length d4] 32)) = w2 at *
  obtain ⟨n0, n1, n2, n3, n4, n5, n6, n7, nf⟩ := eight_cells NA.out
  obtain ⟨m0, m1, m2, m3, m4, m5, m6, m7, mf⟩ := eight_cells NB.out
  cases e1 with
  | false =>
    have HR := Lib.hid (show r = false by rw [HE.out]; rfl)
    go_wp2_with fail
    go_ret
    exact ⟨ret_bool HR.out.symm, HBx.out⟩
  | true =>
    cases e2 with
    | false =>
      have HR := Lib.hid (show r = false by rw [HE.out]; rfl)
      go_wp2_with fail
      go_ret
      exact ⟨ret_bool HR.out.symm, HBx.out⟩
    | true =>
      cases e3 with
      | false =>
        have HR := Lib.hid (show r = false by rw [HE.out]; rfl)
        go_wp2_with fail
        go_ret
        exact ⟨ret_bool HR.out.symm, HBx.out⟩
      | true =>
        cases e4 with
        | false =>
          have HR := Lib.hid (show r = false by rw [HE.out]; rfl)
          go_wp2_with fail
          go_ret
          exact ⟨ret_bool HR.out.symm, HBx.out⟩
        | true =>
          by_cases hq1 : a.l.length = b.l.length
          rotate_left
          · have hqi : ((a.l.length : Int) != (b.l.length : Int)) = true := by simp; omega
            have HR := Lib.hid (show r = false by rw [HE.out, eqB_len (xs := a.l) (ys := b.l) hq1]; simp)
            clear hq1
            go_wp2_with fail
            go_ret
            exact ⟨ret_bool HR.out.symm, HBx.out⟩
          have hqn1 : ((a.l.length : Int) != (b.l.length : Int)) = false := by simp; omega
          by_cases hq2 : a.args.length = b.args.length
          rotate_left
          · have hqi : ((a.args.length : Int) != (b.args.length : Int)) = true := by simp; omega
            have HR := Lib.hid (show r = false by rw [HE.out, eqB_len (xs := a.args) (ys := b.args) hq2]; simp)
            clear hq1 hq2
            go_wp2_with fail
            go_ret
            exact ⟨ret_bool HR.out.symm, HBx.out⟩
          have hqn2 : ((a.args.length : Int) != (b.args.length : Int)) = false := by simp; omega
          by_cases hq3 : a.params.length = b.params.length
          rotate_left
          · have hqi : ((a.params.length : Int) != (b.params.length : Int)) = true := by simp; omega
            have HR := Lib.hid (show r = false by rw [HE.out, eqB_len (xs := a.params) (ys := b.params) hq3]; simp)
            clear hq1 hq2 hq3
            go_wp2_with fail
            go_ret
            exact ⟨ret_bool HR.out.symm, HBx.out⟩
          have hqn3 : ((a.params.length : Int) != (b.params.length : Int)) = false := by simp; omega
          by_cases hq4 : a.terms.length = b.terms.length
          rotate_left
          · have hqi : ((a.terms.length : Int) != (b.terms.length : Int)) = true := by simp; omega
            have HR := Lib.hid (show r = false by rw [HE.out, eqB_len (xs := a.terms) (ys := b.terms) hq4]; simp)
            clear hq1 hq2 hq3 hq4
            go_wp2_with fail
            go_ret
            exact ⟨ret_bool HR.out.symm, HBx.out⟩
          have hqn4 : ((a.terms.length : Int) != (b.terms.length : Int)) = false := by simp; omega
          have HQ := Lib.hid (And.intro hq1 (And.intro hq2 (And.intro hq3 hq4)))
          clear hq1 hq2 hq3 hq4
          go_wp2_with fail
          clear n0 n1 n2 n3 n4 n5 n6 n7 nf m0 m1 m2 m3 m4 m5 m6 m7 mf hqn1 hqn2 hqn3 hqn4
          have HB0 := Lib.hid (Below.refl w2.heap.size w2)
          go_loopw [5] (fun v wr => ∃ k : Nat, k ≤ a.l.length ∧ v = .int .i64 k ∧ a.l.take k = b.l.take k ∧ Below w2.heap.size w2 wr) (fun v _ => a.l.length - (intOf v).toNat)
          case atStart => exact ⟨0, Nat.zero_le _, rfl, by simp, HB0.out⟩
          case round =>
            obtain ⟨k, hk, rfl, ht, hb⟩ := hrel
            have HT := Lib.hid ht
            have HBr := Lib.hid hb
            have HBW := Lib.hid (HBx.out.trans (hb.mono HBx.out.size))
            obtain ⟨n0, n1, n2, n3, n4, n5, n6, n7, nf⟩ := eight_cells ((hb.block _ (lt_of_block NA.out)).trans NA.out)
            obtain ⟨m0, m1, m2, m3, m4, m5, m6, m7, mf⟩ := eight_cells ((hb.block _ (lt_of_block NB.out)).trans NB.out)
            have hla := Nat.lt_of_lt_of_le (lt_of_block NA.out) hb.size
            have hlb := Nat.lt_of_lt_of_le (lt_of_block NB.out) hb.size
            have hqq := HQ.out.1
            have hll := HLl.out.1.1
            clear ht hb
            by_cases hlt : k < a.l.length
            · have hlt2 : (k : Int) < (a.l.length : Int) := by omega
              have hltm : (k : Int) < (b.l.length : Int) := by omega
              have hltn : k < b.l.length := by omega
              clear hqq
              obtain ⟨b1, o1, hA, g0, _⟩ := int_get (HA.out.l.on (IntR.lasts _) HBW.out) hlt
              obtain ⟨b2, o2, hB', f0, _⟩ := int_get (HBb.out.l.on (IntR.lasts _) HBW.out) hltn
              subst hA
              subst hB'
              have HS := Lib.hid (eqB_step (xs := a.l) (ys := b.l) (d := (0 : Int)) hlt hltn)
              generalize a.l.getD k 0 = x at *
              generalize b.l.getD k 0 = y at *
              have px := int_ne_eqB x y
              generalize hee : eqB x y = ee at *
              cases ee with
              | true =>
                have HN1 := Lib.hid (HS.out.1 (eqB_true.1 hee) HT.out)
                clear hee HS
                go_wp2_with fail
                refine wp_region_held_drew (S := fun W => W.cell? ⟨w.heap.size, 3, none⟩ = some (.slice (some ⟨b1, o1, none⟩) a.l.length c1) ∧ W.cell? ⟨w.heap.size + 1, 3, none⟩ = some (.slice (some ⟨b2, o2, none⟩) b.l.length d1) ∧ W.cell? ⟨b1, o1 + k, none⟩ = some (.int .i64 x) ∧ W.cell? ⟨b2, o2 + k, none⟩ = some (.int .i64 y)) (by kernel_rfl) (⟨n3, m3, g0, f0⟩) (fun hHeld => ?_)
                clear n0 n1 n2 n3 n4 n5 n6 n7 nf m0 m1 m2 m3 m4 m5 m6 m7 mf
                refine wpAnyH_take (i := 0) (oi := Oper.mk _ _ _ _ _ _) (v := ?_) rfl (by kernel_rfl) (by kernel_rfl) (by kernel_rfl) (fun _ _ _ h => h) (Or.inl ⟨by rfl, ?_⟩) (by assumption) ?_
                rotate_left
                · (intro w hSw; (try dsimp only at hSw); go_simp; try with_reducible rfl)
                try simp only [Act.put, List.setIfInBounds_toArray, List.set_cons_zero, List.set_cons_succ]
                refine wpAnyH_take (i := 1) (oi := Oper.mk _ _ _ _ _ _) (v := ?_) rfl (by kernel_rfl) (by kernel_rfl) (by kernel_rfl) (fun _ _ _ h => h) (Or.inl ⟨by rfl, ?_⟩) (by assumption) ?_
                rotate_left
                · (intro w hSw; (try dsimp only at hSw); go_simp; try with_reducible rfl)
                try simp only [Act.put, List.setIfInBounds_toArray, List.set_cons_zero, List.set_cons_succ]
                refine wpAnyH_take (i := 2) (oi := Oper.mk _ _ _ _ _ _) (v := ?_) rfl (by kernel_rfl) (by kernel_rfl) (by kernel_rfl) (fun _ _ _ h => h) (Or.inl ⟨by rfl, ?_⟩) (by assumption) ?_
                rotate_left
                · (intro w hSw; (try dsimp only at hSw); go_simp; try with_reducible rfl)
                try simp only [Act.put, List.setIfInBounds_toArray, List.set_cons_zero, List.set_cons_succ]
                refine wpAnyH_take (i := 3) (oi := Oper.mk _ _ _ _ _ _) (v := ?_) rfl (by kernel_rfl) (by kernel_rfl) (by kernel_rfl) (fun _ _ _ h => h) (Or.inl ⟨by rfl, ?_⟩) (by assumption) ?_
                rotate_left
                · (intro w hSw; (try dsimp only at hSw); go_simp; try with_reducible rfl)
                try simp only [Act.put, List.setIfInBounds_toArray, List.set_cons_zero, List.set_cons_succ]
                refine wpAnyH_take (i := 4) (oi := Oper.mk _ _ _ _ _ _) (v := ?_) rfl (by kernel_rfl) (by kernel_rfl) (by kernel_rfl) (fun _ _ _ h => h) (Or.inl ⟨by rfl, ?_⟩) (by assumption) ?_
                rotate_left
                · (intro w hSw; (try dsimp only at hSw); go_simp; try with_reducible rfl)
                try simp only [Act.put, List.setIfInBounds_toArray, List.set_cons_zero, List.set_cons_succ]
                refine wpAnyH_take (i := 5) (oi := Oper.mk _ _ _ _ _ _) (v := ?_) rfl (by kernel_rfl) (by kernel_rfl) (by kernel_rfl) (fun _ _ _ h => h) (Or.inl ⟨by rfl, ?_⟩) (by assumption) ?_
                rotate_left
                · (intro w hSw; (try dsimp only at hSw); go_simp; try with_reducible rfl)
                try simp only [Act.put, List.setIfInBounds_toArray, List.set_cons_zero, List.set_cons_succ]
                refine wpAnyH_take (i := 6) (oi := Oper.mk _ _ _ _ _ _) (v := ?_) rfl (by kernel_rfl) (by kernel_rfl) (by kernel_rfl) (fun _ _ _ h => h) (Or.inl ⟨by rfl, ?_⟩) (by assumption) ?_
                rotate_left
                · (intro w hSw; (try dsimp only at hSw); go_simp; try with_reducible rfl)
                try simp only [Act.put, List.setIfInBounds_toArray, List.set_cons_zero, List.set_cons_succ]
                refine wpAnyH_take (i := 7) (oi := Oper.mk _ _ _ _ _ _) (v := ?_) rfl (by kernel_rfl) (by kernel_rfl) (by kernel_rfl) (fun _ _ _ h => h) (Or.inl ⟨by rfl, ?_⟩) (by assumption) ?_
                rotate_left
                · (intro w hSw; (try dsimp only at hSw); go_simp; try with_reducible rfl)
                try simp only [Act.put, List.setIfInBounds_toArray, List.set_cons_zero, List.set_cons_succ]
                refine wpAnyH_take (i := 8) (oi := Oper.mk _ _ _ _ _ _) (v := ?_) rfl (by kernel_rfl) (by kernel_rfl) (by kernel_rfl) (fun _ _ _ h => h) (Or.inl ⟨by rfl, ?_⟩) (by assumption) ?_
                rotate_left
                · (intro w hSw; (try dsimp only at hSw); go_simp; try with_reducible rfl)
                try simp only [Act.put, List.setIfInBounds_toArray, List.set_cons_zero, List.set_cons_succ]
                refine wpAnyH_take (i := 9) (oi := Oper.mk _ _ _ _ _ _) (v := ?_) rfl (by kernel_rfl) (by kernel_rfl) (by kernel_rfl) (fun _ _ _ h => h) (Or.inl ⟨by rfl, ?_⟩) (by assumption) ?_
                rotate_left
                · (intro w hSw; (try dsimp only at hSw); go_simp; try with_reducible rfl)
                try simp only [Act.put, List.setIfInBounds_toArray, List.set_cons_zero, List.set_cons_succ]
                refine wpAnyH_take (i := 10) (oi := Oper.mk _ _ _ _ _ _) (v := ?_) rfl (by kernel_rfl) (by kernel_rfl) (by kernel_rfl) (fun _ _ _ h => h) (Or.inl ⟨by rfl, ?_⟩) (by assumption) ?_
                rotate_left
                · (intro w hSw; (try dsimp only at hSw); go_simp; try with_reducible rfl)
                try simp only [Act.put, List.setIfInBounds_toArray, List.set_cons_zero, List.set_cons_succ]
                refine wpAnyH_done (by kernel_rfl) ?_ _
                clear hHeld
                go_wp2_with fail
                go_roundw
                case rel => exact ⟨k + 1, by omega, by go_num, HN1.out, HBr.out.drew⟩
                case measure => simp [intOf]; omega
              | false =>
                have HN1 := Lib.hid (HS.out.2 (eqB_false.1 hee))
                have HR := Lib.hid (show r = false by rw [HE.out, HN1.out]; simp)
                clear hee HS
                go_wp2_with fail
                refine wp_region_held_drew (S := fun W => W.cell? ⟨w.heap.size, 3, none⟩ = some (.slice (some ⟨b1, o1, none⟩) a.l.length c1) ∧ W.cell? ⟨w.heap.size + 1, 3, none⟩ = some (.slice (some ⟨b2, o2, none⟩) b.l.length d1) ∧ W.cell? ⟨b1, o1 + k, none⟩ = some (.int .i64 x) ∧ W.cell? ⟨b2, o2 + k, none⟩ = some (.int .i64 y)) (by kernel_rfl) (⟨n3, m3, g0, f0⟩) (fun hHeld => ?_)
                clear n0 n1 n2 n3 n4 n5 n6 n7 nf m0 m1 m2 m3 m4 m5 m6 m7 mf
                refine wpAnyH_take (i := 0) (oi := Oper.mk _ _ _ _ _ _) (v := ?_) rfl (by kernel_rfl) (by kernel_rfl) (by kernel_rfl) (fun _ _ _ h => h) (Or.inl ⟨by rfl, ?_⟩) (by assumption) ?_
                rotate_left
                · (intro w hSw; (try dsimp only at hSw); go_simp; try with_reducible rfl)
                try simp only [Act.put, List.setIfInBounds_toArray, List.set_cons_zero, List.set_cons_succ]
                refine wpAnyH_take (i := 1) (oi := Oper.mk _ _ _ _ _ _) (v := ?_) rfl (by kernel_rfl) (by kernel_rfl) (by kernel_rfl) (fun _ _ _ h => h) (Or.inl ⟨by rfl, ?_⟩) (by assumption) ?_
                rotate_left
                · (intro w hSw; (try dsimp only at hSw); go_simp; try with_reducible rfl)
                try simp only [Act.put, List.setIfInBounds_toArray, List.set_cons_zero, List.set_cons_succ]
                refine wpAnyH_take (i := 2) (oi := Oper.mk _ _ _ _ _ _) (v := ?_) rfl (by kernel_rfl) (by kernel_rfl) (by kernel_rfl) (fun _ _ _ h => h) (Or.inl ⟨by rfl, ?_⟩) (by assumption) ?_
                rotate_left
                · (intro w hSw; (try dsimp only at hSw); go_simp; try with_reducible rfl)
                try simp only [Act.put, List.setIfInBounds_toArray, List.set_cons_zero, List.set_cons_succ]
                refine wpAnyH_take (i := 3) (oi := Oper.mk _ _ _ _ _ _) (v := ?_) rfl (by kernel_rfl) (by kernel_rfl) (by kernel_rfl) (fun _ _ _ h => h) (Or.inl ⟨by rfl, ?_⟩) (by assumption) ?_
                rotate_left
                · (intro w hSw; (try dsimp only at hSw); go_simp; try with_reducible rfl)
                try simp only [Act.put, List.setIfInBounds_toArray, List.set_cons_zero, List.set_cons_succ]
                refine wpAnyH_take (i := 4) (oi := Oper.mk _ _ _ _ _ _) (v := ?_) rfl (by kernel_rfl) (by kernel_rfl) (by kernel_rfl) (fun _ _ _ h => h) (Or.inl ⟨by rfl, ?_⟩) (by assumption) ?_
                rotate_left
                · (intro w hSw; (try dsimp only at hSw); go_simp; try with_reducible rfl)
                try simp only [Act.put, List.setIfInBounds_toArray, List.set_cons_zero, List.set_cons_succ]
                refine wpAnyH_take (i := 5) (oi := Oper.mk _ _ _ _ _ _) (v := ?_) rfl (by kernel_rfl) (by kernel_rfl) (by kernel_rfl) (fun _ _ _ h => h) (Or.inl ⟨by rfl, ?_⟩) (by assumption) ?_
                rotate_left
                · (intro w hSw; (try dsimp only at hSw); go_simp; try with_reducible rfl)
                try simp only [Act.put, List.setIfInBounds_toArray, List.set_cons_zero, List.set_cons_succ]
                refine wpAnyH_take (i := 6) (oi := Oper.mk _ _ _ _ _ _) (v := ?_) rfl (by kernel_rfl) (by kernel_rfl) (by kernel_rfl) (fun _ _ _ h => h) (Or.inl ⟨by rfl, ?_⟩) (by assumption) ?_
                rotate_left
                · (intro w hSw; (try dsimp only at hSw); go_simp; try with_reducible rfl)
                try simp only [Act.put, List.setIfInBounds_toArray, List.set_cons_zero, List.set_cons_succ]
                refine wpAnyH_take (i := 7) (oi := Oper.mk _ _ _ _ _ _) (v := ?_) rfl (by kernel_rfl) (by kernel_rfl) (by kernel_rfl) (fun _ _ _ h => h) (Or.inl ⟨by rfl, ?_⟩) (by assumption) ?_
                rotate_left
                · (intro w hSw; (try dsimp only at hSw); go_simp; try with_reducible rfl)
                try simp only [Act.put, List.setIfInBounds_toArray, List.set_cons_zero, List.set_cons_succ]
                refine wpAnyH_take (i := 8) (oi := Oper.mk _ _ _ _ _ _) (v := ?_) rfl (by kernel_rfl) (by kernel_rfl) (by kernel_rfl) (fun _ _ _ h => h) (Or.inl ⟨by rfl, ?_⟩) (by assumption) ?_
                rotate_left
                · (intro w hSw; (try dsimp only at hSw); go_simp; try with_reducible rfl)
                try simp only [Act.put, List.setIfInBounds_toArray, List.set_cons_zero, List.set_cons_succ]
                refine wpAnyH_take (i := 9) (oi := Oper.mk _ _ _ _ _ _) (v := ?_) rfl (by kernel_rfl) (by kernel_rfl) (by kernel_rfl) (fun _ _ _ h => h) (Or.inl ⟨by rfl, ?_⟩) (by assumption) ?_
                rotate_left
                · (intro w hSw; (try dsimp only at hSw); go_simp; try with_reducible rfl)
                try simp only [Act.put, List.setIfInBounds_toArray, List.set_cons_zero, List.set_cons_succ]
                refine wpAnyH_take (i := 10) (oi := Oper.mk _ _ _ _ _ _) (v := ?_) rfl (by kernel_rfl) (by kernel_rfl) (by kernel_rfl) (fun _ _ _ h => h) (Or.inl ⟨by rfl, ?_⟩) (by assumption) ?_
                rotate_left
                · (intro w hSw; (try dsimp only at hSw); go_simp; try with_reducible rfl)
                try simp only [Act.put, List.setIfInBounds_toArray, List.set_cons_zero, List.set_cons_succ]
                refine wpAnyH_done (by kernel_rfl) ?_ _
                clear hHeld
                go_wp2_with fail
                go_ret
                exact ⟨ret_bool HR.out.symm, HBW.out.drew⟩
            · obtain rfl : k = a.l.length := by omega
              have HF1 := Lib.hid (eqB_full (xs := a.l) (ys := b.l) hqq HT.out)
              clear hqq
              go_wp2_with fail
              clear n0 n1 n2 n3 n4 n5 n6 n7 nf m0 m1 m2 m3 m4 m5 m6 m7 mf hla hlb hlt HT HBW
              have HB1 := Lib.hid HBr.out
              clear HBr
              rename World => wr1
              go_loopw [6] (fun v wr => ∃ k : Nat, k ≤ a.args.length ∧ v = .int .i64 k ∧ a.args.take k = b.args.take k ∧ Below w2.heap.size w2 wr) (fun v _ => a.args.length - (intOf v).toNat)
              case atStart => exact ⟨0, Nat.zero_le _, rfl, by simp, HB1.out⟩
              case round =>
                obtain ⟨k, hk, rfl, ht, hb⟩ := hrel
                have HT := Lib.hid ht
                have HBr := Lib.hid hb
                have HBW := Lib.hid (HBx.out.trans (hb.mono HBx.out.size))
                obtain ⟨n0, n1, n2, n3, n4, n5, n6, n7, nf⟩ := eight_cells ((hb.block _ (lt_of_block NA.out)).trans NA.out)
                obtain ⟨m0, m1, m2, m3, m4, m5, m6, m7, mf⟩ := eight_cells ((hb.block _ (lt_of_block NB.out)).trans NB.out)
                have hla := Nat.lt_of_lt_of_le (lt_of_block NA.out) hb.size
                have hlb := Nat.lt_of_lt_of_le (lt_of_block NB.out) hb.size
                have hqq := HQ.out.2.1
                have hll := HLl.out.1.2
                clear ht hb
                by_cases hlt : k < a.args.length
                · have hlt2 : (k : Int) < (a.args.length : Int) := by omega
                  have hltm : (k : Int) < (b.args.length : Int) := by omega
                  have hltn : k < b.args.length := by omega
                  clear hqq
                  obtain ⟨b1, o1, hA, g0⟩ := str_get (HA.out.args.on StrR.lasts HBW.out) hlt
                  obtain ⟨b2, o2, hB', f0⟩ := str_get (HBb.out.args.on StrR.lasts HBW.out) hltn
                  subst hA
                  subst hB'
                  have HS := Lib.hid (eqB_step (xs := a.args) (ys := b.args) (d := noS) hlt hltn)
                  generalize a.args.getD k noS = x at *
                  generalize b.args.getD k noS = y at *
                  have px := txt_ne_eqB x y
                  have px' := txt_eq_eqB x y
                  generalize hee : eqB x y = ee at *
                  cases ee with
                  | true =>
                    have HN1 := Lib.hid (HS.out.1 (eqB_true.1 hee) HT.out)
                    clear hee HS
                    go_wp2_with fail
                    refine wp_region_held_drew (S := fun W => W.cell? ⟨w.heap.size, 4, none⟩ = some (.slice (some ⟨b1, o1, none⟩) a.args.length c2) ∧ W.cell? ⟨w.heap.size + 1, 4, none⟩ = some (.slice (some ⟨b2, o2, none⟩) b.args.length d2) ∧ W.cell? ⟨b1, o1 + k, none⟩ = some (.string x) ∧ W.cell? ⟨b2, o2 + k, none⟩ = some (.string y)) (by kernel_rfl) (⟨n4, m4, g0, f0⟩) (fun hHeld => ?_)
                    clear n0 n1 n2 n3 n4 n5 n6 n7 nf m0 m1 m2 m3 m4 m5 m6 m7 mf
                    refine wpAnyH_take (i := 0) (oi := Oper.mk _ _ _ _ _ _) (v := ?_) rfl (by kernel_rfl) (by kernel_rfl) (by kernel_rfl) (fun _ _ _ h => h) (Or.inl ⟨by rfl, ?_⟩) (by assumption) ?_
                    rotate_left
                    · (intro w hSw; (try dsimp only at hSw); go_simp; try with_reducible rfl)
                    try simp only [Act.put, List.setIfInBounds_toArray, List.set_cons_zero, List.set_cons_succ]
                    refine wpAnyH_take (i := 1) (oi := Oper.mk _ _ _ _ _ _) (v := ?_) rfl (by kernel_rfl) (by kernel_rfl) (by kernel_rfl) (fun _ _ _ h => h) (Or.inl ⟨by rfl, ?_⟩) (by assumption) ?_
                    rotate_left
                    · (intro w hSw; (try dsimp only at hSw); go_simp; try with_reducible rfl)
                    try simp only [Act.put, List.setIfInBounds_toArray, List.set_cons_zero, List.set_cons_succ]
                    refine wpAnyH_take (i := 2) (oi := Oper.mk _ _ _ _ _ _) (v := ?_) rfl (by kernel_rfl) (by kernel_rfl) (by kernel_rfl) (fun _ _ _ h => h) (Or.inl ⟨by rfl, ?_⟩) (by assumption) ?_
                    rotate_left
                    · (intro w hSw; (try dsimp only at hSw); go_simp; try with_reducible rfl)
                    try simp only [Act.put, List.setIfInBounds_toArray, List.set_cons_zero, List.set_cons_succ]
                    refine wpAnyH_take (i := 3) (oi := Oper.mk _ _ _ _ _ _) (v := ?_) rfl (by kernel_rfl) (by kernel_rfl) (by kernel_rfl) (fun _ _ _ h => h) (Or.inl ⟨by rfl, ?_⟩) (by assumption) ?_
                    rotate_left
                    · (intro w hSw; (try dsimp only at hSw); go_simp; try with_reducible rfl)
                    try simp only [Act.put, List.setIfInBounds_toArray, List.set_cons_zero, List.set_cons_succ]
                    refine wpAnyH_take (i := 4) (oi := Oper.mk _ _ _ _ _ _) (v := ?_) rfl (by kernel_rfl) (by kernel_rfl) (by kernel_rfl) (fun _ _ _ h => h) (Or.inl ⟨by rfl, ?_⟩) (by assumption) ?_
                    rotate_left
                    · (intro w hSw; (try dsimp only at hSw); go_simp; try with_reducible rfl)
                    try simp only [Act.put, List.setIfInBounds_toArray, List.set_cons_zero, List.set_cons_succ]
                    refine wpAnyH_take (i := 5) (oi := Oper.mk _ _ _ _ _ _) (v := ?_) rfl (by kernel_rfl) (by kernel_rfl) (by kernel_rfl) (fun _ _ _ h => h) (Or.inl ⟨by rfl, ?_⟩) (by assumption) ?_
                    rotate_left
                    · (intro w hSw; (try dsimp only at hSw); go_simp; try with_reducible rfl)
                    try simp only [Act.put, List.setIfInBounds_toArray, List.set_cons_zero, List.set_cons_succ]
                    refine wpAnyH_take (i := 6) (oi := Oper.mk _ _ _ _ _ _) (v := ?_) rfl (by kernel_rfl) (by kernel_rfl) (by kernel_rfl) (fun _ _ _ h => h) (Or.inl ⟨by rfl, ?_⟩) (by assumption) ?_
                    rotate_left
                    · (intro w hSw; (try dsimp only at hSw); go_simp; try with_reducible rfl)
                    try simp only [Act.put, List.setIfInBounds_toArray, List.set_cons_zero, List.set_cons_succ]
                    refine wpAnyH_take (i := 7) (oi := Oper.mk _ _ _ _ _ _) (v := ?_) rfl (by kernel_rfl) (by kernel_rfl) (by kernel_rfl) (fun _ _ _ h => h) (Or.inl ⟨by rfl, ?_⟩) (by assumption) ?_
                    rotate_left
                    · (intro w hSw; (try dsimp only at hSw); go_simp; try with_reducible rfl)
                    try simp only [Act.put, List.setIfInBounds_toArray, List.set_cons_zero, List.set_cons_succ]
                    refine wpAnyH_take (i := 8) (oi := Oper.mk _ _ _ _ _ _) (v := ?_) rfl (by kernel_rfl) (by kernel_rfl) (by kernel_rfl) (fun _ _ _ h => h) (Or.inl ⟨by rfl, ?_⟩) (by assumption) ?_
                    rotate_left
                    · (intro w hSw; (try dsimp only at hSw); go_simp; try with_reducible rfl)
                    try simp only [Act.put, List.setIfInBounds_toArray, List.set_cons_zero, List.set_cons_succ]
                    refine wpAnyH_take (i := 9) (oi := Oper.mk _ _ _ _ _ _) (v := ?_) rfl (by kernel_rfl) (by kernel_rfl) (by kernel_rfl) (fun _ _ _ h => h) (Or.inl ⟨by rfl, ?_⟩) (by assumption) ?_
                    rotate_left
                    · (intro w hSw; (try dsimp only at hSw); go_simp; try with_reducible rfl)
                    try simp only [Act.put, List.setIfInBounds_toArray, List.set_cons_zero, List.set_cons_succ]
                    refine wpAnyH_take (i := 10) (oi := Oper.mk _ _ _ _ _ _) (v := ?_) rfl (by kernel_rfl) (by kernel_rfl) (by kernel_rfl) (fun _ _ _ h => h) (Or.inl ⟨by rfl, ?_⟩) (by assumption) ?_
                    rotate_left
                    · (intro w hSw; (try dsimp only at hSw); go_simp; try with_reducible rfl)
                    try simp only [Act.put, List.setIfInBounds_toArray, List.set_cons_zero, List.set_cons_succ]
                    refine wpAnyH_done (by kernel_rfl) ?_ _
                    clear hHeld
                    go_wp2_with fail
                    go_roundw
                    case rel => exact ⟨k + 1, by omega, by go_num, HN1.out, HBr.out.drew⟩
                    case measure => simp [intOf]; omega
                  | false =>
                    have HN1 := Lib.hid (HS.out.2 (eqB_false.1 hee))
                    have HR := Lib.hid (show r = false by rw [HE.out, HN1.out]; simp)
                    clear hee HS
                    go_wp2_with fail
                    refine wp_region_held_drew (S := fun W => W.cell? ⟨w.heap.size, 4, none⟩ = some (.slice (some ⟨b1, o1, none⟩) a.args.length c2) ∧ W.cell? ⟨w.heap.size + 1, 4, none⟩ = some (.slice (some ⟨b2, o2, none⟩) b.args.length d2) ∧ W.cell? ⟨b1, o1 + k, none⟩ = some (.string x) ∧ W.cell? ⟨b2, o2 + k, none⟩ = some (.string y)) (by kernel_rfl) (⟨n4, m4, g0, f0⟩) (fun hHeld => ?_)
                    clear n0 n1 n2 n3 n4 n5 n6 n7 nf m0 m1 m2 m3 m4 m5 m6 m7 mf
                    refine wpAnyH_take (i := 0) (oi := Oper.mk _ _ _ _ _ _) (v := ?_) rfl (by kernel_rfl) (by kernel_rfl) (by kernel_rfl) (fun _ _ _ h => h) (Or.inl ⟨by rfl, ?_⟩) (by assumption) ?_
                    rotate_left
                    · (intro w hSw; (try dsimp only at hSw); go_simp; try with_reducible rfl)
                    try simp only [Act.put, List.setIfInBounds_toArray, List.set_cons_zero, List.set_cons_succ]
                    refine wpAnyH_take (i := 1) (oi := Oper.mk _ _ _ _ _ _) (v := ?_) rfl (by kernel_rfl) (by kernel_rfl) (by kernel_rfl) (fun _ _ _ h => h) (Or.inl ⟨by rfl, ?_⟩) (by assumption) ?_
                    rotate_left
                    · (intro w hSw; (try dsimp only at hSw); go_simp; try with_reducible rfl)
                    try simp only [Act.put, List.setIfInBounds_toArray, List.set_cons_zero, List.set_cons_succ]
                    refine wpAnyH_take (i := 2) (oi := Oper.mk _ _ _ _ _ _) (v := ?_) rfl (by kernel_rfl) (by kernel_rfl) (by kernel_rfl) (fun _ _ _ h => h) (Or.inl ⟨by rfl, ?_⟩) (by assumption) ?_
                    rotate_left
                    · (intro w hSw; (try dsimp only at hSw); go_simp; try with_reducible rfl)
                    try simp only [Act.put, List.setIfInBounds_toArray, List.set_cons_zero, List.set_cons_succ]
                    refine wpAnyH_take (i := 3) (oi := Oper.mk _ _ _ _ _ _) (v := ?_) rfl (by kernel_rfl) (by kernel_rfl) (by kernel_rfl) (fun _ _ _ h => h) (Or.inl ⟨by rfl, ?_⟩) (by assumption) ?_
                    rotate_left
                    · (intro w hSw; (try dsimp only at hSw); go_simp; try with_reducible rfl)
                    try simp only [Act.put, List.setIfInBounds_toArray, List.set_cons_zero, List.set_cons_succ]
                    refine wpAnyH_take (i := 4) (oi := Oper.mk _ _ _ _ _ _) (v := ?_) rfl (by kernel_rfl) (by kernel_rfl) (by kernel_rfl) (fun _ _ _ h => h) (Or.inl ⟨by rfl, ?_⟩) (by assumption) ?_
                    rotate_left
                    · (intro w hSw; (try dsimp only at hSw); go_simp; try with_reducible rfl)
                    try simp only [Act.put, List.setIfInBounds_toArray, List.set_cons_zero, List.set_cons_succ]
                    refine wpAnyH_take (i := 5) (oi := Oper.mk _ _ _ _ _ _) (v := ?_) rfl (by kernel_rfl) (by kernel_rfl) (by kernel_rfl) (fun _ _ _ h => h) (Or.inl ⟨by rfl, ?_⟩) (by assumption) ?_
                    rotate_left
                    · (intro w hSw; (try dsimp only at hSw); go_simp; try with_reducible rfl)
                    try simp only [Act.put, List.setIfInBounds_toArray, List.set_cons_zero, List.set_cons_succ]
                    refine wpAnyH_take (i := 6) (oi := Oper.mk _ _ _ _ _ _) (v := ?_) rfl (by kernel_rfl) (by kernel_rfl) (by kernel_rfl) (fun _ _ _ h => h) (Or.inl ⟨by rfl, ?_⟩) (by assumption) ?_
                    rotate_left
                    · (intro w hSw; (try dsimp only at hSw); go_simp; try with_reducible rfl)
                    try simp only [Act.put, List.setIfInBounds_toArray, List.set_cons_zero, List.set_cons_succ]
                    refine wpAnyH_take (i := 7) (oi := Oper.mk _ _ _ _ _ _) (v := ?_) rfl (by kernel_rfl) (by kernel_rfl) (by kernel_rfl) (fun _ _ _ h => h) (Or.inl ⟨by rfl, ?_⟩) (by assumption) ?_
                    rotate_left
                    · (intro w hSw; (try dsimp only at hSw); go_simp; try with_reducible rfl)
                    try simp only [Act.put, List.setIfInBounds_toArray, List.set_cons_zero, List.set_cons_succ]
                    refine wpAnyH_take (i := 8) (oi := Oper.mk _ _ _ _ _ _) (v := ?_) rfl (by kernel_rfl) (by kernel_rfl) (by kernel_rfl) (fun _ _ _ h => h) (Or.inl ⟨by rfl, ?_⟩) (by assumption) ?_
                    rotate_left
                    · (intro w hSw; (try dsimp only at hSw); go_simp; try with_reducible rfl)
                    try simp only [Act.put, List.setIfInBounds_toArray, List.set_cons_zero, List.set_cons_succ]
                    refine wpAnyH_take (i := 9) (oi := Oper.mk _ _ _ _ _ _) (v := ?_) rfl (by kernel_rfl) (by kernel_rfl) (by kernel_rfl) (fun _ _ _ h => h) (Or.inl ⟨by rfl, ?_⟩) (by assumption) ?_
                    rotate_left
                    · (intro w hSw; (try dsimp only at hSw); go_simp; try with_reducible rfl)
                    try simp only [Act.put, List.setIfInBounds_toArray, List.set_cons_zero, List.set_cons_succ]
                    refine wpAnyH_take (i := 10) (oi := Oper.mk _ _ _ _ _ _) (v := ?_) rfl (by kernel_rfl) (by kernel_rfl) (by kernel_rfl) (fun _ _ _ h => h) (Or.inl ⟨by rfl, ?_⟩) (by assumption) ?_
                    rotate_left
                    · (intro w hSw; (try dsimp only at hSw); go_simp; try with_reducible rfl)
                    try simp only [Act.put, List.setIfInBounds_toArray, List.set_cons_zero, List.set_cons_succ]
                    refine wpAnyH_done (by kernel_rfl) ?_ _
                    clear hHeld
                    go_wp2_with fail
                    go_ret
                    exact ⟨ret_bool HR.out.symm, HBW.out.drew⟩
                · obtain rfl : k = a.args.length := by omega
                  have HF2 := Lib.hid (eqB_full (xs := a.args) (ys := b.args) hqq HT.out)
                  clear hqq
                  go_wp2_with fail
                  clear n0 n1 n2 n3 n4 n5 n6 n7 nf m0 m1 m2 m3 m4 m5 m6 m7 mf hla hlb hlt HT HBW
                  have HB2 := Lib.hid HBr.out
                  clear HBr
                  rename World => wr2
                  go_loopw [7] (fun v wr => ∃ k : Nat, k ≤ a.params.length ∧ v = .int .i64 k ∧ a.params.take k = b.params.take k ∧ Below w2.heap.size w2 wr) (fun v _ => a.params.length - (intOf v).toNat)
                  case atStart => exact ⟨0, Nat.zero_le _, rfl, by simp, HB2.out⟩
                  case round =>
                    obtain ⟨k, hk, rfl, ht, hb⟩ := hrel
                    have HT := Lib.hid ht
                    have HBr := Lib.hid hb
                    have HBW := Lib.hid (HBx.out.trans (hb.mono HBx.out.size))
                    obtain ⟨n0, n1, n2, n3, n4, n5, n6, n7, nf⟩ := eight_cells ((hb.block _ (lt_of_block NA.out)).trans NA.out)
                    obtain ⟨m0, m1, m2, m3, m4, m5, m6, m7, mf⟩ := eight_cells ((hb.block _ (lt_of_block NB.out)).trans NB.out)
                    have hla := Nat.lt_of_lt_of_le (lt_of_block NA.out) hb.size
                    have hlb := Nat.lt_of_lt_of_le (lt_of_block NB.out) hb.size
                    have hqq := HQ.out.2.2.1
                    have hll := HLl.out.2.1
                    clear ht hb
                    by_cases hlt : k < a.params.length
                    · have hlt2 : (k : Int) < (a.params.length : Int) := by omega
                      have hltm : (k : Int) < (b.params.length : Int) := by omega
                      have hltn : k < b.params.length := by omega
                      clear hqq
                      obtain ⟨b1, o1, hA, g0, g1⟩ := pair_get (HA.out.params.on PairR.lasts HBW.out) hlt
                      obtain ⟨b2, o2, hB', f0, f1⟩ := pair_get (HBb.out.params.on PairR.lasts HBW.out) hltn
                      subst hA
                      subst hB'
                      have HS := Lib.hid (eqB_step (xs := a.params) (ys := b.params) (d := (noS, noS)) hlt hltn)
                      generalize a.params.getD k (noS, noS) = x at *
                      generalize b.params.getD k (noS, noS) = y at *
                      have px := fun W => pair_ne x y W
                      generalize hee : eqB x y = ee at *
                      cases ee with
                      | true =>
                        have HN1 := Lib.hid (HS.out.1 (eqB_true.1 hee) HT.out)
                        clear hee HS
                        go_wp2_with fail
                        refine wp_region_held_drew (S := fun W => W.cell? ⟨w.heap.size, 5, none⟩ = some (.slice (some ⟨b1, o1, none⟩) a.params.length c3) ∧ W.cell? ⟨w.heap.size + 1, 5, none⟩ = some (.slice (some ⟨b2, o2, none⟩) b.params.length d3) ∧ W.cell? ⟨b1, o1 + k * 2, none⟩ = some (.string x.1) ∧ W.cell? ⟨b1, o1 + k * 2 + 1, none⟩ = some (.string x.2) ∧ W.cell? ⟨b2, o2 + k * 2, none⟩ = some (.string y.1) ∧ W.cell? ⟨b2, o2 + k * 2 + 1, none⟩ = some (.string y.2)) (by kernel_rfl) (⟨n5, m5, g0, g1, f0, f1⟩) (fun hHeld => ?_)
                        clear n0 n1 n2 n3 n4 n5 n6 n7 nf m0 m1 m2 m3 m4 m5 m6 m7 mf
                        refine wpAnyH_take (i := 0) (oi := Oper.mk _ _ _ _ _ _) (v := ?_) rfl (by kernel_rfl) (by kernel_rfl) (by kernel_rfl) (fun _ _ _ h => h) (Or.inl ⟨by rfl, ?_⟩) (by assumption) ?_
                        rotate_left
                        · (intro w hSw; (try dsimp only at hSw); go_simp; try with_reducible rfl)
                        try simp only [Act.put, List.setIfInBounds_toArray, List.set_cons_zero, List.set_cons_succ]
                        refine wpAnyH_take (i := 1) (oi := Oper.mk _ _ _ _ _ _) (v := ?_) rfl (by kernel_rfl) (by kernel_rfl) (by kernel_rfl) (fun _ _ _ h => h) (Or.inl ⟨by rfl, ?_⟩) (by assumption) ?_
                        rotate_left
                        · (intro w hSw; (try dsimp only at hSw); go_simp; try with_reducible rfl)
                        try simp only [Act.put, List.setIfInBounds_toArray, List.set_cons_zero, List.set_cons_succ]
                        refine wpAnyH_take (i := 2) (oi := Oper.mk _ _ _ _ _ _) (v := ?_) rfl (by kernel_rfl) (by kernel_rfl) (by kernel_rfl) (fun _ _ _ h => h) (Or.inl ⟨by rfl, ?_⟩) (by assumption) ?_
                        rotate_left
                        · (intro w hSw; (try dsimp only at hSw); go_simp; try with_reducible rfl)
                        try simp only [Act.put, List.setIfInBounds_toArray, List.set_cons_zero, List.set_cons_succ]
                        refine wpAnyH_take (i := 3) (oi := Oper.mk _ _ _ _ _ _) (v := ?_) rfl (by kernel_rfl) (by kernel_rfl) (by kernel_rfl) (fun _ _ _ h => h) (Or.inl ⟨by rfl, ?_⟩) (by assumption) ?_
                        rotate_left
                        · (intro w hSw; (try dsimp only at hSw); go_simp; try with_reducible rfl)
                        try simp only [Act.put, List.setIfInBounds_toArray, List.set_cons_zero, List.set_cons_succ]
                        refine wpAnyH_take (i := 4) (oi := Oper.mk _ _ _ _ _ _) (v := ?_) rfl (by kernel_rfl) (by kernel_rfl) (by kernel_rfl) (fun _ _ _ h => h) (Or.inl ⟨by rfl, ?_⟩) (by assumption) ?_
                        rotate_left
                        · (intro w hSw; (try dsimp only at hSw); go_simp; try with_reducible rfl)
                        try simp only [Act.put, List.setIfInBounds_toArray, List.set_cons_zero, List.set_cons_succ]
                        refine wpAnyH_take (i := 5) (oi := Oper.mk _ _ _ _ _ _) (v := ?_) rfl (by kernel_rfl) (by kernel_rfl) (by kernel_rfl) (fun _ _ _ h => h) (Or.inl ⟨by rfl, ?_⟩) (by assumption) ?_
                        rotate_left
                        · (intro w hSw; (try dsimp only at hSw); go_simp; try with_reducible rfl)
                        try simp only [Act.put, List.setIfInBounds_toArray, List.set_cons_zero, List.set_cons_succ]
                        refine wpAnyH_take (i := 6) (oi := Oper.mk _ _ _ _ _ _) (v := ?_) rfl (by kernel_rfl) (by kernel_rfl) (by kernel_rfl) (fun _ _ _ h => h) (Or.inl ⟨by rfl, ?_⟩) (by assumption) ?_
                        rotate_left
                        · (intro w hSw; (try dsimp only at hSw); go_simp; try with_reducible rfl)
                        try simp only [Act.put, List.setIfInBounds_toArray, List.set_cons_zero, List.set_cons_succ]
                        refine wpAnyH_take (i := 7) (oi := Oper.mk _ _ _ _ _ _) (v := ?_) rfl (by kernel_rfl) (by kernel_rfl) (by kernel_rfl) (fun _ _ _ h => h) (Or.inl ⟨by rfl, ?_⟩) (by assumption) ?_
                        rotate_left
                        · (intro w hSw; (try dsimp only at hSw); go_simp; try with_reducible rfl)
                        try simp only [Act.put, List.setIfInBounds_toArray, List.set_cons_zero, List.set_cons_succ]
                        refine wpAnyH_take (i := 8) (oi := Oper.mk _ _ _ _ _ _) (v := ?_) rfl (by kernel_rfl) (by kernel_rfl) (by kernel_rfl) (fun _ _ _ h => h) (Or.inl ⟨by rfl, ?_⟩) (by assumption) ?_
                        rotate_left
                        · (intro w hSw; (try dsimp only at hSw); go_simp; try with_reducible rfl)
                        try simp only [Act.put, List.setIfInBounds_toArray, List.set_cons_zero, List.set_cons_succ]
                        refine wpAnyH_take (i := 9) (oi := Oper.mk _ _ _ _ _ _) (v := ?_) rfl (by kernel_rfl) (by kernel_rfl) (by kernel_rfl) (fun _ _ _ h => h) (Or.inl ⟨by rfl, ?_⟩) (by assumption) ?_
                        rotate_left
                        · (intro w hSw; (try dsimp only at hSw); go_simp; try with_reducible rfl)
                        try simp only [Act.put, List.setIfInBounds_toArray, List.set_cons_zero, List.set_cons_succ]
                        refine wpAnyH_take (i := 10) (oi := Oper.mk _ _ _ _ _ _) (v := ?_) rfl (by kernel_rfl) (by kernel_rfl) (by kernel_rfl) (fun _ _ _ h => h) (Or.inl ⟨by rfl, ?_⟩) (by assumption) ?_
                        rotate_left
                        · (intro w hSw; (try dsimp only at hSw); go_simp; try with_reducible rfl)
                        try simp only [Act.put, List.setIfInBounds_toArray, List.set_cons_zero, List.set_cons_succ]
                        refine wpAnyH_done (by kernel_rfl) ?_ _
                        clear hHeld
                        go_wp2_with fail
                        go_roundw
                        case rel => exact ⟨k + 1, by omega, by go_num, HN1.out, HBr.out.drew⟩
                        case measure => simp [intOf]; omega
                      | false =>
                        have HN1 := Lib.hid (HS.out.2 (eqB_false.1 hee))
                        have HR := Lib.hid (show r = false by rw [HE.out, HN1.out]; simp)
                        clear hee HS
                        go_wp2_with fail
                        refine wp_region_held_drew (S := fun W => W.cell? ⟨w.heap.size, 5, none⟩ = some (.slice (some ⟨b1, o1, none⟩) a.params.length c3) ∧ W.cell? ⟨w.heap.size + 1, 5, none⟩ = some (.slice (some ⟨b2, o2, none⟩) b.params.length d3) ∧ W.cell? ⟨b1, o1 + k * 2, none⟩ = some (.string x.1) ∧ W.cell? ⟨b1, o1 + k * 2 + 1, none⟩ = some (.string x.2) ∧ W.cell? ⟨b2, o2 + k * 2, none⟩ = some (.string y.1) ∧ W.cell? ⟨b2, o2 + k * 2 + 1, none⟩ = some (.string y.2)) (by kernel_rfl) (⟨n5, m5, g0, g1, f0, f1⟩) (fun hHeld => ?_)
                        clear n0 n1 n2 n3 n4 n5 n6 n7 nf m0 m1 m2 m3 m4 m5 m6 m7 mf
                        refine wpAnyH_take (i := 0) (oi := Oper.mk _ _ _ _ _ _) (v := ?_) rfl (by kernel_rfl) (by kernel_rfl) (by kernel_rfl) (fun _ _ _ h => h) (Or.inl ⟨by rfl, ?_⟩) (by assumption) ?_
                        rotate_left
                        · (intro w hSw; (try dsimp only at hSw); go_simp; try with_reducible rfl)
                        try simp only [Act.put, List.setIfInBounds_toArray, List.set_cons_zero, List.set_cons_succ]
                        refine wpAnyH_take (i := 1) (oi := Oper.mk _ _ _ _ _ _) (v := ?_) rfl (by kernel_rfl) (by kernel_rfl) (by kernel_rfl) (fun _ _ _ h => h) (Or.inl ⟨by rfl, ?_⟩) (by assumption) ?_
                        rotate_left
                        · (intro w hSw; (try dsimp only at hSw); go_simp; try with_reducible rfl)
                        try simp only [Act.put, List.setIfInBounds_toArray, List.set_cons_zero, List.set_cons_succ]
                        refine wpAnyH_take (i := 2) (oi := Oper.mk _ _ _ _ _ _) (v := ?_) rfl (by kernel_rfl) (by kernel_rfl) (by kernel_rfl) (fun _ _ _ h => h) (Or.inl ⟨by rfl, ?_⟩) (by assumption) ?_
                        rotate_left
                        · (intro w hSw; (try dsimp only at hSw); go_simp; try with_reducible rfl)
                        try simp only [Act.put, List.setIfInBounds_toArray, List.set_cons_zero, List.set_cons_succ]
                        refine wpAnyH_take (i := 3) (oi := Oper.mk _ _ _ _ _ _) (v := ?_) rfl (by kernel_rfl) (by kernel_rfl) (by kernel_rfl) (fun _ _ _ h => h) (Or.inl ⟨by rfl, ?_⟩) (by assumption) ?_
                        rotate_left
                        · (intro w hSw; (try dsimp only at hSw); go_simp; try with_reducible rfl)
                        try simp only [Act.put, List.setIfInBounds_toArray, List.set_cons_zero, List.set_cons_succ]
                        refine wpAnyH_take (i := 4) (oi := Oper.mk _ _ _ _ _ _) (v := ?_) rfl (by kernel_rfl) (by kernel_rfl) (by kernel_rfl) (fun _ _ _ h => h) (Or.inl ⟨by rfl, ?_⟩) (by assumption) ?_
                        rotate_left
                        · (intro w hSw; (try dsimp only at hSw); go_simp; try with_reducible rfl)
                        try simp only [Act.put, List.setIfInBounds_toArray, List.set_cons_zero, List.set_cons_succ]
                        refine wpAnyH_take (i := 5) (oi := Oper.mk _ _ _ _ _ _) (v := ?_) rfl (by kernel_rfl) (by kernel_rfl) (by kernel_rfl) (fun _ _ _ h => h) (Or.inl ⟨by rfl, ?_⟩) (by assumption) ?_
                        rotate_left
                        · (intro w hSw; (try dsimp only at hSw); go_simp; try with_reducible rfl)
                        try simp only [Act.put, List.setIfInBounds_toArray, List.set_cons_zero, List.set_cons_succ]
                        refine wpAnyH_take (i := 6) (oi := Oper.mk _ _ _ _ _ _) (v := ?_) rfl (by kernel_rfl) (by kernel_rfl) (by kernel_rfl) (fun _ _ _ h => h) (Or.inl ⟨by rfl, ?_⟩) (by assumption) ?_
                        rotate_left
                        · (intro w hSw; (try dsimp only at hSw); go_simp; try with_reducible rfl)
                        try simp only [Act.put, List.setIfInBounds_toArray, List.set_cons_zero, List.set_cons_succ]
                        refine wpAnyH_take (i := 7) (oi := Oper.mk _ _ _ _ _ _) (v := ?_) rfl (by kernel_rfl) (by kernel_rfl) (by kernel_rfl) (fun _ _ _ h => h) (Or.inl ⟨by rfl, ?_⟩) (by assumption) ?_
                        rotate_left
                        · (intro w hSw; (try dsimp only at hSw); go_simp; try with_reducible rfl)
                        try simp only [Act.put, List.setIfInBounds_toArray, List.set_cons_zero, List.set_cons_succ]
                        refine wpAnyH_take (i := 8) (oi := Oper.mk _ _ _ _ _ _) (v := ?_) rfl (by kernel_rfl) (by kernel_rfl) (by kernel_rfl) (fun _ _ _ h => h) (Or.inl ⟨by rfl, ?_⟩) (by assumption) ?_
                        rotate_left
                        · (intro w hSw; (try dsimp only at hSw); go_simp; try with_reducible rfl)
                        try simp only [Act.put, List.setIfInBounds_toArray, List.set_cons_zero, List.set_cons_succ]
                        refine wpAnyH_take (i := 9) (oi := Oper.mk _ _ _ _ _ _) (v := ?_) rfl (by kernel_rfl) (by kernel_rfl) (by kernel_rfl) (fun _ _ _ h => h) (Or.inl ⟨by rfl, ?_⟩) (by assumption) ?_
                        rotate_left
                        · (intro w hSw; (try dsimp only at hSw); go_simp; try with_reducible rfl)
                        try simp only [Act.put, List.setIfInBounds_toArray, List.set_cons_zero, List.set_cons_succ]
                        refine wpAnyH_take (i := 10) (oi := Oper.mk _ _ _ _ _ _) (v := ?_) rfl (by kernel_rfl) (by kernel_rfl) (by kernel_rfl) (fun _ _ _ h => h) (Or.inl ⟨by rfl, ?_⟩) (by assumption) ?_
                        rotate_left
                        · (intro w hSw; (try dsimp only at hSw); go_simp; try with_reducible rfl)
                        try simp only [Act.put, List.setIfInBounds_toArray, List.set_cons_zero, List.set_cons_succ]
                        refine wpAnyH_done (by kernel_rfl) ?_ _
                        clear hHeld
                        go_wp2_with fail
                        go_ret
                        exact ⟨ret_bool HR.out.symm, HBW.out.drew⟩
                    · obtain rfl : k = a.params.length := by omega
                      have HF3 := Lib.hid (eqB_full (xs := a.params) (ys := b.params) hqq HT.out)
                      clear hqq
                      go_wp2_with fail
                      clear n0 n1 n2 n3 n4 n5 n6 n7 nf m0 m1 m2 m3 m4 m5 m6 m7 mf hla hlb hlt HT HBW
                      have HB3 := Lib.hid HBr.out
                      clear HBr
                      rename World => wr3
                      go_loopw [8] (fun v wr => ∃ k : Nat, k ≤ a.terms.length ∧ v = .int .i64 k ∧ a.terms.take k = b.terms.take k ∧ Below w2.heap.size w2 wr) (fun v _ => a.terms.length - (intOf v).toNat)
                      case atStart => exact ⟨0, Nat.zero_le _, rfl, by simp, HB3.out⟩
                      case round =>
                        obtain ⟨k, hk, rfl, ht, hb⟩ := hrel
                        have HT := Lib.hid ht
                        have HBr := Lib.hid hb
                        have HBW := Lib.hid (HBx.out.trans (hb.mono HBx.out.size))
                        obtain ⟨n0, n1, n2, n3, n4, n5, n6, n7, nf⟩ := eight_cells ((hb.block _ (lt_of_block NA.out)).trans NA.out)
                        obtain ⟨m0, m1, m2, m3, m4, m5, m6, m7, mf⟩ := eight_cells ((hb.block _ (lt_of_block NB.out)).trans NB.out)
                        have hla := Nat.lt_of_lt_of_le (lt_of_block NA.out) hb.size
                        have hlb := Nat.lt_of_lt_of_le (lt_of_block NB.out) hb.size
                        have hqq := HQ.out.2.2.2
                        have hll := HLl.out.2.2
                        clear ht hb
                        by_cases hlt : k < a.terms.length
                        · have hlt2 : (k : Int) < (a.terms.length : Int) := by omega
                          have hltm : (k : Int) < (b.terms.length : Int) := by omega
                          have hltn : k < b.terms.length := by omega
                          clear hqq
                          have hyk := List.getElem?_eq_getElem hlt
                          have hzk := List.getElem?_eq_getElem hltn
                          generalize a.terms[k] = x at hyk
                          generalize b.terms[k] = y at hzk
                          obtain ⟨b1, o1, A', c', hA, hbl, g0, g1, g2, hra⟩ := sexp_cells (HA.out.terms.on SexpR.lasts HBW.out) hyk
                          obtain ⟨b2, o2, B', d', hB', hbl', f0, f1, f2, hrb⟩ := sexp_cells (HBb.out.terms.on SexpR.lasts HBW.out) hzk
                          subst hA
                          subst hB'
                          have HY := Lib.hid (rsame_all _ x (Nat.lt_succ_self _) wr.drew A' c' y B' d' (SexpR.lasts _ _ _ _ ((Below.refl _ _).drew) hra) (SexpR.lasts _ _ _ _ ((Below.refl _ _).drew) hrb))
                          have HN := Lib.hid (eqB_next (xs := a.terms) (ys := b.terms) hyk hzk)
                          have HC := Lib.hid (fun W (h : Below wr.heap.size wr W) => show W.cell? ⟨w.heap.size, 7, none⟩ = some (.slice (some ⟨b1, o1, none⟩) a.terms.length c4) ∧ W.cell? ⟨w.heap.size + 1, 7, none⟩ = some (.slice (some ⟨b2, o2, none⟩) b.terms.length d4) ∧ W.cell? ⟨b1, o1 + k * 3, none⟩ = some (.int .i8 x.kind) ∧ W.cell? ⟨b1, o1 + k * 3 + 1, none⟩ = some (.string x.text) ∧ W.cell? ⟨b1, o1 + k * 3 + 2, none⟩ = some (.slice A' x.l.length c') ∧ W.cell? ⟨b2, o2 + k * 3, none⟩ = some (.int .i8 y.kind) ∧ W.cell? ⟨b2, o2 + k * 3 + 1, none⟩ = some (.string y.text) ∧ W.cell? ⟨b2, o2 + k * 3 + 2, none⟩ = some (.slice B' y.l.length d') from
                            ⟨(h.cell (p := ⟨_, 7, none⟩) hla).trans n7, (h.cell (p := ⟨_, 7, none⟩) hlb).trans m7, (h.cell (p := ⟨b1, o1 + k * 3, none⟩) hbl).trans g0, (h.cell (p := ⟨b1, o1 + k * 3 + 1, none⟩) hbl).trans g1, (h.cell (p := ⟨b1, o1 + k * 3 + 2, none⟩) hbl).trans g2, (h.cell (p := ⟨b2, o2 + k * 3, none⟩) hbl').trans f0, (h.cell (p := ⟨b2, o2 + k * 3 + 1, none⟩) hbl').trans f1, (h.cell (p := ⟨b2, o2 + k * 3 + 2, none⟩) hbl').trans f2⟩)
                          clear hra hrb hyk hzk
                          go_wp2_with fail
                          refine wp_region_held_drew (S := fun W => W.cell? ⟨w.heap.size, 7, none⟩ = some (.slice (some ⟨b1, o1, none⟩) a.terms.length c4) ∧ W.cell? ⟨w.heap.size + 1, 7, none⟩ = some (.slice (some ⟨b2, o2, none⟩) b.terms.length d4) ∧ W.cell? ⟨b1, o1 + k * 3, none⟩ = some (.int .i8 x.kind) ∧ W.cell? ⟨b1, o1 + k * 3 + 1, none⟩ = some (.string x.text) ∧ W.cell? ⟨b1, o1 + k * 3 + 2, none⟩ = some (.slice A' x.l.length c') ∧ W.cell? ⟨b2, o2 + k * 3, none⟩ = some (.int .i8 y.kind) ∧ W.cell? ⟨b2, o2 + k * 3 + 1, none⟩ = some (.string y.text) ∧ W.cell? ⟨b2, o2 + k * 3 + 2, none⟩ = some (.slice B' y.l.length d')) (by kernel_rfl) (HC.out _ (Below.refl _ _).drew) (fun hHeld => ?_)
                          clear n0 n1 n2 n3 n4 n5 n6 n7 nf m0 m1 m2 m3 m4 m5 m6 m7 mf g0 g1 g2 f0 f1 f2
                          refine wpAnyH_take (i := 0) (oi := Oper.mk _ _ _ _ _ _) (v := ?_) rfl (by kernel_rfl) (by kernel_rfl) (by kernel_rfl) (fun _ _ _ h => h) (Or.inl ⟨by rfl, ?_⟩) (by assumption) ?_
                          rotate_left
                          · (intro w hSw; (try dsimp only at hSw); go_simp; try with_reducible rfl)
                          try simp only [Act.put, List.setIfInBounds_toArray, List.set_cons_zero, List.set_cons_succ]
                          refine wpAnyH_take (i := 1) (oi := Oper.mk _ _ _ _ _ _) (v := ?_) rfl (by kernel_rfl) (by kernel_rfl) (by kernel_rfl) (fun _ _ _ h => h) (Or.inl ⟨by rfl, ?_⟩) (by assumption) ?_
                          rotate_left
                          · (intro w hSw; (try dsimp only at hSw); go_simp; try with_reducible rfl)
                          try simp only [Act.put, List.setIfInBounds_toArray, List.set_cons_zero, List.set_cons_succ]
                          refine wpAnyH_take (i := 2) (oi := Oper.mk _ _ _ _ _ _) (v := ?_) rfl (by kernel_rfl) (by kernel_rfl) (by kernel_rfl) (fun _ _ _ h => h) (Or.inl ⟨by rfl, ?_⟩) (by assumption) ?_
                          rotate_left
                          · (intro w hSw; (try dsimp only at hSw); go_simp; try with_reducible rfl)
                          try simp only [Act.put, List.setIfInBounds_toArray, List.set_cons_zero, List.set_cons_succ]
                          refine wpAnyH_take (i := 3) (oi := Oper.mk _ _ _ _ _ _) (v := ?_) rfl (by kernel_rfl) (by kernel_rfl) (by kernel_rfl) (fun _ _ _ h => h) (Or.inl ⟨by rfl, ?_⟩) (by assumption) ?_
                          rotate_left
                          · (intro w hSw; (try dsimp only at hSw); go_simp; try with_reducible rfl)
                          try simp only [Act.put, List.setIfInBounds_toArray, List.set_cons_zero, List.set_cons_succ]
                          refine wpAnyH_take (i := 4) (oi := Oper.mk _ _ _ _ _ _) (v := ?_) rfl (by kernel_rfl) (by kernel_rfl) (by kernel_rfl) (fun _ _ _ h => h) (Or.inl ⟨by rfl, ?_⟩) (by assumption) ?_
                          rotate_left
                          · (intro w hSw; (try dsimp only at hSw); go_simp; try with_reducible rfl)
                          try simp only [Act.put, List.setIfInBounds_toArray, List.set_cons_zero, List.set_cons_succ]
                          refine wpAnyH_take (i := 5) (oi := Oper.mk _ _ _ _ _ _) (v := ?_) rfl (by kernel_rfl) (by kernel_rfl) (by kernel_rfl) (fun _ _ _ h => h) (Or.inl ⟨by rfl, ?_⟩) (by assumption) ?_
                          rotate_left
                          · (intro w hSw; (try dsimp only at hSw); go_simp; try with_reducible rfl)
                          try simp only [Act.put, List.setIfInBounds_toArray, List.set_cons_zero, List.set_cons_succ]
                          refine wpAnyH_take (i := 6) (oi := Oper.mk _ _ _ _ _ _) (v := ?_) rfl (by kernel_rfl) (by kernel_rfl) (by kernel_rfl) (fun _ _ _ h => h) (Or.inl ⟨by rfl, ?_⟩) (by assumption) ?_
                          rotate_left
                          · (intro w hSw; (try dsimp only at hSw); go_simp; try with_reducible rfl)
                          try simp only [Act.put, List.setIfInBounds_toArray, List.set_cons_zero, List.set_cons_succ]
                          refine wpAnyH_take (i := 7) (oi := Oper.mk _ _ _ _ _ _) (v := ?_) rfl (by kernel_rfl) (by kernel_rfl) (by kernel_rfl) (fun _ _ _ h => h) (Or.inl ⟨by rfl, ?_⟩) (by assumption) ?_
                          rotate_left
                          · (intro w hSw; (try dsimp only at hSw); go_simp; try with_reducible rfl)
                          try simp only [Act.put, List.setIfInBounds_toArray, List.set_cons_zero, List.set_cons_succ]
                          refine wpAnyH_take (i := 8) (oi := Oper.mk _ _ _ _ _ _) (v := ?_) rfl (by kernel_rfl) (by kernel_rfl) (by kernel_rfl) (fun _ _ _ h => h) (Or.inl ⟨by rfl, ?_⟩) (by assumption) ?_
                          rotate_left
                          · (intro w hSw; (try dsimp only at hSw); go_simp; try with_reducible rfl)
                          try simp only [Act.put, List.setIfInBounds_toArray, List.set_cons_zero, List.set_cons_succ]
                          refine wpAnyH_take (i := 9) (oi := Oper.mk _ _ _ _ _ _) (v := ?_) rfl (by kernel_rfl) (by kernel_rfl) (by kernel_rfl) (fun _ _ _ h => h) (Or.inl ⟨by rfl, ?_⟩) (by assumption) ?_
                          rotate_left
                          · (intro w hSw; (try dsimp only at hSw); go_simp; try with_reducible rfl)
                          try simp only [Act.put, List.setIfInBounds_toArray, List.set_cons_zero, List.set_cons_succ]
                          refine wpAnyH_ready (rs := [10]) (by kernel_rfl) (by simp) ?_
                          refine AllReadyH.cons (o := Oper.mk _ _ _ _ _ _) rfl (fun K hK => ?_) AllReadyH.nil
                          go_simp
                          go_wp2_with (go_at_call 18; refine HY.out.mono ?_; rintro e w3 ⟨rfl, hb3⟩; have HB3 := Lib.hid ((Below.refl wr.heap.size wr).drew.trans hb3))
                          refine hK.out _ _ (HC.out _ HB3.out) (fun hHeld => ?_)
                          clear hK K
                          try simp only [Act.put, List.setIfInBounds_toArray, List.set_cons_zero, List.set_cons_succ]
                          have HBe := Lib.hid (HBr.out.trans (HB3.out.mono HBr.out.size))
                          clear hb3
                          by_cases he : x = y
                          · have HN1 := Lib.hid (HN.out.1 he HT.out)
                            rw [eqB_true.2 he]
                            refine wpAnyH_take (i := 11) (oi := Oper.mk _ _ _ _ _ _) (v := ?_) rfl (by kernel_rfl) (by kernel_rfl) (by kernel_rfl) (fun _ _ _ h => h) (Or.inl ⟨by rfl, ?_⟩) (by assumption) ?_
                            rotate_left
                            · (intro w hSw; (try dsimp only at hSw); go_simp; try with_reducible rfl)
                            try simp only [Act.put, List.setIfInBounds_toArray, List.set_cons_zero, List.set_cons_succ]
                            refine wpAnyH_done (by kernel_rfl) ?_ _
                            clear hHeld
                            go_wp2_with fail
                            go_roundw
                            case rel => exact ⟨k + 1, by omega, by go_num, HN1.out, HBe.out⟩
                            case measure => simp [intOf]; omega
                          · have HN1 := Lib.hid (HN.out.2 he)
                            rw [eqB_false.2 he]
                            refine wpAnyH_take (i := 11) (oi := Oper.mk _ _ _ _ _ _) (v := ?_) rfl (by kernel_rfl) (by kernel_rfl) (by kernel_rfl) (fun _ _ _ h => h) (Or.inl ⟨by rfl, ?_⟩) (by assumption) ?_
                            rotate_left
                            · (intro w hSw; (try dsimp only at hSw); go_simp; try with_reducible rfl)
                            try simp only [Act.put, List.setIfInBounds_toArray, List.set_cons_zero, List.set_cons_succ]
                            refine wpAnyH_done (by kernel_rfl) ?_ _
                            clear hHeld
                            have HR := Lib.hid (show r = false by rw [HE.out, HN1.out]; simp)
                            go_wp2_with fail
                            go_ret
                            exact ⟨ret_bool HR.out.symm, HBx.out.trans (HBe.out.mono HBx.out.size)⟩
                        · obtain rfl : k = a.terms.length := by omega
                          have HF4 := Lib.hid (eqB_full (xs := a.terms) (ys := b.terms) hqq HT.out)
                          clear hqq
                          have HR := Lib.hid (show r = true by rw [HE.out, HF1.out, HF2.out, HF3.out, HF4.out]; rfl)
                          go_wp2_with fail
                          go_ret
                          exact ⟨ret_bool HR.out.symm, HBW.out⟩
end Go.Proofs.YtbchcipjpcdhfaaGreatDoor.Cm
