/- The walks of layer 1's functions: what each call answers, and that what was there is as it was. -/
import Derived.Test.YtdgbgchcomikoaaDoorNumPlain
namespace Go.Proofs.YtdgbgchcomikoaaDoor
open Go.RowKit

set_option maxHeartbeats 400000 in
theorem may_any (n : Int) (h : I64 n) (w : World) :
    Calls Tryd.prog 10 #[.int .i64 n] w fun e w' => e = .returned (.bool (mayB n)) ∧ w = w' := by
  have h1 := h.lo
  have h2 := h.hi
  clear h
  go_enter Tryd.func10, Tryd.ntmps10
  go_wp2
  all_goals go_ret
  all_goals refine ⟨ret_bool ?_, rfl⟩
  · symm; rw [mayB_iff]; omega
  · symm; rw [mayB_iff]; omega
  · rw [Bool.eq_iff_iff, mayB_iff]; simp; omega

set_option maxHeartbeats 800000 in
theorem within_any (n : Int) (zs : List Int) (hn : I64 n) (hz : ∀ x ∈ zs, I64 x) (hl : zs.length ≤ 1000000)
    (k cap : Nat) (w : World) (hk : ∀ j u, (zs.map (Value.int .i64))[j]? = some u → w.cell? ⟨k, j, none⟩ = some u) (hfull : cap < zs.length + 1) (hkw : k < w.heap.size) :
    Calls Tryd.prog 23 #[.int .i64 n, .slice (some ⟨k, 0, none⟩) zs.length cap] w fun e w' => e = .returned (.tuple #[.int .i64 (winV n zs), .int .i64 (winE n zs)]) ∧ Below w.heap.size w w' := by
  obtain ⟨i0, hi, hz0, hz1, hz2⟩ := info_parts info_int
  have hx0 : ∀ j u, (zs.map (Value.int .i64))[j]? = some u → (w.alloc (Obj.cells #[Value.int IntKind.i64 n] 3)).cell? ((⟨k, 0, none⟩ : Addr).add j) = some u := by
    intro j u hu
    rw [addr_add0, World.cell?_alloc_past _ _ _ hkw]
    exact hk j u hu
  have HX := Lib.hid hx0
  have HZ := Lib.hid hz
  clear hx0 hk hz
  go_enter Tryd.func23, Tryd.ntmps23
  go_wp2_with (at_builtin; refine wpList_append_grows _ rfl _ _ 30 rfl 3 i0 (.int .i64 0) 1 8 Tryd.underlying30 hi hz0 hz1 hz2 rfl (by decide) (some ⟨k, 0, none⟩) zs.length cap (zs.map (Value.int .i64)) rfl ?c4 ?c5 ?c6 ⟨w.heap.size, 0, none⟩ 1 1 [.int .i64 n] rfl rfl ?c2 ?c3 hfull ?c7 ?c8 ?c9)
  case c4 => intro h; cases h
  case c5 => simp
  case c6 => intro b hb; cases hb; exact HX.out
  case c2 => intro j u hu; cases j <;> simp at hu; subst hu; go_simp
  case c3 => simp [Value.oneCell']
  case c7 => unfold maxLen; omega
  case c8 => omega
  intro v' w1 hown1 hgrow1
  obtain ⟨g, cap', hv, hg, hcell⟩ := owned_open hown1 (by omega)
  have HC := Lib.hid hcell
  have HB := Lib.hid (show Below w.heap.size w w1 from ((Below.refl _ _).alloc (Nat.le_refl _) _).grown hgrow1 (by simp) (by intro k hk; cases hk))
  clear hcell hgrow1 hown1 hi hz0 hz1 hz2
  rw [hv]
  clear hv
  go_wp2_with fail
  go_loop [13] (fun i => ∃ k : Nat, k ≤ zs.length + 1 ∧ i = .int .i64 k ∧ ∀ x ∈ (zs ++ [n]).take k, mayB x = true) (fun i => zs.length + 1 - (intOf i).toNat)
  case atStart => exact ⟨0, Nat.zero_le _, rfl, by simp⟩
  case round =>
    obtain ⟨j, hj, rfl, hall⟩ := hrel
    have HA := Lib.hid hall
    clear hall
    by_cases hlt : j < zs.length + 1
    · have hgj : (zs ++ [n])[j]? = some ((zs ++ [n]).getD j 0) := by
        rw [List.getD_eq_getElem?_getD, List.getElem?_eq_getElem (by simp; omega)]; rfl
      have hcl : w1.cell? ⟨g, j, none⟩ = some (.int .i64 ((zs ++ [n]).getD j 0)) := HC.out j _ (by
        rw [show (List.map (Value.int IntKind.i64) zs ++ [Value.int IntKind.i64 n]) = (zs ++ [n]).map (Value.int .i64) by simp, List.getElem?_map, hgj]; rfl)
      have hx64 : I64 ((zs ++ [n]).getD j 0) := by
        have hm : (zs ++ [n]).getD j 0 ∈ zs ++ [n] := List.mem_of_getElem? hgj
        rcases List.mem_append.1 hm with h1 | h1
        · exact HZ.out _ h1
        · simp at h1; rw [List.getD_eq_getElem?_getD, h1]; exact hn
      generalize (zs ++ [n]).getD j 0 = x at *
      have HJ := Lib.hid hgj
      clear hgj
      go_wp2_with (go_at_call 10; refine (may_any x hx64 _).mono ?_; rintro e w' ⟨rfl, rfl⟩)
      · have hno : mayB x = false := by simpa using ‹(!mayB x) = true›
        go_ret2
        have h2 := winV_no (List.mem_of_getElem? HJ.out) hno
        exact ⟨pair_int ⟨h2.1.symm, h2.2.symm⟩, HB.out⟩
      · have hyes : mayB x = true := by simpa using ‹(!mayB x) = false›
        go_round
        case rel =>
          refine ⟨j + 1, by omega, by go_num, fun y hy => ?_⟩
          rw [List.take_add_one, HJ.out] at hy
          rcases List.mem_append.1 hy with h1 | h1
          · exact HA.out y h1
          · simp at h1; rw [h1]; exact hyes
        case measure => simp [intOf]; omega
    · go_wp2
      go_ret2
      have h2 := winV_yes (n := n) (zs := zs) (fun x hx => HA.out x (by rw [List.take_of_length_le (by simp; omega)]; exact hx))
      exact ⟨pair_int ⟨h2.1.symm, h2.2.symm⟩, HB.out⟩
end Go.Proofs.YtdgbgchcomikoaaDoor
