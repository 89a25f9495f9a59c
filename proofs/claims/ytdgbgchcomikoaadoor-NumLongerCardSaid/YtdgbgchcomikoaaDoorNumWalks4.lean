/- The walks of layer 1's Text and Sum. -/
import Derived.Test.YtdgbgchcomikoaaDoorNumWalks3
import Derived.Test.YtdgbgchcomikoaaDoorTab
import Derived.Lib.ItoaLen
namespace Go.Proofs.YtdgbgchcomikoaaDoor
open Go.RowKit

/-- P1.2's text: its letters, and the error -/
def textL (n : Int) : List UInt8 := if mayB n then (if n < 0 then [40, 45, 32] ++ Lib.itoa (-n) ++ [41] else Lib.itoa n) else []
def textE (n : Int) : Int := if mayB n then 0 else 10
theorem text_neg {n : Int} (hm : mayB n = true) (h : n < 0) : textL n = [40, 45, 32] ++ Lib.itoa (-n) ++ [41] ∧ textE n = 0 := by simp [textL, textE, hm, h]
theorem text_pos {n : Int} (hm : mayB n = true) (h : ¬ n < 0) : textL n = Lib.itoa n ∧ textE n = 0 := by simp [textL, textE, hm, h]
theorem text_no {n : Int} (hm : mayB n = false) : textL n = [] ∧ textE n = 10 := by simp [textL, textE, hm]

set_option maxHeartbeats 800000 in
theorem text_any (n : Int) (hn : I64 n) (w : World) (ht : TabOk w) :
    Calls Tryd.prog 9 #[.int .i64 n] w fun e w' => e = .returned (.tuple #[.string ⟨(textL n).toArray⟩, .int .i64 (textE n)]) ∧ Below w.heap.size w w' := by
  have HT := Lib.hid ht
  clear ht
  cases hm : mayB n with
  | true =>
    have hb := mayB_iff.1 hm
    obtain ⟨hb0, hb1⟩ := hb
    by_cases h0 : n < 0
    · have HX := Lib.hid (text_neg hm h0)
      have HM := Lib.hid hm
      clear hm
      go_enter Tryd.func9, Tryd.ntmps9
      go_wp2_with (go_at_call 10; refine (may_any n hn _).mono ?_; rw [HM.out]; rintro e w' ⟨rfl, rfl⟩)
      refine (itoa_any (-n) ⟨by omega, by omega⟩ w HT.out).mono ?_
      rintro e w1 ⟨rfl, hb⟩
      have HB := Lib.hid hb
      clear hb
      have hlen := Lib.itoa_length_le (-n) (by omega) (by omega)
      generalize Lib.itoa (-n) = L at *
      go_wp2_with fail
      have hx := HX.out
      go_ret2
      exact ⟨pair_str_int ⟨by rw [hx.1]; show ByteArray.mk [40, 45, 32].toArray ++ ByteArray.mk L.toArray ++ ByteArray.mk [41].toArray = _; rw [ByteArray.mk_append_mk, ByteArray.mk_append_mk], hx.2.symm⟩, HB.out⟩
    · have HX := Lib.hid (text_pos hm h0)
      have HM := Lib.hid hm
      clear hm
      go_enter Tryd.func9, Tryd.ntmps9
      go_wp2_with (go_at_call 10; refine (may_any n hn _).mono ?_; rw [HM.out]; rintro e w' ⟨rfl, rfl⟩)
      refine (itoa_any n hn w HT.out).mono ?_
      rintro e w1 ⟨rfl, hb⟩
      have HB := Lib.hid hb
      clear hb
      go_wp2_with fail
      have hx := HX.out
      go_ret2
      exact ⟨pair_str_int ⟨by rw [hx.1], hx.2.symm⟩, HB.out⟩
  | false =>
    have HX := Lib.hid (text_no hm)
    have HM := Lib.hid hm
    clear hm
    go_enter Tryd.func9, Tryd.ntmps9
    go_wp2_with (go_at_call 10; refine (may_any n hn _).mono ?_; rw [HM.out]; rintro e w' ⟨rfl, rfl⟩)
    have hx := HX.out
    go_ret2
    exact ⟨pair_str_int ⟨by rw [hx.1], hx.2.symm⟩, Below.refl _ _⟩

/-- where a sum stands behind some numbers -/
theorem sum_next {most : Int} {l : List Int} {x s : Int} (h : sumAll most l = some s) : sumAll most (l ++ [x]) = if mayB x && decide (x.natAbs < most - s) then some (s + x.natAbs + 1) else none := by
  unfold sumAll at *; rw [List.foldl_append, h]; rfl
theorem sumStep_none (most : Int) (l : List Int) : l.foldl (sumStep most) none = none := by
  induction l with
  | nil => rfl
  | cons x l ih => exact ih
theorem sum_stop {most : Int} {l : List Int} {k : Nat} (h : sumAll most (l.take k) = none) : sumAll most l = none := by
  rw [← List.take_append_drop k l]
  unfold sumAll at *; rw [List.foldl_append, h]; exact sumStep_none _ _
theorem sumAll_le {most : Int} (h0 : 0 ≤ most) (l : List Int) (s : Int) (h : sumAll most l = some s) : 0 ≤ s ∧ s ≤ most := by
  suffices H : ∀ (l : List Int) (a s : Int), 0 ≤ a → a ≤ most → l.foldl (sumStep most) (some a) = some s → 0 ≤ s ∧ s ≤ most from H l 0 s (by omega) h0 h
  intro l
  induction l with
  | nil => intro a s ha hm h; simp at h; omega
  | cons x l ih =>
    intro a s ha hm h
    rw [List.foldl_cons] at h
    by_cases hc : (mayB x && decide ((x.natAbs : Int) < most - a)) = true
    · have e : sumStep most (some a) x = some (a + x.natAbs + 1) := by simp only [sumStep, Option.bind_some]; rw [if_pos hc]
      rw [e] at h
      simp at hc
      exact ih _ s (by omega) (by omega) h
    · have e : sumStep most (some a) x = none := by simp only [sumStep, Option.bind_some]; rw [if_neg hc]
      rw [e, sumStep_none] at h; cases h
theorem take_getD {l : List Int} {k : Nat} (hk : k < l.length) : l.take (k + 1) = l.take k ++ [l.getD k 0] := by
  rw [List.take_add_one, List.getD_eq_getElem?_getD, List.getElem?_eq_getElem hk]; simp

theorem sum_abs {x : Int} (h : I64 x) : I64 (max x (wrap64 (-x))) ∧ mayB (max x (wrap64 (-x))) = mayB x ∧ (mayB x = true → max x (wrap64 (-x)) = x.natAbs) := by
  unfold I64 at *
  refine ⟨?_, ?_, ?_⟩
  · unfold wrap64; omega
  · rw [Bool.eq_iff_iff, mayB_iff, mayB_iff]; unfold wrap64; omega
  · rw [mayB_iff]; unfold wrap64; omega
theorem sum_none {l : List Int} {most : Int} (h : sumAll (within0 most) l = none) : sumV l most = 0 ∧ sumB l most = false := by simp [sumV, sumB, h]
theorem sum_some {l : List Int} {most s : Int} (h : sumAll (within0 most) l = some s) : sumV l most = s ∧ sumB l most = true := by simp [sumV, sumB, h]

set_option maxHeartbeats 800000 in
theorem sum_any (zs : List Int) (most : Int) (hz : ∀ x ∈ zs, I64 x) (hl : zs.length ≤ 140737488351232) (b off cap : Nat) (w : World)
    (hc : ∀ j, j < zs.length → w.cell? ⟨b, off + j, none⟩ = some (.int .i64 (zs.getD j 0))) :
    Calls Tryd.prog 12 #[.slice (some ⟨b, off, none⟩) zs.length cap, .int .i64 most] w fun e w' => e = .returned (.tuple #[.int .i64 (sumV zs most), .bool (sumB zs most)]) ∧ w = w' := by
  have HZ := Lib.hid hz
  have HC := Lib.hid hc
  clear hz hc
  have hm0 : 0 ≤ within0 most := by unfold within0; omega
  have hm1 : within0 most ≤ 4611686018427387904 := by unfold within0; omega
  have HD := Lib.hid (fun h => sum_none (l := zs) (most := most) h)
  have HF := Lib.hid (fun s h => sum_some (l := zs) (most := most) (s := s) h)
  go_enter Tryd.func12, Tryd.ntmps12
  go_wp2_with fail
  go_loop [4, 13] (fun t i => ∃ (k : Nat) (s : Int), k ≤ zs.length ∧ i = .int .i64 k ∧ t = .int .i64 s ∧ sumAll (within0 most) (zs.take k) = some s) (fun _ i => zs.length - (intOf i).toNat)
  case atStart => exact ⟨0, 0, Nat.zero_le _, rfl, rfl, rfl⟩
  case round =>
    obtain ⟨k, s, hk, rfl, rfl, hs⟩ := hrel
    have hs1 := sumAll_le hm0 _ _ hs
    have HS := Lib.hid hs
    clear hs
    by_cases hlt : k < zs.length
    · have hcl := HC.out k hlt
      have hx : I64 (zs.getD k 0) := HZ.out _ (by rw [List.getD_eq_getElem?_getD, List.getElem?_eq_getElem hlt]; simp)
      have HT := Lib.hid (take_getD hlt)
      generalize zs.getD k 0 = x at *
      go_wp2_with fail
      have hy : I64 (max x (wrap64 (-x))) ∧ mayB (max x (wrap64 (-x))) = mayB x ∧ (mayB x = true → max x (wrap64 (-x)) = x.natAbs) := sum_abs hx
      have HY := Lib.hid hy.2
      have hy1 := hy.1
      clear hy
      generalize max x (wrap64 (-x)) = y at *
      refine (may_any y hy1 _).mono ?_
      rintro e w' ⟨rfl, rfl⟩
      rw [HY.out.1]
      cases hm : mayB x with
      | false =>
        go_wp2_with fail
        have h2 := HD.out (sum_stop (k := k + 1) (by rw [HT.out, sum_next HS.out, hm]; rfl))
        go_ret2
        exact ⟨pair_int_bool ⟨h2.1.symm, h2.2.symm⟩, rfl⟩
      | true =>
        have hya := HY.out.2 hm
        subst hya
        have HM := Lib.hid hm
        clear hm
        go_wp2_with fail
        · have h2 := HD.out (sum_stop (k := k + 1) (by rw [HT.out, sum_next HS.out, if_neg]; rw [HM.out, Bool.true_and, decide_eq_true_eq]; unfold within0; omega))
          go_ret2
          exact ⟨pair_int_bool ⟨h2.1.symm, h2.2.symm⟩, rfl⟩
        · go_round
          case rel =>
            refine ⟨k + 1, s + (x.natAbs + 1), by omega, by go_num, rfl, ?_⟩
            rw [HT.out, sum_next HS.out, if_pos (by rw [HM.out, Bool.true_and, decide_eq_true_eq]; unfold within0; omega)]; congr 1; omega
          case measure => simp [intOf]; omega
    · go_wp2_with fail
      go_ret2
      have h2 := HF.out s (by rw [List.take_of_length_le (by omega)] at HS; exact HS.out)
      exact ⟨pair_int_bool ⟨h2.1.symm, h2.2.symm⟩, rfl⟩

set_option maxHeartbeats 400000 in
theorem sum_empty (A : Option Addr) (most : Int) (cap : Nat) (w : World) :
    Calls Tryd.prog 12 #[.slice A 0 cap, .int .i64 most] w fun e w' => e = .returned (.tuple #[.int .i64 (sumV [] most), .bool (sumB [] most)]) ∧ w = w' := by
  go_enter Tryd.func12, Tryd.ntmps12
  go_wp2_with fail
  go_loop [4, 13] (fun t i => i = .int .i64 0 ∧ t = .int .i64 0) (fun _ _ => 0)
  case atStart => exact ⟨rfl, rfl⟩
  case round =>
    obtain ⟨rfl, rfl⟩ := hrel
    go_wp2_with fail
    go_ret2
    exact ⟨pair_int_bool ⟨rfl, rfl⟩, rfl⟩

/-- Sum, of a slice that reads as these numbers, nil and empty ones too -/
theorem sum_all (zs : List Int) (most : Int) (hz : ∀ x ∈ zs, I64 x) (hl : zs.length ≤ 140737488351232) (A : Option Addr) (cap : Nat) (w : World) (hc : Cells w A (zs.map (Value.int .i64))) :
    Calls Tryd.prog 12 #[.slice A zs.length cap, .int .i64 most] w fun e w' => e = .returned (.tuple #[.int .i64 (sumV zs most), .bool (sumB zs most)]) ∧ w = w' := by
  rcases hc with h0 | ⟨b, o, rfl, _, hc⟩
  · have h1 : zs = [] := List.map_eq_nil_iff.1 h0
    subst h1; exact sum_empty A most cap w
  · exact sum_any zs most hz hl b o cap w (fun j hj => hc j _ (by rw [List.getElem?_map, List.getD_eq_getElem?_getD, List.getElem?_eq_getElem hj]; rfl))
end Go.Proofs.YtdgbgchcomikoaaDoor
