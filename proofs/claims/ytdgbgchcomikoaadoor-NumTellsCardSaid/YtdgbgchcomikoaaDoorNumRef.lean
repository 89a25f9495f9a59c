/- The walks of layer 1's references. -/
import Derived.Test.YtdgbgchcomikoaaDoorNumWalks4
namespace Go.Proofs.YtdgbgchcomikoaaDoor
open Go.RowKit

set_option maxHeartbeats 800000 in
theorem rsum_any (zs : List Int) (most : Int) (hz : ∀ x ∈ zs, I64 x) (hl : zs.length ≤ 140737488351232) (b off cap : Nat) (w : World)
    (hc : ∀ j, j < zs.length → w.cell? ⟨b, off + j, none⟩ = some (.int .i64 (zs.getD j 0))) :
    Calls Tryd.prog 19 #[.slice (some ⟨b, off, none⟩) zs.length cap, .int .i64 most] w fun e w' => e = .returned (.tuple #[.int .i64 (sumV zs most), .bool (sumB zs most)]) ∧ w = w' := by
  have HZ := Lib.hid hz
  have HC := Lib.hid hc
  clear hz hc
  have hm0 : 0 ≤ within0 most := by unfold within0; omega
  have hm1 : within0 most ≤ 4611686018427387904 := by unfold within0; omega
  have hmm := Lib.hid (show max 0 (min most 4611686018427387904) = within0 most by unfold within0; omega)
  have HD := Lib.hid (fun h => sum_none (l := zs) (most := most) h)
  have HF := Lib.hid (fun s h => sum_some (l := zs) (most := most) (s := s) h)
  go_enter Tryd.func19, Tryd.ntmps19
  go_wp2_with fail
  go_loop [6, 7] (fun t i => ∃ (k : Nat) (s : Int), k ≤ zs.length ∧ i = .int .i64 k ∧ t = .int .i64 s ∧ sumAll (within0 most) (zs.take k) = some s) (fun _ i => zs.length - (intOf i).toNat)
  case atStart => exact ⟨0, 0, Nat.zero_le _, rfl, rfl, rfl⟩
  case round =>
    obtain ⟨k, s, hk, rfl, rfl, hs⟩ := hrel
    have hs1 := sumAll_le hm0 _ _ hs
    obtain ⟨hs0, hs2⟩ := hs1
    have HS := Lib.hid hs
    clear hs
    have HM0 := hmm.out
    rw [HM0]
    clear HM0
    generalize within0 most = M at *
    by_cases hlt : k < zs.length
    · have hcl := HC.out k hlt
      have hx : I64 (zs.getD k 0) := HZ.out _ (by rw [List.getD_eq_getElem?_getD, List.getElem?_eq_getElem hlt]; simp)
      have HT := Lib.hid (take_getD hlt)
      generalize zs.getD k 0 = x at *
      cases hm : mayB x with
      | false =>
        have HM := Lib.hid hm
        clear hm
        go_wp2_with (go_at_call 20; refine (rmay_any _ _).mono ?_; rw [HM.out]; rintro e w' ⟨rfl, rfl⟩)
        go_ret2
        have h2 := HD.out (sum_stop (k := k + 1) (by rw [HT.out, sum_next HS.out, HM.out]; rfl))
        exact ⟨pair_int_bool ⟨h2.1.symm, h2.2.symm⟩, rfl⟩
      | true =>
        have HM := Lib.hid hm
        have hb := mayB_iff.1 hm
        obtain ⟨hb0, hb1⟩ := hb
        clear hm hx
        by_cases hneg : x < 0
        all_goals
          go_wp2_with (go_at_call 20; refine (rmay_any _ _).mono ?_; rw [HM.out]; rintro e w' ⟨rfl, rfl⟩)
          · go_ret2
            have h2 := HD.out (sum_stop (k := k + 1) (by rw [HT.out, sum_next HS.out, if_neg]; rw [HM.out, Bool.true_and, decide_eq_true_eq]; omega))
            exact ⟨pair_int_bool ⟨h2.1.symm, h2.2.symm⟩, rfl⟩
          · go_round
            case rel =>
              refine ⟨k + 1, s + (x.natAbs + 1), by omega, by go_num, ?_, ?_⟩
              · congr 1; omega
              · rw [HT.out, sum_next HS.out, if_pos (by rw [HM.out, Bool.true_and, decide_eq_true_eq]; omega)]; congr 1; omega
            case measure => simp [intOf]; omega
    · go_wp2_with fail
      go_ret2
      have h2 := HF.out s (by rw [List.take_of_length_le (by omega)] at HS; exact HS.out)
      exact ⟨pair_int_bool ⟨h2.1.symm, h2.2.symm⟩, rfl⟩

set_option maxHeartbeats 400000 in
theorem rsum_empty (A : Option Addr) (most : Int) (cap : Nat) (w : World) :
    Calls Tryd.prog 19 #[.slice A 0 cap, .int .i64 most] w fun e w' => e = .returned (.tuple #[.int .i64 (sumV [] most), .bool (sumB [] most)]) ∧ w = w' := by
  go_enter Tryd.func19, Tryd.ntmps19
  go_wp2_with fail
  go_loop [6, 7] (fun t i => i = .int .i64 0 ∧ t = .int .i64 0) (fun _ _ => 0)
  case atStart => exact ⟨rfl, rfl⟩
  case round =>
    obtain ⟨rfl, rfl⟩ := hrel
    go_wp2_with fail
    go_ret2
    exact ⟨pair_int_bool ⟨rfl, rfl⟩, rfl⟩

theorem rsum_all (zs : List Int) (most : Int) (hz : ∀ x ∈ zs, I64 x) (hl : zs.length ≤ 140737488351232) (A : Option Addr) (cap : Nat) (w : World) (hc : Cells w A (zs.map (Value.int .i64))) :
    Calls Tryd.prog 19 #[.slice A zs.length cap, .int .i64 most] w fun e w' => e = .returned (.tuple #[.int .i64 (sumV zs most), .bool (sumB zs most)]) ∧ w = w' := by
  rcases hc with h0 | ⟨b, o, rfl, _, hc⟩
  · have h1 : zs = [] := List.map_eq_nil_iff.1 h0
    subst h1; exact rsum_empty A most cap w
  · exact rsum_any zs most hz hl b o cap w (fun j hj => hc j _ (by rw [List.getElem?_map, List.getD_eq_getElem?_getD, List.getElem?_eq_getElem hj]; rfl))

theorem putAll_over (l : List UInt8) : ∀ p : Int × Bool, p.2 = true → (putAll p l).2 = true := by
  induction l with
  | nil => intro p h; exact h
  | cons c l ih =>
    intro p h
    have e : putAll p (c :: l) = putAll (putN p ((c.toNat : Int) % 16)) l := rfl
    rw [e]; apply ih; unfold putN; split <;> simp [h]
theorem put_stop {s : ByteArray} {k : Nat} {n : Int} (hk : k < s.data.size) (h : putAll (0, false) (s.data.toList.take k) = (n, false)) (hd : isDig s.data[k] = true) (hn : (4611686018427387904 - ((s.data[k].toNat : Int) - 48)) / 10 < n) (hN : isNum s.data.toList = true) :
    parseV s.data.toList = 0 ∧ parseE s.data.toList = 10 := by
  have hc : 48 ≤ (s.data[k].toNat : Int) ∧ (s.data[k].toNat : Int) ≤ 57 := by simpa [isDig] using hd
  refine parse_over hN ?_
  have e1 := putAll_snoc (0, false) (s.data.toList.take k) s.data[k]
  rw [← take_next hk, h] at e1
  have e2 : putN (n, false) ((s.data[k].toNat : Int) % 16) = (n, true) := by
    unfold putN; rw [if_pos]; show _ < n
    rw [show (s.data[k].toNat : Int) % 16 = (s.data[k].toNat : Int) - 48 by omega]; exact hn
  rw [e2] at e1
  have e3 : putAll (0, false) s.data.toList = putAll (putAll (0, false) (s.data.toList.take (k + 1))) (s.data.toList.drop (k + 1)) := by
    unfold putAll; rw [← List.foldl_append, List.take_append_drop]
  rw [e3, e1]
  exact putAll_over _ _ rfl
theorem put_go {s : ByteArray} {k : Nat} {n : Int} (hk : k < s.data.size) (h : putAll (0, false) (s.data.toList.take k) = (n, false)) (hd : isDig s.data[k] = true) (hn : ¬ (4611686018427387904 - ((s.data[k].toNat : Int) - 48)) / 10 < n) :
    putAll (0, false) (s.data.toList.take (k + 1)) = (n * 10 + ((s.data[k].toNat : Int) - 48), false) := by
  have hc : 48 ≤ (s.data[k].toNat : Int) ∧ (s.data[k].toNat : Int) ≤ 57 := by simpa [isDig] using hd
  have e1 := putAll_snoc (0, false) (s.data.toList.take k) s.data[k]
  rw [← take_next hk, h] at e1
  rw [e1]
  unfold putN
  rw [show (s.data[k].toNat : Int) % 16 = (s.data[k].toNat : Int) - 48 by omega, if_neg hn]

set_option maxHeartbeats 1600000 in
theorem rparse_loop (s : ByteArray) (hs : s.size ≤ 140737488351232) (w : World) (hne : s.toList.isEmpty = false) (hz : 1 < s.size → ∀ h : 0 < s.size, (((s[0]'h).toNat : Int) == 48) = false) :
    Calls Tryd.prog 17 #[.string s] w fun e w' => e = .returned (.tuple #[.int .i64 (parseV s.data.toList), .int .i64 (parseE s.data.toList)]) ∧ w = w' := by
  have hsz := size_pos_of hne
  have HN := Lib.hid (isNum_of hne hz)
  by_cases h1 : 1 < s.size
  all_goals (first | replace hz := hz h1 | clear hz)
  all_goals
    go_enter Tryd.func17, Tryd.ntmps17
    go_wp2_with fail
  all_goals
    go_loop [4] (fun i => ∃ k : Nat, k ≤ s.size ∧ i = .int .i64 k ∧ (s.data.toList.take k).all isDig = true) (fun i => s.size - (intOf i).toNat)
    case atStart => exact ⟨0, Nat.zero_le _, rfl, rfl⟩
    case round =>
      obtain ⟨k, hk, rfl, hp⟩ := hrel
      have HP := Lib.hid hp
      clear hp
      by_cases hlt : k < s.size
      · have HB := Lib.hid (fun hd => parse_bad (s := s) (k := k) hlt hd HN.out)
        have HT := Lib.hid (take_next (s := s) (k := k) hlt)
        by_cases h2 : isDig s.data[k] = true
        · have hc := isDig_iff.1 (show isDig (s[k]'hlt) = true from h2)
          obtain ⟨hc0, hc1⟩ := hc
          have H2 := Lib.hid h2
          clear h2
          go_wp2_with fail
          go_round
          case rel => exact ⟨k + 1, by omega, by go_num, by rw [HT.out, List.all_append, HP.out]; simp [H2.out]⟩
          case measure => simp [intOf]; omega
        · have hc := isDig_no.1 (show isDig (s[k]'hlt) = false from Bool.eq_false_iff.2 h2)
          have H2 := Lib.hid h2
          clear h2
          by_cases hc0 : (s[k].toNat : Int) < 48
          all_goals
            go_wp2_with fail
            go_ret2
            have h2 := HB.out (by simpa using H2.out)
            exact ⟨pair_int ⟨h2.1.symm, h2.2.symm⟩, rfl⟩
      · have he := parse_end hlt HP.out HN.out
        have HD := Lib.hid he.2
        have HA := Lib.hid (show ∀ j (hj : j < s.data.size), isDig s.data[j] = true from fun j hj => by
          have := HN.out.symm.trans he.2
          rw [List.all_eq_true] at this
          exact this _ (by simp))
        clear he
        go_wp2_with fail
        go_loop [5, 6] (fun t i => ∃ (j : Nat) (n : Int), j ≤ s.size ∧ i = .int .i64 j ∧ t = .int .i64 n ∧ putAll (0, false) (s.data.toList.take j) = (n, false)) (fun _ i => s.size - (intOf i).toNat)
        case atStart => exact ⟨0, 0, Nat.zero_le _, rfl, rfl, rfl⟩
        case round =>
          obtain ⟨j, n, hj, rfl, rfl, hr⟩ := hrel
          have hle := putAll_le (s.data.toList.take j) (by
            rw [List.all_eq_true]; intro x hx
            have := HN.out.symm.trans HD.out
            rw [List.all_eq_true] at this
            exact this x (List.mem_of_mem_take hx))
          rw [hr] at hle
          obtain ⟨hle0, hle1⟩ := hle
          have HR := Lib.hid hr
          clear hr
          by_cases hjt : j < s.size
          · have H2 := Lib.hid (HA.out j hjt)
            have hc := isDig_iff.1 (show isDig (s[j]'hjt) = true from HA.out j hjt)
            obtain ⟨hc0, hc1⟩ := hc
            have HS := Lib.hid (fun hn => put_stop hjt HR.out H2.out hn HD.out)
            have HG := Lib.hid (fun hn => put_go hjt HR.out H2.out hn)
            go_wp2_with fail
            · go_ret2
              have h2 := HS.out ‹_›
              exact ⟨pair_int ⟨h2.1.symm, h2.2.symm⟩, rfl⟩
            · go_round
              case rel => exact ⟨j + 1, _, by omega, by go_num, rfl, HG.out (Int.not_lt.2 (show n ≤ (4611686018427387904 - (((s[j]'hjt).toNat : Int) - 48)) / 10 by omega))⟩
              case measure => simp [intOf]; omega
          · have HF := Lib.hid (parse_fits HD.out)
            have HE := Lib.hid (show n = (putAll (0, false) s.data.toList).1 ∧ (putAll (0, false) s.data.toList).2 = false by
              have e : s.data.toList.take j = s.data.toList := List.take_of_length_le (by rw [Array.length_toList]; exact Nat.le_of_not_lt hjt)
              have := HR.out; rw [e] at this; rw [this]; exact ⟨rfl, rfl⟩)
            go_wp2_with fail
            go_ret2
            have h2 := HF.out HE.out.2
            exact ⟨pair_int ⟨by rw [h2.1]; exact HE.out.1, h2.2.symm⟩, rfl⟩

set_option maxHeartbeats 800000 in
theorem rparse_any (s : ByteArray) (hs : s.size ≤ 140737488351232) (w : World) :
    Calls Tryd.prog 17 #[.string s] w fun e w' => e = .returned (.tuple #[.int .i64 (parseV s.data.toList), .int .i64 (parseE s.data.toList)]) ∧ w = w' := by
  by_cases h0 : s.toList = []
  · have HX := Lib.hid (parse_none (Or.inl h0))
    go_enter Tryd.func17, Tryd.ntmps17
    go_wp2_with fail
    have hx := HX.out
    go_ret2
    exact ⟨pair_int ⟨hx.1.symm, hx.2.symm⟩, rfl⟩
  · have hne : s.toList.isEmpty = false := by cases h : s.toList <;> simp_all
    by_cases h1 : 1 < s.size
    · have hsz := size_pos_of hne
      cases hc : (((s[0]'hsz).toNat : Int) == 48) with
      | true =>
        have HX := Lib.hid (parse_none (Or.inr ⟨h1, hsz, hc⟩))
        go_enter Tryd.func17, Tryd.ntmps17
        go_wp2_with fail
        have hx := HX.out
        go_ret2
        exact ⟨pair_int ⟨hx.1.symm, hx.2.symm⟩, rfl⟩
      | false => exact rparse_loop s hs w hne (fun _ _ => hc)
    · exact rparse_loop s hs w hne (fun h => absurd h h1)
end Go.Proofs.YtdgbgchcomikoaaDoor
