/- The walk of the law NumLonger: it answers true whatever the two texts. -/
import Derived.Test.YtdgbgchcomikoaaDoorNumBack
namespace Go.Proofs.YtdgbgchcomikoaaDoor
open Go.RowKit

set_option maxHeartbeats 400000 in
theorem numLonger_long (s t : ByteArray) (hl : ¬ (s.size ≤ 300 ∧ t.size ≤ 300)) (hs : s.size ≤ 9223372036854775807) (hm : t.size ≤ 9223372036854775807) (w : World) (ht : TabOk w) :
    Calls Tryd.prog 5 #[.string s, .string t] w fun e w' => e = .returned (.bool true) ∧ Below w.heap.size w w' := by
  have T_w := Lib.hid ht
  clear ht
  have B_w := Lib.hid (Below.refl w.heap.size w)
  by_cases h1 : 300 < s.size
  all_goals
    go_enter Tryd.func5, Tryd.ntmps5
    go_wp2_with fail
    refine (wakes01 w T_w.out).mono ?_
    rintro e w1 ⟨rfl, hb_w1⟩
    have T_w1 := Lib.hid (T_w.out.on hb_w1)
    have B_w1 := Lib.hid (B_w.out.trans (hb_w1.mono B_w.out.size))
    clear hb_w1
    go_wp2_with fail
    go_ret
    exact ⟨rfl, B_w1.out⟩

/-- what the two numerals say of the two numbers, in the tests' own words -/
theorem longer_tests {s t : ByteArray} (hs : parseE s.data.toList = 0) (ht : parseE t.data.toList = 0) :
    (decide (parseV s.data.toList < parseV t.data.toList) = (decide ((s.size : Int) < (t.size : Int)) || (((s.size : Int) == (t.size : Int)) && Op.bytesLess s.toList t.toList))) ∧
    (parseV s.data.toList == parseV t.data.toList) = (s.toList == t.toList) := by
  obtain ⟨a0, _, a1⟩ := text_of_parse hs
  obtain ⟨b0, _, b1⟩ := text_of_parse ht
  have h1 := parse_split s.data.toList
  have h2 := parse_split t.data.toList
  obtain ⟨_, _, _, na, da⟩ : _ ∧ _ ∧ _ ∧ _ ∧ _ := by rcases h1 with h | h | h; exact absurd (h.1.symm.trans hs) (by decide); exact absurd (h.1.symm.trans hs) (by decide); exact h
  obtain ⟨_, _, _, nb, db⟩ : _ ∧ _ ∧ _ ∧ _ ∧ _ := by rcases h2 with h | h | h; exact absurd (h.1.symm.trans ht) (by decide); exact absurd (h.1.symm.trans ht) (by decide); exact h
  have hl := longer_less (parseV s.data.toList).toNat (parseV t.data.toList).toNat (by omega) (by omega)
  rw [da, db] at hl
  rw [ByteArray.toList_eq, ByteArray.toList_eq]
  have es : s.data.toList.length = s.size := by rw [Array.length_toList]; rfl
  have et : t.data.toList.length = t.size := by rw [Array.length_toList]; rfl
  rw [es, et] at hl
  generalize parseV s.data.toList = a at *
  generalize parseV t.data.toList = b at *
  refine ⟨?_, ?_⟩
  · rw [show decide (a < b) = decide (a.toNat < b.toNat) by rw [Bool.eq_iff_iff, decide_eq_true_iff, decide_eq_true_iff]; omega, ← hl]
    congr 1
    · rw [Bool.eq_iff_iff, decide_eq_true_iff, decide_eq_true_iff]; omega
    · congr 1
      rw [Bool.eq_iff_iff, decide_eq_true_iff, beq_iff_eq]; omega
  · rw [Bool.eq_iff_iff, beq_iff_eq, beq_iff_eq]
    constructor
    · intro h; rw [← da, ← db, h]
    · intro h; rw [← da, ← db] at h
      have := congrArg val h
      rw [val_digits, val_digits] at this; omega

/-- every way that the comparison may go, in the tests' own words -/
def Longer (s t : ByteArray) (a b : Int) : Prop :=
  (s.size < t.size ∧ a < b ∧ (a == b) = false ∧ (s.toList == t.toList) = false) ∨
  (t.size < s.size ∧ b ≤ a ∧ (a == b) = false ∧ (s.toList == t.toList) = false) ∨
  (s.size = t.size ∧ Op.bytesLess s.toList t.toList = true ∧ a < b ∧ (a == b) = false ∧ (s.toList == t.toList) = false) ∨
  (s.size = t.size ∧ Op.bytesLess s.toList t.toList = false ∧ b ≤ a ∧ (a == b) = false ∧ (s.toList == t.toList) = false) ∨
  (s.size = t.size ∧ Op.bytesLess s.toList t.toList = false ∧ b ≤ a ∧ (a == b) = true ∧ (s.toList == t.toList) = true)
theorem longer_ways {s t : ByteArray} {a b : Int} (h1 : decide (a < b) = (decide ((s.size : Int) < (t.size : Int)) || (((s.size : Int) == (t.size : Int)) && Op.bytesLess s.toList t.toList))) (h2 : (a == b) = (s.toList == t.toList)) : Longer s t a b := by
  unfold Longer
  rw [← h2]
  have hsz : (a == b) = true → s.size = t.size := fun h => by
    rw [h2, beq_iff_eq, ByteArray.toList_eq, ByteArray.toList_eq] at h
    have := congrArg List.length h
    rw [Array.length_toList, Array.length_toList] at this; exact this
  rcases Nat.lt_trichotomy s.size t.size with hc | hc | hc
  · left
    rw [decide_eq_true (by omega : (s.size : Int) < (t.size : Int)), Bool.true_or, decide_eq_true_iff] at h1
    refine ⟨hc, h1, ?_⟩
    have : (a == b) = false := by rw [beq_eq_false_iff_ne]; omega
    exact ⟨this, this⟩
  · right; right
    rw [decide_eq_false (by omega : ¬ (s.size : Int) < (t.size : Int)), Bool.false_or, beq_iff_eq.2 (by omega : (s.size : Int) = (t.size : Int)), Bool.true_and] at h1
    rw [← h1]
    by_cases hab : a < b
    · left
      have : (a == b) = false := by rw [beq_eq_false_iff_ne]; omega
      exact ⟨hc, decide_eq_true hab, hab, this, this⟩
    · right
      by_cases he : a = b
      · right; have : (a == b) = true := beq_iff_eq.2 he
        exact ⟨hc, decide_eq_false hab, by omega, this, this⟩
      · left; have : (a == b) = false := beq_eq_false_iff_ne.2 he
        exact ⟨hc, decide_eq_false hab, by omega, this, this⟩
  · right; left
    rw [decide_eq_false (by omega : ¬ (s.size : Int) < (t.size : Int)), Bool.false_or, beq_eq_false_iff_ne.2 (by omega : (s.size : Int) ≠ (t.size : Int)), Bool.false_and, decide_eq_false_iff_not] at h1
    have : (a == b) = false := by
      rw [Bool.eq_false_iff]; intro h; have := hsz h; omega
    exact ⟨hc, by omega, this, this⟩

set_option maxHeartbeats 3200000 in
theorem numLonger_walk (s t : ByteArray) (hs : s.size ≤ 300) (ht : t.size ≤ 300) (w : World) (hT : TabOk w) :
    Calls Tryd.prog 5 #[.string s, .string t] w fun e w' => e = .returned (.bool true) ∧ Below w.heap.size w w' := by
  have T_w := Lib.hid hT
  clear hT
  have B_w := Lib.hid (Below.refl w.heap.size w)
  have h1 := (fun W => parse_any s (by omega) W)
  have h2 := (fun W => parse_any t (by omega) W)
  have HL := Lib.hid (fun a b => longer_ways (longer_tests (s := s) (t := t) a b).1 (longer_tests (s := s) (t := t) a b).2)
  generalize parseV s.data.toList = a at *
  generalize parseV t.data.toList = b at *
  generalize parseE s.data.toList = e at *
  generalize parseE t.data.toList = f at *
  by_cases he : e = 0
  · subst he
    by_cases hf : f = 0
    · subst hf
      have hl := HL.out rfl rfl
      rcases hl with ⟨c1, c2, c3, c4⟩ | ⟨c1, c2, c3, c4⟩ | ⟨c1, c5, c2, c3, c4⟩ | ⟨c1, c5, c2, c3, c4⟩ | ⟨c1, c5, c2, c3, c4⟩
      all_goals
        have H1 := Lib.hid h1
        have H2 := Lib.hid h2
        clear h1 h2 HL
        go_enter Tryd.func5, Tryd.ntmps5
        go_wp2_with fail
        refine (H1.out w).mono ?_
        rintro e w1 ⟨rfl, hb_w1⟩
        have T_w1 := Lib.hid (T_w.out.on hb_w1)
        have B_w1 := Lib.hid (B_w.out.trans (hb_w1.mono B_w.out.size))
        clear hb_w1
        go_wp2_with fail
        refine (H2.out w1).mono ?_
        rintro e w2 ⟨rfl, hb_w2⟩
        have T_w2 := Lib.hid (T_w1.out.on hb_w2)
        have B_w2 := Lib.hid (B_w1.out.trans (hb_w2.mono B_w1.out.size))
        clear hb_w2
        go_wp2_with fail
        refine (wakes01 w2 T_w2.out).mono ?_
        rintro e w3 ⟨rfl, hb_w3⟩
        have T_w3 := Lib.hid (T_w2.out.on hb_w3)
        have B_w3 := Lib.hid (B_w2.out.trans (hb_w3.mono B_w2.out.size))
        clear hb_w3
        go_wp2_with fail
        go_ret
        exact ⟨by first | rfl | exact ret_bool (by simp; omega), B_w3.out⟩
    · have hf' : (f == 0) = false := beq_eq_false_iff_ne.2 hf
      have H1 := Lib.hid h1
      have H2 := Lib.hid h2
      clear h1 h2 HL
      go_enter Tryd.func5, Tryd.ntmps5
      go_wp2_with fail
      refine (H1.out w).mono ?_
      rintro e w1 ⟨rfl, hb_w1⟩
      have T_w1 := Lib.hid (T_w.out.on hb_w1)
      have B_w1 := Lib.hid (B_w.out.trans (hb_w1.mono B_w.out.size))
      clear hb_w1
      go_wp2_with fail
      refine (H2.out w1).mono ?_
      rintro e w2 ⟨rfl, hb_w2⟩
      have T_w2 := Lib.hid (T_w1.out.on hb_w2)
      have B_w2 := Lib.hid (B_w1.out.trans (hb_w2.mono B_w1.out.size))
      clear hb_w2
      go_wp2_with fail
      refine (wakes01 w2 T_w2.out).mono ?_
      rintro e w3 ⟨rfl, hb_w3⟩
      have T_w3 := Lib.hid (T_w2.out.on hb_w3)
      have B_w3 := Lib.hid (B_w2.out.trans (hb_w3.mono B_w2.out.size))
      clear hb_w3
      go_wp2_with fail
      go_ret
      exact ⟨rfl, B_w3.out⟩
  · have he' : (e == 0) = false := beq_eq_false_iff_ne.2 he
    have H1 := Lib.hid h1
    have H2 := Lib.hid h2
    clear h1 h2 HL
    go_enter Tryd.func5, Tryd.ntmps5
    go_wp2_with fail
    refine (H1.out w).mono ?_
    rintro e w1 ⟨rfl, hb_w1⟩
    have T_w1 := Lib.hid (T_w.out.on hb_w1)
    have B_w1 := Lib.hid (B_w.out.trans (hb_w1.mono B_w.out.size))
    clear hb_w1
    go_wp2_with fail
    refine (H2.out w1).mono ?_
    rintro e w2 ⟨rfl, hb_w2⟩
    have T_w2 := Lib.hid (T_w1.out.on hb_w2)
    have B_w2 := Lib.hid (B_w1.out.trans (hb_w2.mono B_w1.out.size))
    clear hb_w2
    go_wp2_with fail
    refine (wakes01 w2 T_w2.out).mono ?_
    rintro e w3 ⟨rfl, hb_w3⟩
    have T_w3 := Lib.hid (T_w2.out.on hb_w3)
    have B_w3 := Lib.hid (B_w2.out.trans (hb_w3.mono B_w2.out.size))
    clear hb_w3
    go_wp2_with fail
    go_ret
    exact ⟨rfl, B_w3.out⟩

theorem numLonger_all (s t : ByteArray) (hs : s.size ≤ 9223372036854775807) (ht : t.size ≤ 9223372036854775807) (w : World) (hT : TabOk w) :
    Calls Tryd.prog 5 #[.string s, .string t] w fun e w' => e = .returned (.bool true) ∧ Below w.heap.size w w' := by
  by_cases h : s.size ≤ 300 ∧ t.size ≤ 300
  · exact numLonger_walk s t h.1 h.2 w hT
  · exact numLonger_long s t h hs ht w hT
end Go.Proofs.YtdgbgchcomikoaaDoor
