/- The walk of the law NumBack: it answers true whatever the number and the text. -/
import Derived.Test.YtdgbgchcomikoaaDoorNumLaw
import Derived.Test.YtdgbgchcomikoaaDoorNumLaws
namespace Go.Proofs.YtdgbgchcomikoaaDoor
open Go.RowKit

theorem size_text (n : Int) (hn : I64 n) : (ByteArray.mk (textL n).toArray).size ≤ 140737488351232 := by
  show (textL n).toArray.size ≤ _
  rw [List.size_toArray]
  unfold I64 at hn
  unfold textL
  split
  · rename_i hm
    have hb := mayB_iff.1 hm
    have h1 := Lib.itoa_length_le n (by omega) (by omega)
    have h2 := Lib.itoa_length_le (-n) (by omega) (by omega)
    split
    · simp only [List.length_append, List.length_cons, List.length_nil]; omega
    · omega
  · simp
theorem str_eq {s : ByteArray} {l : List UInt8} (h : l = s.data.toList) : ByteArray.mk l.toArray = s := by
  subst h; rfl

set_option maxHeartbeats 400000 in
theorem numBack_long (a : Int) (s : ByteArray) (hs : 300 < s.size) (hm : s.size ≤ 9223372036854775807) (w : World) (ht : TabOk w) :
    Calls Tryd.prog 3 #[.int .i64 a, .string s] w fun e w' => e = .returned (.bool true) ∧ Below w.heap.size w w' := by
  have T_w := Lib.hid ht
  clear ht
  have B_w := Lib.hid (Below.refl w.heap.size w)
  go_enter Tryd.func3, Tryd.ntmps3
  go_wp2_with fail
  refine (wakes01 w T_w.out).mono ?_
  rintro e w1 ⟨rfl, hb_w1⟩
  have T_w1 := Lib.hid (T_w.out.on hb_w1)
  have B_w1 := Lib.hid (B_w.out.trans (hb_w1.mono B_w.out.size))
  clear hb_w1
  go_wp2_with fail
  go_ret
  exact ⟨rfl, B_w1.out⟩

/-- the second half of the law, by what the text is: what Parse and Text then answer -/
def BackOk (s : ByteArray) (n f : Int) (u : ByteArray) (g : Int) : Prop := (f = 20 ∨ f = 10) ∨ (f = 0 ∧ u = s ∧ g = 0 ∧ 0 ≤ n)
theorem back_cases (s : ByteArray) : BackOk s (parseV s.data.toList) (parseE s.data.toList) ⟨(textL (parseV s.data.toList)).toArray⟩ (textE (parseV s.data.toList)) := by
  rcases parse_split s.data.toList with h | h | h
  · exact .inl (.inl h.1)
  · exact .inl (.inr h.1)
  · have := text_of_parse h.1
    exact .inr ⟨h.1, str_eq this.2.2, this.2.1, this.1⟩

set_option maxHeartbeats 1600000 in
theorem numBack_walk (a : Int) (s : ByteArray) (ha : I64 a) (hs : s.size ≤ 300) (w : World) (ht : TabOk w) :
    Calls Tryd.prog 3 #[.int .i64 a, .string s] w fun e w' => e = .returned (.bool true) ∧ Below w.heap.size w w' := by
  have T_w := Lib.hid ht
  clear ht
  have B_w := Lib.hid (Below.refl w.heap.size w)
  have H1 := Lib.hid (fun W hW => text_any a ha W hW)
  have H2 := Lib.hid (fun W => parse_any (ByteArray.mk (textL a).toArray) (size_text a ha) W)
  have h3 := (fun W => parse_any s (by omega) W)
  have h4 := (fun W hW => text_any (parseV s.data.toList) (parseV_I64 _) W hW)
  have hc := back_cases s
  have HM := Lib.hid (fun W => may_any a ha W)
  generalize parseV s.data.toList = n at *
  generalize parseE s.data.toList = f at *
  generalize (⟨(textL n).toArray⟩ : ByteArray) = u at *
  generalize textE n = g at *
  have HP := Lib.hid (fun hm h0 => parse_of_text (a := a) hm h0)
  cases hm : mayB a with
  | false =>
    have ht := text_no hm
    rw [ht.1, ht.2] at H1
    rw [hm] at HM
    clear ht hm ha HP
    rcases hc with (rfl | rfl) | ⟨rfl, rfl, rfl, hn⟩
    all_goals
      have H3 := Lib.hid h3
      have H4 := Lib.hid h4
      clear h3 h4
      go_enter Tryd.func3, Tryd.ntmps3
      go_wp2_with fail
      refine (H1.out w T_w.out).mono ?_
      rintro e w1 ⟨rfl, hb_w1⟩
      have T_w1 := Lib.hid (T_w.out.on hb_w1)
      have B_w1 := Lib.hid (B_w.out.trans (hb_w1.mono B_w.out.size))
      clear hb_w1
      go_wp2_with fail
      refine (HM.out _).mono ?_
      rintro e w' ⟨rfl, rfl⟩
      go_wp2_with fail
      refine (H3.out w1).mono ?_
      rintro e w2 ⟨rfl, hb_w2⟩
      have T_w2 := Lib.hid (T_w1.out.on hb_w2)
      have B_w2 := Lib.hid (B_w1.out.trans (hb_w2.mono B_w1.out.size))
      clear hb_w2
      go_wp2_with fail
      refine (H4.out w2 T_w2.out).mono ?_
      rintro e w3 ⟨rfl, hb_w3⟩
      have T_w3 := Lib.hid (T_w2.out.on hb_w3)
      have B_w3 := Lib.hid (B_w2.out.trans (hb_w3.mono B_w2.out.size))
      clear hb_w3
      go_wp2_with fail
      refine (wakes01 w3 T_w3.out).mono ?_
      rintro e w4 ⟨rfl, hb_w4⟩
      have T_w4 := Lib.hid (T_w3.out.on hb_w4)
      have B_w4 := Lib.hid (B_w3.out.trans (hb_w4.mono B_w3.out.size))
      clear hb_w4
      go_wp2_with fail
      go_ret
      exact ⟨rfl, B_w4.out⟩
  | true =>
    rw [hm] at HM
    have hte : textE a = 0 := by simp [textE, hm]
    rw [hte] at H1
    by_cases h0 : a < 0
    · clear hte hm ha HP
      rcases hc with (rfl | rfl) | ⟨rfl, rfl, rfl, hn⟩
      all_goals
        have H3 := Lib.hid h3
        have H4 := Lib.hid h4
        clear h3 h4
        go_enter Tryd.func3, Tryd.ntmps3
        go_wp2_with fail
        refine (H1.out w T_w.out).mono ?_
        rintro e w1 ⟨rfl, hb_w1⟩
        have T_w1 := Lib.hid (T_w.out.on hb_w1)
        have B_w1 := Lib.hid (B_w.out.trans (hb_w1.mono B_w.out.size))
        clear hb_w1
        go_wp2_with fail
        refine (HM.out _).mono ?_
        rintro e w' ⟨rfl, rfl⟩
        go_wp2_with fail
        refine (H3.out w1).mono ?_
        rintro e w2 ⟨rfl, hb_w2⟩
        have T_w2 := Lib.hid (T_w1.out.on hb_w2)
        have B_w2 := Lib.hid (B_w1.out.trans (hb_w2.mono B_w1.out.size))
        clear hb_w2
        go_wp2_with fail
        refine (H4.out w2 T_w2.out).mono ?_
        rintro e w3 ⟨rfl, hb_w3⟩
        have T_w3 := Lib.hid (T_w2.out.on hb_w3)
        have B_w3 := Lib.hid (B_w2.out.trans (hb_w3.mono B_w2.out.size))
        clear hb_w3
        go_wp2_with fail
        refine (wakes01 w3 T_w3.out).mono ?_
        rintro e w4 ⟨rfl, hb_w4⟩
        have T_w4 := Lib.hid (T_w3.out.on hb_w4)
        have B_w4 := Lib.hid (B_w3.out.trans (hb_w4.mono B_w3.out.size))
        clear hb_w4
        go_wp2_with fail
        go_ret
        exact ⟨rfl, B_w4.out⟩
    · have hp := HP.out hm (by omega)
      have e2 : (ByteArray.mk (textL a).toArray).data.toList = textL a := rfl
      rw [e2, hp.1, hp.2] at H2
      have h0' : 0 ≤ a := by omega
      clear hte hm ha HP hp e2 h0
      rcases hc with (rfl | rfl) | ⟨rfl, rfl, rfl, hn⟩
      all_goals
        have H3 := Lib.hid h3
        have H4 := Lib.hid h4
        clear h3 h4
        go_enter Tryd.func3, Tryd.ntmps3
        go_wp2_with fail
        refine (H1.out w T_w.out).mono ?_
        rintro e w1 ⟨rfl, hb_w1⟩
        have T_w1 := Lib.hid (T_w.out.on hb_w1)
        have B_w1 := Lib.hid (B_w.out.trans (hb_w1.mono B_w.out.size))
        clear hb_w1
        go_wp2_with fail
        refine (HM.out _).mono ?_
        rintro e w' ⟨rfl, rfl⟩
        go_wp2_with fail
        refine (H2.out w1).mono ?_
        rintro e w5 ⟨rfl, hb_w5⟩
        have T_w5 := Lib.hid (T_w1.out.on hb_w5)
        have B_w5 := Lib.hid (B_w1.out.trans (hb_w5.mono B_w1.out.size))
        clear hb_w5
        go_wp2_with fail
        refine (H3.out w5).mono ?_
        rintro e w2 ⟨rfl, hb_w2⟩
        have T_w2 := Lib.hid (T_w5.out.on hb_w2)
        have B_w2 := Lib.hid (B_w5.out.trans (hb_w2.mono B_w5.out.size))
        clear hb_w2
        go_wp2_with fail
        refine (H4.out w2 T_w2.out).mono ?_
        rintro e w3 ⟨rfl, hb_w3⟩
        have T_w3 := Lib.hid (T_w2.out.on hb_w3)
        have B_w3 := Lib.hid (B_w2.out.trans (hb_w3.mono B_w2.out.size))
        clear hb_w3
        go_wp2_with fail
        refine (wakes01 w3 T_w3.out).mono ?_
        rintro e w4 ⟨rfl, hb_w4⟩
        have T_w4 := Lib.hid (T_w3.out.on hb_w4)
        have B_w4 := Lib.hid (B_w3.out.trans (hb_w4.mono B_w3.out.size))
        clear hb_w4
        go_wp2_with fail
        go_ret
        exact ⟨rfl, B_w4.out⟩

/-- the law, at whatever number and text -/
theorem numBack_all (a : Int) (s : ByteArray) (ha : I64 a) (hs : s.size ≤ 9223372036854775807) (w : World) (ht : TabOk w) :
    Calls Tryd.prog 3 #[.int .i64 a, .string s] w fun e w' => e = .returned (.bool true) ∧ Below w.heap.size w w' := by
  by_cases h : s.size ≤ 300
  · exact numBack_walk a s ha h w ht
  · exact numBack_long a s (by omega) hs w ht
end Go.Proofs.YtdgbgchcomikoaaDoor
