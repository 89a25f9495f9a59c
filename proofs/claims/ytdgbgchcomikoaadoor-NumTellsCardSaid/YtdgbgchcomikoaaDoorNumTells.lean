/- The walk of the law NumTells: it answers true whatever the numbers and the text. -/
import Derived.Test.YtdgbgchcomikoaaDoorNumBack
namespace Go.Proofs.YtdgbgchcomikoaaDoor
open Go.RowKit

set_option maxHeartbeats 400000 in
theorem numTells_long (a b : Int) (s : ByteArray) (n : Nat) (A : Option Addr) (cap : Nat) (most : Int) (hl : ¬ (s.size ≤ 300 ∧ n ≤ 200)) (hs : s.size ≤ 9223372036854775807) (hm : n ≤ 9223372036854775807) (w : World) (ht : TabOk w) :
    Calls Tryd.prog 6 #[.int .i64 a, .int .i64 b, .string s, .slice A n cap, .int .i64 most] w fun e w' => e = .returned (.bool true) ∧ Below w.heap.size w w' := by
  have T_w := Lib.hid ht
  clear ht
  have B_w := Lib.hid (Below.refl w.heap.size w)
  by_cases h1 : 300 < s.size
  all_goals
    go_enter Tryd.func6, Tryd.ntmps6
    go_wp2_with fail
    refine (wakes01 w T_w.out).mono ?_
    rintro e w1 ⟨rfl, hb_w1⟩
    have T_w1 := Lib.hid (T_w.out.on hb_w1)
    have B_w1 := Lib.hid (B_w.out.trans (hb_w1.mono B_w.out.size))
    clear hb_w1
    go_wp2_with fail
    go_ret
    exact ⟨rfl, B_w1.out⟩

set_option maxRecDepth 100000 in
set_option maxHeartbeats 3200000 in
theorem numTells_walk (a b : Int) (ha : I64 a) (hb : I64 b) (s : ByteArray) (hs : s.size ≤ 300) (zs : List Int) (A : Option Addr) (cap : Nat) (most : Int) (hz : ∀ x ∈ zs, I64 x) (hl : zs.length ≤ 200) (w : World) (ht : TabOk w)
    (hc : Cells w A (zs.map (Value.int .i64))) :
    Calls Tryd.prog 6 #[.int .i64 a, .int .i64 b, .string s, .slice A zs.length cap, .int .i64 most] w fun e w' => e = .returned (.bool true) ∧ Below w.heap.size w w' := by
  have T_w := Lib.hid ht
  have C_w := Lib.hid hc
  clear ht hc
  have B_w := Lib.hid (Below.refl w.heap.size w)
  have h1 := fun W => add_any a b ha hb W
  have h2 := fun W => radd_any a b W
  have h3 := fun W => sub_any a b ha hb W
  have h4 := fun W => rsub_any a b W
  have h5 := fun W => parse_any s (by omega) W
  have h6 := fun W => rparse_any s (by omega) W
  have h7 := fun W hW => text_any a ha W hW
  have h8 := fun W => rtext_any a ha W
  have h9 := fun W hW => sum_all zs most hz (by omega) A cap W hW
  have h10 := fun W hW => rsum_all zs most hz (by omega) A cap W hW
  have h11 := fun W => may_any a ha W
  have h12 := fun W => rmay_any a W
  generalize addV a b = x1 at *
  generalize addE a b = x2 at *
  generalize subV a b = x3 at *
  generalize subE a b = x4 at *
  generalize parseV s.data.toList = x5 at *
  generalize parseE s.data.toList = x6 at *
  generalize (⟨(textL a).toArray⟩ : ByteArray) = x7 at *
  generalize textE a = x8 at *
  generalize sumV zs most = x9 at *
  generalize sumB zs most = x10 at *
  generalize mayB a = x11 at *
  have H1 := Lib.hid h1
  have H2 := Lib.hid h2
  have H3 := Lib.hid h3
  have H4 := Lib.hid h4
  have H5 := Lib.hid h5
  have H6 := Lib.hid h6
  have H7 := Lib.hid h7
  have H8 := Lib.hid h8
  have H9 := Lib.hid h9
  have H10 := Lib.hid h10
  have H11 := Lib.hid h11
  have H12 := Lib.hid h12
  clear h1 h2 h3 h4 h5 h6 h7 h8 h9 h10 h11 h12 ha hb hz
  go_enter Tryd.func6, Tryd.ntmps6
  go_wp2_with fail
  refine (H1.out w).mono ?_
  rintro e w1 ⟨rfl, hb_w1⟩
  have T_w1 := Lib.hid (T_w.out.on hb_w1)
  have B_w1 := Lib.hid (B_w.out.trans (hb_w1.mono B_w.out.size))
  clear hb_w1
  go_wp2_with fail
  refine (H2.out _).mono ?_
  rintro e w' ⟨rfl, rfl⟩
  go_wp2_with fail
  refine (H3.out w1).mono ?_
  rintro e w2 ⟨rfl, hb_w2⟩
  have T_w2 := Lib.hid (T_w1.out.on hb_w2)
  have B_w2 := Lib.hid (B_w1.out.trans (hb_w2.mono B_w1.out.size))
  clear hb_w2
  go_wp2_with fail
  refine (H4.out _).mono ?_
  rintro e w' ⟨rfl, rfl⟩
  go_wp2_with fail
  refine (H5.out w2).mono ?_
  rintro e w3 ⟨rfl, hb_w3⟩
  have T_w3 := Lib.hid (T_w2.out.on hb_w3)
  have B_w3 := Lib.hid (B_w2.out.trans (hb_w3.mono B_w2.out.size))
  clear hb_w3
  go_wp2_with fail
  refine (H6.out _).mono ?_
  rintro e w' ⟨rfl, rfl⟩
  go_wp2_with fail
  refine (H7.out w3 T_w3.out).mono ?_
  rintro e w4 ⟨rfl, hb_w4⟩
  have T_w4 := Lib.hid (T_w3.out.on hb_w4)
  have B_w4 := Lib.hid (B_w3.out.trans (hb_w4.mono B_w3.out.size))
  clear hb_w4
  go_wp2_with fail
  refine (H8.out w4).mono ?_
  rintro e w5 ⟨rfl, hb_w5⟩
  have T_w5 := Lib.hid (T_w4.out.on hb_w5)
  have B_w5 := Lib.hid (B_w4.out.trans (hb_w5.mono B_w4.out.size))
  clear hb_w5
  have C_w5 := Lib.hid (C_w.out.on B_w5.out)
  go_wp2_with fail
  refine (H9.out w5 C_w5.out).mono ?_
  rintro e w' ⟨rfl, rfl⟩
  go_wp2_with fail
  refine (H10.out w5 C_w5.out).mono ?_
  rintro e w' ⟨rfl, rfl⟩
  go_wp2_with fail
  refine (H11.out w5).mono ?_
  rintro e w' ⟨rfl, rfl⟩
  go_wp2_with fail
  refine (H12.out w5).mono ?_
  rintro e w' ⟨rfl, rfl⟩
  go_wp2_with fail
  refine (wakes01 w5 T_w5.out).mono ?_
  rintro e w6 ⟨rfl, hb_w6⟩
  have T_w6 := Lib.hid (T_w5.out.on hb_w6)
  have B_w6 := Lib.hid (B_w5.out.trans (hb_w6.mono B_w5.out.size))
  clear hb_w6
  go_wp2_with fail
  go_ret
  exact ⟨rfl, B_w6.out⟩

/-- the law, at whatever input -/
theorem numTells_all (a b : Int) (s : ByteArray) (zs : List Int) (A : Option Addr) (cap : Nat) (most : Int) (w : World) (ha : I64 a) (hb : I64 b) (hs : s.size ≤ 9223372036854775807) (hc : Cells w A (zs.map (Value.int .i64))) (hz : ∀ x ∈ zs, I64 x) (hl : zs.length ≤ cap) (hc63 : cap ≤ 9223372036854775807) (_hm : I64 most) (ht : TabOk w) :
    Calls Tryd.prog 6 #[.int .i64 a, .int .i64 b, .string s, .slice A zs.length cap, .int .i64 most] w fun e w' => e = .returned (.bool true) ∧ Below w.heap.size w w' := by
  by_cases h : s.size ≤ 300 ∧ zs.length ≤ 200
  · exact numTells_walk a b ha hb s h.1 zs A cap most hz h.2 w ht hc
  · exact numTells_long a b s zs.length A cap most h hs (by omega) w ht
end Go.Proofs.YtdgbgchcomikoaaDoor
