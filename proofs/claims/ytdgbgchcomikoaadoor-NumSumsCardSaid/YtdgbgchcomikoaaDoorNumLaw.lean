/- The law's own first look at layer 1: it answers true, and leaves what was there. -/
import Derived.Test.YtdgbgchcomikoaaDoorNumRef2
namespace Go.Proofs.YtdgbgchcomikoaaDoor
open Go.RowKit

theorem wk_add : addV 4611686018427387904 1 = 0 ∧ addE 4611686018427387904 1 = 10 := by decide
theorem wk_parse : parseV [48, 48, 55] = 0 ∧ parseE [48, 48, 55] = 20 := by decide
theorem wk_text : textL (-5) = [40, 45, 32, 53, 41] ∧ textE (-5) = 0 := by
  have h := text_neg (n := -5) (by decide) (by decide)
  have e : Lib.itoa (- -5) = [53] := by
    rw [show (- -5 : Int) = ((5 : Nat) : Int) by decide, Lib.itoa_nonneg, Lib.decDigits_one (by decide)]; rfl
  rw [h.1, h.2, e]; exact ⟨rfl, rfl⟩
theorem wk_sum : sumV [-2, 3] 7 = 7 ∧ sumB [-2, 3] 7 = true := by decide

set_option maxHeartbeats 1600000 in
theorem wakes01 (w : World) (ht : TabOk w) :
    Calls Tryd.prog 8 #[] w fun e w' => e = .returned (.bool true) ∧ Below w.heap.size w w' := by
  have h1 := add_any 4611686018427387904 1 (by unfold I64; omega) (by unfold I64; omega) w
  rw [wk_add.1, wk_add.2] at h1
  have H1 := Lib.hid h1
  have H2 := Lib.hid (fun W => parse_any ⟨#[48, 48, 55]⟩ (by decide) W)
  have H3 := Lib.hid (fun W hW => text_any (-5) (by unfold I64; omega) W hW)
  have HT := Lib.hid ht
  clear h1 ht
  go_enter Tryd.func8, Tryd.ntmps8
  go_wp2_with fail
  refine H1.out.mono ?_
  rintro e w1 ⟨rfl, hb1⟩
  have T1 := Lib.hid (HT.out.on hb1)
  have B1 := Lib.hid hb1
  clear hb1
  go_wp2_with fail
  refine (H2.out w1).mono ?_
  rintro e w2 ⟨rfl, hb2⟩
  have T2 := Lib.hid (T1.out.on hb2)
  have B2 := Lib.hid (B1.out.trans (hb2.mono B1.out.size))
  clear hb2
  rw [show parseV (ByteArray.mk #[48, 48, 55]).data.toList = 0 from wk_parse.1, show parseE (ByteArray.mk #[48, 48, 55]).data.toList = 20 from wk_parse.2]
  go_wp2_with fail
  refine (H3.out w2 T2.out).mono ?_
  rintro e w3 ⟨rfl, hb3⟩
  have B3 := Lib.hid (B2.out.trans (hb3.mono B2.out.size))
  clear hb3
  rw [wk_text.1, wk_text.2]
  go_wp2_with fail
  have h4 := sum_all [-2, 3] 7 (by simp [I64]) (by decide) (some ⟨w3.heap.size, 0, none⟩) 2 (w3.alloc (.cells #[.int .i64 (-2), .int .i64 3] 3)) (Cells.new w3 [.int .i64 (-2), .int .i64 3] 3 (0, 0))
  rw [wk_sum.1, wk_sum.2] at h4
  refine h4.mono ?_
  clear h4
  rintro e w4 ⟨rfl, rfl⟩
  go_wp2_with fail
  go_ret
  exact ⟨rfl, B3.out.alloc B3.out.size _⟩
end Go.Proofs.YtdgbgchcomikoaaDoor
