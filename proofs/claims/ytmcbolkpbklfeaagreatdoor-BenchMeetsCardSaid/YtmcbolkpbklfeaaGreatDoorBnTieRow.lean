/- The row of BenchMeets tied to the program's text: its laid tables, the pinned ones and those that the text computes. No condition. -/
import Derived.Test.YtmcbolkpbklfeaaGreatDoorBnTie
namespace Go.Proofs.YtmcbolkpbklfeaaGreatDoor.BnTie
open Go
theorem pin_unicode_utf8_first : Tryz.pinned.checked.prog.pinnedFits "unicode/utf8.first" = true := by kernel_rfl
theorem pin_strconv_isPrint16 : Tryz.pinned.checked.prog.pinnedFits "strconv.isPrint16" = true := by kernel_rfl
theorem pin_strconv_isNotPrint16 : Tryz.pinned.checked.prog.pinnedFits "strconv.isNotPrint16" = true := by kernel_rfl
theorem pin_strconv_isPrint32 : Tryz.pinned.checked.prog.pinnedFits "strconv.isPrint32" = true := by kernel_rfl
theorem pin_strconv_isNotPrint32 : Tryz.pinned.checked.prog.pinnedFits "strconv.isNotPrint32" = true := by kernel_rfl
theorem pin_strconv_isGraphic : Tryz.pinned.checked.prog.pinnedFits "strconv.isGraphic" = true := by kernel_rfl
theorem noUnsafe : Tryz.pinned.checked.prog.headLifts.contains "ownunsafe" = false := by kernel_rfl
theorem fits1 : Tryz.pinned.checked.prog.listedFits [("unicode/utf8.first", Rows.laid_unicode_utf8_first), ("unicode/utf8.acceptRanges", Rows.laid_unicode_utf8_acceptRanges), ("internal/strconv.uint64pow10", Rows.laid_internal_strconv_uint64pow10), ("math/bits.deBruijn32tab", Rows.laid_math_bits_deBruijn32tab), ("math/bits.deBruijn64tab", Rows.laid_math_bits_deBruijn64tab), ("strconv.isPrint16", Rows.laid_strconv_isPrint16), ("strconv.isNotPrint16", Rows.laid_strconv_isNotPrint16), ("strconv.isPrint32", Rows.laid_strconv_isPrint32), ("strconv.isNotPrint32", Rows.laid_strconv_isNotPrint32), ("strconv.isGraphic", Rows.laid_strconv_isGraphic)] = true := by
  unfold Program.listedFits
  rw [noUnsafe]
  kernel_rfl
theorem row_tie : Rows.benchMeetsRow.laidByTextAt .later Tryz.pinned [.pinned, .data, .data, .data, .data, .pinned, .pinned, .pinned, .pinned, .pinned] true :=
  OpenClaim.laidByTextAt_pinned rfl rfl tie rfl rfl rfl rfl (fun y hy _e => by
    simp only [Rows.benchMeetsRow, List.zip_cons_cons, List.zip_nil_right, List.mem_cons, List.mem_nil_iff, or_false] at hy
    rcases hy with rfl | rfl | rfl | rfl | rfl | rfl | rfl | rfl | rfl | rfl
    · exact ⟨pin_unicode_utf8_first, by kernel_rfl⟩
    · cases _e
    · cases _e
    · cases _e
    · cases _e
    · exact ⟨pin_strconv_isPrint16, by kernel_rfl⟩
    · exact ⟨pin_strconv_isNotPrint16, by kernel_rfl⟩
    · exact ⟨pin_strconv_isPrint32, by kernel_rfl⟩
    · exact ⟨pin_strconv_isNotPrint32, by kernel_rfl⟩
    · exact ⟨pin_strconv_isGraphic, by kernel_rfl⟩) fits1
end Go.Proofs.YtmcbolkpbklfeaaGreatDoor.BnTie
