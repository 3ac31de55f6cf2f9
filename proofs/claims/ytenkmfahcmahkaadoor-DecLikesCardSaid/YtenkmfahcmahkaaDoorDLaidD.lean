/- LAID: this seat's tables (Go's two of UTF-8, the powers of ten) lie as they are told, wherever a row's condition holds. -/
import Derived.Test.YtenkmfahcmahkaaDoorDLaid
namespace Go.Proofs.YtenkmfahcmahkaaDoor.Flow
open Go.ChangeShapes Go.WideShapes Go.ChangeAt Go.RowKit

set_option maxRecDepth 100000

abbrev seatLaid : List (String × DataW Unit) := [("math/bits.deBruijn32tab", Rows.laid_math_bits_deBruijn32tab), ("math/bits.deBruijn64tab", Rows.laid_math_bits_deBruijn64tab), ("internal/strconv.uint64pow10", Rows.laid_internal_strconv_uint64pow10), ("unicode/utf8.acceptRanges", Rows.laid_unicode_utf8_acceptRanges), ("unicode/utf8.first", Rows.laid_unicode_utf8_first)]

theorem reads_first : Reads 83 256 := reads_array (n := 256) (z := 1) Tryd.underlying83 (by kernel_rfl) (by kernel_rfl) rfl (reads_int Tryd.underlying5)
theorem reads_acc : Reads 86 32 := reads_array (n := 16) (z := 2) Tryd.underlying86 (by kernel_rfl) (by kernel_rfl) rfl
  (reads_struct2 (z1 := 1) (z2 := 1) Tryd.underlying85 rfl (by kernel_rfl) rfl rfl (by kernel_rfl) (by kernel_rfl) rfl (reads_int Tryd.underlying5) (reads_int Tryd.underlying5))
theorem reads_pow : Reads 142 20 := reads_array (n := 20) (z := 1) Tryd.underlying142 (by kernel_rfl) (by kernel_rfl) rfl (reads_int Tryd.underlying76)

theorem gok_of_laid {W : World} (h0 : laidMetH Tryd.prog seatLaid W) : GOk (allOf W) W := by
  rw [MakeChecks.laidMetH_plain _ _ _ (by kernel_rfl)] at h0
  refine ⟨fun g => ?_, fun g n hn => ?_⟩
  · by_cases e0 : g = 0
    · subst e0
      exact rn_of_laid (name := "unicode/utf8.first") (d := Rows.laid_unicode_utf8_first) h0 (by simp) (by kernel_rfl) (by kernel_rfl) reads_first (by kernel_rfl)
    · by_cases e1 : g = 1
      · subst e1
        exact rn_of_laid (name := "unicode/utf8.acceptRanges") (d := Rows.laid_unicode_utf8_acceptRanges) h0 (by simp) (by kernel_rfl) (by kernel_rfl) reads_acc (by kernel_rfl)
      · by_cases e2 : g = 3
        · subst e2
          exact rn_of_laid (name := "internal/strconv.uint64pow10") (d := Rows.laid_internal_strconv_uint64pow10) h0 (by simp) (by kernel_rfl) (by kernel_rfl) reads_pow (by kernel_rfl)
        · have e : glob g = .any := by
            unfold glob
            split <;> first | rfl | (exfalso; omega)
          rw [e]
          exact .any ..
  · unfold globLen at hn
    split at hn
    · cases hn
      first | exact len_of_laid (name := "unicode/utf8.first") (d := Rows.laid_unicode_utf8_first) h0 (by simp) (by kernel_rfl) (by kernel_rfl) reads_first | exact len_of_laid (name := "unicode/utf8.acceptRanges") (d := Rows.laid_unicode_utf8_acceptRanges) h0 (by simp) (by kernel_rfl) (by kernel_rfl) reads_acc
    · cases hn
      first | exact len_of_laid (name := "unicode/utf8.acceptRanges") (d := Rows.laid_unicode_utf8_acceptRanges) h0 (by simp) (by kernel_rfl) (by kernel_rfl) reads_acc | exact len_of_laid (name := "unicode/utf8.first") (d := Rows.laid_unicode_utf8_first) h0 (by simp) (by kernel_rfl) (by kernel_rfl) reads_first
    · cases hn
      exact len_of_laid (name := "internal/strconv.uint64pow10") (d := Rows.laid_internal_strconv_uint64pow10) h0 (by simp) (by kernel_rfl) (by kernel_rfl) reads_pow
    · cases hn

end Go.Proofs.YtenkmfahcmahkaaDoor.Flow
