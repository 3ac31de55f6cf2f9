/- LAID: this seat's tables lie as they are told, wherever a row's condition holds. -/
import Derived.Test.YtenkmfahcmahkaaDoorLaid
namespace Go.Proofs.YtenkmfahcmahkaaDoor.Flow
open Go.ChangeShapes Go.WideShapes Go.ChangeAt Go.RowKit

set_option maxRecDepth 100000

abbrev seatLaid : List (String × DataW Unit) := [("unicode/utf8.acceptRanges", Rows.laid_unicode_utf8_acceptRanges), ("unicode/utf8.first", Rows.laid_unicode_utf8_first)]

theorem reads_first : Reads 83 256 := reads_array (n := 256) (z := 1) Tryd.underlying83 (by kernel_rfl) (by kernel_rfl) rfl (reads_int Tryd.underlying5)
theorem reads_acc : Reads 86 32 := reads_array (n := 16) (z := 2) Tryd.underlying86 (by kernel_rfl) (by kernel_rfl) rfl
  (reads_struct2 (z1 := 1) (z2 := 1) Tryd.underlying85 rfl (by kernel_rfl) rfl rfl (by kernel_rfl) (by kernel_rfl) rfl (reads_int Tryd.underlying5) (reads_int Tryd.underlying5))

theorem gok_of_laid {W : World} (h0 : laidMetH Tryd.prog seatLaid W) : GOk (allOf W) W := by
  rw [MakeChecks.laidMetH_plain _ _ _ (by kernel_rfl)] at h0
  intro g
  match g with
  | 0 => exact rn_of_laid (name := "unicode/utf8.first") (d := Rows.laid_unicode_utf8_first) h0 (by simp) (by kernel_rfl) (by kernel_rfl) reads_first (by kernel_rfl)
  | 1 => exact rn_of_laid (name := "unicode/utf8.acceptRanges") (d := Rows.laid_unicode_utf8_acceptRanges) h0 (by simp) (by kernel_rfl) (by kernel_rfl) reads_acc (by kernel_rfl)
  | _ + 2 => exact .any ..

end Go.Proofs.YtenkmfahcmahkaaDoor.Flow
