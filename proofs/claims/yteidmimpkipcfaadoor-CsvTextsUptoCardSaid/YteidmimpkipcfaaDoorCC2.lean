/- CSV: the document's side, a field. -/
import Derived.Test.YteidmimpkipcfaaDoorCC1
namespace Go.Proofs.YteidmimpkipcfaaDoor.Flow
open Go

theorem bytesF_one (l : List UInt8) : ∀ i, i < l.length → ∃ n, bytesF l i = [.i .u8 n] := fun i _ => ⟨_, rfl⟩

section
variable {s : List UInt8} {j : Int} {b : List UInt8}
theorem quotF_more (h : j < s.length) (h2 : ¬ at' s j = 34) : quotF s j b = quotF s (j + 1) (b ++ [s.getD j.toNat 0]) := by
  conv => lhs; unfold quotF
  rw [dif_pos h, if_pos h2]
theorem quotF_two (h : j < s.length) (h2 : at' s j = 34) (h3 : j + 1 < s.length) (h4 : at' s (j + 1) = 34) : quotF s j b = quotF s (j + 2) (b ++ [34]) := by
  conv => lhs; unfold quotF
  rw [dif_pos h, if_neg (by simpa using h2), if_pos ⟨h3, h4⟩]
theorem quotF_end (h : j < s.length) (h2 : at' s j = 34) (h3 : j + 1 < s.length → ¬ at' s (j + 1) = 34) : quotF s j b = if overF s (j + 1) then (b, j + 1, 0) else ([], j + 1, 3) := by
  conv => lhs; unfold quotF
  rw [dif_pos h, if_neg (by simpa using h2), if_neg (fun h => h3 h.1 h.2)]
theorem quotF_none (h : ¬ j < s.length) : quotF s j b = ([], j, 2) := by
  conv => lhs; unfold quotF
  rw [dif_neg h]
theorem plainF_over (h : overF s j = true) : plainF s j b = (b, j, 0) := by
  conv => lhs; unfold plainF
  rw [dif_pos h]
theorem plainF_bad (h : overF s j = false) (h2 : at' s j = 34 ∨ at' s j = 13) : plainF s j b = ([], j, 3) := by
  conv => lhs; unfold plainF
  rw [dif_neg (by simp [h]), if_pos h2]
theorem plainF_more (h : overF s j = false) (h2 : ¬ at' s j = 34) (h3 : ¬ at' s j = 13) : plainF s j b = plainF s (j + 1) (b ++ [s.getD j.toNat 0]) := by
  conv => lhs; unfold plainF
  rw [dif_neg (by simp [h]), if_neg (by simp [h2, h3])]
theorem overF_lt (h : overF s j = false) : j < s.length := by
  simp [overF] at h
  omega
end

end Go.Proofs.YteidmimpkipcfaaDoor.Flow
