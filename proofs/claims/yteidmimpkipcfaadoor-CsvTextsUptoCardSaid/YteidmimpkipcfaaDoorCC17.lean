/- CSV: quotes written twice, as strings.ReplaceAll writes them. -/
import Derived.Test.YteidmimpkipcfaaDoorCC16
import Derived.Lib.ReplaceLaws
namespace Go.Proofs.YteidmimpkipcfaaDoor.Flow
open Go

theorem repl_dbl : ∀ s : List UInt8, Lib.replaceK [34] [34, 34] (Lib.count s [34]) s = dbl s
  | [] => by rw [Lib.count_one]; rfl
  | b :: l => by
    have ih := repl_dbl l
    by_cases hb : b = 34
    · subst hb
      have e : dbl (34 :: l) = 34 :: 34 :: dbl l := if_pos rfl
      have hi : Lib.index (34 :: l) [34] = ((0 : Nat) : Int) := by
        unfold Lib.index
        rw [if_pos (by simp [List.isPrefixOf])]
        rfl
      rw [Lib.count_cons_eq, Nat.add_comm, Lib.replaceK_hit _ _ _ _ 0 hi, e, ← ih]
      simp
    · have e : dbl (b :: l) = b :: dbl l := if_neg hb
      rw [Lib.count_cons_ne _ _ _ hb, e, ← ih]
      cases hk : Lib.count l [34] with
      | zero => rfl
      | succ k =>
        obtain ⟨i, hi⟩ := Lib.index_of_count (s := l) (old := [34]) (by omega)
        have hi2 : Lib.index (b :: l) [34] = ((i + 1 : Nat) : Int) := by
          unfold Lib.index
          rw [if_neg (by simp [List.isPrefixOf]; exact fun h => hb h.symm), hi, if_neg (by simp <;> omega)]
          omega
        rw [Lib.replaceK_hit _ _ _ _ _ hi, Lib.replaceK_hit _ _ _ _ _ hi2]
        simp

theorem replAll_dbl (s : List UInt8) : Lib.replaceAll s [34] [34, 34] = dbl s := by
  unfold Lib.replaceAll Lib.replace Lib.replaceNum
  rw [if_neg (by decide), if_pos (.inl (by decide))]
  exact repl_dbl s

theorem dbl_len : ∀ s : List UInt8, (dbl s).length ≤ 2 * s.length
  | [] => Nat.le_refl _
  | b :: l => by
    have ih := dbl_len l
    unfold dbl
    split <;> simp <;> omega

theorem encT_len (f : List UInt8) : (encT f).length ≤ 2 * f.length + 2 := by
  have := dbl_len f
  unfold encT
  split
  · simp; omega
  · omega

end Go.Proofs.YteidmimpkipcfaaDoor.Flow
