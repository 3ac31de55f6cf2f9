/- CSV: CsvPlain's function. -/
import Derived.Test.YteidmimpkipcfaaDoorCC11
namespace Go.Proofs.YteidmimpkipcfaaDoor.Flow
open Go

/-- What is still to come of a row, its first k fields written. -/
def rowRest (l : List (List UInt8)) (k : Nat) : List UInt8 := if k = 0 then rowText l else tailText (l.drop k)

theorem drop_cons {α : Type} (d : α) (l : List α) (k : Nat) (h : k < l.length) : l.drop k = l.getD k d :: l.drop (k + 1) := by
  rw [List.drop_eq_getElem_cons h]
  simp [List.getD_eq_getElem?_getD, h]

theorem rowRest_zero (l : List (List UInt8)) (h : 0 < l.length) : rowRest l 0 = l.getD 0 [] ++ rowRest l 1 := by
  have := drop_cons [] l 0 h
  rw [List.drop_zero] at this
  unfold rowRest
  rw [if_pos rfl, if_neg (by omega)]
  conv => lhs; rw [this]
  rfl
theorem rowRest_succ (l : List (List UInt8)) (k : Nat) (h : k < l.length) (hk : 0 < k) : rowRest l k = [44] ++ (l.getD k [] ++ rowRest l (k + 1)) := by
  unfold rowRest
  rw [if_neg (by omega), if_neg (by omega), drop_cons [] l k h]
  rfl
theorem rowRest_end (l : List (List UInt8)) (k : Nat) (h : l.length ≤ k) : rowRest l k = [] := by
  unfold rowRest
  split
  · subst k
    have : l = [] := List.eq_nil_of_length_eq_zero (by omega)
    subst this
    rfl
  · rw [List.drop_eq_nil_of_le h]
    rfl

theorem tabText_drop (e le : List UInt8) (rows : List (List (List UInt8))) (i : Nat) (h : i < rows.length) :
    tabText e le (rows.drop i) = rowText (rows.getD i []) ++ ((if i + 1 < rows.length then e else le) ++ tabText e le (rows.drop (i + 1))) := by
  rw [drop_cons [] rows i h]
  by_cases h2 : i + 1 < rows.length
  · rw [if_pos h2, drop_cons [] rows (i + 1) h2]
    simp [tabText]
  · rw [if_neg h2, List.drop_eq_nil_of_le (by omega)]
    simp [tabText]

theorem plainB_of {f : List UInt8} {j : Int} (h1 : ¬ at' f j = 44) (h2 : ¬ at' f j = 34) (h3 : ¬ at' f j = 10) (h4 : ¬ at' f j = 13) : plainB (f.getD j.toNat 0) := by
  refine ⟨fun h => h1 ?_, fun h => h2 ?_, fun h => h3 ?_, fun h => h4 ?_⟩ <;> (unfold at'; rw [h]; rfl)

theorem plainT_of {f : List UInt8} (h : ∀ j, j < f.length → plainB (f.getD j 0)) : plainT f := fun c hc => by
  obtain ⟨i, hi, rfl⟩ := List.getElem_of_mem hc
  have := h i hi
  simpa [List.getD_eq_getElem?_getD, hi] using this

theorem plainB_lit {c : UInt8} (h : plainB c) : True := trivial

end Go.Proofs.YteidmimpkipcfaaDoor.Flow
