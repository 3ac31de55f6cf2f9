/- CSV: the document's rows. -/
import Derived.Test.YteidmimpkipcfaaDoorCC2
namespace Go.Proofs.YteidmimpkipcfaaDoor.Flow
open Go

theorem overF_comma {s : List UInt8} {j : Int} (h : overF s j = true) (h1 : j < s.length) (h2 : ¬ at' s j = 44) : 0 < endF s j := by
  simp [overF] at h
  omega

theorem quotF_spec (s : List UInt8) (j : Int) (b : List UInt8) (hj : 0 ≤ j) (hj2 : j ≤ s.length) : j ≤ (quotF s j b).2.1 ∧ (quotF s j b).2.1 ≤ s.length ∧ ((quotF s j b).2.2 = 0 → overF s (quotF s j b).2.1 = true) := by
  fun_induction quotF s j b <;> grind

theorem plainF_spec (s : List UInt8) (j : Int) (b : List UInt8) (hj : 0 ≤ j) (hj2 : j ≤ s.length) : j ≤ (plainF s j b).2.1 ∧ (plainF s j b).2.1 ≤ s.length ∧ ((plainF s j b).2.2 = 0 → overF s (plainF s j b).2.1 = true) := by
  fun_induction plainF s j b with
  | case1 => grind
  | case2 => grind
  | case3 j b h1 h2 ih =>
    have := overF_lt (s := s) (j := j) (by simpa using h1)
    grind

theorem fieldF_spec (s : List UInt8) (j : Int) (hj : 0 ≤ j) (hj2 : j ≤ s.length) : j ≤ (fieldF s j).2.1 ∧ (fieldF s j).2.1 ≤ s.length ∧ ((fieldF s j).2.2 = 0 → overF s (fieldF s j).2.1 = true) := by
  unfold fieldF
  split
  · rename_i h
    have := quotF_spec s (j + 1) [] (by omega) (by omega)
    exact ⟨by omega, this.2⟩
  · exact plainF_spec s j [] hj hj2

/-- A row from a place on: its fields, the place behind, the fault. -/
def rowG (s : List UInt8) (i : Int) (l : List (List UInt8)) : List (List UInt8) × Int × Int :=
  let f := fieldF s i
  if f.2.2 ≠ 0 then ([], f.2.1, f.2.2)
  else if h : (0 ≤ i ∧ i ≤ s.length) ∧ f.2.1 < s.length ∧ at' s f.2.1 = 44 then rowG s (f.2.1 + 1) (l ++ [f.1])
  else (l ++ [f.1], f.2.1, 0)
termination_by (s.length + 1 - i).toNat
decreasing_by
  have := fieldF_spec s i h.1.1 h.1.2
  omega

theorem rowG_bad {s : List UInt8} {i : Int} {l : List (List UInt8)} (h : ¬ (fieldF s i).2.2 = 0) : rowG s i l = ([], (fieldF s i).2.1, (fieldF s i).2.2) := by
  conv => lhs; unfold rowG
  exact if_pos h
theorem rowG_more {s : List UInt8} {i : Int} {l : List (List UInt8)} (hi : 0 ≤ i) (hi2 : i ≤ s.length) (h : (fieldF s i).2.2 = 0) (h1 : (fieldF s i).2.1 < s.length) (h2 : at' s (fieldF s i).2.1 = 44) : rowG s i l = rowG s ((fieldF s i).2.1 + 1) (l ++ [(fieldF s i).1]) := by
  conv => lhs; unfold rowG
  dsimp only
  rw [if_neg (by simpa using h), dif_pos ⟨⟨hi, hi2⟩, h1, h2⟩]
theorem rowG_end {s : List UInt8} {i : Int} {l : List (List UInt8)} (h : (fieldF s i).2.2 = 0) (h1 : (fieldF s i).2.1 < s.length → ¬ at' s (fieldF s i).2.1 = 44) : rowG s i l = (l ++ [(fieldF s i).1], (fieldF s i).2.1, 0) := by
  conv => lhs; unfold rowG
  dsimp only
  rw [if_neg (by simpa using h), dif_neg (fun h => h1 h.2.1 h.2.2)]

theorem rowG_spec (s : List UInt8) (i : Int) (l : List (List UInt8)) (hi : 0 ≤ i) (hi2 : i ≤ s.length) : i ≤ (rowG s i l).2.1 ∧ (rowG s i l).2.1 ≤ s.length ∧ ((rowG s i l).2.2 = 0 → (rowG s i l).2.1 < s.length → 0 < endF s (rowG s i l).2.1) := by
  fun_induction rowG s i l with
  | case1 i l f h => have := fieldF_spec s i hi hi2; grind
  | case2 i l f h1 h2 ih => have := fieldF_spec s i hi hi2; grind
  | case3 i l f h1 h2 =>
    have := fieldF_spec s i hi hi2
    have h3 := overF_comma (s := s) (j := f.2.1)
    grind

/-- Rows from a place on. -/
def tabG (s : List UInt8) (i : Int) (rows : List (List (List UInt8))) : List (List (List UInt8)) × Int × Int :=
  if h : 0 ≤ i ∧ i < s.length then
    if rows.length = 65536 then ([], i, 9)
    else if h2 : (rowG s i []).2.2 = 0 then
      if 0 < rows.length ∧ ¬ (rows.getD 0 []).length = (rowG s i []).1.length then ([], i, 3)
      else tabG s ((rowG s i []).2.1 + endF s (rowG s i []).2.1) (rows ++ [(rowG s i []).1])
    else ([], (rowG s i []).2.1, (rowG s i []).2.2)
  else (rows, s.length, 0)
termination_by (s.length - i).toNat
decreasing_by
  have := rowG_spec s i [] h.1 (by omega)
  have := endF_pos s (rowG s i []).2.1
  grind

section
variable {s : List UInt8} {i : Int} {rows : List (List (List UInt8))}
theorem tabG_none (h : ¬ i < s.length) : tabG s i rows = (rows, (s.length : Int), 0) := by
  conv => lhs; unfold tabG
  rw [dif_neg (fun x => h x.2)]
theorem tabG_many (hi : 0 ≤ i) (h : i < s.length) (h1 : rows.length = 65536) : tabG s i rows = ([], i, 9) := by
  conv => lhs; unfold tabG
  rw [dif_pos ⟨hi, h⟩, if_pos h1]
theorem tabG_bad (hi : 0 ≤ i) (h : i < s.length) (h1 : ¬ rows.length = 65536) (h2 : ¬ (rowG s i []).2.2 = 0) : tabG s i rows = ([], (rowG s i []).2.1, (rowG s i []).2.2) := by
  conv => lhs; unfold tabG
  rw [dif_pos ⟨hi, h⟩, if_neg h1, dif_neg h2]
theorem tabG_form (hi : 0 ≤ i) (h : i < s.length) (h1 : ¬ rows.length = 65536) (h2 : (rowG s i []).2.2 = 0) (h3 : 0 < rows.length) (h4 : ¬ (rows.getD 0 []).length = (rowG s i []).1.length) : tabG s i rows = ([], i, 3) := by
  conv => lhs; unfold tabG
  rw [dif_pos ⟨hi, h⟩, if_neg h1, dif_pos h2, if_pos ⟨h3, h4⟩]
theorem tabG_more (hi : 0 ≤ i) (h : i < s.length) (h1 : ¬ rows.length = 65536) (h2 : (rowG s i []).2.2 = 0) (h3 : 0 < rows.length → (rows.getD 0 []).length = (rowG s i []).1.length) :
    tabG s i rows = tabG s ((rowG s i []).2.1 + endF s (rowG s i []).2.1) (rows ++ [(rowG s i []).1]) := by
  conv => lhs; unfold tabG
  rw [dif_pos ⟨hi, h⟩, if_neg h1, dif_pos h2, if_neg (fun x => x.2 (h3 x.1))]
end

def parseG (s : List UInt8) : List (List (List UInt8)) × Int × Int := if (1048576 : Int) < s.length then ([], 0, 5) else tabG s 0 []

/-- A row of strings, and rows of rows. -/
def rowF (l : List (List UInt8)) : Nat → List D := fun i => [.s (l.getD i [])]
def tabF (t : List (List (List UInt8))) : Nat → List D := fun i => [.sl 1 (t.getD i []).length (rowF (t.getD i []))]

theorem gs_row (k : Nat) (l : List (List UInt8)) (x : List UInt8) (g : Nat → List D) (hg : g 0 = [.s x]) : D.gs k 1 (l.length + 1) (catF l.length (rowF l) 1 g) = D.gs k 1 (l ++ [x]).length (rowF (l ++ [x])) := by
  have : catF l.length (rowF l) 1 g = rowF (l ++ [x]) := by
    funext j
    unfold catF
    by_cases h : j < l.length
    · rw [if_pos h]
      simp [rowF, List.getD_eq_getElem?_getD, h, List.getElem?_append_left]
    · rw [if_neg h]
      by_cases h2 : j < l.length + 1
      · have : j = l.length := by omega
        subst this
        simp [hg, rowF]
      · rw [if_neg h2]
        simp [rowF, List.getD_eq_getElem?_getD, show l.length ≤ j by omega]
        rw [List.getElem?_eq_none (by simp; omega)]
        rfl
  rw [this]
  simp

theorem gs_tab (k : Nat) (l : List (List (List UInt8))) (x : List (List UInt8)) (g : Nat → List D) (hg : g 0 = [.sl 1 x.length (rowF x)]) : D.gs k 1 (l.length + 1) (catF l.length (tabF l) 1 g) = D.gs k 1 (l ++ [x]).length (tabF (l ++ [x])) := by
  have : catF l.length (tabF l) 1 g = tabF (l ++ [x]) := by
    funext j
    unfold catF
    by_cases h : j < l.length
    · rw [if_pos h]
      simp [tabF, List.getD_eq_getElem?_getD, h, List.getElem?_append_left]
    · rw [if_neg h]
      by_cases h2 : j < l.length + 1
      · have : j = l.length := by omega
        subst this
        simp [hg, tabF]
      · rw [if_neg h2]
        simp [tabF, List.getD_eq_getElem?_getD, show l.length ≤ j by omega]
        rw [List.getElem?_eq_none (by simp; omega)]
        simp
  rw [this]
  simp

theorem sl_row (l : List (List UInt8)) (x : List UInt8) (g : Nat → List D) (hg : g 0 = [.s x]) : D.sl 1 (l.length + 1) (catF l.length (rowF l) 1 g) = D.sl 1 (l ++ [x]).length (rowF (l ++ [x])) := by
  have := gs_row 0 l x g hg
  injection this with _ _ h1 h2
  rw [h1, h2]

/-- What Parse gives, as data. -/
def parsed (x : List (List (List UInt8)) × Int × Int) : D := .tu [.sl 1 x.1.length (tabF x.1), .i .i64 x.2.1, .i .i64 x.2.2]

end Go.Proofs.YteidmimpkipcfaaDoor.Flow
