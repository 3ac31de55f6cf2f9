/- CSV: a table as an argument; how long its text is. -/
import Derived.Test.YteidmimpkipcfaaDoorCFlowR
import Derived.Test.YteidmimpkipcfaaDoorCC12
namespace Go.Proofs.YteidmimpkipcfaaDoor.Flow
open Go

section
variable {H : Type}

def rowOf (d : DataW H) : List (List UInt8) := (kids d).map strOf
def tabOf (d : DataW H) : List (List (List UInt8)) := (kids d).map rowOf

theorem rowOf_nil : rowOf (.nil : DataW H) = [] := rfl

theorem tabOf_at (d : DataW H) (i : Nat) : (tabOf d).getD i [] = rowOf ((kids d).getD i .nil) := by
  have := map_getD rowOf (kids d) .nil i
  rwa [rowOf_nil] at this
theorem rowOf_at (d : DataW H) (i : Nat) : (rowOf d).getD i [] = strOf ((kids d).getD i .nil) := by
  have := map_getD strOf (kids d) .nil i
  exact this

theorem tab_told (d : DataW H) : D.sl 1 (kids d).length (fun i => (fun r => [D.sl 1 (kids r).length (fun i => (fun f => [D.s (strOf f)]) ((kids r).getD i .nil))]) ((kids d).getD i .nil)) = .sl 1 (tabOf d).length (tabF (tabOf d)) := by
  have h1 : (tabOf d).length = (kids d).length := by simp [tabOf]
  rw [h1]
  congr 1
  funext i
  unfold tabF
  rw [tabOf_at]
  have h2 : (rowOf ((kids d).getD i .nil)).length = (kids ((kids d).getD i .nil)).length := by simp [rowOf]
  rw [h2]
  generalize (kids d).getD i .nil = X
  have h3 : (fun k => (fun f => [D.s (strOf f)]) ((kids X).getD k .nil)) = rowF (rowOf X) := by
    funext k
    unfold rowF
    rw [rowOf_at]
  show [D.sl 1 (kids X).length (fun k => (fun f => [D.s (strOf f)]) ((kids X).getD k .nil))] = _
  rw [h3]

theorem bulk_kids1 (d : DataW H) : Rows.uptoBulkAll (kids d) + 1 ≤ Rows.uptoBulk d := by
  have := bulk_one d
  cases d <;> simp [kids, Rows.uptoBulk, Rows.uptoBulkAll] at * <;> omega

theorem bulk_str1 (d : DataW H) : (strOf d).length + 1 ≤ Rows.uptoBulk d := by
  cases d with
  | lit l => cases l <;> simp [strOf, Rows.uptoBulk]
  | _ => simp [strOf, Rows.uptoBulk]

theorem bulk_at0 {l : List (DataW H)} {i : Nat} {f : DataW H → Nat} (h0 : f .nil = 0) (h : ∀ d, f d ≤ Rows.uptoBulk d) : f (l.getD i .nil) ≤ Rows.uptoBulkAll l := by
  by_cases hi : i < l.length
  · rw [List.getD_eq_getElem?_getD, List.getElem?_eq_getElem hi]
    have := bulk_mem (List.getElem_mem hi)
    have := h l[i]
    simp only [Option.getD_some]
    omega
  · rw [List.getD_eq_getElem?_getD, List.getElem?_eq_none (by omega)]
    simp only [Option.getD_none, h0]
    omega

theorem small_of {d : DataW H} (h : Rows.uptoBulk d ≤ 1048576) : smallTab (tabOf d) := by
  have h1 := bulk_kids1 d
  have h2 := bulk_len (kids d)
  refine ⟨by simp only [tabOf, List.length_map]; omega, fun i => ?_⟩
  rw [tabOf_at]
  have h3 : ∀ d : DataW H, (kids d).length ≤ Rows.uptoBulk d := fun d => by
    have := bulk_len (kids d)
    have := bulk_kids1 d
    omega
  have h4 := bulk_at0 (l := kids d) (i := i) (f := fun d => (kids d).length) rfl h3
  refine ⟨by simp only [rowOf, List.length_map]; omega, fun k => ?_⟩
  rw [rowOf_at]
  have h5 : ∀ d : DataW H, (strOf ((kids d).getD k .nil)).length ≤ Rows.uptoBulk d := fun d => by
    have := bulk_at0 (l := kids d) (i := k) (f := fun d => (strOf d).length) rfl bulk_str
    have := bulk_kids1 d
    omega
  have h6 := bulk_at0 (l := kids d) (i := i) (f := fun d => (strOf ((kids d).getD k .nil)).length) (by simp [kids, strOf]) h5
  omega

/-- A table's weight: more than its text's length, whichever way its lines end. -/
def rowW (r : List (List UInt8)) : Nat := (r.map fun f => f.length + 1).sum
def tabW (t : List (List (List UInt8))) : Nat := (t.map fun r => rowW r + 1).sum

theorem tailText_len : ∀ r : List (List UInt8), (tailText r).length = rowW r
  | [] => rfl
  | f :: r => by
    have := tailText_len r
    simp only [tailText, rowW, List.map_cons, List.sum_cons, List.length_append, List.length_cons, List.length_nil] at *
    omega

theorem rowText_len {r : List (List UInt8)} (h : r ≠ []) : (rowText r).length + 1 = rowW r := by
  cases r with
  | nil => exact absurd rfl h
  | cons f r =>
    have h1 := tailText_len r
    have e : rowText (f :: r) = f ++ tailText r := rfl
    rw [e, List.length_append, h1]
    simp only [rowW, List.map_cons, List.sum_cons]
    omega

theorem tabText_len {e le : List UInt8} (he : e.length ≤ 2) (hl : le.length ≤ 2) : ∀ {t : List (List (List UInt8))}, (∀ r ∈ t, r ≠ []) → (tabText e le t).length ≤ tabW t
  | [], _ => by simp [tabText]
  | [r], h => by
    have := rowText_len (h r (by simp))
    simp only [tabText, tabW, List.map_cons, List.map_nil, List.sum_cons, List.sum_nil, List.length_append]
    omega
  | r :: s :: t, h => by
    have h1 := rowText_len (h r (by simp))
    have h2 := tabText_len he hl (t := s :: t) (fun x hx => h x (by simp [hx]))
    have e1 : tabText e le (r :: s :: t) = rowText r ++ (e ++ tabText e le (s :: t)) := by simp [tabText]
    have e2 : tabW (r :: s :: t) = rowW r + 1 + tabW (s :: t) := by simp [tabW]
    rw [e1, e2, List.length_append, List.length_append]
    omega

theorem rowW_of : ∀ l : List (DataW H), rowW (l.map strOf) ≤ Rows.uptoBulkAll l
  | [] => by simp [rowW]
  | d :: r => by
    have h1 := bulk_str1 d
    have h2 := rowW_of r
    simp only [rowW, List.map_cons, List.sum_cons, Rows.uptoBulkAll] at *
    omega

theorem tabW_of : ∀ l : List (DataW H), tabW (l.map rowOf) ≤ Rows.uptoBulkAll l
  | [] => by simp [tabW]
  | d :: r => by
    have h1 := bulk_kids1 d
    have h2 := tabW_of r
    have h3 := rowW_of (kids d)
    have e1 : tabW (((d :: r).map rowOf)) = rowW (rowOf d) + 1 + tabW (r.map rowOf) := by simp [tabW]
    have e2 : rowW (rowOf d) = rowW ((kids d).map strOf) := rfl
    rw [e1, e2]
    simp only [Rows.uptoBulkAll]
    omega

theorem text_small {d : DataW H} (h : Rows.uptoBulk d ≤ 1048576) (hr : rightTab (tabOf d)) (e le : List UInt8) (he : isEnd e) (hl : le = [] ∨ isEnd le) : (tabText e le (tabOf d)).length ≤ 1048576 := by
  have h1 : e.length ≤ 2 := by rcases he with h | h <;> simp [h]
  have h2 : le.length ≤ 2 := by
    rcases hl with h | h | h <;> simp [h]
  have h3 := tabText_len h1 h2 (t := tabOf d) (fun r hr' => by
    obtain ⟨i, hi, rfl⟩ := List.getElem_of_mem hr'
    have := (hr.2 i hi).1
    intro hc
    rw [List.getD_eq_getElem?_getD, List.getElem?_eq_getElem hi, Option.getD_some, hc] at this
    simp at this)
  have h4 := tabW_of (kids d)
  have h5 := bulk_kids1 d
  have e1 : tabOf d = (kids d).map rowOf := rfl
  rw [e1] at h3 ⊢
  omega

end
end Go.Proofs.YteidmimpkipcfaaDoor.Flow
