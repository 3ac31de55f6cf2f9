/- CSV: any rows as a text, and the text read again. -/
import Derived.Test.YteidmimpkipcfaaDoorCC11
namespace Go.Proofs.YteidmimpkipcfaaDoor.Flow
open Go

def needB (c : UInt8) : Bool := c == 44 || c == 34 || c == 13 || c == 10
def needT (f : List UInt8) : Bool := f.any needB

/-- Quotes written twice. -/
def dbl : List UInt8 → List UInt8
  | [] => []
  | c :: f => if c = 34 then 34 :: 34 :: dbl f else c :: dbl f

/-- A field's text. -/
def encT (f : List UInt8) : List UInt8 := if needT f = true then 34 :: (dbl f ++ [34]) else f

theorem needT_plain {f : List UInt8} (h : ¬ needT f = true) : plainT f := fun c hc => by
  have h2 : ¬ needB c = true := fun h3 => h (List.any_eq_true.2 ⟨c, hc, h3⟩)
  simp only [needB, Bool.or_eq_true, beq_iff_eq, not_or] at h2
  exact ⟨h2.1.1.1, h2.1.1.2, h2.2, h2.1.2⟩

theorem quotF_run (f : List UInt8) : ∀ (p r b : List UInt8), stops r → quotF (p ++ (dbl f ++ 34 :: r)) (p.length : Int) b = (b ++ f, ((p.length + (dbl f).length + 1 : Nat) : Int), 0) := by
  induction f with
  | nil =>
    intro p r b hr
    have ha := at_app0 p (34 :: r)
    have ho := overF_stops (p ++ [34]) r hr
    have e : p ++ [34] ++ r = p ++ 34 :: r := by simp
    have el : (((p ++ [34]).length : Nat) : Int) = (p.length : Int) + 1 := by simp
    rw [e, el] at ho
    simp only [dbl, List.nil_append]
    rw [quotF_end (by simp; omega) (by rw [ha]; rfl) (fun h1 h2 => ?_), if_pos ho]
    · simp
    · have ha1 := at_app0 (p ++ [34]) r
      rw [e, el, h2] at ha1
      match r, hr with
      | [], _ => simp at h1
      | c :: r, hr =>
        simp only [List.getD_cons_zero] at ha1
        rcases hr with rfl | rfl | ⟨rfl, _⟩ <;> simp at ha1
  | cons c f ih =>
    intro p r b hr
    have ha := at_app0 p (dbl (c :: f) ++ 34 :: r)
    by_cases hc : c = 34
    · subst hc
      have e : dbl (34 :: f) = 34 :: 34 :: dbl f := if_pos rfl
      rw [e] at ha ⊢
      have e2 : p ++ (34 :: 34 :: dbl f ++ 34 :: r) = (p ++ [34, 34]) ++ (dbl f ++ 34 :: r) := by simp
      have ha1 := at_app0 (p ++ [34]) (34 :: dbl f ++ 34 :: r)
      have e3 : p ++ [34] ++ (34 :: dbl f ++ 34 :: r) = p ++ (34 :: 34 :: dbl f ++ 34 :: r) := by simp
      have el : (((p ++ [34]).length : Nat) : Int) = (p.length : Int) + 1 := by simp
      have el2 : (((p ++ [34, 34]).length : Nat) : Int) = (p.length : Int) + 2 := by simp
      rw [e3, el] at ha1
      rw [quotF_two (by simp; omega) (by rw [ha]; rfl) (by simp; omega) (by rw [ha1]; rfl), ← el2, e2, ih (p ++ [34, 34]) r (b ++ [34]) hr]
      simp
      omega
    · have e : dbl (c :: f) = c :: dbl f := if_neg hc
      rw [e] at ha ⊢
      have e2 : p ++ (c :: dbl f ++ 34 :: r) = (p ++ [c]) ++ (dbl f ++ 34 :: r) := by simp
      have el : (((p ++ [c]).length : Nat) : Int) = (p.length : Int) + 1 := by simp
      have eg : (p ++ (c :: dbl f ++ 34 :: r)).getD ((p.length : Int)).toNat 0 = c := by simp [List.getD_eq_getElem?_getD]
      rw [quotF_more (by simp; omega) (by rw [ha]; exact u8_ne hc), eg, ← el, e2, ih (p ++ [c]) r (b ++ [c]) hr]
      simp
      omega

theorem fieldF_enc (p f r : List UInt8) (hr : stops r) : fieldF (p ++ encT f ++ r) (p.length : Int) = (f, ((p.length + (encT f).length : Nat) : Int), 0) := by
  by_cases h : needT f = true
  · have e : encT f = 34 :: (dbl f ++ [34]) := if_pos h
    rw [e]
    have e2 : p ++ 34 :: (dbl f ++ [34]) ++ r = (p ++ [34]) ++ (dbl f ++ 34 :: r) := by simp
    have el : (((p ++ [34]).length : Nat) : Int) = (p.length : Int) + 1 := by simp
    have ha := at_app0 p (34 :: (dbl f ++ 34 :: r))
    have e3 : p ++ 34 :: (dbl f ++ 34 :: r) = (p ++ [34]) ++ (dbl f ++ 34 :: r) := by simp
    rw [e3] at ha
    rw [e2, fieldF, if_pos ⟨by simp; omega, by rw [ha]; rfl⟩, ← el, quotF_run f (p ++ [34]) r [] hr]
    simp
    omega
  · have e : encT f = f := if_neg h
    rw [e]
    exact fieldF_plain p f r (needT_plain h) hr

def encR (l : List (List UInt8)) : List (List UInt8) := l.map encT

theorem rowG_enc (l : List (List UInt8)) : ∀ (f p r : List UInt8) (acc : List (List UInt8)), rowStops r →
    rowG (p ++ (encT f ++ tailText (encR l)) ++ r) (p.length : Int) acc = (acc ++ f :: l, ((p.length + (encT f ++ tailText (encR l)).length : Nat) : Int), 0) := by
  induction l with
  | nil =>
    intro f p r acc hr
    simp only [encR, List.map_nil, tailText, List.append_nil]
    have hF := fieldF_enc p f r (rowStops_stops hr)
    rw [rowG_end (by rw [hF])]
    · rw [hF]
    · rw [hF]
      intro h1 h2
      have ha := at_app0 (p ++ encT f) r
      rw [List.length_append] at ha
      simp only at h2
      rw [ha] at h2
      match r, hr with
      | [], _ => simp at h1
      | c :: r, hr =>
        simp only [List.getD_cons_zero] at h2
        rcases hr with rfl | ⟨rfl, _⟩ <;> simp at h2
  | cons g l ih =>
    intro f p r acc hr
    have e : p ++ (encT f ++ tailText (encR (g :: l))) ++ r = p ++ encT f ++ (44 :: (encT g ++ tailText (encR l) ++ r)) := by simp [encR, tailText]
    have hF := fieldF_enc p f (44 :: (encT g ++ tailText (encR l) ++ r)) (.inl rfl)
    rw [e]
    have hlen : (p ++ encT f ++ 44 :: (encT g ++ tailText (encR l) ++ r)).length = p.length + (encT f).length + 1 + (encT g ++ tailText (encR l) ++ r).length := by simp; omega
    rw [rowG_more (by omega) (by rw [hlen]; omega) (by rw [hF]) (by rw [hF, hlen]; dsimp only; omega) (by
      rw [hF]
      have ha := at_app0 (p ++ encT f) (44 :: (encT g ++ tailText (encR l) ++ r))
      rw [List.length_append] at ha
      simp only
      rw [ha]
      simp)]
    rw [hF]
    have e2 : p ++ encT f ++ (44 :: (encT g ++ tailText (encR l) ++ r)) = (p ++ encT f ++ [44]) ++ (encT g ++ tailText (encR l)) ++ r := by simp
    have e3 : (((p.length + (encT f).length : Nat) : Int) + 1) = (((p ++ encT f ++ [44]).length : Nat) : Int) := by simp; omega
    dsimp only
    rw [e3, e2, ih g (p ++ encT f ++ [44]) r (acc ++ [f]) hr]
    simp [encR, tailText]
    omega

/-- All rows' text. -/
def csvT (rows : List (List (List UInt8))) : List UInt8 := (rows.map fun l => rowText (encR l) ++ [13, 10]).flatten

theorem csvT_cons (l : List (List UInt8)) (rows : List (List (List UInt8))) : csvT (l :: rows) = rowText (encR l) ++ ([13, 10] ++ csvT rows) := by simp [csvT]

theorem encT_nil {f : List UInt8} (h : encT f = []) : f = [] := by
  unfold encT at h
  split at h
  · cases h
  · exact h

theorem tabG_enc (N : Nat) : ∀ (rows : List (List (List UInt8))) (p : List UInt8) (acc : List (List (List UInt8))), (∀ l ∈ rows, l.length = N ∧ 1 ≤ N ∧ ¬ (l = [[]])) →
    (∀ l ∈ acc, l.length = N) → acc.length + rows.length ≤ 65536 → tabG (p ++ csvT rows) (p.length : Int) acc = (acc ++ rows, ((p ++ csvT rows).length : Int), 0) := by
  intro rows
  induction rows with
  | nil =>
    intro p acc _ _ _
    rw [tabG_none (by simp [csvT])]
    simp
  | cons l rows ih =>
    intro p acc hrows hacc hlen
    obtain ⟨h1, h2, h3⟩ := hrows l (by simp)
    obtain ⟨f, t, rfl⟩ : ∃ f t, l = f :: t := by
      cases l with
      | nil => simp at h1; omega
      | cons f t => exact ⟨f, t, rfl⟩
    have hne : 0 < (encT f ++ tailText (encR t)).length := by
      simp only [List.length_append]
      cases t with
      | nil =>
        have : encT f ≠ [] := fun h => h3 (by rw [encT_nil h])
        have := List.length_pos_iff.2 this
        omega
      | cons g t => simp [encR, tailText]; omega
    have hend : isEnd [13, 10] := .inr rfl
    have hG := rowG_enc t f p ([13, 10] ++ csvT rows) [] (isEnd_stops hend)
    have eS : p ++ csvT ((f :: t) :: rows) = p ++ (encT f ++ tailText (encR t)) ++ ([13, 10] ++ csvT rows) := by rw [csvT_cons]; simp [rowText, encR]
    have hE : endF (p ++ csvT ((f :: t) :: rows)) (((p ++ (encT f ++ tailText (encR t))).length : Nat) : Int) = 2 := by
      rw [eS]
      exact endF_isEnd _ _ _ hend
    rw [eS] at hE ⊢
    simp only [List.nil_append] at hG
    generalize hM : encT f ++ tailText (encR t) = M at *
    have hL : (p ++ M ++ ([13, 10] ++ csvT rows)).length = p.length + M.length + 2 + (csvT rows).length := by simp; omega
    rw [tabG_more (by omega) (by rw [hL]; omega) (by simp at hlen; omega) (by rw [hG]) (fun h0 => by
      rw [hG]
      have : acc.getD 0 [] ∈ acc := by
        rw [List.getD_eq_getElem?_getD, List.getElem?_eq_getElem h0]
        exact List.getElem_mem h0
      rw [hacc _ this, h1])]
    rw [hG]
    dsimp only
    rw [show ((p.length + M.length : Nat) : Int) = (((p ++ M).length : Nat) : Int) by simp, hE]
    have e5 : (((p ++ M).length : Nat) : Int) + 2 = (((p ++ M ++ [13, 10]).length : Nat) : Int) := by simp; omega
    have e6 : p ++ M ++ ([13, 10] ++ csvT rows) = (p ++ M ++ [13, 10]) ++ csvT rows := by simp
    rw [e5, e6, ih (p ++ M ++ [13, 10]) (acc ++ [f :: t]) (fun l hl => hrows l (by simp [hl])) (fun l hl => by
      rcases List.mem_append.1 hl with hl | hl
      · exact hacc l hl
      · rw [List.mem_singleton] at hl
        subst hl
        exact h1) (by simp at hlen ⊢; omega)]
    simp

theorem parseG_enc (rows : List (List (List UInt8))) (hr : rightTab rows) (hs : (csvT rows).length ≤ 1048576) :
    parseG (csvT rows) = (rows, ((csvT rows).length : Int), 0) := by
  unfold parseG
  rw [if_neg (by omega)]
  have := tabG_enc (rows.getD 0 []).length rows [] [] (fun l hl => ?_) (by simp) (by simpa using hr.1)
  · simpa using this
  · obtain ⟨i, hi, rfl⟩ := List.getElem_of_mem hl
    obtain ⟨h1, h2, h3⟩ := hr.2 i hi
    have e0 : rows.getD i [] = rows[i] := by simp [List.getD_eq_getElem?_getD, hi]
    rw [e0] at h1 h2 h3
    refine ⟨h2, by omega, fun h => h3 ?_⟩
    rw [h]
    exact ⟨rfl, rfl⟩

end Go.Proofs.YteidmimpkipcfaaDoor.Flow
