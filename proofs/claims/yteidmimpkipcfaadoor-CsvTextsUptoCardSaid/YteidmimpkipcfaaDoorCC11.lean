/- CSV: a plain text is read as its rows: no program in sight. -/
import Derived.Test.YteidmimpkipcfaaDoorCC10
namespace Go.Proofs.YteidmimpkipcfaaDoor.Flow
open Go

/-- A byte that a plain field may hold. -/
def plainB (c : UInt8) : Prop := c ≠ 44 ∧ c ≠ 34 ∧ c ≠ 10 ∧ c ≠ 13
def plainT (f : List UInt8) : Prop := ∀ c ∈ f, plainB c

/-- What may follow a field: nothing, or one of these bytes. -/
def stops : List UInt8 → Prop
  | [] => True
  | c :: r => c = 44 ∨ c = 10 ∨ (c = 13 ∧ r.head? = some 10)

/-- What may follow a row. -/
def rowStops : List UInt8 → Prop
  | [] => True
  | c :: r => c = 10 ∨ (c = 13 ∧ r.head? = some 10)

theorem at_app (p r : List UInt8) (j : Nat) : at' (p ++ r) ((p.length : Int) + (j : Int)) = ((r.getD j 0).toNat : Int) := by
  unfold at'
  rw [show ((p.length : Int) + (j : Int)).toNat = p.length + j by omega]
  simp [List.getD_eq_getElem?_getD, List.getElem?_append_right]

theorem at_app0 (p r : List UInt8) : at' (p ++ r) (p.length : Int) = ((r.getD 0 0).toNat : Int) := by
  have := at_app p r 0
  simpa using this

theorem u8_ne {c d : UInt8} (h : c ≠ d) : ¬ (c.toNat : Int) = (d.toNat : Int) := fun e => h (UInt8.toNat.inj (by exact_mod_cast e))

theorem endF_row (p r : List UInt8) (h : rowStops r) : endF (p ++ r) (p.length : Int) = match r with | [] => 0 | c :: _ => if c = 10 then 1 else 2 := by
  unfold endF
  have h1 := at_app p r 1
  rw [at_app0]
  rw [show ((p.length : Int) + ((1 : Nat) : Int)) = (p.length : Int) + 1 by omega] at h1
  rw [h1]
  match r, h with
  | [], _ => simp
  | c :: r, .inl h => subst h; simp; omega
  | c :: d :: r, .inr ⟨h, h2⟩ =>
    subst h
    simp at h2
    subst h2
    simp
    omega

theorem overF_stops (p r : List UInt8) (h : stops r) : overF (p ++ r) (p.length : Int) = true := by
  match r, h with
  | [], _ => simp [overF]
  | c :: r, .inl h => subst h; simp [overF, at_app0]
  | c :: r, .inr h =>
    have : 0 < endF (p ++ c :: r) (p.length : Int) := by
      rw [endF_row p (c :: r) h]
      simp only
      split <;> omega
    simp [overF, this]

theorem overF_plain (p r : List UInt8) (c : UInt8) (h : plainB c) : overF (p ++ c :: r) (p.length : Int) = false := by
  obtain ⟨h1, h2, h3, h4⟩ := h
  have e := at_app0 p (c :: r)
  simp only [List.getD_cons_zero] at e
  have n1 := u8_ne h1
  have n3 := u8_ne h3
  have n4 := u8_ne h4
  have e0 : endF (p ++ c :: r) (p.length : Int) = 0 := by
    unfold endF
    rw [e, if_neg (fun h => n3 h.2), if_neg (fun h => n4 h.2.1)]
  have n1' : ¬ (c.toNat : Int) = 44 := n1
  simp only [overF, e0, e, List.length_append, List.length_cons]
  simp [n1']
  omega

theorem plainF_run (f : List UInt8) : ∀ (p r b : List UInt8), plainT f → stops r → plainF (p ++ f ++ r) (p.length : Int) b = (b ++ f, ((p.length + f.length : Nat) : Int), 0) := by
  induction f with
  | nil =>
    intro p r b _ hr
    rw [List.append_nil, plainF_over (overF_stops p r hr)]
    simp
  | cons c f ih =>
    intro p r b hf hr
    have hc := hf c (by simp)
    have e : p ++ c :: f ++ r = p ++ c :: (f ++ r) := by simp
    have ha := at_app0 p (c :: (f ++ r))
    simp only [List.getD_cons_zero] at ha
    rw [e, plainF_more (overF_plain p (f ++ r) c hc) (by rw [ha]; exact u8_ne hc.2.1) (by rw [ha]; exact u8_ne hc.2.2.2)]
    have e2 : p ++ c :: (f ++ r) = (p ++ [c]) ++ f ++ r := by simp
    have e3 : ((p.length : Int) + 1) = (((p ++ [c]).length : Nat) : Int) := by simp
    have e4 : (p ++ c :: (f ++ r)).getD ((p.length : Int)).toNat 0 = c := by simp [List.getD_eq_getElem?_getD]
    rw [e4, e3, e2, ih (p ++ [c]) r (b ++ [c]) (fun d hd => hf d (by simp [hd])) hr]
    simp
    omega

theorem fieldF_plain (p f r : List UInt8) (hf : plainT f) (hr : stops r) : fieldF (p ++ f ++ r) (p.length : Int) = (f, ((p.length + f.length : Nat) : Int), 0) := by
  have h34 : ¬ ((p.length : Int) < (p ++ f ++ r).length ∧ at' (p ++ f ++ r) (p.length : Int) = 34) := fun h => by
    have ha := at_app0 p (f ++ r)
    rw [← List.append_assoc] at ha
    rw [ha] at h
    match f, r, hf, hr with
    | [], [], _, _ => simp at h
    | [], c :: r, _, hr =>
      simp only [List.nil_append, List.getD_cons_zero] at h
      have h2 := h.2
      rcases hr with rfl | rfl | ⟨rfl, _⟩ <;> simp at h2
    | c :: f, r, hf, _ =>
      simp only [List.cons_append, List.getD_cons_zero] at h
      exact u8_ne (hf c (by simp)).2.1 h.2
  rw [fieldF, if_neg h34, plainF_run f p r [] hf hr]
  simp

/-- The fields behind the first. -/
def tailText : List (List UInt8) → List UInt8
  | [] => []
  | f :: t => 44 :: (f ++ tailText t)
def rowText : List (List UInt8) → List UInt8
  | [] => []
  | f :: t => f ++ tailText t

theorem rowStops_stops {r : List UInt8} (h : rowStops r) : stops r := by
  match r, h with
  | [], _ => trivial
  | c :: r, h => exact .inr h

theorem rowG_plain (l : List (List UInt8)) : ∀ (f p r : List UInt8) (acc : List (List UInt8)), plainT f → (∀ g ∈ l, plainT g) → rowStops r →
    rowG (p ++ (f ++ tailText l) ++ r) (p.length : Int) acc = (acc ++ f :: l, ((p.length + (f ++ tailText l).length : Nat) : Int), 0) := by
  induction l with
  | nil =>
    intro f p r acc hf _ hr
    simp only [tailText, List.append_nil]
    have hF := fieldF_plain p f r hf (rowStops_stops hr)
    rw [rowG_end (by rw [hF])]
    · rw [hF]
    · rw [hF]
      intro h1 h2
      have e : p ++ f ++ r = (p ++ f) ++ r := rfl
      have ha := at_app0 (p ++ f) r
      rw [List.length_append] at ha
      simp only at h2
      rw [ha] at h2
      match r, hr with
      | [], _ => simp at h1
      | c :: r, hr =>
        simp only [List.getD_cons_zero] at h2
        rcases hr with rfl | ⟨rfl, _⟩ <;> simp at h2
  | cons g l ih =>
    intro f p r acc hf hl hr
    have e : p ++ (f ++ tailText (g :: l)) ++ r = p ++ f ++ (44 :: (g ++ tailText l ++ r)) := by simp [tailText]
    have hF := fieldF_plain p f (44 :: (g ++ tailText l ++ r)) hf (.inl rfl)
    rw [e]
    have hlen : (p ++ f ++ 44 :: (g ++ tailText l ++ r)).length = p.length + f.length + 1 + (g ++ tailText l ++ r).length := by simp; omega
    rw [rowG_more (by omega) (by rw [hlen]; omega) (by rw [hF]) (by rw [hF, hlen]; dsimp only; omega) (by
      rw [hF]
      have ha := at_app0 (p ++ f) (44 :: (g ++ tailText l ++ r))
      rw [List.length_append] at ha
      simp only
      rw [ha]
      simp)]
    rw [hF]
    have e2 : p ++ f ++ (44 :: (g ++ tailText l ++ r)) = (p ++ f ++ [44]) ++ (g ++ tailText l) ++ r := by simp
    have e3 : (((p.length + f.length : Nat) : Int) + 1) = (((p ++ f ++ [44]).length : Nat) : Int) := by simp; omega
    dsimp only
    rw [e3, e2, ih g (p ++ f ++ [44]) r (acc ++ [f]) (hl g (by simp)) (fun x hx => hl x (by simp [hx])) hr]
    simp [tailText]
    omega

/-- Rows, each with its end (the last one's is told apart). -/
def tabText (e le : List UInt8) : List (List (List UInt8)) → List UInt8
  | [] => []
  | [l] => rowText l ++ le
  | l :: m :: t => rowText l ++ e ++ tabText e le (m :: t)

def isEnd (e : List UInt8) : Prop := e = [10] ∨ e = [13, 10]

theorem isEnd_stops {e r : List UInt8} (h : isEnd e) : rowStops (e ++ r) := by
  rcases h with rfl | rfl
  · exact .inl rfl
  · exact .inr ⟨rfl, rfl⟩

theorem endF_isEnd (p r e : List UInt8) (h : isEnd e) : endF (p ++ (e ++ r)) (p.length : Int) = (e.length : Int) := by
  rw [endF_row p (e ++ r) (isEnd_stops h)]
  rcases h with rfl | rfl <;> simp

/-- A row that is not lost: it has a byte of its own, or an end. -/
theorem tabG_plain (e le : List UInt8) (he : isEnd e) (hle : le = [] ∨ isEnd le) (N : Nat) : ∀ (rows : List (List (List UInt8))) (p : List UInt8) (acc : List (List (List UInt8))), (∀ l ∈ rows, l.length = N ∧ 1 ≤ N ∧ ¬ (l = [[]]) ∧ ∀ f ∈ l, plainT f) →
    (∀ l ∈ acc, l.length = N) → acc.length + rows.length ≤ 65536 → tabG (p ++ tabText e le rows) (p.length : Int) acc = (acc ++ rows, ((p ++ tabText e le rows).length : Int), 0) := by
  intro rows
  induction rows with
  | nil =>
    intro p acc _ _ _
    rw [tabG_none (by simp [tabText])]
    simp
  | cons l rows ih =>
    intro p acc hrows hacc hlen
    obtain ⟨h1, h2, h3, h4⟩ := hrows l (by simp)
    obtain ⟨f, t, rfl⟩ : ∃ f t, l = f :: t := by
      cases l with
      | nil => simp at h1; omega
      | cons f t => exact ⟨f, t, rfl⟩
    have hne : 0 < (rowText (f :: t)).length := by
      simp only [rowText, List.length_append]
      cases t with
      | nil =>
        cases f with
        | nil => exact absurd rfl h3
        | cons => simp; omega
      | cons g t => simp [tailText]; omega
    -- the row's own end, and the rest
    obtain ⟨q, rest, hq, hqe, hrest⟩ : ∃ q rest, tabText e le ((f :: t) :: rows) = rowText (f :: t) ++ (q ++ rest) ∧ ((q = [] ∧ rest = []) ∨ isEnd q) ∧ rest = tabText e le rows := by
      cases rows with
      | nil =>
        refine ⟨le, [], by simp [tabText], ?_, rfl⟩
        rcases hle with rfl | h
        · exact .inl ⟨rfl, rfl⟩
        · exact .inr h
      | cons m rows => exact ⟨e, tabText e le (m :: rows), by simp [tabText], .inr he, rfl⟩
    have hrs : rowStops (q ++ rest) := by
      rcases hqe with ⟨rfl, rfl⟩ | h
      · trivial
      · exact isEnd_stops h
    have hG := rowG_plain t f p (q ++ rest) [] (h4 f (by simp)) (fun g hg => h4 g (by simp [hg])) hrs
    have eS : p ++ tabText e le ((f :: t) :: rows) = p ++ (f ++ tailText t) ++ (q ++ rest) := by rw [hq]; simp [rowText]
    have hE : endF (p ++ tabText e le ((f :: t) :: rows)) (((p ++ (f ++ tailText t)).length : Nat) : Int) = (q.length : Int) := by
      rw [eS]
      rcases hqe with ⟨rfl, rfl⟩ | h
      · have := endF_row (p ++ (f ++ tailText t)) [] trivial
        simpa using this
      · exact endF_isEnd _ _ _ h
    rw [eS] at hE ⊢
    simp only [List.nil_append] at hG
    have hL : (p ++ (f ++ tailText t) ++ (q ++ rest)).length = p.length + (rowText (f :: t)).length + (q ++ rest).length := by simp [rowText]; omega
    rw [tabG_more (by omega) (by rw [hL]; omega) (by simp at hlen; omega) (by rw [hG]) (fun h0 => by
      rw [hG]
      have : acc.getD 0 [] ∈ acc := by
        rw [List.getD_eq_getElem?_getD, List.getElem?_eq_getElem h0]
        exact List.getElem_mem h0
      rw [hacc _ this, h1])]
    rw [hG]
    dsimp only
    rw [show ((p.length + (f ++ tailText t).length : Nat) : Int) = (((p ++ (f ++ tailText t)).length : Nat) : Int) by simp, hE]
    have e5 : (((p ++ (f ++ tailText t)).length : Nat) : Int) + (q.length : Int) = (((p ++ (f ++ tailText t) ++ q).length : Nat) : Int) := by simp; omega
    have e6 : p ++ (f ++ tailText t) ++ (q ++ rest) = (p ++ (f ++ tailText t) ++ q) ++ tabText e le rows := by rw [← hrest]; simp
    rw [e5, e6, ih (p ++ (f ++ tailText t) ++ q) (acc ++ [f :: t]) (fun l hl => hrows l (by simp [hl])) (fun l hl => by
      rcases List.mem_append.1 hl with hl | hl
      · exact hacc l hl
      · rw [List.mem_singleton] at hl
        subst hl
        exact h1) (by simp at hlen ⊢; omega)]
    simp

theorem parseG_plain (e le : List UInt8) (he : isEnd e) (hle : le = [] ∨ isEnd le) (rows : List (List (List UInt8))) (hr : rightTab rows) (hp : ∀ l ∈ rows, ∀ f ∈ l, plainT f) (hs : (tabText e le rows).length ≤ 1048576) :
    parseG (tabText e le rows) = (rows, ((tabText e le rows).length : Int), 0) := by
  unfold parseG
  rw [if_neg (by omega)]
  have := tabG_plain e le he hle (rows.getD 0 []).length rows [] [] (fun l hl => ?_) (by simp) (by simpa using hr.1)
  · simpa using this
  · obtain ⟨i, hi, rfl⟩ := List.getElem_of_mem hl
    obtain ⟨h1, h2, h3⟩ := hr.2 i hi
    have e0 : rows.getD i [] = rows[i] := by simp [List.getD_eq_getElem?_getD, hi]
    rw [e0] at h1 h2 h3
    refine ⟨h2, by omega, fun h => h3 ?_, fun f hf => hp _ hl f hf⟩
    rw [h]
    exact ⟨rfl, rfl⟩

end Go.Proofs.YteidmimpkipcfaaDoor.Flow
