/- META: merged layers. -/
import Derived.Test.YtejpliaomhpakaaM3
namespace Go.Proofs.Ytejpliaomhpakaa.Flow
open Go

def ff (l : List Fld) (f : Fld) : List Fld := fieldV l f.1 f.2
/-- A layer more, as far as m of its fields: the place, and the list. -/
def outOf (out : List Vec) (v : Vec) : List Vec := if idxI v.1 (out.map (·.1)) < 0 then out ++ [(v.1, [])] else out
def atOf (out : List Vec) (v : Vec) : Nat := if idxI v.1 (out.map (·.1)) < 0 then out.length else (idxI v.1 (out.map (·.1))).toNat
def partOf (out : List Vec) (v : Vec) (m : Nat) : List Vec :=
  (outOf out v).set (atOf out v) (((outOf out v).getD (atOf out v) ([], [])).1, (v.2.take m).foldl ff ((outOf out v).getD (atOf out v) ([], [])).2)
def addV (out : List Vec) (v : Vec) : List Vec := partOf out v v.2.length
def mergeV (a b : List Vec) : List Vec := b.foldl addV a

theorem at_lt (out : List Vec) (v : Vec) : atOf out v < (outOf out v).length := by
  have h := idxI_lt v.1 (out.map (·.1))
  rw [List.length_map] at h
  unfold atOf outOf
  by_cases e : idxI v.1 (out.map (·.1)) < 0
  · rw [if_pos e, if_pos e]; simp
  · rw [if_neg e, if_neg e]; omega

theorem set_self {α : Type} (d : α) (l : List α) (i : Nat) : l.set i (l.getD i d) = l := by
  by_cases h : i < l.length
  · rw [List.getD_eq_getElem?_getD, List.getElem?_eq_getElem h, Option.getD_some, List.set_getElem_self]
  · exact List.set_eq_of_length_le (by omega)

theorem partOf_zero (out : List Vec) (v : Vec) : partOf out v 0 = outOf out v := by
  unfold partOf
  exact set_self ([], []) (outOf out v) (atOf out v)

theorem partOf_len (out : List Vec) (v : Vec) (m : Nat) : (partOf out v m).length = (outOf out v).length := by simp [partOf]

theorem partOf_at (out : List Vec) (v : Vec) (m : Nat) : (partOf out v m).getD (atOf out v) ([], []) = (((outOf out v).getD (atOf out v) ([], [])).1, (v.2.take m).foldl ff ((outOf out v).getD (atOf out v) ([], [])).2) := by
  have h := at_lt out v
  unfold partOf
  simp [List.getD_eq_getElem?_getD, h]

theorem partOf_succ (out : List Vec) (v : Vec) (m : Nat) (hm : m < v.2.length) :
    partOf out v (m + 1) = (partOf out v m).set (atOf out v) (((partOf out v m).getD (atOf out v) ([], [])).1, fieldV ((partOf out v m).getD (atOf out v) ([], [])).2 (v.2.getD m ([], [])).1 (v.2.getD m ([], [])).2) := by
  rw [partOf_at]
  unfold partOf
  rw [List.set_set]
  congr 2
  rw [List.take_add_one, List.foldl_append]
  simp [List.getD_eq_getElem?_getD, hm, ff]

theorem vecF_set (l : List Vec) (j : Nat) (x : Vec) (hj : j < l.length) : ∀ i, putF (vecF l) j [.s x.1, .sl 2 x.2.length (fldF x.2)] i = vecF (l.set j x) i := by
  intro i
  unfold putF vecF
  by_cases h : i = j
  · subst h
    rw [if_pos rfl]
    simp [List.getD_eq_getElem?_getD, hj]
  · rw [if_neg h]
    simp [List.getD_eq_getElem?_getD, List.getElem?_set_ne (Ne.symm h)]

theorem vecF_plain (l : List Vec) (i : Nat) : (vecF l i).all D.plain = true := rfl

theorem vecF_snoc (l : List Vec) (id : Txt) (g : Nat → List D) (hg : g 0 = [.s id, .nilS]) : ∀ i, i < l.length + 1 → WL (catF l.length (vecF l) 1 g i) (vecF (l ++ [(id, [])]) i) := by
  intro i hi
  unfold catF
  by_cases h : i < l.length
  · rw [if_pos h]
    refine .inl ?_
    unfold vecF
    simp [List.getD_eq_getElem?_getD, List.getElem?_append_left h]
  · have e : i = l.length := by omega
    subst e
    rw [if_neg (by omega), if_pos (by omega), Nat.sub_self, hg]
    refine .inr ⟨rfl, rfl, fun j hj => ?_⟩
    have e2 : vecF (l ++ [(id, [])]) l.length = [.s id, .sl 2 0 (fldF [])] := by
      unfold vecF
      simp [List.getD_eq_getElem?_getD]
    rw [e2]
    match j, hj with
    | 0, _ => exact .refl _
    | 1, _ => exact .nil 2 _

/-- Sizes: no more than A layers, F fields each; texts no longer than 2^20. -/
def bnd (A F : Nat) (a : List Vec) : Prop := a.length ≤ A ∧ ∀ v ∈ a, v.1.length ≤ 1048576 ∧ v.2.length ≤ F ∧ ∀ f ∈ v.2, f.1.length ≤ 1048576 ∧ f.2.length ≤ 1048576

theorem bnd_at {A F : Nat} {a : List Vec} (h : bnd A F a) (i : Nat) : (a.getD i ([], [])).1.length ≤ 1048576 ∧ (a.getD i ([], [])).2.length ≤ F ∧ ∀ f ∈ (a.getD i ([], [])).2, f.1.length ≤ 1048576 ∧ f.2.length ≤ 1048576 := by
  by_cases hi : i < a.length
  · rw [List.getD_eq_getElem?_getD, List.getElem?_eq_getElem hi, Option.getD_some]
    exact h.2 _ (List.getElem_mem hi)
  · rw [List.getD_eq_getElem?_getD, List.getElem?_eq_none (by omega), Option.getD_none]
    exact ⟨by simp, by simp, fun f hf => by cases hf⟩

theorem smallV_of_bnd {A F : Nat} {a : List Vec} (h : bnd A F a) (hA : A ≤ 1048576) (hF : F ≤ 1048576) : smallV a := by
  refine ⟨by have := h.1; omega, fun i => ?_⟩
  obtain ⟨h1, h2, h3⟩ := bnd_at h i
  refine ⟨h1, by omega, fun k => ?_⟩
  by_cases hk : k < (a.getD i ([], [])).2.length
  · rw [List.getD_eq_getElem?_getD (l := (a.getD i ([], [])).2), List.getElem?_eq_getElem hk, Option.getD_some]
    exact h3 _ (List.getElem_mem hk)
  · rw [List.getD_eq_getElem?_getD (l := (a.getD i ([], [])).2), List.getElem?_eq_none (by omega), Option.getD_none]
    exact ⟨by simp, by simp⟩

theorem fieldV_bnd {F : Nat} {l : List Fld} {f : Fld} (hl : l.length ≤ F) (hs : ∀ g ∈ l, g.1.length ≤ 1048576 ∧ g.2.length ≤ 1048576) (hf : f.1.length ≤ 1048576 ∧ f.2.length ≤ 1048576) :
    (ff l f).length ≤ F + 1 ∧ ∀ g ∈ ff l f, g.1.length ≤ 1048576 ∧ g.2.length ≤ 1048576 := by
  unfold ff fieldV
  split
  · refine ⟨by simp; omega, fun g hg => ?_⟩
    rcases List.mem_append.1 hg with h | h
    · exact hs g h
    · obtain rfl : g = (f.1, f.2) := by simpa using h
      exact hf
  · split
    · exact ⟨by omega, hs⟩
    · refine ⟨by simp; omega, fun g hg => ?_⟩
      rcases List.mem_or_eq_of_mem_set hg with h | rfl
      · exact hs g h
      · refine ⟨?_, by simp⟩
        show (List.getD l _ ([], [])).1.length ≤ _
        rw [List.getD_eq_getElem?_getD]
        cases hg2 : l[(idxI f.1 (l.map (·.1))).toNat]? with
        | none => simp
        | some x =>
          simp only [Option.getD_some]
          exact (hs x (List.mem_of_getElem? hg2)).1

theorem foldl_bnd {F : Nat} : ∀ {fs l : List Fld}, l.length ≤ F → (∀ g ∈ l, g.1.length ≤ 1048576 ∧ g.2.length ≤ 1048576) → (∀ g ∈ fs, g.1.length ≤ 1048576 ∧ g.2.length ≤ 1048576) →
    (fs.foldl ff l).length ≤ F + fs.length ∧ ∀ g ∈ fs.foldl ff l, g.1.length ≤ 1048576 ∧ g.2.length ≤ 1048576
  | [], l, h1, h2, _ => ⟨by simpa using h1, h2⟩
  | f :: fs, l, h1, h2, h3 => by
    obtain ⟨a, b⟩ := fieldV_bnd h1 h2 (h3 f (by simp))
    obtain ⟨c, d⟩ := foldl_bnd (F := F + 1) (fs := fs) a b (fun g hg => h3 g (by simp [hg]))
    refine ⟨?_, d⟩
    simp only [List.foldl_cons, List.length_cons]
    omega

theorem outOf_bnd {A F : Nat} {out : List Vec} {v : Vec} (h : bnd A F out) (hv : v.1.length ≤ 1048576) : bnd (A + 1) F (outOf out v) := by
  unfold outOf
  split
  · refine ⟨by have := h.1; simp; omega, fun x hx => ?_⟩
    rcases List.mem_append.1 hx with h1 | h1
    · exact h.2 x h1
    · obtain rfl : x = (v.1, []) := by simpa using h1
      exact ⟨hv, by simp, fun f hf => by cases hf⟩
  · exact ⟨by have := h.1; omega, h.2⟩

theorem partOf_bnd {A F G : Nat} {out : List Vec} {v : Vec} (m : Nat) (h : bnd A F out) (hv : v.1.length ≤ 1048576) (hg : v.2.length ≤ G) (hf : ∀ f ∈ v.2, f.1.length ≤ 1048576 ∧ f.2.length ≤ 1048576) : bnd (A + 1) (F + G) (partOf out v m) := by
  have h1 := outOf_bnd (F := F) h hv
  have h2 := bnd_at h1 (atOf out v)
  refine ⟨by rw [partOf_len]; exact h1.1, fun x hx => ?_⟩
  unfold partOf at hx
  rcases List.mem_or_eq_of_mem_set hx with h3 | rfl
  · obtain ⟨a, b, c⟩ := h1.2 x h3
    exact ⟨a, by omega, c⟩
  · obtain ⟨c, d⟩ := foldl_bnd (F := F) (fs := v.2.take m) h2.2.1 h2.2.2 (fun g hg => hf g (List.mem_of_mem_take hg))
    have : (v.2.take m).length ≤ v.2.length := by simp; omega
    exact ⟨h2.1, by show ((v.2.take m).foldl ff ((outOf out v).getD (atOf out v) ([], [])).2).length ≤ _; omega, d⟩

theorem take_succ_foldl {α β : Type} (f : β → α → β) (d : α) (b : List α) (x : β) (i : Nat) (h : i < b.length) : (b.take (i + 1)).foldl f x = f ((b.take i).foldl f x) (b.getD i d) := by
  rw [List.take_add_one, List.foldl_append]
  simp [List.getD_eq_getElem?_getD, h]

/-- What is merged so far. -/
def soFar (a b : List Vec) (i : Nat) : List Vec := (b.take i).foldl addV a

theorem soFar_bnd {a b : List Vec} (ha : bnd 25 25 a) (hb : bnd 25 25 b) : ∀ i, i ≤ b.length → bnd (25 + i) (25 + 25 * i) (soFar a b i)
  | 0, _ => by simpa [soFar] using ha
  | i + 1, h => by
    have ih := soFar_bnd ha hb i (by omega)
    obtain ⟨h1, h2, h3⟩ := bnd_at hb i
    have := partOf_bnd (G := 25) (b.getD i ([], [])).2.length ih h1 h2 h3
    unfold soFar at *
    rw [take_succ_foldl addV ([], []) b a i (by omega)]
    have e : 25 + 25 * (i + 1) = 25 + 25 * i + 25 := by omega
    rw [e]
    exact this

end Go.Proofs.Ytejpliaomhpakaa.Flow
