/- CSV: the document's side. -/
import Derived.Test.YteidmimpkipcfaaDoorCFlowO
namespace Go.Proofs.YteidmimpkipcfaaDoor.Flow
open Go

def endF (s : List UInt8) (i : Int) : Int :=
  if i < s.length ∧ at' s i = 10 then 1 else if i + 1 < s.length ∧ at' s i = 13 ∧ at' s (i+1) = 10 then 2 else 0

def overF (s : List UInt8) (i : Int) : Bool := decide (s.length ≤ i) || decide (at' s i = 44) || decide (endF s i > 0)

def quotF (s : List UInt8) (i : Int) (b : List UInt8) : List UInt8 × Int × Int :=
  if h : i < s.length then
    if at' s i ≠ 34 then quotF s (i + 1) (b ++ [s.getD i.toNat 0])
    else if i + 1 < s.length ∧ at' s (i + 1) = 34 then quotF s (i + 2) (b ++ [34])
    else if overF s (i + 1) then (b, i + 1, 0)
    else ([], i + 1, 3)
  else ([], i, 2)
termination_by (s.length - i).toNat
decreasing_by all_goals omega

def plainF (s : List UInt8) (i : Int) (b : List UInt8) : List UInt8 × Int × Int :=
  if h : overF s i then (b, i, 0)
  else if at' s i = 34 ∨ at' s i = 13 then ([], i, 3)
  else plainF s (i + 1) (b ++ [s.getD i.toNat 0])
termination_by (s.length - i).toNat
decreasing_by
  have : ¬ s.length ≤ i := by
    intro h'
    apply h
    simp [overF, h']
  omega

def fieldF (s : List UInt8) (i : Int) : List UInt8 × Int × Int :=
  if i < s.length ∧ at' s i = 34 then quotF s (i + 1) [] else plainF s i []

def three (x : List UInt8 × Int × Int) : D := .tu [.s x.1, .i .i64 x.2.1, .i .i64 x.2.2]

theorem byte_eq (x : UInt8) (n : Nat) (h : n < 256) : (x.toNat : Int) = n ↔ x = UInt8.ofNat n := by
  constructor
  · intro h1
    have h2 : x.toNat = n := by exact_mod_cast h1
    apply UInt8.toNat.inj
    simp [h2]; omega
  · intro h1
    subst h1
    simp; omega

theorem bytesOf_bytesF (l : List UInt8) : bytesOf l.length (bytesF l) = l := by
  apply List.ext_getElem
  · simp [bytesOf]
  · intro n h1 h2
    simp [bytesOf, bytesF, byteOf, h2]

theorem catF_byte (l : List UInt8) (x : UInt8) (g : Nat → List D) (hg : g 0 = [.i .u8 (x.toNat : Int)]) : catF l.length (bytesF l) 1 g = bytesF (l ++ [x]) := by
  funext j
  unfold catF
  by_cases h : j < l.length
  · rw [if_pos h]
    simp [bytesF, List.getD_eq_getElem?_getD, h, List.getElem?_append_left]
  · rw [if_neg h]
    by_cases h2 : j < l.length + 1
    · have : j = l.length := by omega
      subst this
      simp [hg, bytesF]
    · rw [if_neg h2]
      simp [bytesF, List.getD_eq_getElem?_getD, show l.length ≤ j by omega]
      rw [List.getElem?_eq_none (by simp; omega)]
      rfl

/-- The growing row of bytes after one more. -/
theorem gs_byte (k : Nat) (l : List UInt8) (x : UInt8) (g : Nat → List D) (hg : g 0 = [.i .u8 (x.toNat : Int)]) : D.gs k 1 (l.length + 1) (catF l.length (bytesF l) 1 g) = D.gs k 1 (l ++ [x]).length (bytesF (l ++ [x])) := by
  rw [catF_byte l x g hg]
  simp

theorem endF_pos (s : List UInt8) (i : Int) : 0 ≤ endF s i ∧ endF s i ≤ 2 := by
  unfold endF
  split
  · omega
  · split <;> omega

theorem endF_le (s : List UInt8) (i : Int) (h : i ≤ s.length) : i + endF s i ≤ s.length := by
  unfold endF
  split
  · omega
  · split <;> omega

end Go.Proofs.YteidmimpkipcfaaDoor.Flow
