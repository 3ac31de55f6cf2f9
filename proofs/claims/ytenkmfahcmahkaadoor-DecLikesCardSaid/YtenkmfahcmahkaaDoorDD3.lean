/- DEC: the number that a text begins with, as both read it. -/
import Derived.Test.YtenkmfahcmahkaaDoorDD2
namespace Go.Proofs.YtenkmfahcmahkaaDoor.Flow
open Go

def isD (c : UInt8) : Bool := decide (48 ≤ (c.toNat : Int) ∧ (c.toNat : Int) ≤ 57)
theorem isD_iff {c : UInt8} : isD c = true ↔ 48 ≤ (c.toNat : Int) ∧ (c.toNat : Int) ≤ 57 := by simp [isD]

/-- The digits from a place on. -/
def dgT (s : List UInt8) (i : Nat) : List UInt8 := (s.drop i).takeWhile isD

theorem drop_cons {s : List UInt8} {i : Nat} (h : i < s.length) : s.drop i = s.getD i 0 :: s.drop (i + 1) := by
  rw [List.drop_eq_getElem_cons h]
  simp [List.getD_eq_getElem?_getD, h]

theorem dgT_more {s : List UInt8} {i : Nat} (h : i < s.length) (h2 : 48 ≤ at' s i ∧ at' s i ≤ 57) : dgT s i = s.getD i 0 :: dgT s (i + 1) := by
  unfold dgT
  rw [drop_cons h, List.takeWhile_cons, if_pos]
  exact isD_iff.2 h2

theorem dgT_stop {s : List UInt8} {i : Nat} (h : ¬ i < s.length ∨ ¬ (48 ≤ at' s i ∧ at' s i ≤ 57)) : dgT s i = [] := by
  unfold dgT
  by_cases hi : i < s.length
  · rw [drop_cons hi, List.takeWhile_cons, if_neg]
    intro h2
    rcases h with h | h
    · exact h hi
    · exact h (isD_iff.1 h2)
  · rw [List.drop_eq_nil_of_le (by omega)]
    rfl

theorem takeWhile_take {p : UInt8 → Bool} : ∀ l : List UInt8, l.take (l.takeWhile p).length = l.takeWhile p
  | [] => by simp
  | c :: r => by
    rw [List.takeWhile_cons]
    split
    · simp [takeWhile_take r]
    · simp

theorem dgT_len (s : List UInt8) (i : Nat) : (dgT s i).length ≤ s.length - i := by
  have := List.takeWhile_sublist (p := isD) (l := s.drop i)
  have := this.length_le
  unfold dgT
  simpa using this

theorem dgT_cut (s : List UInt8) (i : Nat) : (s.take (i + (dgT s i).length)).drop i = dgT s i := by
  rw [List.drop_take, show i + (dgT s i).length - i = (dgT s i).length by omega]
  exact takeWhile_take _

theorem dgT_digit (s : List UInt8) (i : Nat) : ∀ c ∈ dgT s i, isD c = true := fun c hc => by
  unfold dgT at hc
  generalize s.drop i = l at hc
  induction l with
  | nil => simp at hc
  | cons a r ih =>
    rw [List.takeWhile_cons] at hc
    split at hc
    · rcases List.mem_cons.1 hc with rfl | hc
      · assumption
      · exact ih hc
    · simp at hc

def sat (s : List UInt8) (i : Nat) (c : Int) : Prop := i < s.length ∧ at' s i = c
instance (s : List UInt8) (i : Nat) (c : Int) : Decidable (sat s i c) := by unfold sat; infer_instance

/-- The whole part from a place on: the digits, the place behind. -/
def whN (s : List UInt8) (i : Nat) : List UInt8 × Nat := if sat s i 48 then ([48], i + 1) else (dgT s i, i + (dgT s i).length)
/-- The part behind the point. -/
def frN (s : List UInt8) (j : Nat) : List UInt8 × Nat := if sat s j 46 ∧ ¬ dgT s (j + 1) = [] then (dgT s (j + 1), j + 1 + (dgT s (j + 1)).length) else ([], j)
/-- Behind the letter of the exponent: where its digits begin. -/
def sgN (s : List UInt8) (a : Nat) : Nat := if sat s a 43 ∨ sat s a 45 then a + 1 else a
/-- The exponent, by a reckoning of its digits. -/
def exN (pw : List UInt8 → Int) (s : List UInt8) (k : Nat) : Int × Nat :=
  if (sat s k 101 ∨ sat s k 69) ∧ ¬ dgT s (sgN s (k + 1)) = [] then
    (if sat s (k + 1) 45 then -pw (dgT s (sgN s (k + 1))) else pw (dgT s (sgN s (k + 1))), sgN s (k + 1) + (dgT s (sgN s (k + 1))).length)
  else (0, k)

def sg0 (s : List UInt8) : Nat := if sat s 0 45 then 1 else 0

def parseG (pw : List UInt8 → Int) (s : List UInt8) : (Bool × List UInt8 × Int) × Nat × Int :=
  if (whN s (sg0 s)).1 = [] then ((false, [], 0), 0, 3)
  else
    let w := whN s (sg0 s)
    let f := frN s w.2
    let x := exN pw s f.2
    let r := normF (decide (sat s 0 45)) (w.1 ++ f.1) (x.1 - f.1.length)
    if r.2 = 0 then (r.1, x.2, 0) else ((false, [], 0), 0, r.2)

/-- The program's exponent: at most 2^40. -/
def powP (x : List UInt8) : Int := x.foldl (fun n c => min (10 * n + ((c.toNat : Int) - 48)) 1099511627776) 0
/-- The reference's: no digit more, once it is great. -/
def powR (x : List UInt8) : Int := x.foldl (fun n c => if n < 1000000000 then 10 * n + (c.toNat : Int) - 48 else n) 0

theorem pow_both : ∀ (x : List UInt8) (a b : Int), (∀ c ∈ x, isD c = true) → 0 ≤ a → (a = b ∧ a < 1000000000 ∨ 1000000000 ≤ a ∧ 1000000000 ≤ b) →
    let p := x.foldl (fun n c => min (10 * n + ((c.toNat : Int) - 48)) 1099511627776) a
    let r := x.foldl (fun n c => if n < 1000000000 then 10 * n + (c.toNat : Int) - 48 else n) b
    0 ≤ p ∧ (p = r ∧ p < 1000000000 ∨ 1000000000 ≤ p ∧ 1000000000 ≤ r)
  | [], a, b, _, h0, h => ⟨h0, h⟩
  | c :: x, a, b, hx, h0, h => by
    have hc := isD_iff.1 (hx c (by simp))
    simp only [List.foldl_cons]
    refine pow_both x _ _ (fun c h => hx c (by simp [h])) (by omega) ?_
    split <;> omega

theorem pow_eq (x : List UInt8) (hx : ∀ c ∈ x, isD c = true) : 0 ≤ powP x ∧ (powP x = powR x ∧ powP x < 1000000000 ∨ 1000000000 ≤ powP x ∧ 1000000000 ≤ powR x) := pow_both x 0 0 hx (by omega) (.inl ⟨rfl, by omega⟩)

theorem powP_le : ∀ (x : List UInt8) (a : Int), a ≤ 1099511627776 → x.foldl (fun n c => min (10 * n + ((c.toNat : Int) - 48)) 1099511627776) a ≤ 1099511627776
  | [], a, h => h
  | c :: x, a, h => by
    simp only [List.foldl_cons]
    exact powP_le x _ (by omega)

/-- Great exponents are all alike. -/
theorem norm_far (neg : Bool) (d : List UInt8) (e e' : Int) (h1 : d.length ≤ 1000) (h : e = e' ∨ (100000 ≤ e ∧ 100000 ≤ e') ∨ (e ≤ -100000 ∧ e' ≤ -100000)) : normF neg d e = normF neg d e' := by
  have l := tR_len d
  rcases h with rfl | h
  · rfl
  · unfold normF
    split
    · rfl
    · split
      · rfl
      · rw [if_pos (by omega), if_pos (by omega)]

theorem parse_same (s : List UInt8) (hs : s.length ≤ 500) : parseG powP s = parseG powR s := by
  unfold parseG
  split
  · rfl
  · have hf : (frN s (whN s (sg0 s)).2).1.length ≤ 500 := by
      unfold frN
      split
      · have := dgT_len s ((whN s (sg0 s)).2 + 1)
        dsimp only
        omega
      · simp
    have hw : (whN s (sg0 s)).1.length ≤ 500 := by
      unfold whN
      split
      · simp
      · have := dgT_len s (sg0 s)
        dsimp only
        omega
    dsimp only
    generalize (frN s (whN s (sg0 s)).2).2 = k
    generalize (frN s (whN s (sg0 s)).2).1 = f at *
    generalize (whN s (sg0 s)).1 = w at *
    have e2 : (exN powP s k).2 = (exN powR s k).2 := by
      unfold exN
      split <;> rfl
    have e1 : normF (decide (sat s 0 45)) (w ++ f) ((exN powP s k).1 - f.length) = normF (decide (sat s 0 45)) (w ++ f) ((exN powR s k).1 - f.length) := by
      refine norm_far _ _ _ _ (by rw [List.length_append]; omega) ?_
      unfold exN
      split
      · have := pow_eq (dgT s (sgN s (k + 1))) (dgT_digit _ _)
        dsimp only
        split <;> omega
      · exact .inl rfl
    rw [e1, e2]

end Go.Proofs.YtenkmfahcmahkaaDoor.Flow
