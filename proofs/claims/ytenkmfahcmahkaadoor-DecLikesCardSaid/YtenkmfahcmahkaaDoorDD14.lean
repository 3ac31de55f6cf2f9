/- DEC: numbers and their digits, in plain words. -/
import Derived.Test.YtenkmfahcmahkaaDoorDD6
import Derived.Test.YtenkmfahcmahkaaDoorDD10
namespace Go.Proofs.YtenkmfahcmahkaaDoor.Flow
open Go

/-- Digits as a number. -/
def numA (a : Nat) (l : List UInt8) : Nat := l.foldl (fun n c => 10 * n + (c.toNat - 48)) a
def numL (l : List UInt8) : Nat := numA 0 l

theorem numA_nil (a : Nat) : numA a [] = a := rfl
theorem numA_cons (a : Nat) (c : UInt8) (l : List UInt8) : numA a (c :: l) = numA (10 * a + (c.toNat - 48)) l := by
  unfold numA
  rw [List.foldl_cons]
theorem numA_app (a : Nat) (l m : List UInt8) : numA a (l ++ m) = numA (numA a l) m := by simp [numA]
theorem numA_eq (l : List UInt8) : ∀ a : Nat, numA a l = a * 10 ^ l.length + numL l := by
  induction l with
  | nil =>
    intro a
    simp [numA_nil, numL]
  | cons c l ih =>
    intro a
    have h1 := numA_cons a c l
    have h2 : numL (c :: l) = numA (10 * 0 + (c.toNat - 48)) l := numA_cons 0 c l
    rw [h1, h2, ih, ih (10 * 0 + (c.toNat - 48)), List.length_cons, Nat.pow_succ]
    generalize 10 ^ l.length = t
    generalize c.toNat - 48 = d
    have h3 : 10 * a * t = a * (t * 10) := by rw [Nat.mul_comm 10 a, Nat.mul_assoc, Nat.mul_comm 10 t]
    rw [Nat.add_mul, h3, Nat.mul_zero, Nat.zero_add]
    omega
theorem numL_cons (c : UInt8) (l : List UInt8) : numL (c :: l) = (c.toNat - 48) * 10 ^ l.length + numL l := by
  have : numL (c :: l) = numA (10 * 0 + (c.toNat - 48)) l := numA_cons 0 c l
  rw [this, numA_eq]
  simp
theorem numL_snoc (l : List UInt8) (c : UInt8) : numL (l ++ [c]) = 10 * numL l + (c.toNat - 48) := by
  unfold numL
  rw [numA_app]
  rfl

theorem isD_nat {c : UInt8} (h : isD c = true) : 48 ≤ c.toNat ∧ c.toNat ≤ 57 := by
  have := isD_iff.1 h
  omega

theorem numL_lt : ∀ (l : List UInt8), (∀ c ∈ l, isD c = true) → numL l < 10 ^ l.length
  | [], _ => by decide
  | c :: l, h => by
    have h1 := isD_nat (h c (by simp))
    have h2 := numL_lt l fun c hc => h c (by simp [hc])
    rw [numL_cons, List.length_cons, Nat.pow_succ]
    have h3 : (c.toNat - 48) * 10 ^ l.length ≤ 9 * 10 ^ l.length := Nat.mul_le_mul_right _ (by omega)
    omega

theorem numL_ge {c : UInt8} {l : List UInt8} (h : isD c = true) (h2 : ¬ c = 48) : 10 ^ l.length ≤ numL (c :: l) := by
  have h1 := isD_nat h
  have h3 : ¬ c.toNat = 48 := fun h => h2 (UInt8.toNat_inj.1 h)
  rw [numL_cons]
  have h4 : 1 * 10 ^ l.length ≤ (c.toNat - 48) * 10 ^ l.length := Nat.mul_le_mul_right _ (by omega)
  omega

theorem dec_step {k : Nat} (h : ¬ k < 10) : Lib.decDigits k = Lib.decDigits (k / 10) ++ [UInt8.ofNat (48 + k % 10)] := by rw [Lib.decDigits, dif_neg h]
theorem dec_small {k : Nat} (h : k < 10) : Lib.decDigits k = [UInt8.ofNat (48 + k)] := by rw [Lib.decDigits, dif_pos h]

theorem isD_dig {n : Nat} (h : n < 10) : isD (UInt8.ofNat (48 + n)) = true ∧ (UInt8.ofNat (48 + n)).toNat = 48 + n := by
  have : (UInt8.ofNat (48 + n)).toNat = 48 + n := by simp; omega
  exact ⟨isD_iff.2 (by omega), this⟩

theorem dec_isD (k : Nat) : ∀ c ∈ Lib.decDigits k, isD c = true := by
  induction k using Nat.strongRecOn with
  | ind k ih =>
    by_cases h : k < 10
    · rw [dec_small h]
      intro c hc
      rw [List.mem_singleton.1 hc]
      exact (isD_dig h).1
    · rw [dec_step h]
      intro c hc
      rcases List.mem_append.1 hc with hc | hc
      · exact ih (k / 10) (by omega) c hc
      · rw [List.mem_singleton.1 hc]
        exact (isD_dig (by omega)).1

theorem dec_num (k : Nat) : numL (Lib.decDigits k) = k := by
  induction k using Nat.strongRecOn with
  | ind k ih =>
    by_cases h : k < 10
    · rw [dec_small h, numL_cons, (isD_dig h).2]
      simp [numL, numA]
    · rw [dec_step h, numL_snoc, (isD_dig (by omega)).2, ih (k / 10) (by omega)]
      omega

/-- A number that isn't 0 begins with no 0. -/
theorem dec_first (k : Nat) (h : ¬ k = 0) : ∃ c l, Lib.decDigits k = c :: l ∧ ¬ c = 48 := by
  induction k using Nat.strongRecOn with
  | ind k ih =>
    by_cases h2 : k < 10
    · refine ⟨_, [], dec_small h2, fun h3 => ?_⟩
      have := congrArg UInt8.toNat h3
      rw [(isD_dig h2).2] at this
      have : (48 : UInt8).toNat = 48 := rfl
      omega
    · obtain ⟨c, l, h3, h4⟩ := ih (k / 10) (by omega) (by omega)
      exact ⟨c, l ++ [UInt8.ofNat (48 + k % 10)], by rw [dec_step h2, h3]; rfl, h4⟩

theorem dec_len (k n : Nat) (h : k < 10 ^ n) (hn : 1 ≤ n) : (Lib.decDigits k).length ≤ n := by
  induction n generalizing k with
  | zero => omega
  | succ n ih =>
    by_cases h2 : k < 10
    · rw [dec_small h2]
      simp
    · rw [dec_step h2, List.length_append, List.length_singleton]
      rw [Nat.pow_succ] at h
      by_cases hz : n = 0
      · subst hz
        omega
      · have := ih (k / 10) (by omega) (by omega)
        omega

theorem dec_ten (k : Nat) (h : ¬ k = 0) : Lib.decDigits (10 * k) = Lib.decDigits k ++ [48] := by
  rw [dec_step (by omega), show 10 * k / 10 = k by omega, show 10 * k % 10 = 0 by omega]
  rfl

/-- The digits of a number, none of 0. -/
def dig0 (k : Nat) : List UInt8 := if k = 0 then [] else Lib.decDigits k
theorem dig0_step {k : Nat} (h : ¬ k = 0) : dig0 k = dig0 (k / 10) ++ [UInt8.ofNat (48 + k % 10)] := by
  unfold dig0
  rw [if_neg h]
  by_cases h2 : k < 10
  · rw [dec_small h2, if_pos (by omega), show k % 10 = k by omega]
    rfl
  · rw [dec_step h2, if_neg (by omega)]

theorem norm_none (neg : Bool) (e : Int) : normF neg [] e = ((false, [], 0), 0) := rfl
theorem norm_zero (neg : Bool) (e : Int) : normF neg [48] e = ((false, [], 0), 0) := by
  unfold normF
  rw [if_pos (by decide)]
theorem norm_dig0 (neg : Bool) (k : Nat) (e : Int) : normF neg (dig0 k) e = normF neg (Lib.decDigits k) e := by
  unfold dig0
  split
  · rename_i h
    subst h
    rw [norm_none, show Lib.decDigits 0 = [48] from dec_small (by omega), norm_zero]
  · rfl

/-! ### Zeros at the ends -/

theorem tR_split (s : List UInt8) : s = tR s ++ zs (s.length - (tR s).length) := by
  have key : ∀ (n : Nat) (s : List UInt8), s.length = n → s = tR s ++ zs (s.length - (tR s).length) := by
    intro n
    induction n with
    | zero =>
      intro s h
      obtain rfl := List.length_eq_zero_iff.1 h
      rfl
    | succ n ih =>
      intro s h
      rcases snoc_casesU s with rfl | ⟨r, c, rfl⟩
      · simp at h
      · by_cases hc : c = 48
        · subst hc
          rw [tR_snoc_eq]
          have h1 := ih r (by simpa using h)
          have h2 := tR_len r
          rw [List.length_append, List.length_singleton, show r.length + 1 - (tR r).length = (r.length - (tR r).length) + 1 by omega]
          unfold zs at h1 ⊢
          rw [List.replicate_succ', ← List.append_assoc, ← h1]
        · rw [tR_snoc_ne r c hc]
          simp
  exact key _ s rfl

theorem tR_mem {s : List UInt8} {c : UInt8} (h : c ∈ tR s) : c ∈ s := by
  rw [tR_split s]
  exact List.mem_append_left _ h

theorem tR_lastOk (s : List UInt8) : lastOk (tR s) := by
  have key : ∀ (n : Nat) (s : List UInt8), s.length = n → lastOk (tR s) := by
    intro n
    induction n with
    | zero =>
      intro s h
      obtain rfl := List.length_eq_zero_iff.1 h
      intro c r e
      have : tR [] = [] := rfl
      rw [this] at e
      simp at e
    | succ n ih =>
      intro s h
      rcases snoc_casesU s with rfl | ⟨r, c, rfl⟩
      · simp at h
      · by_cases hc : c = 48
        · subst hc
          rw [tR_snoc_eq]
          exact ih r (by simpa using h)
        · rw [tR_snoc_ne r c hc]
          intro d q e
          have := congrArg List.getLast? e
          simp at this
          rw [← this]
          exact hc
  exact key _ s rfl

theorem lastOk_tR {s : List UInt8} (h : lastOk s) : tR s = s := by
  rcases snoc_casesU s with rfl | ⟨r, c, rfl⟩
  · rfl
  · exact tR_snoc_ne r c (h c r rfl)

theorem tR_zs (s : List UInt8) (n : Nat) : tR (s ++ zs n) = tR s := by
  induction n with
  | zero => simp
  | succ n ih =>
    unfold zs at ih ⊢
    rw [List.replicate_succ', ← List.append_assoc, tR_snoc_eq, ih]

theorem tL_zs (s : List UInt8) (n : Nat) : tL (zs n ++ s) = tL s := by
  induction n with
  | zero => simp
  | succ n ih =>
    unfold zs at ih ⊢
    rw [List.replicate_succ, List.cons_append]
    unfold tL Lib.trimLeftB at ih ⊢
    rw [List.dropWhile_cons]
    simp

theorem tL_ne {c : UInt8} {l : List UInt8} (h : ¬ c = 48) : tL (c :: l) = c :: l := by
  unfold tL Lib.trimLeftB
  rw [List.dropWhile_cons]
  simp [h]

/-- A number's digits, the zeros at the right left out, begin with no 0. -/
theorem tR_first {c : UInt8} {l : List UInt8} (h : ¬ c = 48) : ∃ m, tR (c :: l) = c :: m := by
  have h1 := tR_split (c :: l)
  match hm : tR (c :: l) with
  | [] =>
    rw [hm] at h1
    simp only [List.length_cons, List.length_nil, Nat.sub_zero, List.nil_append] at h1
    unfold zs at h1
    rw [List.replicate_succ] at h1
    exact absurd (List.cons.inj h1).1 h
  | d :: m =>
    rw [hm] at h1
    have := (List.cons.inj h1).1
    exact ⟨m, by rw [this]⟩

/-- A number times a power of ten. -/
def ofF (n e : Int) : Bool × List UInt8 × Int := if e < -2000 ∨ 2000 < e then (false, [], 0) else (normF (decide (n < 0)) (Lib.decDigits n.natAbs) e).1

theorem ofF_zero (e : Int) : ofF 0 e = (false, [], 0) := by
  unfold ofF
  split
  · rfl
  · show (normF false (Lib.decDigits 0) e).1 = _
    rw [show Lib.decDigits 0 = [48] from dec_small (by omega), norm_zero]

theorem ofF_num {n e : Int} (h : ¬ n = 0) (hn : n.natAbs < 10 ^ 19) (h0 : -900 ≤ e) (h1 : e ≤ 900) :
    ofF n e = (decide (n < 0), tR (Lib.decDigits n.natAbs), e + ((Lib.decDigits n.natAbs).length - (tR (Lib.decDigits n.natAbs)).length)) ∧
      RightP (decide (n < 0)) (tR (Lib.decDigits n.natAbs)) (e + ((Lib.decDigits n.natAbs).length - (tR (Lib.decDigits n.natAbs)).length)) := by
  have hl := dec_len n.natAbs 19 hn (by omega)
  obtain ⟨c, l, hc, hc2⟩ := dec_first n.natAbs (by omega)
  have hd := dec_isD n.natAbs
  have hs := tR_split (Lib.decDigits n.natAbs)
  have hk := tR_lastOk (Lib.decDigits n.natAbs)
  have hlen := tR_len (Lib.decDigits n.natAbs)
  have hf := tR_first (l := l) hc2
  rw [← hc] at hf
  unfold ofF normF
  generalize Lib.decDigits n.natAbs = D at *
  obtain ⟨m, hm⟩ := hf
  have hd2 : ∀ c ∈ tR D, isD c = true := fun c h => hd c (by rw [hs]; simp [h])
  rw [hm] at hk hlen hd2 ⊢
  simp only [List.length_cons] at hlen
  rw [if_neg (by omega), tL_ne hc2, if_neg (by simp), if_neg (by simp only [List.length_cons]; omega), if_neg (by simp only [List.length_cons]; omega)]
  refine ⟨rfl, ?_⟩
  rw [right_cons (by simp)]
  refine ⟨fun i hi => isD_iff.1 (hd2 _ ?_), by simp only [List.length_cons]; omega, fun h => hc2 ((u8_eq (n := 48) (by omega)).1 h), fun h => ?_, by simp only [List.length_cons]; omega, by simp only [List.length_cons]; omega⟩
  · simp only [Int.toNat_natCast, List.getD_eq_getElem?_getD, List.getElem?_eq_getElem hi, Option.getD_some]
    exact List.getElem_mem hi
  · rcases snoc_casesU (c :: m) with h2 | ⟨r, w, h2⟩
    · simp at h2
    · rw [h2] at h hk
      have e : ((r ++ [w]).length : Int) - 1 = r.length := by simp
      rw [e, at_last] at h
      exact hk w r rfl ((u8_eq (n := 48) (by omega)).1 h)

/-- The whole number that a decimal is. -/
def intF (neg : Bool) (s : List UInt8) (e : Int) : Int × Bool :=
  if ¬ RightP neg s e ∨ e < 0 ∨ 19 < s.length + e then (0, false)
  else if 4611686018427387904 < numL (s ++ zs e.toNat) then (0, false)
  else if neg = true then (-(numL (s ++ zs e.toNat) : Int), true) else ((numL (s ++ zs e.toNat) : Int), true)

theorem intF_of (n : Int) (h0 : -4611686018427387904 ≤ n) (h1 : n ≤ 4611686018427387904) : intF (ofF n 0).1 (ofF n 0).2.1 (ofF n 0).2.2 = (n, true) := by
  by_cases h : n = 0
  · subst h
    rw [ofF_zero]
    rfl
  · obtain ⟨e1, e2⟩ := ofF_num h (e := 0) (by omega) (by omega) (by omega)
    rw [e1]
    have hs := tR_split (Lib.decDigits n.natAbs)
    have hn := dec_num n.natAbs
    have hl := dec_len n.natAbs 19 (by omega) (by omega)
    have hlen := tR_len (Lib.decDigits n.natAbs)
    generalize Lib.decDigits n.natAbs = D at *
    dsimp only
    unfold intF
    rw [if_neg (fun h => h.elim (fun h => h e2) (fun h => by omega)), show (0 + ((D.length : Int) - (tR D).length)).toNat = D.length - (tR D).length by omega, ← hs, hn, if_neg (by omega)]
    by_cases hn0 : n < 0
    · rw [if_pos (decide_eq_true hn0)]
      congr 1
      omega
    · rw [if_neg (by simp; omega)]
      congr 1
      omega

theorem ofF_ten (a e : Int) (h0 : -900 ≤ e) (h1 : e ≤ 900) : ofF (a * 10) (e - 1) = ofF a e := by
  by_cases h : a = 0
  · subst h
    rw [show (0 : Int) * 10 = 0 by omega, ofF_zero, ofF_zero]
  · unfold ofF
    rw [if_neg (by omega), if_neg (by omega), show (a * 10).natAbs = 10 * a.natAbs by omega, dec_ten _ (by omega)]
    have hlen := tR_len (Lib.decDigits a.natAbs)
    unfold normF
    rw [tR_snoc_eq, List.length_append, List.length_singleton]
    have : decide (a * 10 < 0) = decide (a < 0) := decide_eq_decide.2 (by omega)
    rw [this, show e - 1 + (((Lib.decDigits a.natAbs).length + 1 : Nat) - ((tR (Lib.decDigits a.natAbs)).length : Int)) = e + ((Lib.decDigits a.natAbs).length - (tR (Lib.decDigits a.natAbs)).length) by omega]

/-! ### Numbers of one power of ten lie as the numbers do -/

theorem pad_zs (s : List UInt8) (n j : Nat) : pad (s ++ zs n) j = pad s j := by
  unfold pad
  by_cases h : j < s.length
  · rw [if_pos h, if_pos (by simp; omega)]
    unfold at'
    simp only [Int.toNat_natCast, List.getD_eq_getElem?_getD]
    rw [List.getElem?_append_left h]
  · rw [if_neg h]
    split
    · rename_i h2
      unfold at'
      simp only [Int.toNat_natCast, List.getD_eq_getElem?_getD]
      rw [List.getElem?_append_right (by omega)]
      simp only [List.length_append, List.length_replicate] at h2
      unfold zs
      rw [List.getElem?_replicate, if_pos (by omega)]
      rfl
    · rfl

theorem cmpInt_lt {a b : Int} (h : a < b) : Lib.compareInt a b = -1 := by unfold Lib.compareInt; rw [if_pos h]
theorem cmpInt_gt {a b : Int} (h : b < a) : Lib.compareInt a b = 1 := by unfold Lib.compareInt; rw [if_neg (by omega), if_pos h]
theorem cmpInt_eq {a b : Int} (h : a = b) : Lib.compareInt a b = 0 := by unfold Lib.compareInt; rw [if_neg (by omega), if_neg (by omega)]

/-- Of digits as many as of the others, the first that differs tells. -/
theorem ord_num : ∀ (x y : List UInt8) (f g : Int → Int) (p : Int), x.length = y.length → (∀ c ∈ x, isD c = true) → (∀ c ∈ y, isD c = true) → (∀ j : Nat, f (p - j) = pad x j) → (∀ j : Nat, g (p - j) = pad y j) →
    ordG f g x.length p = Lib.compareInt (numL x) (numL y)
  | [], [], f, g, p, _, _, _, _, _ => rfl
  | [], _ :: _, f, g, p, h, _, _, _, _ => by simp at h
  | _ :: _, [], f, g, p, h, _, _, _, _ => by simp at h
  | c :: x, d :: y, f, g, p, hl, hx, hy, hf, hg => by
    have hl2 : x.length = y.length := by simpa using hl
    have c1 := isD_nat (hx c (by simp))
    have d1 := isD_nat (hy d (by simp))
    have lx := numL_lt x fun c hc => hx c (by simp [hc])
    have ly := numL_lt y fun c hc => hy c (by simp [hc])
    have f0 := hf 0
    have g0 := hg 0
    rw [pad_cons0] at f0 g0
    simp only [Int.natCast_zero, Int.sub_zero] at f0 g0
    have ih := ord_num x y f g (p - 1) hl2 (fun c hc => hx c (by simp [hc])) (fun c hc => hy c (by simp [hc]))
      (fun j => by
        have := hf (j + 1)
        rw [pad_cons] at this
        rw [← this]
        congr 1
        omega)
      (fun j => by
        have := hg (j + 1)
        rw [pad_cons] at this
        rw [← this]
        congr 1
        omega)
    rw [List.length_cons, numL_cons, numL_cons, ordG, f0, g0, ih, ← hl2]
    rw [← hl2] at ly
    generalize 10 ^ x.length = t at *
    by_cases h1 : c.toNat < d.toNat
    · have : (c.toNat - 48 + 1) * t ≤ (d.toNat - 48) * t := Nat.mul_le_mul_right _ (by omega)
      rw [Nat.add_mul, Nat.one_mul] at this
      rw [if_pos (by omega), cmpInt_lt (by omega)]
    · by_cases h2 : d.toNat < c.toNat
      · have : (d.toNat - 48 + 1) * t ≤ (c.toNat - 48) * t := Nat.mul_le_mul_right _ (by omega)
        rw [Nat.add_mul, Nat.one_mul] at this
        rw [if_neg (by omega), if_pos (by omega), cmpInt_gt (by omega)]
      · rw [if_neg (by omega), if_neg (by omega), show c.toNat = d.toNat by omega]
        unfold Lib.compareInt
        generalize (d.toNat - 48) * t = z
        repeat' split
        all_goals omega

theorem size_num (x y : List UInt8) (hx : ∀ c ∈ x, isD c = true) (hy : ∀ c ∈ y, isD c = true) (fx : ∃ c l, x = c :: l ∧ ¬ c = 48) (fy : ∃ c l, y = c :: l ∧ ¬ c = 48) (e : Int) :
    sizeF (tR x) (e + (x.length - (tR x).length)) (tR y) (e + (y.length - (tR y).length)) = Lib.compareInt (numL x) (numL y) := by
  have lx := numL_lt x hx
  have ly := numL_lt y hy
  have sx := tR_split x
  have sy := tR_split y
  have kx := tR_lastOk x
  have ky := tR_lastOk y
  have nx := tR_len x
  have ny := tR_len y
  unfold sizeF
  rw [show ((tR x).length : Int) + (e + (x.length - (tR x).length)) = e + x.length by omega, show ((tR y).length : Int) + (e + (y.length - (tR y).length)) = e + y.length by omega]
  by_cases h1 : x.length < y.length
  · obtain ⟨c, l, rfl, hc⟩ := fy
    have := numL_ge (l := l) (hy c (by simp)) hc
    have h2 : 10 ^ x.length ≤ 10 ^ l.length := Nat.pow_le_pow_right (by decide) (by simp at h1; omega)
    rw [cmpInt_lt (by omega), if_neg (by decide), cmpInt_lt (by omega)]
  · by_cases h2 : y.length < x.length
    · obtain ⟨c, l, rfl, hc⟩ := fx
      have := numL_ge (l := l) (hx c (by simp)) hc
      have h2 : 10 ^ y.length ≤ 10 ^ l.length := Nat.pow_le_pow_right (by decide) (by simp at h2; omega)
      rw [cmpInt_gt (by omega), if_neg (by decide), cmpInt_gt (by omega)]
    · rw [cmpInt_eq (by omega), if_pos rfl]
      have dx : digs (tR x) := fun i hi => isD_iff.1 (hx _ (tR_mem (by
        simp only [Int.toNat_natCast, List.getD_eq_getElem?_getD, List.getElem?_eq_getElem hi, Option.getD_some]
        exact List.getElem_mem hi)))
      have dy : digs (tR y) := fun i hi => isD_iff.1 (hy _ (tR_mem (by
        simp only [Int.toNat_natCast, List.getD_eq_getElem?_getD, List.getElem?_eq_getElem hi, Option.getD_some]
        exact List.getElem_mem hi)))
      have k1 := cmp_pad (tR x) (tR y) x.length (fun q => pad x (-q).toNat) (fun q => pad y (-q).toNat) 0 dx dy kx ky (by omega) (by omega)
        (fun j => by
          show pad x (-(0 - (j : Int))).toNat = _
          rw [show (-(0 - (j : Int))).toNat = j by omega]
          conv => lhs; rw [sx]
          exact pad_zs ..)
        (fun j => by
          show pad y (-(0 - (j : Int))).toNat = _
          rw [show (-(0 - (j : Int))).toNat = j by omega]
          conv => lhs; rw [sy]
          exact pad_zs ..)
      have k2 := ord_num x y (fun q => pad x (-q).toNat) (fun q => pad y (-q).toNat) 0 (by omega) hx hy
        (fun j => by
          show pad x (-(0 - (j : Int))).toNat = _
          rw [show (-(0 - (j : Int))).toNat = j by omega])
        (fun j => by
          show pad y (-(0 - (j : Int))).toNat = _
          rw [show (-(0 - (j : Int))).toNat = j by omega])
      rw [← k2, ← k1]

theorem order_num (a b e : Int) (ha : a.natAbs < 10 ^ 19) (hb : b.natAbs < 10 ^ 19) (h0 : -900 ≤ e) (h1 : e ≤ 900) :
    orderF (ofF a e).1 (ofF a e).2.1 (ofF a e).2.2 (ofF b e).1 (ofF b e).2.1 (ofF b e).2.2 = Lib.compareInt a b := by
  have sg : ∀ n : Int, n.natAbs < 10 ^ 19 → signF (ofF n e).1 (ofF n e).2.1 = if n = 0 then 0 else if n < 0 then -1 else 1 := fun n hn => by
    by_cases h : n = 0
    · subst h
      rw [ofF_zero]
      rfl
    · obtain ⟨e1, e2⟩ := ofF_num h (e := e) hn h0 h1
      rw [e1, if_neg h]
      obtain ⟨c, l, hc, hc2⟩ := dec_first n.natAbs (by omega)
      obtain ⟨m, hm⟩ := tR_first (l := l) hc2
      rw [← hc] at hm
      unfold signF
      dsimp only
      rw [hm, if_neg (by simp)]
      simp
  unfold orderF
  rw [sg a ha, sg b hb]
  by_cases hz : a = 0
  · rw [if_pos hz, if_pos (.inr rfl)]
    unfold Lib.compareInt
    repeat' split
    all_goals omega
  · rw [if_neg hz]
    by_cases hs : (if a < 0 then (-1 : Int) else 1) = if b = 0 then 0 else if b < 0 then -1 else 1
    · have hb0 : ¬ b = 0 := fun h => by
        rw [if_pos h] at hs
        split at hs <;> omega
      rw [if_neg hb0] at hs ⊢
      rw [if_neg (by
        rintro (h | h)
        · exact h hs
        · split at h <;> omega)]
      rw [(ofF_num hz ha h0 h1).1, (ofF_num hb0 hb h0 h1).1]
      dsimp only
      rw [size_num _ _ (dec_isD _) (dec_isD _) (dec_first _ (by omega)) (dec_first _ (by omega)), dec_num, dec_num]
      unfold Lib.compareInt
      by_cases h2 : a < 0
      · have : b < 0 := by
          rw [if_pos h2] at hs
          split at hs <;> omega
        rw [if_pos h2]
        repeat' split
        all_goals omega
      · have : ¬ b < 0 := by
          rw [if_neg h2] at hs
          split at hs <;> omega
        rw [if_neg h2]
        repeat' split
        all_goals omega
    · rw [if_pos (.inl hs)]
      unfold Lib.compareInt
      by_cases h2 : a < 0
      · rw [if_pos h2] at hs ⊢
        repeat' split
        all_goals (repeat' split at hs)
        all_goals omega
      · rw [if_neg h2] at hs ⊢
        repeat' split
        all_goals (repeat' split at hs)
        all_goals omega

end Go.Proofs.YtenkmfahcmahkaaDoor.Flow
