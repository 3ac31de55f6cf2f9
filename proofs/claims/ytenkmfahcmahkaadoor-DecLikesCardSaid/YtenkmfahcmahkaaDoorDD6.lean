/- DEC: the order digit by digit is the program's order. -/
import Derived.Test.YtenkmfahcmahkaaDoorDDO
import Derived.Lib.Bytealg
import Derived.Lib.Small
namespace Go.Proofs.YtenkmfahcmahkaaDoor.Flow
open Go

theorem ordG_congr {f g f' g' : Int → Int} : ∀ (k : Nat) (p : Int), (∀ j : Nat, j < k → f (p - j) = f' (p - j) ∧ g (p - j) = g' (p - j)) → ordG f g k p = ordG f' g' k p
  | 0, _, _ => rfl
  | k + 1, p, h => by
    have h0 := h 0 (by omega)
    simp only [Int.natCast_zero, Int.sub_zero] at h0
    have ih := ordG_congr k (p - 1) (fun j hj => by
      have := h (j + 1) (by omega)
      rwa [show p - ((j + 1 : Nat) : Int) = p - 1 - j by omega] at this)
    rw [ordG, ordG, h0.1, h0.2, ih]

theorem ordG_skip {f g : Int → Int} : ∀ (m k : Nat) (p : Int), (∀ j : Nat, j < m → f (p - j) = g (p - j)) → ordG f g (m + k) p = ordG f g k (p - m)
  | 0, k, p, _ => by simp
  | m + 1, k, p, h => by
    have h0 := h 0 (by omega)
    simp only [Int.natCast_zero, Int.sub_zero] at h0
    rw [show m + 1 + k = (m + k) + 1 by omega, ordG, if_neg (by omega), if_neg (by omega), ordG_skip m k (p - 1) (fun j hj => by
      have := h (j + 1) (by omega)
      rwa [show p - ((j + 1 : Nat) : Int) = p - 1 - j by omega] at this), show p - 1 - (m : Int) = p - ((m + 1 : Nat) : Int) by omega]

theorem ordG_lt {f g : Int → Int} {m k : Nat} {p : Int} (h : ∀ j : Nat, j < m → f (p - j) = g (p - j)) (h2 : f (p - m) < g (p - m)) (hk : m < k) : ordG f g k p = -1 := by
  obtain ⟨n, rfl⟩ : ∃ n, k = m + (n + 1) := ⟨k - m - 1, by omega⟩
  rw [ordG_skip m (n + 1) p h, ordG, if_pos h2]

theorem ordG_swap (f g : Int → Int) : ∀ (k : Nat) (p : Int), ordG g f k p = -ordG f g k p
  | 0, _ => rfl
  | k + 1, p => by
    rw [ordG, ordG, ordG_swap f g k (p - 1)]
    (repeat' split) <;> omega

theorem ordG_neg (f g : Int → Int) : ∀ (k : Nat) (p : Int), ordG (fun q => -f q) (fun q => -g q) k p = -ordG f g k p
  | 0, _ => rfl
  | k + 1, p => by
    rw [ordG, ordG, ordG_neg f g k (p - 1)]
    (repeat' split) <;> omega

theorem ordG_eq {f g : Int → Int} (k : Nat) (p : Int) (h : ∀ j : Nat, j < k → f (p - j) = g (p - j)) : ordG f g k p = 0 := ordG_skip k 0 p h

/-- A digit counted from the left; 0 behind the last. -/
def pad (s : List UInt8) (j : Nat) : Int := if j < s.length then at' s j - 48 else 0

theorem atF_pad (s : List UInt8) (e : Int) (j : Nat) : atF s e (s.length + e - 1 - j) = pad s j := by
  unfold atF pad
  rw [show (s.length : Int) - 1 - (s.length + e - 1 - j - e) = j by omega]
  by_cases h : j < s.length
  · rw [if_neg (by omega), if_pos h]
  · rw [if_pos (by omega), if_neg h]
theorem atF_above (s : List UInt8) (e p : Int) (h : s.length + e ≤ p) : atF s e p = 0 := by
  unfold atF
  rw [if_pos (by omega)]

theorem pad_cons0 (c : UInt8) (s : List UInt8) : pad (c :: s) 0 = (c.toNat : Int) - 48 := rfl
theorem pad_cons (c : UInt8) (s : List UInt8) (j : Nat) : pad (c :: s) (j + 1) = pad s j := by
  unfold pad
  simp only [List.length_cons, Nat.add_lt_add_iff_right]
  split
  · congr 1
  · rfl

/-- The last digit is no nought. -/
def lastOk (s : List UInt8) : Prop := ∀ c r, s = r ++ [c] → ¬ c = 48
theorem lastOk.tail {c : UInt8} {s : List UInt8} (h : lastOk (c :: s)) : lastOk s := fun d r e => h d (c :: r) (by rw [e]; rfl)

theorem dig_cons {c : UInt8} {s : List UInt8} (h : digs (c :: s)) : 48 ≤ (c.toNat : Int) ∧ (c.toNat : Int) ≤ 57 ∧ digs s := by
  refine ⟨(h 0 (by simp)).1, (h 0 (by simp)).2, fun i hi => ?_⟩
  have := h (i + 1) (by simpa using hi)
  exact this

theorem cmp_pad : ∀ (x y : List UInt8) (k : Nat) (f g : Int → Int) (p : Int), digs x → digs y → lastOk x → lastOk y → x.length ≤ k → y.length ≤ k → (∀ j : Nat, f (p - j) = pad x j) → (∀ j : Nat, g (p - j) = pad y j) →
    ordG f g k p = Lib.compareBytes x y
  | [], [], k, f, g, p, _, _, _, _, _, _, hf, hg => ordG_eq k p fun j _ => by rw [hf, hg]
  | [], b :: y, k, f, g, p, dx, dy, lx, ly, kx, ky, hf, hg => by
    obtain ⟨d1, d2, d3⟩ := dig_cons dy
    obtain ⟨k, rfl⟩ : ∃ n, k = n + 1 := ⟨k - 1, by simp at ky; omega⟩
    have h0 := hf 0
    have h1 := hg 0
    rw [pad_cons0] at h1
    simp only [Int.natCast_zero, Int.sub_zero] at h0 h1
    have h0 : f p = 0 := h0
    rw [ordG, h0, h1]
    show _ = -1
    by_cases hb : b = 48
    · subst hb
      rw [if_neg (by decide), if_neg (by decide)]
      match y, d3, ly, ky with
      | [], _, ly, _ => exact absurd rfl (ly 48 [] rfl)
      | c :: y, d3, ly, ky =>
        rw [cmp_pad [] (c :: y) k f g (p - 1) dx d3 lx ly.tail (Nat.zero_le _) (by simpa using ky) (fun j => by
          have := hf (j + 1)
          rwa [show p - ((j + 1 : Nat) : Int) = p - 1 - j by omega] at this) (fun j => by
          have := hg (j + 1)
          rwa [show p - ((j + 1 : Nat) : Int) = p - 1 - j by omega, pad_cons] at this)]
        rfl
    · have : ¬ (b.toNat : Int) = 48 := fun h => hb ((byte_eq b 48 (by omega)).1 h)
      rw [if_pos (by omega)]
  | a :: x, [], k, f, g, p, dx, dy, lx, ly, kx, ky, hf, hg => by
    have := cmp_pad [] (a :: x) k g f p dy dx ly lx ky kx hg hf
    rw [ordG_swap, this]
    rfl
  | a :: x, b :: y, k, f, g, p, dx, dy, lx, ly, kx, ky, hf, hg => by
    obtain ⟨k, rfl⟩ : ∃ n, k = n + 1 := ⟨k - 1, by simp at ky; omega⟩
    have h0 := hf 0
    have h1 := hg 0
    rw [pad_cons0] at h0 h1
    simp only [Int.natCast_zero, Int.sub_zero] at h0 h1
    rw [ordG, h0, h1]
    show _ = if a < b then -1 else if b < a then 1 else Lib.compareBytes x y
    have e1 : ((a.toNat : Int) - 48 < (b.toNat : Int) - 48) ↔ a < b := by rw [UInt8.lt_iff_toNat_lt]; omega
    have e2 : ((b.toNat : Int) - 48 < (a.toNat : Int) - 48) ↔ b < a := by rw [UInt8.lt_iff_toNat_lt]; omega
    have ih := cmp_pad x y k f g (p - 1) (dig_cons dx).2.2 (dig_cons dy).2.2 lx.tail ly.tail (by simpa using kx) (by simpa using ky) (fun j => by
          have := hf (j + 1)
          rwa [show p - ((j + 1 : Nat) : Int) = p - 1 - j by omega, pad_cons] at this) (fun j => by
          have := hg (j + 1)
          rwa [show p - ((j + 1 : Nat) : Int) = p - 1 - j by omega, pad_cons] at this)
    rw [ih]
    simp only [e1, e2]

/-- Of two values above 0: which is greater. -/
def sizeF (sa : List UInt8) (ea : Int) (sb : List UInt8) (eb : Int) : Int :=
  if Lib.compareInt (sa.length + ea) (sb.length + eb) = 0 then Lib.compareBytes sa sb else Lib.compareInt (sa.length + ea) (sb.length + eb)
def signF (neg : Bool) (s : List UInt8) : Int := if s.length = 0 then 0 else if neg = true then -1 else 1
def orderF (na : Bool) (sa : List UInt8) (ea : Int) (nb : Bool) (sb : List UInt8) (eb : Int) : Int :=
  if ¬ signF na sa = signF nb sb ∨ signF na sa = 0 then Lib.compareInt (signF na sa) (signF nb sb) else signF na sa * sizeF sa ea sb eb

theorem right_last {neg : Bool} {s : List UInt8} {e : Int} (h : RightP neg s e) : lastOk s := fun c r hs => by
  subst hs
  have h0 : ¬ (r ++ [c]).length = 0 := by simp
  rw [right_cons h0] at h
  have h4 := h.2.2.2.1
  intro hc
  subst hc
  apply h4
  simp [at', List.getD_eq_getElem?_getD]

theorem right_first {neg : Bool} {s : List UInt8} {e : Int} (h : RightP neg s e) (h0 : ¬ s.length = 0) : 1 ≤ pad s 0 := by
  rw [right_cons h0] at h
  have h1 := h.1 0 (by omega)
  have h3 := h.2.2.1
  unfold pad
  rw [if_pos (by omega)]
  have h1 : 48 ≤ at' s 0 ∧ at' s 0 ≤ 57 := h1
  show 1 ≤ at' s 0 - 48
  omega

theorem size_ord {na nb : Bool} {sa sb : List UInt8} {ea eb : Int} (ha : RightP na sa ea) (hb : RightP nb sb eb) (h0 : ¬ sa.length = 0) (h1 : ¬ sb.length = 0) :
    ordG (atF sa ea) (atF sb eb) 2103 1101 = sizeF sa ea sb eb := by
  obtain ⟨a1, a2, a3, a4⟩ := ha.bounds
  obtain ⟨b1, b2, b3, b4⟩ := hb.bounds
  have key : ∀ {na nb : Bool} {sa sb : List UInt8} {ea eb : Int}, RightP na sa ea → RightP nb sb eb → ¬ sb.length = 0 → (sa.length : Int) + ea < sb.length + eb → ordG (atF sa ea) (atF sb eb) 2103 1101 = -1 := by
    intro na nb sa sb ea eb ha hb h1 hlt
    obtain ⟨a1, a2, a3, a4⟩ := ha.bounds
    obtain ⟨b1, b2, b3, b4⟩ := hb.bounds
    refine ordG_lt (m := (1101 - (sb.length + eb - 1)).toNat) (fun j hj => ?_) ?_ (by omega)
    · rw [atF_above _ _ _ (by omega), atF_above _ _ _ (by omega)]
    · rw [atF_above _ _ _ (by omega), show 1101 - (((1101 - (sb.length + eb - 1)).toNat : Nat) : Int) = sb.length + eb - 1 - ((0 : Nat) : Int) by omega, atF_pad]
      have := right_first hb h1
      omega
  unfold sizeF Lib.compareInt
  by_cases hlt : (sa.length : Int) + ea < sb.length + eb
  · rw [if_pos hlt, if_neg (by omega), key ha hb h1 hlt]
  · rw [if_neg hlt]
    by_cases hgt : (sa.length : Int) + ea > sb.length + eb
    · rw [if_pos hgt, if_neg (by omega), ordG_swap, key hb ha h0 hgt]
      rfl
    · rw [if_neg hgt, if_pos rfl]
      have e : (2103 : Nat) = (1101 - (sa.length + ea - 1)).toNat + (2103 - (1101 - (sa.length + ea - 1)).toNat) := by omega
      rw [e, ordG_skip _ _ _ (fun j hj => by rw [atF_above _ _ _ (by omega), atF_above _ _ _ (by omega)]), show 1101 - (((1101 - (sa.length + ea - 1)).toNat : Nat) : Int) = sa.length + ea - 1 by omega]
      refine cmp_pad sa sb _ _ _ _ a4 b4 (right_last ha) (right_last hb) (by omega) (by omega) (fun j => atF_pad sa ea j) (fun j => ?_)
      rw [show (sa.length : Int) + ea - 1 - j = sb.length + eb - 1 - j by omega]
      exact atF_pad sb eb j

theorem atF_nil (e p : Int) : atF [] e p = 0 := by
  unfold atF
  rw [if_pos (by simp; omega)]

theorem first_pos {neg : Bool} {s : List UInt8} {e : Int} (h : RightP neg s e) (h0 : ¬ s.length = 0) {f : Int → Int} (hf : ∀ p, f p ≤ 0) : ordG f (atF s e) 2103 1101 = -1 := by
  obtain ⟨b1, b2, b3, b4⟩ := h.bounds
  have key : ∀ (n : Nat), n ≤ 2103 → (∀ j : Nat, j < n → f (1101 - j) = 0) ∨ ordG f (atF s e) 2103 1101 = -1 := by
    intro n
    induction n with
    | zero => exact fun _ => .inl fun j hj => by omega
    | succ n ih =>
      intro hn
      rcases ih (by omega) with ih | ih
      · by_cases hz : f (1101 - n) = 0
        · left
          intro j hj
          by_cases e : j = n
          · rw [e]; exact hz
          · exact ih j (by omega)
        · right
          by_cases hs : ∃ j : Nat, j < n ∧ 0 < atF s e (1101 - j)
          · obtain ⟨j, hj, hp⟩ := hs
            have : ∃ m : Nat, m < n ∧ (∀ i : Nat, i < m → atF s e (1101 - i) = 0) ∧ 0 < atF s e (1101 - m) := by
              induction j using Nat.strongRecOn with
              | ind j ihj =>
                by_cases hx : ∃ i : Nat, i < j ∧ 0 < atF s e (1101 - i)
                · obtain ⟨i, hi, hpi⟩ := hx
                  exact ihj i hi (by omega) hpi
                · refine ⟨j, hj, fun i hi => ?_, hp⟩
                  have := (atF_range (e := e) b4 (1101 - i)).1
                  have : ¬ 0 < atF s e (1101 - i) := fun h => hx ⟨i, hi, h⟩
                  omega
            obtain ⟨m, hm, h1, h2⟩ := this
            exact ordG_lt (m := m) (fun i hi => by rw [ih i (by omega), h1 i hi]) (by rw [ih m hm]; exact h2) (by omega)
          · refine ordG_lt (m := n) (fun i hi => ?_) ?_ (by omega)
            · have := (atF_range (e := e) b4 (1101 - i)).1
              have : ¬ 0 < atF s e (1101 - i) := fun h => hs ⟨i, hi, h⟩
              rw [ih i hi]
              omega
            · have := (atF_range (e := e) b4 (1101 - n)).1
              have := hf (1101 - n)
              omega
      · exact .inr ih
  rcases key 2103 (Nat.le_refl _) with h1 | h1
  · refine ordG_lt (m := (1101 - (s.length + e - 1)).toNat) (fun j hj => ?_) ?_ (by omega)
    · rw [h1 j (by omega), atF_above _ _ _ (by omega)]
    · rw [h1 _ (by omega), show 1101 - (((1101 - (s.length + e - 1)).toNat : Nat) : Int) = s.length + e - 1 - ((0 : Nat) : Int) by omega, atF_pad]
      have := right_first h h0
      omega
  · exact h1

theorem order_same {na nb : Bool} {sa sb : List UInt8} {ea eb : Int} (ha : RightP na sa ea) (hb : RightP nb sb eb) : ordG (dgF na sa ea) (dgF nb sb eb) 2103 1101 = orderF na sa ea nb sb eb := by
  obtain ⟨a1, a2, a3, a4⟩ := ha.bounds
  obtain ⟨b1, b2, b3, b4⟩ := hb.bounds
  have pa := fun p => (atF_range (e := ea) a4 p).1
  have pb := fun p => (atF_range (e := eb) b4 p).1
  have fz : ∀ {n : Bool} {s : List UInt8} {e : Int}, s.length = 0 → dgF n s e = fun _ => 0 := by
    intro n s e h
    obtain rfl := len_nil h
    funext p
    unfold dgF
    rw [atF_nil]
    split <;> rfl
  have fp : ∀ {s : List UInt8} {e : Int}, dgF false s e = atF s e := fun {s e} => rfl
  have fn : ∀ {s : List UInt8} {e : Int}, dgF true s e = fun q => -atF s e q := fun {s e} => rfl
  unfold orderF signF
  by_cases h0 : sa.length = 0
  · rw [if_pos h0, fz h0, if_pos (.inr rfl)]
    by_cases h1 : sb.length = 0
    · rw [if_pos h1, fz h1, ordG_eq _ _ (fun _ _ => rfl)]
      rfl
    · rw [if_neg h1]
      cases nb with
      | false => rw [fp, first_pos hb h1 (f := fun _ => 0) (fun _ => Int.le_refl _)]; rfl
      | true =>
        rw [fn]
        have := ordG_neg (fun _ => 0) (atF sb eb) 2103 1101
        rw [first_pos hb h1 (f := fun _ => 0) (fun _ => Int.le_refl _)] at this
        simp only [Int.neg_zero] at this
        rw [this]
        rfl
  · rw [if_neg h0]
    by_cases h1 : sb.length = 0
    · rw [if_pos h1, fz h1, ordG_swap]
      cases na with
      | false => rw [fp, first_pos ha h0 (f := fun _ => 0) (fun _ => Int.le_refl _)]; rfl
      | true =>
        rw [fn]
        have := ordG_neg (fun _ => 0) (atF sa ea) 2103 1101
        rw [first_pos ha h0 (f := fun _ => 0) (fun _ => Int.le_refl _)] at this
        simp only [Int.neg_zero] at this
        rw [this]
        rfl
    · rw [if_neg h1]
      have hs := size_ord ha hb h0 h1
      cases na with
      | false =>
        cases nb with
        | false =>
          rw [fp, fp, hs]
          simp
        | true =>
          rw [fp, fn, ordG_swap, first_pos ha h0 (f := fun q => -atF sb eb q) (fun p => by have := pb p; omega)]
          rfl
      | true =>
        cases nb with
        | false =>
          rw [fp, fn, first_pos hb h1 (f := fun q => -atF sa ea q) (fun p => by have := pa p; omega)]
          rfl
        | true =>
          rw [fn, fn, ordG_neg, hs]
          simp

end Go.Proofs.YtenkmfahcmahkaaDoor.Flow
