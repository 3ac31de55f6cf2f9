import Derived.Test.YtenkmfahcmahkaaF14
/- FLOAT: what the order of decimals says of their numbers. -/
namespace Go.Proofs.Ytenkmfahcmahkaa.Flow
open Go

def hornG (f : Int → Int) : Nat → Int → Int → Int
  | 0, _, a => a
  | k + 1, p, a => hornG f k (p - 1) (10 * a + f p)

theorem horn_lt {f g : Int → Int} (h : ∀ q, f q - g q ≤ 9) : ∀ (k : Nat) (p a b : Int), a < b → hornG f k p a < hornG g k p b
  | 0, _, _, _, hab => hab
  | k + 1, p, a, b, hab => by
    have := h p
    exact horn_lt h k (p - 1) _ _ (by omega)

theorem ord_horn {f g : Int → Int} (h : ∀ p, f p < g p → ∀ q, f q - g q ≤ 9) : ∀ (k : Nat) (p a : Int), ordG f g k p < 0 → hornG f k p a < hornG g k p a
  | 0, p, a, ho => by simp [ordG] at ho
  | k + 1, p, a, ho => by
    unfold ordG at ho
    unfold hornG
    split at ho
    · rename_i h1
      exact horn_lt (h p h1) k _ _ _ (by omega)
    · rename_i h1
      split at ho
      · omega
      · rename_i h2
        rw [show f p = g p by omega]
        exact ord_horn h k _ _ ho

theorem horn_add (f : Int → Int) : ∀ (k j : Nat) (p a : Int), hornG f (k + j) p a = hornG f j (p - k) (hornG f k p a)
  | 0, j, p, a => by simp [hornG]
  | k + 1, j, p, a => by
    rw [show k + 1 + j = (k + j) + 1 by omega]
    show hornG f (k + j) (p - 1) (10 * a + f p) = hornG f j (p - ((k + 1 : Nat) : Int)) (hornG f k (p - 1) (10 * a + f p))
    rw [horn_add f k j, show p - 1 - (k : Int) = p - ((k + 1 : Nat) : Int) by omega]

theorem horn_last (f : Int → Int) (k : Nat) (p a : Int) : hornG f (k + 1) p a = 10 * hornG f k p a + f (p - k) := horn_add f k 1 p a

theorem horn_zero (f : Int → Int) : ∀ (k : Nat) (p a : Int), (∀ j : Nat, j < k → f (p - j) = 0) → hornG f k p a = a * 10 ^ k
  | 0, p, a, _ => by simp [hornG]
  | k + 1, p, a, h => by
    rw [horn_last, horn_zero f k p a (fun j hj => h j (by omega)), h k (by omega), Int.pow_succ]
    grind

theorem horn_neg (f : Int → Int) : ∀ (k : Nat) (p a : Int), hornG (fun q => -f q) k p (-a) = -hornG f k p a
  | 0, p, a => rfl
  | k + 1, p, a => by
    show hornG (fun q => -f q) k (p - 1) (10 * -a + -f p) = -hornG f k (p - 1) (10 * a + f p)
    rw [← horn_neg f k (p - 1) (10 * a + f p)]
    congr 1
    omega

theorem horn_digits {s : List UInt8} (e : Int) (hd : digs s) : ∀ (i : Nat), i ≤ s.length → hornG (atF s e) i (e + s.length - 1) 0 = (dgV (s.take i) : Int)
  | 0, _ => rfl
  | i + 1, h => by
    rw [horn_last, horn_digits e hd i (by omega), take_snoc s i (by omega), dgV_snoc]
    obtain ⟨k1, k2, k3⟩ := at_dig hd i (by omega)
    have e1 : atF s e (e + s.length - 1 - i) = at' s i - 48 := by
      unfold atF
      rw [if_neg (by omega), show (s.length : Int) - 1 - (e + s.length - 1 - i - e) = i by omega]
    rw [e1]
    have := hd i (by omega)
    omega

theorem horn_val {s : List UInt8} {e : Int} (hd : digs s) (hs : s.length ≤ 100) (h1 : -1000 ≤ e) (h2 : e ≤ 1000) : hornG (atF s e) 2103 1101 0 = ((dgV s * 10 ^ (e + 1001).toNat : Nat) : Int) := by
  obtain ⟨z1, hz1⟩ : ∃ z1 : Nat, (z1 : Int) = 1102 - e - s.length := ⟨(1102 - e - s.length).toNat, by omega⟩
  obtain ⟨z2, hz2⟩ : ∃ z2 : Nat, (z2 : Int) = e + 1001 := ⟨(e + 1001).toNat, by omega⟩
  rw [show 2103 = z1 + (s.length + z2) by omega, horn_add, horn_zero _ z1, Int.zero_mul, horn_add, show (1101 : Int) - z1 = e + s.length - 1 by omega, horn_digits e hd _ (Nat.le_refl _), List.take_length, horn_zero, show (e + 1001).toNat = z2 by omega]
  · simp
  · intro j hj
    unfold atF
    rw [if_pos (.inr (by omega))]
  · intro j hj
    unfold atF
    rw [if_pos (.inl (by omega))]

/-- A decimal's value, times 10 to 1001. -/
def amt (s : List UInt8) (e : Int) : Nat := dgV s * 10 ^ (e + 1001).toNat
def sgnV (neg : Bool) (s : List UInt8) (e : Int) : Int := if neg = true then -(amt s e : Int) else amt s e

theorem horn_sgn {neg : Bool} {s : List UInt8} {e : Int} (h : RightP neg s e) : hornG (dgF neg s e) 2103 1101 0 = sgnV neg s e := by
  obtain ⟨h1, h2, h3, h4⟩ := h.bounds
  have hv := horn_val h4 h1 h2 h3
  cases neg with
  | true =>
    have := horn_neg (atF s e) 2103 1101 0
    rw [hv] at this
    exact this
  | false => exact hv

theorem order_lt {na nb : Bool} {sa sb : List UInt8} {ea eb : Int} (ha : RightP na sa ea) (hb : RightP nb sb eb) (h : ordG (dgF na sa ea) (dgF nb sb eb) 2103 1101 < 0) : sgnV na sa ea < sgnV nb sb eb := by
  obtain ⟨_, _, _, ha4⟩ := ha.bounds
  obtain ⟨_, _, _, hb4⟩ := hb.bounds
  rw [← horn_sgn ha, ← horn_sgn hb]
  refine ord_horn (fun p hp q => ?_) _ _ _ h
  have r1 := atF_range (e := ea) ha4 p
  have r2 := atF_range (e := eb) hb4 p
  have r3 := atF_range (e := ea) ha4 q
  have r4 := atF_range (e := eb) hb4 q
  unfold dgF at hp ⊢
  split at hp <;> split at hp <;> simp only [*, if_true, if_false, Bool.false_eq_true] at * <;> omega

/-- 10 to so much. -/
def tn (n : Nat) : Nat := 10 ^ n

theorem amt_num {neg : Bool} {s : List UInt8} {e : Int} (h : RightP neg s e) : amt s e * denV e = numV s e * tn 1001 := by
  obtain ⟨h1, h2, h3, h4⟩ := h.bounds
  obtain ⟨k, hk⟩ : ∃ k : Nat, k = 1001 := ⟨_, rfl⟩
  rw [← hk]
  unfold amt denV numV tn
  rw [Nat.mul_assoc, Nat.mul_assoc, ← Nat.pow_add, ← Nat.pow_add, show (e + 1001).toNat + (-e).toNat = e.toNat + k by omega]

theorem cross_lt {na nb : Bool} {sa sb : List UInt8} {ea eb : Int} (ha : RightP na sa ea) (hb : RightP nb sb eb) (h : amt sa ea < amt sb eb) : numV sa ea * denV eb < numV sb eb * denV ea := by
  have e1 := amt_num ha
  have e2 := amt_num hb
  have d1 := denV_pos ea
  have d2 := denV_pos eb
  have h1 : amt sa ea * (denV ea * denV eb) < amt sb eb * (denV ea * denV eb) := Nat.mul_lt_mul_of_pos_right h (Nat.mul_pos d1 d2)
  generalize tn 1001 = t at e1 e2
  have e3 : amt sa ea * (denV ea * denV eb) = numV sa ea * denV eb * t := by
    have : amt sa ea * (denV ea * denV eb) = amt sa ea * denV ea * denV eb := by grind
    rw [this, e1]
    grind
  have e4 : amt sb eb * (denV ea * denV eb) = numV sb eb * denV ea * t := by
    have : amt sb eb * (denV ea * denV eb) = amt sb eb * denV eb * denV ea := by grind
    rw [this, e2]
    grind
  rw [e3, e4] at h1
  exact Nat.lt_of_mul_lt_mul_right h1

/-- Bits as a number that rises with theirs. -/
def ordB (neg : Bool) (s : List UInt8) (e : Int) : Int := if neg = true then -(roB (numV s e) (denV e) : Int) else roB (numV s e) (denV e)

theorem rises {na nb : Bool} {sa sb : List UInt8} {ea eb : Int} (ha : RightP na sa ea) (hb : RightP nb sb eb) (h : ordG (dgF na sa ea) (dgF nb sb eb) 2103 1101 < 0) (oa : ¬ overB (numV sa ea) (denV ea)) (ob : ¬ overB (numV sb eb) (denV eb)) : ordB na sa ea ≤ ordB nb sb eb := by
  have hlt := order_lt ha hb h
  unfold sgnV at hlt
  unfold ordB
  cases na <;> cases nb <;> simp only [if_true, if_false, Bool.false_eq_true] at hlt ⊢
  · have := ro_mono (denV_pos ea) (denV_pos eb) oa ob (cross_lt ha hb (by omega))
    omega
  · omega
  · omega
  · have := ro_mono (denV_pos eb) (denV_pos ea) ob oa (cross_lt hb ha (by omega))
    omega

theorem bitsV_neg {s : List UInt8} {e : Int} (h : RightP true s e) : bitsV true s e = roB (numV s e) (denV e) + 9223372036854775808 := by
  unfold bitsV
  rw [if_pos]
  refine ⟨rfl, fun hs => ?_⟩
  subst hs
  have := (right_nil (s := []) rfl).1 h
  exact absurd this.1 (by decide)
theorem bitsV_pos (s : List UInt8) (e : Int) : bitsV false s e = roB (numV s e) (denV e) := by
  unfold bitsV
  rw [if_neg (by simp), Nat.add_zero]

theorem ro_lt {N D : Nat} (h : ¬ overB N D) : roB N D < 9223372036854775808 := by
  have := ro_fin h
  unfold xB at this
  omega

theorem order_bits {neg : Bool} {s : List UInt8} {e : Int} (h : RightP neg s e) (ho : ¬ overB (numV s e) (denV e)) : Ctr Try.prog 13 [.i .u64 (bitsV neg s e)] (.i .i64 (ordB neg s e)) := by
  have hlt := ro_lt ho
  cases neg with
  | true =>
    rw [bitsV_neg h, show ordB true s e = -(roB (numV s e) (denV e) : Int) from if_pos rfl]
    generalize roB (numV s e) (denV e) = r at hlt
    exact order_neg r _ rfl hlt
  | false =>
    rw [bitsV_pos, show ordB false s e = (roB (numV s e) (denV e) : Int) from if_neg (by decide)]
    generalize roB (numV s e) (denV e) = r at hlt
    exact order_pos r hlt

end Go.Proofs.Ytenkmfahcmahkaa.Flow
