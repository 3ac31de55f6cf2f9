import Derived.Test.YtenkmfahcmahkaaF1
/- FLOAT: the nearest number of 64 bits. -/
namespace Go.Proofs.Ytenkmfahcmahkaa.Flow

/-- 2 to so much. -/
def tw (n : Nat) : Nat := 2 ^ n
theorem tw_pos (n : Nat) : 0 < tw n := Nat.two_pow_pos n

theorem cmpQ_tw (N D m : Nat) (e : Int) (s : Nat) (h : 0 ≤ e + s) : cmpQ N D m e = cmpV (N * tw s) (D * (m * tw (e + s).toNat)) := cmpQ_scale N D m e s h

def xB (b : Nat) : Nat := b / 4503599627370496
def mB (b : Nat) : Nat := if xB b = 0 then b % 4503599627370496 else b % 4503599627370496 + 4503599627370496
def eB (b : Nat) : Int := if xB b = 0 then -1074 else (xB b : Int) - 1075
/-- The step from one number to the next, and a number, both times 2 to 1075. -/
def uB (b : Nat) : Nat := tw (max (xB b) 1)
def hB (b : Nat) : Nat := tw (max (xB b) 1 - 1)
def wB (b : Nat) : Nat := mB b * uB b

theorem u_h (b : Nat) : uB b = 2 * hB b := by
  unfold uB hB
  obtain ⟨k, hk⟩ : ∃ k, max (xB b) 1 = k + 1 := ⟨max (xB b) 1 - 1, by omega⟩
  rw [hk]
  simp only [Nat.add_sub_cancel, tw, Nat.pow_succ]
  omega

theorem hB_pos (b : Nat) : 0 < hB b := tw_pos _

theorem e_u (b : Nat) : tw (eB b + (1075 : Nat)).toNat = uB b := by
  unfold eB uB
  split
  · rename_i h
    rw [h]
    rfl
  · rename_i h
    congr 1
    omega

theorem e_h (b : Nat) : tw (eB b - 1 + (1075 : Nat)).toNat = hB b := by
  unfold eB hB
  split
  · rename_i h
    rw [h]
    rfl
  · rename_i h
    congr 1
    omega

theorem w_succ (b : Nat) : wB (b + 1) = wB b + uB b := by
  have h1 : b = 4503599627370496 * (b / 4503599627370496) + b % 4503599627370496 := (Nat.div_add_mod ..).symm
  unfold wB
  by_cases hf : b % 4503599627370496 + 1 < 4503599627370496
  · have hx : xB (b + 1) = xB b := by unfold xB; omega
    have hm : mB (b + 1) = mB b + 1 := by
      unfold mB
      rw [hx]
      split <;> omega
    have hu : uB (b + 1) = uB b := by unfold uB; rw [hx]
    rw [hm, hu, Nat.add_mul, Nat.one_mul]
  · have hx : xB (b + 1) = xB b + 1 := by unfold xB; omega
    have h0 : (b + 1) % 4503599627370496 = 0 := by omega
    have hm : mB (b + 1) = 4503599627370496 := by
      unfold mB
      rw [if_neg (by omega), h0]
    by_cases hz : xB b = 0
    · have hm2 : mB b = 4503599627370495 := by
        unfold mB
        rw [if_pos hz]
        omega
      have hu : uB b = 2 := by unfold uB; rw [hz]; rfl
      have hu2 : uB (b + 1) = 2 := by unfold uB; rw [hx, hz]; rfl
      rw [hm, hm2, hu, hu2]
    · have hm2 : mB b = 9007199254740991 := by
        unfold mB
        rw [if_neg hz]
        omega
      have hu : uB (b + 1) = 2 * uB b := by
        unfold uB
        rw [hx, show max (xB b + 1) 1 = max (xB b) 1 + 1 by omega, tw, Nat.pow_succ, Nat.mul_comm]
        rfl
      rw [hm, hm2, hu]
      omega

theorem w_mono {b c : Nat} (h : b ≤ c) : wB b ≤ wB c := by
  induction c with
  | zero => rw [show b = 0 by omega]; exact Nat.le_refl _
  | succ c ih =>
    by_cases e : b = c + 1
    · rw [e]; exact Nat.le_refl _
    · rw [w_succ]
      have := ih (by omega)
      omega

theorem w_zero : wB 0 = 0 := by simp [wB, mB, xB]

/-- Bits, from high to low, as long as p holds. -/
def floorG (p : Nat → Bool) : Nat → Nat → Nat
  | 0, b => b
  | k + 1, b => floorG p k (if p (b + 2 ^ k) = true then b + 2 ^ k else b)

theorem floorG_ok {p : Nat → Bool} : ∀ (k b : Nat), p b = true → p (b + 2 ^ k) = false → p (floorG p k b) = true ∧ p (floorG p k b + 1) = false ∧ b ≤ floorG p k b ∧ floorG p k b < b + 2 ^ k
  | 0, b, h, h2 => ⟨h, h2, Nat.le_refl _, by simp [floorG]⟩
  | k + 1, b, h, h2 => by
    have e : 2 ^ (k + 1) = 2 ^ k + 2 ^ k := by rw [Nat.pow_succ]; omega
    unfold floorG
    split
    · rename_i h3
      have ih := floorG_ok k (b + 2 ^ k) h3 (by rw [Nat.add_assoc, ← e]; exact h2)
      exact ⟨ih.1, ih.2.1, by omega, by omega⟩
    · rename_i h3
      have ih := floorG_ok k b h (by simpa using h3)
      exact ⟨ih.1, ih.2.1, by omega, by omega⟩

/-- Is a number of these bits, and is it no greater than N by D? -/
def pB (N D : Nat) (b : Nat) : Bool := decide (xB b < 2047) && decide (0 ≤ cmpQ N D (mB b) (eB b))

def flB (N D : Nat) : Nat := floorG (pB N D) 63 0
def upB (N D b : Nat) : Bool := decide (0 < cmpQ N D (2 * mB b + 1) (eB b - 1)) || (decide (cmpQ N D (2 * mB b + 1) (eB b - 1) = 0) && decide (mB b % 2 = 1))
def roB (N D : Nat) : Nat := if upB N D (flB N D) = true then flB N D + 1 else flB N D

theorem e_ge (b : Nat) : -1074 ≤ eB b := by unfold eB; split <;> omega

theorem cmp_w (N D b : Nat) : cmpQ N D (mB b) (eB b) = cmpV (N * tw 1075) (D * wB b) := by
  rw [cmpQ_tw N D _ _ 1075 (by have := e_ge b; omega), e_u]
  rfl

theorem cmp_h (N D b : Nat) : cmpQ N D (2 * mB b + 1) (eB b - 1) = cmpV (N * tw 1075) (D * (wB b + hB b)) := by
  rw [cmpQ_tw N D _ _ 1075 (by have := e_ge b; omega), e_h]
  congr 2
  unfold wB
  rw [u_h]
  grind

theorem cmpV_ge {x y : Nat} : 0 ≤ cmpV x y ↔ y ≤ x := by unfold cmpV; split <;> (try split) <;> omega
theorem cmpV_pos {x y : Nat} : 0 < cmpV x y ↔ y < x := by unfold cmpV; split <;> (try split) <;> omega
theorem cmpV_zero {x y : Nat} : cmpV x y = 0 ↔ x = y := by unfold cmpV; split <;> (try split) <;> omega

theorem pB_iff {N D b : Nat} : pB N D b = true ↔ xB b < 2047 ∧ D * wB b ≤ N * tw 1075 := by
  unfold pB
  rw [cmp_w]
  simp [cmpV_ge]

theorem flB_ok (N D : Nat) : xB (flB N D) < 2047 ∧ D * wB (flB N D) ≤ N * tw 1075 ∧ (xB (flB N D + 1) < 2047 → N * tw 1075 < D * wB (flB N D + 1)) ∧ flB N D < 2 ^ 63 := by
  have h := floorG_ok (p := pB N D) 63 0 (pB_iff.2 ⟨by decide, by rw [w_zero]; simp⟩) (by
    cases e : pB N D (0 + 2 ^ 63) with
    | false => rfl
    | true => exact absurd (pB_iff.1 e).1 (by decide))
  change pB N D (flB N D) = true ∧ pB N D (flB N D + 1) = false ∧ 0 ≤ flB N D ∧ flB N D < 0 + 2 ^ 63 at h
  obtain ⟨h1, h2, _, h4⟩ := h
  obtain ⟨h5, h6⟩ := pB_iff.1 h1
  refine ⟨h5, h6, fun h7 => ?_, by omega⟩
  by_cases h8 : D * wB (flB N D + 1) ≤ N * tw 1075
  · rw [pB_iff.2 ⟨h7, h8⟩] at h2
    cases h2
  · omega

theorem up_iff {N D b : Nat} : upB N D b = true ↔ D * (wB b + hB b) < N * tw 1075 ∨ N * tw 1075 = D * (wB b + hB b) ∧ mB b % 2 = 1 := by
  unfold upB
  rw [cmp_h]
  simp [cmpV_pos, cmpV_zero]

/-- The greatest number's bits. -/
theorem top_bits {b : Nat} (h : xB b < 2047) (h2 : ¬ xB (b + 1) < 2047) : b = 9218868437227405311 := by
  unfold xB at h h2
  omega

/-- What lies in no number's reach. -/
def overB (N D : Nat) : Prop := 0 ≤ cmpQ N D 18014398509481983 970

theorem over_iff {N D : Nat} : overB N D ↔ D * (18014398509481983 * tw 2045) ≤ N * tw 1075 := by
  unfold overB
  rw [cmpQ_tw N D _ _ 1075 (by omega), cmpV_ge, show ((970 : Int) + (1075 : Nat)).toNat = 2045 by decide]

theorem xtop : xB 9218868437227405311 = 2046 := by decide
theorem mtop : mB 9218868437227405311 = 9007199254740991 := by decide

theorem top_wh : wB 9218868437227405311 + hB 9218868437227405311 = 18014398509481983 * tw 2045 := by
  have h1 : hB 9218868437227405311 = tw 2045 := congrArg tw (show max (xB 9218868437227405311) 1 - 1 = 2045 by rw [xtop]; decide)
  generalize tw 2045 = t at h1 ⊢
  have h2 : wB 9218868437227405311 = 9007199254740991 * (2 * hB 9218868437227405311) := by rw [← u_h, ← mtop]; rfl
  rw [h2, h1]
  omega

theorem ro_fin {N D : Nat} (h : ¬ overB N D) : xB (roB N D) < 2047 := by
  obtain ⟨h1, h2, h3, h4⟩ := flB_ok N D
  unfold roB
  split
  · rename_i hu
    by_cases h5 : xB (flB N D + 1) < 2047
    · exact h5
    · exfalso
      have hb := top_bits h1 h5
      rw [hb, up_iff, top_wh] at hu
      rw [over_iff] at h
      rcases hu with hu | hu
      · omega
      · omega
  · exact h1

/-- As the reference asks it. -/
def nearB (N D b : Nat) : Bool :=
  if 0 < cmpQ N D (2 * mB b + 1) (eB b - 1) ∨ (cmpQ N D (2 * mB b + 1) (eB b - 1) = 0 ∧ ¬ mB b % 2 = 0) then false
  else if mB b = 0 then true
  else if mB b = 4503599627370496 ∧ -1074 < eB b then
    decide (0 < cmpQ N D (4 * mB b - 1) (eB b - 2)) || (decide (cmpQ N D (4 * mB b - 1) (eB b - 2) = 0) && decide (mB b % 2 = 0))
  else
    decide (0 < cmpQ N D (2 * mB b - 1) (eB b - 1)) || (decide (cmpQ N D (2 * mB b - 1) (eB b - 1) = 0) && decide (mB b % 2 = 0))

/-- The middle below bits that are not 0. -/
theorem low_mid (N D b : Nat) (hm : mB b ≠ 0) : ∃ c, b = c + 1 ∧
    (if mB b = 4503599627370496 ∧ -1074 < eB b then cmpQ N D (4 * mB b - 1) (eB b - 2) else cmpQ N D (2 * mB b - 1) (eB b - 1)) = cmpV (N * tw 1075) (D * (wB c + hB c)) ∧ mB c % 2 ≠ mB b % 2 := by
  have hb0 : b ≠ 0 := by
    intro e
    subst e
    exact hm (by decide)
  obtain ⟨c, rfl⟩ : ∃ c, b = c + 1 := ⟨b - 1, by omega⟩
  refine ⟨c, rfl, ?_⟩
  by_cases hf : c % 4503599627370496 + 1 < 4503599627370496
  · have hx : xB (c + 1) = xB c := by unfold xB; omega
    have hmm : mB (c + 1) = mB c + 1 := by
      unfold mB
      rw [hx]
      split <;> omega
    have he : eB (c + 1) = eB c := by unfold eB; rw [hx]
    refine ⟨?_, by omega⟩
    rw [if_neg, ← cmp_h, hmm, he]
    · congr 1
    · rintro ⟨h1, h2⟩
      rw [hmm] at h1
      unfold mB at h1
      unfold eB at h2
      rw [hx] at h2
      split at h1
      · rename_i hz
        rw [if_pos hz] at h2
        omega
      · omega
  · have hx : xB (c + 1) = xB c + 1 := by unfold xB; omega
    have hmm : mB (c + 1) = 4503599627370496 := by
      unfold mB
      rw [if_neg (by omega), show (c + 1) % 4503599627370496 = 0 by omega]
    have he : eB (c + 1) = (xB c : Int) - 1074 := by unfold eB; rw [hx, if_neg (by omega)]; omega
    by_cases hz : xB c = 0
    · have hm2 : mB c = 4503599627370495 := by
        unfold mB
        rw [if_pos hz]
        omega
      have he2 : eB c = -1074 := by unfold eB; rw [if_pos hz]
      refine ⟨?_, by omega⟩
      rw [if_neg (by omega), ← cmp_h, hmm, hm2, he, he2, hz]
      rfl
    · have hm2 : mB c = 9007199254740991 := by
        unfold mB
        rw [if_neg hz]
        omega
      have he2 : eB c = (xB c : Int) - 1075 := by unfold eB; rw [if_neg hz]
      refine ⟨?_, by omega⟩
      rw [if_pos ⟨hmm, by omega⟩, ← cmp_h, hmm, hm2, he, he2]
      congr 1
      omega

theorem near_iff {N D b : Nat} : nearB N D b = true ↔ upB N D b = false ∧ (mB b = 0 ∨ ∃ c, b = c + 1 ∧ (D * (wB c + hB c) < N * tw 1075 ∨ N * tw 1075 = D * (wB c + hB c) ∧ mB b % 2 = 0)) := by
  have hu : upB N D b = false ↔ ¬ (0 < cmpQ N D (2 * mB b + 1) (eB b - 1) ∨ (cmpQ N D (2 * mB b + 1) (eB b - 1) = 0 ∧ ¬ mB b % 2 = 0)) := by
    rw [← Bool.not_eq_true, upB]
    simp
  rw [hu]
  unfold nearB
  split
  · rename_i h
    exact ⟨fun e => (nomatch e), fun e => absurd h e.1⟩
  · rename_i h
    split
    · rename_i h0
      exact ⟨fun _ => ⟨h, .inl h0⟩, fun _ => rfl⟩
    · rename_i h0
      obtain ⟨c, hc, h2, _⟩ := low_mid N D b h0
      have hex : (∃ c', b = c' + 1 ∧ (D * (wB c' + hB c') < N * tw 1075 ∨ N * tw 1075 = D * (wB c' + hB c') ∧ mB b % 2 = 0)) ↔ (D * (wB c + hB c) < N * tw 1075 ∨ N * tw 1075 = D * (wB c + hB c) ∧ mB b % 2 = 0) := by
        constructor
        · rintro ⟨c', h3, h4⟩
          obtain rfl : c' = c := by omega
          exact h4
        · exact fun h4 => ⟨c, hc, h4⟩
      rw [hex]
      split at h2
      · rename_i h5
        rw [if_pos h5, h2]
        simp only [Bool.or_eq_true, Bool.and_eq_true, decide_eq_true_eq, cmpV_pos, cmpV_zero]
        exact ⟨fun e => ⟨h, .inr e⟩, fun e => e.2.resolve_left h0⟩
      · rename_i h5
        rw [if_neg h5, h2]
        simp only [Bool.or_eq_true, Bool.and_eq_true, decide_eq_true_eq, cmpV_pos, cmpV_zero]
        exact ⟨fun e => ⟨h, .inr e⟩, fun e => e.2.resolve_left h0⟩

theorem h_lt_u (b : Nat) : hB b < uB b := by have := hB_pos b; have := u_h b; omega

theorem up_le {N D b : Nat} (hD : 0 < D) (h : N * tw 1075 < D * wB b) : upB N D b = false := by
  rw [← Bool.not_eq_true, up_iff]
  have : D * wB b ≤ D * (wB b + hB b) := Nat.mul_le_mul_left _ (by omega)
  omega

/-- THE NUMBER FOUND IS THE NEAREST. -/
theorem ro_near {N D : Nat} (hD : 0 < D) (h : ¬ overB N D) : nearB N D (roB N D) = true := by
  obtain ⟨h1, h2, h3, h4⟩ := flB_ok N D
  have hf := ro_fin h
  rw [near_iff]
  unfold roB at hf ⊢
  split
  · rename_i hu
    rw [if_pos hu] at hf
    have h5 := h3 hf
    refine ⟨up_le hD h5, .inr ⟨_, rfl, ?_⟩⟩
    rw [up_iff] at hu
    rcases hu with hu | ⟨hu, hm⟩
    · exact .inl hu
    · refine .inr ⟨hu, ?_⟩
      obtain ⟨c, hc, _, hp⟩ := low_mid N D (flB N D + 1) (by
        intro e
        have hw := w_succ (flB N D)
        unfold wB at hw
        rw [e] at hw
        have := hB_pos (flB N D)
        have := u_h (flB N D)
        omega)
      obtain rfl : flB N D = c := by omega
      omega
  · rename_i hu
    refine ⟨by simpa using hu, ?_⟩
    by_cases h0 : mB (flB N D) = 0
    · exact .inl h0
    · obtain ⟨c, hc, _, _⟩ := low_mid N D (flB N D) h0
      refine .inr ⟨c, hc, .inl ?_⟩
      have hw := w_succ c
      rw [← hc] at hw
      have h6 : D * (wB c + hB c + 1) ≤ D * wB (flB N D) := Nat.mul_le_mul_left _ (by have := h_lt_u c; omega)
      have h7 : D * (wB c + hB c + 1) = D * (wB c + hB c) + D := by grind
      omega

/-- OF TWO THE GREATER ONE's NUMBER IS NO LESS. -/
theorem ro_mono {N D N' D' : Nat} (hD : 0 < D) (hD' : 0 < D') (h : ¬ overB N D) (h' : ¬ overB N' D') (hlt : N * D' < N' * D) : roB N D ≤ roB N' D' := by
  refine Nat.le_of_not_lt fun hgt => ?_
  have n1 := near_iff.1 (ro_near hD h)
  have n2 := near_iff.1 (ro_near hD' h')
  generalize roB N D = b at n1 hgt
  generalize roB N' D' = b' at n2 hgt
  have hm : mB b ≠ 0 := by
    intro e
    have : b ≠ 0 := by omega
    unfold mB at e
    unfold xB at e
    split at e <;> omega
  rcases n1.2 with e | ⟨c, rfl, hc⟩
  · exact hm e
  · have hc : D * (wB c + hB c) ≤ N * tw 1075 := by omega
    have hb : N' * tw 1075 ≤ D' * (wB b' + hB b') := by
      have := n2.1
      rw [← Bool.not_eq_true, up_iff] at this
      omega
    have hwm : wB b' + hB b' ≤ wB c + hB c := by
      by_cases e : b' = c
      · rw [e]; exact Nat.le_refl _
      · have h1 := w_mono (show b' + 1 ≤ c by omega)
        rw [w_succ] at h1
        have := h_lt_u b'
        omega
    have a1 : D' * (D * (wB c + hB c)) ≤ D' * (N * tw 1075) := Nat.mul_le_mul_left _ hc
    have a2 : D * (N' * tw 1075) ≤ D * (D' * (wB b' + hB b')) := Nat.mul_le_mul_left _ hb
    have a3 : D * (D' * (wB b' + hB b')) ≤ D * (D' * (wB c + hB c)) := Nat.mul_le_mul_left _ (Nat.mul_le_mul_left _ hwm)
    have a4 : D' * (D * (wB c + hB c)) = D * (D' * (wB c + hB c)) := by grind
    have a5 : D * (N' * tw 1075) ≤ D' * (N * tw 1075) := by omega
    have a6 : N' * D * tw 1075 ≤ N * D' * tw 1075 := by
      have e1 : D * (N' * tw 1075) = N' * D * tw 1075 := by grind
      have e2 : D' * (N * tw 1075) = N * D' * tw 1075 := by grind
      omega
    have := Nat.le_of_mul_le_mul_right a6 (tw_pos 1075)
    omega

end Go.Proofs.Ytenkmfahcmahkaa.Flow
