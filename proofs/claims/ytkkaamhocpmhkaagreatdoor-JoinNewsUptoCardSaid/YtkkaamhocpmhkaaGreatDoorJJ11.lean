/- The texts F1, F2, F3, F4, F5, F6, one behind the other. -/
import Derived.Test.YtkkaamhocpmhkaaGreatDoorJJ9
namespace Go.Proofs.YtkkaamhocpmhkaaGreatDoor.Flow
def val (B : Nat) : List Nat → Nat
  | [] => 0
  | w :: r => w + B * val B r
def wsm (B : Nat) (l : List Nat) : Prop := ∀ w ∈ l, w < B
def nrm : List Nat → Prop
  | [] => True
  | [w] => 0 < w
  | _ :: b :: r => nrm (b :: r)
def mulG (B m : Nat) : Nat → List Nat → List Nat
  | c, [] => if 0 < c then [c] else []
  | c, w :: r => (c + w * m) % B :: mulG B m ((c + w * m) / B) r
theorem zbQ (B m : Nat) : ∀ (l : List Nat) (c : Nat), val B (mulG B m c l) = val B l * m + c
  | [], c => by
    unfold mulG
    split <;> simp [val] <;> omega
  | w :: r, c => by
    have ih := zbQ B m r ((c + w * m) / B)
    have hd := Nat.mod_add_div (c + w * m) B
    unfold mulG val
    rw [ih]
    grind
theorem zgj {B m c w : Nat} (hm : m ≤ B) (hc : c < B) (hw : w < B) : (c + w * m) / B < B := by
  rw [Nat.div_lt_iff_lt_mul (by omega)]
  have h1 : w * m ≤ (B - 1) * B := Nat.mul_le_mul (by omega) hm
  have h2 : (B - 1) * B + B = B * B := by
    obtain ⟨k, rfl⟩ : ∃ k, B = k + 1 := ⟨B - 1, by omega⟩
    simp
    grind
  omega
theorem zcl (B : Nat) : wsm B [] := fun w h => by simp at h
theorem zaP {B w : Nat} {l : List Nat} : wsm B (w :: l) ↔ w < B ∧ wsm B l := by simp [wsm]
theorem zdY {B : Nat} {a b : List Nat} : wsm B (a ++ b) ↔ wsm B a ∧ wsm B b := by
  simp only [wsm, List.mem_append]
  exact ⟨fun h => ⟨fun w hw => h w (.inl hw), fun w hw => h w (.inr hw)⟩, fun h w hw => hw.elim (h.1 w) (h.2 w)⟩
theorem zbr {B m : Nat} (hm : m ≤ B) : ∀ (l : List Nat) (c : Nat), c < B → wsm B l → wsm B (mulG B m c l)
  | [], c, hc, _ => by
    unfold mulG
    split
    · exact zaP.2 ⟨hc, zcl B⟩
    · exact zcl B
  | w :: r, c, hc, hl => by
    obtain ⟨h1, h2⟩ := zaP.1 hl
    exact zaP.2 ⟨Nat.mod_lt _ (by omega), zbr hm r _ (zgj hm hc h1) h2⟩
theorem zqb {B m c w : Nat} {r : List Nat} : ∃ x l, mulG B m c (w :: r) = x :: l := ⟨_, _, rfl⟩
theorem zet {B m : Nat} (hB : 0 < B) (hm : 0 < m) : ∀ (l : List Nat) (c : Nat), nrm l → nrm (mulG B m c l)
  | [], c, _ => by
    unfold mulG
    split
    · assumption
    · trivial
  | [w], c, h => by
    have h : 0 < w := h
    have h1 : 0 < w * m := Nat.mul_pos h hm
    show nrm ((c + w * m) % B :: (if 0 < (c + w * m) / B then [(c + w * m) / B] else []))
    have hd := Nat.mod_add_div (c + w * m) B
    split
    · assumption
    · rename_i hz
      have h0 : (c + w * m) / B = 0 := Nat.eq_zero_of_not_pos hz
      rw [h0, Nat.mul_zero] at hd
      show 0 < (c + w * m) % B
      omega
  | w :: b :: r, c, h => by
    have ih := zet hB hm (b :: r) ((c + w * m) / B) h
    rw [mulG]
    obtain ⟨x, l, e⟩ := @zqb B m ((c + w * m) / B) b r
    rw [e] at ih ⊢
    exact ih
theorem zbc (B m : Nat) : ∀ (l : List Nat) (c : Nat), (mulG B m c l).length ≤ l.length + 1
  | [], c => by unfold mulG; split <;> simp
  | w :: r, c => by
    have := zbc B m r ((c + w * m) / B)
    simp only [mulG, List.length_cons]
    omega
theorem zbV (B : Nat) : ∀ (a b : List Nat), val B (a ++ b) = val B a + B ^ a.length * val B b
  | [], b => by simp [val]
  | x :: a, b => by
    have ih := zbV B a b
    simp only [List.cons_append, val, ih, List.length_cons, Nat.pow_succ]
    grind
theorem zjt {B : Nat} : ∀ {l : List Nat}, wsm B l → val B l < B ^ l.length
  | [], _ => by simp [val]
  | w :: r, h => by
    obtain ⟨h1, h2⟩ := zaP.1 h
    have ih := zjt h2
    simp only [val, List.length_cons, Nat.pow_succ]
    have h3 : B * (val B r + 1) ≤ B * B ^ r.length := Nat.mul_le_mul_left B ih
    have h4 : B * (val B r + 1) = B * val B r + B := by grind
    have h5 : B ^ r.length * B = B * B ^ r.length := Nat.mul_comm _ _
    omega
theorem zpq {B : Nat} (hB : 0 < B) : ∀ {l : List Nat}, nrm l → l ≠ [] → B ^ (l.length - 1) ≤ val B l
  | [], _, h => absurd rfl h
  | [w], h, _ => by
    have h : 0 < w := h
    simp [val]
    omega
  | w :: b :: r, h, _ => by
    have ih := zpq hB (show nrm (b :: r) from h) (by simp)
    have e : (w :: b :: r).length - 1 = (b :: r).length - 1 + 1 := by simp
    rw [e, Nat.pow_succ]
    have := Nat.mul_le_mul_left B ih
    rw [val]
    have h5 : B ^ ((b :: r).length - 1) * B = B * B ^ ((b :: r).length - 1) := Nat.mul_comm _ _
    omega
def cmpV (x y : Nat) : Int := if x < y then -1 else if y < x then 1 else 0
theorem zgA {x y : Nat} (h : x < y) : cmpV x y = -1 := if_pos h
theorem zhl {x y : Nat} (h : y < x) : cmpV x y = 1 := by unfold cmpV; rw [if_neg (by omega), if_pos h]
theorem zne {x y : Nat} (h : x = y) : cmpV x y = 0 := by unfold cmpV; rw [if_neg (by omega), if_neg (by omega)]
theorem zcE {B : Nat} (hB : 0 < B) {a b : List Nat} (ha : wsm B a) (hb : nrm b) (h : a.length < b.length) : val B a < val B b := by
  have h1 := zjt ha
  have h2 := zpq hB hb (fun e => by rw [e] at h; simp at h)
  exact Nat.lt_of_lt_of_le (Nat.lt_of_lt_of_le h1 (Nat.pow_le_pow_right hB (by omega))) h2
theorem zqZ {B : Nat} {p q t : List Nat} {x y : Nat} (hl : p.length = q.length) (hp : wsm B p) (h : x < y) : val B (p ++ x :: t) < val B (q ++ y :: t) := by
  rw [zbV, zbV, hl]
  have h1 := zjt hp
  rw [hl] at h1
  simp only [val]
  have h2 : B ^ q.length * (x + B * val B t + 1) ≤ B ^ q.length * (y + B * val B t) := Nat.mul_le_mul_left _ (by omega)
  have h3 : B ^ q.length * (x + B * val B t + 1) = B ^ q.length * (x + B * val B t) + B ^ q.length := by grind
  omega
theorem zdu (B : Nat) : ∀ (k : Nat) (l : List Nat), val B (List.replicate k 0 ++ l) = B ^ k * val B l
  | 0, l => by simp
  | k + 1, l => by
    simp only [List.replicate_succ, List.cons_append, val, zdu B k l, Nat.pow_succ]
    grind
theorem zff {B : Nat} (hB : 0 < B) (k : Nat) : wsm B (List.replicate k 0) := fun w h => by
  have := List.eq_of_mem_replicate h
  omega
theorem zil : ∀ (k : Nat) (l : List Nat), nrm l → l ≠ [] → nrm (List.replicate k 0 ++ l)
  | 0, l, h, _ => by simpa using h
  | k + 1, l, h, hn => by
    have ih := zil k l h hn
    simp only [List.replicate_succ, List.cons_append]
    cases e : List.replicate k 0 ++ l with
    | nil =>
      rw [List.append_eq_nil_iff] at e
      exact absurd e.2 hn
    | cons x r =>
      rw [e] at ih
      exact ih
def addG (B : Nat) : Nat → List Nat → List Nat → List Nat
  | c, [], [] => if 0 < c then [c] else []
  | c, x :: a, [] => (c + x) % B :: addG B ((c + x) / B) a []
  | c, [], y :: b => (c + y) % B :: addG B ((c + y) / B) [] b
  | c, x :: a, y :: b => (c + x + y) % B :: addG B ((c + x + y) / B) a b
theorem zeA (B : Nat) : ∀ (a b : List Nat) (c : Nat), val B (addG B c a b) = val B a + val B b + c
  | [], [], c => by
    unfold addG
    split <;> simp [val] <;> omega
  | x :: a, [], c => by
    have ih := zeA B a [] ((c + x) / B)
    have hd := Nat.mod_add_div (c + x) B
    simp only [addG, val, ih]
    grind
  | [], y :: b, c => by
    have ih := zeA B [] b ((c + y) / B)
    have hd := Nat.mod_add_div (c + y) B
    simp only [addG, val, ih]
    grind
  | x :: a, y :: b, c => by
    have ih := zeA B a b ((c + x + y) / B)
    have hd := Nat.mod_add_div (c + x + y) B
    simp only [addG, val, ih]
    grind
def trimG (l : List Nat) : List Nat := (l.reverse.dropWhile (· == 0)).reverse
theorem zde (l : List Nat) : trimG (l ++ [0]) = trimG l := by simp [trimG]
theorem zeb (l : List Nat) (w : Nat) (h : w ≠ 0) : trimG (l ++ [w]) = l ++ [w] := by simp [trimG, h]
theorem zkv (l : List Nat) : l = [] ∨ ∃ r w, l = r ++ [w] := by
  rcases List.eq_nil_or_concat l with h | ⟨r, w, h⟩
  · exact .inl h
  · exact .inr ⟨r, w, by simpa using h⟩
theorem zjv : ∀ (l : List Nat) (w : Nat), 0 < w → nrm (l ++ [w])
  | [], _, h => h
  | [_], _, h => h
  | _ :: y :: r, w, h => zjv (y :: r) w h
theorem zdo (B : Nat) : ∀ (n : Nat) (l : List Nat), l.length = n → val B (trimG l) = val B l ∧ nrm (trimG l) ∧ (wsm B l → wsm B (trimG l)) ∧ (trimG l).length ≤ n
  | 0, l, h => by
    have : l = [] := List.length_eq_zero_iff.1 h
    subst this
    exact ⟨rfl, trivial, fun h => h, Nat.le_refl _⟩
  | n + 1, l, h => by
    rcases zkv l with rfl | ⟨r, w, rfl⟩
    · simp at h
    · by_cases hw : w = 0
      · subst hw
        have ih := zdo B n r (by simpa using h)
        rw [zde, zbV]
        refine ⟨by rw [ih.1]; simp [val], ih.2.1, fun h => ih.2.2.1 (zdY.1 h).1, by omega⟩
      · rw [zeb r w hw]
        exact ⟨rfl, zjv r w (by omega), fun h => h, by omega⟩
def cmpQ (N D m : Nat) (e : Int) : Int := if 0 ≤ e then cmpV N (D * m * 2 ^ e.toNat) else cmpV (N * 2 ^ (-e).toNat) (D * m)
theorem zjq (x y k : Nat) (h : 0 < k) : cmpV (x * k) (y * k) = cmpV x y := by
  unfold cmpV
  simp only [Nat.mul_lt_mul_right h]
theorem zkY (N D m : Nat) (e : Int) (s : Nat) (h : 0 ≤ e + s) : cmpQ N D m e = cmpV (N * 2 ^ s) (D * (m * 2 ^ (e + s).toNat)) := by
  unfold cmpQ
  split
  · rename_i h0
    have e1 : (e + s).toNat = e.toNat + s := by omega
    rw [e1, Nat.pow_add, ← zjq N _ (2 ^ s) (Nat.two_pow_pos s)]
    congr 1
    grind
  · have e1 : s = (-e).toNat + (e + s).toNat := by omega
    rw [← zjq (N * 2 ^ (-e).toNat) _ (2 ^ (e + s).toNat) (Nat.two_pow_pos _)]
    have e2 : N * 2 ^ s = N * 2 ^ (-e).toNat * 2 ^ (e + s).toNat := by
      rw [Nat.mul_assoc, ← Nat.pow_add, ← e1]
    rw [e2]
    congr 1
    grind
end Go.Proofs.YtkkaamhocpmhkaaGreatDoor.Flow

namespace Go.Proofs.YtkkaamhocpmhkaaGreatDoor.Flow
def tw (n : Nat) : Nat := 2 ^ n
theorem zrM (n : Nat) : 0 < tw n := Nat.two_pow_pos n
theorem ziU (N D m : Nat) (e : Int) (s : Nat) (h : 0 ≤ e + s) : cmpQ N D m e = cmpV (N * tw s) (D * (m * tw (e + s).toNat)) := zkY N D m e s h
def xB (b : Nat) : Nat := b / 4503599627370496
def mB (b : Nat) : Nat := if xB b = 0 then b % 4503599627370496 else b % 4503599627370496 + 4503599627370496
def eB (b : Nat) : Int := if xB b = 0 then -1074 else (xB b : Int) - 1075
def uB (b : Nat) : Nat := tw (max (xB b) 1)
def hB (b : Nat) : Nat := tw (max (xB b) 1 - 1)
def wB (b : Nat) : Nat := mB b * uB b
theorem u_h (b : Nat) : uB b = 2 * hB b := by
  unfold uB hB
  obtain ⟨k, hk⟩ : ∃ k, max (xB b) 1 = k + 1 := ⟨max (xB b) 1 - 1, by omega⟩
  rw [hk]
  simp only [Nat.add_sub_cancel, tw, Nat.pow_succ]
  omega
theorem zru (b : Nat) : 0 < hB b := zrM _
theorem e_u (b : Nat) : tw (eB b + (1075 : Nat)).toNat = uB b := by
  unfold eB uB
  split
  · rename_i h
    rw [h]
    rfl
  · rename_i h
    congr 1
    omega
theorem e_h (b : Nat) : tw (eB b - 1 + (1075 : Nat)).toNat = hB b := by
  unfold eB hB
  split
  · rename_i h
    rw [h]
    rfl
  · rename_i h
    congr 1
    omega
theorem zrA (b : Nat) : wB (b + 1) = wB b + uB b := by
  have h1 : b = 4503599627370496 * (b / 4503599627370496) + b % 4503599627370496 := (Nat.div_add_mod ..).symm
  unfold wB
  by_cases hf : b % 4503599627370496 + 1 < 4503599627370496
  · have hx : xB (b + 1) = xB b := by unfold xB; omega
    have hm : mB (b + 1) = mB b + 1 := by
      unfold mB
      rw [hx]
      split <;> omega
    have hu : uB (b + 1) = uB b := by unfold uB; rw [hx]
    rw [hm, hu, Nat.add_mul, Nat.one_mul]
  · have hx : xB (b + 1) = xB b + 1 := by unfold xB; omega
    have h0 : (b + 1) % 4503599627370496 = 0 := by omega
    have hm : mB (b + 1) = 4503599627370496 := by
      unfold mB
      rw [if_neg (by omega), h0]
    by_cases hz : xB b = 0
    · have hm2 : mB b = 4503599627370495 := by
        unfold mB
        rw [if_pos hz]
        omega
      have hu : uB b = 2 := by unfold uB; rw [hz]; rfl
      have hu2 : uB (b + 1) = 2 := by unfold uB; rw [hx, hz]; rfl
      rw [hm, hm2, hu, hu2]
    · have hm2 : mB b = 9007199254740991 := by
        unfold mB
        rw [if_neg hz]
        omega
      have hu : uB (b + 1) = 2 * uB b := by
        unfold uB
        rw [hx, show max (xB b + 1) 1 = max (xB b) 1 + 1 by omega, tw, Nat.pow_succ, Nat.mul_comm]
        rfl
      rw [hm, hm2, hu]
      omega
theorem zrv : wB 0 = 0 := by simp [wB, mB, xB]
def floorG (p : Nat → Bool) : Nat → Nat → Nat
  | 0, b => b
  | k + 1, b => floorG p k (if p (b + 2 ^ k) = true then b + 2 ^ k else b)
theorem zfs {p : Nat → Bool} : ∀ (k b : Nat), p b = true → p (b + 2 ^ k) = false → p (floorG p k b) = true ∧ p (floorG p k b + 1) = false ∧ b ≤ floorG p k b ∧ floorG p k b < b + 2 ^ k
  | 0, b, h, h2 => ⟨h, h2, Nat.le_refl _, by simp [floorG]⟩
  | k + 1, b, h, h2 => by
    have e : 2 ^ (k + 1) = 2 ^ k + 2 ^ k := by rw [Nat.pow_succ]; omega
    unfold floorG
    split
    · rename_i h3
      have ih := zfs k (b + 2 ^ k) h3 (by rw [Nat.add_assoc, ← e]; exact h2)
      exact ⟨ih.1, ih.2.1, by omega, by omega⟩
    · rename_i h3
      have ih := zfs k b h (by simpa using h3)
      exact ⟨ih.1, ih.2.1, by omega, by omega⟩
def pB (N D : Nat) (b : Nat) : Bool := decide (xB b < 2047) && decide (0 ≤ cmpQ N D (mB b) (eB b))
def flB (N D : Nat) : Nat := floorG (pB N D) 63 0
def upB (N D b : Nat) : Bool := decide (0 < cmpQ N D (2 * mB b + 1) (eB b - 1)) || (decide (cmpQ N D (2 * mB b + 1) (eB b - 1) = 0) && decide (mB b % 2 = 1))
def roB (N D : Nat) : Nat := if upB N D (flB N D) = true then flB N D + 1 else flB N D
theorem zpN (b : Nat) : -1074 ≤ eB b := by unfold eB; split <;> omega
theorem cmp_w (N D b : Nat) : cmpQ N D (mB b) (eB b) = cmpV (N * tw 1075) (D * wB b) := by
  rw [ziU N D _ _ 1075 (by have := zpN b; omega), e_u]
  rfl
theorem zoA (N D b : Nat) : cmpQ N D (2 * mB b + 1) (eB b - 1) = cmpV (N * tw 1075) (D * (wB b + hB b)) := by
  rw [ziU N D _ _ 1075 (by have := zpN b; omega), e_h]
  congr 2
  unfold wB
  rw [u_h]
  grind
theorem zmf {x y : Nat} : 0 ≤ cmpV x y ↔ y ≤ x := by unfold cmpV; split <;> (try split) <;> omega
theorem zgQ {x y : Nat} : 0 < cmpV x y ↔ y < x := by unfold cmpV; split <;> (try split) <;> omega
theorem zfd {x y : Nat} : cmpV x y = 0 ↔ x = y := by unfold cmpV; split <;> (try split) <;> omega
theorem zjI {N D b : Nat} : pB N D b = true ↔ xB b < 2047 ∧ D * wB b ≤ N * tw 1075 := by
  unfold pB
  rw [cmp_w]
  simp [zmf]
theorem zjR (N D : Nat) : xB (flB N D) < 2047 ∧ D * wB (flB N D) ≤ N * tw 1075 ∧ (xB (flB N D + 1) < 2047 → N * tw 1075 < D * wB (flB N D + 1)) ∧ flB N D < 2 ^ 63 := by
  have h := zfs (p := pB N D) 63 0 (zjI.2 ⟨by decide, by rw [zrv]; simp⟩) (by
    cases e : pB N D (0 + 2 ^ 63) with
    | false => rfl
    | true => exact absurd (zjI.1 e).1 (by decide))
  change pB N D (flB N D) = true ∧ pB N D (flB N D + 1) = false ∧ 0 ≤ flB N D ∧ flB N D < 0 + 2 ^ 63 at h
  obtain ⟨h1, h2, _, h4⟩ := h
  obtain ⟨h5, h6⟩ := zjI.1 h1
  refine ⟨h5, h6, fun h7 => ?_, by omega⟩
  by_cases h8 : D * wB (flB N D + 1) ≤ N * tw 1075
  · rw [zjI.2 ⟨h7, h8⟩] at h2
    cases h2
  · omega
theorem zrs {N D b : Nat} : upB N D b = true ↔ D * (wB b + hB b) < N * tw 1075 ∨ N * tw 1075 = D * (wB b + hB b) ∧ mB b % 2 = 1 := by
  unfold upB
  rw [zoA]
  simp [zgQ, zfd]
theorem zoo {b : Nat} (h : xB b < 2047) (h2 : ¬ xB (b + 1) < 2047) : b = 9218868437227405311 := by
  unfold xB at h h2
  omega
def overB (N D : Nat) : Prop := 0 ≤ cmpQ N D 18014398509481983 970
theorem zoO {N D : Nat} : overB N D ↔ D * (18014398509481983 * tw 2045) ≤ N * tw 1075 := by
  unfold overB
  rw [ziU N D _ _ 1075 (by omega), zmf, show ((970 : Int) + (1075 : Nat)).toNat = 2045 by decide]
theorem xtop : xB 9218868437227405311 = 2046 := by decide
theorem mtop : mB 9218868437227405311 = 9007199254740991 := by decide
theorem zrm : wB 9218868437227405311 + hB 9218868437227405311 = 18014398509481983 * tw 2045 := by
  have h1 : hB 9218868437227405311 = tw 2045 := congrArg tw (show max (xB 9218868437227405311) 1 - 1 = 2045 by rw [xtop]; decide)
  generalize tw 2045 = t at h1 ⊢
  have h2 : wB 9218868437227405311 = 9007199254740991 * (2 * hB 9218868437227405311) := by rw [← u_h, ← mtop]; rfl
  rw [h2, h1]
  omega
theorem zrK {N D : Nat} (h : ¬ overB N D) : xB (roB N D) < 2047 := by
  obtain ⟨h1, h2, h3, h4⟩ := zjR N D
  unfold roB
  split
  · rename_i hu
    by_cases h5 : xB (flB N D + 1) < 2047
    · exact h5
    · exfalso
      have hb := zoo h1 h5
      rw [hb, zrs, zrm] at hu
      rw [zoO] at h
      rcases hu with hu | hu
      · omega
      · omega
  · exact h1
def nearB (N D b : Nat) : Bool :=
  if 0 < cmpQ N D (2 * mB b + 1) (eB b - 1) ∨ (cmpQ N D (2 * mB b + 1) (eB b - 1) = 0 ∧ ¬ mB b % 2 = 0) then false
  else if mB b = 0 then true
  else if mB b = 4503599627370496 ∧ -1074 < eB b then
    decide (0 < cmpQ N D (4 * mB b - 1) (eB b - 2)) || (decide (cmpQ N D (4 * mB b - 1) (eB b - 2) = 0) && decide (mB b % 2 = 0))
  else
    decide (0 < cmpQ N D (2 * mB b - 1) (eB b - 1)) || (decide (cmpQ N D (2 * mB b - 1) (eB b - 1) = 0) && decide (mB b % 2 = 0))
theorem zob (N D b : Nat) (hm : mB b ≠ 0) : ∃ c, b = c + 1 ∧
    (if mB b = 4503599627370496 ∧ -1074 < eB b then cmpQ N D (4 * mB b - 1) (eB b - 2) else cmpQ N D (2 * mB b - 1) (eB b - 1)) = cmpV (N * tw 1075) (D * (wB c + hB c)) ∧ mB c % 2 ≠ mB b % 2 := by
  have hb0 : b ≠ 0 := by
    intro e
    subst e
    exact hm (by decide)
  obtain ⟨c, rfl⟩ : ∃ c, b = c + 1 := ⟨b - 1, by omega⟩
  refine ⟨c, rfl, ?_⟩
  by_cases hf : c % 4503599627370496 + 1 < 4503599627370496
  · have hx : xB (c + 1) = xB c := by unfold xB; omega
    have hmm : mB (c + 1) = mB c + 1 := by
      unfold mB
      rw [hx]
      split <;> omega
    have he : eB (c + 1) = eB c := by unfold eB; rw [hx]
    refine ⟨?_, by omega⟩
    rw [if_neg, ← zoA, hmm, he]
    · congr 1
    · rintro ⟨h1, h2⟩
      rw [hmm] at h1
      unfold mB at h1
      unfold eB at h2
      rw [hx] at h2
      split at h1
      · rename_i hz
        rw [if_pos hz] at h2
        omega
      · omega
  · have hx : xB (c + 1) = xB c + 1 := by unfold xB; omega
    have hmm : mB (c + 1) = 4503599627370496 := by
      unfold mB
      rw [if_neg (by omega), show (c + 1) % 4503599627370496 = 0 by omega]
    have he : eB (c + 1) = (xB c : Int) - 1074 := by unfold eB; rw [hx, if_neg (by omega)]; omega
    by_cases hz : xB c = 0
    · have hm2 : mB c = 4503599627370495 := by
        unfold mB
        rw [if_pos hz]
        omega
      have he2 : eB c = -1074 := by unfold eB; rw [if_pos hz]
      refine ⟨?_, by omega⟩
      rw [if_neg (by omega), ← zoA, hmm, hm2, he, he2, hz]
      rfl
    · have hm2 : mB c = 9007199254740991 := by
        unfold mB
        rw [if_neg hz]
        omega
      have he2 : eB c = (xB c : Int) - 1075 := by unfold eB; rw [if_neg hz]
      refine ⟨?_, by omega⟩
      rw [if_pos ⟨hmm, by omega⟩, ← zoA, hmm, hm2, he, he2]
      congr 1
      omega
theorem zpk {N D b : Nat} : nearB N D b = true ↔ upB N D b = false ∧ (mB b = 0 ∨ ∃ c, b = c + 1 ∧ (D * (wB c + hB c) < N * tw 1075 ∨ N * tw 1075 = D * (wB c + hB c) ∧ mB b % 2 = 0)) := by
  have hu : upB N D b = false ↔ ¬ (0 < cmpQ N D (2 * mB b + 1) (eB b - 1) ∨ (cmpQ N D (2 * mB b + 1) (eB b - 1) = 0 ∧ ¬ mB b % 2 = 0)) := by
    rw [← Bool.not_eq_true, upB]
    simp
  rw [hu]
  unfold nearB
  split
  · rename_i h
    exact ⟨fun e => (nomatch e), fun e => absurd h e.1⟩
  · rename_i h
    split
    · rename_i h0
      exact ⟨fun _ => ⟨h, .inl h0⟩, fun _ => rfl⟩
    · rename_i h0
      obtain ⟨c, hc, h2, _⟩ := zob N D b h0
      have hex : (∃ c', b = c' + 1 ∧ (D * (wB c' + hB c') < N * tw 1075 ∨ N * tw 1075 = D * (wB c' + hB c') ∧ mB b % 2 = 0)) ↔ (D * (wB c + hB c) < N * tw 1075 ∨ N * tw 1075 = D * (wB c + hB c) ∧ mB b % 2 = 0) := by
        constructor
        · rintro ⟨c', h3, h4⟩
          obtain rfl : c' = c := by omega
          exact h4
        · exact fun h4 => ⟨c, hc, h4⟩
      rw [hex]
      split at h2
      · rename_i h5
        rw [if_pos h5, h2]
        simp only [Bool.or_eq_true, Bool.and_eq_true, decide_eq_true_eq, zgQ, zfd]
        exact ⟨fun e => ⟨h, .inr e⟩, fun e => e.2.resolve_left h0⟩
      · rename_i h5
        rw [if_neg h5, h2]
        simp only [Bool.or_eq_true, Bool.and_eq_true, decide_eq_true_eq, zgQ, zfd]
        exact ⟨fun e => ⟨h, .inr e⟩, fun e => e.2.resolve_left h0⟩
theorem zry (b : Nat) : hB b < uB b := by have := zru b; have := u_h b; omega
end Go.Proofs.YtkkaamhocpmhkaaGreatDoor.Flow

namespace Go.Proofs.YtkkaamhocpmhkaaGreatDoor.Flow
open Go
def wF (k : IntKind) (l : List Nat) : Nat → List D := fun i => [.i k ((l.getD i 0 : Nat) : Int)]
abbrev slW (k : IntKind) (l : List Nat) : D := .sl 1 l.length (wF k l)
theorem znw (k : IntKind) (l xs : List Nat) (g : Nat → List D) (hg : ∀ i, i < xs.length → g i = wF k xs i) : catF l.length (wF k l) xs.length g = wF k (l ++ xs) := by
  funext j
  unfold catF
  by_cases h : j < l.length
  · rw [if_pos h]
    simp [wF, List.getD_eq_getElem?_getD, h, List.getElem?_append_left]
  · rw [if_neg h]
    by_cases h2 : j < l.length + xs.length
    · rw [if_pos h2, hg _ (by omega)]
      simp [wF, List.getD_eq_getElem?_getD, List.getElem?_append_right (show l.length ≤ j by omega)]
    · rw [if_neg h2]
      simp [wF, List.getD_eq_getElem?_getD, List.getElem?_append_right (show l.length ≤ j by omega)]
      rw [List.getElem?_eq_none (show l.length ≤ j by omega), List.getElem?_eq_none (show xs.length ≤ j - l.length by omega)]
theorem zfl (k : IntKind) (l : List Nat) (n x : Nat) (g : Nat → List D) (hn : n = l.length) (hg : g 0 = [.i k (x : Int)]) : catF n (wF k l) 1 g = wF k (l ++ [x]) := by
  subst hn
  exact znw k l [x] g fun i hi => by
    have : i = 0 := by simpa using hi
    subst this
    exact hg
theorem zjJ (k : IntKind) (l : List Nat) (n x : Nat) (g : Nat → List D) (hn : n = l.length) (hg : g 0 = [.i k (x : Int)]) : D.sl 1 (n + 1) (catF n (wF k l) 1 g) = slW k (l ++ [x]) := by
  rw [zfl k l n x g hn hg]
  subst hn
  simp [slW]
theorem WL.rfl' (a : List D) : WL a a := .inl rfl
theorem WL.of_eq {a b : List D} (h : a = b) : WL a b := .inl h
theorem zec {B : Nat} {l : List Nat} (h : wsm B l) (hB : 0 < B) (i : Nat) : l.getD i 0 < B := by
  by_cases hi : i < l.length
  · simp only [List.getD_eq_getElem?_getD, List.getElem?_eq_getElem hi, Option.getD_some]
    exact h _ (List.getElem_mem hi)
  · simp only [List.getD_eq_getElem?_getD, List.getElem?_eq_none (show l.length ≤ i by omega), Option.getD_none]
    exact hB
theorem zaN {l : List Nat} {i : Nat} (h : i < l.length) : l.drop i = l.getD i 0 :: l.drop (i + 1) := by
  rw [List.getD_eq_getElem?_getD, List.getElem?_eq_getElem h, Option.getD_some, List.drop_eq_getElem_cons h]
theorem zcb (l : List Nat) (m c : Nat) (hl : wsm 4294967296 l) (hm : m < 4294967296) (hc : c < 4294967296) (hlen : l.length ≤ 1048576) :
    Ctr Tryz.prog 184 [slW .u32 l, .i .u32 m, .i .u32 c] (slW .u32 (mulG 4294967296 m c l)) := by
  refine zax Tryz.func184 rfl Tryz.ntmps184 Tryz.results184 rfl rfl fun X hL hX => ?_
  repeat' (first |with_reducible (first |refine zah ?_|refine zaa ?_|refine zag ?_|refine zad ?_|refine zaf ?_)|refine zab rfl rfl True.intro ?_|((first |refine zab rfl rfl ?_ ?_|refine zav rfl rfl ?_ ?_);focus (first |omega|((repeat' refine And.intro ?_ ?_)<;>omega)|((repeat' refine And.intro ?_ ?_)<;>first |omega|rfl)))|fail)
  refine T.loop hL (fun x : Nat × Nat × List Nat => [(1, .i .u32 m), (7, .ah 14 1 x.1), (8, .i .u64 x.2.1), (17, slW .u32 l), (18, .i .i64 l.length), (19, .i .i64 x.1)]) (fun x => [(14, .arr 139 1 x.1 (wF .u32 x.2.2))])
    (fun x => x.1 ≤ l.length ∧ x.2.1 < 4294967296 ∧ x.2.2.length = x.1 ∧ mulG 4294967296 m c l = x.2.2 ++ mulG 4294967296 m x.2.1 (l.drop x.1)) (fun x => l.length - x.1) (0, c, []) ⟨Nat.zero_le _, hc, rfl, rfl⟩
    ⟨⟨rfl, rfl, ?_, rfl, rfl, rfl, trivial⟩, ⟨⟨_, _, rfl, rfl, fun i hi => absurd hi (Nat.not_lt_zero _)⟩, trivial⟩, rfl, by rw [hX]; intro k hk; cases hk⟩ ?_
  · show D.i .u64 (IntKind.u64.wrap (c : Int)) = .i .u64 (c : Int)
    rw [zar]
    congr 1
    omega
  rintro ⟨i, cy, out⟩ ⟨g1, g2, g3, g4⟩
  dsimp only at g1 g2 g3 g4 ⊢
  have hw := zec hl (by omega) i
  generalize hwe : l.getD i 0 = w at hw
  have hmul : w * m ≤ 18446744065119617025 := Nat.mul_le_mul (show w ≤ 4294967295 by omega) (show m ≤ 4294967295 by omega)
  have hs : IntKind.u64.wrap ((cy : Int) + IntKind.u64.wrap (IntKind.u64.wrap (l.getD (i : Int).toNat 0 : Nat) * IntKind.u64.wrap (m : Int))) = ((cy + w * m : Nat) : Int) := by
    rw [Int.toNat_natCast, hwe]
    simp only [zar]
    rw [show ((w : Nat) : Int) % 18446744073709551616 = w by omega, show ((m : Nat) : Int) % 18446744073709551616 = m by omega, ← Int.natCast_mul]
    omega
  have e32 : (2 : Int) ^ Int.toNat 32 = 4294967296 := by decide
  repeat' (first |with_reducible (first |refine zah ?_|refine zaa ?_|refine zag ?_|refine zad ?_|refine zan ?_|refine zai ?_|refine zat ?_|refine zaf ?_|refine zao ?_|refine zas ?_)|refine zab rfl rfl True.intro ?_|((first |refine zac rfl ?_ ?_)<;>intro)|((first |refine zab rfl rfl ?_ ?_|refine zav rfl rfl ?_ ?_);focus (first |omega|exact le_ rfl|((repeat first |rw [zbv]|rw [zar]);(repeat' refine And.intro ?_ ?_)<;>omega)|((repeat' refine And.intro ?_ ?_)<;>first |omega|rfl)))|refine zaB rfl ?_|refine zeL [6] 14 rfl ⟨rfl, trivial⟩ rfl ?_|fail)
  · have hi : i < l.length := by omega
    refine ⟨(i + 1, (cy + w * m) / 4294967296, out ++ [(cy + w * m) % 4294967296]), ⟨by dsimp only; omega, zgj (by omega) g2 hw, by simp [g3], ?_⟩, by dsimp only; omega,
      ⟨rfl, rfl, by rw [hs, e32]; rfl, rfl, rfl, rfl, trivial⟩, ⟨⟨_, _, rfl, rfl, fun j _ => ?_⟩, trivial⟩, rfl, by rw [hX]; intro k hk; cases hk⟩
    · rw [g4, zaN hi, hwe, mulG]
      simp
    · refine WL.of_eq (congrFun (zfl .u32 out i _ _ g3.symm ?_) j)
      show [D.i .u32 (IntKind.u32.wrap _)] = _
      rw [hs, zbv]
      rfl
  · rename_i h1 h2
    refine Weak.of_eq ?_
    have e : mulG 4294967296 m c l = out ++ [cy] := by
      rw [g4, List.drop_eq_nil_of_le (by omega), mulG, if_pos (by omega)]
    rw [e]
    refine zjJ .u32 out i cy _ g3.symm ?_
    show [D.i .u32 (IntKind.u32.wrap _)] = _
    rw [zjn _ (by omega) (by omega)]
  · rename_i h1 h2
    refine Weak.of_eq ?_
    have e : mulG 4294967296 m c l = out := by
      rw [g4, List.drop_eq_nil_of_le (by omega), mulG, if_neg (by omega), List.append_nil]
    rw [e, ← g3]

theorem zcU {l : List Nat} {p : Nat} (h : p < l.length) : l = l.take p ++ l.getD p 0 :: l.drop (p + 1) := by
  rw [← zaN h, List.take_append_drop]
theorem zoI {B : Nat} {l : List Nat} (h : wsm B l) (p : Nat) : wsm B (l.take p) := fun w hw => h w (List.mem_of_mem_take hw)
theorem zcF {B : Nat} {a b : List Nat} (ha : wsm B a) (hl : a.length = b.length) {p : Nat} (hp : p < a.length) (ht : a.drop (p + 1) = b.drop (p + 1)) (h : a.getD p 0 < b.getD p 0) : val B a < val B b := by
  have e1 := zcU hp
  have e2 := zcU (show p < b.length by omega)
  rw [e1, e2, ← ht]
  exact zqZ (by simp; omega) (zoI ha p) h
theorem znh (a b : List Nat) (ha : wsm 4294967296 a) (hb : wsm 4294967296 b) (na : nrm a) (nb : nrm b) (h1 : a.length ≤ 1099511627776) (_h2 : b.length ≤ 1099511627776) :
    Ctr Tryz.prog 186 [slW .u32 a, slW .u32 b] (.i .i64 (cmpV (val 4294967296 a) (val 4294967296 b))) := by
  refine zax Tryz.func186 rfl Tryz.ntmps186 Tryz.results186 rfl rfl fun X hL hX => ?_
  repeat' (first |with_reducible (first |refine zah ?_|refine zaa ?_|refine zag ?_|refine zad ?_|refine zan ?_|refine zai ?_|refine zaf ?_|refine zam ?_)|refine zab rfl rfl True.intro ?_|((first |refine zac rfl ?_ ?_|refine zaR rfl ?_ ?_)<;>intro)|refine zaq rfl ?_|fail)
  · rw [zgA (zcE (by omega) ha nb (by omega))]
  · rw [zhl (zcE (by omega) hb na (by omega))]
  rename_i hlen
  have hlen : a.length = b.length := by omega
  refine T.loop hL (fun i : Nat => [(0, slW .u32 a), (1, slW .u32 b), (19, .i .i64 a.length), (20, .i .i64 i)]) (fun _ => []) (fun i => i ≤ a.length ∧ a.drop (a.length - i) = b.drop (a.length - i)) (fun i => a.length - i) 0
    ⟨Nat.zero_le _, by rw [List.drop_eq_nil_of_le (by omega), List.drop_eq_nil_of_le (by omega)]⟩ ⟨⟨rfl, rfl, rfl, rfl, trivial⟩, trivial, rfl, by rw [hX]; intro k hk; cases hk⟩ ?_
  rintro i ⟨g1, g2⟩
  have hp : i < a.length → ∃ p, p < a.length ∧ ((a.length : Int) - 1 - i).toNat = p ∧ a.length - i = p + 1 := fun h => ⟨a.length - 1 - i, by omega, by omega, by omega⟩
  repeat' (first |with_reducible (first |refine zah ?_|refine zaa ?_|refine zag ?_|refine zad ?_|refine zan ?_|refine zai ?_|refine zat ?_|refine zaf ?_|refine zao ?_|refine zas ?_|refine zam ?_|refine zaz ?_|refine zaC ?_)|refine zab rfl rfl True.intro ?_|((first |refine zac rfl ?_ ?_)<;>intro)|((first |refine zab rfl rfl ?_ ?_);focus (first |omega|exact le_ rfl|((repeat' refine And.intro ?_ ?_)<;>omega)))|refine zaB rfl ?_|with_reducible refine ⟨by kernel_rfl, ?_⟩|refine zaq rfl ?_|fail)
  · obtain ⟨p, p1, p2, p3⟩ := hp (by omega)
    rename_i hlt
    rw [p2] at hlt
    rw [p3] at g2
    rw [zgA (zcF ha hlen p1 g2 (by omega))]
  · obtain ⟨p, p1, p2, p3⟩ := hp (by omega)
    rename_i hlt
    rw [p2] at hlt
    rw [p3] at g2
    rw [zhl (zcF hb hlen.symm (by omega) g2.symm (by omega))]
  · obtain ⟨p, p1, p2, p3⟩ := hp (by omega)
    rename_i h3 h4
    rw [p2] at h3 h4
    rw [p3] at g2
    refine ⟨i + 1, ⟨by omega, ?_⟩, by omega, ⟨rfl, rfl, rfl, rfl, trivial⟩, trivial, rfl, by rw [hX]; intro k hk; cases hk⟩
    rw [show a.length - (i + 1) = p by omega, zaN p1, zaN (show p < b.length by omega), g2, show a.getD p 0 = b.getD p 0 by omega]
  · rw [show a.length - i = 0 by omega] at g2
    simp only [List.drop_zero] at g2
    rw [g2, zne rfl]
theorem zmR (B c : Nat) (a b : List Nat) (i : Nat) (h : i < a.length ∨ i < b.length) : addG B c (a.drop i) (b.drop i) = (c + a.getD i 0 + b.getD i 0) % B :: addG B ((c + a.getD i 0 + b.getD i 0) / B) (a.drop (i + 1)) (b.drop (i + 1)) := by
  by_cases h1 : i < a.length
  · by_cases h2 : i < b.length
    · rw [zaN h1, zaN h2, addG]
    · have e : b.getD i 0 = 0 := by simp [List.getD_eq_getElem?_getD, List.getElem?_eq_none (show b.length ≤ i by omega)]
      rw [zaN h1, List.drop_eq_nil_of_le (show b.length ≤ i by omega), List.drop_eq_nil_of_le (show b.length ≤ i + 1 by omega), e, addG]
      rfl
  · have h2 : i < b.length := by omega
    have e : a.getD i 0 = 0 := by simp [List.getD_eq_getElem?_getD, List.getElem?_eq_none (show a.length ≤ i by omega)]
    rw [zaN h2, List.drop_eq_nil_of_le (show a.length ≤ i by omega), List.drop_eq_nil_of_le (show a.length ≤ i + 1 by omega), e, addG]
    rfl
theorem zey {l : List Nat} {i : Nat} (h : ¬ i < l.length) : l.getD i 0 = 0 := by simp [List.getD_eq_getElem?_getD, List.getElem?_eq_none (show l.length ≤ i by omega)]
set_option maxHeartbeats 1000000 in
theorem zqq (a b : List Nat) (ha : wsm 4294967296 a) (hb : wsm 4294967296 b) (h1 : a.length ≤ 1048576) (h2 : b.length ≤ 1048576) :
    Ctr Tryz.prog 229 [slW .u32 a, slW .u32 b] (slW .u32 (addG 4294967296 0 a b)) := by
  refine zax Tryz.func229 rfl Tryz.ntmps229 Tryz.results229 rfl rfl fun X hL hX => ?_
  repeat' (first |with_reducible (first |refine zah ?_|refine zaa ?_|refine zag ?_|refine zad ?_|refine zaf ?_)|refine zab rfl rfl True.intro ?_|((first |refine zab rfl rfl ?_ ?_|refine zav rfl rfl ?_ ?_);focus (first |omega|((repeat' refine And.intro ?_ ?_)<;>omega)|((repeat' refine And.intro ?_ ?_)<;>first |omega|rfl)))|fail)
  refine T.loop hL (fun x : Nat × Nat × List Nat => [(0, slW .u32 a), (1, slW .u32 b), (5, .ah 14 1 x.1), (6, .i .u64 x.2.1), (19, .i .i64 (max (a.length : Int) b.length)), (20, .i .i64 x.1)]) (fun x => [(14, .arr 139 1 x.1 (wF .u32 x.2.2))])
    (fun x => x.1 ≤ max a.length b.length ∧ x.2.1 < 2 ∧ x.2.2.length = x.1 ∧ addG 4294967296 0 a b = x.2.2 ++ addG 4294967296 x.2.1 (a.drop x.1) (b.drop x.1)) (fun x => max a.length b.length - x.1) (0, 0, []) ⟨Nat.zero_le _, Nat.zero_lt_two, rfl, rfl⟩
    ⟨⟨rfl, rfl, rfl, rfl, rfl, rfl, trivial⟩, ⟨⟨_, _, rfl, rfl, fun i hi => absurd hi (Nat.not_lt_zero _)⟩, trivial⟩, rfl, by rw [hX]; intro k hk; cases hk⟩ ?_
  rintro ⟨i, cy, out⟩ ⟨g1, g2, g3, g4⟩
  dsimp only at g1 g2 g3 g4 ⊢
  have hwa := zec ha (by omega) i
  have hwb := zec hb (by omega) i
  have e32 : (2 : Int) ^ Int.toNat 32 = 4294967296 := by decide
  have leaf : ∀ (s : Int) (g : Nat → List D) (fr : Fr) (ow : Ow), i < max a.length b.length → s = ((cy + a.getD i 0 + b.getD i 0 : Nat) : Int) → g 0 = [.i .u32 (IntKind.u32.wrap s)] →
      leFr fr [(0, slW .u32 a), (1, slW .u32 b), (5, .ah 14 1 (i + 1)), (6, .i .u64 (s / 2 ^ Int.toNat 32)), (19, .i .i64 (max (a.length : Int) b.length)), (20, .i .i64 ((i : Int) + 1))] → look 14 ow = some (.arr 139 1 (i + 1) (catF i (wF .u32 out) 1 g)) →
      ∃ y : Nat × Nat × List Nat, (y.1 ≤ max a.length b.length ∧ y.2.1 < 2 ∧ y.2.2.length = y.1 ∧ addG 4294967296 0 a b = y.2.2 ++ addG 4294967296 y.2.1 (a.drop y.1) (b.drop y.1)) ∧ max a.length b.length - y.1 < max a.length b.length - i ∧
        Le X fr ow [(0, slW .u32 a), (1, slW .u32 b), (5, .ah 14 1 y.1), (6, .i .u64 y.2.1), (19, .i .i64 (max (a.length : Int) b.length)), (20, .i .i64 y.1)] [(14, .arr 139 1 y.1 (wF .u32 y.2.2))] := by
    rintro s g fr ow hi hs hg ⟨k1, k2, k3, k4, k5, k6, _⟩ hk
    refine ⟨(i + 1, (cy + a.getD i 0 + b.getD i 0) / 4294967296, out ++ [(cy + a.getD i 0 + b.getD i 0) % 4294967296]), ⟨by dsimp only; omega, by dsimp only; omega, by simp [g3], ?_⟩, by dsimp only; omega,
      ⟨k1, k2, k3, ?_, k5, k6, trivial⟩, ⟨⟨_, _, hk, rfl, fun j _ => ?_⟩, trivial⟩, rfl, by rw [hX]; intro k hk; cases hk⟩
    · rw [g4, zmR _ _ _ _ _ (by omega)]
      simp
    · rw [k4, hs, e32]
      rfl
    · refine WL.of_eq (congrFun (zfl .u32 out i _ _ g3.symm ?_) j)
      rw [hg, hs, zbv]
      rfl
  repeat' (first |with_reducible (first |refine zah ?_|refine zaa ?_|refine zag ?_|refine zad ?_|refine zan ?_|refine zai ?_|refine zat ?_|refine zaf ?_|refine zao ?_|refine zas ?_)|refine zab rfl rfl True.intro ?_|((first |refine zac rfl ?_ ?_)<;>intro<;>try (first |(exfalso;omega)))|((first |refine zab rfl rfl ?_ ?_|refine zav rfl rfl ?_ ?_);focus (first |omega|exact le_ rfl|((repeat first |rw [zbv]|rw [zar]);(repeat' refine And.intro ?_ ?_)<;>omega)|((repeat' refine And.intro ?_ ?_)<;>first |omega|rfl)))|refine zaB rfl ?_|refine zeL [4] 14 rfl ⟨rfl, trivial⟩ rfl ?_|fail)
  · refine leaf _ _ _ _ (by omega) ?_ rfl ⟨rfl, rfl, rfl, rfl, rfl, rfl, trivial⟩ rfl
    simp only [zar, Int.toNat_natCast]
    omega
  · refine leaf _ _ _ _ (by omega) ?_ rfl ⟨rfl, rfl, rfl, rfl, rfl, rfl, trivial⟩ rfl
    rw [zey (l := b) (by omega)]
    simp only [zar, Int.toNat_natCast]
    omega
  · refine leaf _ _ _ _ (by omega) ?_ rfl ⟨rfl, rfl, rfl, rfl, rfl, rfl, trivial⟩ rfl
    rw [zey (l := a) (by omega)]
    simp only [zar, Int.toNat_natCast]
    omega
  · rename_i h1 h2
    have e : addG 4294967296 0 a b = out ++ [cy] := by
      rw [g4, List.drop_eq_nil_of_le (by omega), List.drop_eq_nil_of_le (by omega), addG, if_pos (by omega)]
    rw [e]
    refine Weak.of_eq (zjJ .u32 out i cy _ g3.symm ?_)
    show [D.i .u32 (IntKind.u32.wrap _)] = _
    rw [zjn _ (by omega) (by omega)]
  · rename_i h1 h2
    have e : addG 4294967296 0 a b = out := by
      rw [g4, List.drop_eq_nil_of_le (by omega), List.drop_eq_nil_of_le (by omega), addG, if_neg (by omega), List.append_nil]
    rw [e, ← g3]
    exact .refl _

theorem zcK (k : IntKind) (l : List Nat) (m : Nat) (f : Nat → List D) (hm : m = l.length) (h : ∀ i, i < m → f i = wF k l i) : Weak (.sl 1 m f) (slW k l) := by
  subst hm
  refine .sl 1 _ _ _ (fun i hi => ?_) (fun i j hi _ => ?_)
  · rw [h i hi]
    exact ⟨rfl, rfl⟩
  · rw [h i hi]
    exact .refl _
theorem zlM (k : IntKind) (l : List Nat) (n i : Nat) (h : i < n) : wF k (l.take n) i = wF k l i := by
  simp [wF, List.getD_eq_getElem?_getD, h]
theorem zoV (a : List Nat) (h1 : a.length ≤ 1099511627776) : Ctr Tryz.prog 230 [slW .u32 a] (slW .u32 (trimG a)) := by
  refine zax Tryz.func230 rfl Tryz.ntmps230 Tryz.results230 rfl rfl fun X hL hX => ?_
  repeat' (first |with_reducible (first |refine zah ?_|refine zaa ?_|refine zag ?_|refine zad ?_|refine zaf ?_)|refine zab rfl rfl True.intro ?_|fail)
  refine T.loop hL (fun n : Nat => [(0, slW .u32 a), (3, .i .i64 n)]) (fun _ => []) (fun n => n ≤ a.length ∧ trimG a = trimG (a.take n)) (fun n => n) a.length
    ⟨Nat.le_refl _, by rw [List.take_length]⟩ ⟨⟨rfl, rfl, trivial⟩, trivial, rfl, by rw [hX]; intro k hk; cases hk⟩ ?_
  rintro n ⟨g1, g2⟩
  have hp : 0 < n → ∃ p, n = p + 1 ∧ ((n : Int) - 1).toNat = p := fun h => ⟨n - 1, by omega, by omega⟩
  have e : ∀ p, n = p + 1 → a.take n = a.take p ++ [a.getD p 0] := fun p h => by
    rw [h, List.take_add_one, List.getD_eq_getElem?_getD, List.getElem?_eq_getElem (by omega)]
    rfl
  have fin : trimG a = a.take n → Weak (.sl 1 ((n : Int).toNat - Int.toNat 0) fun i => wF .u32 a (Int.toNat 0 + i)) (slW .u32 (trimG a)) := fun h => by
    rw [h]
    refine zcK _ _ _ _ (by simp; omega) (fun i hi => ?_)
    rw [zlM _ _ _ _ (by simpa using hi)]
    simp
  repeat' (first |with_reducible (first |refine zah ?_|refine zaa ?_|refine zag ?_|refine zad ?_|refine zan ?_|refine zai ?_|refine zat ?_|refine zaf ?_|refine zao ?_|refine zas ?_)|refine zab rfl rfl True.intro ?_|refine zap rfl rfl rfl ?_|refine zaj rfl rfl rfl rfl True.intro ?_|refine zal rfl ?_|((first |refine zac rfl ?_ ?_|refine zak rfl rfl ?_ ?_)<;>intro)|((first |refine zab rfl rfl ?_ ?_|refine zaj rfl rfl rfl rfl ?_ ?_);focus (first |omega|exact le_ rfl|((repeat' refine And.intro ?_ ?_)<;>omega)))|refine zaB rfl ?_|refine zbN rfl ?_|fail)
  · rename_i h2 h3
    obtain ⟨p, rfl, hp⟩ := hp (by omega)
    rw [hp] at h3
    refine ⟨p, ⟨by omega, ?_⟩, by omega, ⟨rfl, by rw [show ((p : Nat) : Int) = ((p + 1 : Nat) : Int) - 1 by omega]; rfl, trivial⟩, trivial, rfl, by rw [hX]; intro k hk; cases hk⟩
    rw [g2, e p rfl, show a.getD p 0 = 0 by omega, zde]
  · rename_i h2 h3
    obtain ⟨p, rfl, hp⟩ := hp (by omega)
    rw [hp] at h3
    refine fin ?_
    rw [g2, e p rfl, zeb _ _ (by omega)]
  · refine fin ?_
    rw [g2, show n = 0 by omega]
    rfl
def shG (a : List Nat) (n : Nat) : List Nat := if a.length = 0 then a else List.replicate (n / 32) 0 ++ mulG 4294967296 (2 ^ (n % 32)) 0 a
theorem pow32 (n : Nat) : 2 ^ (n % 32) < 4294967296 := Nat.lt_of_lt_of_le (Nat.pow_lt_pow_right (by omega) (Nat.mod_lt n (by omega))) (by decide)
theorem zkg (a : List Nat) (n : Nat) (ha : wsm 4294967296 a) : val 4294967296 (shG a n) = val 4294967296 a * 2 ^ n ∧ (nrm a → nrm (shG a n)) ∧ wsm 4294967296 (shG a n) ∧ (shG a n).length ≤ a.length + n / 32 + 1 := by
  unfold shG
  split
  · rename_i h
    have : a = [] := List.length_eq_zero_iff.1 h
    subst this
    exact ⟨by simp [val], fun h => h, ha, by simp⟩
  · rename_i h
    have hlt := pow32 n
    refine ⟨?_, fun hn => ?_, zdY.2 ⟨zff (by omega) _, zbr (by omega) a 0 (by omega) ha⟩, ?_⟩
    · rw [zdu, zbQ]
      have e : (4294967296 : Nat) = 2 ^ 32 := by decide
      have e2 : (2 : Nat) ^ n = (2 ^ 32) ^ (n / 32) * 2 ^ (n % 32) := by rw [← Nat.pow_mul, ← Nat.pow_add, Nat.div_add_mod]
      rw [e2, ← e]
      grind
    · refine zil _ _ (zet (by omega) (Nat.two_pow_pos _) a 0 hn) ?_
      cases a with
      | nil => simp at h
      | cons w r => rw [mulG]; simp
    · have := zbc 4294967296 (2 ^ (n % 32)) a 0
      simp
      omega
theorem zfu (a : List Nat) (n : Nat) (ha : wsm 4294967296 a) (h1 : a.length ≤ 1048575) (h2 : n ≤ 1048576) : Ctr Tryz.prog 187 [slW .u32 a, .i .i64 n] (slW .u32 (shG a n)) := by
  have hlt := pow32 n
  have e0 : IntKind.u32.wrap (1 * 2 ^ ((n : Int) % 32).toNat) = ((2 ^ (n % 32) : Nat) : Int) := by
    rw [show ((n : Int) % 32).toNat = n % 32 by omega, zbv, Int.one_mul]
    rw [show (2 : Int) ^ (n % 32) = ((2 ^ (n % 32) : Nat) : Int) from (Int.natCast_pow 2 (n % 32)).symm]
    generalize 2 ^ (n % 32) = x at hlt
    omega
  have hm := zcb a (2 ^ (n % 32)) 0 ha hlt (by omega) (by omega)
  rw [← e0] at hm
  have hlen := zbc 4294967296 (2 ^ (n % 32)) a 0
  refine zax Tryz.func187 rfl Tryz.ntmps187 Tryz.results187 rfl rfl fun X hL hX => ?_
  repeat' (first |with_reducible (first |refine zah ?_|refine zaa ?_|refine zag ?_|refine zad ?_|refine zan ?_|refine zai ?_|refine zam ?_|refine zaC ?_)|refine zab rfl rfl True.intro ?_|((first |refine zac rfl ?_ ?_)<;>intro)|((first |refine zab rfl rfl ?_ ?_|refine zav rfl rfl ?_ ?_);focus (first |omega|((repeat first |rw [wi6_]);(repeat' refine And.intro ?_ ?_)<;>omega)|((repeat' refine And.intro ?_ ?_)<;>first |omega|rfl)))|with_reducible refine ⟨by kernel_rfl, ?_⟩|refine zeL [4] 11 rfl ⟨rfl, trivial⟩ rfl ?_|refine zaq rfl ?_|refine zae (f := 184) rfl rfl Tryz.call184 rfl hm ?_|fail)
  · unfold shG
    rw [if_pos (by omega)]
  · have e : ((n : Int) / 32).toNat = n / 32 := by omega
    rw [e]
    unfold shG
    rw [if_neg (by omega)]
    refine zcK _ _ _ _ (by simp) (fun i hi => ?_)
    have h2 := congrFun (znw .u32 (List.replicate (n / 32) 0) (mulG 4294967296 (2 ^ (n % 32)) 0 a) (wF .u32 (mulG 4294967296 (2 ^ (n % 32)) 0 a)) (fun _ _ => rfl)) i
    rw [List.length_replicate] at h2
    rw [← h2]
    unfold catF
    split
    · rename_i h3
      simp [wF, List.getD_eq_getElem?_getD, h3]
    · rfl
theorem zeR (l : List Nat) (m : Int) (m' : Nat) (e : m = m') (hl : wsm 4294967296 l) (hm : m' < 4294967296) (hlen : l.length ≤ 1048576) :
    Ctr Tryz.prog 184 [slW .u32 l, .i .u32 m, .i .u32 0] (slW .u32 (mulG 4294967296 m' 0 l)) := by
  subst e
  exact zcb l m' 0 hl hm (by omega) hlen
def mulW (a : List Nat) (m : Nat) : List Nat := trimG (addG 4294967296 0 (mulG 4294967296 (m % 4294967296) 0 a) (shG (mulG 4294967296 (m / 4294967296) 0 a) 32))
theorem zez : ∀ (a b : List Nat) (c : Nat), c < 2 → wsm 4294967296 a → wsm 4294967296 b → wsm 4294967296 (addG 4294967296 c a b)
  | [], [], c, hc, _, _ => by
    unfold addG
    split
    · exact zaP.2 ⟨by omega, zcl _⟩
    · exact zcl _
  | x :: a, [], c, hc, ha, hb => by
    obtain ⟨h1, h2⟩ := zaP.1 ha
    rw [addG]
    exact zaP.2 ⟨Nat.mod_lt _ (by omega), zez a [] _ (by omega) h2 hb⟩
  | [], y :: b, c, hc, ha, hb => by
    obtain ⟨h1, h2⟩ := zaP.1 hb
    rw [addG]
    exact zaP.2 ⟨Nat.mod_lt _ (by omega), zez [] b _ (by omega) ha h2⟩
  | x :: a, y :: b, c, hc, ha, hb => by
    obtain ⟨h1, h2⟩ := zaP.1 ha
    obtain ⟨h3, h4⟩ := zaP.1 hb
    rw [addG]
    exact zaP.2 ⟨Nat.mod_lt _ (by omega), zez a b _ (by omega) h2 h4⟩
theorem zdE : ∀ (a b : List Nat) (c : Nat), (addG 4294967296 c a b).length ≤ max a.length b.length + 1
  | [], [], c => by unfold addG; split <;> simp
  | x :: a, [], c => by
    have := zdE a [] ((c + x) / 4294967296)
    rw [addG, List.length_cons, List.length_cons]
    simp only [List.length_nil] at this ⊢
    omega
  | [], y :: b, c => by
    have := zdE [] b ((c + y) / 4294967296)
    rw [addG, List.length_cons, List.length_cons]
    simp only [List.length_nil] at this ⊢
    omega
  | x :: a, y :: b, c => by
    have := zdE a b ((c + x + y) / 4294967296)
    rw [addG, List.length_cons, List.length_cons, List.length_cons]
    omega
theorem zqg (a : List Nat) (m : Nat) (ha : wsm 4294967296 a) (hm : m < 18446744073709551616) : val 4294967296 (mulW a m) = val 4294967296 a * m ∧ nrm (mulW a m) ∧ wsm 4294967296 (mulW a m) ∧ (mulW a m).length ≤ a.length + 4 := by
  have s1 := zbr (m := m % 4294967296) (B := 4294967296) (by omega) a 0 (by omega) ha
  have s2 := zbr (m := m / 4294967296) (B := 4294967296) (by omega) a 0 (by omega) ha
  have s3 := zkg (mulG 4294967296 (m / 4294967296) 0 a) 32 s2
  have s4 := zez (mulG 4294967296 (m % 4294967296) 0 a) (shG (mulG 4294967296 (m / 4294967296) 0 a) 32) 0 (by omega) s1 s3.2.2.1
  have l1 := zbc 4294967296 (m % 4294967296) a 0
  have l2 := zbc 4294967296 (m / 4294967296) a 0
  have l3 := zdE (mulG 4294967296 (m % 4294967296) 0 a) (shG (mulG 4294967296 (m / 4294967296) 0 a) 32) 0
  have t := zdo 4294967296 _ (addG 4294967296 0 (mulG 4294967296 (m % 4294967296) 0 a) (shG (mulG 4294967296 (m / 4294967296) 0 a) 32)) rfl
  refine ⟨?_, t.2.1, t.2.2.1 s4, ?_⟩
  · unfold mulW
    rw [t.1, zeA, s3.1, zbQ, zbQ]
    have e : m = m % 4294967296 + 4294967296 * (m / 4294967296) := by omega
    have e2 : (2 : Nat) ^ 32 = 4294967296 := by decide
    rw [e2]
    generalize val 4294967296 a = v
    generalize m % 4294967296 = p at *
    generalize m / 4294967296 = q at *
    subst e
    grind
  · unfold mulW
    have h4 := s3.2.2.2
    omega
theorem zqi (a : List Nat) (m : Nat) (ha : wsm 4294967296 a) (hm : m < 18446744073709551616) (hlen : a.length ≤ 1000000) : Ctr Tryz.prog 185 [slW .u32 a, .i .u64 m] (slW .u32 (mulW a m)) := by
  have s1 := zbr (m := m % 4294967296) (B := 4294967296) (by omega) a 0 (by omega) ha
  have s2 := zbr (m := m / 4294967296) (B := 4294967296) (by omega) a 0 (by omega) ha
  have s3 := zkg (mulG 4294967296 (m / 4294967296) 0 a) 32 s2
  have l1 := zbc 4294967296 (m % 4294967296) a 0
  have l2 := zbc 4294967296 (m / 4294967296) a 0
  have l3 := zdE (mulG 4294967296 (m % 4294967296) 0 a) (shG (mulG 4294967296 (m / 4294967296) 0 a) 32) 0
  have l4 := s3.2.2.2
  have e32 : (2 : Int) ^ Int.toNat 32 = 4294967296 := by decide
  have c1 := zeR a (IntKind.u32.wrap (m : Int)) (m % 4294967296) (by rw [zbv]; omega) ha (by omega) (by omega)
  have c2 := zeR a (IntKind.u32.wrap ((m : Int) / 2 ^ Int.toNat 32)) (m / 4294967296) (by rw [zbv, e32]; omega) ha (by omega) (by omega)
  have c3 := zfu (mulG 4294967296 (m / 4294967296) 0 a) 32 s2 (by omega) (by omega)
  have c4 := zqq (mulG 4294967296 (m % 4294967296) 0 a) (shG (mulG 4294967296 (m / 4294967296) 0 a) 32) s1 s3.2.2.1 (by omega) (by omega)
  have c5 := zoV (addG 4294967296 0 (mulG 4294967296 (m % 4294967296) 0 a) (shG (mulG 4294967296 (m / 4294967296) 0 a) 32)) (by omega)
  refine zax Tryz.func185 rfl Tryz.ntmps185 Tryz.results185 rfl rfl fun X hL hX => ?_
  repeat' (first |with_reducible (first |refine zah ?_|refine zaa ?_|refine zag ?_|refine zad ?_|refine zan ?_)|refine zab rfl rfl True.intro ?_|((first |refine zab rfl rfl ?_ ?_);focus (first |omega|((repeat' refine And.intro ?_ ?_)<;>omega)))|refine zaq rfl ?_|refine zae (f := 184) rfl rfl Tryz.call184 rfl c1 ?_|refine zae (f := 184) rfl rfl Tryz.call184 rfl c2 ?_|refine zae (f := 187) rfl rfl Tryz.call187 rfl c3 ?_|refine zae (f := 229) rfl rfl Tryz.call229 rfl c4 ?_|refine zae (f := 230) rfl rfl Tryz.call230 rfl c5 ?_|fail)
  rfl

def mulN (B : Nat) : Nat → List Nat → List Nat
  | 0, a => a
  | k + 1, a => mulG B 10 0 (mulN B k a)
def dgW (B : Nat) (s : List UInt8) : List Nat := s.foldl (fun a c => mulG B 10 (c.toNat - 48) a) []
def ratN (B : Nat) (s : List UInt8) (e : Int) : List Nat := mulN B e.toNat (dgW B s)
def ratD (B : Nat) (e : Int) : List Nat := mulN B (-e).toNat [1]
def dgV (s : List UInt8) : Nat := s.foldl (fun a c => 10 * a + (c.toNat - 48)) 0
def numV (s : List UInt8) (e : Int) : Nat := dgV s * 10 ^ e.toNat
def denV (e : Int) : Nat := 10 ^ (-e).toNat
theorem zdh {B : Nat} (hB : 10 ≤ B) : ∀ (k : Nat) (a : List Nat), wsm B a → val B (mulN B k a) = val B a * 10 ^ k ∧ wsm B (mulN B k a) ∧ (nrm a → nrm (mulN B k a)) ∧ (mulN B k a).length ≤ a.length + k
  | 0, a, h => ⟨by simp [mulN], h, fun h => h, by simp [mulN]⟩
  | k + 1, a, h => by
    obtain ⟨h1, h2, h3, h4⟩ := zdh hB k a h
    have h5 := zbc B 10 (mulN B k a) 0
    refine ⟨?_, zbr hB _ _ (by omega) h2, fun hn => zet (by omega) (by omega) _ _ (h3 hn), by rw [mulN]; omega⟩
    rw [mulN, zbQ, h1, Nat.pow_succ]
    grind
theorem zgV (B : Nat) (s : List UInt8) (c : UInt8) : dgW B (s ++ [c]) = mulG B 10 (c.toNat - 48) (dgW B s) := by simp [dgW]
theorem zpb (s : List UInt8) (c : UInt8) : dgV (s ++ [c]) = 10 * dgV s + (c.toNat - 48) := by simp [dgV]
theorem zjY {B : Nat} (hB : 256 ≤ B) : ∀ (n : Nat) (s : List UInt8), s.length = n → val B (dgW B s) = dgV s ∧ wsm B (dgW B s) ∧ nrm (dgW B s) ∧ (dgW B s).length ≤ n
  | 0, s, h => by
    have := zdV h
    subst this
    exact ⟨rfl, zcl B, trivial, Nat.le_refl _⟩
  | n + 1, s, h => by
    rcases zbk s with rfl | ⟨r, c, rfl⟩
    · simp at h
    · obtain ⟨h1, h2, h3, h4⟩ := zjY hB n r (by simpa using h)
      have h5 := zbc B 10 (dgW B r) (c.toNat - 48)
      have hc := c.toNat_lt
      rw [zgV, zpb]
      refine ⟨by rw [zbQ, h1]; grind, zbr (by omega) _ _ (by omega) h2, zet (by omega) (by omega) _ _ h3, by omega⟩
theorem zfE {B : Nat} (hB : 256 ≤ B) (s : List UInt8) (e : Int) : val B (ratN B s e) = numV s e ∧ wsm B (ratN B s e) ∧ nrm (ratN B s e) ∧ (ratN B s e).length ≤ s.length + e.toNat := by
  obtain ⟨h1, h2, h3, h4⟩ := zjY hB s.length s rfl
  obtain ⟨g1, g2, g3, g4⟩ := zdh (B := B) (by omega) e.toNat (dgW B s) h2
  exact ⟨by unfold ratN numV; rw [g1, h1], g2, g3 h3, by unfold ratN; omega⟩
theorem zeH {B : Nat} (hB : 256 ≤ B) (e : Int) : val B (ratD B e) = denV e ∧ wsm B (ratD B e) ∧ nrm (ratD B e) ∧ (ratD B e).length ≤ 1 + (-e).toNat := by
  obtain ⟨g1, g2, g3, g4⟩ := zdh (B := B) (by omega) (-e).toNat [1] (zaP.2 ⟨by omega, zcl B⟩)
  exact ⟨by unfold ratD denV; rw [g1]; simp [val], g2, g3 Nat.zero_lt_one, g4⟩
end Go.Proofs.YtkkaamhocpmhkaaGreatDoor.Flow
