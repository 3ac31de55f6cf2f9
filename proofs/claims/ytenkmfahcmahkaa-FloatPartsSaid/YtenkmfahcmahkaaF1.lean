/- FLOAT: numbers as lists of words, the lowest first. -/
namespace Go.Proofs.Ytenkmfahcmahkaa.Flow

/-- A list of words as a number. -/
def val (B : Nat) : List Nat → Nat
  | [] => 0
  | w :: r => w + B * val B r

def wsm (B : Nat) (l : List Nat) : Prop := ∀ w ∈ l, w < B

/-- The last word is not 0. -/
def nrm : List Nat → Prop
  | [] => True
  | [w] => 0 < w
  | _ :: b :: r => nrm (b :: r)

/-- Times m, and c more. -/
def mulG (B m : Nat) : Nat → List Nat → List Nat
  | c, [] => if 0 < c then [c] else []
  | c, w :: r => (c + w * m) % B :: mulG B m ((c + w * m) / B) r

theorem val_mulG (B m : Nat) : ∀ (l : List Nat) (c : Nat), val B (mulG B m c l) = val B l * m + c
  | [], c => by
    unfold mulG
    split <;> simp [val] <;> omega
  | w :: r, c => by
    have ih := val_mulG B m r ((c + w * m) / B)
    have hd := Nat.mod_add_div (c + w * m) B
    unfold mulG val
    rw [ih]
    grind

theorem carry_lt {B m c w : Nat} (hm : m ≤ B) (hc : c < B) (hw : w < B) : (c + w * m) / B < B := by
  rw [Nat.div_lt_iff_lt_mul (by omega)]
  have h1 : w * m ≤ (B - 1) * B := Nat.mul_le_mul (by omega) hm
  have h2 : (B - 1) * B + B = B * B := by
    obtain ⟨k, rfl⟩ : ∃ k, B = k + 1 := ⟨B - 1, by omega⟩
    simp
    grind
  omega

theorem wsm_nil (B : Nat) : wsm B [] := fun w h => by simp at h
theorem wsm_cons {B w : Nat} {l : List Nat} : wsm B (w :: l) ↔ w < B ∧ wsm B l := by simp [wsm]
theorem wsm_append {B : Nat} {a b : List Nat} : wsm B (a ++ b) ↔ wsm B a ∧ wsm B b := by
  simp only [wsm, List.mem_append]
  exact ⟨fun h => ⟨fun w hw => h w (.inl hw), fun w hw => h w (.inr hw)⟩, fun h w hw => hw.elim (h.1 w) (h.2 w)⟩

theorem wsm_mulG {B m : Nat} (hm : m ≤ B) : ∀ (l : List Nat) (c : Nat), c < B → wsm B l → wsm B (mulG B m c l)
  | [], c, hc, _ => by
    unfold mulG
    split
    · exact wsm_cons.2 ⟨hc, wsm_nil B⟩
    · exact wsm_nil B
  | w :: r, c, hc, hl => by
    obtain ⟨h1, h2⟩ := wsm_cons.1 hl
    exact wsm_cons.2 ⟨Nat.mod_lt _ (by omega), wsm_mulG hm r _ (carry_lt hm hc h1) h2⟩

theorem mulG_ne {B m c w : Nat} {r : List Nat} : ∃ x l, mulG B m c (w :: r) = x :: l := ⟨_, _, rfl⟩

theorem nrm_mulG {B m : Nat} (hB : 0 < B) (hm : 0 < m) : ∀ (l : List Nat) (c : Nat), nrm l → nrm (mulG B m c l)
  | [], c, _ => by
    unfold mulG
    split
    · assumption
    · trivial
  | [w], c, h => by
    have h : 0 < w := h
    have h1 : 0 < w * m := Nat.mul_pos h hm
    show nrm ((c + w * m) % B :: (if 0 < (c + w * m) / B then [(c + w * m) / B] else []))
    have hd := Nat.mod_add_div (c + w * m) B
    split
    · assumption
    · rename_i hz
      have h0 : (c + w * m) / B = 0 := Nat.eq_zero_of_not_pos hz
      rw [h0, Nat.mul_zero] at hd
      show 0 < (c + w * m) % B
      omega
  | w :: b :: r, c, h => by
    have ih := nrm_mulG hB hm (b :: r) ((c + w * m) / B) h
    rw [mulG]
    obtain ⟨x, l, e⟩ := @mulG_ne B m ((c + w * m) / B) b r
    rw [e] at ih ⊢
    exact ih

theorem len_mulG (B m : Nat) : ∀ (l : List Nat) (c : Nat), (mulG B m c l).length ≤ l.length + 1
  | [], c => by unfold mulG; split <;> simp
  | w :: r, c => by
    have := len_mulG B m r ((c + w * m) / B)
    simp only [mulG, List.length_cons]
    omega

theorem val_append (B : Nat) : ∀ (a b : List Nat), val B (a ++ b) = val B a + B ^ a.length * val B b
  | [], b => by simp [val]
  | x :: a, b => by
    have ih := val_append B a b
    simp only [List.cons_append, val, ih, List.length_cons, Nat.pow_succ]
    grind

theorem val_lt {B : Nat} : ∀ {l : List Nat}, wsm B l → val B l < B ^ l.length
  | [], _ => by simp [val]
  | w :: r, h => by
    obtain ⟨h1, h2⟩ := wsm_cons.1 h
    have ih := val_lt h2
    simp only [val, List.length_cons, Nat.pow_succ]
    have h3 : B * (val B r + 1) ≤ B * B ^ r.length := Nat.mul_le_mul_left B ih
    have h4 : B * (val B r + 1) = B * val B r + B := by grind
    have h5 : B ^ r.length * B = B * B ^ r.length := Nat.mul_comm _ _
    omega

theorem val_ge {B : Nat} (hB : 0 < B) : ∀ {l : List Nat}, nrm l → l ≠ [] → B ^ (l.length - 1) ≤ val B l
  | [], _, h => absurd rfl h
  | [w], h, _ => by
    have h : 0 < w := h
    simp [val]
    omega
  | w :: b :: r, h, _ => by
    have ih := val_ge hB (show nrm (b :: r) from h) (by simp)
    have e : (w :: b :: r).length - 1 = (b :: r).length - 1 + 1 := by simp
    rw [e, Nat.pow_succ]
    have := Nat.mul_le_mul_left B ih
    rw [val]
    have h5 : B ^ ((b :: r).length - 1) * B = B * B ^ ((b :: r).length - 1) := Nat.mul_comm _ _
    omega

/-- Which of two numbers is greater. -/
def cmpV (x y : Nat) : Int := if x < y then -1 else if y < x then 1 else 0

theorem cmpV_lt {x y : Nat} (h : x < y) : cmpV x y = -1 := if_pos h
theorem cmpV_gt {x y : Nat} (h : y < x) : cmpV x y = 1 := by unfold cmpV; rw [if_neg (by omega), if_pos h]
theorem cmpV_eq {x y : Nat} (h : x = y) : cmpV x y = 0 := by unfold cmpV; rw [if_neg (by omega), if_neg (by omega)]

theorem val_len_lt {B : Nat} (hB : 0 < B) {a b : List Nat} (ha : wsm B a) (hb : nrm b) (h : a.length < b.length) : val B a < val B b := by
  have h1 := val_lt ha
  have h2 := val_ge hB hb (fun e => by rw [e] at h; simp at h)
  exact Nat.lt_of_lt_of_le (Nat.lt_of_lt_of_le h1 (Nat.pow_le_pow_right hB (by omega))) h2

theorem val_top {B : Nat} {p q t : List Nat} {x y : Nat} (hl : p.length = q.length) (hp : wsm B p) (h : x < y) : val B (p ++ x :: t) < val B (q ++ y :: t) := by
  rw [val_append, val_append, hl]
  have h1 := val_lt hp
  rw [hl] at h1
  simp only [val]
  have h2 : B ^ q.length * (x + B * val B t + 1) ≤ B ^ q.length * (y + B * val B t) := Nat.mul_le_mul_left _ (by omega)
  have h3 : B ^ q.length * (x + B * val B t + 1) = B ^ q.length * (x + B * val B t) + B ^ q.length := by grind
  omega

theorem val_zeros (B : Nat) : ∀ (k : Nat) (l : List Nat), val B (List.replicate k 0 ++ l) = B ^ k * val B l
  | 0, l => by simp
  | k + 1, l => by
    simp only [List.replicate_succ, List.cons_append, val, val_zeros B k l, Nat.pow_succ]
    grind

theorem wsm_zeros {B : Nat} (hB : 0 < B) (k : Nat) : wsm B (List.replicate k 0) := fun w h => by
  have := List.eq_of_mem_replicate h
  omega

theorem nrm_zeros : ∀ (k : Nat) (l : List Nat), nrm l → l ≠ [] → nrm (List.replicate k 0 ++ l)
  | 0, l, h, _ => by simpa using h
  | k + 1, l, h, hn => by
    have ih := nrm_zeros k l h hn
    simp only [List.replicate_succ, List.cons_append]
    cases e : List.replicate k 0 ++ l with
    | nil =>
      rw [List.append_eq_nil_iff] at e
      exact absurd e.2 hn
    | cons x r =>
      rw [e] at ih
      exact ih

/-- The sum of two, and c more. -/
def addG (B : Nat) : Nat → List Nat → List Nat → List Nat
  | c, [], [] => if 0 < c then [c] else []
  | c, x :: a, [] => (c + x) % B :: addG B ((c + x) / B) a []
  | c, [], y :: b => (c + y) % B :: addG B ((c + y) / B) [] b
  | c, x :: a, y :: b => (c + x + y) % B :: addG B ((c + x + y) / B) a b

theorem val_addG (B : Nat) : ∀ (a b : List Nat) (c : Nat), val B (addG B c a b) = val B a + val B b + c
  | [], [], c => by
    unfold addG
    split <;> simp [val] <;> omega
  | x :: a, [], c => by
    have ih := val_addG B a [] ((c + x) / B)
    have hd := Nat.mod_add_div (c + x) B
    simp only [addG, val, ih]
    grind
  | [], y :: b, c => by
    have ih := val_addG B [] b ((c + y) / B)
    have hd := Nat.mod_add_div (c + y) B
    simp only [addG, val, ih]
    grind
  | x :: a, y :: b, c => by
    have ih := val_addG B a b ((c + x + y) / B)
    have hd := Nat.mod_add_div (c + x + y) B
    simp only [addG, val, ih]
    grind

/-- Without words 0 above. -/
def trimG (l : List Nat) : List Nat := (l.reverse.dropWhile (· == 0)).reverse

theorem trimG_snoc0 (l : List Nat) : trimG (l ++ [0]) = trimG l := by simp [trimG]
theorem trimG_snoc (l : List Nat) (w : Nat) (h : w ≠ 0) : trimG (l ++ [w]) = l ++ [w] := by simp [trimG, h]
theorem trimG_nil : trimG [] = [] := rfl

theorem snoc_cases (l : List Nat) : l = [] ∨ ∃ r w, l = r ++ [w] := by
  rcases List.eq_nil_or_concat l with h | ⟨r, w, h⟩
  · exact .inl h
  · exact .inr ⟨r, w, by simpa using h⟩

theorem nrm_snoc : ∀ (l : List Nat) (w : Nat), 0 < w → nrm (l ++ [w])
  | [], w, h => h
  | [x], w, h => h
  | x :: y :: r, w, h => nrm_snoc (y :: r) w h

theorem val_trimG (B : Nat) : ∀ (n : Nat) (l : List Nat), l.length = n → val B (trimG l) = val B l ∧ nrm (trimG l) ∧ (wsm B l → wsm B (trimG l)) ∧ (trimG l).length ≤ n
  | 0, l, h => by
    have : l = [] := List.length_eq_zero_iff.1 h
    subst this
    exact ⟨rfl, trivial, fun h => h, Nat.le_refl _⟩
  | n + 1, l, h => by
    rcases snoc_cases l with rfl | ⟨r, w, rfl⟩
    · simp at h
    · by_cases hw : w = 0
      · subst hw
        have ih := val_trimG B n r (by simpa using h)
        rw [trimG_snoc0, val_append]
        refine ⟨by rw [ih.1]; simp [val], ih.2.1, fun h => ih.2.2.1 (wsm_append.1 h).1, by omega⟩
      · rw [trimG_snoc r w hw]
        exact ⟨rfl, nrm_snoc r w (by omega), fun h => h, by omega⟩

/-- A fraction, and m times 2 to so much. -/
def cmpQ (N D m : Nat) (e : Int) : Int := if 0 ≤ e then cmpV N (D * m * 2 ^ e.toNat) else cmpV (N * 2 ^ (-e).toNat) (D * m)

theorem cmpV_mul (x y k : Nat) (h : 0 < k) : cmpV (x * k) (y * k) = cmpV x y := by
  unfold cmpV
  simp only [Nat.mul_lt_mul_right h]

theorem cmpQ_scale (N D m : Nat) (e : Int) (s : Nat) (h : 0 ≤ e + s) : cmpQ N D m e = cmpV (N * 2 ^ s) (D * (m * 2 ^ (e + s).toNat)) := by
  unfold cmpQ
  split
  · rename_i h0
    have e1 : (e + s).toNat = e.toNat + s := by omega
    rw [e1, Nat.pow_add, ← cmpV_mul N _ (2 ^ s) (Nat.two_pow_pos s)]
    congr 1
    grind
  · have e1 : s = (-e).toNat + (e + s).toNat := by omega
    rw [← cmpV_mul (N * 2 ^ (-e).toNat) _ (2 ^ (e + s).toNat) (Nat.two_pow_pos _)]
    have e2 : N * 2 ^ s = N * 2 ^ (-e).toNat * 2 ^ (e + s).toNat := by
      rw [Nat.mul_assoc, ← Nat.pow_add, ← e1]
    rw [e2]
    congr 1
    grind

end Go.Proofs.Ytenkmfahcmahkaa.Flow
