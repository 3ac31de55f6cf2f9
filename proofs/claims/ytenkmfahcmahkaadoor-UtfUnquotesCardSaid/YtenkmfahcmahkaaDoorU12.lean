import Derived.Test.YtenkmfahcmahkaaDoorU11
/- UTF: a text in quotes, and read again. -/
namespace Go.Proofs.YtenkmfahcmahkaaDoor.Flow
open Go

/-- A digit as a letter. -/
def hexD (n : Int) : UInt8 := by8 (if n < 10 then 48 + n else 87 + n)

/-- A byte as JSON writes it. -/
def qI (n : Int) : List UInt8 :=
  if n = 8 then [92, 98] else if n = 9 then [92, 116] else if n = 10 then [92, 110] else if n = 12 then [92, 102] else if n = 13 then [92, 114]
  else if n = 34 then [92, 34] else if n = 92 then [92, 92] else if n < 32 then [92, 117, 48, 48, hexD (n / 16), hexD (n % 16)] else [by8 n]

def qL : List UInt8 → List UInt8
  | [] => []
  | c :: r => qI (c.toNat : Int) ++ qL r

def quoteL (s : List UInt8) : List UInt8 := if validL s = true then [34] ++ qL s ++ [34] else []

theorem qL_append (a b : List UInt8) : qL (a ++ b) = qL a ++ qL b := by
  induction a with
  | nil => rfl
  | cons c r ih => simp [qL, ih]

theorem qL_take (s : List UInt8) (i : Nat) (h : i < s.length) : qL (s.take (i + 1)) = qL (s.take i) ++ qI (at' s i) := by
  rw [List.take_add_one, qL_append]
  congr 1
  simp [at', h, qL, List.getD_eq_getElem?_getD]

theorem qI_len (n : Int) : (qI n).length ≤ 6 := by
  unfold qI
  (repeat' split) <;> simp

theorem qL_len : ∀ s : List UInt8, (qL s).length ≤ 6 * s.length
  | [] => by simp [qL]
  | c :: r => by
    have := qL_len r
    have := qI_len (c.toNat : Int)
    simp only [qL, List.length_append, List.length_cons]
    omega

theorem by8_self (c : UInt8) : by8 (c.toNat : Int) = c := by simp [by8]

theorem dropAt {t rest : List UInt8} {c : UInt8} {p : Nat} (h : t.drop p = c :: rest) : at' t (p : Int) = (c.toNat : Int) ∧ p < t.length ∧ t.drop (p + 1) = rest := by
  have hp : p < t.length := by
    have : (t.drop p).length = rest.length + 1 := by rw [h]; rfl
    simp at this
    omega
  have hg : t[p] = c := by
    have : (t.drop p)[0]? = some c := by rw [h]; rfl
    simpa [hp] using this
  refine ⟨?_, hp, ?_⟩
  · simp [at', hp, hg, List.getD_eq_getElem?_getD]
  · rw [← List.drop_drop, h]
    rfl

theorem hexF_D (n : Int) (h0 : 0 ≤ n) (h1 : n < 16) : hexF ((hexD n).toNat : Int) = n := by
  unfold hexD
  rw [by8_nat _ (by split <;> omega) (by split <;> omega)]
  exact hexF_lo _ n h0 h1 (.inl rfl)

theorem four_hex (t rest : List UInt8) (p : Nat) (a b c d : UInt8) (h : t.drop p = a :: b :: c :: d :: rest) (ha : 0 ≤ hexF (a.toNat : Int)) (hb : 0 ≤ hexF (b.toNat : Int)) (hc : 0 ≤ hexF (c.toNat : Int)) (hd : 0 ≤ hexF (d.toNat : Int)) :
    fourG t 4 0 (p : Int) = (16 * (16 * (16 * (16 * 0 + hexF (a.toNat : Int)) + hexF (b.toNat : Int)) + hexF (c.toNat : Int)) + hexF (d.toNat : Int), (p : Int) + 4, 0) := by
  obtain ⟨a1, a2, a3⟩ := dropAt h
  obtain ⟨b1, b2, b3⟩ := dropAt a3
  obtain ⟨c1, c2, c3⟩ := dropAt b3
  obtain ⟨d1, d2, d3⟩ := dropAt c3
  rw [show (((p + 1 : Nat)) : Int) = (p : Int) + 1 by omega] at b1
  rw [show (((p + 1 + 1 : Nat)) : Int) = (p : Int) + 1 + 1 by omega] at c1
  rw [show (((p + 1 + 1 + 1 : Nat)) : Int) = (p : Int) + 1 + 1 + 1 by omega] at d1
  rw [fourG_more (by omega) (by rw [a1]; omega), a1, fourG_more (by omega) (by rw [b1]; omega), b1, fourG_more (by omega) (by rw [c1]; omega), c1, fourG_more (by omega) (by rw [d1]; omega), d1]
  show (_, _, _) = (_, _, _)
  rw [show (p : Int) + 1 + 1 + 1 + 1 = p + 4 by omega]

/-- One step of the reader over a byte as JSON writes it. -/
theorem unq_step (t rest o : List UInt8) (c : UInt8) (p n : Nat) (h : t.drop p = qI (c.toNat : Int) ++ rest) :
    unqG t (n + 1) (p : Int) o = unqG t n ((p + (qI (c.toNat : Int)).length : Nat) : Int) (o ++ [c]) := by
  have hc : (c.toNat : Int) < 256 := by have := c.toNat_lt; omega
  have key : ∀ (k v : UInt8), qI (c.toNat : Int) = [92, k] → ¬ (k.toNat : Int) = 117 → escE (k.toNat : Int) = 0 → by8 (escV (k.toNat : Int)) = c → unqG t (n + 1) (p : Int) o = unqG t n ((p + (qI (c.toNat : Int)).length : Nat) : Int) (o ++ [c]) := by
    intro k v hq hk he hv
    rw [hq] at h ⊢
    obtain ⟨a1, a2, a3⟩ := dropAt (show t.drop p = 92 :: (k :: rest) from h)
    obtain ⟨b1, b2, b3⟩ := dropAt a3
    rw [show (((p + 1 : Nat)) : Int) = (p : Int) + 1 by omega] at b1
    have e : escP t ((p : Int) + 1) o = ((p : Int) + 2, o ++ [c], 0) := by
      unfold escP
      rw [if_pos (by omega), b1, if_neg hk, he, hv, show (p : Int) + 1 + 1 = p + 2 by omega]
    rw [unqG_esc (by omega) a1, e]
    rfl
  by_cases c8 : (c.toNat : Int) = 8
  · exact key 98 0 (by unfold qI; rw [if_pos c8]) (by decide) (by decide) (by rw [← by8_self c, c8]; decide)
  by_cases c9 : (c.toNat : Int) = 9
  · exact key 116 0 (by unfold qI; rw [if_neg c8, if_pos c9]) (by decide) (by decide) (by rw [← by8_self c, c9]; decide)
  by_cases c10 : (c.toNat : Int) = 10
  · exact key 110 0 (by unfold qI; rw [if_neg c8, if_neg c9, if_pos c10]) (by decide) (by decide) (by rw [← by8_self c, c10]; decide)
  by_cases c12 : (c.toNat : Int) = 12
  · exact key 102 0 (by unfold qI; rw [if_neg c8, if_neg c9, if_neg c10, if_pos c12]) (by decide) (by decide) (by rw [← by8_self c, c12]; decide)
  by_cases c13 : (c.toNat : Int) = 13
  · exact key 114 0 (by unfold qI; rw [if_neg c8, if_neg c9, if_neg c10, if_neg c12, if_pos c13]) (by decide) (by decide) (by rw [← by8_self c, c13]; decide)
  by_cases c34 : (c.toNat : Int) = 34
  · exact key 34 0 (by unfold qI; rw [if_neg c8, if_neg c9, if_neg c10, if_neg c12, if_neg c13, if_pos c34]) (by decide) (by decide) (by rw [← by8_self c, c34]; decide)
  by_cases c92 : (c.toNat : Int) = 92
  · exact key 92 0 (by unfold qI; rw [if_neg c8, if_neg c9, if_neg c10, if_neg c12, if_neg c13, if_neg c34, if_pos c92]) (by decide) (by decide) (by rw [← by8_self c, c92]; decide)
  clear key
  by_cases c32 : (c.toNat : Int) < 32
  · have hq : qI (c.toNat : Int) = [92, 117, 48, 48, hexD ((c.toNat : Int) / 16), hexD ((c.toNat : Int) % 16)] := by
      unfold qI
      rw [if_neg c8, if_neg c9, if_neg c10, if_neg c12, if_neg c13, if_neg c34, if_neg c92, if_pos c32]
    rw [hq] at h ⊢
    obtain ⟨a1, a2, a3⟩ := dropAt (show t.drop p = 92 :: (117 :: 48 :: 48 :: hexD ((c.toNat : Int) / 16) :: hexD ((c.toNat : Int) % 16) :: rest) from h)
    obtain ⟨b1, b2, b3⟩ := dropAt a3
    have d1 := hexF_D ((c.toNat : Int) / 16) (by omega) (by omega)
    have d2 := hexF_D ((c.toNat : Int) % 16) (by omega) (by omega)
    have h48 : hexF (((48 : UInt8).toNat : Nat) : Int) = 0 := by decide
    have hf := four_hex t rest (p + 1 + 1) 48 48 _ _ b3 (by omega) (by omega) (by omega) (by omega)
    rw [d1, d2, h48, show 16 * (16 * (16 * (16 * 0 + 0) + 0) + (c.toNat : Int) / 16) + (c.toNat : Int) % 16 = c.toNat by omega, show ((p + 1 + 1 : Nat) : Int) = (p : Int) + 1 + 1 by omega] at hf
    rw [show (((p + 1 : Nat)) : Int) = (p : Int) + 1 by omega] at b1
    have e : escP t ((p : Int) + 1) o = ((p : Int) + 6, o ++ [c], 0) := by
      unfold escP
      rw [if_pos (by omega), b1, if_pos (by decide), codeP_one hf (by omega), utfB_1 (by omega), by8_self, show (p : Int) + 1 + 1 + 4 = p + 6 by omega]
    rw [unqG_esc (by omega) a1, e]
    rfl
  · have hq : qI (c.toNat : Int) = [c] := by
      unfold qI
      rw [if_neg c8, if_neg c9, if_neg c10, if_neg c12, if_neg c13, if_neg c34, if_neg c92, if_neg c32, by8_self]
    rw [hq] at h ⊢
    obtain ⟨a1, a2, a3⟩ := dropAt (show t.drop p = c :: rest from h)
    rw [unqG_more (by omega) (by rw [a1]; exact c34) (by rw [a1]; exact c92) (by rw [a1]; exact c32), a1, by8_self]
    rfl

theorem unq_quoted (t behind : List UInt8) : ∀ (r o : List UInt8) (p n : Nat), t.drop p = qL r ++ 34 :: behind → t.length + 1 ≤ p + n → validL (o ++ r) = true → unqG t n (p : Int) o = (o ++ r, ((p + (qL r).length : Nat) : Int) + 1, 0)
  | [], o, p, n, h, hn, hv => by
    obtain ⟨a1, a2, a3⟩ := dropAt (show t.drop p = 34 :: behind from h)
    obtain ⟨n, rfl⟩ : ∃ k, n = k + 1 := ⟨n - 1, by omega⟩
    rw [List.append_nil] at hv ⊢
    rw [unqG_quote (by omega) a1 hv]
    rfl
  | c :: r, o, p, n, h, hn, hv => by
    have h2 : t.drop p = qI (c.toNat : Int) ++ (qL r ++ 34 :: behind) := by rw [h]; simp [qL]
    have hp : p < t.length := by
      by_cases hp : p < t.length
      · exact hp
      · rw [List.drop_eq_nil_of_le (by omega)] at h
        have := congrArg List.length h
        simp at this
    obtain ⟨n, rfl⟩ : ∃ k, n = k + 1 := ⟨n - 1, by omega⟩
    rw [unq_step t _ o c p n h2]
    have hl : 1 ≤ (qI (c.toNat : Int)).length := by
      unfold qI
      (repeat' split) <;> simp
    rw [unq_quoted t behind r (o ++ [c]) (p + (qI (c.toNat : Int)).length) n (by rw [← List.drop_drop, h2, List.drop_left]) (by omega) (by simpa using hv)]
    simp only [qL, List.length_append, List.append_assoc, List.cons_append, List.nil_append]
    congr 2
    omega

theorem unq_quote (s ahead behind : List UInt8) (hv : validL s = true) : unqF (ahead ++ quoteL s ++ behind) ahead.length = (s, (ahead.length : Int) + (quoteL s).length, 0) := by
  have hq : quoteL s = [34] ++ qL s ++ [34] := if_pos hv
  rw [hq]
  generalize ht : ahead ++ ([34] ++ qL s ++ [34]) ++ behind = t
  have hd : t.drop ahead.length = 34 :: (qL s ++ 34 :: behind) := by
    rw [← ht, List.append_assoc, List.drop_left]
    simp
  obtain ⟨a1, a2, a3⟩ := dropAt hd
  have hm : mustF t (ahead.length : Int) 0 34 = ((ahead.length : Int) + 1, 0) := by
    unfold mustF
    rw [nextF_ok rfl (by omega)]
    dsimp only
    rw [if_pos (by rw [a1]; rfl)]
  unfold unqF
  rw [if_neg (by omega), hm]
  dsimp only
  rw [if_pos rfl]
  have := unq_quoted t behind s [] (ahead.length + 1) (t.length + 1 - ((ahead.length : Int) + 1).toNat) a3 (by omega) hv
  rw [show (((ahead.length + 1 : Nat)) : Int) = (ahead.length : Int) + 1 by omega] at this
  rw [this]
  simp
  omega

end Go.Proofs.YtenkmfahcmahkaaDoor.Flow
