import Derived.Test.YtenkmfahcmahkaaDoorU10
/- UTF: what the reference reads behind a backslash and u, beside what the program reads. -/
namespace Go.Proofs.YtenkmfahcmahkaaDoor.Flow
open Go

/-- The reference: a code point, the place behind, what is wrong. -/
def codeR (s : List UInt8) (i : Int) : Int × Int × Int :=
  if (fourG s 4 0 i).2.2 = 0 then
    (if 56320 ≤ (fourG s 4 0 i).1 ∧ (fourG s 4 0 i).1 < 57344 then (0, 0, 3)
    else if (fourG s 4 0 i).1 < 55296 ∨ 57344 ≤ (fourG s 4 0 i).1 then ((fourG s 4 0 i).1, i + 4, 0)
    else if i + 4 < s.length then
      (if at' s (i + 4) = 92 then
        (if i + 5 < s.length then
          (if at' s (i + 5) = 117 then
            (if (fourG s 4 0 (i + 6)).2.2 = 0 then
              (if (fourG s 4 0 (i + 6)).1 < 56320 ∨ 57344 ≤ (fourG s 4 0 (i + 6)).1 then (0, 0, 3) else (pairF (fourG s 4 0 i).1 (fourG s 4 0 (i + 6)).1, i + 10, 0))
            else (0, 0, (fourG s 4 0 (i + 6)).2.2))
          else (0, 0, 3))
        else (0, 0, 2))
      else (0, 0, 3))
    else (0, 0, 2))
  else (0, 0, (fourG s 4 0 i).2.2)

theorem fourF_bad {s : List UInt8} {i e : Int} (h : ¬ e = 0) : fourF s i e = (0, i, e) := if_neg h
theorem fourF_ok {s : List UInt8} {i : Int} : fourF s i 0 = fourG s 4 0 i := if_pos rfl
theorem failF_0 (c : Int) : failF 0 c = c := if_pos rfl
theorem failF_n {e : Int} (h : ¬ e = 0) (c : Int) : failF e c = e := if_neg h

theorem codeP_R (s : List UInt8) (i : Int) (o : List UInt8) (h0 : 0 ≤ i) (h1 : i ≤ s.length) :
    (codeP s i o).2.2 = (codeR s i).2.2 ∧ ((codeR s i).2.2 = 0 → (codeP s i o).1 = (codeR s i).2.1 ∧ (codeP s i o).2.1 = o ++ utfB (codeR s i).1) := by
  have hr := fourG_range s 4 0 i h0 h1 (by omega)
  unfold codeR
  generalize hx : fourG s 4 0 i = x at hr
  obtain ⟨n, j, e⟩ := x
  dsimp only at hr ⊢
  by_cases he : e = 0
  · subst he
    obtain rfl : j = i + 4 := by have := hr.2.2.2.2.2.2 rfl; omega
    rw [if_pos rfl]
    by_cases c1 : 56320 ≤ n ∧ n < 57344
    · rw [if_pos c1, codeP_low hx c1.1 (by omega)]
      exact ⟨rfl, fun h => absurd h (by dsimp only; omega)⟩
    rw [if_neg c1]
    by_cases c2 : n < 55296 ∨ 57344 ≤ n
    · rw [if_pos c2, codeP_one hx (by omega)]
      exact ⟨rfl, fun _ => ⟨rfl, rfl⟩⟩
    rw [if_neg c2]
    have g1 : 55296 ≤ n := by omega
    have g2 : n ≤ 56319 := by omega
    have half : ∀ m j3 e, lowP s (i + 4) = (m, j3, e) → ¬ e = 0 → (codeP s i o).2.2 = e ∧ (e = 0 → (codeP s i o).1 = 0 ∧ (codeP s i o).2.1 = o ++ utfB 0) := by
      intro m j3 e hl he
      rw [codeP_half hx g1 g2 hl he]
      exact ⟨rfl, fun h => absurd h he⟩
    by_cases c3 : i + 4 < s.length
    · rw [if_pos c3]
      by_cases c4 : at' s (i + 4) = 92
      · rw [if_pos c4]
        have ha : mustF s (i + 4) 0 92 = (i + 5, 0) := by
          unfold mustF
          rw [nextF_ok rfl c3]
          dsimp only
          rw [if_pos c4, show i + 4 + 1 = i + 5 by omega]
        by_cases c5 : i + 5 < s.length
        · rw [if_pos c5]
          by_cases c6 : at' s (i + 5) = 117
          · rw [if_pos c6]
            have hb : mustF s (i + 5) 0 117 = (i + 6, 0) := by
              unfold mustF
              rw [nextF_ok rfl c5]
              dsimp only
              rw [if_pos c6, show i + 5 + 1 = i + 6 by omega]
            have hr2 := fourG_range s 4 0 (i + 6) (by omega) (by omega) (by omega)
            generalize hy : fourG s 4 0 (i + 6) = y at hr2
            obtain ⟨m, j3, e3⟩ := y
            have hl := lowP_eq ha hb (fourF_ok.trans hy)
            dsimp only at hr2 ⊢
            by_cases c7 : e3 = 0
            · subst c7
              obtain rfl : j3 = i + 10 := by have := hr2.2.2.2.2.2.2 rfl; omega
              rw [if_pos rfl]
              by_cases c8 : m < 56320 ∨ 57344 ≤ m
              · rw [if_pos c8]
                rw [if_pos (by omega), failF_0] at hl
                exact half _ _ _ hl (by decide)
              · rw [if_neg c8]
                rw [if_neg (by omega)] at hl
                rw [codeP_pair hx g1 g2 hl]
                exact ⟨rfl, fun _ => ⟨rfl, rfl⟩⟩
            · rw [if_neg c7]
              obtain rfl : m = 0 := hr2.2.2.2.2.2.1 c7
              rw [if_pos (by omega), failF_n c7] at hl
              exact half _ _ _ hl c7
          · rw [if_neg c6]
            have hb : mustF s (i + 5) 0 117 = (i + 6, 3) := by
              unfold mustF
              rw [nextF_ok rfl c5]
              dsimp only
              rw [if_neg c6, show i + 5 + 1 = i + 6 by omega, failF_0]
            have hl := lowP_eq ha hb (fourF_bad (by omega))
            rw [if_pos (by omega), failF_n (by omega)] at hl
            exact half _ _ _ hl (by decide)
        · rw [if_neg c5]
          have hb : mustF s (i + 5) 0 117 = (i + 5, 2) := by
            unfold mustF
            rw [nextF_short rfl c5]
            dsimp only
            rw [if_neg (by omega), failF_n (by omega)]
          have hl := lowP_eq ha hb (fourF_bad (by omega))
          rw [if_pos (by omega), failF_n (by omega)] at hl
          exact half _ _ _ hl (by decide)
      · rw [if_neg c4]
        have ha : mustF s (i + 4) 0 92 = (i + 5, 3) := by
          unfold mustF
          rw [nextF_ok rfl c3]
          dsimp only
          rw [if_neg c4, show i + 4 + 1 = i + 5 by omega, failF_0]
        have hb : mustF s (i + 5) 3 117 = (i + 5, 3) := by
          unfold mustF
          rw [nextF_bad (by omega)]
          dsimp only
          rw [if_neg (by omega), failF_n (by omega)]
        have hl := lowP_eq ha hb (fourF_bad (by omega))
        rw [if_pos (by omega), failF_n (by omega)] at hl
        exact half _ _ _ hl (by decide)
    · rw [if_neg c3]
      have ha : mustF s (i + 4) 0 92 = (i + 4, 2) := by
        unfold mustF
        rw [nextF_short rfl c3]
        dsimp only
        rw [if_neg (by omega), failF_n (by omega)]
      have hb : mustF s (i + 4) 2 117 = (i + 4, 2) := by
        unfold mustF
        rw [nextF_bad (by omega)]
        dsimp only
        rw [if_neg (by omega), failF_n (by omega)]
      have hl := lowP_eq ha hb (fourF_bad (by omega))
      rw [if_pos (by omega), failF_n (by omega)] at hl
      exact half _ _ _ hl (by decide)
  · rw [if_neg he, codeP_bad hx he]
    exact ⟨rfl, fun h => absurd h he⟩

end Go.Proofs.YtenkmfahcmahkaaDoor.Flow
