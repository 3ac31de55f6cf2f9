/- The texts U9, D0, D1, one behind the other. -/
import Derived.Test.YtcajofhafpkbdaaGreatDoorCF9
import Derived.Test.YtcajofhafpkbdaaGreatDoorCF11
import Derived.Lib.TrimByte
namespace Go.Proofs.YtcajofhafpkbdaaGreatDoor.Flow
open Go

def unqG (s : List UInt8) : Nat → Int → List UInt8 → List UInt8 × Int × Int
  | 0, _, _ => ([], 0, 2)
  | n + 1, i, o =>
    if i < s.length then
      (if at' s i = 34 then (if validL o = true then (o, i + 1, 0) else ([], 0, 3))
      else if at' s i = 92 then (if (escP s (i + 1) o).2.2 = 0 then unqG s n (escP s (i + 1) o).1 (escP s (i + 1) o).2.1 else ([], 0, (escP s (i + 1) o).2.2))
      else if at' s i < 32 then ([], 0, 3)
      else unqG s n (i + 1) (o ++ [by8 (at' s i)]))
    else ([], 0, 2)

def unqF (s : List UInt8) (i : Int) : List UInt8 × Int × Int :=
  if i < 0 ∨ s.length < i then ([], 0, 8)
  else if (mustF s i 0 34).2 = 0 then unqG s (s.length + 1 - (mustF s i 0 34).1.toNat) (mustF s i 0 34).1 [] else ([], 0, (mustF s i 0 34).2)

section
variable {s : List UInt8} {n : Nat} {i : Int} {o : List UInt8}
theorem zgD (h : ¬ i < s.length) : unqG s (n + 1) i o = ([], 0, 2) := by rw [unqG, if_neg h]
theorem zcX (h : i < s.length) (h2 : at' s i = 34) (h3 : validL o = true) : unqG s (n + 1) i o = (o, i + 1, 0) := by rw [unqG, if_pos h, if_pos h2, if_pos h3]
theorem zfZ (h : i < s.length) (h2 : at' s i = 34) (h3 : validL o = false) : unqG s (n + 1) i o = ([], 0, 3) := by rw [unqG, if_pos h, if_pos h2, if_neg (by rw [h3]; decide)]
theorem zdA (h : i < s.length) (h2 : at' s i = 92) : unqG s (n + 1) i o = if (escP s (i + 1) o).2.2 = 0 then unqG s n (escP s (i + 1) o).1 (escP s (i + 1) o).2.1 else ([], 0, (escP s (i + 1) o).2.2) := by
  rw [unqG, if_pos h, if_neg (by omega), if_pos h2]
theorem zgb (h : i < s.length) (h2 : ¬ at' s i = 34) (h3 : ¬ at' s i = 92) (h4 : at' s i < 32) : unqG s (n + 1) i o = ([], 0, 3) := by rw [unqG, if_pos h, if_neg h2, if_neg h3, if_pos h4]
theorem zdx (h : i < s.length) (h2 : ¬ at' s i = 34) (h3 : ¬ at' s i = 92) (h4 : ¬ at' s i < 32) : unqG s (n + 1) i o = unqG s n (i + 1) (o ++ [by8 (at' s i)]) := by rw [unqG, if_pos h, if_neg h2, if_neg h3, if_neg h4]
end

theorem zjV (s : List UInt8) (j : Int) (h0 : 0 ≤ j) (h1 : j ≤ s.length) : j ≤ (lowP s j).2.1 ∧ (lowP s j).2.1 ≤ s.length := by
  have q1 := zbJ s j 0 92 h0 h1
  have q2 := zbJ s (mustF s j 0 92).1 (mustF s j 0 92).2 117 (by omega) (by omega)
  have q3 := zeV s (mustF s (mustF s j 0 92).1 (mustF s j 0 92).2 117).1 (mustF s (mustF s j 0 92).1 (mustF s j 0 92).2 117).2 (by omega) (by omega)
  unfold lowP
  dsimp only
  omega

theorem zhP (s : List UInt8) (i : Int) (o : List UInt8) (h0 : 0 ≤ i) (h1 : i ≤ s.length) : i ≤ (codeP s i o).1 ∧ (codeP s i o).1 ≤ s.length ∧ (codeP s i o).2.1.length ≤ o.length + 4 := by
  have hr := zcA s 4 0 i h0 h1 (by omega)
  have hl := zjV s (fourG s 4 0 i).2.1 (by omega) (by omega)
  unfold codeP
  have u1 := zjw (pairF (fourG s 4 0 i).1 (lowP s (fourG s 4 0 i).2.1).1)
  have u2 := zjw (fourG s 4 0 i).1
  dsimp only
  (repeat' split) <;> dsimp only <;> (try simp only [List.length_append]) <;> omega

theorem zdY (s : List UInt8) (i : Int) (o : List UInt8) (h0 : 0 ≤ i) (h1 : i ≤ s.length) : i ≤ (escP s i o).1 ∧ (escP s i o).1 ≤ s.length ∧ (escP s i o).2.1.length ≤ o.length + 4 := by
  unfold escP
  split
  · have := zhP s (i + 1) o (by omega) (by omega)
    split
    · omega
    · simp only [List.length_append, List.length_cons, List.length_nil]
      omega
  · simp only [List.length_append, List.length_cons, List.length_nil]
    omega

theorem ziq (s : List UInt8) : ∀ (n m : Nat) (i : Int) (o : List UInt8), 0 ≤ i → i ≤ s.length → (s.length : Int) + 1 ≤ i + n → (s.length : Int) + 1 ≤ i + m → unqG s n i o = unqG s m i o
  | 0, _, i, o, h0, h1, h2, _ => by omega
  | n + 1, 0, i, o, h0, h1, _, h2 => by omega
  | n + 1, m + 1, i, o, h0, h1, h2, h3 => by
    by_cases hi : i < s.length
    · by_cases c34 : at' s i = 34
      · cases hv : validL o with
        | true => rw [zcX hi c34 hv, zcX hi c34 hv]
        | false => rw [zfZ hi c34 hv, zfZ hi c34 hv]
      · by_cases c92 : at' s i = 92
        · rw [zdA hi c92, zdA hi c92]
          have er := zdY s (i + 1) o (by omega) (by omega)
          split
          · exact ziq s n m _ _ (by omega) er.2.1 (by omega) (by omega)
          · rfl
        · by_cases c32 : at' s i < 32
          · rw [zgb hi c34 c92 c32, zgb hi c34 c92 c32]
          · rw [zdx hi c34 c92 c32, zdx hi c34 c92 c32]
            exact ziq s n m _ _ (by omega) (by omega) (by omega) (by omega)
    · rw [zgD hi, zgD hi]

set_option maxHeartbeats 1000000 in
theorem zoE (s : List UInt8) (i : Int) (hs : s.length ≤ 1048576) : Ctr Tryz.prog 109 [.s s, .i .i64 i] (.tu [.s (unqF s i).1, .i .i64 (unqF s i).2.1, .i .i64 (unqF s i).2.2]) := by
  by_cases hb : i < 0 ∨ s.length < i
  · unfold unqF
    rw [if_pos hb]
    refine zbe Tryz.func109 rfl Tryz.ntmps109 Tryz.results109 rfl rfl fun X hL hX => ?_
    repeat' (first |refine T.adoptV 20 2 200 5 1 _ (bytesF []) rfl rfl rfl ?_|with_reducible (first |refine zaK ?_|refine zaj ?_|refine zaL ?_|refine zaB ?_|refine zaO ?_|refine zaD ?_|refine zaC ?_|refine zar ?_|refine zaq ?_|refine zaI ?_|refine zaE ?_|refine zas ?_|refine zaH ?_)|refine zaw rfl rfl True.intro ?_|refine zau rfl rfl rfl ?_|refine zao rfl rfl rfl ?_|refine zag rfl rfl rfl rfl True.intro ?_|refine zaF rfl ?_|refine zat rfl ?_|((first |refine zal rfl ?_ ?_|refine zan rfl ?_ ?_|refine zak rfl ?_ ?_|refine zam rfl ?_ ?_|refine zap rfl ?_ ?_|refine zaA rfl ?_ ?_|refine zad rfl rfl ?_ ?_|refine zae rfl rfl ?_ ?_|refine zaf rfl rfl ?_ ?_|refine zac rfl rfl ?_ ?_|refine zab rfl rfl ?_ ?_)<;>intro<;>try (first |(rename_i hz;first |exact tf_ hz|exact ft_ hz)|(exfalso;omega)))|((first |refine zaw rfl rfl ?_ ?_|refine zag rfl rfl rfl rfl ?_ ?_|refine zaM rfl rfl ?_ ?_|refine zaJ rfl ?_ ?_|refine zaG rfl rfl rfl rfl ?_ ?_);focus (first |omega|exact le_ rfl|((repeat first |rw [zay]|rw [wi6_]|rw [wi3_]|rw [zai]|rw [zah]);(repeat' refine And.intro ?_ ?_)<;>omega)|((repeat' refine And.intro ?_ ?_)<;>first |omega|rfl|exact Nat.le_refl _|exact le_ rfl|exact zaa _)|(simp_all;done)|(simp_all;omega)))|refine zaP rfl ?_|refine zaz rfl ?_|with_reducible refine ⟨by kernel_rfl, ?_⟩|refine zaQ rfl ?_|((with_reducible refine zaN ?_);(fail_if_success (refine zax true rfl rfl rfl ?_));(fail_if_success (refine zax false rfl rfl rfl ?_));refine zav rfl rfl (fun _ => ?_) (fun _ => ?_)))
    all_goals rfl
  · have h0 : 0 ≤ i := by omega
    have h1 : i ≤ s.length := by omega
    generalize hR : unqF s i = R
    unfold unqF at hR
    rw [if_neg hb] at hR
    have hm := zgB s i [] 0 34 (by omega) h0 h1
    have hmr := zbJ s i 0 34 h0 h1
    generalize mustF s i 0 34 = m at hm hmr hR
    obtain ⟨j, e⟩ := m
    dsimp only at hm hmr hR
    refine zbe Tryz.func109 rfl Tryz.ntmps109 Tryz.results109 rfl rfl fun X hL hX => ?_
    replace hR := fun _ : Unit => hR
    repeat' (first |refine T.adoptV 20 2 200 5 1 _ (bytesF []) rfl rfl rfl ?_|with_reducible (first |refine zaK ?_|refine zaj ?_|refine zaL ?_|refine zaB ?_|refine zaO ?_|refine zaD ?_|refine zaC ?_|refine zar ?_|refine zaq ?_|refine zaI ?_|refine zaE ?_|refine zas ?_|refine zaH ?_)|refine zaw rfl rfl True.intro ?_|refine zau rfl rfl rfl ?_|refine zao rfl rfl rfl ?_|refine zag rfl rfl rfl rfl True.intro ?_|refine zaF rfl ?_|refine zat rfl ?_|((first |refine zal rfl ?_ ?_|refine zan rfl ?_ ?_|refine zak rfl ?_ ?_|refine zam rfl ?_ ?_|refine zap rfl ?_ ?_|refine zaA rfl ?_ ?_|refine zad rfl rfl ?_ ?_|refine zae rfl rfl ?_ ?_|refine zaf rfl rfl ?_ ?_|refine zac rfl rfl ?_ ?_|refine zab rfl rfl ?_ ?_)<;>intro<;>try (first |(rename_i hz;first |exact tf_ hz|exact ft_ hz)|(exfalso;omega)))|((first |refine zaw rfl rfl ?_ ?_|refine zag rfl rfl rfl rfl ?_ ?_|refine zaM rfl rfl ?_ ?_|refine zaJ rfl ?_ ?_|refine zaG rfl rfl rfl rfl ?_ ?_);focus (first |omega|exact le_ rfl|((repeat first |rw [zay]|rw [wi6_]|rw [wi3_]|rw [zai]|rw [zah]);(repeat' refine And.intro ?_ ?_)<;>omega)|((repeat' refine And.intro ?_ ?_)<;>first |omega|rfl|exact Nat.le_refl _|exact le_ rfl|exact zaa _)|(simp_all;done)|(simp_all;omega)))|refine zaP rfl ?_|refine zaz rfl ?_|with_reducible refine ⟨by kernel_rfl, ?_⟩|refine zaQ rfl ?_|refine zaV (f := 130) 20 200 rfl rfl Tryz.call130 rfl rfl rfl rfl rfl rfl rfl rfl rfl hm ?_|((with_reducible refine zaN ?_);(fail_if_success (refine zax true rfl rfl rfl ?_));(fail_if_success (refine zax false rfl rfl rfl ?_));refine zav rfl rfl (fun _ => ?_) (fun _ => ?_)))
    refine T.loop hL (fun x : Int × List UInt8 × Int => [(0, .s s), (7, .pv 20 0)]) (fun x => rdl s x.1 x.2.1 x.2.2)
      (fun x => (x.2.2 = 0 ∧ 0 ≤ x.1 ∧ x.1 ≤ s.length ∧ (x.2.1.length : Int) ≤ 4 * x.1 ∧ (∀ _ : Unit, unqG s (s.length + 1 - x.1.toNat) x.1 x.2.1 = R)) ∨ (¬ x.2.2 = 0 ∧ ∀ _ : Unit, R = ([], 0, x.2.2)))
      (fun x => if x.2.2 = 0 then s.length + 1 - x.1.toNat else 0) (j, [], e) ?_
      ⟨⟨rfl, rfl, trivial⟩, ⟨rfl, rfl, trivial⟩, rfl, by rw [hX]; intro k hk; cases hk⟩ ?_
    · by_cases he : e = 0
      · refine .inl ⟨he, by dsimp only; omega, hmr.2.1, by simp; omega, fun _ => ?_⟩
        have := hR ()
        rw [if_pos he] at this
        exact this
      · refine .inr ⟨he, fun _ => ?_⟩
        have := hR ()
        rw [if_neg he] at this
        exact this.symm
    clear hm hmr hR
    rintro ⟨p, o, e'⟩ hI
    dsimp only at hI ⊢
    have done : ∀ (fr : Fr) (ow : Ow) (p' : Int) (o' : List UInt8) (f : Int), getD' 0 fr = .s s → getD' 7 fr = .pv 20 0 → leOw ow (rdl s p' o' f) → (¬ f = 0 ∧ (∀ _ : Unit, R = ([], 0, f)) ∧ e' = 0 ∧ 0 ≤ p ∧ p ≤ s.length ∨ f = 0 ∧ 0 ≤ p ∧ p < p' ∧ p' ≤ s.length ∧ (o'.length : Int) ≤ 4 * p' ∧ (∀ _ : Unit, unqG s (s.length + 1 - p'.toNat) p' o' = R) ∧ e' = 0) →
        ∃ y : Int × List UInt8 × Int, ((y.2.2 = 0 ∧ 0 ≤ y.1 ∧ y.1 ≤ s.length ∧ (y.2.1.length : Int) ≤ 4 * y.1 ∧ (∀ _ : Unit, unqG s (s.length + 1 - y.1.toNat) y.1 y.2.1 = R)) ∨ (¬ y.2.2 = 0 ∧ ∀ _ : Unit, R = ([], 0, y.2.2))) ∧
          (if y.2.2 = 0 then s.length + 1 - y.1.toNat else 0) < (if e' = 0 then s.length + 1 - p.toNat else 0) ∧ Le X fr ow [(0, .s s), (7, .pv 20 0)] (rdl s y.1 y.2.1 y.2.2) := by
      intro fr ow p' o' f q1 q2 q3 q4
      refine ⟨(p', o', f), ?_, ?_, ⟨q1, q2, trivial⟩, q3, rfl, by rw [hX]; intro k hk; cases hk⟩
      · rcases q4 with ⟨a, b, _⟩ | ⟨a, b, c, d, g, h, _⟩
        · exact .inr ⟨a, b⟩
        · exact .inl ⟨a, by dsimp only; omega, d, g, h⟩
      · dsimp only
        rcases q4 with ⟨a, b, c, d, g⟩ | ⟨a, b, c, d, g, h, k⟩
        · rw [if_neg a, if_pos c]
          omega
        · rw [if_pos a, if_pos k]
          omega
    rcases hI with ⟨he, i0, i1, i2, i3⟩ | ⟨he, i3⟩
    · subst he
      have hn := zda s p o 0 (by omega) i0 i1
      have ho : o.length ≤ 4194304 := by omega
      by_cases hp : p < s.length
      · rw [zdf rfl hp] at hn
        dsimp only at hn
        have hr := zba s p
        have hnn : s.length + 1 - p.toNat = (s.length + 1 - (p + 1).toNat) + 1 := by omega
        rw [hnn] at i3
        by_cases c34 : at' s p = 34
        · have cv := zcG o (by omega)
          cases hv : validL o with
          | true =>
            rw [hv] at cv
            have i3 := fun _ : Unit => (i3 ()).symm.trans (zcX hp c34 hv)
            clear hv
            repeat' (first |with_reducible (first |refine zaK ?_|refine zaj ?_|refine zaL ?_|refine zaB ?_|refine zaO ?_|refine zaD ?_|refine zaC ?_|refine zar ?_|refine zaq ?_|refine zaI ?_|refine zaE ?_|refine zas ?_|refine zaH ?_)|refine zaw rfl rfl True.intro ?_|refine zau rfl rfl rfl ?_|refine zao rfl rfl rfl ?_|refine zag rfl rfl rfl rfl True.intro ?_|refine zaF rfl ?_|refine zat rfl ?_|((first |refine zal rfl ?_ ?_|refine zan rfl ?_ ?_|refine zak rfl ?_ ?_|refine zam rfl ?_ ?_|refine zap rfl ?_ ?_|refine zaA rfl ?_ ?_|refine zad rfl rfl ?_ ?_|refine zae rfl rfl ?_ ?_|refine zaf rfl rfl ?_ ?_|refine zac rfl rfl ?_ ?_|refine zab rfl rfl ?_ ?_)<;>intro<;>try (first |(rename_i hz;first |exact tf_ hz|exact ft_ hz)|(exfalso;omega)))|((first |refine zaw rfl rfl ?_ ?_|refine zag rfl rfl rfl rfl ?_ ?_|refine zaM rfl rfl ?_ ?_|refine zaJ rfl ?_ ?_|refine zaG rfl rfl rfl rfl ?_ ?_);focus (first |omega|exact le_ rfl|((repeat first |rw [zay]|rw [wi6_]|rw [wi3_]|rw [zai]|rw [zah]);(repeat' refine And.intro ?_ ?_)<;>omega)|((repeat' refine And.intro ?_ ?_)<;>first |omega|rfl|exact Nat.le_refl _|exact le_ rfl|exact zaa _)|(simp_all;done)|(simp_all;omega)))|refine zaP rfl ?_|refine zaz rfl ?_|with_reducible refine ⟨by kernel_rfl, ?_⟩|refine zaQ rfl ?_|refine zaV (f := 131) 20 200 rfl rfl Tryz.call131 rfl rfl rfl rfl rfl rfl rfl rfl rfl hn ?_|refine zaR (f := 69) rfl rfl Tryz.call69 rfl (by rw [zbP];exact cv) ?_|((with_reducible refine zaN ?_);(fail_if_success (refine zax true rfl rfl rfl ?_));(fail_if_success (refine zax false rfl rfl rfl ?_));refine zav rfl rfl (fun _ => ?_) (fun _ => ?_)))
            rw [i3 (), zbP]
          | false =>
            rw [hv] at cv
            have i3 := fun _ : Unit => (i3 ()).symm.trans (zfZ hp c34 hv)
            clear hv
            repeat' (first |with_reducible (first |refine zaK ?_|refine zaj ?_|refine zaL ?_|refine zaB ?_|refine zaO ?_|refine zaD ?_|refine zaC ?_|refine zar ?_|refine zaq ?_|refine zaI ?_|refine zaE ?_|refine zas ?_|refine zaH ?_)|refine zaw rfl rfl True.intro ?_|refine zau rfl rfl rfl ?_|refine zao rfl rfl rfl ?_|refine zag rfl rfl rfl rfl True.intro ?_|refine zaF rfl ?_|refine zat rfl ?_|((first |refine zal rfl ?_ ?_|refine zan rfl ?_ ?_|refine zak rfl ?_ ?_|refine zam rfl ?_ ?_|refine zap rfl ?_ ?_|refine zaA rfl ?_ ?_|refine zad rfl rfl ?_ ?_|refine zae rfl rfl ?_ ?_|refine zaf rfl rfl ?_ ?_|refine zac rfl rfl ?_ ?_|refine zab rfl rfl ?_ ?_)<;>intro<;>try (first |(rename_i hz;first |exact tf_ hz|exact ft_ hz)|(exfalso;omega)))|((first |refine zaw rfl rfl ?_ ?_|refine zag rfl rfl rfl rfl ?_ ?_|refine zaM rfl rfl ?_ ?_|refine zaJ rfl ?_ ?_|refine zaG rfl rfl rfl rfl ?_ ?_);focus (first |omega|exact le_ rfl|((repeat first |rw [zay]|rw [wi6_]|rw [wi3_]|rw [zai]|rw [zah]);(repeat' refine And.intro ?_ ?_)<;>omega)|((repeat' refine And.intro ?_ ?_)<;>first |omega|rfl|exact Nat.le_refl _|exact le_ rfl|exact zaa _)|(simp_all;done)|(simp_all;omega)))|refine zaP rfl ?_|refine zaz rfl ?_|with_reducible refine ⟨by kernel_rfl, ?_⟩|refine zaQ rfl ?_|refine zaV (f := 131) 20 200 rfl rfl Tryz.call131 rfl rfl rfl rfl rfl rfl rfl rfl rfl hn ?_|refine zaR (f := 69) rfl rfl Tryz.call69 rfl (by rw [zbP];exact cv) ?_|((with_reducible refine zaN ?_);(fail_if_success (refine zax true rfl rfl rfl ?_));(fail_if_success (refine zax false rfl rfl rfl ?_));refine zav rfl rfl (fun _ => ?_) (fun _ => ?_)))
            rw [i3 ()]
        · by_cases c92 : at' s p = 92
          · have ce := zow s (p + 1) o (by omega) (by omega) (by omega) (by omega)
            have er := zdY s (p + 1) o (by omega) (by omega)
            have i3 := fun _ : Unit => (i3 ()).symm.trans (zdA hp c92)
            generalize escP s (p + 1) o = E at ce er i3
            obtain ⟨p', o', f⟩ := E
            dsimp only at ce er i3
            repeat' (first |with_reducible (first |refine zaK ?_|refine zaj ?_|refine zaL ?_|refine zaB ?_|refine zaO ?_|refine zaD ?_|refine zaC ?_|refine zar ?_|refine zaq ?_|refine zaI ?_|refine zaE ?_|refine zas ?_|refine zaH ?_)|refine zaw rfl rfl True.intro ?_|refine zau rfl rfl rfl ?_|refine zao rfl rfl rfl ?_|refine zag rfl rfl rfl rfl True.intro ?_|refine zaF rfl ?_|refine zat rfl ?_|((first |refine zal rfl ?_ ?_|refine zan rfl ?_ ?_|refine zak rfl ?_ ?_|refine zam rfl ?_ ?_|refine zap rfl ?_ ?_|refine zaA rfl ?_ ?_|refine zad rfl rfl ?_ ?_|refine zae rfl rfl ?_ ?_|refine zaf rfl rfl ?_ ?_|refine zac rfl rfl ?_ ?_|refine zab rfl rfl ?_ ?_)<;>intro<;>try (first |(rename_i hz;first |exact tf_ hz|exact ft_ hz)|(exfalso;omega)))|((first |refine zaw rfl rfl ?_ ?_|refine zag rfl rfl rfl rfl ?_ ?_|refine zaM rfl rfl ?_ ?_|refine zaJ rfl ?_ ?_|refine zaG rfl rfl rfl rfl ?_ ?_);focus (first |omega|exact le_ rfl|((repeat first |rw [zay]|rw [wi6_]|rw [wi3_]|rw [zai]|rw [zah]);(repeat' refine And.intro ?_ ?_)<;>omega)|((repeat' refine And.intro ?_ ?_)<;>first |omega|rfl|exact Nat.le_refl _|exact le_ rfl|exact zaa _)|(simp_all;done)|(simp_all;omega)))|refine zaP rfl ?_|refine zaz rfl ?_|with_reducible refine ⟨by kernel_rfl, ?_⟩|refine zaQ rfl ?_|refine zaV (f := 131) 20 200 rfl rfl Tryz.call131 rfl rfl rfl rfl rfl rfl rfl rfl rfl hn ?_|refine zaV (f := 132) 20 200 rfl rfl Tryz.call132 rfl rfl rfl rfl rfl rfl rfl rfl rfl ce ?_|((with_reducible refine zaN ?_);(fail_if_success (refine zax true rfl rfl rfl ?_));(fail_if_success (refine zax false rfl rfl rfl ?_));refine zav rfl rfl (fun _ => ?_) (fun _ => ?_)))
            by_cases hf0 : f = 0
            · refine done _ _ p' o' f rfl rfl ⟨rfl, rfl, trivial⟩ (.inr ⟨hf0, i0, by omega, er.2.1, by omega, fun _ => ?_, rfl⟩)
              rw [i3 (), if_pos hf0]
              exact ziq s _ _ p' o' (by omega) er.2.1 (by omega) (by omega)
            · refine done _ _ p' o' f rfl rfl ⟨rfl, rfl, trivial⟩ (.inl ⟨hf0, fun _ => ?_, rfl, i0, i1⟩)
              rw [i3 (), if_neg hf0]
          · have hf := zck s (p + 1) o 0 3
            by_cases c32 : at' s p < 32
            · have i3 := fun _ : Unit => (i3 ()).symm.trans (zgb hp c34 c92 c32)
              repeat' (first |with_reducible (first |refine zaK ?_|refine zaj ?_|refine zaL ?_|refine zaB ?_|refine zaO ?_|refine zaD ?_|refine zaC ?_|refine zar ?_|refine zaq ?_|refine zaI ?_|refine zaE ?_|refine zas ?_|refine zaH ?_)|refine zaw rfl rfl True.intro ?_|refine zau rfl rfl rfl ?_|refine zao rfl rfl rfl ?_|refine zag rfl rfl rfl rfl True.intro ?_|refine zaF rfl ?_|refine zat rfl ?_|((first |refine zal rfl ?_ ?_|refine zan rfl ?_ ?_|refine zak rfl ?_ ?_|refine zam rfl ?_ ?_|refine zap rfl ?_ ?_|refine zaA rfl ?_ ?_|refine zad rfl rfl ?_ ?_|refine zae rfl rfl ?_ ?_|refine zaf rfl rfl ?_ ?_|refine zac rfl rfl ?_ ?_|refine zab rfl rfl ?_ ?_)<;>intro<;>try (first |(rename_i hz;first |exact tf_ hz|exact ft_ hz)|(exfalso;omega)))|((first |refine zaw rfl rfl ?_ ?_|refine zag rfl rfl rfl rfl ?_ ?_|refine zaM rfl rfl ?_ ?_|refine zaJ rfl ?_ ?_|refine zaG rfl rfl rfl rfl ?_ ?_);focus (first |omega|exact le_ rfl|((repeat first |rw [zay]|rw [wi6_]|rw [wi3_]|rw [zai]|rw [zah]);(repeat' refine And.intro ?_ ?_)<;>omega)|((repeat' refine And.intro ?_ ?_)<;>first |omega|rfl|exact Nat.le_refl _|exact le_ rfl|exact zaa _)|(simp_all;done)|(simp_all;omega)))|refine zaP rfl ?_|refine zaz rfl ?_|with_reducible refine ⟨by kernel_rfl, ?_⟩|refine zaQ rfl ?_|refine zaV (f := 131) 20 200 rfl rfl Tryz.call131 rfl rfl rfl rfl rfl rfl rfl rfl rfl hn ?_|refine zaV (f := 133) 20 200 rfl rfl Tryz.call133 rfl rfl rfl rfl rfl rfl rfl rfl rfl hf ?_|((with_reducible refine zaN ?_);(fail_if_success (refine zax true rfl rfl rfl ?_));(fail_if_success (refine zax false rfl rfl rfl ?_));refine zav rfl rfl (fun _ => ?_) (fun _ => ?_)))
              exact done _ _ (p + 1) o 3 rfl rfl ⟨rfl, rfl, trivial⟩ (.inl ⟨by omega, i3, rfl, i0, i1⟩)
            · have i3 := fun _ : Unit => (i3 ()).symm.trans (zdx hp c34 c92 c32)
              repeat' (first |with_reducible (first |refine zaK ?_|refine zaj ?_|refine zaL ?_|refine zaB ?_|refine zaO ?_|refine zaD ?_|refine zaC ?_|refine zar ?_|refine zaq ?_|refine zaI ?_|refine zaE ?_|refine zas ?_|refine zaH ?_)|refine zaw rfl rfl True.intro ?_|refine zau rfl rfl rfl ?_|refine zao rfl rfl rfl ?_|refine zag rfl rfl rfl rfl True.intro ?_|refine zaF rfl ?_|refine zat rfl ?_|((first |refine zal rfl ?_ ?_|refine zan rfl ?_ ?_|refine zak rfl ?_ ?_|refine zam rfl ?_ ?_|refine zap rfl ?_ ?_|refine zaA rfl ?_ ?_|refine zad rfl rfl ?_ ?_|refine zae rfl rfl ?_ ?_|refine zaf rfl rfl ?_ ?_|refine zac rfl rfl ?_ ?_|refine zab rfl rfl ?_ ?_)<;>intro<;>try (first |(rename_i hz;first |exact tf_ hz|exact ft_ hz)|(exfalso;omega)))|((first |refine zaw rfl rfl ?_ ?_|refine zag rfl rfl rfl rfl ?_ ?_|refine zaM rfl rfl ?_ ?_|refine zaJ rfl ?_ ?_|refine zaG rfl rfl rfl rfl ?_ ?_);focus (first |omega|exact le_ rfl|((repeat first |rw [zay]|rw [wi6_]|rw [wi3_]|rw [zai]|rw [zah]);(repeat' refine And.intro ?_ ?_)<;>omega)|((repeat' refine And.intro ?_ ?_)<;>first |omega|rfl|exact Nat.le_refl _|exact le_ rfl|exact zaa _)|(simp_all;done)|(simp_all;omega)))|refine zaP rfl ?_|refine zaz rfl ?_|with_reducible refine ⟨by kernel_rfl, ?_⟩|refine zaQ rfl ?_|refine zaV (f := 131) 20 200 rfl rfl Tryz.call131 rfl rfl rfl rfl rfl rfl rfl rfl rfl hn ?_|((with_reducible refine zaN ?_);(fail_if_success (refine zax true rfl rfl rfl ?_));(fail_if_success (refine zax false rfl rfl rfl ?_));refine zav rfl rfl (fun _ => ?_) (fun _ => ?_)))
              exact done _ _ (p + 1) (o ++ [by8 (at' s p)]) 0 rfl rfl (zgH rfl hr.1 hr.2 rfl rfl rfl rfl) (.inr ⟨rfl, i0, by omega, by omega, by simp; omega, fun _ => (i3 ()).symm, rfl⟩)
      · rw [zcf rfl hp] at hn
        dsimp only at hn
        rw [show s.length + 1 - p.toNat = 0 + 1 by omega] at i3
        have i3 := fun _ : Unit => (i3 ()).symm.trans (zgD hp)
        repeat' (first |with_reducible (first |refine zaK ?_|refine zaj ?_|refine zaL ?_|refine zaB ?_|refine zaO ?_|refine zaD ?_|refine zaC ?_|refine zar ?_|refine zaq ?_|refine zaI ?_|refine zaE ?_|refine zas ?_|refine zaH ?_)|refine zaw rfl rfl True.intro ?_|refine zau rfl rfl rfl ?_|refine zao rfl rfl rfl ?_|refine zag rfl rfl rfl rfl True.intro ?_|refine zaF rfl ?_|refine zat rfl ?_|((first |refine zal rfl ?_ ?_|refine zan rfl ?_ ?_|refine zak rfl ?_ ?_|refine zam rfl ?_ ?_|refine zap rfl ?_ ?_|refine zaA rfl ?_ ?_|refine zad rfl rfl ?_ ?_|refine zae rfl rfl ?_ ?_|refine zaf rfl rfl ?_ ?_|refine zac rfl rfl ?_ ?_|refine zab rfl rfl ?_ ?_)<;>intro<;>try (first |(rename_i hz;first |exact tf_ hz|exact ft_ hz)|(exfalso;omega)))|((first |refine zaw rfl rfl ?_ ?_|refine zag rfl rfl rfl rfl ?_ ?_|refine zaM rfl rfl ?_ ?_|refine zaJ rfl ?_ ?_|refine zaG rfl rfl rfl rfl ?_ ?_);focus (first |omega|exact le_ rfl|((repeat first |rw [zay]|rw [wi6_]|rw [wi3_]|rw [zai]|rw [zah]);(repeat' refine And.intro ?_ ?_)<;>omega)|((repeat' refine And.intro ?_ ?_)<;>first |omega|rfl|exact Nat.le_refl _|exact le_ rfl|exact zaa _)|(simp_all;done)|(simp_all;omega)))|refine zaP rfl ?_|refine zaz rfl ?_|with_reducible refine ⟨by kernel_rfl, ?_⟩|refine zaQ rfl ?_|refine zaV (f := 131) 20 200 rfl rfl Tryz.call131 rfl rfl rfl rfl rfl rfl rfl rfl rfl hn ?_|((with_reducible refine zaN ?_);(fail_if_success (refine zax true rfl rfl rfl ?_));(fail_if_success (refine zax false rfl rfl rfl ?_));refine zav rfl rfl (fun _ => ?_) (fun _ => ?_)))
        exact done _ _ p o 2 rfl rfl ⟨rfl, rfl, trivial⟩ (.inl ⟨by omega, i3, rfl, i0, i1⟩)
    · clear done
      repeat' (first |with_reducible (first |refine zaK ?_|refine zaj ?_|refine zaL ?_|refine zaB ?_|refine zaO ?_|refine zaD ?_|refine zaC ?_|refine zar ?_|refine zaq ?_|refine zaI ?_|refine zaE ?_|refine zas ?_|refine zaH ?_)|refine zaw rfl rfl True.intro ?_|refine zau rfl rfl rfl ?_|refine zao rfl rfl rfl ?_|refine zag rfl rfl rfl rfl True.intro ?_|refine zaF rfl ?_|refine zat rfl ?_|((first |refine zal rfl ?_ ?_|refine zan rfl ?_ ?_|refine zak rfl ?_ ?_|refine zam rfl ?_ ?_|refine zap rfl ?_ ?_|refine zaA rfl ?_ ?_|refine zad rfl rfl ?_ ?_|refine zae rfl rfl ?_ ?_|refine zaf rfl rfl ?_ ?_|refine zac rfl rfl ?_ ?_|refine zab rfl rfl ?_ ?_)<;>intro<;>try (first |(rename_i hz;first |exact tf_ hz|exact ft_ hz)|(exfalso;omega)))|((first |refine zaw rfl rfl ?_ ?_|refine zag rfl rfl rfl rfl ?_ ?_|refine zaM rfl rfl ?_ ?_|refine zaJ rfl ?_ ?_|refine zaG rfl rfl rfl rfl ?_ ?_);focus (first |omega|exact le_ rfl|((repeat first |rw [zay]|rw [wi6_]|rw [wi3_]|rw [zai]|rw [zah]);(repeat' refine And.intro ?_ ?_)<;>omega)|((repeat' refine And.intro ?_ ?_)<;>first |omega|rfl|exact Nat.le_refl _|exact le_ rfl|exact zaa _)|(simp_all;done)|(simp_all;omega)))|refine zaP rfl ?_|refine zaz rfl ?_|with_reducible refine ⟨by kernel_rfl, ?_⟩|refine zaQ rfl ?_|((with_reducible refine zaN ?_);(fail_if_success (refine zax true rfl rfl rfl ?_));(fail_if_success (refine zax false rfl rfl rfl ?_));refine zav rfl rfl (fun _ => ?_) (fun _ => ?_)))
      rw [i3 ()]

abbrev dcD (neg : Bool) (s : List UInt8) (e : Int) : D := .ag [.b neg, .s s, .i .i64 e]

def digC (c : Int) : Prop := 48 ≤ c ∧ c ≤ 57
def digs (s : List UInt8) : Prop := ∀ i : Nat, i < s.length → 48 ≤ at' s i ∧ at' s i ≤ 57

def RightP (neg : Bool) (s : List UInt8) (e : Int) : Prop :=
  if s.length = 0 then neg = false ∧ e = 0
  else digs s ∧ s.length ≤ 100 ∧ ¬ at' s 0 = 48 ∧ ¬ at' s (s.length - 1) = 48 ∧ -1000 ≤ e ∧ e ≤ 1000

instance (s : List UInt8) : Decidable (digs s) := by
  unfold digs
  infer_instance
instance (neg : Bool) (s : List UInt8) (e : Int) : Decidable (RightP neg s e) := by
  unfold RightP
  infer_instance

def rightB (neg : Bool) (s : List UInt8) (e : Int) : Bool := decide (RightP neg s e)

theorem zdU {neg : Bool} {s : List UInt8} {e : Int} : rightB neg s e = true ↔ RightP neg s e := by unfold rightB; exact decide_eq_true_iff
theorem zks {neg : Bool} {s : List UInt8} {e : Int} (h : ¬ RightP neg s e) : rightB neg s e = false := by
  rw [← Bool.not_eq_true, zdU]
  exact h
theorem zbU {neg : Bool} {s : List UInt8} {e : Int} {b : Bool} (h : b = true ↔ RightP neg s e) : D.b b = .b (rightB neg s e) := by
  congr 1
  rw [Bool.eq_iff_iff, h, zdU]

theorem zfn {neg : Bool} {s : List UInt8} {e : Int} (h : s.length = 0) : RightP neg s e ↔ neg = false ∧ e = 0 := by unfold RightP; rw [if_pos h]
theorem zbt {neg : Bool} {s : List UInt8} {e : Int} (h : ¬ s.length = 0) : RightP neg s e ↔ digs s ∧ s.length ≤ 100 ∧ ¬ at' s 0 = 48 ∧ ¬ at' s (s.length - 1) = 48 ∧ -1000 ≤ e ∧ e ≤ 1000 := by unfold RightP; rw [if_neg h]

theorem zia {s : List UInt8} (h : s.length = 0) : s = [] := List.length_eq_zero_iff.1 h

set_option maxHeartbeats 1000000 in
theorem zdD (neg : Bool) (s : List UInt8) (e : Int) (hs : s.length ≤ 1099511627776) : Ctr Tryz.prog 113 [dcD neg s e] (.b (rightB neg s e)) := by
  refine zbe Tryz.func113 rfl Tryz.ntmps113 Tryz.results113 rfl rfl fun X hL hX => ?_
  repeat' (first |with_reducible (first |refine zaK ?_|refine zaj ?_|refine zaL ?_|refine zaB ?_|refine zaO ?_|refine zaD ?_|refine zaC ?_|refine zar ?_|refine zaq ?_|refine zaI ?_|refine zaE ?_|refine zas ?_|refine zaH ?_)|refine zaw rfl rfl True.intro ?_|refine zau rfl rfl rfl ?_|refine zao rfl rfl rfl ?_|refine zag rfl rfl rfl rfl True.intro ?_|refine zaF rfl ?_|refine zat rfl ?_|((first |refine zal rfl ?_ ?_|refine zan rfl ?_ ?_|refine zak rfl ?_ ?_|refine zam rfl ?_ ?_|refine zap rfl ?_ ?_|refine zaA rfl ?_ ?_|refine zad rfl rfl ?_ ?_|refine zae rfl rfl ?_ ?_|refine zaf rfl rfl ?_ ?_|refine zac rfl rfl ?_ ?_|refine zab rfl rfl ?_ ?_)<;>intro<;>try (first |contradiction|(exfalso;omega)))|((first |refine zaw rfl rfl ?_ ?_|refine zag rfl rfl rfl rfl ?_ ?_|refine zaM rfl rfl ?_ ?_|refine zaJ rfl ?_ ?_|refine zaG rfl rfl rfl rfl ?_ ?_);focus (first |omega|exact le_ rfl|((repeat first |rw [zay]|rw [wi6_]|rw [wi3_]|rw [zai]|rw [zah]);(repeat' refine And.intro ?_ ?_)<;>omega)|((repeat' refine And.intro ?_ ?_)<;>first |omega|rfl|exact Nat.le_refl _|exact le_ rfl|exact zaa _)|(simp_all;done)|(simp_all;omega)))|refine zaP rfl ?_|refine zaz rfl ?_|with_reducible refine ⟨by kernel_rfl, ?_⟩|refine zaQ rfl ?_|((with_reducible refine zaN ?_);(fail_if_success (refine zax true rfl rfl rfl ?_));(fail_if_success (refine zax false rfl rfl rfl ?_));refine zav rfl rfl (fun _ => ?_) (fun _ => ?_)))
  · rename_i h0
    refine zbU ?_
    rw [zfn (by omega), zia (show s.length = 0 by omega)]
    simp
  rename_i h0
  have h0 : ¬ s.length = 0 := by omega
  refine T.loop hL (fun i : Nat => [(1, .pv 1 0), (3, .i .i64 s.length), (13, .i .i64 s.length), (14, .i .i64 i)]) (fun _ => [(1, .var [.b neg, .s s, .i .i64 e])]) (fun i => i ≤ s.length ∧ ∀ j : Nat, j < i → 48 ≤ at' s j ∧ at' s j ≤ 57) (fun i => s.length - i) 0
    ⟨Nat.zero_le _, fun j hj => absurd hj (Nat.not_lt_zero _)⟩ ⟨⟨rfl, rfl, rfl, rfl, trivial⟩, ⟨rfl, trivial⟩, rfl, by rw [hX]; intro k hk; cases hk⟩ ?_
  rintro i ⟨g1, g2⟩
  repeat' (first |with_reducible (first |refine zaK ?_|refine zaj ?_|refine zaL ?_|refine zaB ?_|refine zaO ?_|refine zaD ?_|refine zaC ?_|refine zar ?_|refine zaq ?_|refine zaI ?_|refine zaE ?_|refine zas ?_|refine zaH ?_)|refine zaw rfl rfl True.intro ?_|refine zau rfl rfl rfl ?_|refine zao rfl rfl rfl ?_|refine zag rfl rfl rfl rfl True.intro ?_|refine zaF rfl ?_|refine zat rfl ?_|((first |refine zal rfl ?_ ?_|refine zan rfl ?_ ?_|refine zak rfl ?_ ?_|refine zam rfl ?_ ?_|refine zap rfl ?_ ?_|refine zaA rfl ?_ ?_|refine zad rfl rfl ?_ ?_|refine zae rfl rfl ?_ ?_|refine zaf rfl rfl ?_ ?_|refine zac rfl rfl ?_ ?_|refine zab rfl rfl ?_ ?_)<;>intro<;>try (first |contradiction|(exfalso;omega)))|((first |refine zaw rfl rfl ?_ ?_|refine zag rfl rfl rfl rfl ?_ ?_|refine zaM rfl rfl ?_ ?_|refine zaJ rfl ?_ ?_|refine zaG rfl rfl rfl rfl ?_ ?_);focus (first |omega|exact le_ rfl|((repeat first |rw [zay]|rw [wi6_]|rw [wi3_]|rw [zai]|rw [zah]);(repeat' refine And.intro ?_ ?_)<;>omega)|((repeat' refine And.intro ?_ ?_)<;>first |omega|rfl|exact Nat.le_refl _|exact le_ rfl|exact zaa _)|(simp_all;done)|(simp_all;omega)))|refine zaP rfl ?_|refine zaz rfl ?_|with_reducible refine ⟨by kernel_rfl, ?_⟩|refine zaQ rfl ?_|((with_reducible refine zaN ?_);(fail_if_success (refine zax true rfl rfl rfl ?_));(fail_if_success (refine zax false rfl rfl rfl ?_));refine zav rfl rfl (fun _ => ?_) (fun _ => ?_)))
  · exact zbU (iff_of_false (by simp) (by rw [zbt h0]; rintro ⟨h1, _⟩; have := h1 i (by omega); omega))
  · exact zbU (iff_of_false (by simp) (by rw [zbt h0]; rintro ⟨h1, _⟩; have := h1 i (by omega); omega))
  · refine ⟨i + 1, ⟨by omega, fun j hj => ?_⟩, by omega, ⟨rfl, rfl, rfl, rfl, trivial⟩, ⟨rfl, trivial⟩, rfl, by rw [hX]; intro k hk; cases hk⟩
    by_cases hji : j = i
    · subst hji
      exact ⟨by omega, by omega⟩
    · exact g2 j (by omega)
  · refine zbU ?_
    rw [zbt h0, decide_eq_true_iff]
    exact ⟨fun h => ⟨fun j hj => g2 j (by omega), by omega, ‹_›, ‹_›, ‹_›, h⟩, fun h => h.2.2.2.2.2⟩
  · exact zbU (iff_of_false (by simp) (by rw [zbt h0]; rintro ⟨_, _, _, _, h5, _⟩; exact absurd h5 ‹_›))
  · exact zbU (iff_of_false (by simp) (by rw [zbt h0]; rintro ⟨_, _, _, h4, _⟩; exact absurd ‹_› h4))
  · exact zbU (iff_of_false (by simp) (by rw [zbt h0]; rintro ⟨_, _, h3, _⟩; exact absurd ‹_› h3))
  · exact zbU (iff_of_false (by simp) (by rw [zbt h0]; rintro ⟨_, h2, _⟩; omega))

theorem zeZ (l : List UInt8) : l = [] ∨ ∃ r w, l = r ++ [w] := by
  rcases List.eq_nil_or_concat l with h | ⟨r, w, h⟩
  · exact .inl h
  · exact .inr ⟨r, w, by simpa using h⟩

theorem zlO (s : List UInt8) (i : Nat) (h : i < s.length) : s.take (i + 1) = s.take i ++ [s.getD i 0] := by
  rw [List.take_add_one, List.getD_eq_getElem?_getD, List.getElem?_eq_getElem h]
  rfl

theorem RightP.bounds {neg : Bool} {s : List UInt8} {e : Int} (h : RightP neg s e) : s.length ≤ 100 ∧ -1000 ≤ e ∧ e ≤ 1000 ∧ digs s := by
  unfold RightP at h
  split at h
  · rename_i h0
    exact ⟨by omega, by omega, by omega, fun i hi => by omega⟩
  · exact ⟨h.2.1, h.2.2.2.2.1, h.2.2.2.2.2, h.1⟩

abbrev tL (s : List UInt8) : List UInt8 := Lib.trimLeftB s 48
abbrev tR (s : List UInt8) : List UInt8 := Lib.trimRightB s 48

theorem zjU (r : List UInt8) : tR (r ++ [48]) = tR r := by simp [tR, Lib.trimRightB]
theorem zkF (r : List UInt8) (c : UInt8) (h : ¬ c = 48) : tR (r ++ [c]) = r ++ [c] := by simp [tR, Lib.trimRightB, h]

theorem u8_eq {c : UInt8} {n : Nat} (h : n < 256) : (c.toNat : Int) = n ↔ c = UInt8.ofNat n := zlc c n h

theorem znO (s : List UInt8) : (tL s).length ≤ s.length := by
  unfold tL Lib.trimLeftB
  induction s with
  | nil => simp
  | cons c r ih =>
    rw [List.dropWhile_cons]
    split
    · simp only [List.length_cons]
      omega
    · simp
theorem zpE (s : List UInt8) : (tR s).length ≤ s.length := by
  have := znO s.reverse
  unfold tR Lib.trimRightB
  unfold tL Lib.trimLeftB at this
  simpa using this

def normF (neg : Bool) (s : List UInt8) (e : Int) : (Bool × List UInt8 × Int) × Int :=
  if (tL (tR s)).length = 0 then ((false, [], 0), 0)
  else if 100 < (tL (tR s)).length then ((false, [], 0), 5)
  else if e + (s.length - (tR s).length) < -1000 ∨ 1000 < e + (s.length - (tR s).length) then ((false, [], 0), 8)
  else ((neg, tL (tR s), e + (s.length - (tR s).length)), 0)

abbrev dcV (x : Bool × List UInt8 × Int) : D := dcD x.1 x.2.1 x.2.2

end Go.Proofs.YtcajofhafpkbdaaGreatDoor.Flow
