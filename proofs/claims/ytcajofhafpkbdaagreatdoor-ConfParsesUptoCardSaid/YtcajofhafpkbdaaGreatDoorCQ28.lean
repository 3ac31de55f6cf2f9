/- The texts J9, J10, one behind the other. -/
import Derived.Test.YtcajofhafpkbdaaGreatDoorCQ18
import Derived.Test.YtcajofhafpkbdaaGreatDoorCQ21
import Derived.Test.YtcajofhafpkbdaaGreatDoorCQ23
namespace Go.Proofs.YtcajofhafpkbdaaGreatDoor.Flow
open Go
def rjD : JR → D
  | .inl (x, n) => .tu [.ag (jC x), .i .i64 n, .i .i64 0]
  | .inr (p, e) => .tu [.ag (jC j0), .i .i64 p, .i .i64 e]
theorem ziT : jC j0 = [.i .i64 0, .b false, .b false, .s [], .i .i64 0, .s [], .sl 8 0 (jF []), .sl 1 0 (txF [])] := by
  unfold j0
  rw [zbz]
  rfl
theorem zbu (p e : Int) : Weak (.tu [.ag j0C, .i .i64 p, .i .i64 e]) (.tu [.ag (jC j0), .i .i64 p, .i .i64 e]) := .tu3 (zbQ 0 false) (.refl _) (.refl _)
theorem zmI (k : Int) (y : Bool) (n : Int) (m : Nat) (h : n = m) : Weak (.tu [.ag (litC k y), .i .i64 n, .i .i64 0]) (rjD (.inl (litJ k y, m))) := by
  subst h
  exact .tu3 (zbQ k y) (.refl _) (.refl _)
def ErrOk (val : Nat → JR) : Prop := ∀ i p e, val i = .inr (p, e) → ¬ e = 0
theorem zcF {s : List UInt8} {i p : Nat} {e : Int} (h : jpeek s i = .inr (p, e)) : ¬ e = 0 := by
  unfold jpeek at h
  split at h <;> cases h
  decide
theorem zia {s : List UInt8} {i p : Nat} {e : Int} (h : jtext s i = .inr (p, e)) : ¬ e = 0 := by
  unfold jtext at h
  split at h
  · cases h
  · cases h
    assumption
theorem zpv {s : List UInt8} {i p : Nat} {e : Int} (h : jnum s i = .inr (p, e)) : ¬ e = 0 := by
  unfold jnum at h
  split at h
  · cases h
  · cases h
    assumption
theorem zpy {s : List UInt8} {i p : Nat} {ks : List (List UInt8)} {e : Int} (h : jkey s i ks = .inr (p, e)) : ¬ e = 0 := by
  unfold jkey at h
  cases h1 : jpeek s i with
  | inr x => rw [h1] at h; cases h; exact zcF h1
  | inl j =>
    rw [h1] at h
    dsimp only at h
    split at h
    · cases h; decide
    · cases h2 : jtext s j with
      | inr x => rw [h2] at h; cases h; exact zia h2
      | inl r =>
        obtain ⟨k, n⟩ := r
        rw [h2] at h
        dsimp only at h
        split at h
        · cases h; decide
        · cases h3 : jpeek s n with
          | inr x => rw [h3] at h; cases h; exact zcF h3
          | inl m =>
            rw [h3] at h
            dsimp only at h
            split at h <;> cases h
            decide
theorem zqR {s : List UInt8} {val : Nat → JR} (hv : ErrOk val) {mp : Bool} : ∀ (m i : Nat) (l : List J) (ks : List (List UInt8)) (p : Nat) (e : Int), s.length - i < m → jgo s val mp i l ks = .inr (p, e) → ¬ e = 0 := by
  intro m
  induction m with
  | zero => intro i l ks p e hm h; omega
  | succ m ih =>
    intro i l ks p e hm h
    rw [jgo] at h
    cases h1 : jkeys s mp i ks with
    | inr x =>
      rw [h1] at h
      cases h
      unfold jkeys at h1
      split at h1
      · cases h2 : jkey s i ks with
        | inr x => rw [h2] at h1; cases h1; exact zpy h2
        | inl r => rw [h2] at h1; cases h1
      · cases h1
    | inl r =>
      obtain ⟨ks', i1⟩ := r
      rw [h1] at h
      dsimp only at h
      cases h2 : val i1 with
      | inr x => rw [h2] at h; cases h; exact hv _ _ _ h2
      | inl r =>
        obtain ⟨y, i2⟩ := r
        rw [h2] at h
        dsimp only at h
        cases h3 : jpeek s i2 with
        | inr x => rw [h3] at h; cases h; exact zcF h3
        | inl i3 =>
          rw [h3] at h
          dsimp only at h
          split at h
          · cases h
          · split at h
            · split at h
              · exact ih _ _ _ _ _ (by omega) h
              · cases h; decide
            · cases h; decide
theorem zhZ {s : List UInt8} {val : Nat → JR} (hv : ErrOk val) {mp : Bool} {i p : Nat} {e : Int} (h : jmany s val mp i = .inr (p, e)) : ¬ e = 0 := by
  unfold jmany at h
  cases h1 : jpeek s (i + 1) with
  | inr x => rw [h1] at h; cases h; exact zcF h1
  | inl j =>
    rw [h1] at h
    dsimp only at h
    split at h
    · cases h
    · exact zqR hv _ _ _ _ _ _ (Nat.lt_succ_self _) h
theorem zhd (s : List UInt8) : ∀ d, ErrOk (jval s d) := by
  intro d
  induction d with
  | zero =>
    intro i p e h
    unfold jval at h
    cases h1 : jpeek s i with
    | inr x => rw [h1] at h; cases h; exact zcF h1
    | inl j => rw [h1] at h; cases h; decide
  | succ d ih =>
    intro i p e h
    unfold jval at h
    cases h1 : jpeek s i with
    | inr x => rw [h1] at h; cases h; exact zcF h1
    | inl j =>
      rw [h1] at h
      dsimp only at h
      unfold jword at h
      split at h
      · split at h <;> cases h
        decide
      · split at h
        · split at h <;> cases h
          decide
        · split at h
          · split at h <;> cases h
            decide
          · split at h
            · cases h2 : jtext s j with
              | inr x => rw [h2] at h; cases h; exact zia h2
              | inl r => rw [h2] at h; cases h
            · split at h
              · exact zhZ ih h
              · split at h
                · exact zhZ ih h
                · exact zpv h
theorem zaV (r : JR) : (rjD r).free = true := by
  unfold rjD
  cases r with
  | inl r =>
    obtain ⟨⟨k, y, n, d, e, t, l, ks⟩, m⟩ := r
    dsimp only
    rw [zbz]
    rfl
  | inr e =>
    obtain ⟨p, e⟩ := e
    dsimp only
    rw [ziT]
    rfl
theorem zdh {s : List UInt8} {j : Nat} {c : UInt8} {w : List UInt8} (h : Lib.hasPrefix (s.drop j) (c :: w) = true) : at' s j = c.toNat := by
  unfold Lib.hasPrefix at h
  rw [List.isPrefixOf_iff_prefix] at h
  obtain ⟨r, h⟩ := h
  show ((s.getD j 0).toNat : Int) = c.toNat
  have e : s.getD j 0 = (s.drop j).getD 0 0 := by simp [List.getD_eq_getElem?_getD]
  rw [e, ← h]
  rfl
theorem zpo (s : List UInt8) (d j : Nat) : (if at' s j = 110 then jword s j nullW j0
        else if at' s j = 116 then jword s j trueW (.mk 1 true false [] 0 [] [] [])
        else if at' s j = 102 then jword s j falseW (.mk 1 false false [] 0 [] [] [])
        else if at' s j = 34 then (match jtext s j with
          | .inl (t, n) => .inl (.mk 3 false false [] 0 t [] [], n)
          | .inr e => .inr e)
        else if at' s j = 91 then jmany s (jval s d) false j
        else if at' s j = 123 then jmany s (jval s d) true j
        else jnum s j : JR) = if at' s j = 34 then (match jtext s j with
          | .inl (t, n) => .inl (.mk 3 false false [] 0 t [] [], n)
          | .inr e => .inr e)
        else if at' s j = 91 then jmany s (jval s d) false j
        else if at' s j = 123 then jmany s (jval s d) true j
        else if Lib.hasPrefix (s.drop j) nullW = true then .inl (litJ 0 false, j + 4)
        else if Lib.hasPrefix (s.drop j) trueW = true then .inl (litJ 1 true, j + 4)
        else if Lib.hasPrefix (s.drop j) falseW = true then .inl (litJ 1 false, j + 5)
        else jnum s j := by
  have f1 : Lib.hasPrefix (s.drop j) nullW = true → at' s j = 110 := fun h => zdh h
  have f2 : Lib.hasPrefix (s.drop j) trueW = true → at' s j = 116 := fun h => zdh h
  have f3 : Lib.hasPrefix (s.drop j) falseW = true → at' s j = 102 := fun h => zdh h
  have hl := @zjb s j
  unfold jword
  by_cases b0 : at' s j = 110
  · rw [if_pos b0, if_neg (show ¬ at' s j = 34 by omega), if_neg (show ¬ at' s j = 91 by omega), if_neg (show ¬ at' s j = 123 by omega)]
    by_cases p1 : Lib.hasPrefix (s.drop j) nullW = true
    · rw [if_pos p1, if_pos p1]
      rfl
    · rw [if_neg p1, if_neg p1, if_neg (fun q => by have := f2 q; omega), if_neg (fun q => by have := f3 q; omega), hl (.inl b0)]
  by_cases b1 : at' s j = 116
  · rw [if_neg b0, if_pos b1, if_neg (show ¬ at' s j = 34 by omega), if_neg (show ¬ at' s j = 91 by omega), if_neg (show ¬ at' s j = 123 by omega), if_neg (fun q => b0 (f1 q))]
    by_cases p1 : Lib.hasPrefix (s.drop j) trueW = true
    · rw [if_pos p1, if_pos p1]
      rfl
    · rw [if_neg p1, if_neg p1, if_neg (fun q => by have := f3 q; omega), hl (.inr (.inl b1))]
  by_cases b2 : at' s j = 102
  · rw [if_neg b0, if_neg b1, if_pos b2, if_neg (show ¬ at' s j = 34 by omega), if_neg (show ¬ at' s j = 91 by omega), if_neg (show ¬ at' s j = 123 by omega), if_neg (fun q => b0 (f1 q)), if_neg (fun q => b1 (f2 q))]
    by_cases p1 : Lib.hasPrefix (s.drop j) falseW = true
    · rw [if_pos p1, if_pos p1]
      rfl
    · rw [if_neg p1, if_neg p1, hl (.inr (.inr b2))]
  rw [if_neg b0, if_neg b1, if_neg b2, if_neg (fun q => b0 (f1 q)), if_neg (fun q => b1 (f2 q)), if_neg (fun q => b2 (f3 q))]
theorem zoc {s : List UInt8} {d i j : Nat} (hj : skN s i = j) (h : j < s.length) : jval s (d + 1) i = if at' s j = 34 then (match jtext s j with
          | .inl (t, n) => .inl (.mk 3 false false [] 0 t [] [], n)
          | .inr e => .inr e)
        else if at' s j = 91 then jmany s (jval s d) false j
        else if at' s j = 123 then jmany s (jval s d) true j
        else if Lib.hasPrefix (s.drop j) nullW = true then .inl (litJ 0 false, j + 4)
        else if Lib.hasPrefix (s.drop j) trueW = true then .inl (litJ 1 true, j + 4)
        else if Lib.hasPrefix (s.drop j) falseW = true then .inl (litJ 1 false, j + 5)
        else jnum s j := by
  subst hj
  rw [← zpo]
  conv => lhs; unfold jval jpeek
  rw [if_pos h]
  rfl
theorem zhS {s : List UInt8} {d i j : Nat} (hj : skN s i = j) (h : ¬ j < s.length) : jval s d i = .inr (j, 2) := by
  subst hj
  unfold jval jpeek
  rw [if_neg h]
theorem zoB {s : List UInt8} {i j : Nat} (hj : skN s i = j) (h : j < s.length) : jval s 0 i = .inr (j, 9) := by
  subst hj
  unfold jval jpeek
  rw [if_pos h]
set_option maxRecDepth 100000 in
set_option maxHeartbeats 8000000 in
theorem znq (s : List UInt8) (hs : s.length ≤ 5000) (d : Nat) (_hd : d ≤ 100) (hmany : ∀ j, j < s.length → (at' s j = 91 → Ctr Tryz.prog 89 [.s s, .i .i64 j, .i .i64 (d + 1 : Nat)] (rjD (jmany s (jval s d) false j))) ∧ (at' s j = 123 → Ctr Tryz.prog 89 [.s s, .i .i64 j, .i .i64 (d + 1 : Nat)] (rjD (jmany s (jval s d) true j)))) (i : Nat) (hi : i ≤ s.length) :
    Ctr Tryz.prog 56 [.s s, .i .i64 i, .i .i64 (d + 1 : Nat)] (rjD (jval s (d + 1) i)) := by
  have c1 := zbF s i (by omega) hi
  have hle := zbT hi
  generalize hji : skN s i = j at *
  by_cases hj : j < s.length
  · rw [zoc hji hj]
    have w1 := zeH s nullW j (by omega) (by decide) (by omega)
    have w2 := zeH s trueW j (by omega) (by decide) (by omega)
    have w3 := zeH s falseW j (by omega) (by decide) (by omega)
    have hm := hmany j hj
    clear hmany
    by_cases b3 : at' s j = 34
    · rw [if_pos b3]
      clear w1 w2 w3 hm
      have u1 := zkA s j (by omega)
      have hn := @zff s j
      unfold jtext
      generalize unqF s j = R at *
      obtain ⟨t, n, e⟩ := R
      dsimp only at hn u1 ⊢
      by_cases h : e = 0
      · rw [if_pos h]
        have hn := hn h
        subst h
        obtain ⟨n', rfl⟩ : ∃ n' : Nat, n = n' := ⟨n.toNat, by omega⟩
        rw [Int.toNat_natCast]
        refine zay Tryz.func56 rfl Tryz.ntmps56 Tryz.results56 rfl (zaV _) fun X hL hX => ?_
        repeat' (first |refine zah (f := 57) rfl rfl Tryz.call57 rfl c1 ?_|refine zah (f := 88) rfl rfl Tryz.call88 rfl u1 ?_|with_reducible (first |refine zag ?_|refine zaa ?_|refine zaf ?_|refine zad ?_|refine zaj ?_|refine zai ?_|refine zal ?_)|refine zab rfl rfl True.intro ?_|refine zak rfl ?_|((first |refine zac rfl ?_ ?_)<;>intro<;>try (first |(exfalso;omega)))|((first |refine zab rfl rfl ?_ ?_|refine zao rfl rfl ?_ ?_|refine zar rfl ?_ ?_);focus (first |omega|((repeat' refine And.intro ?_ ?_)<;>omega)|((repeat' refine And.intro ?_ ?_)<;>first |rfl|exact Nat.le_refl _)))|refine zaB rfl ?_|fail)
        all_goals exact .tu3 (zcg 3 false false [] 0 t) (.refl _) (.refl _)
      · rw [if_neg h]
        refine zay Tryz.func56 rfl Tryz.ntmps56 Tryz.results56 rfl (zaV _) fun X hL hX => ?_
        repeat' (first |refine zah (f := 57) rfl rfl Tryz.call57 rfl c1 ?_|refine zah (f := 88) rfl rfl Tryz.call88 rfl u1 ?_|with_reducible (first |refine zag ?_|refine zaa ?_|refine zaf ?_|refine zad ?_|refine zaj ?_|refine zai ?_|refine zal ?_)|refine zab rfl rfl True.intro ?_|refine zak rfl ?_|((first |refine zac rfl ?_ ?_|refine zat rfl ?_ ?_)<;>intro<;>try (first |(exfalso;omega)))|((first |refine zab rfl rfl ?_ ?_|refine zao rfl rfl ?_ ?_|refine zar rfl ?_ ?_);focus (first |omega|((repeat' refine And.intro ?_ ?_)<;>omega)|((repeat' refine And.intro ?_ ?_)<;>first |rfl|exact Nat.le_refl _)))|refine zaB rfl ?_|fail)
        all_goals exact zbu _ _
    rw [if_neg b3]
    by_cases b4 : at' s j = 91
    · rw [if_pos b4]
      clear w1 w2 w3
      have hm := hm.1 b4
      cases h2 : jmany s (jval s d) false j with
      | inr e =>
        obtain ⟨p, e⟩ := e
        rw [h2] at hm
        unfold rjD at hm
        dsimp only at hm
        rw [ziT] at hm
        refine zay Tryz.func56 rfl Tryz.ntmps56 Tryz.results56 rfl (zaV _) fun X hL hX => ?_
        repeat' (first |refine zah (f := 57) rfl rfl Tryz.call57 rfl c1 ?_|refine zah (f := 89) rfl rfl Tryz.call89 rfl hm ?_|with_reducible (first |refine zag ?_|refine zaa ?_|refine zaf ?_|refine zad ?_|refine zaj ?_|refine zai ?_|refine zal ?_)|refine zab rfl rfl True.intro ?_|refine zau rfl rfl rfl ?_|refine zas rfl ?_|refine zak rfl ?_|((first |refine zac rfl ?_ ?_|refine zan rfl rfl ?_ ?_)<;>intro<;>try (first |(exfalso;omega)))|((first |refine zab rfl rfl ?_ ?_|refine zao rfl rfl ?_ ?_|refine zar rfl ?_ ?_);focus (first |omega|((repeat' refine And.intro ?_ ?_)<;>omega)|((repeat' refine And.intro ?_ ?_)<;>first |rfl|exact Nat.le_refl _)))|refine zaB rfl ?_|fail)
        all_goals exact .of_eq (by unfold rjD; dsimp only; rw [ziT]; rfl)
      | inl r =>
        obtain ⟨⟨xk, xy, xn, xd, xe, xt, xl, xs⟩, n⟩ := r
        rw [h2] at hm
        unfold rjD at hm
        dsimp only at hm
        rw [zbz] at hm
        refine zay Tryz.func56 rfl Tryz.ntmps56 Tryz.results56 rfl (zaV _) fun X hL hX => ?_
        repeat' (first |refine zah (f := 57) rfl rfl Tryz.call57 rfl c1 ?_|refine zah (f := 89) rfl rfl Tryz.call89 rfl hm ?_|with_reducible (first |refine zag ?_|refine zaa ?_|refine zaf ?_|refine zad ?_|refine zaj ?_|refine zai ?_|refine zal ?_)|refine zab rfl rfl True.intro ?_|refine zau rfl rfl rfl ?_|refine zas rfl ?_|refine zak rfl ?_|((first |refine zac rfl ?_ ?_|refine zan rfl rfl ?_ ?_)<;>intro<;>try (first |(exfalso;omega)))|((first |refine zab rfl rfl ?_ ?_|refine zao rfl rfl ?_ ?_|refine zar rfl ?_ ?_);focus (first |omega|((repeat' refine And.intro ?_ ?_)<;>omega)|((repeat' refine And.intro ?_ ?_)<;>first |rfl|exact Nat.le_refl _)))|refine zaB rfl ?_|fail)
        all_goals exact .of_eq (by unfold rjD; dsimp only; rw [zbz]; rfl)
    rw [if_neg b4]
    by_cases b5 : at' s j = 123
    · rw [if_pos b5]
      clear w1 w2 w3
      have hm := hm.2 b5
      cases h2 : jmany s (jval s d) true j with
      | inr e =>
        obtain ⟨p, e⟩ := e
        rw [h2] at hm
        unfold rjD at hm
        dsimp only at hm
        rw [ziT] at hm
        refine zay Tryz.func56 rfl Tryz.ntmps56 Tryz.results56 rfl (zaV _) fun X hL hX => ?_
        repeat' (first |refine zah (f := 57) rfl rfl Tryz.call57 rfl c1 ?_|refine zah (f := 89) rfl rfl Tryz.call89 rfl hm ?_|with_reducible (first |refine zag ?_|refine zaa ?_|refine zaf ?_|refine zad ?_|refine zaj ?_|refine zai ?_|refine zal ?_)|refine zab rfl rfl True.intro ?_|refine zam rfl rfl rfl rfl True.intro ?_|refine zak rfl ?_|((first |refine zac rfl ?_ ?_|refine zan rfl rfl ?_ ?_)<;>intro<;>try (first |(exfalso;omega)))|((first |refine zab rfl rfl ?_ ?_|refine zao rfl rfl ?_ ?_|refine zar rfl ?_ ?_);focus (first |omega|((repeat' refine And.intro ?_ ?_)<;>omega)|((repeat' refine And.intro ?_ ?_)<;>first |rfl|exact Nat.le_refl _)))|refine zaB rfl ?_|fail)
        all_goals exact .of_eq (by unfold rjD; dsimp only; rw [ziT]; rfl)
      | inl r =>
        obtain ⟨⟨xk, xy, xn, xd, xe, xt, xl, xs⟩, n⟩ := r
        rw [h2] at hm
        unfold rjD at hm
        dsimp only at hm
        rw [zbz] at hm
        refine zay Tryz.func56 rfl Tryz.ntmps56 Tryz.results56 rfl (zaV _) fun X hL hX => ?_
        repeat' (first |refine zah (f := 57) rfl rfl Tryz.call57 rfl c1 ?_|refine zah (f := 89) rfl rfl Tryz.call89 rfl hm ?_|with_reducible (first |refine zag ?_|refine zaa ?_|refine zaf ?_|refine zad ?_|refine zaj ?_|refine zai ?_|refine zal ?_)|refine zab rfl rfl True.intro ?_|refine zam rfl rfl rfl rfl True.intro ?_|refine zak rfl ?_|((first |refine zac rfl ?_ ?_|refine zan rfl rfl ?_ ?_)<;>intro<;>try (first |(exfalso;omega)))|((first |refine zab rfl rfl ?_ ?_|refine zao rfl rfl ?_ ?_|refine zar rfl ?_ ?_);focus (first |omega|((repeat' refine And.intro ?_ ?_)<;>omega)|((repeat' refine And.intro ?_ ?_)<;>first |rfl|exact Nat.le_refl _)))|refine zaB rfl ?_|fail)
        all_goals exact .of_eq (by unfold rjD; dsimp only; rw [zbz]; rfl)
    rw [if_neg b5]
    clear hm
    have c4 : Ctr Tryz.prog 91 [.s (List.drop (j : Int).toNat (List.take (s.length : Int).toNat s))] (.tu [dcV (parseG powP (s.drop j)).1, .i .i64 (parseG powP (s.drop j)).2.1, .i .i64 (parseG powP (s.drop j)).2.2]) := by
      rw [zhn, zlB _ (by rw [List.length_drop]; omega)]
      exact zmn _ (by rw [List.length_drop]; omega)
    have hn := zgY powP (s.drop j)
    rw [List.length_drop] at hn
    unfold jnum
    generalize parseG powP (s.drop j) = R at *
    obtain ⟨⟨ng, dg, ex⟩, n, e⟩ := R
    dsimp only at hn c4 ⊢
    cases p1 : Lib.hasPrefix (s.drop j) nullW with
    | true =>
      rw [p1] at w1
      rw [if_pos rfl]
      refine zay Tryz.func56 rfl Tryz.ntmps56 Tryz.results56 rfl (zaV _) fun X hL hX => ?_
      repeat' (first |refine zah (f := 57) rfl rfl Tryz.call57 rfl c1 ?_|refine zah (f := 90) rfl rfl Tryz.call90 rfl w1 ?_|with_reducible (first |refine zag ?_|refine zaa ?_|refine zaf ?_|refine zad ?_|refine zaj ?_|refine zai ?_|refine zal ?_)|refine zab rfl rfl True.intro ?_|refine zam rfl rfl rfl rfl True.intro ?_|refine zas rfl ?_|refine zak rfl ?_|((first |refine zac rfl ?_ ?_|refine zan rfl rfl ?_ ?_)<;>intro<;>try (first |(exfalso;omega)))|((first |refine zab rfl rfl ?_ ?_|refine zao rfl rfl ?_ ?_|refine zar rfl ?_ ?_);focus (first |omega|((repeat' refine And.intro ?_ ?_)<;>omega)|((repeat' refine And.intro ?_ ?_)<;>first |rfl|exact Nat.le_refl _)))|refine zaB rfl ?_|fail)
      all_goals exact zmI 0 false _ _ (by omega)
    | false =>
      rw [p1] at w1
      rw [if_neg Bool.false_ne_true]
      cases p2 : Lib.hasPrefix (s.drop j) trueW with
      | true =>
        rw [p2] at w2
        rw [if_pos rfl]
        refine zay Tryz.func56 rfl Tryz.ntmps56 Tryz.results56 rfl (zaV _) fun X hL hX => ?_
        repeat' (first |refine zah (f := 57) rfl rfl Tryz.call57 rfl c1 ?_|refine zah (f := 90) rfl rfl Tryz.call90 rfl w1 ?_|refine zah (f := 90) rfl rfl Tryz.call90 rfl w2 ?_|with_reducible (first |refine zag ?_|refine zaa ?_|refine zaf ?_|refine zad ?_|refine zaj ?_|refine zai ?_|refine zal ?_)|refine zab rfl rfl True.intro ?_|refine zam rfl rfl rfl rfl True.intro ?_|refine zas rfl ?_|refine zak rfl ?_|((first |refine zac rfl ?_ ?_|refine zan rfl rfl ?_ ?_)<;>intro<;>try (first |(exfalso;omega)))|((first |refine zab rfl rfl ?_ ?_|refine zao rfl rfl ?_ ?_|refine zar rfl ?_ ?_);focus (first |omega|((repeat' refine And.intro ?_ ?_)<;>omega)|((repeat' refine And.intro ?_ ?_)<;>first |rfl|exact Nat.le_refl _)))|refine zaB rfl ?_|fail)
        all_goals exact zmI 1 true _ _ (by omega)
      | false =>
        rw [p2] at w2
        rw [if_neg Bool.false_ne_true]
        cases p3 : Lib.hasPrefix (s.drop j) falseW with
        | true =>
          rw [p3] at w3
          rw [if_pos rfl]
          refine zay Tryz.func56 rfl Tryz.ntmps56 Tryz.results56 rfl (zaV _) fun X hL hX => ?_
          repeat' (first |refine zah (f := 57) rfl rfl Tryz.call57 rfl c1 ?_|refine zah (f := 90) rfl rfl Tryz.call90 rfl w1 ?_|refine zah (f := 90) rfl rfl Tryz.call90 rfl w2 ?_|refine zah (f := 90) rfl rfl Tryz.call90 rfl w3 ?_|with_reducible (first |refine zag ?_|refine zaa ?_|refine zaf ?_|refine zad ?_|refine zaj ?_|refine zai ?_|refine zal ?_)|refine zab rfl rfl True.intro ?_|refine zam rfl rfl rfl rfl True.intro ?_|refine zas rfl ?_|refine zak rfl ?_|((first |refine zac rfl ?_ ?_|refine zan rfl rfl ?_ ?_)<;>intro<;>try (first |(exfalso;omega)))|((first |refine zab rfl rfl ?_ ?_|refine zao rfl rfl ?_ ?_|refine zar rfl ?_ ?_);focus (first |omega|((repeat' refine And.intro ?_ ?_)<;>omega)|((repeat' refine And.intro ?_ ?_)<;>first |rfl|exact Nat.le_refl _)))|refine zaB rfl ?_|fail)
          all_goals exact zmI 1 false _ _ (by omega)
        | false =>
          rw [p3] at w3
          rw [if_neg Bool.false_ne_true]
          by_cases h : e = 0
          · rw [if_pos h]
            have hn := hn h
            subst h
            refine zay Tryz.func56 rfl Tryz.ntmps56 Tryz.results56 rfl (zaV _) fun X hL hX => ?_
            repeat' (first |refine zah (f := 57) rfl rfl Tryz.call57 rfl c1 ?_|refine zah (f := 90) rfl rfl Tryz.call90 rfl w1 ?_|refine zah (f := 90) rfl rfl Tryz.call90 rfl w2 ?_|refine zah (f := 90) rfl rfl Tryz.call90 rfl w3 ?_|refine zah (f := 91) rfl rfl Tryz.call91 rfl c4 ?_|with_reducible (first |refine zag ?_|refine zaa ?_|refine zaf ?_|refine zad ?_|refine zaj ?_|refine zai ?_)|refine zab rfl rfl True.intro ?_|refine zam rfl rfl rfl rfl True.intro ?_|refine zak rfl ?_|((first |refine zac rfl ?_ ?_|refine zan rfl rfl ?_ ?_)<;>intro<;>try (first |(exfalso;omega)))|((first |refine zab rfl rfl ?_ ?_|refine zao rfl rfl ?_ ?_|refine zar rfl ?_ ?_);focus (first |omega|exact le_ rfl|((repeat' refine And.intro ?_ ?_)<;>omega)|((repeat' refine And.intro ?_ ?_)<;>first |rfl|exact Nat.le_refl _)))|refine zaB rfl ?_|fail)
            all_goals exact .tu3 (zkp (ng, dg, ex)) (.of_eq (congrArg (D.i .i64) (by omega))) (.refl _)
          · rw [if_neg h]
            refine zay Tryz.func56 rfl Tryz.ntmps56 Tryz.results56 rfl (zaV _) fun X hL hX => ?_
            repeat' (first |refine zah (f := 57) rfl rfl Tryz.call57 rfl c1 ?_|refine zah (f := 90) rfl rfl Tryz.call90 rfl w1 ?_|refine zah (f := 90) rfl rfl Tryz.call90 rfl w2 ?_|refine zah (f := 90) rfl rfl Tryz.call90 rfl w3 ?_|refine zah (f := 91) rfl rfl Tryz.call91 rfl c4 ?_|with_reducible (first |refine zag ?_|refine zaa ?_|refine zaf ?_|refine zad ?_|refine zaj ?_|refine zai ?_|refine zal ?_)|refine zab rfl rfl True.intro ?_|refine zam rfl rfl rfl rfl True.intro ?_|refine zak rfl ?_|((first |refine zac rfl ?_ ?_|refine zat rfl ?_ ?_|refine zan rfl rfl ?_ ?_)<;>intro<;>try (first |(exfalso;omega)))|((first |refine zab rfl rfl ?_ ?_|refine zao rfl rfl ?_ ?_|refine zar rfl ?_ ?_);focus (first |omega|((repeat' refine And.intro ?_ ?_)<;>omega)|((repeat' refine And.intro ?_ ?_)<;>first |rfl|exact Nat.le_refl _)))|refine zaB rfl ?_|fail)
            all_goals exact zbu _ _
  · rw [zhS hji hj]
    refine zay Tryz.func56 rfl Tryz.ntmps56 Tryz.results56 rfl (zaV _) fun X hL hX => ?_
    repeat' (first |refine zah (f := 57) rfl rfl Tryz.call57 rfl c1 ?_|with_reducible (first |refine zag ?_|refine zaa ?_|refine zaf ?_|refine zad ?_|refine zaj ?_|refine zal ?_)|refine zab rfl rfl True.intro ?_|((first |refine zac rfl ?_ ?_)<;>intro<;>try (first |(exfalso;omega)))|((first |refine zao rfl rfl ?_ ?_|refine zar rfl ?_ ?_);focus (first |((repeat' refine And.intro ?_ ?_)<;>omega)|((repeat' refine And.intro ?_ ?_)<;>first |rfl|exact Nat.le_refl _)))|refine zaB rfl ?_|fail)
    all_goals exact zbu _ _
set_option maxRecDepth 100000 in
set_option maxHeartbeats 8000000 in
theorem zjX (s : List UInt8) (hs : s.length ≤ 5000) (i : Nat) (hi : i ≤ s.length) :
    Ctr Tryz.prog 56 [.s s, .i .i64 i, .i .i64 0] (rjD (jval s 0 i)) := by
  have c1 := zbF s i (by omega) hi
  have hle := zbT hi
  generalize hji : skN s i = j at *
  by_cases hj : j < s.length
  · rw [zoB hji hj]
    refine zay Tryz.func56 rfl Tryz.ntmps56 Tryz.results56 rfl (zaV _) fun X hL hX => ?_
    repeat' (first |refine zah (f := 57) rfl rfl Tryz.call57 rfl c1 ?_|with_reducible (first |refine zag ?_|refine zaa ?_|refine zaf ?_|refine zad ?_|refine zaj ?_|refine zai ?_|refine zal ?_)|refine zab rfl rfl True.intro ?_|refine zas rfl ?_|((first |refine zac rfl ?_ ?_)<;>intro<;>try (first |(exfalso;omega)))|((first |refine zao rfl rfl ?_ ?_|refine zar rfl ?_ ?_);focus (first |((repeat' refine And.intro ?_ ?_)<;>omega)|((repeat' refine And.intro ?_ ?_)<;>first |rfl|exact Nat.le_refl _)))|refine zaB rfl ?_|fail)
    all_goals exact zbu _ _
  · rw [zhS hji hj]
    refine zay Tryz.func56 rfl Tryz.ntmps56 Tryz.results56 rfl (zaV _) fun X hL hX => ?_
    repeat' (first |refine zah (f := 57) rfl rfl Tryz.call57 rfl c1 ?_|with_reducible (first |refine zag ?_|refine zaa ?_|refine zaf ?_|refine zad ?_|refine zaj ?_|refine zal ?_)|refine zab rfl rfl True.intro ?_|((first |refine zac rfl ?_ ?_)<;>intro<;>try (first |(exfalso;omega)))|((first |refine zao rfl rfl ?_ ?_|refine zar rfl ?_ ?_);focus (first |((repeat' refine And.intro ?_ ?_)<;>omega)|((repeat' refine And.intro ?_ ?_)<;>first |rfl|exact Nat.le_refl _)))|refine zaB rfl ?_|fail)
    all_goals exact zbu _ _

theorem zlD {s : List UInt8} {i j : Nat} {ks : List (List UInt8)} (hj : skN s i = j) (h : ¬ j < s.length) : jkey s i ks = .inr (j, 2) := by
  subst hj
  unfold jkey jpeek
  rw [if_neg h]
theorem zlx {s : List UInt8} {i j : Nat} {ks : List (List UInt8)} (hj : skN s i = j) (h : j < s.length) (h2 : ¬ at' s j = 34) : jkey s i ks = .inr (j, 3) := by
  subst hj
  unfold jkey jpeek
  rw [if_pos h]
  dsimp only
  rw [if_pos h2]
theorem zoz {s : List UInt8} {i j : Nat} {ks : List (List UInt8)} {k : List UInt8} {n e : Int} (hj : skN s i = j) (h : j < s.length) (h2 : at' s j = 34) (hu : unqF s j = (k, n, e)) (he : ¬ e = 0) : jkey s i ks = .inr (j, e) := by
  subst hj
  unfold jkey jpeek jtext
  rw [if_pos h]
  dsimp only
  rw [if_neg (fun q => q h2), hu]
  dsimp only
  rw [if_neg he]
theorem zne {s : List UInt8} {i j : Nat} {ks : List (List UInt8)} {k : List UInt8} {n : Nat} (hj : skN s i = j) (h : j < s.length) (h2 : at' s j = 34) (hu : unqF s j = (k, (n : Int), 0)) : jkey s i ks = if k ∈ ks then .inr (j, 3) else
      match jpeek s n with
      | .inr e => .inr e
      | .inl m => if ¬ at' s m = 58 then .inr (m, 3) else .inl (k, m + 1) := by
  subst hj
  conv => lhs; unfold jkey
  conv => lhs; unfold jpeek jtext
  rw [if_pos h]
  dsimp only
  rw [if_neg (fun q => q h2), hu]
  dsimp only
  rw [if_pos rfl, Int.toNat_natCast]
  rfl
set_option maxRecDepth 100000 in
set_option maxHeartbeats 16000000 in
theorem zjL (s : List UInt8) (val : Nat → JR) (d : Nat) (hs : s.length ≤ 5000) (hd : d ≤ 100) (hv : ValOk s val) (he : ErrOk val) (hval : ∀ i, i ≤ s.length → Ctr Tryz.prog 56 [.s s, .i .i64 i, .i .i64 d] (rjD (val i))) (i : Nat) (hi : i < s.length) (hst : at' s i = 91) :
    Ctr Tryz.prog 89 [.s s, .i .i64 i, .i .i64 (d + 1 : Nat)] (rjD (jmany s val false i)) := by
  have hd1 : ((d + 1 : Nat) : Int) - 1 = d := by omega
  have c0 : Ctr Tryz.prog 57 [.s s, .i .i64 ((i : Int) + 1)] (.i .i64 (skN s (i + 1))) := zbF s (i + 1) (by omega) hi
  have hle := zbT (s := s) (i := i + 1) hi
  unfold jmany jpeek
  generalize hji : skN s (i + 1) = j at *
  by_cases hj : j < s.length
  · rw [if_pos hj]
    dsimp only
    by_cases he0 : at' s j = endM false
    · rw [if_pos he0]
      have he' : at' s j = 93 := he0
      refine zay Tryz.func89 rfl Tryz.ntmps89 Tryz.results89 rfl (zaV _) fun X hL hX => ?_
      repeat' (first |refine zcV (t := 38) rfl rfl (le_ rfl) ?_|refine zah (f := 57) rfl rfl Tryz.call57 rfl c0 ?_|with_reducible (first |refine zag ?_|refine zaa ?_|refine zaf ?_|refine zad ?_|refine zaj ?_|refine zai ?_|refine zal ?_)|refine zab rfl rfl True.intro ?_|((first |refine zac rfl ?_ ?_)<;>intro<;>try (first |(exfalso;omega)))|((first |refine zab rfl rfl ?_ ?_|refine zao rfl rfl ?_ ?_|refine zar rfl ?_ ?_);focus (first |omega|((repeat' refine And.intro ?_ ?_)<;>omega)|((repeat' refine And.intro ?_ ?_)<;>first |rfl|exact Nat.le_refl _)))|refine zaB rfl ?_|fail)
      all_goals exact .tu3 (zbQ (kindM false) false) (.of_eq (congrArg (D.i .i64) (by omega))) (.refl _)
    · rw [if_neg he0]
      have he' : ¬ at' s j = 93 := he0
      refine zay Tryz.func89 rfl Tryz.ntmps89 Tryz.results89 rfl (zaV _) fun X hL hX => ?_
      repeat' (first |refine zah (f := 57) rfl rfl Tryz.call57 rfl c0 ?_|with_reducible (first |refine zag ?_|refine zaa ?_|refine zaf ?_|refine zad ?_|refine zai ?_|refine zae ?_)|refine zab rfl rfl True.intro ?_|((first |refine zac rfl ?_ ?_)<;>intro<;>try (first |(exfalso;omega)))|((first |refine zab rfl rfl ?_ ?_|refine zao rfl rfl ?_ ?_|refine zar rfl ?_ ?_);focus (first |omega|((repeat' refine And.intro ?_ ?_)<;>omega)|((repeat' refine And.intro ?_ ?_)<;>first |rfl|exact Nat.le_refl _)))|fail)
      refine T.adoptV 9 6 100 55 8 _ (jF []) rfl rfl rfl ?_
      refine T.adoptV 9 7 101 9 1 _ (txF []) rfl rfl rfl ?_
      refine T.loop hL (fun x : Nat × List J × List (List UInt8) => [(0, .s s), (1, .i .i64 (x.1 : Nat)), (2, .i .i64 (d + 1 : Nat)), (6, .pv 6 0), (7, .i .i64 0), (8, .i .i64 0), (9, .pv 9 0), (10, .i .u8 (endM false))]) (fun x => [(6, .var j0C), (9, .var [.i .i64 (kindM false), .b false, .b false, .s [], .i .i64 0, .s [], .gs 100 8 (x.2.1).length (jF (x.2.1)), .gs 101 1 (x.2.2).length (txF (x.2.2))]), (100, .row 55 8 (x.2.1).length), (101, .row 9 1 (x.2.2).length)])
        (fun x => x.1 ≤ s.length ∧ jgo s val false j [] [] = jgo s val false x.1 x.2.1 x.2.2 ∧ x.2.1.length ≤ x.1 ∧ x.2.2.length ≤ x.1) (fun x => s.length - x.1) (j, [], []) ⟨by omega, rfl, Nat.zero_le _, Nat.zero_le _⟩
        ⟨⟨rfl, rfl, rfl, rfl, rfl, rfl, rfl, rfl, trivial⟩, ⟨rfl, rfl, rfl, rfl, trivial⟩, rfl, fun q hq => by rw [hX] at hq; cases hq⟩ ?_
      clear hst c0 hle hi
      rintro ⟨i, l, ks⟩ ⟨hi, hI, hl, hks⟩
      dsimp only at hi hI hl hks ⊢
      rw [hI, zdJ hv hi]
      clear hI
      unfold jkeys
      rw [if_neg Bool.false_ne_true]
      dsimp only
      have q1 : i ≤ i ∧ i ≤ s.length := ⟨Nat.le_refl _, hi⟩
      have v1 := hval i q1.2
      rw [← hd1] at v1
      have q2 := hv i
      have q3 := he i
      clear hval hv he
      cases h2 : val i with
      | inr e =>
        obtain ⟨p, e⟩ := e
        have q3 := q3 p e h2
        rw [h2] at v1
        unfold rjD at v1
        dsimp only at v1
        rw [ziT] at v1
        replace v1 : Ctr Tryz.prog 56 [.s s, .i .i64 (i : Int), .i .i64 (((d + 1 : Nat) : Int) - 1)] _ := v1
        repeat' (first |refine zah (f := 56) rfl rfl Tryz.call56 rfl v1 ?_|with_reducible (first |refine zag ?_|refine zaa ?_|refine zaf ?_|refine zad ?_|refine zaj ?_|refine zai ?_|refine zae ?_|refine zal ?_|refine zap ?_)|refine zab rfl rfl True.intro ?_|refine zak rfl ?_|((first |refine zat rfl ?_ ?_)<;>intro<;>try (first |(exfalso;omega)))|((first |refine zab rfl rfl ?_ ?_|refine zao rfl rfl ?_ ?_|refine zar rfl ?_ ?_);focus (first |omega|exact le_ rfl|((repeat' refine And.intro ?_ ?_)<;>omega)|((repeat' refine And.intro ?_ ?_)<;>first |rfl|exact Nat.le_refl _)))|refine zaB rfl ?_|fail)
        all_goals exact zbu _ _
      | inl r =>
        obtain ⟨x, i2⟩ := r
        have q2 := q2 x i2 q1.2 h2
        rw [h2] at v1
        obtain ⟨xk, xy, xn, xd, xe, xt, xl, xs⟩ := x
        unfold rjD at v1
        dsimp only at v1
        rw [zbz] at v1
        replace v1 : Ctr Tryz.prog 56 [.s s, .i .i64 (i : Int), .i .i64 (((d + 1 : Nat) : Int) - 1)] _ := v1
        have e2 := zdI l (.mk xk xy xn xd xe xt xl xs) (chunk 8 [.i .i64 xk, .b xy, .b xn, .s xd, .i .i64 xe, .s xt, .sl 8 xl.length (jF xl), .sl 1 xs.length (txF xs)]) (by rw [zbz]; rfl)
        generalize hX2 : J.mk xk xy xn xd xe xt xl xs = x at *
        have hl1 : (l ++ [x]).length = l.length + 1 := by simp
        clear h2 hX2 q3
        dsimp only
        have c3 := zbF s i2 (by omega) q2.2
        have hle3 := zbT (s := s) (i := i2) q2.2
        try unfold jpeek
        generalize skN s i2 = i3 at *
        by_cases h3 : i3 < s.length
        rotate_left
        · rw [if_neg h3]
          repeat' (first |refine zah (f := 56) rfl rfl Tryz.call56 rfl v1 ?_|refine zah (f := 57) rfl rfl Tryz.call57 rfl c3 ?_|with_reducible (first |refine zag ?_|refine zaa ?_|refine zaf ?_|refine zad ?_|refine zaj ?_|refine zai ?_|refine zae ?_|refine zal ?_|refine zap ?_)|refine zab rfl rfl True.intro ?_|refine zak rfl ?_|((first |refine zac rfl ?_ ?_)<;>intro<;>try (first |(exfalso;omega)))|((first |refine zab rfl rfl ?_ ?_|refine zao rfl rfl ?_ ?_|refine zar rfl ?_ ?_);focus (first |omega|exact le_ rfl|((repeat' refine And.intro ?_ ?_)<;>omega)|((repeat' refine And.intro ?_ ?_)<;>first |omega|rfl|exact Nat.le_refl _|exact le_ rfl)))|refine zaB rfl ?_|fail)
          all_goals exact zbu _ _
        rw [if_pos h3]
        dsimp only
        by_cases hen : at' s i3 = endM false
        · rw [if_pos hen]
          have hen' : at' s i3 = 93 := hen
          repeat' (first |refine zcV (t := 135) rfl rfl (le_ rfl) ?_|refine zah (f := 56) rfl rfl Tryz.call56 rfl v1 ?_|refine zah (f := 57) rfl rfl Tryz.call57 rfl c3 ?_|with_reducible (first |refine zag ?_|refine zaa ?_|refine zaf ?_|refine zad ?_|refine zaj ?_|refine zai ?_|refine zae ?_|refine zal ?_|refine zap ?_)|refine zab rfl rfl True.intro ?_|refine zak rfl ?_|((first |refine zac rfl ?_ ?_)<;>intro<;>try (first |(exfalso;omega)))|((first |refine zab rfl rfl ?_ ?_|refine zao rfl rfl ?_ ?_|refine zar rfl ?_ ?_);focus (first |omega|exact le_ rfl|((repeat' refine And.intro ?_ ?_)<;>omega)|((repeat' refine And.intro ?_ ?_)<;>first |omega|rfl|exact Nat.le_refl _|exact le_ rfl)))|refine zaB rfl ?_|fail)
          all_goals exact .of_eq (by
            unfold rjD manyV
            dsimp only
            rw [zbz, hl1, ← e2]
            rfl)
        · rw [if_neg hen]
          have hen' : ¬ at' s i3 = 93 := hen
          by_cases hcm : at' s i3 = 44
          · rw [if_pos hcm]
            repeat' (first |refine zah (f := 56) rfl rfl Tryz.call56 rfl v1 ?_|refine zah (f := 57) rfl rfl Tryz.call57 rfl c3 ?_|with_reducible (first |refine zag ?_|refine zaa ?_|refine zaf ?_|refine zad ?_|refine zai ?_|refine zae ?_|refine zaq ?_)|refine zab rfl rfl True.intro ?_|refine zak rfl ?_|((first |refine zac rfl ?_ ?_|refine zat rfl ?_ ?_)<;>intro<;>try (first |(exfalso;omega)))|((first |refine zab rfl rfl ?_ ?_|refine zao rfl rfl ?_ ?_|refine zar rfl ?_ ?_);focus (first |omega|exact le_ rfl|((repeat' refine And.intro ?_ ?_)<;>omega)|((repeat' refine And.intro ?_ ?_)<;>first |omega|rfl|exact Nat.le_refl _|exact le_ rfl)))|fail)
            all_goals exact ⟨(i3 + 1, l ++ [x], ks), ⟨by dsimp only; omega, rfl, by dsimp only; omega, by dsimp only; omega⟩, by dsimp only; omega, ⟨rfl, rfl, rfl, rfl, rfl, rfl, rfl, rfl, trivial⟩, ⟨rfl, (by rw [hl1, ← e2]; rfl), (by rw [hl1]; rfl), (by rfl), trivial⟩, rfl, fun q hq => by rw [hX] at hq; cases hq⟩
          · rw [if_neg hcm]
            repeat' (first |refine zah (f := 56) rfl rfl Tryz.call56 rfl v1 ?_|refine zah (f := 57) rfl rfl Tryz.call57 rfl c3 ?_|with_reducible (first |refine zag ?_|refine zaa ?_|refine zaf ?_|refine zad ?_|refine zaj ?_|refine zai ?_|refine zae ?_|refine zal ?_|refine zap ?_)|refine zab rfl rfl True.intro ?_|refine zak rfl ?_|((first |refine zac rfl ?_ ?_|refine zat rfl ?_ ?_)<;>intro<;>try (first |(exfalso;omega)))|((first |refine zab rfl rfl ?_ ?_|refine zao rfl rfl ?_ ?_|refine zar rfl ?_ ?_);focus (first |omega|exact le_ rfl|((repeat' refine And.intro ?_ ?_)<;>omega)|((repeat' refine And.intro ?_ ?_)<;>first |omega|rfl|exact Nat.le_refl _|exact le_ rfl)))|refine zaB rfl ?_|fail)
            all_goals exact zbu _ _
  · rw [if_neg hj]
    refine zay Tryz.func89 rfl Tryz.ntmps89 Tryz.results89 rfl (zaV _) fun X hL hX => ?_
    repeat' (first |refine zah (f := 57) rfl rfl Tryz.call57 rfl c0 ?_|with_reducible (first |refine zag ?_|refine zaa ?_|refine zaf ?_|refine zad ?_|refine zaj ?_|refine zai ?_|refine zal ?_)|refine zab rfl rfl True.intro ?_|((first |refine zac rfl ?_ ?_)<;>intro<;>try (first |(exfalso;omega)))|((first |refine zab rfl rfl ?_ ?_|refine zao rfl rfl ?_ ?_|refine zar rfl ?_ ?_);focus (first |omega|((repeat' refine And.intro ?_ ?_)<;>omega)|((repeat' refine And.intro ?_ ?_)<;>first |rfl|exact Nat.le_refl _)))|refine zaB rfl ?_|fail)
    all_goals exact zbu _ _
set_option maxRecDepth 100000 in
set_option maxHeartbeats 16000000 in
theorem zlJ (s : List UInt8) (val : Nat → JR) (d : Nat) (hs : s.length ≤ 5000) (hd : d ≤ 100) (hv : ValOk s val) (he : ErrOk val) (hval : ∀ i, i ≤ s.length → Ctr Tryz.prog 56 [.s s, .i .i64 i, .i .i64 d] (rjD (val i))) (i : Nat) (hi : i < s.length) (hst : at' s i = 123) :
    Ctr Tryz.prog 89 [.s s, .i .i64 i, .i .i64 (d + 1 : Nat)] (rjD (jmany s val true i)) := by
  have hd1 : ((d + 1 : Nat) : Int) - 1 = d := by omega
  have c0 : Ctr Tryz.prog 57 [.s s, .i .i64 ((i : Int) + 1)] (.i .i64 (skN s (i + 1))) := zbF s (i + 1) (by omega) hi
  have hle := zbT (s := s) (i := i + 1) hi
  unfold jmany jpeek
  generalize hji : skN s (i + 1) = j at *
  by_cases hj : j < s.length
  · rw [if_pos hj]
    dsimp only
    by_cases he0 : at' s j = endM true
    · rw [if_pos he0]
      have he' : at' s j = 125 := he0
      refine zay Tryz.func89 rfl Tryz.ntmps89 Tryz.results89 rfl (zaV _) fun X hL hX => ?_
      repeat' (first |refine zcV (t := 38) rfl rfl (le_ rfl) ?_|refine zah (f := 57) rfl rfl Tryz.call57 rfl c0 ?_|with_reducible (first |refine zag ?_|refine zaa ?_|refine zaf ?_|refine zad ?_|refine zaj ?_|refine zai ?_|refine zal ?_)|refine zab rfl rfl True.intro ?_|((first |refine zac rfl ?_ ?_)<;>intro<;>try (first |(exfalso;omega)))|((first |refine zab rfl rfl ?_ ?_|refine zao rfl rfl ?_ ?_|refine zar rfl ?_ ?_);focus (first |omega|((repeat' refine And.intro ?_ ?_)<;>omega)|((repeat' refine And.intro ?_ ?_)<;>first |rfl|exact Nat.le_refl _|exact le_ rfl)))|refine zaB rfl ?_|fail)
      all_goals exact .tu3 (zbQ (kindM true) false) (.of_eq (congrArg (D.i .i64) (by omega))) (.refl _)
    · rw [if_neg he0]
      have he' : ¬ at' s j = 125 := he0
      refine zay Tryz.func89 rfl Tryz.ntmps89 Tryz.results89 rfl (zaV _) fun X hL hX => ?_
      repeat' (first |refine zah (f := 57) rfl rfl Tryz.call57 rfl c0 ?_|with_reducible (first |refine zag ?_|refine zaa ?_|refine zaf ?_|refine zad ?_|refine zai ?_|refine zae ?_)|refine zab rfl rfl True.intro ?_|((first |refine zac rfl ?_ ?_)<;>intro<;>try (first |(exfalso;omega)))|((first |refine zab rfl rfl ?_ ?_|refine zao rfl rfl ?_ ?_|refine zar rfl ?_ ?_);focus (first |omega|((repeat' refine And.intro ?_ ?_)<;>omega)|((repeat' refine And.intro ?_ ?_)<;>first |rfl|exact Nat.le_refl _|exact le_ rfl)))|fail)
      refine T.adoptV 9 6 100 55 8 _ (jF []) rfl rfl rfl ?_
      refine T.adoptV 9 7 101 9 1 _ (txF []) rfl rfl rfl ?_
      refine T.loop hL (fun x : Nat × List J × List (List UInt8) => [(0, .s s), (1, .i .i64 (x.1 : Nat)), (2, .i .i64 (d + 1 : Nat)), (6, .pv 6 0), (7, .i .i64 0), (8, .i .i64 0), (9, .pv 9 0), (10, .i .u8 (endM true))]) (fun x => [(6, .var j0C), (9, .var [.i .i64 (kindM true), .b false, .b false, .s [], .i .i64 0, .s [], .gs 100 8 (x.2.1).length (jF (x.2.1)), .gs 101 1 (x.2.2).length (txF (x.2.2))]), (100, .row 55 8 (x.2.1).length), (101, .row 9 1 (x.2.2).length)])
        (fun x => x.1 ≤ s.length ∧ jgo s val true j [] [] = jgo s val true x.1 x.2.1 x.2.2 ∧ x.2.1.length ≤ x.1 ∧ x.2.2.length ≤ x.1) (fun x => s.length - x.1) (j, [], []) ⟨by omega, rfl, Nat.zero_le _, Nat.zero_le _⟩
        ⟨⟨rfl, rfl, rfl, rfl, rfl, rfl, rfl, rfl, trivial⟩, ⟨rfl, rfl, rfl, rfl, trivial⟩, rfl, fun q hq => by rw [hX] at hq; cases hq⟩ ?_
      clear hst c0 hle hi
      rintro ⟨i, l, ks⟩ ⟨hi, hI, hl, hks⟩
      dsimp only at hi hI hl hks ⊢
      rw [hI, zdJ hv hi]
      clear hI
      unfold jkeys
      rw [if_pos rfl]
      have c1 := zbF s i (by omega) hi
      have hle := zbT (s := s) (i := i) hi
      generalize hji : skN s i = j at *
      by_cases hj : j < s.length
      rotate_left
      · rw [zlD hji hj]
        repeat' (first |refine zah (f := 57) rfl rfl Tryz.call57 rfl c1 ?_|with_reducible (first |refine zag ?_|refine zaa ?_|refine zaf ?_|refine zad ?_|refine zaj ?_|refine zae ?_|refine zal ?_|refine zap ?_)|refine zab rfl rfl True.intro ?_|refine zas rfl ?_|((first |refine zac rfl ?_ ?_)<;>intro<;>try (first |(exfalso;omega)))|((first |refine zab rfl rfl ?_ ?_|refine zar rfl ?_ ?_);focus (first |exact le_ rfl|((repeat' refine And.intro ?_ ?_)<;>omega)|((repeat' refine And.intro ?_ ?_)<;>first |rfl|exact Nat.le_refl _)))|refine zaB rfl ?_|fail)
        all_goals exact zbu _ _
      by_cases hq : at' s j = 34
      rotate_left
      · rw [zlx hji hj hq]
        repeat' (first |refine zah (f := 57) rfl rfl Tryz.call57 rfl c1 ?_|with_reducible (first |refine zag ?_|refine zaa ?_|refine zaf ?_|refine zad ?_|refine zaj ?_|refine zai ?_|refine zae ?_|refine zal ?_|refine zap ?_)|refine zab rfl rfl True.intro ?_|refine zas rfl ?_|((first |refine zac rfl ?_ ?_|refine zat rfl ?_ ?_)<;>intro<;>try (first |(exfalso;omega)))|((first |refine zab rfl rfl ?_ ?_|refine zar rfl ?_ ?_);focus (first |omega|exact le_ rfl|((repeat' refine And.intro ?_ ?_)<;>omega)|((repeat' refine And.intro ?_ ?_)<;>first |rfl|exact Nat.le_refl _)))|refine zaB rfl ?_|fail)
        all_goals exact zbu _ _
      have u1 := zkA s j (by omega)
      have hn := @zff s j
      cases hR : unqF s j with
      | mk k R =>
      obtain ⟨n, e⟩ := R
      rw [hR] at u1 hn
      dsimp only at hn u1
      by_cases hez : e = 0
      rotate_left
      · rw [zoz hji hj hq hR hez]
        repeat' (first |refine zah (f := 57) rfl rfl Tryz.call57 rfl c1 ?_|refine zah (f := 88) rfl rfl Tryz.call88 rfl u1 ?_|with_reducible (first |refine zag ?_|refine zaa ?_|refine zaf ?_|refine zad ?_|refine zaj ?_|refine zai ?_|refine zae ?_|refine zal ?_|refine zap ?_)|refine zab rfl rfl True.intro ?_|refine zas rfl ?_|((first |refine zac rfl ?_ ?_|refine zat rfl ?_ ?_)<;>intro<;>try (first |(exfalso;omega)))|((first |refine zab rfl rfl ?_ ?_|refine zar rfl ?_ ?_);focus (first |omega|exact le_ rfl|((repeat' refine And.intro ?_ ?_)<;>omega)|((repeat' refine And.intro ?_ ?_)<;>first |rfl|exact Nat.le_refl _)))|refine zaB rfl ?_|fail)
        all_goals exact zbu _ _
      have hn := hn hez
      subst hez
      obtain ⟨n, rfl⟩ : ∃ n' : Nat, n = n' := ⟨n.toNat, by omega⟩
      rw [zne hji hj hq hR]
      clear hR
      have p1 := zgz ks k (by omega)
      have hm := @zdF k ks
      by_cases hk : k ∈ ks
      · rw [if_pos hk]
        have hm := hm.1.2 hk
        repeat' (first |refine zah (f := 57) rfl rfl Tryz.call57 rfl c1 ?_|refine zah (f := 88) rfl rfl Tryz.call88 rfl u1 ?_|refine zah (f := 92) rfl rfl Tryz.call92 rfl p1 ?_|with_reducible (first |refine zag ?_|refine zaa ?_|refine zaf ?_|refine zad ?_|refine zaj ?_|refine zai ?_|refine zae ?_|refine zal ?_|refine zap ?_)|refine zab rfl rfl True.intro ?_|refine zas rfl ?_|refine zak rfl ?_|((first |refine zac rfl ?_ ?_|refine zat rfl ?_ ?_)<;>intro<;>try (first |(exfalso;omega)))|((first |refine zab rfl rfl ?_ ?_|refine zar rfl ?_ ?_);focus (first |omega|exact le_ rfl|((repeat' refine And.intro ?_ ?_)<;>omega)|((repeat' refine And.intro ?_ ?_)<;>first |rfl|exact Nat.le_refl _)))|refine zaB rfl ?_|fail)
        all_goals exact zbu _ _
      rw [if_neg hk]
      have hm : ¬ 0 ≤ idxJ k ks := fun q => hk (hm.1.1 q)
      generalize idxJ k ks = ix at *
      have c2 := zbF s n (by omega) (by omega)
      have hle2 := zbT (s := s) (i := n) (by omega)
      unfold jpeek
      generalize skN s n = m at *
      by_cases hm2 : m < s.length
      rotate_left
      · rw [if_neg hm2]
        repeat' (first |refine zah (f := 57) rfl rfl Tryz.call57 rfl c1 ?_|refine zah (f := 88) rfl rfl Tryz.call88 rfl u1 ?_|refine zah (f := 92) rfl rfl Tryz.call92 rfl p1 ?_|refine zah (f := 57) rfl rfl Tryz.call57 rfl c2 ?_|with_reducible (first |refine zag ?_|refine zaa ?_|refine zaf ?_|refine zad ?_|refine zaj ?_|refine zai ?_|refine zae ?_|refine zal ?_|refine zap ?_)|refine zab rfl rfl True.intro ?_|refine zas rfl ?_|refine zak rfl ?_|((first |refine zac rfl ?_ ?_|refine zat rfl ?_ ?_)<;>intro<;>try (first |(exfalso;omega)))|((first |refine zab rfl rfl ?_ ?_|refine zao rfl rfl ?_ ?_|refine zar rfl ?_ ?_);focus (first |omega|exact le_ rfl|((repeat' refine And.intro ?_ ?_)<;>omega)|((repeat' refine And.intro ?_ ?_)<;>first |omega|rfl|exact Nat.le_refl _)))|refine zaB rfl ?_|fail)
        all_goals exact zbu _ _
      rw [if_pos hm2]
      dsimp only
      by_cases hco : at' s m = 58
      rotate_left
      · rw [if_pos hco]
        repeat' (first |refine zah (f := 57) rfl rfl Tryz.call57 rfl c1 ?_|refine zah (f := 88) rfl rfl Tryz.call88 rfl u1 ?_|refine zah (f := 92) rfl rfl Tryz.call92 rfl p1 ?_|refine zah (f := 57) rfl rfl Tryz.call57 rfl c2 ?_|with_reducible (first |refine zag ?_|refine zaa ?_|refine zaf ?_|refine zad ?_|refine zaj ?_|refine zai ?_|refine zae ?_|refine zal ?_|refine zap ?_)|refine zab rfl rfl True.intro ?_|refine zas rfl ?_|refine zak rfl ?_|((first |refine zac rfl ?_ ?_|refine zat rfl ?_ ?_)<;>intro<;>try (first |(exfalso;omega)))|((first |refine zab rfl rfl ?_ ?_|refine zao rfl rfl ?_ ?_|refine zar rfl ?_ ?_);focus (first |omega|exact le_ rfl|((repeat' refine And.intro ?_ ?_)<;>omega)|((repeat' refine And.intro ?_ ?_)<;>first |omega|rfl|exact Nat.le_refl _)))|refine zaB rfl ?_|fail)
        all_goals exact zbu _ _
      rw [if_neg (fun q => q hco)]
      dsimp only
      have q1 : i ≤ m + 1 ∧ m + 1 ≤ s.length := by omega
      have e1 := zeL ks k (chunk 1 [.s k]) rfl
      have hk1 : (ks ++ [k]).length = ks.length + 1 := by simp
      have v1 := hval (m + 1) q1.2
      rw [← hd1] at v1
      have q2 := hv (m + 1)
      have q3 := he (m + 1)
      clear hval hv he
      cases h2 : val (m + 1) with
      | inr e =>
        obtain ⟨p, e⟩ := e
        have q3 := q3 p e h2
        rw [h2] at v1
        unfold rjD at v1
        dsimp only at v1
        rw [ziT] at v1
        replace v1 : Ctr Tryz.prog 56 [.s s, .i .i64 ((m : Int) + 1), .i .i64 (((d + 1 : Nat) : Int) - 1)] _ := v1
        repeat' (first |refine zah (f := 57) rfl rfl Tryz.call57 rfl c1 ?_|refine zah (f := 88) rfl rfl Tryz.call88 rfl u1 ?_|refine zah (f := 92) rfl rfl Tryz.call92 rfl p1 ?_|refine zah (f := 57) rfl rfl Tryz.call57 rfl c2 ?_|refine zah (f := 56) rfl rfl Tryz.call56 rfl v1 ?_|with_reducible (first |refine zag ?_|refine zaa ?_|refine zaf ?_|refine zad ?_|refine zaj ?_|refine zai ?_|refine zae ?_|refine zal ?_|refine zap ?_)|refine zab rfl rfl True.intro ?_|refine zas rfl ?_|refine zak rfl ?_|((first |refine zac rfl ?_ ?_|refine zat rfl ?_ ?_)<;>intro<;>try (first |(exfalso;omega)))|((first |refine zab rfl rfl ?_ ?_|refine zao rfl rfl ?_ ?_|refine zar rfl ?_ ?_);focus (first |omega|exact le_ rfl|((repeat' refine And.intro ?_ ?_)<;>omega)|((repeat' refine And.intro ?_ ?_)<;>first |omega|rfl|exact Nat.le_refl _)))|refine zaB rfl ?_|fail)
        all_goals exact zbu _ _
      | inl r =>
        obtain ⟨x, i2⟩ := r
        have q2 := q2 x i2 q1.2 h2
        rw [h2] at v1
        obtain ⟨xk, xy, xn, xd, xe, xt, xl, xs⟩ := x
        unfold rjD at v1
        dsimp only at v1
        rw [zbz] at v1
        replace v1 : Ctr Tryz.prog 56 [.s s, .i .i64 ((m : Int) + 1), .i .i64 (((d + 1 : Nat) : Int) - 1)] _ := v1
        have e2 := zdI l (.mk xk xy xn xd xe xt xl xs) (chunk 8 [.i .i64 xk, .b xy, .b xn, .s xd, .i .i64 xe, .s xt, .sl 8 xl.length (jF xl), .sl 1 xs.length (txF xs)]) (by rw [zbz]; rfl)
        generalize hX2 : J.mk xk xy xn xd xe xt xl xs = x at *
        have hl1 : (l ++ [x]).length = l.length + 1 := by simp
        clear h2 hX2 q3
        dsimp only
        have c3 := zbF s i2 (by omega) q2.2
        have hle3 := zbT (s := s) (i := i2) q2.2
        try unfold jpeek
        generalize skN s i2 = i3 at *
        by_cases h3 : i3 < s.length
        rotate_left
        · rw [if_neg h3]
          repeat' (first |refine zah (f := 57) rfl rfl Tryz.call57 rfl c1 ?_|refine zah (f := 88) rfl rfl Tryz.call88 rfl u1 ?_|refine zah (f := 92) rfl rfl Tryz.call92 rfl p1 ?_|refine zah (f := 57) rfl rfl Tryz.call57 rfl c2 ?_|refine zah (f := 56) rfl rfl Tryz.call56 rfl v1 ?_|refine zah (f := 57) rfl rfl Tryz.call57 rfl c3 ?_|with_reducible (first |refine zag ?_|refine zaa ?_|refine zaf ?_|refine zad ?_|refine zaj ?_|refine zai ?_|refine zae ?_|refine zal ?_|refine zap ?_)|refine zab rfl rfl True.intro ?_|refine zas rfl ?_|refine zak rfl ?_|((first |refine zac rfl ?_ ?_|refine zat rfl ?_ ?_)<;>intro<;>try (first |(exfalso;omega)))|((first |refine zab rfl rfl ?_ ?_|refine zao rfl rfl ?_ ?_|refine zar rfl ?_ ?_);focus (first |omega|exact le_ rfl|((repeat' refine And.intro ?_ ?_)<;>omega)|((repeat' refine And.intro ?_ ?_)<;>first |omega|rfl|exact Nat.le_refl _|exact le_ rfl)))|refine zaB rfl ?_|fail)
          all_goals exact zbu _ _
        rw [if_pos h3]
        dsimp only
        by_cases hen : at' s i3 = endM true
        · rw [if_pos hen]
          have hen' : at' s i3 = 125 := hen
          repeat' (first |refine zcV (t := 135) rfl rfl (le_ rfl) ?_|refine zah (f := 57) rfl rfl Tryz.call57 rfl c1 ?_|refine zah (f := 88) rfl rfl Tryz.call88 rfl u1 ?_|refine zah (f := 92) rfl rfl Tryz.call92 rfl p1 ?_|refine zah (f := 57) rfl rfl Tryz.call57 rfl c2 ?_|refine zah (f := 56) rfl rfl Tryz.call56 rfl v1 ?_|refine zah (f := 57) rfl rfl Tryz.call57 rfl c3 ?_|with_reducible (first |refine zag ?_|refine zaa ?_|refine zaf ?_|refine zad ?_|refine zaj ?_|refine zai ?_|refine zae ?_|refine zal ?_|refine zap ?_)|refine zab rfl rfl True.intro ?_|refine zas rfl ?_|refine zak rfl ?_|((first |refine zac rfl ?_ ?_|refine zat rfl ?_ ?_)<;>intro<;>try (first |(exfalso;omega)))|((first |refine zab rfl rfl ?_ ?_|refine zao rfl rfl ?_ ?_|refine zar rfl ?_ ?_);focus (first |omega|exact le_ rfl|((repeat' refine And.intro ?_ ?_)<;>omega)|((repeat' refine And.intro ?_ ?_)<;>first |omega|rfl|exact Nat.le_refl _|exact le_ rfl)))|refine zaB rfl ?_|fail)
          all_goals exact .of_eq (by
            unfold rjD manyV
            dsimp only
            rw [zbz, hl1, hk1, ← e1, ← e2]
            rfl)
        · rw [if_neg hen]
          have hen' : ¬ at' s i3 = 125 := hen
          by_cases hcm : at' s i3 = 44
          · rw [if_pos hcm]
            repeat' (first |refine zah (f := 57) rfl rfl Tryz.call57 rfl c1 ?_|refine zah (f := 88) rfl rfl Tryz.call88 rfl u1 ?_|refine zah (f := 92) rfl rfl Tryz.call92 rfl p1 ?_|refine zah (f := 57) rfl rfl Tryz.call57 rfl c2 ?_|refine zah (f := 56) rfl rfl Tryz.call56 rfl v1 ?_|refine zah (f := 57) rfl rfl Tryz.call57 rfl c3 ?_|with_reducible (first |refine zag ?_|refine zaa ?_|refine zaf ?_|refine zad ?_|refine zai ?_|refine zae ?_|refine zaq ?_)|refine zab rfl rfl True.intro ?_|refine zas rfl ?_|refine zak rfl ?_|((first |refine zac rfl ?_ ?_|refine zat rfl ?_ ?_)<;>intro<;>try (first |(exfalso;omega)))|((first |refine zab rfl rfl ?_ ?_|refine zao rfl rfl ?_ ?_|refine zar rfl ?_ ?_);focus (first |omega|exact le_ rfl|((repeat' refine And.intro ?_ ?_)<;>omega)|((repeat' refine And.intro ?_ ?_)<;>first |omega|rfl|exact Nat.le_refl _|exact le_ rfl)))|fail)
            all_goals exact ⟨(i3 + 1, l ++ [x], (ks ++ [k])), ⟨by dsimp only; omega, rfl, by dsimp only; omega, by dsimp only; omega⟩, by dsimp only; omega, ⟨rfl, rfl, rfl, rfl, rfl, rfl, rfl, rfl, trivial⟩, ⟨rfl, (by rw [hl1, hk1, ← e1, ← e2]; rfl), (by rw [hl1]; rfl), (by rw [hk1]; rfl), trivial⟩, rfl, fun q hq => by rw [hX] at hq; cases hq⟩
          · rw [if_neg hcm]
            repeat' (first |refine zah (f := 57) rfl rfl Tryz.call57 rfl c1 ?_|refine zah (f := 88) rfl rfl Tryz.call88 rfl u1 ?_|refine zah (f := 92) rfl rfl Tryz.call92 rfl p1 ?_|refine zah (f := 57) rfl rfl Tryz.call57 rfl c2 ?_|refine zah (f := 56) rfl rfl Tryz.call56 rfl v1 ?_|refine zah (f := 57) rfl rfl Tryz.call57 rfl c3 ?_|with_reducible (first |refine zag ?_|refine zaa ?_|refine zaf ?_|refine zad ?_|refine zaj ?_|refine zai ?_|refine zae ?_|refine zal ?_|refine zap ?_)|refine zab rfl rfl True.intro ?_|refine zas rfl ?_|refine zak rfl ?_|((first |refine zac rfl ?_ ?_|refine zat rfl ?_ ?_)<;>intro<;>try (first |(exfalso;omega)))|((first |refine zab rfl rfl ?_ ?_|refine zao rfl rfl ?_ ?_|refine zar rfl ?_ ?_);focus (first |omega|exact le_ rfl|((repeat' refine And.intro ?_ ?_)<;>omega)|((repeat' refine And.intro ?_ ?_)<;>first |omega|rfl|exact Nat.le_refl _|exact le_ rfl)))|refine zaB rfl ?_|fail)
            all_goals exact zbu _ _
  · rw [if_neg hj]
    refine zay Tryz.func89 rfl Tryz.ntmps89 Tryz.results89 rfl (zaV _) fun X hL hX => ?_
    repeat' (first |refine zah (f := 57) rfl rfl Tryz.call57 rfl c0 ?_|with_reducible (first |refine zag ?_|refine zaa ?_|refine zaf ?_|refine zad ?_|refine zaj ?_|refine zal ?_)|refine zab rfl rfl True.intro ?_|((first |refine zac rfl ?_ ?_)<;>intro<;>try (first |(exfalso;omega)))|((first |refine zab rfl rfl ?_ ?_|refine zao rfl rfl ?_ ?_|refine zar rfl ?_ ?_);focus (first |omega|((repeat' refine And.intro ?_ ?_)<;>omega)|((repeat' refine And.intro ?_ ?_)<;>first |rfl|exact Nat.le_refl _|exact le_ rfl)))|refine zaB rfl ?_|fail)
    all_goals exact zbu _ _
theorem zmc (s : List UInt8) (hs : s.length ≤ 5000) : ∀ d : Nat, d ≤ 100 → ∀ i, i ≤ s.length → Ctr Tryz.prog 56 [.s s, .i .i64 i, .i .i64 d] (rjD (jval s d i)) := by
  intro d
  induction d with
  | zero => exact fun _ i hi => zjX s hs i hi
  | succ d ih =>
    intro hd i hi
    have ih := ih (by omega)
    exact znq s hs d (by omega) (fun j hj => ⟨fun h => zjL s _ d hs (by omega) (zca s d) (zhd s d) ih j hj h, fun h => zlJ s _ d hs (by omega) (zca s d) (zhd s d) ih j hj h⟩) i hi
end Go.Proofs.YtcajofhafpkbdaaGreatDoor.Flow
