/- The texts U9, D0, D1, Shelf, Libs, D2, D3, one behind the other. -/
import Derived.Test.YtcajofhafpkbdaaGreatDoorCT9
import Derived.Test.YtcajofhafpkbdaaGreatDoorCT10
import Derived.Lib.TrimByte
import Derived.Shelf.Strings.Trim
import Derived.Shelf.Small.Strs
import Derived.Shelf.Strconv.Itoa0
import Derived.Shelf.Strconv.Itoa1
import Derived.Shelf.LaysM
import Derived.Shelf.Strconv.Itoa2
import Derived.Shelf.Strconv.Itoa3
import Derived.Shelf.Strings.Prefix
import Derived.Shelf.Strings.Repeat
import Derived.Test.YtcajofhafpkbdaaGreatDoorProg
import Derived.Sort.Grow
namespace Go.Proofs.YtcajofhafpkbdaaGreatDoor.Flow
open Go
def unqG (s : List UInt8) : Nat → Int → List UInt8 → List UInt8 × Int × Int
  | 0, _, _ => ([], 0, 2)
  | n + 1, i, o =>
    if i < s.length then
      (if at' s i = 34 then (if validL o = true then (o, i + 1, 0) else ([], 0, 3))
      else if at' s i = 92 then (if (escP s (i + 1) o).2.2 = 0 then unqG s n (escP s (i + 1) o).1 (escP s (i + 1) o).2.1 else ([], 0, (escP s (i + 1) o).2.2))
      else if at' s i < 32 then ([], 0, 3)
      else unqG s n (i + 1) (o ++ [by8 (at' s i)]))
    else ([], 0, 2)
def unqF (s : List UInt8) (i : Int) : List UInt8 × Int × Int :=
  if i < 0 ∨ s.length < i then ([], 0, 8)
  else if (mustF s i 0 34).2 = 0 then unqG s (s.length + 1 - (mustF s i 0 34).1.toNat) (mustF s i 0 34).1 [] else ([], 0, (mustF s i 0 34).2)
section
variable {s : List UInt8} {n : Nat} {i : Int} {o : List UInt8}
theorem zfo (h : ¬ i < s.length) : unqG s (n + 1) i o = ([], 0, 2) := by rw [unqG, if_neg h]
theorem zcu (h : i < s.length) (h2 : at' s i = 34) (h3 : validL o = true) : unqG s (n + 1) i o = (o, i + 1, 0) := by rw [unqG, if_pos h, if_pos h2, if_pos h3]
theorem zfv (h : i < s.length) (h2 : at' s i = 34) (h3 : validL o = false) : unqG s (n + 1) i o = ([], 0, 3) := by rw [unqG, if_pos h, if_pos h2, if_neg (by rw [h3]; decide)]
theorem zdE (h : i < s.length) (h2 : at' s i = 92) : unqG s (n + 1) i o = if (escP s (i + 1) o).2.2 = 0 then unqG s n (escP s (i + 1) o).1 (escP s (i + 1) o).2.1 else ([], 0, (escP s (i + 1) o).2.2) := by
  rw [unqG, if_pos h, if_neg (by omega), if_pos h2]
theorem zfw (h : i < s.length) (h2 : ¬ at' s i = 34) (h3 : ¬ at' s i = 92) (h4 : at' s i < 32) : unqG s (n + 1) i o = ([], 0, 3) := by rw [unqG, if_pos h, if_neg h2, if_neg h3, if_pos h4]
theorem zcZ (h : i < s.length) (h2 : ¬ at' s i = 34) (h3 : ¬ at' s i = 92) (h4 : ¬ at' s i < 32) : unqG s (n + 1) i o = unqG s n (i + 1) (o ++ [by8 (at' s i)]) := by rw [unqG, if_pos h, if_neg h2, if_neg h3, if_neg h4]
end
theorem zmQ (s : List UInt8) (j : Int) (h0 : 0 ≤ j) (h1 : j ≤ s.length) : j ≤ (lowP s j).2.1 ∧ (lowP s j).2.1 ≤ s.length := by
  have q1 := zbu s j 0 92 h0 h1
  have q2 := zbu s (mustF s j 0 92).1 (mustF s j 0 92).2 117 (by omega) (by omega)
  have q3 := zfH s (mustF s (mustF s j 0 92).1 (mustF s j 0 92).2 117).1 (mustF s (mustF s j 0 92).1 (mustF s j 0 92).2 117).2 (by omega) (by omega)
  unfold lowP
  dsimp only
  omega
theorem zka (s : List UInt8) (i : Int) (o : List UInt8) (h0 : 0 ≤ i) (h1 : i ≤ s.length) : i ≤ (codeP s i o).1 ∧ (codeP s i o).1 ≤ s.length ∧ (codeP s i o).2.1.length ≤ o.length + 4 := by
  have hr := zcI s 4 0 i h0 h1 (by omega)
  have hl := zmQ s (fourG s 4 0 i).2.1 (by omega) (by omega)
  unfold codeP
  have u1 := zlN (pairF (fourG s 4 0 i).1 (lowP s (fourG s 4 0 i).2.1).1)
  have u2 := zlN (fourG s 4 0 i).1
  dsimp only
  (repeat' split) <;> dsimp only <;> (try simp only [List.length_append]) <;> omega
theorem zdH (s : List UInt8) (i : Int) (o : List UInt8) (h0 : 0 ≤ i) (h1 : i ≤ s.length) : i ≤ (escP s i o).1 ∧ (escP s i o).1 ≤ s.length ∧ (escP s i o).2.1.length ≤ o.length + 4 := by
  unfold escP
  split
  · have := zka s (i + 1) o (by omega) (by omega)
    split
    · omega
    · simp only [List.length_append, List.length_cons, List.length_nil]
      omega
  · simp only [List.length_append, List.length_cons, List.length_nil]
    omega
theorem zkq (s : List UInt8) : ∀ (n m : Nat) (i : Int) (o : List UInt8), 0 ≤ i → i ≤ s.length → (s.length : Int) + 1 ≤ i + n → (s.length : Int) + 1 ≤ i + m → unqG s n i o = unqG s m i o
  | 0, _, i, o, h0, h1, h2, _ => by omega
  | n + 1, 0, i, o, h0, h1, _, h2 => by omega
  | n + 1, m + 1, i, o, h0, h1, h2, h3 => by
    by_cases hi : i < s.length
    · by_cases c34 : at' s i = 34
      · cases hv : validL o with
        | true => rw [zcu hi c34 hv, zcu hi c34 hv]
        | false => rw [zfv hi c34 hv, zfv hi c34 hv]
      · by_cases c92 : at' s i = 92
        · rw [zdE hi c92, zdE hi c92]
          have er := zdH s (i + 1) o (by omega) (by omega)
          split
          · exact zkq s n m _ _ (by omega) er.2.1 (by omega) (by omega)
          · rfl
        · by_cases c32 : at' s i < 32
          · rw [zfw hi c34 c92 c32, zfw hi c34 c92 c32]
          · rw [zcZ hi c34 c92 c32, zcZ hi c34 c92 c32]
            exact zkq s n m _ _ (by omega) (by omega) (by omega) (by omega)
    · rw [zfo hi, zfo hi]
set_option maxHeartbeats 1000000 in
theorem zsQ (s : List UInt8) (i : Int) (hs : s.length ≤ 1048576) : Ctr Tryz.prog 109 [.s s, .i .i64 i] (.tu [.s (unqF s i).1, .i .i64 (unqF s i).2.1, .i .i64 (unqF s i).2.2]) := by
  by_cases hb : i < 0 ∨ s.length < i
  · unfold unqF
    rw [if_pos hb]
    refine zaE Tryz.func109 rfl Tryz.ntmps109 Tryz.results109 rfl rfl fun X hL hX => ?_
    repeat' (first |with_reducible (first |refine zag ?_|refine zaa ?_|refine zaf ?_|refine zad ?_|refine zaj ?_|refine zam ?_)|refine zab rfl rfl True.intro ?_|refine zat rfl rfl rfl ?_|refine zak rfl rfl rfl rfl True.intro ?_|refine zav rfl ?_|((first |refine zac rfl ?_ ?_|refine zan rfl rfl ?_ ?_)<;>intro<;>try (first |(exfalso;omega)))|refine zau rfl ?_|fail)
    all_goals rfl
  · have h0 : 0 ≤ i := by omega
    have h1 : i ≤ s.length := by omega
    generalize hR : unqF s i = R
    unfold unqF at hR
    rw [if_neg hb] at hR
    have hm := zhU s i [] 0 34 (by omega) h0 h1
    have hmr := zbu s i 0 34 h0 h1
    generalize mustF s i 0 34 = m at hm hmr hR
    obtain ⟨j, e⟩ := m
    dsimp only at hm hmr hR
    refine zaE Tryz.func109 rfl Tryz.ntmps109 Tryz.results109 rfl rfl fun X hL hX => ?_
    replace hR := fun _ : Unit => hR
    repeat' (first |refine T.adoptV 20 2 200 5 1 _ (bytesF []) rfl rfl rfl ?_|with_reducible (first |refine zag ?_|refine zaa ?_|refine zaf ?_|refine zad ?_|refine zah ?_|refine zae ?_)|refine zab rfl rfl True.intro ?_|refine zak rfl rfl rfl rfl True.intro ?_|((first |refine zac rfl ?_ ?_|refine zan rfl rfl ?_ ?_)<;>intro<;>try (first |(exfalso;omega)))|((first |refine zao rfl rfl ?_ ?_);focus (first |((repeat' refine And.intro ?_ ?_)<;>omega)|((repeat' refine And.intro ?_ ?_)<;>first |rfl)))|refine zax (f := 130) 20 200 rfl rfl Tryz.call130 rfl rfl rfl rfl rfl rfl rfl rfl rfl hm ?_|fail)
    refine T.loop hL (fun x : Int × List UInt8 × Int => [(0, .s s), (7, .pv 20 0)]) (fun x => rdl s x.1 x.2.1 x.2.2)
      (fun x => (x.2.2 = 0 ∧ 0 ≤ x.1 ∧ x.1 ≤ s.length ∧ (x.2.1.length : Int) ≤ 4 * x.1 ∧ (∀ _ : Unit, unqG s (s.length + 1 - x.1.toNat) x.1 x.2.1 = R)) ∨ (¬ x.2.2 = 0 ∧ ∀ _ : Unit, R = ([], 0, x.2.2)))
      (fun x => if x.2.2 = 0 then s.length + 1 - x.1.toNat else 0) (j, [], e) ?_
      ⟨⟨rfl, rfl, trivial⟩, ⟨rfl, rfl, trivial⟩, rfl, by rw [hX]; intro k hk; cases hk⟩ ?_
    · by_cases he : e = 0
      · refine .inl ⟨he, by dsimp only; omega, hmr.2.1, by simp; omega, fun _ => ?_⟩
        have := hR ()
        rw [if_pos he] at this
        exact this
      · refine .inr ⟨he, fun _ => ?_⟩
        have := hR ()
        rw [if_neg he] at this
        exact this.symm
    clear hm hmr hR
    rintro ⟨p, o, e'⟩ hI
    dsimp only at hI ⊢
    have done : ∀ (fr : Fr) (ow : Ow) (p' : Int) (o' : List UInt8) (f : Int), getD' 0 fr = .s s → getD' 7 fr = .pv 20 0 → leOw ow (rdl s p' o' f) → (¬ f = 0 ∧ (∀ _ : Unit, R = ([], 0, f)) ∧ e' = 0 ∧ 0 ≤ p ∧ p ≤ s.length ∨ f = 0 ∧ 0 ≤ p ∧ p < p' ∧ p' ≤ s.length ∧ (o'.length : Int) ≤ 4 * p' ∧ (∀ _ : Unit, unqG s (s.length + 1 - p'.toNat) p' o' = R) ∧ e' = 0) →
        ∃ y : Int × List UInt8 × Int, ((y.2.2 = 0 ∧ 0 ≤ y.1 ∧ y.1 ≤ s.length ∧ (y.2.1.length : Int) ≤ 4 * y.1 ∧ (∀ _ : Unit, unqG s (s.length + 1 - y.1.toNat) y.1 y.2.1 = R)) ∨ (¬ y.2.2 = 0 ∧ ∀ _ : Unit, R = ([], 0, y.2.2))) ∧
          (if y.2.2 = 0 then s.length + 1 - y.1.toNat else 0) < (if e' = 0 then s.length + 1 - p.toNat else 0) ∧ Le X fr ow [(0, .s s), (7, .pv 20 0)] (rdl s y.1 y.2.1 y.2.2) := by
      intro fr ow p' o' f q1 q2 q3 q4
      refine ⟨(p', o', f), ?_, ?_, ⟨q1, q2, trivial⟩, q3, rfl, by rw [hX]; intro k hk; cases hk⟩
      · rcases q4 with ⟨a, b, _⟩ | ⟨a, b, c, d, g, h, _⟩
        · exact .inr ⟨a, b⟩
        · exact .inl ⟨a, by dsimp only; omega, d, g, h⟩
      · dsimp only
        rcases q4 with ⟨a, b, c, d, g⟩ | ⟨a, b, c, d, g, h, k⟩
        · rw [if_neg a, if_pos c]
          omega
        · rw [if_pos a, if_pos k]
          omega
    rcases hI with ⟨he, i0, i1, i2, i3⟩ | ⟨he, i3⟩
    · subst he
      have hn := zdv s p o 0 (by omega) i0 i1
      have ho : o.length ≤ 4194304 := by omega
      by_cases hp : p < s.length
      · rw [zdw rfl hp] at hn
        dsimp only at hn
        have hr := zaH s p
        have hnn : s.length + 1 - p.toNat = (s.length + 1 - (p + 1).toNat) + 1 := by omega
        rw [hnn] at i3
        by_cases c34 : at' s p = 34
        · have cv := zdd o (by omega)
          cases hv : validL o with
          | true =>
            rw [hv] at cv
            have i3 := fun _ : Unit => (i3 ()).symm.trans (zcu hp c34 hv)
            clear hv
            repeat' (first |with_reducible (first |refine zag ?_|refine zaa ?_|refine zaf ?_|refine zad ?_|refine zaj ?_|refine zah ?_|refine zae ?_|refine zam ?_|refine zar ?_|refine zaB ?_)|refine zab rfl rfl True.intro ?_|refine zav rfl ?_|refine zal rfl ?_|((first |refine zac rfl ?_ ?_)<;>intro<;>try (first |(exfalso;omega)))|((first |refine zab rfl rfl ?_ ?_);focus (first |exact le_ rfl|((repeat' refine And.intro ?_ ?_)<;>omega)|((repeat' refine And.intro ?_ ?_)<;>first |omega|exact zhc _)))|with_reducible refine ⟨by kernel_rfl, ?_⟩|refine zau rfl ?_|refine zax (f := 131) 20 200 rfl rfl Tryz.call131 rfl rfl rfl rfl rfl rfl rfl rfl rfl hn ?_|refine zai (f := 69) rfl rfl Tryz.call69 rfl (by rw [zbI];exact cv) ?_|fail)
            rw [i3 (), zbI]
          | false =>
            rw [hv] at cv
            have i3 := fun _ : Unit => (i3 ()).symm.trans (zfv hp c34 hv)
            clear hv
            repeat' (first |with_reducible (first |refine zag ?_|refine zaa ?_|refine zaf ?_|refine zad ?_|refine zaj ?_|refine zah ?_|refine zae ?_|refine zam ?_|refine zar ?_)|refine zab rfl rfl True.intro ?_|refine zav rfl ?_|refine zal rfl ?_|((first |refine zac rfl ?_ ?_)<;>intro<;>try (first |(exfalso;omega)))|((first |refine zab rfl rfl ?_ ?_);focus (first |exact le_ rfl|((repeat' refine And.intro ?_ ?_)<;>omega)|((repeat' refine And.intro ?_ ?_)<;>first |omega|exact zhc _)))|refine zau rfl ?_|refine zax (f := 131) 20 200 rfl rfl Tryz.call131 rfl rfl rfl rfl rfl rfl rfl rfl rfl hn ?_|refine zai (f := 69) rfl rfl Tryz.call69 rfl (by rw [zbI];exact cv) ?_|fail)
            rw [i3 ()]
        · by_cases c92 : at' s p = 92
          · have ce := zrW s (p + 1) o (by omega) (by omega) (by omega) (by omega)
            have er := zdH s (p + 1) o (by omega) (by omega)
            have i3 := fun _ : Unit => (i3 ()).symm.trans (zdE hp c92)
            generalize escP s (p + 1) o = E at ce er i3
            obtain ⟨p', o', f⟩ := E
            dsimp only at ce er i3
            repeat' (first |with_reducible (first |refine zag ?_|refine zaa ?_|refine zaf ?_|refine zad ?_|refine zah ?_|refine zae ?_|refine zap ?_)|refine zab rfl rfl True.intro ?_|refine zav rfl ?_|refine zal rfl ?_|((first |refine zac rfl ?_ ?_)<;>intro<;>try (first |(exfalso;omega)))|((first |refine zab rfl rfl ?_ ?_);focus (first |exact le_ rfl|((repeat' refine And.intro ?_ ?_)<;>omega)))|refine zax (f := 131) 20 200 rfl rfl Tryz.call131 rfl rfl rfl rfl rfl rfl rfl rfl rfl hn ?_|refine zax (f := 132) 20 200 rfl rfl Tryz.call132 rfl rfl rfl rfl rfl rfl rfl rfl rfl ce ?_|fail)
            by_cases hf0 : f = 0
            · refine done _ _ p' o' f rfl rfl ⟨rfl, rfl, trivial⟩ (.inr ⟨hf0, i0, by omega, er.2.1, by omega, fun _ => ?_, rfl⟩)
              rw [i3 (), if_pos hf0]
              exact zkq s _ _ p' o' (by omega) er.2.1 (by omega) (by omega)
            · refine done _ _ p' o' f rfl rfl ⟨rfl, rfl, trivial⟩ (.inl ⟨hf0, fun _ => ?_, rfl, i0, i1⟩)
              rw [i3 (), if_neg hf0]
          · have hf := zcl s (p + 1) o 0 3
            by_cases c32 : at' s p < 32
            · have i3 := fun _ : Unit => (i3 ()).symm.trans (zfw hp c34 c92 c32)
              repeat' (first |with_reducible (first |refine zag ?_|refine zaa ?_|refine zaf ?_|refine zad ?_|refine zah ?_|refine zae ?_|refine zap ?_)|refine zab rfl rfl True.intro ?_|refine zav rfl ?_|refine zal rfl ?_|((first |refine zac rfl ?_ ?_)<;>intro<;>try (first |(exfalso;omega)))|((first |refine zab rfl rfl ?_ ?_);focus (first |exact le_ rfl|((repeat' refine And.intro ?_ ?_)<;>omega)))|refine zax (f := 131) 20 200 rfl rfl Tryz.call131 rfl rfl rfl rfl rfl rfl rfl rfl rfl hn ?_|refine zax (f := 133) 20 200 rfl rfl Tryz.call133 rfl rfl rfl rfl rfl rfl rfl rfl rfl hf ?_|fail)
              exact done _ _ (p + 1) o 3 rfl rfl ⟨rfl, rfl, trivial⟩ (.inl ⟨by omega, i3, rfl, i0, i1⟩)
            · have i3 := fun _ : Unit => (i3 ()).symm.trans (zcZ hp c34 c92 c32)
              repeat' (first |with_reducible (first |refine zag ?_|refine zaa ?_|refine zaf ?_|refine zad ?_|refine zah ?_|refine zae ?_|refine zap ?_)|refine zab rfl rfl True.intro ?_|refine zav rfl ?_|refine zal rfl ?_|((first |refine zac rfl ?_ ?_)<;>intro<;>try (first |(exfalso;omega)))|((first |refine zab rfl rfl ?_ ?_|refine zao rfl rfl ?_ ?_|refine zaw rfl ?_ ?_);focus (first |exact le_ rfl|((repeat' refine And.intro ?_ ?_)<;>omega)|((repeat' refine And.intro ?_ ?_)<;>first |omega|rfl|exact le_ rfl)))|refine zax (f := 131) 20 200 rfl rfl Tryz.call131 rfl rfl rfl rfl rfl rfl rfl rfl rfl hn ?_|fail)
              exact done _ _ (p + 1) (o ++ [by8 (at' s p)]) 0 rfl rfl (zhD rfl hr.1 hr.2 rfl rfl rfl rfl) (.inr ⟨rfl, i0, by omega, by omega, by simp; omega, fun _ => (i3 ()).symm, rfl⟩)
      · rw [zcc rfl hp] at hn
        dsimp only at hn
        rw [show s.length + 1 - p.toNat = 0 + 1 by omega] at i3
        have i3 := fun _ : Unit => (i3 ()).symm.trans (zfo hp)
        repeat' (first |with_reducible (first |refine zag ?_|refine zaa ?_|refine zaf ?_|refine zad ?_|refine zah ?_|refine zae ?_|refine zap ?_)|refine zab rfl rfl True.intro ?_|refine zav rfl ?_|((first |refine zab rfl rfl ?_ ?_);focus (first |exact le_ rfl|((repeat' refine And.intro ?_ ?_)<;>omega)))|refine zax (f := 131) 20 200 rfl rfl Tryz.call131 rfl rfl rfl rfl rfl rfl rfl rfl rfl hn ?_|fail)
        exact done _ _ p o 2 rfl rfl ⟨rfl, rfl, trivial⟩ (.inl ⟨by omega, i3, rfl, i0, i1⟩)
    · clear done
      repeat' (first |with_reducible (first |refine zag ?_|refine zaa ?_|refine zaf ?_|refine zad ?_|refine zaj ?_|refine zaA ?_|refine zaz ?_|refine zaB ?_)|refine zab rfl rfl True.intro ?_|((first |refine zac rfl ?_ ?_)<;>intro<;>try (first |(exfalso;omega)))|((first |refine zab rfl rfl ?_ ?_);focus (first |exact le_ rfl|((repeat' refine And.intro ?_ ?_)<;>omega)))|refine zaO rfl ?_|with_reducible refine ⟨by kernel_rfl, ?_⟩|refine zau rfl ?_|fail)
      rw [i3 ()]

abbrev dcD (neg : Bool) (s : List UInt8) (e : Int) : D := .ag [.b neg, .s s, .i .i64 e]
def digs (s : List UInt8) : Prop := ∀ i : Nat, i < s.length → 48 ≤ at' s i ∧ at' s i ≤ 57
def RightP (neg : Bool) (s : List UInt8) (e : Int) : Prop :=
  if s.length = 0 then neg = false ∧ e = 0
  else digs s ∧ s.length ≤ 100 ∧ ¬ at' s 0 = 48 ∧ ¬ at' s (s.length - 1) = 48 ∧ -1000 ≤ e ∧ e ≤ 1000
instance (s : List UInt8) : Decidable (digs s) := by
  unfold digs
  infer_instance
instance (neg : Bool) (s : List UInt8) (e : Int) : Decidable (RightP neg s e) := by
  unfold RightP
  infer_instance
def rightB (neg : Bool) (s : List UInt8) (e : Int) : Bool := decide (RightP neg s e)
theorem zcE {neg : Bool} {s : List UInt8} {e : Int} : rightB neg s e = true ↔ RightP neg s e := by unfold rightB; exact decide_eq_true_iff
theorem zeT {neg : Bool} {s : List UInt8} {e : Int} (h : ¬ RightP neg s e) : rightB neg s e = false := by
  rw [← Bool.not_eq_true, zcE]
  exact h
theorem zaS {neg : Bool} {s : List UInt8} {e : Int} {b : Bool} (h : b = true ↔ RightP neg s e) : D.b b = .b (rightB neg s e) := by
  congr 1
  rw [Bool.eq_iff_iff, h, zcE]
theorem zcA {neg : Bool} {s : List UInt8} {e : Int} (h : s.length = 0) : RightP neg s e ↔ neg = false ∧ e = 0 := by unfold RightP; rw [if_pos h]
theorem zaP {neg : Bool} {s : List UInt8} {e : Int} (h : ¬ s.length = 0) : RightP neg s e ↔ digs s ∧ s.length ≤ 100 ∧ ¬ at' s 0 = 48 ∧ ¬ at' s (s.length - 1) = 48 ∧ -1000 ≤ e ∧ e ≤ 1000 := by unfold RightP; rw [if_neg h]
theorem zif {s : List UInt8} (h : s.length = 0) : s = [] := List.length_eq_zero_iff.1 h
set_option maxHeartbeats 1000000 in
theorem zcs (neg : Bool) (s : List UInt8) (e : Int) (hs : s.length ≤ 1099511627776) : Ctr Tryz.prog 113 [dcD neg s e] (.b (rightB neg s e)) := by
  refine zaE Tryz.func113 rfl Tryz.ntmps113 Tryz.results113 rfl rfl fun X hL hX => ?_
  repeat' (first |with_reducible (first |refine zag ?_|refine zaa ?_|refine zaf ?_|refine zad ?_|refine zaj ?_|refine zah ?_|refine zae ?_|refine zam ?_)|refine zab rfl rfl True.intro ?_|((first |refine zac rfl ?_ ?_)<;>intro)|((first |refine zab rfl rfl ?_ ?_|refine zao rfl rfl ?_ ?_);focus (first |exact le_ rfl|((repeat' refine And.intro ?_ ?_)<;>omega)|((repeat' refine And.intro ?_ ?_)<;>first |rfl)))|refine zau rfl ?_|fail)
  · rename_i h0
    refine zaS ?_
    rw [zcA (by omega), zif (show s.length = 0 by omega)]
    simp
  rename_i h0
  have h0 : ¬ s.length = 0 := by omega
  refine T.loop hL (fun i : Nat => [(1, .pv 1 0), (3, .i .i64 s.length), (13, .i .i64 s.length), (14, .i .i64 i)]) (fun _ => [(1, .var [.b neg, .s s, .i .i64 e])]) (fun i => i ≤ s.length ∧ ∀ j : Nat, j < i → 48 ≤ at' s j ∧ at' s j ≤ 57) (fun i => s.length - i) 0
    ⟨Nat.zero_le _, fun j hj => absurd hj (Nat.not_lt_zero _)⟩ ⟨⟨rfl, rfl, rfl, rfl, trivial⟩, ⟨rfl, trivial⟩, rfl, by rw [hX]; intro k hk; cases hk⟩ ?_
  rintro i ⟨g1, g2⟩
  repeat' (first |with_reducible (first |refine zag ?_|refine zaa ?_|refine zaf ?_|refine zad ?_|refine zaj ?_|refine zah ?_|refine zaA ?_|refine zae ?_|refine zap ?_|refine zaz ?_|refine zam ?_|refine zar ?_)|refine zab rfl rfl True.intro ?_|refine zat rfl rfl rfl ?_|refine zak rfl rfl rfl rfl True.intro ?_|refine zav rfl ?_|((first |refine zac rfl ?_ ?_|refine zan rfl rfl ?_ ?_|refine zaZ rfl rfl ?_ ?_)<;>intro)|((first |refine zab rfl rfl ?_ ?_|refine zak rfl rfl rfl rfl ?_ ?_);focus (first |omega|exact le_ rfl|((repeat' refine And.intro ?_ ?_)<;>omega)))|refine zaO rfl ?_|refine zau rfl ?_|fail)
  · exact zaS (iff_of_false (by simp) (by rw [zaP h0]; rintro ⟨h1, _⟩; have := h1 i (by omega); omega))
  · exact zaS (iff_of_false (by simp) (by rw [zaP h0]; rintro ⟨h1, _⟩; have := h1 i (by omega); omega))
  · refine ⟨i + 1, ⟨by omega, fun j hj => ?_⟩, by omega, ⟨rfl, rfl, rfl, rfl, trivial⟩, ⟨rfl, trivial⟩, rfl, by rw [hX]; intro k hk; cases hk⟩
    by_cases hji : j = i
    · subst hji
      exact ⟨by omega, by omega⟩
    · exact g2 j (by omega)
  · refine zaS ?_
    rw [zaP h0, decide_eq_true_iff]
    exact ⟨fun h => ⟨fun j hj => g2 j (by omega), by omega, ‹_›, ‹_›, ‹_›, h⟩, fun h => h.2.2.2.2.2⟩
  · exact zaS (iff_of_false (by simp) (by rw [zaP h0]; rintro ⟨_, _, _, _, h5, _⟩; exact absurd h5 ‹_›))
  · exact zaS (iff_of_false (by simp) (by rw [zaP h0]; rintro ⟨_, _, _, h4, _⟩; exact absurd ‹_› h4))
  · exact zaS (iff_of_false (by simp) (by rw [zaP h0]; rintro ⟨_, _, h3, _⟩; exact absurd ‹_› h3))
  · exact zaS (iff_of_false (by simp) (by rw [zaP h0]; rintro ⟨_, h2, _⟩; omega))
theorem zot (c : Int) : Ctr Tryz.prog 93 [.i .u8 c] (.b (decide (48 ≤ c ∧ c ≤ 57))) := by
  refine zaE Tryz.func93 rfl Tryz.ntmps93 Tryz.results93 rfl rfl fun X hL hX => ?_
  repeat' (first |with_reducible (first |refine zag ?_|refine zaa ?_|refine zaf ?_|refine zad ?_|refine zaj ?_)|refine zab rfl rfl True.intro ?_|refine zat rfl rfl rfl ?_|refine zak rfl rfl rfl rfl True.intro ?_|((first |refine zan rfl rfl ?_ ?_)<;>intro)|refine zau rfl ?_|fail)
  · congr 1
    simp [*]
  · congr 1
    simp [*]
set_option maxHeartbeats 1000000 in
theorem zfa (neg : Bool) (s : List UInt8) (e : Int) (hs : s.length ≤ 1099511627776) : Ctr Tryz.prog 59 [dcD neg s e] (.b (rightB neg s e)) := by
  refine zaE Tryz.func59 rfl Tryz.ntmps59 Tryz.results59 rfl rfl fun X hL hX => ?_
  repeat' (first |with_reducible (first |refine zag ?_|refine zaa ?_|refine zaf ?_|refine zad ?_|refine zaj ?_|refine zah ?_|refine zae ?_|refine zam ?_)|refine zab rfl rfl True.intro ?_|refine zat rfl rfl rfl ?_|refine zak rfl rfl rfl rfl True.intro ?_|refine zav rfl ?_|((first |refine zac rfl ?_ ?_|refine zan rfl rfl ?_ ?_|refine zaD rfl rfl ?_ ?_)<;>intro)|((first |refine zab rfl rfl ?_ ?_|refine zak rfl rfl rfl rfl ?_ ?_|refine zao rfl rfl ?_ ?_);focus (first |omega|exact le_ rfl|((repeat' refine And.intro ?_ ?_)<;>omega)|((repeat' refine And.intro ?_ ?_)<;>first |rfl)))|refine zau rfl ?_|fail)
  · refine zaS ?_
    rw [zcA (by omega)]
    simp [*]
  · refine zaS ?_
    rw [zcA (by omega)]
    simp [*]
  · exact zaS (iff_of_false (by simp) (by rw [zaP (by omega)]; rintro ⟨_, h2, _⟩; omega))
  · exact zaS (iff_of_false (by simp) (by rw [zaP (by omega)]; rintro ⟨_, _, h3, _⟩; exact absurd ‹_› h3))
  · exact zaS (iff_of_false (by simp) (by rw [zaP (by omega)]; rintro ⟨_, _, _, h4, _⟩; exact absurd ‹_› h4))
  · exact zaS (iff_of_false (by simp) (by rw [zaP (by omega)]; rintro ⟨_, _, _, _, h5, _⟩; omega))
  · exact zaS (iff_of_false (by simp) (by rw [zaP (by omega)]; rintro ⟨_, _, _, _, _, h6⟩; omega))
  rename_i k0 k1 k2 k3 k4 k5
  have h0 : ¬ s.length = 0 := by omega
  refine T.loop hL (fun i : Nat => [(1, .pv 1 0), (3, .i .i64 s.length), (4, .i .i64 i)]) (fun _ => [(1, .var [.b neg, .s s, .i .i64 e])]) (fun i => i ≤ s.length ∧ ∀ j : Nat, j < i → 48 ≤ at' s j ∧ at' s j ≤ 57) (fun i => s.length - i) 0
    ⟨Nat.zero_le _, fun j hj => absurd hj (Nat.not_lt_zero _)⟩ ⟨⟨rfl, rfl, rfl, trivial⟩, ⟨rfl, trivial⟩, rfl, by rw [hX]; intro k hk; cases hk⟩ ?_
  rintro i ⟨g1, g2⟩
  repeat' (first |with_reducible (first |refine zag ?_|refine zaa ?_|refine zaf ?_|refine zad ?_|refine zaj ?_|refine zah ?_|refine zaA ?_|refine zae ?_|refine zap ?_|refine zaz ?_|refine zam ?_|refine zar ?_)|refine zab rfl rfl True.intro ?_|((first |refine zac rfl ?_ ?_|refine zbr rfl ?_ ?_)<;>intro)|((first |refine zab rfl rfl ?_ ?_);focus (first |omega|exact le_ rfl|((repeat' refine And.intro ?_ ?_)<;>omega)))|refine zaO rfl ?_|refine zau rfl ?_|refine zai (f := 93) rfl rfl Tryz.call93 rfl (zot (at' s i)) ?_|fail)
  · rename_i h1 h2
    exact zaS (iff_of_false (by simp) (by rw [zaP h0]; rintro ⟨h1, _⟩; have := h1 i (by omega); simp at h2; omega))
  · rename_i h1 h2
    have h2 : 48 ≤ at' s i ∧ at' s i ≤ 57 := by simpa using h2
    refine ⟨i + 1, ⟨by omega, fun j hj => ?_⟩, by omega, ⟨rfl, rfl, rfl, trivial⟩, ⟨rfl, trivial⟩, rfl, by rw [hX]; intro k hk; cases hk⟩
    by_cases hji : j = i
    · subst hji
      exact h2
    · exact g2 j (by omega)
  · refine zaS (iff_of_true rfl ?_)
    rw [zaP h0]
    exact ⟨fun j hj => g2 j (by omega), by omega, k2, k3, by omega, by omega⟩
theorem zbv (l : List UInt8) : l = [] ∨ ∃ r w, l = r ++ [w] := by
  rcases List.eq_nil_or_concat l with h | ⟨r, w, h⟩
  · exact .inl h
  · exact .inr ⟨r, w, by simpa using h⟩
theorem ziJ (s : List UInt8) (i : Nat) (h : i < s.length) : s.take (i + 1) = s.take i ++ [s.getD i 0] := by
  rw [List.take_add_one, List.getD_eq_getElem?_getD, List.getElem?_eq_getElem h]
  rfl
theorem RightP.bounds {neg : Bool} {s : List UInt8} {e : Int} (h : RightP neg s e) : s.length ≤ 100 ∧ -1000 ≤ e ∧ e ≤ 1000 ∧ digs s := by
  unfold RightP at h
  split at h
  · rename_i h0
    exact ⟨by omega, by omega, by omega, fun i hi => by omega⟩
  · exact ⟨h.2.1, h.2.2.2.2.1, h.2.2.2.2.2, h.1⟩

abbrev tL (s : List UInt8) : List UInt8 := Lib.trimLeftB s 48
abbrev tR (s : List UInt8) : List UInt8 := Lib.trimRightB s 48
theorem zkd (r : List UInt8) (c : UInt8) : at' (r ++ [c]) (r.length : Int) = (c.toNat : Int) := by
  simp [at', List.getD_eq_getElem?_getD]
theorem zdz (r : List UInt8) : tR (r ++ [48]) = tR r := by simp [tR, Lib.trimRightB]
theorem zdK (r : List UInt8) (c : UInt8) (h : ¬ c = 48) : tR (r ++ [c]) = r ++ [c] := by simp [tR, Lib.trimRightB, h]
theorem znw {c : UInt8} {n : Nat} (h : n < 256) : (c.toNat : Int) = n ↔ c = UInt8.ofNat n := zrX c n h
theorem zsw (s : List UInt8) (h0 : ¬ s.length = 0) (h : at' s (s.length - 1) = 48) : tR (s.take (s.length - 1)) = tR s := by
  rcases zbv s with rfl | ⟨r, c, rfl⟩
  · simp at h0
  · have e : ((r ++ [c]).length : Int) - 1 = r.length := by simp
    rw [e, zkd] at h
    obtain rfl : c = 48 := (znw (n := 48) (by omega)).1 h
    rw [zdz]
    simp
theorem zsL (s : List UInt8) (h : s.length = 0 ∨ ¬ at' s (s.length - 1) = 48) : tR s = s := by
  rcases zbv s with rfl | ⟨r, c, rfl⟩
  · rfl
  · have e : ((r ++ [c]).length : Int) - 1 = r.length := by simp
    rw [e, zkd] at h
    refine zdK r c fun hc => ?_
    subst hc
    rcases h with h | h
    · simp at h
    · exact h rfl
theorem zsn (s : List UInt8) (h0 : ¬ s.length = 0) (h : at' s 0 = 48) : tL (s.drop 1) = tL s := by
  match s, h0 with
  | c :: r, _ =>
    have h : (c.toNat : Int) = 48 := h
    obtain rfl : c = 48 := (znw (n := 48) (by omega)).1 h
    simp [tL, Lib.trimLeftB]
theorem zsO (s : List UInt8) (h : s.length = 0 ∨ ¬ at' s 0 = 48) : tL s = s := by
  match s with
  | [] => rfl
  | c :: r =>
    have h : ¬ (c.toNat : Int) = 48 := by
      rcases h with h | h
      · simp at h
      · exact h
    have : ¬ c = 48 := fun e => h (by rw [e]; rfl)
    simp [tL, Lib.trimLeftB, this]
theorem zoT (s : List UInt8) : (tL s).length ≤ s.length := by
  unfold tL Lib.trimLeftB
  induction s with
  | nil => simp
  | cons c r ih =>
    rw [List.dropWhile_cons]
    split
    · simp only [List.length_cons]
      omega
    · simp
theorem zjd (s : List UInt8) : (tR s).length ≤ s.length := by
  have := zoT s.reverse
  unfold tR Lib.trimRightB
  unfold tL Lib.trimLeftB at this
  simpa using this
def normF (neg : Bool) (s : List UInt8) (e : Int) : (Bool × List UInt8 × Int) × Int :=
  if (tL (tR s)).length = 0 then ((false, [], 0), 0)
  else if 100 < (tL (tR s)).length then ((false, [], 0), 5)
  else if e + (s.length - (tR s).length) < -1000 ∨ 1000 < e + (s.length - (tR s).length) then ((false, [], 0), 8)
  else ((neg, tL (tR s), e + (s.length - (tR s).length)), 0)
abbrev dcV (x : Bool × List UInt8 × Int) : D := dcD x.1 x.2.1 x.2.2
end Go.Proofs.YtcajofhafpkbdaaGreatDoor.Flow

namespace Go.Proofs
open Go.Shelf
def Tryz.lays161_ren : Go.Shelf.Ren := ⟨fun | 161 => 121 | 231 => 148 | 227 => 145 | 233 => 149 | 235 => 150 | 228 => 163 | 197 => 166 | 151 => 165 | 260 => 177 | 152 => 176 | 137 => 82 | 119 => 182 | 224 => 183 | 225 => 184 | 217 => 112 | 266 => 138 | n => n, fun | 9 => 9 | 4 => 4 | 3 => 3 | 5 => 5 | 117 => 179 | 116 => 178 | 0 => 0 | 124 => 182 | 105 => 198 | 21 => 21 | 119 => 157 | 46 => 155 | 139 => 160 | 138 => 159 | n => n, fun | 3 => 0 | 4 => 1 | n => n⟩
theorem Tryz.lays161 : Go.Proofs.Lays.n161 Tryz.prog Tryz.lays161_ren := {
  mixed := by kernel_rfl
  f119 := Tryz.func182.trans (congrArg some (by kernel_rfl))
  f137 := Tryz.func82.trans (congrArg some (by kernel_rfl))
  f151 := Tryz.func165.trans (congrArg some (by kernel_rfl))
  f152 := Tryz.func176.trans (congrArg some (by kernel_rfl))
  f161 := Tryz.func121.trans (congrArg some (by kernel_rfl))
  f197 := Tryz.func166.trans (congrArg some (by kernel_rfl))
  f217 := Tryz.func112.trans (congrArg some (by kernel_rfl))
  f224 := Tryz.func183.trans (congrArg some (by kernel_rfl))
  f225 := Tryz.func184.trans (congrArg some (by kernel_rfl))
  f227 := Tryz.func145.trans (congrArg some (by kernel_rfl))
  f228 := Tryz.func163.trans (congrArg some (by kernel_rfl))
  f231 := Tryz.func148.trans (congrArg some (by kernel_rfl))
  f233 := Tryz.func149.trans (congrArg some (by kernel_rfl))
  f235 := Tryz.func150.trans (congrArg some (by kernel_rfl))
  f260 := Tryz.func177.trans (congrArg some (by kernel_rfl))
  f266 := Tryz.func138.trans (congrArg some (by kernel_rfl))
  t0 := Tryz.underlying0
  a0 := Tryz.isAgg0
  z0 := Tryz.sizeOf0
  v0 := Tryz.zeroValue0
  t3 := Tryz.underlying3
  a3 := Tryz.isAgg3
  z3 := Tryz.sizeOf3
  v3 := Tryz.zeroValue3
  t4 := Tryz.underlying4
  a4 := Tryz.isAgg4
  z4 := Tryz.sizeOf4
  v4 := Tryz.zeroValue4
  t5 := Tryz.underlying5
  a5 := Tryz.isAgg5
  z5 := Tryz.sizeOf5
  v5 := Tryz.zeroValue5
  t9 := Tryz.underlying9
  a9 := Tryz.isAgg9
  z9 := Tryz.sizeOf9
  v9 := Tryz.zeroValue9
  t21 := Tryz.underlying21
  a21 := Tryz.isAgg21
  z21 := Tryz.sizeOf21
  v21 := Tryz.zeroValue21
  t46 := Tryz.underlying155
  a46 := Tryz.isAgg155
  z46 := Tryz.sizeOf155
  v46 := Tryz.zeroValue155
  t105 := Tryz.underlying198
  a105 := Tryz.isAgg198
  z105 := Tryz.sizeOf198
  v105 := Tryz.zeroValue198
  t116 := Tryz.underlying178
  a116 := Tryz.isAgg178
  z116 := Tryz.sizeOf178
  t117 := Tryz.underlying179
  a117 := Tryz.isAgg179
  z117 := Tryz.sizeOf179
  v117 := Tryz.zeroValue179
  t119 := Tryz.underlying157
  a119 := Tryz.isAgg157
  z119 := Tryz.sizeOf157
  t124 := Tryz.underlying182
  a124 := Tryz.isAgg182
  z124 := Tryz.sizeOf182
  v124 := Tryz.zeroValue182
  t138 := Tryz.underlying159
  a138 := Tryz.isAgg159
  z138 := Tryz.sizeOf159
  v138 := Tryz.zeroValue159
  t139 := Tryz.underlying160
  a139 := Tryz.isAgg160
  z139 := Tryz.sizeOf160
  v139 := Tryz.zeroValue160
  g3 := by kernel_rfl
  g4 := by kernel_rfl }
open Go.RowKit in
theorem Tryz.strings_TrimLeft_one (s : ByteArray) (c : UInt8) (hc : c.toNat < 128) (w : World) :
    Calls Tryz.prog 121 #[.string s, .string ⟨#[c]⟩] w fun e w' => e = .returned (.string ⟨(Lib.trimLeftB s.data.toList c).toArray⟩) ∧ w' = w := Any.strings_TrimLeft_one Tryz.lays161 s c hc w
def Tryz.lays162_ren : Go.Shelf.Ren := ⟨fun | 162 => 120 | 232 => 144 | 227 => 145 | 234 => 146 | 236 => 147 | 228 => 163 | 271 => 164 | 151 => 165 | 120 => 175 | 197 => 166 | 152 => 176 | 260 => 177 | 137 => 82 | 119 => 182 | 224 => 183 | 225 => 184 | 217 => 112 | 266 => 138 | n => n, fun | 9 => 9 | 4 => 4 | 3 => 3 | 5 => 5 | 117 => 179 | 116 => 178 | 0 => 0 | 124 => 182 | 21 => 21 | 105 => 198 | 46 => 155 | 119 => 157 | 139 => 160 | 138 => 159 | n => n, fun | 3 => 0 | 4 => 1 | n => n⟩
theorem Tryz.lays162 : Go.Proofs.Lays.n162 Tryz.prog Tryz.lays162_ren := {
  mixed := by kernel_rfl
  f119 := Tryz.func182.trans (congrArg some (by kernel_rfl))
  f120 := Tryz.func175.trans (congrArg some (by kernel_rfl))
  f137 := Tryz.func82.trans (congrArg some (by kernel_rfl))
  f151 := Tryz.func165.trans (congrArg some (by kernel_rfl))
  f152 := Tryz.func176.trans (congrArg some (by kernel_rfl))
  f162 := Tryz.func120.trans (congrArg some (by kernel_rfl))
  f197 := Tryz.func166.trans (congrArg some (by kernel_rfl))
  f217 := Tryz.func112.trans (congrArg some (by kernel_rfl))
  f224 := Tryz.func183.trans (congrArg some (by kernel_rfl))
  f225 := Tryz.func184.trans (congrArg some (by kernel_rfl))
  f227 := Tryz.func145.trans (congrArg some (by kernel_rfl))
  f228 := Tryz.func163.trans (congrArg some (by kernel_rfl))
  f232 := Tryz.func144.trans (congrArg some (by kernel_rfl))
  f234 := Tryz.func146.trans (congrArg some (by kernel_rfl))
  f236 := Tryz.func147.trans (congrArg some (by kernel_rfl))
  f260 := Tryz.func177.trans (congrArg some (by kernel_rfl))
  f266 := Tryz.func138.trans (congrArg some (by kernel_rfl))
  f271 := Tryz.func164.trans (congrArg some (by kernel_rfl))
  t0 := Tryz.underlying0
  a0 := Tryz.isAgg0
  z0 := Tryz.sizeOf0
  v0 := Tryz.zeroValue0
  t3 := Tryz.underlying3
  a3 := Tryz.isAgg3
  z3 := Tryz.sizeOf3
  v3 := Tryz.zeroValue3
  t4 := Tryz.underlying4
  a4 := Tryz.isAgg4
  z4 := Tryz.sizeOf4
  v4 := Tryz.zeroValue4
  t5 := Tryz.underlying5
  a5 := Tryz.isAgg5
  z5 := Tryz.sizeOf5
  v5 := Tryz.zeroValue5
  t9 := Tryz.underlying9
  a9 := Tryz.isAgg9
  z9 := Tryz.sizeOf9
  v9 := Tryz.zeroValue9
  t21 := Tryz.underlying21
  a21 := Tryz.isAgg21
  z21 := Tryz.sizeOf21
  v21 := Tryz.zeroValue21
  t46 := Tryz.underlying155
  a46 := Tryz.isAgg155
  z46 := Tryz.sizeOf155
  v46 := Tryz.zeroValue155
  t105 := Tryz.underlying198
  a105 := Tryz.isAgg198
  z105 := Tryz.sizeOf198
  v105 := Tryz.zeroValue198
  t116 := Tryz.underlying178
  a116 := Tryz.isAgg178
  z116 := Tryz.sizeOf178
  t117 := Tryz.underlying179
  a117 := Tryz.isAgg179
  z117 := Tryz.sizeOf179
  v117 := Tryz.zeroValue179
  t119 := Tryz.underlying157
  a119 := Tryz.isAgg157
  z119 := Tryz.sizeOf157
  t124 := Tryz.underlying182
  a124 := Tryz.isAgg182
  z124 := Tryz.sizeOf182
  v124 := Tryz.zeroValue182
  t138 := Tryz.underlying159
  a138 := Tryz.isAgg159
  z138 := Tryz.sizeOf159
  v138 := Tryz.zeroValue159
  t139 := Tryz.underlying160
  a139 := Tryz.isAgg160
  z139 := Tryz.sizeOf160
  v139 := Tryz.zeroValue160
  g3 := by kernel_rfl
  g4 := by kernel_rfl }
open Go.RowKit in
theorem Tryz.strings_TrimRight_one (s : ByteArray) (c : UInt8) (hc : c.toNat < 128) (w : World) (hs : s.size ≤ 9223372036854775807) :
    Calls Tryz.prog 120 #[.string s, .string ⟨#[c]⟩] w fun e w' => e = .returned (.string ⟨(Lib.trimRightB s.data.toList c).toArray⟩) ∧ w' = w := Any.strings_TrimRight_one Tryz.lays162 s c hc w hs
def Tryz.lays137_ren : Go.Shelf.Ren := ⟨fun | 137 => 82 | 217 => 112 | 266 => 138 | n => n, fun | 9 => 9 | 5 => 5 | 3 => 3 | n => n, fun | n => n⟩
theorem Tryz.lays137 : Go.Proofs.Lays.n137 Tryz.prog Tryz.lays137_ren := {
  mixed := by kernel_rfl
  f137 := Tryz.func82.trans (congrArg some (by kernel_rfl))
  f217 := Tryz.func112.trans (congrArg some (by kernel_rfl))
  f266 := Tryz.func138.trans (congrArg some (by kernel_rfl))
  t3 := Tryz.underlying3
  a3 := Tryz.isAgg3
  z3 := Tryz.sizeOf3
  v3 := Tryz.zeroValue3
  t5 := Tryz.underlying5
  a5 := Tryz.isAgg5
  z5 := Tryz.sizeOf5
  v5 := Tryz.zeroValue5
  t9 := Tryz.underlying9
  a9 := Tryz.isAgg9
  z9 := Tryz.sizeOf9
  v9 := Tryz.zeroValue9 }
open Go.RowKit in
theorem Tryz.strings_IndexByte (s : ByteArray) (c : Int) (w : World) :
    Calls Tryz.prog 82 #[.string s, .int .u8 c] w fun e w' => e = .returned (.int .i64 (Lib.indexByte s.data.toList c.toNat.toUInt8)) ∧ w' = w := Any.strings_IndexByte Tryz.lays137 s c w
open Go.Lib in
open Go.Lib in
open Go.RowKit Go.Sort Go.Lib in
def Tryz.laysM171_ren : Go.Shelf.Ren := ⟨fun | 171 => 94 | 243 => 119 | 246 => 143 | 283 => 159 | 284 => 160 | 285 => 161 | 286 => 162 | 129 => 171 | 317 => 170 | 318 => 172 | 319 => 173 | 320 => 174 | 337 => 180 | 338 => 181 | n => n, fun | 3 => 3 | 9 => 9 | 2 => 2 | 4 => 4 | 171 => 193 | 0 => 0 | 53 => 99 | 37 => 108 | 5 => 5 | 173 => 196 | 212 => 205 | 51 => 187 | 20 => 20 | 213 => 206 | 46 => 155 | 232 => 213 | 233 => 214 | n => n, fun | 17 => 3 | 18 => 4 | 19 => 5 | n => n⟩
theorem Tryz.laysM171 : Go.Proofs.LaysM.n171 Tryz.prog Tryz.laysM171_ren := {
  mixed := by kernel_rfl
  f129 := Tryz.func171.trans (congrArg some (by kernel_rfl))
  f171 := Tryz.func94.trans (congrArg some (by kernel_rfl))
  f243 := Tryz.func119.trans (congrArg some (by kernel_rfl))
  f246 := Tryz.func143.trans (congrArg some (by kernel_rfl))
  f283 := Tryz.func159.trans (congrArg some (by kernel_rfl))
  f284 := Tryz.func160.trans (congrArg some (by kernel_rfl))
  f285 := Tryz.func161.trans (congrArg some (by kernel_rfl))
  f286 := Tryz.func162.trans (congrArg some (by kernel_rfl))
  f317 := Tryz.func170.trans (congrArg some (by kernel_rfl))
  f318 := Tryz.func172.trans (congrArg some (by kernel_rfl))
  f319 := Tryz.func173.trans (congrArg some (by kernel_rfl))
  f320 := Tryz.func174.trans (congrArg some (by kernel_rfl))
  f337 := Tryz.func180.trans (congrArg some (by kernel_rfl))
  f338 := Tryz.func181.trans (congrArg some (by kernel_rfl))
  t0 := Tryz.underlying0
  a0 := Tryz.isAgg0
  z0 := Tryz.sizeOf0
  v0 := Tryz.zeroValue0
  t2 := Tryz.underlying2
  a2 := Tryz.isAgg2
  z2 := Tryz.sizeOf2
  v2 := Tryz.zeroValue2
  t3 := Tryz.underlying3
  a3 := Tryz.isAgg3
  z3 := Tryz.sizeOf3
  v3 := Tryz.zeroValue3
  t4 := Tryz.underlying4
  a4 := Tryz.isAgg4
  z4 := Tryz.sizeOf4
  v4 := Tryz.zeroValue4
  t5 := Tryz.underlying5
  a5 := Tryz.isAgg5
  z5 := Tryz.sizeOf5
  v5 := Tryz.zeroValue5
  t9 := Tryz.underlying9
  a9 := Tryz.isAgg9
  z9 := Tryz.sizeOf9
  v9 := Tryz.zeroValue9
  t20 := Tryz.underlying20
  a20 := Tryz.isAgg20
  z20 := Tryz.sizeOf20
  v20 := Tryz.zeroValue20
  t37 := Tryz.underlying108
  a37 := Tryz.isAgg108
  z37 := Tryz.sizeOf108
  v37 := Tryz.zeroValue108
  t46 := Tryz.underlying155
  a46 := Tryz.isAgg155
  z46 := Tryz.sizeOf155
  v46 := Tryz.zeroValue155
  t51 := Tryz.underlying187
  a51 := Tryz.isAgg187
  z51 := Tryz.sizeOf187
  v51 := Tryz.zeroValue187
  t53 := Tryz.underlying99
  a53 := Tryz.isAgg99
  z53 := Tryz.sizeOf99
  v53 := Tryz.zeroValue99
  t171 := Tryz.underlying193
  a171 := Tryz.isAgg193
  z171 := Tryz.sizeOf193
  v171 := Tryz.zeroValue193
  t173 := Tryz.underlying196
  a173 := Tryz.isAgg196
  z173 := Tryz.sizeOf196
  v173 := Tryz.zeroValue196
  t212 := Tryz.underlying205
  a212 := Tryz.isAgg205
  z212 := Tryz.sizeOf205
  v212 := Tryz.zeroValue205
  t213 := Tryz.underlying206
  a213 := Tryz.isAgg206
  z213 := Tryz.sizeOf206
  t232 := Tryz.underlying213
  a232 := Tryz.isAgg213
  z232 := Tryz.sizeOf213
  v232 := Tryz.zeroValue213
  t233 := Tryz.underlying214
  a233 := Tryz.isAgg214
  z233 := Tryz.sizeOf214
  v233 := Tryz.zeroValue214
  g17 := by kernel_rfl
  g18 := by kernel_rfl
  g19 := by kernel_rfl
  i0 := by kernel_rfl
  i2 := by kernel_rfl
  i3 := by kernel_rfl
  i4 := by kernel_rfl
  i5 := by kernel_rfl
  i9 := by kernel_rfl
  i20 := by kernel_rfl
  i37 := by kernel_rfl
  i46 := by kernel_rfl
  i51 := by kernel_rfl
  i53 := by kernel_rfl
  i171 := by kernel_rfl
  i173 := by kernel_rfl
  i212 := by kernel_rfl
  i232 := by kernel_rfl
  i233 := by kernel_rfl
  m17 := by kernel_rfl
  m18 := by kernel_rfl
  m19 := by kernel_rfl }
open Go.RowKit Go.Sort Go.Lib in
theorem Tryz.strconv_Itoa (n : Int) (h0 : -9223372036854775808 ≤ n) (h1 : n ≤ 9223372036854775807) (w : World) (htab : Lib.TabIs Tryz.prog w "internal/strconv.uint64pow10" .u64 Lib.pow10Tab) :
    Calls Tryz.prog 94 #[.int .i64 n] w fun e w' => e = .returned (.string ⟨(Lib.itoa n).toArray⟩) ∧ ∃ k os, w' = grow (w.drewN k) os := Any.strconv_Itoa Tryz.laysM171 n h0 h1 w htab
def Tryz.lays99_ren : Go.Shelf.Ren := ⟨fun | 99 => 108 | 206 => 129 | n => n, fun | 9 => 9 | 4 => 4 | 3 => 3 | n => n, fun | n => n⟩
theorem Tryz.lays99 : Go.Proofs.Lays.n99 Tryz.prog Tryz.lays99_ren := {
  mixed := by kernel_rfl
  f99 := Tryz.func108.trans (congrArg some (by kernel_rfl))
  f206 := Tryz.func129.trans (congrArg some (by kernel_rfl))
  t3 := Tryz.underlying3
  a3 := Tryz.isAgg3
  z3 := Tryz.sizeOf3
  v3 := Tryz.zeroValue3
  t4 := Tryz.underlying4
  a4 := Tryz.isAgg4
  z4 := Tryz.sizeOf4
  v4 := Tryz.zeroValue4
  t9 := Tryz.underlying9
  a9 := Tryz.isAgg9
  z9 := Tryz.sizeOf9
  v9 := Tryz.zeroValue9 }
open Go.RowKit Go.Lib in
theorem Tryz.strings_HasPrefix (s p : ByteArray) (w : World) :
    Calls Tryz.prog 108 #[.string s, .string p] w fun e w' => e = .returned (.bool (Lib.hasPrefix s.data.toList p.data.toList)) ∧ w' = w := Any.strings_HasPrefix Tryz.lays99 s p w
def Tryz.lays105_ren : Go.Shelf.Ren := ⟨fun | 105 => 114 | 212 => 139 | 99 => 108 | 165 => 140 | 166 => 97 | 170 => 141 | 169 => 67 | 263 => 155 | 264 => 156 | 206 => 129 | 240 => 125 | 241 => 157 | 276 => 152 | 277 => 169 | n => n, fun | 9 => 9 | 3 => 3 | 4 => 4 | 20 => 20 | 0 => 0 | 46 => 155 | 109 => 169 | 5 => 5 | 72 => 110 | 76 => 136 | 51 => 187 | 146 => 188 | 53 => 99 | 148 => 190 | 70 => 107 | 37 => 108 | 75 => 135 | 127 => 139 | 164 => 184 | 80 => 112 | n => n, fun | n => n⟩
theorem Tryz.lays105 : Go.Proofs.Lays.n105 Tryz.prog Tryz.lays105_ren := {
  mixed := by kernel_rfl
  f99 := Tryz.func108.trans (congrArg some (by kernel_rfl))
  f105 := Tryz.func114.trans (congrArg some (by kernel_rfl))
  f165 := Tryz.func140.trans (congrArg some (by kernel_rfl))
  f166 := Tryz.func97.trans (congrArg some (by kernel_rfl))
  f169 := Tryz.func67.trans (congrArg some (by kernel_rfl))
  f170 := Tryz.func141.trans (congrArg some (by kernel_rfl))
  f206 := Tryz.func129.trans (congrArg some (by kernel_rfl))
  f212 := Tryz.func139.trans (congrArg some (by kernel_rfl))
  f240 := Tryz.func125.trans (congrArg some (by kernel_rfl))
  f241 := Tryz.func157.trans (congrArg some (by kernel_rfl))
  f263 := Tryz.func155.trans (congrArg some (by kernel_rfl))
  f264 := Tryz.func156.trans (congrArg some (by kernel_rfl))
  f276 := Tryz.func152.trans (congrArg some (by kernel_rfl))
  f277 := Tryz.func169.trans (congrArg some (by kernel_rfl))
  t0 := Tryz.underlying0
  a0 := Tryz.isAgg0
  z0 := Tryz.sizeOf0
  v0 := Tryz.zeroValue0
  t3 := Tryz.underlying3
  a3 := Tryz.isAgg3
  z3 := Tryz.sizeOf3
  v3 := Tryz.zeroValue3
  t4 := Tryz.underlying4
  a4 := Tryz.isAgg4
  z4 := Tryz.sizeOf4
  v4 := Tryz.zeroValue4
  t5 := Tryz.underlying5
  a5 := Tryz.isAgg5
  z5 := Tryz.sizeOf5
  v5 := Tryz.zeroValue5
  t9 := Tryz.underlying9
  a9 := Tryz.isAgg9
  z9 := Tryz.sizeOf9
  v9 := Tryz.zeroValue9
  t20 := Tryz.underlying20
  a20 := Tryz.isAgg20
  z20 := Tryz.sizeOf20
  v20 := Tryz.zeroValue20
  t37 := Tryz.underlying108
  a37 := Tryz.isAgg108
  z37 := Tryz.sizeOf108
  v37 := Tryz.zeroValue108
  t46 := Tryz.underlying155
  a46 := Tryz.isAgg155
  z46 := Tryz.sizeOf155
  v46 := Tryz.zeroValue155
  t51 := Tryz.underlying187
  a51 := Tryz.isAgg187
  z51 := Tryz.sizeOf187
  v51 := Tryz.zeroValue187
  t53 := Tryz.underlying99
  a53 := Tryz.isAgg99
  z53 := Tryz.sizeOf99
  v53 := Tryz.zeroValue99
  t70 := Tryz.underlying107
  a70 := Tryz.isAgg107
  z70 := Tryz.sizeOf107
  v70 := Tryz.zeroValue107
  t72 := Tryz.underlying110
  a72 := Tryz.isAgg110
  z72 := Tryz.sizeOf110
  v72 := Tryz.zeroValue110
  t75 := Tryz.underlying135
  a75 := Tryz.isAgg135
  z75 := Tryz.sizeOf135
  v75 := Tryz.zeroValue135
  t76 := Tryz.underlying136
  a76 := Tryz.isAgg136
  z76 := Tryz.sizeOf136
  v76 := Tryz.zeroValue136
  t109 := Tryz.underlying169
  a109 := Tryz.isAgg169
  z109 := Tryz.sizeOf169
  v109 := Tryz.zeroValue169
  t127 := Tryz.underlying139
  a127 := Tryz.isAgg139
  z127 := Tryz.sizeOf139
  v127 := Tryz.zeroValue139
  t146 := Tryz.underlying188
  a146 := Tryz.isAgg188
  z146 := Tryz.sizeOf188
  v146 := Tryz.zeroValue188
  t148 := Tryz.underlying190
  a148 := Tryz.isAgg190
  z148 := Tryz.sizeOf190
  v148 := Tryz.zeroValue190
  t164 := Tryz.underlying184
  a164 := Tryz.isAgg184
  z164 := Tryz.sizeOf184
  v164 := Tryz.zeroValue184 }
theorem Tryz.Builder_Extra_105 : Builder.Extra Tryz.prog Tryz.lays105_ren := {
  sizeBuilder := by kernel_rfl
  liesBuilder := by kernel_rfl
  t5 := Tryz.underlying5
  a5 := Tryz.isAgg5
  z5 := Tryz.sizeOf5
  v5 := Tryz.zeroValue5
  infoByte := by kernel_rfl
  cellsByte := by kernel_rfl
  sizeByte := by kernel_rfl
  neB5 := by decide }
open Go.RowKit Go.Lib in
theorem Tryz.strings_Repeat (s : ByteArray) (c : Nat) (w : World) (hc : c ≤ 9223372036854775807) (hlen : s.size * c ≤ 140737488355328) :
    Calls Tryz.prog 114 #[.string s, .int .i64 c] w fun e w' => e = .returned (.string ⟨(Lib.repeatL s.data.toList c).toArray⟩) ∧ Below w.heap.size w w' := Any.strings_Repeat Tryz.lays105 Tryz.Builder_Extra_105 s c w hc hlen
end Go.Proofs

namespace Go.Proofs.YtcajofhafpkbdaaGreatDoor.Flow
open Go
theorem zhn {vs : Array Value} (h : vs.size = 2) : vs = #[vs.getD 0 undef, vs.getD 1 undef] := by
  obtain ⟨l⟩ := vs
  match l, h with
  | [a, b], _ => rfl
theorem ztG {vs : Array Value} (h : vs.size = 1) : vs = #[vs.getD 0 undef] := by
  obtain ⟨l⟩ := vs
  match l, h with
  | [a], _ => rfl
theorem zek (w : World) (S : Cells) (hv : ∀ b o, S b o → b < w.heap.size) (hg : GOk S w) : Hist { w0 := w, S0 := S, L := fun _ => False } w S := zhr w S _ hv hg
theorem zgL {w w' : World} {S : Cells} (hv : ∀ b o, S b o → b < w.heap.size) (hg : GOk S w) (h : RowKit.Below w.heap.size w w') : Hist { w0 := w, S0 := S, L := fun _ => False } w' S where
  os := h.os
  tape := h.tape
  output := h.output
  size := h.size
  block := fun k hk _ => h.block k hk
  sub := fun _ _ h => h
  cell := fun b o hb => by
    have := h.block b (hv b o hb)
    simp [World.cell?, this]
  new := fun _ _ h => .inl h
  valid := fun b o hb => Nat.lt_of_lt_of_le (hv b o hb) h.size
  glob := hg.mono (fun _ _ h => h) fun b o hb => by
    have := h.block b (hv b o hb)
    simp [World.cell?, this]
theorem zhx (s : List UInt8) (c : UInt8) (hs : s.length ≤ 9223372036854775807) (hc : c.toNat < 128 := by decide) : Ctr Tryz.prog 120 [.s s, .s [c]] (.s (Lib.trimRightB s c)) := by
  intro w S vs hv hg hn hr
  have h0 := hr 0 (by simp)
  have h1 := hr 1 (by simp)
  rw [zhn hn]
  generalize vs.getD 0 undef = v0 at *
  generalize vs.getD 1 undef = v1 at *
  cases h0
  cases h1
  refine (Tryz.strings_TrimRight_one ⟨s.toArray⟩ c hc w (by simpa [ByteArray.size] using hs)).mono ?_
  rintro e w' ⟨rfl, rfl⟩
  exact ⟨_, S, rfl, .s _ _, zek _ S hv hg⟩
theorem zjH (s : List UInt8) (c : UInt8) (hc : c.toNat < 128 := by decide) : Ctr Tryz.prog 121 [.s s, .s [c]] (.s (Lib.trimLeftB s c)) := by
  intro w S vs hv hg hn hr
  have h0 := hr 0 (by simp)
  have h1 := hr 1 (by simp)
  rw [zhn hn]
  generalize vs.getD 0 undef = v0 at *
  generalize vs.getD 1 undef = v1 at *
  cases h0
  cases h1
  refine (Tryz.strings_TrimLeft_one ⟨s.toArray⟩ c hc w).mono ?_
  rintro e w' ⟨rfl, rfl⟩
  exact ⟨_, S, rfl, .s _ _, zek _ S hv hg⟩
theorem zeF (s : List UInt8) (c : Int) : Ctr Tryz.prog 82 [.s s, .i .u8 c] (.i .i64 (Lib.indexByte s c.toNat.toUInt8)) := by
  intro w S vs hv hg hn hr
  have h0 := hr 0 (by simp)
  have h1 := hr 1 (by simp)
  rw [zhn hn]
  generalize vs.getD 0 undef = v0 at *
  generalize vs.getD 1 undef = v1 at *
  cases h0
  cases h1
  refine (Tryz.strings_IndexByte ⟨s.toArray⟩ c w).mono ?_
  rintro e w' ⟨rfl, rfl⟩
  exact ⟨_, S, rfl, .i _ _ _, zek _ S hv hg⟩
theorem zmO (s : List UInt8) (c : Nat) (hc : c ≤ 9223372036854775807) (hlen : s.length * c ≤ 140737488355328) : Ctr Tryz.prog 114 [.s s, .i .i64 c] (.s (Lib.repeatL s c)) := by
  intro w S vs hv hg hn hr
  have h0 := hr 0 (by simp)
  have h1 := hr 1 (by simp)
  rw [zhn hn]
  generalize vs.getD 0 undef = v0 at *
  generalize vs.getD 1 undef = v1 at *
  cases h0
  cases h1
  refine (Tryz.strings_Repeat ⟨s.toArray⟩ c w hc (by simpa [ByteArray.size] using hlen)).mono ?_
  rintro e w' ⟨rfl, hb⟩
  exact ⟨_, S, rfl, .s _ _, zgL hv hg hb⟩
theorem zkf (w : World) (k : Nat) (os : Array Obj) : RowKit.Below w.heap.size w (Sort.grow (w.drewN k) os) where
  os := rfl
  tape := rfl
  output := rfl
  size := by show w.heap.size ≤ (w.heap ++ os).size; rw [Array.size_append]; omega
  block := fun j hj => by
    show (w.heap ++ os)[j]? = w.heap[j]?
    rw [Array.getElem?_append_left hj]

set_option maxHeartbeats 1000000 in
theorem zlq (neg : Bool) (s : List UInt8) (e : Int) (hs : s.length ≤ 1099511627776) (h1 : -4611686018427387904 ≤ e) (h2 : e ≤ 4611686018427387904) :
    Ctr Tryz.prog 95 [.b neg, .s s, .i .i64 e] (.tu [dcV (normF neg s e).1, .i .i64 (normF neg s e).2]) := by
  have c1 := zhx s 48 (by omega)
  have c2 := zjH (tR s) 48
  have l1 := zjd s
  have l2 := zoT (tR s)
  generalize hR : normF neg s e = R
  unfold normF at hR
  replace hR := fun _ : Unit => hR.symm
  change Ctr _ _ _ (.s (tR s)) at c1
  change Ctr _ _ _ (.s (tL (tR s))) at c2
  generalize tL (tR s) = d at *
  have hne : ¬ d = ({ data := #[] } : ByteArray).data.toList → ¬ d.length = 0 := fun h h2 => h (List.length_eq_zero_iff.1 h2)
  generalize tR s = r at *
  refine zaE Tryz.func95 rfl Tryz.ntmps95 Tryz.results95 rfl rfl fun X hL hX => ?_
  repeat' (first |with_reducible (first |refine zag ?_|refine zaa ?_|refine zaf ?_|refine zad ?_|refine zaj ?_|refine zah ?_|refine zae ?_|refine zap ?_|refine zam ?_|refine zar ?_)|refine zab rfl rfl True.intro ?_|refine zat rfl rfl rfl ?_|refine zak rfl rfl rfl rfl True.intro ?_|refine zav rfl ?_|((first |refine zac rfl ?_ ?_|refine zbJ rfl ?_ ?_|refine zan rfl rfl ?_ ?_)<;>intro)|((first |refine zab rfl rfl ?_ ?_|refine zao rfl rfl ?_ ?_|refine zaw rfl ?_ ?_);focus (first |omega|((repeat' refine And.intro ?_ ?_)<;>omega)|((repeat' refine And.intro ?_ ?_)<;>first |rfl|exact Nat.le_refl _)))|refine zau rfl ?_|refine zai (f := 120) rfl rfl Tryz.call120 rfl c1 ?_|refine zai (f := 121) rfl rfl Tryz.call121 rfl c2 ?_|fail)
  · rename_i h
    rw [hR (), if_pos (by rw [h]; rfl)]
    rfl
  · rw [hR (), if_neg (hne ‹_›), if_pos (by omega)]
    rfl
  · rw [hR (), if_neg (hne ‹_›), if_neg (by omega), if_pos (by omega)]
    rfl
  · rw [hR (), if_neg (hne ‹_›), if_neg (by omega), if_pos (by omega)]
    rfl
  · rw [hR (), if_neg (hne ‹_›), if_neg (by omega), if_neg (by omega)]
    rfl

def isD (c : UInt8) : Bool := decide (48 ≤ (c.toNat : Int) ∧ (c.toNat : Int) ≤ 57)
theorem zbE {c : UInt8} : isD c = true ↔ 48 ≤ (c.toNat : Int) ∧ (c.toNat : Int) ≤ 57 := by simp [isD]
def dgT (s : List UInt8) (i : Nat) : List UInt8 := (s.drop i).takeWhile isD
theorem zdn {s : List UInt8} {i : Nat} (h : i < s.length) : s.drop i = s.getD i 0 :: s.drop (i + 1) := by
  rw [List.drop_eq_getElem_cons h]
  simp [List.getD_eq_getElem?_getD, h]
theorem zpN {s : List UInt8} {i : Nat} (h : i < s.length) (h2 : 48 ≤ at' s i ∧ at' s i ≤ 57) : dgT s i = s.getD i 0 :: dgT s (i + 1) := by
  unfold dgT
  rw [zdn h, List.takeWhile_cons, if_pos]
  exact zbE.2 h2
theorem zqL {s : List UInt8} {i : Nat} (h : ¬ i < s.length ∨ ¬ (48 ≤ at' s i ∧ at' s i ≤ 57)) : dgT s i = [] := by
  unfold dgT
  by_cases hi : i < s.length
  · rw [zdn hi, List.takeWhile_cons, if_neg]
    intro h2
    rcases h with h | h
    · exact h hi
    · exact h (zbE.1 h2)
  · rw [List.drop_eq_nil_of_le (by omega)]
    rfl
theorem zdW {p : UInt8 → Bool} : ∀ l : List UInt8, l.take (l.takeWhile p).length = l.takeWhile p
  | [] => by simp
  | c :: r => by
    rw [List.takeWhile_cons]
    split
    · simp [zdW r]
    · simp
theorem zcX (s : List UInt8) (i : Nat) : (dgT s i).length ≤ s.length - i := by
  have := List.takeWhile_sublist (p := isD) (l := s.drop i)
  have := this.length_le
  unfold dgT
  simpa using this
theorem zsi (s : List UInt8) (i : Nat) : (s.take (i + (dgT s i).length)).drop i = dgT s i := by
  rw [List.drop_take, show i + (dgT s i).length - i = (dgT s i).length by omega]
  exact zdW _
theorem ziF (s : List UInt8) (i : Nat) : ∀ c ∈ dgT s i, isD c = true := fun c hc => by
  unfold dgT at hc
  generalize s.drop i = l at hc
  induction l with
  | nil => simp at hc
  | cons a r ih =>
    rw [List.takeWhile_cons] at hc
    split at hc
    · rcases List.mem_cons.1 hc with rfl | hc
      · assumption
      · exact ih hc
    · simp at hc
def sat (s : List UInt8) (i : Nat) (c : Int) : Prop := i < s.length ∧ at' s i = c
instance (s : List UInt8) (i : Nat) (c : Int) : Decidable (sat s i c) := by unfold sat; infer_instance
def whN (s : List UInt8) (i : Nat) : List UInt8 × Nat := if sat s i 48 then ([48], i + 1) else (dgT s i, i + (dgT s i).length)
def frN (s : List UInt8) (j : Nat) : List UInt8 × Nat := if sat s j 46 ∧ ¬ dgT s (j + 1) = [] then (dgT s (j + 1), j + 1 + (dgT s (j + 1)).length) else ([], j)
def sgN (s : List UInt8) (a : Nat) : Nat := if sat s a 43 ∨ sat s a 45 then a + 1 else a
def exN (pw : List UInt8 → Int) (s : List UInt8) (k : Nat) : Int × Nat :=
  if (sat s k 101 ∨ sat s k 69) ∧ ¬ dgT s (sgN s (k + 1)) = [] then
    (if sat s (k + 1) 45 then -pw (dgT s (sgN s (k + 1))) else pw (dgT s (sgN s (k + 1))), sgN s (k + 1) + (dgT s (sgN s (k + 1))).length)
  else (0, k)
def sg0 (s : List UInt8) : Nat := if sat s 0 45 then 1 else 0
def parseG (pw : List UInt8 → Int) (s : List UInt8) : (Bool × List UInt8 × Int) × Nat × Int :=
  if (whN s (sg0 s)).1 = [] then ((false, [], 0), 0, 3)
  else
    let w := whN s (sg0 s)
    let f := frN s w.2
    let x := exN pw s f.2
    let r := normF (decide (sat s 0 45)) (w.1 ++ f.1) (x.1 - f.1.length)
    if r.2 = 0 then (r.1, x.2, 0) else ((false, [], 0), 0, r.2)
def powP (x : List UInt8) : Int := x.foldl (fun n c => min (10 * n + ((c.toNat : Int) - 48)) 1099511627776) 0
def powR (x : List UInt8) : Int := x.foldl (fun n c => if n < 1000000000 then 10 * n + (c.toNat : Int) - 48 else n) 0
theorem zlf : ∀ (x : List UInt8) (a b : Int), (∀ c ∈ x, isD c = true) → 0 ≤ a → (a = b ∧ a < 1000000000 ∨ 1000000000 ≤ a ∧ 1000000000 ≤ b) →
    let p := x.foldl (fun n c => min (10 * n + ((c.toNat : Int) - 48)) 1099511627776) a
    let r := x.foldl (fun n c => if n < 1000000000 then 10 * n + (c.toNat : Int) - 48 else n) b
    0 ≤ p ∧ (p = r ∧ p < 1000000000 ∨ 1000000000 ≤ p ∧ 1000000000 ≤ r)
  | [], a, b, _, h0, h => ⟨h0, h⟩
  | c :: x, a, b, hx, h0, h => by
    have hc := zbE.1 (hx c (by simp))
    simp only [List.foldl_cons]
    refine zlf x _ _ (fun c h => hx c (by simp [h])) (by omega) ?_
    split <;> omega
theorem ztZ (x : List UInt8) (hx : ∀ c ∈ x, isD c = true) : 0 ≤ powP x ∧ (powP x = powR x ∧ powP x < 1000000000 ∨ 1000000000 ≤ powP x ∧ 1000000000 ≤ powR x) := zlf x 0 0 hx (by omega) (.inl ⟨rfl, by omega⟩)
theorem zoh : ∀ (x : List UInt8) (a : Int), a ≤ 1099511627776 → x.foldl (fun n c => min (10 * n + ((c.toNat : Int) - 48)) 1099511627776) a ≤ 1099511627776
  | [], a, h => h
  | c :: x, a, h => by
    simp only [List.foldl_cons]
    exact zoh x _ (by omega)
end Go.Proofs.YtcajofhafpkbdaaGreatDoor.Flow
