/- The texts T8, T5, H2, FlowW, FlowX, FlowY, Mb, one behind the other. -/
import Derived.Test.YtkkaamhocpmhkaaGreatDoorJJ10
import Derived.Test.YtkkaamhocpmhkaaGreatDoorJJ14
import Derived.Test.YtkkaamhocpmhkaaGreatDoorJJ15
import Derived.Test.YtkkaamhocpmhkaaGreatDoorJJ16
import Derived.MapKept
namespace Go.Proofs.YtkkaamhocpmhkaaGreatDoor.Flow
open Go
abbrev vlD (k : Int) (s : List UInt8) (b : Int) : D := .ag [.i .i64 k, .s s, .i .u64 b]
instance (N D : Nat) : Decidable (overB N D) := by
  unfold overB
  infer_instance
def typedF (s : List UInt8) (texts : Bool) : (Int × List UInt8 × Int) × Bool :=
  if s.length = 0 ∨ validL s = false then ((0, [], 0), false)
  else if texts = true ∨ isNum s = false then ((1, s, 0), true)
  else if (intF (parseG powP s).1.1 (parseG powP s).1.2.1 (parseG powP s).1.2.2).2 = true ∧ dotE s = false then ((4, [], IntKind.u64.wrap (intF (parseG powP s).1.1 (parseG powP s).1.2.1 (parseG powP s).1.2.2).1), true)
  else if overB (numV (parseG powP s).1.2.1 (parseG powP s).1.2.2) (denV (parseG powP s).1.2.2) then ((1, s, 0), true)
  else ((3, [], (bitsV (parseG powP s).1.1 (parseG powP s).1.2.1 (parseG powP s).1.2.2 : Nat)), true)
theorem ziW (s : List UInt8) (hs : s.length ≤ 1048576) (ha : ∀ c ∈ s, c.toNat < 128) : Ctr Tryz.prog 80 [.s s, .s [46, 101, 69]] (.b (dotE s)) := by
  intro w S vs hv hg hn hr
  have h0 := hr 0 (by simp)
  have h1 := hr 1 (by simp)
  rw [zeS hn]
  generalize vs.getD 0 undef = v0 at *
  generalize vs.getD 1 undef = v1 at *
  cases h0
  cases h1
  refine (Tryz.strings_ContainsAny_laid ⟨s.toArray⟩ ⟨#[46, 101, 69]⟩ w (by simp [ByteArray.size]; omega) (by decide) (fun j b hb => ha b ?_) (fun j b hb => ?_)).mono ?_
  · have hb : s[j]? = some b := by simpa using hb
    exact List.mem_of_getElem? hb
  · have hb : ([46, 101, 69] : List UInt8)[j]? = some b := by simpa using hb
    have hb := List.mem_of_getElem? hb
    simp at hb
    rcases hb with rfl | rfl | rfl <;> decide
  · rintro e w' ⟨rfl, hb⟩
    refine ⟨_, S, rfl, ?_, zbU hv hg hb⟩
    have e1 : Lib.containsAny (⟨s.toArray⟩ : ByteArray).data.toList (⟨#[46, 101, 69]⟩ : ByteArray).data.toList = dotE s := znQ s
    rw [e1]
    exact .b ..
theorem zdy {s : List UInt8} : isNum s = true ↔ (parseG powP s).2.2 = 0 ∧ ((parseG powP s).2.1 : Int) = s.length := by
  unfold isNum
  rw [decide_eq_true_iff]
  omega
theorem zis (s : List UInt8) (hs : s.length ≤ 1048576) : Ctr Tryz.prog 77 [.s s] (.b (isNum s)) := by
  have c1 := parse_ctr s hs
  have hi := zdy (s := s)
  generalize isNum s = B at *
  generalize parseG powP s = R at *
  obtain ⟨d, n, e⟩ := R
  dsimp only at hi c1
  have hT : e = 0 → (n : Int) = s.length → D.b true = .b B := fun h h2 => by rw [hi.2 ⟨h, h2⟩]
  have hF : (¬ e = 0 ∨ ¬ (n : Int) = s.length) → D.b false = .b B := fun h => by
    have : ¬ B = true := fun h2 => by
      have := hi.1 h2
      omega
    rw [Bool.eq_false_iff.2 this]
  refine zax Tryz.func77 rfl Tryz.ntmps77 Tryz.results77 rfl rfl fun X hL hX => ?_
  clear hi
  repeat' (first |with_reducible (first |refine zah ?_|refine zaa ?_|refine zag ?_|refine zad ?_|refine zan ?_)|refine zab rfl rfl True.intro ?_|refine zap rfl rfl rfl ?_|refine zaj rfl rfl rfl rfl True.intro ?_|((first |refine zak rfl rfl ?_ ?_)<;>intro)|((first |refine zav rfl rfl ?_ ?_|refine zaH rfl ?_ ?_);focus (first |((repeat' refine And.intro ?_ ?_)<;>omega)|((repeat' refine And.intro ?_ ?_)<;>first |rfl|exact Nat.le_refl _)))|refine zaq rfl ?_|refine zae (f := 78) rfl rfl Tryz.call78 rfl c1 ?_|fail)
  all_goals
    first
      | exact hT (by omega) (by omega)
      | exact hF (by omega)
      | (by_cases hz : (n : Int) = s.length
         · simp only [hz, beq_self_eq_true]
           exact hT (by omega) hz
         · have hq : ((n : Int) == (s.length : Int)) = false := by simpa using hz
           simp only [hq]
           exact hF (.inr hz))
theorem zmV (s : List UInt8) (hs : s.length ≤ 1048576) (texts : Bool) (h : s.length = 0 ∨ validL s = false) : Ctr Tryz.prog 42 [.s s, .b texts] (.tu [vlD 0 [] 0, .b false]) := by
  have c1 := zdz s (by omega)
  by_cases h0 : s.length = 0
  · obtain rfl := zdV h0
    clear h
    refine zax Tryz.func42 rfl Tryz.ntmps42 Tryz.results42 rfl rfl fun X hL hX => ?_
    repeat' (first |with_reducible (first |refine zah ?_|refine zaa ?_|refine zag ?_|refine zad ?_|refine zan ?_|refine zam ?_)|refine zab rfl rfl True.intro ?_|refine zap rfl rfl rfl ?_|refine zau rfl ?_|((first |refine zav rfl rfl ?_ ?_|refine zaH rfl ?_ ?_);focus (first |((repeat' refine And.intro ?_ ?_)<;>omega)|((repeat' refine And.intro ?_ ?_)<;>first |rfl|exact Nat.le_refl _)))|refine zaq rfl ?_|fail)
    all_goals rfl
  · have hv : validL s = false := h.resolve_left h0
    rw [hv] at c1
    clear h hv
    refine zax Tryz.func42 rfl Tryz.ntmps42 Tryz.results42 rfl rfl fun X hL hX => ?_
    repeat' (first |with_reducible (first |refine zah ?_|refine zaa ?_|refine zag ?_|refine zad ?_|refine zan ?_|refine zam ?_)|refine zab rfl rfl True.intro ?_|refine zap rfl rfl rfl ?_|refine zaj rfl rfl rfl rfl True.intro ?_|refine zau rfl ?_|((first |refine zbh rfl rfl ?_ ?_)<;>intro)|((first |refine zav rfl rfl ?_ ?_|refine zaH rfl ?_ ?_);focus (first |((repeat' refine And.intro ?_ ?_)<;>omega)|((repeat' refine And.intro ?_ ?_)<;>first |rfl|exact Nat.le_refl _)))|refine zaq rfl ?_|refine zaw (f := 66) rfl rfl rfl rfl Tryz.call66 rfl c1 ?_|fail)
    all_goals rfl
theorem zkI (s : List UInt8) (hs : s.length ≤ 1048576) (texts : Bool) (h0 : ¬ s.length = 0) (hv : validL s = true) (h : texts = true ∨ isNum s = false) : Ctr Tryz.prog 42 [.s s, .b texts] (.tu [vlD 1 s 0, .b true]) := by
  have c1 := zdz s (by omega)
  rw [hv] at c1
  have c2 := zis s hs
  have hne : ¬ s = ({ data := #[] } : ByteArray).data.toList := fun h2 => h0 (by rw [h2]; rfl)
  clear hv h0
  cases texts with
  | true =>
    clear h
    refine zax Tryz.func42 rfl Tryz.ntmps42 Tryz.results42 rfl rfl fun X hL hX => ?_
    repeat' (first |with_reducible (first |refine zah ?_|refine zaa ?_|refine zag ?_|refine zad ?_|refine zan ?_|refine zai ?_|refine zam ?_)|refine zab rfl rfl True.intro ?_|refine zap rfl rfl rfl ?_|refine zaj rfl rfl rfl rfl True.intro ?_|refine zau rfl ?_|refine zal rfl ?_|((first |refine zbh rfl rfl ?_ ?_)<;>intro)|((first |refine zab rfl rfl ?_ ?_|refine zav rfl rfl ?_ ?_|refine zaH rfl ?_ ?_);focus (first |exact le_ rfl|((repeat' refine And.intro ?_ ?_)<;>omega)|((repeat' refine And.intro ?_ ?_)<;>first |rfl|exact Nat.le_refl _)))|refine zaq rfl ?_|refine zaw (f := 66) rfl rfl rfl rfl Tryz.call66 rfl c1 ?_|fail)
    all_goals first | rfl | exact absurd ‹_› hne
  | false =>
    have hq : isNum s = false := h.resolve_left (by decide)
    rw [hq] at c2
    clear h hq
    refine zax Tryz.func42 rfl Tryz.ntmps42 Tryz.results42 rfl rfl fun X hL hX => ?_
    repeat' (first |with_reducible (first |refine zah ?_|refine zaa ?_|refine zag ?_|refine zad ?_|refine zan ?_|refine zai ?_|refine zam ?_)|refine zab rfl rfl True.intro ?_|refine zap rfl rfl rfl ?_|refine zaj rfl rfl rfl rfl True.intro ?_|refine zau rfl ?_|refine zal rfl ?_|((first |refine zbh rfl rfl ?_ ?_)<;>intro)|((first |refine zab rfl rfl ?_ ?_|refine zav rfl rfl ?_ ?_|refine zaH rfl ?_ ?_);focus (first |exact le_ rfl|((repeat' refine And.intro ?_ ?_)<;>omega)|((repeat' refine And.intro ?_ ?_)<;>first |rfl|exact Nat.le_refl _)))|refine zaq rfl ?_|refine zaw (f := 66) rfl rfl rfl rfl Tryz.call66 rfl c1 ?_|refine zaw (f := 77) rfl rfl rfl rfl Tryz.call77 rfl c2 ?_|fail)
    all_goals first | rfl | exact absurd ‹_› hne
theorem znX (s : List UInt8) (hs : s.length ≤ 1048576) (h0 : ¬ s.length = 0) (hv : validL s = true) (h : isNum s = true) (R : (Int × List UInt8 × Int) × Bool) (hR : typedF s false = R) : Ctr Tryz.prog 42 [.s s, .b false] (.tu [vlD R.1.1 R.1.2.1 R.1.2.2, .b R.2]) := by
  have c1 := zdz s (by omega)
  have c2 := zis s hs
  have c3 := parse_ctr s hs
  obtain ⟨p1, p2⟩ := zdy.1 h
  have hasc := zib p1 (by omega)
  have c4 := ziW s hs hasc
  have hr := zeO p1
  have hb := hr.bounds
  have c5 := zqo (parseG powP s).1.1 (parseG powP s).1.2.1 (parseG powP s).1.2.2 (by omega)
  unfold typedF at hR
  rw [if_neg (fun h2 => h2.elim h0 (by rw [hv]; simp)), if_neg (fun h2 => h2.elim (by simp) (by rw [h]; simp))] at hR
  rw [hv] at c1
  rw [h] at c2
  have hne : ¬ s = ({ data := #[] } : ByteArray).data.toList := fun h2 => h0 (by rw [h2]; rfl)
  clear hv h0 h hasc p1 p2
  generalize parseG powP s = G at *
  obtain ⟨⟨neg, d, e⟩, n, er⟩ := G
  dsimp only at *
  generalize hN : intF neg d e = N at *
  obtain ⟨k, ok⟩ := N
  dsimp only at *
  by_cases hi : ok = true ∧ dotE s = false
  · rw [if_pos hi] at hR
    obtain ⟨rfl, hd⟩ := hi
    rw [hd] at c4
    subst hR
    clear hN hd hr
    refine zax Tryz.func42 rfl Tryz.ntmps42 Tryz.results42 rfl rfl fun X hL hX => ?_
    repeat' (first |with_reducible (first |refine zah ?_|refine zaa ?_|refine zag ?_|refine zad ?_|refine zan ?_|refine zai ?_|refine zam ?_)|refine zab rfl rfl True.intro ?_|refine zap rfl rfl rfl ?_|refine zaj rfl rfl rfl rfl True.intro ?_|refine zau rfl ?_|refine zal rfl ?_|((first |refine zbh rfl rfl ?_ ?_)<;>intro)|((first |refine zab rfl rfl ?_ ?_|refine zav rfl rfl ?_ ?_|refine zaH rfl ?_ ?_);focus (first |exact le_ rfl|((repeat first |rw [zar]);(repeat' refine And.intro ?_ ?_)<;>omega)|((repeat' refine And.intro ?_ ?_)<;>first |rfl|exact Nat.le_refl _)))|refine zaq rfl ?_|refine zaw (f := 66) rfl rfl rfl rfl Tryz.call66 rfl c1 ?_|refine zaw (f := 77) rfl rfl rfl rfl Tryz.call77 rfl c2 ?_|refine zae (f := 78) rfl rfl Tryz.call78 rfl c3 ?_|refine zae (f := 79) rfl rfl Tryz.call79 rfl c5 ?_|refine zaw (f := 80) rfl rfl rfl rfl Tryz.call80 rfl c4 ?_|fail)
    all_goals first | rfl | exact absurd ‹_› hne
  · rw [if_neg hi] at hR
    have hi2 : ok = true → dotE s = true := fun h => by
      cases hd : dotE s with
      | true => rfl
      | false => exact absurd ⟨h, hd⟩ hi
    clear hi hN
    by_cases ho : overB (numV d e) (denV e)
    · rw [if_pos ho] at hR
      have c6 := znp neg d e hr ho
      subst hR
      clear ho hr
      cases ok with
      | true =>
        rw [hi2 rfl] at c4
        clear hi2
        refine zax Tryz.func42 rfl Tryz.ntmps42 Tryz.results42 rfl rfl fun X hL hX => ?_
        repeat' (first |with_reducible (first |refine zah ?_|refine zaa ?_|refine zag ?_|refine zad ?_|refine zan ?_|refine zai ?_|refine zam ?_)|refine zab rfl rfl True.intro ?_|refine zap rfl rfl rfl ?_|refine zaj rfl rfl rfl rfl True.intro ?_|refine zau rfl ?_|refine zal rfl ?_|((first |refine zbh rfl rfl ?_ ?_)<;>intro)|((first |refine zab rfl rfl ?_ ?_|refine zav rfl rfl ?_ ?_|refine zaH rfl ?_ ?_);focus (first |exact le_ rfl|((repeat' refine And.intro ?_ ?_)<;>omega)|((repeat' refine And.intro ?_ ?_)<;>first |rfl|exact Nat.le_refl _)))|refine zaq rfl ?_|refine zaw (f := 66) rfl rfl rfl rfl Tryz.call66 rfl c1 ?_|refine zaw (f := 77) rfl rfl rfl rfl Tryz.call77 rfl c2 ?_|refine zae (f := 78) rfl rfl Tryz.call78 rfl c3 ?_|refine zae (f := 79) rfl rfl Tryz.call79 rfl c5 ?_|refine zaw (f := 80) rfl rfl rfl rfl Tryz.call80 rfl c4 ?_|refine zae (f := 81) rfl rfl Tryz.call81 rfl c6 ?_|fail)
        all_goals first | rfl | exact absurd ‹_› hne
      | false =>
        clear hi2
        refine zax Tryz.func42 rfl Tryz.ntmps42 Tryz.results42 rfl rfl fun X hL hX => ?_
        repeat' (first |with_reducible (first |refine zah ?_|refine zaa ?_|refine zag ?_|refine zad ?_|refine zan ?_|refine zai ?_|refine zam ?_)|refine zab rfl rfl True.intro ?_|refine zap rfl rfl rfl ?_|refine zaj rfl rfl rfl rfl True.intro ?_|refine zau rfl ?_|refine zal rfl ?_|((first |refine zbh rfl rfl ?_ ?_)<;>intro)|((first |refine zab rfl rfl ?_ ?_|refine zav rfl rfl ?_ ?_|refine zaH rfl ?_ ?_);focus (first |exact le_ rfl|((repeat' refine And.intro ?_ ?_)<;>omega)|((repeat' refine And.intro ?_ ?_)<;>first |rfl|exact Nat.le_refl _)))|refine zaq rfl ?_|refine zaw (f := 66) rfl rfl rfl rfl Tryz.call66 rfl c1 ?_|refine zaw (f := 77) rfl rfl rfl rfl Tryz.call77 rfl c2 ?_|refine zae (f := 78) rfl rfl Tryz.call78 rfl c3 ?_|refine zae (f := 79) rfl rfl Tryz.call79 rfl c5 ?_|refine zae (f := 81) rfl rfl Tryz.call81 rfl c6 ?_|fail)
        all_goals first | rfl | exact absurd ‹_› hne
    · rw [if_neg ho] at hR
      have c6 := zqX neg d e hr ho
      subst hR
      clear ho hr
      generalize bitsV neg d e = bb at *
      cases ok with
      | true =>
        rw [hi2 rfl] at c4
        clear hi2
        refine zax Tryz.func42 rfl Tryz.ntmps42 Tryz.results42 rfl rfl fun X hL hX => ?_
        repeat' (first |with_reducible (first |refine zah ?_|refine zaa ?_|refine zag ?_|refine zad ?_|refine zan ?_|refine zai ?_|refine zam ?_)|refine zab rfl rfl True.intro ?_|refine zap rfl rfl rfl ?_|refine zaj rfl rfl rfl rfl True.intro ?_|refine zau rfl ?_|refine zal rfl ?_|((first |refine zbh rfl rfl ?_ ?_)<;>intro)|((first |refine zab rfl rfl ?_ ?_|refine zav rfl rfl ?_ ?_|refine zaH rfl ?_ ?_);focus (first |exact le_ rfl|((repeat' refine And.intro ?_ ?_)<;>omega)|((repeat' refine And.intro ?_ ?_)<;>first |rfl|exact Nat.le_refl _)))|refine zaq rfl ?_|refine zaw (f := 66) rfl rfl rfl rfl Tryz.call66 rfl c1 ?_|refine zaw (f := 77) rfl rfl rfl rfl Tryz.call77 rfl c2 ?_|refine zae (f := 78) rfl rfl Tryz.call78 rfl c3 ?_|refine zae (f := 79) rfl rfl Tryz.call79 rfl c5 ?_|refine zaw (f := 80) rfl rfl rfl rfl Tryz.call80 rfl c4 ?_|refine zae (f := 81) rfl rfl Tryz.call81 rfl c6 ?_|fail)
        all_goals first | rfl | exact absurd ‹_› hne
      | false =>
        clear hi2
        refine zax Tryz.func42 rfl Tryz.ntmps42 Tryz.results42 rfl rfl fun X hL hX => ?_
        repeat' (first |with_reducible (first |refine zah ?_|refine zaa ?_|refine zag ?_|refine zad ?_|refine zan ?_|refine zai ?_|refine zam ?_)|refine zab rfl rfl True.intro ?_|refine zap rfl rfl rfl ?_|refine zaj rfl rfl rfl rfl True.intro ?_|refine zau rfl ?_|refine zal rfl ?_|((first |refine zbh rfl rfl ?_ ?_)<;>intro)|((first |refine zab rfl rfl ?_ ?_|refine zav rfl rfl ?_ ?_|refine zaH rfl ?_ ?_);focus (first |exact le_ rfl|((repeat' refine And.intro ?_ ?_)<;>omega)|((repeat' refine And.intro ?_ ?_)<;>first |rfl|exact Nat.le_refl _)))|refine zaq rfl ?_|refine zaw (f := 66) rfl rfl rfl rfl Tryz.call66 rfl c1 ?_|refine zaw (f := 77) rfl rfl rfl rfl Tryz.call77 rfl c2 ?_|refine zae (f := 78) rfl rfl Tryz.call78 rfl c3 ?_|refine zae (f := 79) rfl rfl Tryz.call79 rfl c5 ?_|refine zae (f := 81) rfl rfl Tryz.call81 rfl c6 ?_|fail)
        all_goals first | rfl | exact absurd ‹_› hne
theorem zhO (s : List UInt8) (hs : s.length ≤ 1048576) (texts : Bool) : Ctr Tryz.prog 42 [.s s, .b texts] (.tu [vlD (typedF s texts).1.1 (typedF s texts).1.2.1 (typedF s texts).1.2.2, .b (typedF s texts).2]) := by
  by_cases h1 : s.length = 0 ∨ validL s = false
  · have e : typedF s texts = ((0, [], 0), false) := if_pos h1
    rw [e]
    exact zmV s hs texts h1
  · have h0 : ¬ s.length = 0 := fun h => h1 (.inl h)
    have hv : validL s = true := by
      cases hv : validL s with
      | true => rfl
      | false => exact absurd (.inr hv) h1
    by_cases h2 : texts = true ∨ isNum s = false
    · have e : typedF s texts = ((1, s, 0), true) := by
        unfold typedF
        rw [if_neg h1, if_pos h2]
      rw [e]
      exact zkI s hs texts h0 hv h2
    · obtain rfl : texts = false := Bool.eq_false_iff.2 fun h => h2 (.inl h)
      have hn : isNum s = true := by
        cases hn : isNum s with
        | true => rfl
        | false => exact absurd (.inr hn) h2
      exact znX s hs h0 hv hn _ rfl

theorem zoR (m : Nat) (e : Int) : whF (hv (2 * m) (e - 1)) = whF (hv m e) := by
  by_cases hm : m = 0
  · subst hm
    rw [zci (by omega), zci (by omega)]
    rfl
  · by_cases he : e ≤ 0
    · rw [zhm (m := 2 * m) (by omega), show 2 * m / 2 = m by omega, show e - 1 + 1 = e by omega]
    · rw [zci (by omega), zci (by omega)]
      unfold whF
      dsimp only
      have h1 : 2 * m * 2 ^ (e - 1).toNat = m * 2 ^ e.toNat := by
        rw [show e.toNat = (e - 1).toNat + 1 by omega, Nat.pow_succ, Nat.mul_comm 2 m, Nat.mul_assoc, Nat.mul_comm 2]
      rw [if_neg (show ¬ 2 * m = 0 by omega), if_neg (show ¬ e - 1 < 0 by omega), if_neg (show ¬ m = 0 from hm), if_neg (show ¬ e < 0 by omega), h1]
theorem zgW (m : Nat) (e : Int) : ∀ j : Nat, whF (hv (m * 2 ^ j) (e - j)) = whF (hv m e)
  | 0 => by simp
  | j + 1 => by
    have h1 : m * 2 ^ (j + 1) = 2 * (m * 2 ^ j) := by rw [Nat.pow_succ, ← Nat.mul_assoc, Nat.mul_comm]
    rw [h1, show e - ((j + 1 : Nat) : Int) = e - j - 1 by omega, zoR]
    exact zgW m e j
def mS (b : Nat) : Nat := if b / 8388608 % 256 = 0 then b % 8388608 else b % 8388608 + 8388608
def eS (b : Nat) : Int := if b / 8388608 % 256 = 0 then -149 else ((b / 8388608 % 256 : Nat) : Int) - 150
def singleF (b : Nat) : Option Int :=
  if b / 8388608 % 256 = 255 then none
  else match whF (hv (mS b) (eS b)) with
    | none => none
    | some n => some (if 2147483648 ≤ b then -(n : Int) else n)
def wideF (b n : Nat) : Nat :=
  (if 2147483648 ≤ b then 9223372036854775808 else 0) +
    (if b / 8388608 % 256 = 0 then (if b % 8388608 = 0 then 0 else (n + 873) * 4503599627370496 + (b % 8388608 * 2 ^ (53 - n) - 4503599627370496))
     else (b / 8388608 % 256 + 896) * 4503599627370496 + b % 8388608 * 536870912)
theorem zqH {b n : Nat} (hb : b < 4294967296) (hx : b / 8388608 % 256 ≠ 255) (hn : b % 8388608 ≠ 0 → 2 ^ (n - 1) ≤ b % 8388608 ∧ b % 8388608 < 2 ^ n ∧ 1 ≤ n ∧ n ≤ 23) :
    wideF b n < 18446744073709551616 ∧ wholeF (wideF b n) = singleF b := by
  have hs : ∀ B : Nat, B < 9218868437227405312 → (if 2147483648 ≤ b then 9223372036854775808 else 0) + B < 18446744073709551616 ∧
      xP ((if 2147483648 ≤ b then 9223372036854775808 else 0) + B) = xB B ∧ ((if 2147483648 ≤ b then 9223372036854775808 else 0) + B) % 9223372036854775808 = B ∧
      (9223372036854775808 ≤ (if 2147483648 ≤ b then 9223372036854775808 else 0) + B ↔ 2147483648 ≤ b) := fun B hB => by
    unfold xP xB
    split <;> omega
  have fin : ∀ B : Nat, B < 9218868437227405312 → whF (hv (mB B) (eB B)) = whF (hv (mS b) (eS b)) → (if 2147483648 ≤ b then 9223372036854775808 else 0) + B < 18446744073709551616 ∧ wholeF ((if 2147483648 ≤ b then 9223372036854775808 else 0) + B) = singleF b := by
    intro B hB hw
    obtain ⟨h1, h2, h3, h4⟩ := hs B hB
    refine ⟨h1, ?_⟩
    have hxb : xB B < 2047 := by
      unfold xB
      omega
    unfold wholeF singleF
    rw [h2, if_neg (by omega), if_neg hx, h3, hw]
    cases hz : whF (hv (mS b) (eS b)) with
    | none => rfl
    | some n =>
      dsimp only
      by_cases hn : 2147483648 ≤ b
      · rw [if_pos (h4.2 hn), if_pos hn]
      · rw [if_neg (fun h => hn (h4.1 h)), if_neg hn]
  unfold wideF
  by_cases h0 : b / 8388608 % 256 = 0
  · rw [if_pos h0]
    by_cases hf : b % 8388608 = 0
    · rw [if_pos hf]
      refine fin 0 (by decide) ?_
      unfold mS eS
      rw [if_pos h0, if_pos h0, hf]
      have e1 : mB 0 = 0 := by decide
      rw [e1, zci (by omega), zci (by omega)]
      rfl
    · rw [if_neg hf]
      obtain ⟨n1, n2, n3, n4⟩ := hn hf
      generalize hF : b % 8388608 = f at *
      have e52 : (4503599627370496 : Nat) = 2 ^ (n - 1) * 2 ^ (53 - n) := by rw [← Nat.pow_add, show n - 1 + (53 - n) = 52 by omega]
      have e53 : (9007199254740992 : Nat) = 2 ^ n * 2 ^ (53 - n) := by rw [← Nat.pow_add, show n + (53 - n) = 53 by omega]
      have m1 : 4503599627370496 ≤ f * 2 ^ (53 - n) := by rw [e52]; exact Nat.mul_le_mul_right _ n1
      have m2 : f * 2 ^ (53 - n) < 9007199254740992 := by rw [e53]; exact Nat.mul_lt_mul_of_pos_right n2 (Nat.two_pow_pos _)
      have hsh := zgW f (-149) (53 - n)
      generalize f * 2 ^ (53 - n) = M at *
      have hxx : xB ((n + 873) * 4503599627370496 + (M - 4503599627370496)) = n + 873 := by unfold xB; omega
      refine fin _ (by omega) ?_
      have hm : mB ((n + 873) * 4503599627370496 + (M - 4503599627370496)) = M := by
        unfold mB
        rw [hxx, if_neg (by omega)]
        omega
      have he : eB ((n + 873) * 4503599627370496 + (M - 4503599627370496)) = -149 - ((53 - n : Nat) : Int) := by
        unfold eB
        rw [hxx, if_neg (by omega)]
        omega
      rw [hm, he, hsh]
      unfold mS eS
      rw [if_pos h0, if_pos h0, hF]
  · rw [if_neg h0]
    generalize hX : b / 8388608 % 256 = x at *
    generalize hF : b % 8388608 = f at *
    have hx8 : x < 256 := by omega
    have hf8 : f < 8388608 := by omega
    have hsh := zgW (f + 8388608) ((x : Int) - 150) 29
    have hxx : xB ((x + 896) * 4503599627370496 + f * 536870912) = x + 896 := by unfold xB; omega
    refine fin _ (by omega) ?_
    have hm : mB ((x + 896) * 4503599627370496 + f * 536870912) = (f + 8388608) * 2 ^ 29 := by
      unfold mB
      rw [hxx, if_neg (by omega)]
      omega
    have he : eB ((x + 896) * 4503599627370496 + f * 536870912) = (x : Int) - 150 - ((29 : Nat) : Int) := by
      unfold eB
      rw [hxx, if_neg (by omega)]
      omega
    rw [hm, he, hsh]
    unfold mS eS
    rw [hX, if_neg h0, if_neg h0, hF]
def valR (kind : Int) (b : Bool) (bits : Nat) : Bool :=
  if kind = 1 then b else if kind = 2 then decide (bits < 4294967296) else if kind = 7 then decide (bits < 2) else decide (1 ≤ kind ∧ kind ≤ 7)
def i64F (bits : Nat) : Int := if 9223372036854775808 ≤ bits then (bits : Int) - 18446744073709551616 else bits
def keyF (kind : Int) (s : List UInt8) (valid : Bool) (bits : Nat) : List UInt8 × Bool :=
  if valR kind valid bits = false then ([], false)
  else if kind = 1 then (s, true)
  else if kind = 5 then (Lib.decDigits bits, true)
  else if kind = 7 then ((if bits = 1 then [116, 114, 117, 101] else [102, 97, 108, 115, 101]), true)
  else if kind = 2 then wText (singleF bits)
  else if kind = 3 then wText (wholeF bits)
  else (Lib.itoa (i64F bits), true)

def namesR (rows : List (List Tx)) : List Tx := rows.getD 0 []
def rightN (l : List Tx) : Prop := ∀ i, i < l.length → validL (l.getD i []) = true ∧ l.getD i [] ∉ l.take i
instance (l : List Tx) : Decidable (rightN l) := by unfold rightN; infer_instance
def hasAllT (ns l : List Tx) : Prop := ∀ i, i < l.length → l.getD i [] ∈ ns
instance (ns l : List Tx) : Decidable (hasAllT ns l) := by unfold hasAllT; infer_instance
def tabJ (s : Tx) (j : JnR) : List (List Tx) × Int :=
  if ¬ (Csv.parseG s).2.2 = 0 then ([], (Csv.parseG s).2.2)
  else if ¬ (j.key ∈ namesR (Csv.parseG s).1 ∧ hasAllT (namesR (Csv.parseG s).1) j.only ∧ hasAllT (namesR (Csv.parseG s).1) j.notl) then ([], 6)
  else if ¬ rightN (namesR (Csv.parseG s).1) then ([], 3)
  else ((Csv.parseG s).1, 0)
def joinedP (j : JnR) (nm : Tx) : Bool := if nm ∈ j.notl then false else if 0 < j.only.length then decide (nm ∈ j.only) else decide (¬ nm = j.key)
def colsR (rows : List (List Tx)) (j : JnR) : List Nat := (List.range (namesR rows).length).filter fun i => joinedP j ((namesR rows).getD i [])
def cellR (rows : List (List Tx)) (n i : Nat) : Tx := (rows.getD n []).getD i []
def keysR (rows : List (List Tx)) (k : Nat) : List Tx := (rows.drop 1).map fun r => r.getD k []
def colK (rows : List (List Tx)) (j : JnR) : Nat := (Csv.idxI j.key (namesR rows)).toNat
def attAt (rows : List (List Tx)) (j : JnR) (n i : Nat) : Option AtR := if (typedF (cellR rows n i) j.texts).2 = true then some ((namesR rows).getD i [], (typedF (cellR rows n i) j.texts).1) else none
def attsJ (rows : List (List Tx)) (j : JnR) (n : Nat) : List AtR := (colsR rows j).filterMap (attAt rows j n)
def rowV (rows : List (List Tx)) (j : JnR) (key : Tx) : List AtR × Bool :=
  if Csv.idxI key (keysR rows (colK rows j)) < 0 then ([], false) else (attsJ rows j ((Csv.idxI key (keysR rows (colK rows j))).toNat + 1), true)
def keyV (v : Vl3) : Tx × Bool := keyF v.1 v.2.1 (validL v.2.1) v.2.2.toNat
def attrsJ (rows : List (List Tx)) (j : JnR) (l : List AtR) : List AtR × Bool :=
  if Csv.idxI j.attr (keysA l) < 0 then (l, !j.drop)
  else if (keyV (l.getD (Csv.idxI j.attr (keysA l)).toNat ([], v03)).2).2 = true ∧ (rowV rows j (keyV (l.getD (Csv.idxI j.attr (keysA l)).toNat ([], v03)).2).1).2 = true then
    (overA l (rowV rows j (keyV (l.getD (Csv.idxI j.attr (keysA l)).toNat ([], v03)).2).1).1, true)
  else (l, !j.drop)
def isNumK (v : Vl3) : Bool := decide (¬ v.1 = 1 ∧ ¬ v.1 = 7)
def colVals (rows : List (List Tx)) (j : JnR) (i : Nat) : List Vl3 := ((rows.drop 1).map fun r => typedF (r.getD i []) j.texts).filterMap fun v => if v.2 = true then some v.1 else none
def numberT : Tx := [78, 117, 109, 98, 101, 114]
def stringT : Tx := [83, 116, 114, 105, 110, 103]
def kindJ (rows : List (List Tx)) (j : JnR) (i : Nat) : Tx := if 0 < (colVals rows j i).length ∧ (colVals rows j i).all isNumK = true then numberT else stringT
def fieldsJ (rows : List (List Tx)) (j : JnR) : List (Tx × Tx) := (colsR rows j).map fun i => ((namesR rows).getD i [], kindJ rows j i)
def columnsJ (rows : List (List Tx)) (j : JnR) : List Tx := (colsR rows j).map fun i => (namesR rows).getD i []
structure RightT (n : Nat) (rows : List (List Tx)) (j : JnR) : Prop where
  few : rows.length ≤ n
  some1 : 0 < rows.length
  good : Csv.goodR n rows
  key : j.key ∈ namesR rows
  names : rightN (namesR rows)
theorem zdq {s : Tx} {j : JnR} (h : (tabJ s j).2 = 0) : RightT s.length (tabJ s j).1 j ∧ (tabJ s j).1 = (Csv.parseG s).1 := by
  obtain ⟨h1, h2⟩ := Csv.parse_good s
  unfold tabJ at h ⊢
  by_cases a : ¬ (Csv.parseG s).2.2 = 0
  · rw [if_pos a] at h
    exact absurd h a
  rw [if_neg a] at h ⊢
  by_cases b : ¬ (j.key ∈ namesR (Csv.parseG s).1 ∧ hasAllT (namesR (Csv.parseG s).1) j.only ∧ hasAllT (namesR (Csv.parseG s).1) j.notl)
  · rw [if_pos b] at h
    cases h
  rw [if_neg b] at h ⊢
  by_cases c : ¬ rightN (namesR (Csv.parseG s).1)
  · rw [if_pos c] at h
    cases h
  rw [if_neg c]
  have b := Decidable.not_not.1 b
  refine ⟨⟨h2, ?_, h1, b.1, Decidable.not_not.1 c⟩, rfl⟩
  cases hr : (Csv.parseG s).1 with
  | nil =>
    have := b.1
    rw [hr] at this
    exact (List.not_mem_nil this).elim
  | cons r q => simp

section
variable {P : Program} {X : Ctx} {n : Nat} {O : Nat → Option Own}
variable {o : Oper} {fr : Fr} {ow : Ow} {t k : Nat} {ty : TypeId} {x : Operand}
end
section
variable {X : Ctx} {n : Nat} {all rest : List Oper} {fr : Fr} {ow : Ow} {tr : List (List Nat × List Nat)} {K : Fr → Ow → List (List Nat × List Nat) → Prop}
variable {t k : Nat} {ty ty' : TypeId} {ps : String} {af : Array Edge} {x : Operand}
end

theorem zfW {O : Nat → Option Own} : ∀ {lo : Ow}, hasAll O lo → updO O lo = O
  | [], _ => rfl
  | (k, o) :: r, h => by
    have e : (fun j => if j = k then some o else O j) = O := by
      funext j
      by_cases hj : j = k
      · subst hj
        rw [if_pos rfl]
        exact h.1.symm
      · rw [if_neg hj]
    show updO (fun j => if j = k then some o else O j) r = O
    rw [e]
    exact zfW h.2
theorem zeh {O O' : Nat → Option Own} : ∀ {lo : Ow}, hasAll O lo → (∀ j ∈ lo.map (·.1), O' j = O j) → hasAll O' lo
  | [], _, _ => trivial
  | (k, o) :: r, h, hc => ⟨(hc k (by simp)).trans h.1, zeh h.2 fun j hj => hc j (by simp at hj ⊢; exact .inr hj)⟩
theorem zlA {P : Program} {X : Ctx} {n : Nat} {fr : Fr} {ow : Ow} {d : D} {o : Oper} {f : FuncId} {args : List D} {lo : Ow} {ids : List Nat} (hP : ∀ vs w, (callFunc f vs).run P w = .ok (.enter f vs) w) (hc : callOf fr o.op = some (f, args)) (hk : hasAll (fun k => look k ow) lo)
    (hi : lo.map (·.1) = ids) (hnd : ids.Nodup) (hok : (args.map (lendA ids)).all (D.okIn ids) = true) (hf1 : lo.all (fun x => x.2.okIn ids) = true) (hf3 : d.okIn ids = true)
    (hC : CtrO P f (args.map (lendA ids)) lo d lo) (hd : dstOk o.dst n) :
    ∀ F' O', (∀ x ∈ o.op.operands.toList, evF F' x = evF (fF fr) x) → (∀ j ∈ ids, O' j = fO ow j) → StepAt P X n o F' O' d [] := by
  intro F' O' he hO
  have h := zef (X := X) (n := n) hP hc hk hi hi hnd hok hf1 hf1 hf3 hC hd F' O' he hO
  have e : updO O' lo = updO O' [] := zfW (zeh hk fun j hj => hO j (by rw [← hi]; exact hj))
  unfold StepAt at h ⊢
  rw [e] at h
  exact h
section
variable {X : Ctx} {n : Nat} {all rest : List Oper} {fr : Fr} {ow : Ow} {tr : List (List Nat × List Nat)} {K : Fr → Ow → List (List Nat × List Nat) → Prop}
variable {t k : Nat} {op : Op} {ty ty' : TypeId} {ps : String} {af : Array Edge} {d : D} {f : FuncId} {args : List D} {g u : Nat} {want : Bool}
theorem zbp (lo : Ow) (ids : List Nat) (hi : lo.map (·.1) = ids) (hnd : ids.Nodup) (hc : callOf fr op = some (f, args)) (hn : Nat.blt t n = true) (hP : ∀ vs w, (callFunc f vs).run Tryz.prog w = .ok (.enter f vs) w) (hk : hasAll (fun k => look k ow) lo)
    (hok : (args.map (lendA ids)).all (D.okIn ids) = true) (hf1 : lo.all (fun x => x.2.okIn ids) = true) (hf3 : d.okIn ids = true)
    (hC : CtrO Tryz.prog f (args.map (lendA ids)) lo d lo)
    (h : CT Tryz.prog X n all rest ((t, d) :: fr) ow (tr ++ [(ids, [])]) K) : CT Tryz.prog X n all (⟨some t, op, ty, ps, af, none⟩ :: rest) fr ow tr K :=
  CT.cons (e := ⟨d, ids, []⟩) (.plain rfl (zlA (o := ⟨some t, op, ty, ps, af, none⟩) (ow := ow) hP hc hk hi hnd hok hf1 hf3 hC (show t < n by simpa using hn))) (zaE ..) rfl h
end

abbrev Ents := List (List UInt8 × D)
def mget (key : List UInt8) : Ents → Option D
  | [] => none
  | p :: r => if p.1 = key then some p.2 else mget key r
def mput (key : List UInt8) (d : D) : Ents → Ents
  | [] => [(key, d)]
  | p :: r => if p.1 = key then (key, d) :: r else p :: mput key d r
def mpos (key : List UInt8) : Ents → Nat
  | [] => 0
  | p :: r => if p.1 = key then 0 else mpos key r + 1
theorem zqK (key : List UInt8) : ∀ es : Ents, mpos key es ≤ es.length
  | [] => Nat.le_refl _
  | p :: r => by
    have := zqK key r
    unfold mpos
    split
    · simp
    · simpa using this
theorem zko (key : List UInt8) : ∀ es : Ents, mpos key es < es.length → (es.getD (mpos key es) ([], .any)).1 = key
  | [], h => by simp at h
  | p :: r, h => by
    unfold mpos at h ⊢
    by_cases hk : p.1 = key
    · simp [hk]
    · rw [if_neg hk] at h ⊢
      have := zko key r (by simpa using h)
      simpa using this
theorem zgI (key : List UInt8) : ∀ es : Ents, mget key es = if mpos key es < es.length then some (es.getD (mpos key es) ([], .any)).2 else none
  | [] => rfl
  | p :: r => by
    have ih := zgI key r
    unfold mget mpos
    by_cases h : p.1 = key
    · simp [h]
    · rw [if_neg h, if_neg h, ih]
      simp
theorem zjz (key : List UInt8) (d : D) : ∀ es : Ents, mput key d es = if mpos key es < es.length then es.set (mpos key es) (key, d) else es ++ [(key, d)]
  | [] => rfl
  | p :: r => by
    have ih := zjz key d r
    unfold mput mpos
    by_cases h : p.1 = key
    · simp [h]
    · rw [if_neg h, if_neg h, ih]
      simp only [List.length_cons, Nat.add_lt_add_iff_right]
      split <;> simp
def KeysOk : Ents → List MapEntry → Prop
  | [], [] => True
  | p :: r, e :: l => e.key = .string ⟨p.1.toArray⟩ ∧ KeysOk r l
  | _, _ => False
theorem zmc : ∀ {es : Ents} {l : List MapEntry}, l.length = es.length → (∀ j, j < es.length → (l.getD j default).key = .string ⟨(es.getD j ([], .any)).1.toArray⟩) → KeysOk es l
  | [], [], _, _ => trivial
  | [], _ :: _, h, _ => by simp at h
  | _ :: _, [], h, _ => by simp at h
  | p :: r, e :: l, hn, h => ⟨h 0 (by simp), zmc (by simpa using hn) fun j hj => by
      have := h (j + 1) (by simpa using hj)
      simpa using this⟩
theorem zrE (a b : List UInt8) : ((⟨a.toArray⟩ : ByteArray) == ⟨b.toArray⟩) = decide (a = b) := by
  by_cases h : a = b
  · subst h
    simp [MapKept.bytes_beq]
  · rw [decide_eq_false h]
    cases hb : ((⟨a.toArray⟩ : ByteArray) == ⟨b.toArray⟩) with
    | false => rfl
    | true =>
      have := (MapKept.bytes_beq _ _).1 hb
      simp at this
      exact absurd this h
theorem zgt (key : List UInt8) : ∀ (es : Ents) (l : List MapEntry) (i : Nat), KeysOk es l →
    Instr.findNow .string (.string ⟨key.toArray⟩) l i = some (if mpos key es < es.length then some (i + mpos key es, (l.getD (mpos key es) default).val) else none)
  | [], [], i, _ => rfl
  | [], _ :: _, _, h => h.elim
  | _ :: _, [], _, h => h.elim
  | p :: r, e :: l, i, h => by
    have ih := zgt key r l (i + 1) h.2
    have hs : Instr.sameNow .string (.string ⟨key.toArray⟩) e.key = some (decide (key = p.1)) := by
      rw [h.1]
      show some _ = _
      rw [zrE]
    unfold Instr.findNow
    rw [hs]
    unfold mpos
    by_cases hk : p.1 = key
    · rw [decide_eq_true hk.symm]
      simp [hk]
    · rw [decide_eq_false (fun h => hk h.symm)]
      simp only [ih, hk, if_false, List.length_cons, Nat.add_lt_add_iff_right]
      split
      · simp
        omega
      · rfl
section
variable {P : Program} {X : Ctx} {n : Nat} {O : Nat → Option Own} {w : World} {S : Cells} {r : Rho}
theorem ziG {k : Nat} {es : Ents} (h : ObjOk S w r k (.mp es)) : ∃ b arr clock, r k = some (.blk b) ∧ w.heap[b]? = some (.map arr clock) ∧ KeysOk es arr.toList ∧ arr.size = es.length ∧ (∀ j, j < es.length → EntOk S w r (es.getD j ([], .any)) (arr.getD j default)) ∧ BornOk arr clock ∧ ∀ o, ¬ S b o := by
  obtain ⟨b, arr, clock, h1, h2, h3, h4, h5, h6⟩ := h
  refine ⟨b, arr, clock, h1, h2, zmc (by simpa using h3) (fun j hj => ?_), h3, h4, h5, h6⟩
  have := (h4 j hj).1
  simpa [List.getD_eq_getElem?_getD, Array.getD_eq_getD_getElem?] using this
theorem zoT (hH : Hist X w S) (hI : Inv X w S r O) {k : Nat} (hk : O k = none) :
    ∃ r', Rel S (w.alloc (.map #[] 0)) r' (.mh k) (.map (some w.heap.size)) ∧ Hist X (w.alloc (.map #[] 0)) S ∧ Inv X (w.alloc (.map #[] 0)) S r' (updO O [(k, .mp [])]) ∧
      (∀ b o, S b o → (w.alloc (.map #[] 0)).cell? ⟨b, o, none⟩ = w.cell? ⟨b, o, none⟩) ∧ RhoLe r r' := by
  have hc := Chg.alloc w S hH.valid (.map #[] 0)
  have hr : RhoLe r (updR r k (.blk w.heap.size)) := RhoLe.new (hI.dom k hk)
  have hk0 : updR r k (.blk w.heap.size) k = some (.blk w.heap.size) := by simp [updR]
  refine ⟨updR r k (.blk w.heap.size), .mh _ k _ hk0, ?_, ?_, hc.cell, hr⟩
  · exact hH.chg hc (fun b hb => by cases hb) (fun _ _ h => h) (fun b o h => .inl h)
  · refine hI.put hc (fun _ _ h => h) hr k _ (.blk w.heap.size) ?_ hk0 (fun j hj => by simp [updR, hj]) (fun b hb => ?_) (fun b hb => by cases hb) (fun b o h => .inl h)
    · exact ⟨w.heap.size, #[], 0, hk0, heap_alloc_new w _, rfl, fun j hj => by simp at hj, ⟨fun i j _ h => by simp at h, fun i h => by simp at h⟩, fun o ho => by have := hH.valid _ _ ho; omega⟩
    · simp only [Loc.block, Option.some.injEq] at hb
      subst hb
      exact .inl ⟨Nat.le_refl _, .inl hH.size⟩
theorem zkc {es es2 : Ents} {arr arr2 : Array MapEntry} {clock clock2 b : Nat} (hH : Hist X w S) (hI : Inv X w S r O) {k : Nat} (_hk : O k = some (.mp es)) (hb : r k = some (.blk b)) (hw : w.heap[b]? = some (.map arr clock)) (hS : ∀ o, ¬ S b o)
    (hn : arr2.size = es2.length) (he : ∀ j, j < es2.length → EntOk S w r (es2.getD j ([], .any)) (arr2.getD j default)) (hbo : BornOk arr2 clock2) :
    Hist X { w with heap := w.heap.setIfInBounds b (.map arr2 clock2) } S ∧ Inv X { w with heap := w.heap.setIfInBounds b (.map arr2 clock2) } S r (updO O [(k, .mp es2)]) ∧
      (∀ b' o, S b' o → ({ w with heap := w.heap.setIfInBounds b (.map arr2 clock2) } : World).cell? ⟨b', o, none⟩ = w.cell? ⟨b', o, none⟩) := by
  have hc := Chg.setObj w S b (.map arr2 clock2) hS
  have hlow := hI.low k _ b hb rfl
  refine ⟨?_, ?_, hc.cell⟩
  · exact hH.chg hc (fun b' hb' => by cases hb'; exact hlow) (fun _ _ h => h) (fun b o h => .inl h)
  · refine hI.put hc (fun _ _ h => h) (RhoLe.refl r) k _ (.blk b) ?_ hb (fun _ _ => rfl) (fun b' hb' => .inr ⟨_, hb, hb'⟩) (fun b' hb' => ⟨_, hb, hb'⟩) (fun b o h => .inl h)
    have hlt := (Array.getElem?_eq_some_iff.1 hw).1
    exact ⟨b, arr2, clock2, hb, by simp [hlt], hn, fun j hj => ⟨(he j hj).1, (he j hj).2.1.mono (fun _ _ h => h) hc.cell r (RhoLe.refl r), (he j hj).2.2⟩, hbo, hS⟩
variable {o : Oper} {fr : Fr} {ow : Ow} {t k : Nat} {ty kt et : TypeId} {x y z : Operand} {es : Ents} {key : List UInt8}
theorem zlJ (ho : o.op = .makeMap ty none) (ht : look t ow = none) (hd : dstOk o.dst n) :
    ∀ F' O', (∀ y ∈ o.op.operands.toList, evF F' y = evF (fF fr) y) → (∀ j ∈ [t], O' j = fO ow j) → StepAt P X n o F' O' (.mh t) [(t, .mp [])] := by
  intro F' O' he hO
  refine zay hd fun a w S r hH hI hr => ?_
  have hk : O' t = none := (hO t (by simp)).trans ht
  obtain ⟨r', g1, g2, g3, g4, g5⟩ := zoT hH hI hk
  refine ⟨_, _, S, r', .inl ?_, g1, g2, g3, fun _ _ h => h, g4, g5⟩
  simp [execOp, ho, Instr.makeMap, newObj, Sem.run, Result.andThen]
def gotD (ok : Bool) (d : D) (c : Bool) : D :=
  match c with
  | true => .tu [d, .b ok]
  | false => d
theorem zmN {d : D} {v : Value} (h : Rel S w r d v) (ok c : Bool) : Rel S w r (gotD ok d c) (if c then .tuple #[v, .bool ok] else v) := by
  cases c with
  | false => exact h
  | true =>
    refine .tu _ _ _ rfl fun j hj => ?_
    match j, hj with
    | 0, _ => exact h
    | 1, _ => exact .b ..
theorem zmG {d : D} {c : Bool} (hm : P.underlying ty = some (.map kt et)) (hkt : P.underlying kt = some .string) (ho : o.op = .lookup ty x y c) (hx : ev fr x = .mh k) (hy : ev fr y = .s key) (hk : look k ow = some (.mp es)) (hg : mget key es = some d) (hd : dstOk o.dst n) :
    ∀ F' O', (∀ y ∈ o.op.operands.toList, evF F' y = evF (fF fr) y) → (∀ j ∈ [k], O' j = fO ow j) → StepAt P X n o F' O' (gotD true d c) [] := by
  intro F' O' he hO
  refine zay hd fun a w S r hH hI hr => ?_
  have hx' := hr x
  rw [he x (by simp [ho, Op.operands]), zaX, hx] at hx'
  have hy' := hr y
  rw [he y (by simp [ho, Op.operands]), zaX, hy] at hy'
  obtain ⟨b, arr, clock, h1, h2, h3, h4, h5, h6, h7⟩ := ziG (hI.obj k _ ((hO k (by simp)).trans hk))
  generalize hvx : a.eval x = vx at hx'
  generalize hvy : a.eval y = vy at hy'
  cases hy'
  cases hx' with
  | mh _ _ b' hb' =>
    rw [h1] at hb'
    cases hb'
    have hf := zgt key es arr.toList 0 h3
    rw [zgI] at hg
    split at hg
    · rename_i hlt
      rw [if_pos hlt] at hf
      obtain ⟨_, hev, _⟩ := h5 _ hlt
      rw [Option.some.inj hg] at hev
      have e1 : arr.toList.getD (mpos key es) default = arr.getD (mpos key es) default := by simp [List.getD_eq_getElem?_getD, Array.getD_eq_getD_getElem?]
      rw [e1] at hf
      refine zaA hH hI rfl ?_ (zmN hev true c)
      simp [execOp, ho, hvx, hvy, Instr.lookup, run_underlying hm, MapKept.run_getObj_map h2, MapKept.run_checkKey hkt (show MapKept.IsKey .string (.string ⟨key.toArray⟩) from trivial), MapKept.run_findKey hkt hf, Result.andThen]
    · cases hg
theorem zkD {zd : D} {c : Bool} {B' : Tb} (hB : tb P = B') (hz : B'.zr et = some zd) (hm : P.underlying ty = some (.map kt et)) (hkt : P.underlying kt = some .string) (ho : o.op = .lookup ty x y c) (hx : ev fr x = .mh k) (hy : ev fr y = .s key) (hk : look k ow = some (.mp es)) (hg : mget key es = none) (hd : dstOk o.dst n) :
    ∀ F' O', (∀ y ∈ o.op.operands.toList, evF F' y = evF (fF fr) y) → (∀ j ∈ [k], O' j = fO ow j) → StepAt P X n o F' O' (gotD false zd c) [] := by
  intro F' O' he hO
  have hz' : zeroD P et = some zd := by subst hB; exact hz
  obtain ⟨i, zv, q1, q2, q3⟩ := zbo hz'
  refine zay hd fun a w S r hH hI hr => ?_
  have hx' := hr x
  rw [he x (by simp [ho, Op.operands]), zaX, hx] at hx'
  have hy' := hr y
  rw [he y (by simp [ho, Op.operands]), zaX, hy] at hy'
  obtain ⟨b, arr, clock, h1, h2, h3, h4, h5, h6, h7⟩ := ziG (hI.obj k _ ((hO k (by simp)).trans hk))
  have hzv := zbM S w r zv
  rw [← q3] at hzv
  generalize hvx : a.eval x = vx at hx'
  generalize hvy : a.eval y = vy at hy'
  cases hy'
  cases hx' with
  | mh _ _ b' hb' =>
    rw [h1] at hb'
    cases hb'
    have hf := zgt key es arr.toList 0 h3
    rw [zgI] at hg
    split at hg
    · cases hg
    · rename_i hlt
      rw [if_neg hlt] at hf
      refine zaA hH hI rfl ?_ (zmN hzv false c)
      simp [execOp, ho, hvx, hvy, Instr.lookup, run_underlying hm, MapKept.run_getObj_map h2, MapKept.run_checkKey hkt (show MapKept.IsKey .string (.string ⟨key.toArray⟩) from trivial), MapKept.run_findKey hkt hf, Result.andThen, zeroValue, typeInfo, q1, q2]
theorem znM {d : D} (hm : P.underlying ty = some (.map kt et)) (hkt : P.underlying kt = some .string) (ho : o.op = .mapUpdate ty x y z) (hx : ev fr x = .mh k) (hy : ev fr y = .s key) (hz : ev fr z = d) (h1d : d.one = true) (hk : look k ow = some (.mp es)) (hdst : o.dst = none) :
    ∀ F' O', (∀ y ∈ o.op.operands.toList, evF F' y = evF (fF fr) y) → (∀ j ∈ [k], O' j = fO ow j) → StepAt P X n o F' O' .any [(k, .mp (mput key d es))] := by
  intro F' O' he hO
  refine zay (by rw [hdst]; trivial) fun a w S r hH hI hr => ?_
  have hx' := hr x
  rw [he x (by simp [ho, Op.operands]), zaX, hx] at hx'
  have hy' := hr y
  rw [he y (by simp [ho, Op.operands]), zaX, hy] at hy'
  have hz' := hr z
  rw [he z (by simp [ho, Op.operands]), zaX, hz] at hz'
  have hkO := (hO k (by simp)).trans hk
  obtain ⟨b, arr, clock, h1, h2, h3, h4, h5, h6, h7⟩ := ziG (hI.obj k _ hkO)
  generalize hvx : a.eval x = vx at hx'
  generalize hvy : a.eval y = vy at hy'
  generalize hvz : a.eval z = vz at hz'
  cases hy'
  cases hx' with
  | mh _ _ b' hb' =>
    rw [h1] at hb'
    cases hb'
    have hf := zgt key es arr.toList 0 h3
    rw [zjz]
    by_cases hlt : mpos key es < es.length
    · rw [if_pos hlt] at hf ⊢
      obtain ⟨hek, hev, heo⟩ := h5 _ hlt
      have hsz : mpos key es < arr.size := by omega
      have hj : arr[mpos key es]? = some (arr.getD (mpos key es) default) := by simp [Array.getD_eq_getD_getElem?, hsz]
      have hkey : (es.getD (mpos key es) ([], .any)).1 = key := zko key es hlt
      rw [hkey] at hek
      have hk0 : MapKept.IsKey .string (.string ⟨key.toArray⟩) := trivial
      have hgm : ∀ j, (arr.modify (mpos key es) fun e => { e with key := .string ⟨key.toArray⟩, val := vz }).getD j default = if j = mpos key es then { arr.getD (mpos key es) default with key := .string ⟨key.toArray⟩, val := vz } else arr.getD j default := fun j => by
        simp only [Array.getD_eq_getD_getElem?, Array.getElem?_modify]
        by_cases h : j = mpos key es
        · subst h
          simp [hsz]
        · rw [if_neg h, if_neg (fun e => h e.symm)]
      obtain ⟨g1, g2, g3⟩ := zkc (es2 := es.set (mpos key es) (key, d)) (arr2 := arr.modify (mpos key es) fun e => { e with key := .string ⟨key.toArray⟩, val := vz }) (clock2 := clock) hH hI hkO h1 h2 h7 (by simpa using h4)
        (fun j hj2 => by
          rw [hgm]
          by_cases h : j = mpos key es
          · subst h
            rw [if_pos rfl, List.getD_eq_getElem?_getD, List.getElem?_set_self hlt]
            exact ⟨rfl, hz', h1d⟩
          · rw [if_neg h, List.getD_eq_getElem?_getD, List.getElem?_set_ne (fun e => h e.symm), ← List.getD_eq_getElem?_getD]
            exact h5 j (by simpa using hj2))
        (by
          have hb : ∀ j, ((arr.modify (mpos key es) fun e => { e with key := .string ⟨key.toArray⟩, val := vz }).getD j default).born = (arr.getD j default).born := fun j => by
            rw [hgm]
            by_cases h : j = mpos key es
            · subst h
              rw [if_pos rfl]
            · rw [if_neg h]
          refine ⟨fun i j hij hj2 => ?_, fun i hi2 => ?_⟩
          · rw [hb, hb]
            exact h6.1 i j hij (by simpa using hj2)
          · rw [hb]
            exact h6.2 i (by simpa using hi2))
      refine ⟨undef, _, S, r, .inr ⟨?_, rfl⟩, .any .., g1, g2, fun _ _ h => h, g3, RhoLe.refl r⟩
      obtain ⟨e0, hj0, hek0⟩ : ∃ e0, arr[mpos key es]? = some e0 ∧ e0.key = .string ⟨key.toArray⟩ := ⟨_, hj, hek⟩
      clear hj hek hev hgm
      simp [execOp, ho, hvx, hvy, hvz, Instr.mapUpdate, run_underlying hm, MapKept.run_getObj_map h2, MapKept.run_checkKey hkt hk0, MapKept.run_findKey hkt hf, hj0, hek0, MapKept.run_keyThatStays hk0, MapKept.run_setObj_map _ h2, Result.andThen]
    · rw [if_neg hlt] at hf ⊢
      have hk0 : MapKept.IsKey .string (.string ⟨key.toArray⟩) := trivial
      have hgp : ∀ j, (arr.push ⟨.string ⟨key.toArray⟩, vz, clock⟩).getD j default = if j = arr.size then ⟨.string ⟨key.toArray⟩, vz, clock⟩ else arr.getD j default := fun j => by
        simp only [Array.getD_eq_getD_getElem?, Array.getElem?_push]
        by_cases h : j = arr.size
        · subst h
          simp
        · rw [if_neg h, if_neg h]
      obtain ⟨g1, g2, g3⟩ := zkc (es2 := es ++ [(key, d)]) (arr2 := arr.push ⟨.string ⟨key.toArray⟩, vz, clock⟩) (clock2 := clock + 1) hH hI hkO h1 h2 h7 (by simp [h4])
        (fun j hj2 => by
          rw [hgp]
          by_cases h : j = arr.size
          · subst h
            rw [if_pos rfl, h4, List.getD_eq_getElem?_getD, List.getElem?_append_right (Nat.le_refl _)]
            simp only [Nat.sub_self]
            exact ⟨rfl, hz', h1d⟩
          · have hj3 : j < es.length := by
              simp only [List.length_append, List.length_cons, List.length_nil] at hj2
              omega
            rw [if_neg h, List.getD_eq_getElem?_getD, List.getElem?_append_left hj3, ← List.getD_eq_getElem?_getD]
            exact h5 j hj3)
        (by
          refine ⟨fun i j hij hj2 => ?_, fun i hi2 => ?_⟩
          · rw [hgp, hgp]
            have hj3 : j < arr.size + 1 := by simpa using hj2
            rw [if_neg (show ¬ i = arr.size by omega)]
            by_cases h : j = arr.size
            · rw [if_pos h]
              exact h6.2 i (by omega)
            · rw [if_neg h]
              exact h6.1 i j hij (by omega)
          · rw [hgp]
            have hi3 : i < arr.size + 1 := by simpa using hi2
            by_cases h : i = arr.size
            · rw [if_pos h]
              exact Nat.lt_succ_self _
            · rw [if_neg h]
              exact Nat.lt_succ_of_lt (h6.2 i (by omega)))
      refine ⟨undef, _, S, r, .inr ⟨?_, rfl⟩, .any .., g1, g2, fun _ _ h => h, g3, RhoLe.refl r⟩
      simp [execOp, ho, hvx, hvy, hvz, Instr.mapUpdate, run_underlying hm, MapKept.run_getObj_map h2, MapKept.run_checkKey hkt hk0, MapKept.run_findKey hkt hf, MapKept.run_setObj_map _ h2, Result.andThen]
end
section
variable {X : Ctx} {n : Nat} {all rest : List Oper} {fr : Fr} {ow : Ow} {tr : List (List Nat × List Nat)} {K : Fr → Ow → List (List Nat × List Nat) → Prop}
variable {t k : Nat} {ty ty' kt et t2 : TypeId} {ps : String} {af : Array Edge} {x y z : Operand} {es : Ents} {key : List UInt8} {d : D} {c : Bool} {g u : Nat} {want : Bool}
set_option maxRecDepth 100000 in
theorem zpJ (ht : look t ow = none) (hn : Nat.blt t n = true) (h : CT Tryz.prog X n all rest ((t, .mh t) :: fr) ((t, .mp []) :: ow) (tr ++ [([t], [t])]) K) :
    CT Tryz.prog X n all (⟨some t, .makeMap ty none, ty', ps, af, none⟩ :: rest) fr ow tr K :=
  CT.cons (e := ⟨.mh t, [t], [(t, .mp [])]⟩) (.plain rfl (zlJ (o := ⟨some t, .makeMap ty none, ty', ps, af, none⟩) rfl ht (show t < n by simpa using hn))) (zaE ..) (zaM ..) h
set_option maxRecDepth 100000 in
theorem znd (hm : Tryz.prog.underlying ty = some (.map kt et)) (hkt : Tryz.prog.underlying kt = some .string) (hx : ev fr x = .mh k) (hy : ev fr y = .s key) (hk : look k ow = some (.mp es)) (hg : mget key es = some d) (hn : Nat.blt t n = true)
    (h : CT Tryz.prog X n all rest ((t, gotD true d c) :: fr) ow (tr ++ [([k], [])]) K) : CT Tryz.prog X n all (⟨some t, .lookup ty x y c, ty', ps, af, none⟩ :: rest) fr ow tr K :=
  CT.cons (e := ⟨gotD true d c, [k], []⟩) (.plain rfl (zmG (o := ⟨some t, .lookup ty x y c, ty', ps, af, none⟩) hm hkt rfl hx hy hk hg (show t < n by simpa using hn))) (zaE ..) rfl h
set_option maxRecDepth 100000 in
theorem zhh (hm : Tryz.prog.underlying ty = some (.map kt et)) (hkt : Tryz.prog.underlying kt = some .string) (hz : B.zr et = some d) (hx : ev fr x = .mh k) (hy : ev fr y = .s key) (hk : look k ow = some (.mp es)) (hg : mget key es = none) (hn : Nat.blt t n = true)
    (h : CT Tryz.prog X n all rest ((t, gotD false d c) :: fr) ow (tr ++ [([k], [])]) K) : CT Tryz.prog X n all (⟨some t, .lookup ty x y c, ty', ps, af, none⟩ :: rest) fr ow tr K :=
  CT.cons (e := ⟨gotD false d c, [k], []⟩) (.plain rfl (zkD (o := ⟨some t, .lookup ty x y c, ty', ps, af, none⟩) zer hz hm hkt rfl hx hy hk hg (show t < n by simpa using hn))) (zaE ..) rfl h
set_option maxRecDepth 100000 in
theorem zpl (hm : Tryz.prog.underlying ty = some (.map kt et)) (hkt : Tryz.prog.underlying kt = some .string) (hx : ev fr x = .mh k) (hy : ev fr y = .s key) (hz : ev fr z = d) (h1 : d.one = true) (hk : look k ow = some (.mp es))
    (h : CT Tryz.prog X n all rest fr ((k, .mp (mput key d es)) :: ow) (tr ++ [([k], [k])]) K) : CT Tryz.prog X n all (⟨none, .mapUpdate ty x y z, ty', ps, af, none⟩ :: rest) fr ow tr K :=
  CT.cons (e := ⟨.any, [k], [(k, .mp (mput key d es))]⟩) (.plain rfl (znM (o := ⟨none, .mapUpdate ty x y z, ty', ps, af, none⟩) hm hkt rfl hx hy hz h1 hk rfl)) rfl (zaM ..) h
end

def mapB (ks : List (List UInt8)) : Ents := ks.map fun k => (k, .b true)
theorem zhs {k : List UInt8} : ∀ {ks : List (List UInt8)}, k ∈ ks → mget k (mapB ks) = some (.b true)
  | [], h => by cases h
  | p :: r, h => by
    show (if p = k then some (D.b true) else mget k (mapB r)) = _
    by_cases e : p = k
    · rw [if_pos e]
    · rw [if_neg e]
      exact zhs ((List.mem_cons.1 h).resolve_left fun q => e q.symm)
theorem zfL {k : List UInt8} : ∀ {ks : List (List UInt8)}, k ∉ ks → mget k (mapB ks) = none
  | [], _ => rfl
  | p :: r, h => by
    show (if p = k then some (D.b true) else mget k (mapB r)) = _
    rw [if_neg fun e => h (List.mem_cons.2 (.inl e.symm))]
    exact zfL fun q => h (List.mem_cons.2 (.inr q))
theorem zhE {k : List UInt8} : ∀ {ks : List (List UInt8)}, k ∉ ks → mput k (.b true) (mapB ks) = mapB (ks ++ [k])
  | [], _ => rfl
  | p :: r, h => by
    show (if p = k then _ else (p, D.b true) :: mput k (.b true) (mapB r)) = _
    rw [if_neg fun e => h (List.mem_cons.2 (.inl e.symm)), zhE fun q => h (List.mem_cons.2 (.inr q))]
    rfl
theorem okMB (ls : List Nat) (ks : List (List UInt8)) : (Own.mp (mapB ks)).okIn ls = true := by
  show (mapB ks).all (fun p => p.2.okIn ls) = true
  rw [List.all_eq_true]
  intro p hp
  obtain ⟨q, _, rfl⟩ := List.mem_map.1 hp
  rfl
theorem zcI {ks : List (List UInt8)} {i : Nat} (h : i < ks.length) : ks.take (i + 1) = ks.take i ++ [ks.getD i []] := by
  rw [List.take_add_one]
  have : ks[i]? = some (ks.getD i []) := by simp [List.getD_eq_getElem?_getD, h]
  rw [this]
  rfl
end Go.Proofs.YtkkaamhocpmhkaaGreatDoor.Flow
