/- The texts U2, U3, U4, U5, one behind the other. -/
import Derived.Test.YtcajofhafpkbdaaGreatDoorCF9
namespace Go.Proofs.YtcajofhafpkbdaaGreatDoor.Flow
open Go

theorem or4 (n h : Int) (h0 : 0 ≤ n) (h1 : n < 4096) (h2 : 0 ≤ h) (h3 : h < 16) : bits .or .i32 (IntKind.i32.wrap (n * 2 ^ (4 : Int).toNat)) (IntKind.i32.wrap h) = 16 * n + h := by
  have e : n * 2 ^ (4 : Int).toNat = 16 * n := by
    show n * 2 ^ 4 = _
    omega
  rw [e, wrap_i32 _ (by omega) (by omega), wrap_i32 _ (by omega) (by omega)]
  exact bits_join .i32 31 (by decide) wraps_i32 4 (16 * n) h (by omega) (by omega) (by omega) h2 (by omega) (by omega)

section
variable {s : List UInt8} {k : Nat} {n i : Int}
theorem zcs (h : i < s.length) (h2 : ¬ hexF (at' s i) < 0) : fourG s (k + 1) n i = fourG s k (16 * n + hexF (at' s i)) (i + 1) := by
  rw [fourG, if_pos h, if_neg h2]
theorem zfB (h : i < s.length) (h2 : hexF (at' s i) < 0) : fourG s (k + 1) n i = (0, i + 1, 3) := by
  rw [fourG, if_pos h, if_pos h2]
theorem zfl (h : ¬ i < s.length) : fourG s (k + 1) n i = (0, i, 2) := by
  rw [fourG, if_neg h]
end

theorem zhi (s : List UInt8) (i : Int) (o : List UInt8) (hs : s.length ≤ 1099511627776) (h0 : 0 ≤ i) (h1 : i ≤ s.length) :
    CtrO Tryz.prog 167 [.pv 20 0] (rdl s i o 0) (.i .i32 (fourG s 4 0 i).1) (rdl s (fourG s 4 0 i).2.1 o (fourG s 4 0 i).2.2) := by
  refine zbi Tryz.func167 rfl Tryz.ntmps167 Tryz.results167 rfl rfl rfl rfl rfl fun X hL hX => ?_
  repeat' (first |with_reducible (first |refine zaK ?_|refine zaj ?_|refine zaL ?_|refine zaB ?_|refine zaO ?_|refine zaD ?_|refine zaC ?_|refine zar ?_|refine zaq ?_|refine zaI ?_|refine zaE ?_|refine zas ?_|refine zaH ?_)|refine zaw rfl rfl True.intro ?_|refine zau rfl rfl rfl ?_|refine zao rfl rfl rfl ?_|refine zag rfl rfl rfl rfl True.intro ?_|refine zaF rfl ?_|refine zat rfl ?_|((first |refine zal rfl ?_ ?_|refine zan rfl ?_ ?_|refine zak rfl ?_ ?_|refine zam rfl ?_ ?_|refine zap rfl ?_ ?_|refine zaA rfl ?_ ?_|refine zad rfl rfl ?_ ?_|refine zae rfl rfl ?_ ?_|refine zaf rfl rfl ?_ ?_|refine zac rfl rfl ?_ ?_|refine zab rfl rfl ?_ ?_)<;>intro<;>try (first |contradiction|(exfalso;omega)))|((first |refine zaw rfl rfl ?_ ?_|refine zag rfl rfl rfl rfl ?_ ?_|refine zaM rfl rfl ?_ ?_|refine zaJ rfl ?_ ?_|refine zaG rfl rfl rfl rfl ?_ ?_);focus (first |omega|exact le_ rfl|((repeat first |rw [zay]|rw [wi6_]|rw [wi3_]|rw [zai]|rw [zah]);(repeat' refine And.intro ?_ ?_)<;>omega)|((repeat' refine And.intro ?_ ?_)<;>first |omega|rfl|exact Nat.le_refl _|exact le_ rfl|exact zaa _)|(simp_all;done)|(simp_all;omega)))|refine zaP rfl ?_|refine zaz rfl ?_|with_reducible refine ⟨by kernel_rfl, ?_⟩|refine zbf rfl ?_ ?_|refine zbg rfl ?_ ?_|((with_reducible refine zaN ?_);(fail_if_success (refine zax true rfl rfl rfl ?_));(fail_if_success (refine zax false rfl rfl rfl ?_));refine zav rfl rfl (fun _ => ?_) (fun _ => ?_)))
  refine T.loop hL (fun x : Nat × Int × Int => [(0, .pv 20 0), (3, .i .i32 x.2.1), (6, .i .i64 x.1)]) (fun x => rdl s x.2.2 o 0)
    (fun x => x.1 ≤ 4 ∧ 0 ≤ x.2.1 ∧ x.2.1 < 16 ^ x.1 ∧ 0 ≤ x.2.2 ∧ x.2.2 ≤ s.length ∧ fourG s (4 - x.1) x.2.1 x.2.2 = fourG s 4 0 i) (fun x => 4 - x.1) (0, 0, i) (by simp; omega)
    ⟨⟨rfl, rfl, rfl, trivial⟩, ⟨rfl, rfl, trivial⟩, rfl, by rw [hX]; intro k hk; exact hk⟩ ?_
  rintro ⟨k, n, j⟩ ⟨g1, g2, g3, g4, g5, g6⟩
  dsimp only at g1 g2 g3 g4 g5 g6 ⊢
  have hr := zba s j
  have hh := zfE (at' s j)
  have hpow : k ≤ 3 → (16 : Int) ^ k ≤ 4096 := fun h => by
    have : k = 0 ∨ k = 1 ∨ k = 2 ∨ k = 3 := by omega
    rcases this with rfl | rfl | rfl | rfl <;> decide
  have hk : (k : Int) < 4 → 4 - k = (3 - k) + 1 := fun h => by omega
  have hk0 : ¬ (k : Int) < 4 → fourG s (4 - k) n j = (n, j, 0) := fun h => by rw [show 4 - k = 0 by omega]; rfl
  by_cases hj : j < s.length
  · have hn := zda s j o 0 hs g4 g5
    rw [zdf rfl hj] at hn
    dsimp only at hn
    repeat' (first |with_reducible (first |refine zaK ?_|refine zaj ?_|refine zaL ?_|refine zaB ?_|refine zaO ?_|refine zaD ?_|refine zaC ?_|refine zar ?_|refine zaq ?_|refine zaI ?_|refine zaE ?_|refine zas ?_|refine zaH ?_)|refine zaw rfl rfl True.intro ?_|refine zau rfl rfl rfl ?_|refine zao rfl rfl rfl ?_|refine zag rfl rfl rfl rfl True.intro ?_|refine zaF rfl ?_|refine zat rfl ?_|((first |refine zal rfl ?_ ?_|refine zan rfl ?_ ?_|refine zak rfl ?_ ?_|refine zam rfl ?_ ?_|refine zap rfl ?_ ?_|refine zaA rfl ?_ ?_|refine zad rfl rfl ?_ ?_|refine zae rfl rfl ?_ ?_|refine zaf rfl rfl ?_ ?_|refine zac rfl rfl ?_ ?_|refine zab rfl rfl ?_ ?_)<;>intro<;>try (first |contradiction|(exfalso;omega)))|((first |refine zaw rfl rfl ?_ ?_|refine zag rfl rfl rfl rfl ?_ ?_|refine zaM rfl rfl ?_ ?_|refine zaJ rfl ?_ ?_|refine zaG rfl rfl rfl rfl ?_ ?_);focus (first |omega|exact le_ rfl|((repeat first |rw [zay]|rw [wi6_]|rw [wi3_]|rw [zai]|rw [zah]);(repeat' refine And.intro ?_ ?_)<;>omega)|((repeat' refine And.intro ?_ ?_)<;>first |omega|rfl|exact Nat.le_refl _|exact le_ rfl|exact zaa _)|(simp_all;done)|(simp_all;omega)))|refine zaP rfl ?_|refine zaz rfl ?_|with_reducible refine ⟨by kernel_rfl, ?_⟩|refine zbf rfl ?_ ?_|refine zbg rfl ?_ ?_|refine zaV (f := 133) 20 200 rfl rfl Tryz.call133 rfl rfl rfl rfl rfl rfl rfl rfl rfl (zck s (j + 1) o 0 3) ?_|refine zaV (f := 131) 20 200 rfl rfl Tryz.call131 rfl rfl rfl rfl rfl rfl rfl rfl rfl hn ?_|refine zaR (f := 178) rfl rfl Tryz.call178 rfl (zoi (at' s j) (by omega) (by omega)) ?_|((with_reducible refine zaN ?_);(fail_if_success (refine zax true rfl rfl rfl ?_));(fail_if_success (refine zax false rfl rfl rfl ?_));refine zav rfl rfl (fun _ => ?_) (fun _ => ?_)))
    · rw [← g6, hk ‹_›, zfB hj ‹_›]
    · rw [← g6, hk ‹_›, zfB hj ‹_›]
      exact ⟨⟨rfl, rfl, trivial⟩⟩
    · have := hpow (by omega)
      refine ⟨(k + 1, 16 * n + hexF (at' s j), j + 1), ⟨by dsimp only; omega, by dsimp only; omega, by dsimp only; rw [Int.pow_succ]; omega, by dsimp only; omega, by dsimp only; omega, ?_⟩, by dsimp only; omega,
        ⟨rfl, by rw [← or4 n (hexF (at' s j)) g2 (by omega) (by omega) (by omega)]; rfl, rfl, trivial⟩, ⟨rfl, rfl, trivial⟩, rfl, by rw [hX]; intro k hk; exact hk⟩
      dsimp only
      rw [← g6, hk ‹_›, zcs hj ‹_›, show 4 - (k + 1) = 3 - k by omega]
    · rw [← g6, hk0 ‹_›]
    · rw [← g6, hk0 ‹_›]
      exact ⟨⟨rfl, rfl, trivial⟩⟩
  · have hn := zda s j o 0 hs g4 g5
    rw [zcf rfl hj] at hn
    dsimp only at hn
    repeat' (first |with_reducible (first |refine zaK ?_|refine zaj ?_|refine zaL ?_|refine zaB ?_|refine zaO ?_|refine zaD ?_|refine zaC ?_|refine zar ?_|refine zaq ?_|refine zaI ?_|refine zaE ?_|refine zas ?_|refine zaH ?_)|refine zaw rfl rfl True.intro ?_|refine zau rfl rfl rfl ?_|refine zao rfl rfl rfl ?_|refine zag rfl rfl rfl rfl True.intro ?_|refine zaF rfl ?_|refine zat rfl ?_|((first |refine zal rfl ?_ ?_|refine zan rfl ?_ ?_|refine zak rfl ?_ ?_|refine zam rfl ?_ ?_|refine zap rfl ?_ ?_|refine zaA rfl ?_ ?_|refine zad rfl rfl ?_ ?_|refine zae rfl rfl ?_ ?_|refine zaf rfl rfl ?_ ?_|refine zac rfl rfl ?_ ?_|refine zab rfl rfl ?_ ?_)<;>intro<;>try (first |contradiction|(exfalso;omega)))|((first |refine zaw rfl rfl ?_ ?_|refine zag rfl rfl rfl rfl ?_ ?_|refine zaM rfl rfl ?_ ?_|refine zaJ rfl ?_ ?_|refine zaG rfl rfl rfl rfl ?_ ?_);focus (first |omega|exact le_ rfl|((repeat first |rw [zay]|rw [wi6_]|rw [wi3_]|rw [zai]|rw [zah]);(repeat' refine And.intro ?_ ?_)<;>omega)|((repeat' refine And.intro ?_ ?_)<;>first |omega|rfl|exact Nat.le_refl _|exact le_ rfl|exact zaa _)|(simp_all;done)|(simp_all;omega)))|refine zaP rfl ?_|refine zaz rfl ?_|with_reducible refine ⟨by kernel_rfl, ?_⟩|refine zbf rfl ?_ ?_|refine zbg rfl ?_ ?_|refine zaV (f := 131) 20 200 rfl rfl Tryz.call131 rfl rfl rfl rfl rfl rfl rfl rfl rfl hn ?_|((with_reducible refine zaN ?_);(fail_if_success (refine zax true rfl rfl rfl ?_));(fail_if_success (refine zax false rfl rfl rfl ?_));refine zav rfl rfl (fun _ => ?_) (fun _ => ?_)))
    · rw [← g6, hk ‹_›, zfl hj]
    · rw [← g6, hk ‹_›, zfl hj]
      exact ⟨⟨rfl, rfl, trivial⟩⟩
    · rw [← g6, hk0 ‹_›]
    · rw [← g6, hk0 ‹_›]
      exact ⟨⟨rfl, rfl, trivial⟩⟩

theorem znp (s : List UInt8) (i : Int) (o : List UInt8) (e : Int) (hs : s.length ≤ 1099511627776) (h0 : 0 ≤ i) (h1 : i ≤ s.length) :
    CtrO Tryz.prog 167 [.pv 20 0] (rdl s i o e) (.i .i32 (fourF s i e).1) (rdl s (fourF s i e).2.1 o (fourF s i e).2.2) := by
  by_cases he : e = 0
  · subst he
    exact zhi s i o hs h0 h1
  rw [show fourF s i e = (0, i, e) from if_neg he]
  have hn := zda s i o e hs h0 h1
  rw [zcH he] at hn
  dsimp only at hn ⊢
  refine zbi Tryz.func167 rfl Tryz.ntmps167 Tryz.results167 rfl rfl rfl rfl rfl fun X hL hX => ?_
  repeat' (first |with_reducible (first |refine zaK ?_|refine zaj ?_|refine zaL ?_|refine zaB ?_|refine zaO ?_|refine zaD ?_|refine zaC ?_|refine zar ?_|refine zaq ?_|refine zaI ?_|refine zaE ?_|refine zas ?_|refine zaH ?_)|refine zaw rfl rfl True.intro ?_|refine zau rfl rfl rfl ?_|refine zao rfl rfl rfl ?_|refine zag rfl rfl rfl rfl True.intro ?_|refine zaF rfl ?_|refine zat rfl ?_|((first |refine zal rfl ?_ ?_|refine zan rfl ?_ ?_|refine zak rfl ?_ ?_|refine zam rfl ?_ ?_|refine zap rfl ?_ ?_|refine zaA rfl ?_ ?_|refine zad rfl rfl ?_ ?_|refine zae rfl rfl ?_ ?_|refine zaf rfl rfl ?_ ?_|refine zac rfl rfl ?_ ?_|refine zab rfl rfl ?_ ?_)<;>intro<;>try (first |contradiction|(exfalso;omega)))|((first |refine zaw rfl rfl ?_ ?_|refine zag rfl rfl rfl rfl ?_ ?_|refine zaM rfl rfl ?_ ?_|refine zaJ rfl ?_ ?_|refine zaG rfl rfl rfl rfl ?_ ?_);focus (first |omega|exact le_ rfl|((repeat first |rw [zay]|rw [wi6_]|rw [wi3_]|rw [zai]|rw [zah]);(repeat' refine And.intro ?_ ?_)<;>omega)|((repeat' refine And.intro ?_ ?_)<;>first |omega|rfl|exact Nat.le_refl _|exact le_ rfl|exact zaa _)|(simp_all;done)|(simp_all;omega)))|refine zaP rfl ?_|refine zaz rfl ?_|with_reducible refine ⟨by kernel_rfl, ?_⟩|refine zbf rfl ?_ ?_|refine zbg rfl ?_ ?_|((with_reducible refine zaN ?_);(fail_if_success (refine zax true rfl rfl rfl ?_));(fail_if_success (refine zax false rfl rfl rfl ?_));refine zav rfl rfl (fun _ => ?_) (fun _ => ?_)))
  refine T.loop hL (fun x : Nat => [(0, .pv 20 0), (3, .i .i32 0), (6, .i .i64 0)]) (fun x => rdl s i o e) (fun x => True) (fun x => x) 0 trivial
    ⟨⟨rfl, rfl, rfl, trivial⟩, ⟨rfl, rfl, trivial⟩, rfl, by rw [hX]; intro k hk; exact hk⟩ ?_
  intro x _
  repeat' (first |with_reducible (first |refine zaK ?_|refine zaj ?_|refine zaL ?_|refine zaB ?_|refine zaO ?_|refine zaD ?_|refine zaC ?_|refine zar ?_|refine zaq ?_|refine zaI ?_|refine zaE ?_|refine zas ?_|refine zaH ?_)|refine zaw rfl rfl True.intro ?_|refine zau rfl rfl rfl ?_|refine zao rfl rfl rfl ?_|refine zag rfl rfl rfl rfl True.intro ?_|refine zaF rfl ?_|refine zat rfl ?_|((first |refine zal rfl ?_ ?_|refine zan rfl ?_ ?_|refine zak rfl ?_ ?_|refine zam rfl ?_ ?_|refine zap rfl ?_ ?_|refine zaA rfl ?_ ?_|refine zad rfl rfl ?_ ?_|refine zae rfl rfl ?_ ?_|refine zaf rfl rfl ?_ ?_|refine zac rfl rfl ?_ ?_|refine zab rfl rfl ?_ ?_)<;>intro<;>try (first |contradiction|(exfalso;omega)))|((first |refine zaw rfl rfl ?_ ?_|refine zag rfl rfl rfl rfl ?_ ?_|refine zaM rfl rfl ?_ ?_|refine zaJ rfl ?_ ?_|refine zaG rfl rfl rfl rfl ?_ ?_);focus (first |omega|exact le_ rfl|((repeat first |rw [zay]|rw [wi6_]|rw [wi3_]|rw [zai]|rw [zah]);(repeat' refine And.intro ?_ ?_)<;>omega)|((repeat' refine And.intro ?_ ?_)<;>first |omega|rfl|exact Nat.le_refl _|exact le_ rfl|exact zaa _)|(simp_all;done)|(simp_all;omega)))|refine zaP rfl ?_|refine zaz rfl ?_|with_reducible refine ⟨by kernel_rfl, ?_⟩|refine zbf rfl ?_ ?_|refine zbg rfl ?_ ?_|refine zaV (f := 131) 20 200 rfl rfl Tryz.call131 rfl rfl rfl rfl rfl rfl rfl rfl rfl hn ?_|((with_reducible refine zaN ?_);(fail_if_success (refine zax true rfl rfl rfl ?_));(fail_if_success (refine zax false rfl rfl rfl ?_));refine zav rfl rfl (fun _ => ?_) (fun _ => ?_)))
  all_goals first | rfl | exact ⟨⟨rfl, rfl, trivial⟩⟩ | contradiction

theorem zcA (s : List UInt8) : ∀ (k : Nat) (n i : Int), 0 ≤ i → i ≤ s.length → 0 ≤ n → 0 ≤ (fourG s k n i).1 ∧ (fourG s k n i).1 < 16 ^ k * (n + 1) ∧ i ≤ (fourG s k n i).2.1 ∧ (fourG s k n i).2.1 ≤ s.length ∧ (fourG s k n i).2.1 ≤ i + k ∧ ((fourG s k n i).2.2 ≠ 0 → (fourG s k n i).1 = 0) ∧ ((fourG s k n i).2.2 = 0 → (fourG s k n i).2.1 = i + k)
  | 0, n, i, h0, h1, h2 => by simp [fourG]; omega
  | k + 1, n, i, h0, h1, h2 => by
    have hh := zfE (at' s i)
    have hp : (0 : Int) < 16 ^ k := Int.pow_pos (by omega)
    rw [fourG]
    split
    · split
      · dsimp only
        refine ⟨by omega, ?_, by omega, by omega, by omega, fun _ => rfl, fun h => absurd h (by omega)⟩
        exact Int.mul_pos (Int.pow_pos (by omega)) (by omega)
      · have ih := zcA s k (16 * n + hexF (at' s i)) (i + 1) (by omega) (by omega) (by omega)
        obtain ⟨a, b, c, d, e, f, g⟩ := ih
        refine ⟨a, Int.lt_of_lt_of_le b ?_, by omega, by omega, by omega, f, fun h => by have := g h; omega⟩
        have : (16 : Int) ^ (k + 1) * (n + 1) = 16 ^ k * (16 * (n + 1)) := by rw [Int.pow_succ, Int.mul_assoc]
        rw [this]
        exact Int.mul_le_mul_of_nonneg_left (by omega) (by omega)
    · dsimp only
      refine ⟨by omega, ?_, by omega, by omega, by omega, fun _ => rfl, fun h => absurd h (by omega)⟩
      exact Int.mul_pos (Int.pow_pos (by omega)) (by omega)

theorem zeV (s : List UInt8) (i e : Int) (h0 : 0 ≤ i) (h1 : i ≤ s.length) : 0 ≤ (fourF s i e).1 ∧ (fourF s i e).1 < 65536 ∧ i ≤ (fourF s i e).2.1 ∧ (fourF s i e).2.1 ≤ s.length ∧ (fourF s i e).2.1 ≤ i + 4 ∧ ((fourF s i e).2.2 ≠ 0 → (fourF s i e).1 = 0) := by
  have h := zcA s 4 0 i h0 h1 (by omega)
  unfold fourF
  split
  · refine ⟨h.1, ?_, h.2.2.1, h.2.2.2.1, h.2.2.2.2.1, h.2.2.2.2.2.1⟩
    have := h.2.1
    omega
  · dsimp only
    omega

def utfB (n : Int) : List UInt8 :=
  if n < 128 then [by8 n] else if n < 2048 then [by8 (192 + n / 64), by8 (128 + n % 64)]
  else if n < 65536 then [by8 (224 + n / 4096), by8 (128 + n / 64 % 64), by8 (128 + n % 64)]
  else [by8 (240 + n / 262144), by8 (128 + n / 4096 % 64), by8 (128 + n / 64 % 64), by8 (128 + n % 64)]

theorem zjw (n : Int) : (utfB n).length ≤ 4 := by
  unfold utfB
  split
  · simp
  · split
    · simp
    · split <;> simp

theorem tail6 (x : Int) (_h : 0 ≤ x) : bits .or .u8 128 (bits .and .u8 (IntKind.u8.wrap x) 63) = ((by8 (128 + x % 64)).toNat : Int) := by
  rw [zay, and63 _ (by omega) (by omega), or128 _ (by omega) (by omega), zcC _ (by omega) (by omega)]
  omega
theorem head2 (x : Int) (h : 0 ≤ x) (h2 : x < 32) : bits .or .u8 192 (IntKind.u8.wrap x) = ((by8 (192 + x)).toNat : Int) := by
  rw [zay, or192 _ (by omega) (by omega), zcC _ (by omega) (by omega)]
  omega
theorem head3 (x : Int) (h : 0 ≤ x) (h2 : x < 16) : bits .or .u8 224 (IntKind.u8.wrap x) = ((by8 (224 + x)).toNat : Int) := by
  rw [zay, or224 _ (by omega) (by omega), zcC _ (by omega) (by omega)]
  omega
theorem head4 (x : Int) (h : 0 ≤ x) (h2 : x < 8) : bits .or .u8 240 (IntKind.u8.wrap x) = ((by8 (240 + x)).toNat : Int) := by
  rw [zay, or240 _ (by omega) (by omega), zcC _ (by omega) (by omega)]
  omega

theorem zme {r : Int} (h : r < 128) : utfB r = [by8 r] := if_pos h
theorem znU {r : Int} (h0 : 128 ≤ r) (h : r < 2048) : utfB r = [by8 (192 + r / 64), by8 (128 + r % 64)] := by
  unfold utfB
  rw [if_neg (by omega), if_pos h]
theorem ziM {r : Int} (h0 : 2048 ≤ r) (h : r < 65536) : utfB r = [by8 (224 + r / 4096), by8 (128 + r / 64 % 64), by8 (128 + r % 64)] := by
  unfold utfB
  rw [if_neg (by omega), if_neg (by omega), if_pos h]
theorem znG {r : Int} (h0 : 65536 ≤ r) : utfB r = [by8 (240 + r / 262144), by8 (128 + r / 4096 % 64), by8 (128 + r / 64 % 64), by8 (128 + r % 64)] := by
  unfold utfB
  rw [if_neg (by omega), if_neg (by omega), if_neg (by omega)]

theorem p6 : (2 : Int) ^ Int.toNat 6 = 64 := by decide
theorem p12 : (2 : Int) ^ Int.toNat 12 = 4096 := by decide
theorem p18 : (2 : Int) ^ Int.toNat 18 = 262144 := by decide

set_option maxHeartbeats 2000000 in
theorem zlZ (o : List UInt8) (r : Int) (ho : o.length ≤ 1099511627776) (h0 : 128 ≤ r) (h1 : r ≤ 1114111) (h2 : r < 55296 ∨ 57343 < r) :
    CtrO Tryz.prog 179 [.gs 200 1 o.length (bytesF o), .i .i32 r] [(200, .row 5 1 o.length)] (.gs 200 1 (o ++ utfB r).length (bytesF (o ++ utfB r))) [(200, .row 5 1 (o ++ utfB r).length)] := by
  have hw : IntKind.u32.wrap r = r := ziH r (by omega) (by omega)
  refine zbi Tryz.func179 rfl Tryz.ntmps179 Tryz.results179 rfl rfl rfl rfl rfl fun X hL hX => ?_
  repeat' (first |with_reducible (first |refine zaK ?_|refine zaj ?_|refine zaL ?_|refine zaB ?_|refine zaO ?_|refine zaD ?_|refine zaC ?_|refine zar ?_|refine zaq ?_|refine zaI ?_|refine zaE ?_|refine zas ?_|refine zaH ?_)|refine zaw rfl rfl True.intro ?_|refine zau rfl rfl rfl ?_|refine zao rfl rfl rfl ?_|refine zag rfl rfl rfl rfl True.intro ?_|refine zaF rfl ?_|refine zat rfl ?_|((first |refine zal rfl ?_ ?_|refine zan rfl ?_ ?_|refine zak rfl ?_ ?_|refine zam rfl ?_ ?_|refine zap rfl ?_ ?_|refine zaA rfl ?_ ?_|refine zad rfl rfl ?_ ?_|refine zae rfl rfl ?_ ?_|refine zaf rfl rfl ?_ ?_|refine zac rfl rfl ?_ ?_|refine zab rfl rfl ?_ ?_)<;>intro<;>try (first |contradiction|(exfalso;omega)))|((first |refine zaw rfl rfl ?_ ?_|refine zag rfl rfl rfl rfl ?_ ?_|refine zaM rfl rfl ?_ ?_|refine zaJ rfl ?_ ?_|refine zaG rfl rfl rfl rfl ?_ ?_);focus (first |omega|exact le_ rfl|((repeat first |rw [zay]|rw [wi6_]|rw [wi3_]|rw [zai]|rw [zah]);(repeat' refine And.intro ?_ ?_)<;>omega)|((repeat' refine And.intro ?_ ?_)<;>first |omega|rfl|exact Nat.le_refl _|exact le_ rfl|exact zaa _)|(simp_all;done)|(simp_all;omega)))|refine zaP rfl ?_|refine zaz rfl ?_|with_reducible refine ⟨by kernel_rfl, ?_⟩|refine zbf rfl ?_ ?_|refine zbg rfl ?_ ?_|((with_reducible refine zaN ?_);(fail_if_success (refine zax true rfl rfl rfl ?_));(fail_if_success (refine zax false rfl rfl rfl ?_));refine zav rfl rfl (fun _ => ?_) (fun _ => ?_)))
  · rw [znU h0 (by omega), p6]
    exact zdh 200 o _ 2 _ rfl (fun i hi => match i, hi with
      | 0, _ => congrArg (fun z => [D.i .u8 z]) (head2 _ (by omega) (by omega))
      | 1, _ => congrArg (fun z => [D.i .u8 z]) (tail6 _ (by omega)))
  · rw [znU h0 (by omega)]
    exact ⟨⟨by rw [List.length_append]; rfl, trivial⟩⟩
  · rw [ziM (by omega) (by omega), p6, p12]
    exact zdh 200 o _ 3 _ rfl (fun i hi => match i, hi with
      | 0, _ => congrArg (fun z => [D.i .u8 z]) (head3 _ (by omega) (by omega))
      | 1, _ => congrArg (fun z => [D.i .u8 z]) (tail6 _ (by omega))
      | 2, _ => congrArg (fun z => [D.i .u8 z]) (tail6 _ (by omega)))
  · rw [ziM (by omega) (by omega)]
    exact ⟨⟨by rw [List.length_append]; rfl, trivial⟩⟩
  · rw [ziM (by omega) (by omega), p6, p12]
    exact zdh 200 o _ 3 _ rfl (fun i hi => match i, hi with
      | 0, _ => congrArg (fun z => [D.i .u8 z]) (head3 _ (by omega) (by omega))
      | 1, _ => congrArg (fun z => [D.i .u8 z]) (tail6 _ (by omega))
      | 2, _ => congrArg (fun z => [D.i .u8 z]) (tail6 _ (by omega)))
  · rw [ziM (by omega) (by omega)]
    exact ⟨⟨by rw [List.length_append]; rfl, trivial⟩⟩
  · rw [znG (by omega), p6, p12, p18]
    exact zdh 200 o _ 4 _ rfl (fun i hi => match i, hi with
      | 0, _ => congrArg (fun z => [D.i .u8 z]) (head4 _ (by omega) (by omega))
      | 1, _ => congrArg (fun z => [D.i .u8 z]) (tail6 _ (by omega))
      | 2, _ => congrArg (fun z => [D.i .u8 z]) (tail6 _ (by omega))
      | 3, _ => congrArg (fun z => [D.i .u8 z]) (tail6 _ (by omega)))
  · rw [znG (by omega)]
    exact ⟨⟨by rw [List.length_append]; rfl, trivial⟩⟩

theorem zjd (o : List UInt8) (r : Int) (ho : o.length ≤ 1099511627776) (h0 : 0 ≤ r) (h1 : r ≤ 1114111) (h2 : r < 55296 ∨ 57343 < r) :
    CtrO Tryz.prog 168 [.gs 200 1 o.length (bytesF o), .i .i32 r] [(200, .row 5 1 o.length)] (.gs 200 1 (o ++ utfB r).length (bytesF (o ++ utfB r))) [(200, .row 5 1 (o ++ utfB r).length)] := by
  have hw : IntKind.u32.wrap r = r := ziH r (by omega) (by omega)
  refine zbi Tryz.func168 rfl Tryz.ntmps168 Tryz.results168 rfl rfl rfl rfl rfl fun X hL hX => ?_
  repeat' (first |with_reducible (first |refine zaK ?_|refine zaj ?_|refine zaL ?_|refine zaB ?_|refine zaO ?_|refine zaD ?_|refine zaC ?_|refine zar ?_|refine zaq ?_|refine zaI ?_|refine zaE ?_|refine zas ?_|refine zaH ?_)|refine zaw rfl rfl True.intro ?_|refine zau rfl rfl rfl ?_|refine zao rfl rfl rfl ?_|refine zag rfl rfl rfl rfl True.intro ?_|refine zaF rfl ?_|refine zat rfl ?_|((first |refine zal rfl ?_ ?_|refine zan rfl ?_ ?_|refine zak rfl ?_ ?_|refine zam rfl ?_ ?_|refine zap rfl ?_ ?_|refine zaA rfl ?_ ?_|refine zad rfl rfl ?_ ?_|refine zae rfl rfl ?_ ?_|refine zaf rfl rfl ?_ ?_|refine zac rfl rfl ?_ ?_|refine zab rfl rfl ?_ ?_)<;>intro<;>try (first |contradiction|(exfalso;omega)))|((first |refine zaw rfl rfl ?_ ?_|refine zag rfl rfl rfl rfl ?_ ?_|refine zaM rfl rfl ?_ ?_|refine zaJ rfl ?_ ?_|refine zaG rfl rfl rfl rfl ?_ ?_);focus (first |omega|exact le_ rfl|((repeat first |rw [zay]|rw [wi6_]|rw [wi3_]|rw [zai]|rw [zah]);(repeat' refine And.intro ?_ ?_)<;>omega)|((repeat' refine And.intro ?_ ?_)<;>first |omega|rfl|exact Nat.le_refl _|exact le_ rfl|exact zaa _)|(simp_all;done)|(simp_all;omega)))|refine zaP rfl ?_|refine zaz rfl ?_|with_reducible refine ⟨by kernel_rfl, ?_⟩|refine zbf rfl ?_ ?_|refine zbg rfl ?_ ?_|refine zbx (f := 179) 200 rfl rfl Tryz.call179 rfl rfl rfl rfl rfl (zlZ o r ho (by omega) h1 h2) ?_|((with_reducible refine zaN ?_);(fail_if_success (refine zax true rfl rfl rfl ?_));(fail_if_success (refine zax false rfl rfl rfl ?_));refine zav rfl rfl (fun _ => ?_) (fun _ => ?_)))
  · rw [zme (by omega)]
    exact zdh 200 o _ 1 _ rfl (fun i hi => match i, hi with
      | 0, _ => congrArg (fun z => [D.i .u8 z]) (show IntKind.u8.wrap r = ((by8 r).toNat : Int) by rw [zay, zcC _ h0 (by omega)]; omega))
  · rw [zme (by omega)]
    exact ⟨⟨by rw [List.length_append]; rfl, trivial⟩⟩
  · rfl
  · exact ⟨⟨rfl, trivial⟩⟩

def pairW (n m : Int) : Int := IntKind.i32.wrap (IntKind.i32.wrap (IntKind.i32.wrap (65536 + IntKind.i32.wrap (IntKind.i32.wrap (n - 55296) * 2 ^ (10 : Int).toNat)) + m) - 56320)
def pairF (n m : Int) : Int := 65536 + 1024 * (n - 55296) + m - 56320
theorem znc (n m : Int) (h0 : 55296 ≤ n) (h1 : n ≤ 56319) (h2 : 0 ≤ m) (h3 : m < 65536) : pairW n m = pairF n m := by
  unfold pairW pairF
  have e : (2 : Int) ^ Int.toNat 10 = 1024 := by decide
  rw [e, wrap_i32 (n - 55296) (by omega) (by omega), wrap_i32 ((n - 55296) * 1024) (by omega) (by omega), wrap_i32 (65536 + (n - 55296) * 1024) (by omega) (by omega), wrap_i32 (65536 + (n - 55296) * 1024 + m) (by omega) (by omega), wrap_i32 _ (by omega) (by omega)]
  omega

def lowP (s : List UInt8) (j : Int) : Int × Int × Int :=
  let a := mustF s j 0 92
  let b := mustF s a.1 a.2 117
  let y := fourF s b.1 b.2
  (y.1, y.2.1, if y.1 < 56320 ∨ 57343 < y.1 then failF y.2.2 3 else y.2.2)

theorem zbJ (s : List UInt8) (i e c : Int) (h : 0 ≤ i) (h2 : i ≤ s.length) : i ≤ (mustF s i e c).1 ∧ (mustF s i e c).1 ≤ s.length ∧ (mustF s i e c).1 ≤ i + 1 := by
  have := zic (e := e) h h2
  unfold mustF
  dsimp only
  omega

def codeP (s : List UInt8) (i : Int) (o : List UInt8) : Int × List UInt8 × Int :=
  let x := fourG s 4 0 i
  if x.2.2 = 0 then
    if 56320 ≤ x.1 ∧ x.1 ≤ 57343 then (x.2.1, o, 3)
    else if 55296 ≤ x.1 ∧ x.1 ≤ 56319 then
      (if (lowP s x.2.1).2.2 = 0 then ((lowP s x.2.1).2.1, o ++ utfB (pairF x.1 (lowP s x.2.1).1), 0) else ((lowP s x.2.1).2.1, o, (lowP s x.2.1).2.2))
    else (x.2.1, o ++ utfB x.1, 0)
  else (x.2.1, o, x.2.2)

section
variable {s : List UInt8} {i j j1 j2 j3 n m e e1 e2 e3 : Int} {o : List UInt8}
theorem zor (h1 : mustF s j 0 92 = (j1, e1)) (h2 : mustF s j1 e1 117 = (j2, e2)) (h3 : fourF s j2 e2 = (m, j3, e3)) : lowP s j = (m, j3, if m < 56320 ∨ 57343 < m then failF e3 3 else e3) := by
  simp only [lowP, h1, h2, h3]
theorem zlw (h : fourG s 4 0 i = (n, j, e)) (h2 : ¬ e = 0) : codeP s i o = (j, o, e) := by
  simp only [codeP, h]
  rw [if_neg h2]
theorem zmc (h : fourG s 4 0 i = (n, j, 0)) (h2 : 56320 ≤ n) (h3 : n ≤ 57343) : codeP s i o = (j, o, 3) := by
  simp only [codeP, h]
  rw [if_pos trivial, if_pos ⟨h2, h3⟩]
theorem zfe (h : fourG s 4 0 i = (n, j, 0)) (h2 : n < 55296 ∨ 57343 < n) : codeP s i o = (j, o ++ utfB n, 0) := by
  simp only [codeP, h]
  rw [if_pos trivial, if_neg (by omega), if_neg (by omega)]
theorem zkc (h : fourG s 4 0 i = (n, j, 0)) (h2 : 55296 ≤ n) (h3 : n ≤ 56319) (h4 : lowP s j = (m, j3, 0)) : codeP s i o = (j3, o ++ utfB (pairF n m), 0) := by
  simp only [codeP, h]
  rw [if_pos trivial, if_neg (by omega), if_pos ⟨h2, h3⟩, h4]
  rfl
theorem zfU (h : fourG s 4 0 i = (n, j, 0)) (h2 : 55296 ≤ n) (h3 : n ≤ 56319) (h4 : lowP s j = (m, j3, e)) (h5 : ¬ e = 0) : codeP s i o = (j3, o, e) := by
  simp only [codeP, h]
  rw [if_pos trivial, if_neg (by omega), if_pos ⟨h2, h3⟩, h4]
  dsimp only
  rw [if_neg h5]
end

set_option maxHeartbeats 4000000 in
theorem zmH (s : List UInt8) (i : Int) (o : List UInt8) (hs : s.length ≤ 1099511627776) (h0 : 0 ≤ i) (h1 : i ≤ s.length) (ho : o.length ≤ 1099511627776) :
    CtrO Tryz.prog 154 [.pv 20 0] (rdl s i o 0) (.tu []) (rdl s (codeP s i o).1 (codeP s i o).2.1 (codeP s i o).2.2) := by
  have hn := zhi s i o hs h0 h1
  have hr := zcA s 4 0 i h0 h1 (by omega)
  generalize hR : codeP s i o = R
  generalize hx : fourG s 4 0 i = x at hn hr
  obtain ⟨n, j, e⟩ := x
  dsimp only at hn hr ⊢
  obtain ⟨r1, r2, r3, r4, r5, r6, _⟩ := hr
  have r2 : n < 65536 := by omega
  by_cases he : e = 0
  · subst he
    have hj0 : 0 ≤ j := by omega
    have q1 := zbJ s j 0 92 hj0 r4
    have c1 := zgB s j o 0 92 hs hj0 r4
    generalize ha : mustF s j 0 92 = a at c1 q1
    obtain ⟨j1, e1⟩ := a
    dsimp only at c1 q1
    have hj1 : 0 ≤ j1 := by omega
    have q2 := zbJ s j1 e1 117 hj1 q1.2.1
    have c2 := zgB s j1 o e1 117 hs hj1 q1.2.1
    generalize hb : mustF s j1 e1 117 = b at c2 q2
    obtain ⟨j2, e2⟩ := b
    dsimp only at c2 q2
    have hj2 : 0 ≤ j2 := by omega
    have q3 := zeV s j2 e2 hj2 q2.2.1
    have c3 := znp s j2 o e2 hs hj2 q2.2.1
    generalize hy : fourF s j2 e2 = y at c3 q3
    obtain ⟨m, j3, e3⟩ := y
    dsimp only at c3 q3
    obtain ⟨y1, y2, y3, y4, y5, y6⟩ := q3
    have hne := zja e3 3 (by omega)
    have hp : 55296 ≤ n → n ≤ 56319 → pairW n m = pairF n m := fun a b => znc n m a b y1 y2
    have hl := zor ha hb hy
    have hf := zck s j o 0 3
    have hf3 := zck s j3 o e3 3
    refine zbi Tryz.func154 rfl Tryz.ntmps154 Tryz.results154 rfl rfl rfl rfl rfl fun X hL hX => ?_
    repeat' (first |with_reducible (first |refine zaK ?_|refine zaj ?_|refine zaL ?_|refine zaB ?_|refine zaO ?_|refine zaD ?_|refine zaC ?_|refine zar ?_|refine zaq ?_|refine zaI ?_|refine zaE ?_|refine zas ?_|refine zaH ?_)|refine zaw rfl rfl True.intro ?_|refine zau rfl rfl rfl ?_|refine zao rfl rfl rfl ?_|refine zag rfl rfl rfl rfl True.intro ?_|refine zaF rfl ?_|refine zat rfl ?_|((first |refine zal rfl ?_ ?_|refine zan rfl ?_ ?_|refine zak rfl ?_ ?_|refine zam rfl ?_ ?_|refine zap rfl ?_ ?_|refine zaA rfl ?_ ?_|refine zad rfl rfl ?_ ?_|refine zae rfl rfl ?_ ?_|refine zaf rfl rfl ?_ ?_|refine zac rfl rfl ?_ ?_|refine zab rfl rfl ?_ ?_)<;>intro<;>try (first |contradiction|(exfalso;omega)))|((first |refine zaw rfl rfl ?_ ?_|refine zag rfl rfl rfl rfl ?_ ?_|refine zaM rfl rfl ?_ ?_|refine zaJ rfl ?_ ?_|refine zaG rfl rfl rfl rfl ?_ ?_);focus (first |omega|exact le_ rfl|((repeat first |rw [zay]|rw [wi6_]|rw [wi3_]|rw [zai]|rw [zah]);(repeat' refine And.intro ?_ ?_)<;>omega)|((repeat' refine And.intro ?_ ?_)<;>first |omega|rfl|exact Nat.le_refl _|exact le_ rfl|exact zaa _)|(simp_all;done)|(simp_all;omega)))|refine zaP rfl ?_|refine zaz rfl ?_|with_reducible refine ⟨by kernel_rfl, ?_⟩|refine zbf rfl rfl ?_|refine zbg rfl rfl ?_|refine zaV (f := 133) 20 200 rfl rfl Tryz.call133 rfl rfl rfl rfl rfl rfl rfl rfl rfl hf ?_|refine zaV (f := 133) 20 200 rfl rfl Tryz.call133 rfl rfl rfl rfl rfl rfl rfl rfl rfl hf3 ?_|refine zaV (f := 130) 20 200 rfl rfl Tryz.call130 rfl rfl rfl rfl rfl rfl rfl rfl rfl c1 ?_|refine zaV (f := 130) 20 200 rfl rfl Tryz.call130 rfl rfl rfl rfl rfl rfl rfl rfl rfl c2 ?_|refine zaV (f := 167) 20 200 rfl rfl Tryz.call167 rfl rfl rfl rfl rfl rfl rfl rfl rfl hn ?_|refine zaV (f := 167) 20 200 rfl rfl Tryz.call167 rfl rfl rfl rfl rfl rfl rfl rfl rfl c3 ?_|refine zbx (f := 168) 200 rfl rfl Tryz.call168 rfl rfl rfl rfl rfl (zjd o n ho (by omega) (by omega) (by omega)) ?_|refine zbx (f := 168) 200 rfl rfl Tryz.call168 rfl rfl rfl rfl rfl (zjd o (pairW n m) ho (by rw [hp (by omega) (by omega)];unfold pairF;omega) (by rw [hp (by omega) (by omega)];unfold pairF;omega) (by rw [hp (by omega) (by omega)];unfold pairF;omega)) ?_|((with_reducible refine zaN ?_);(fail_if_success (refine zax true rfl rfl rfl ?_));(fail_if_success (refine zax false rfl rfl rfl ?_));refine zav rfl rfl (fun _ => ?_) (fun _ => ?_)))
    · rw [← hR, zmc hx ‹_› ‹_›]
      exact ⟨⟨rfl, rfl, trivial⟩⟩
    · rw [← hR, zfe hx (by omega)]
      exact ⟨⟨rfl, rfl, trivial⟩⟩
    · rw [if_pos (.inl ‹_›)] at hl
      rw [← hR, zfU hx (by omega) (by omega) hl hne]
      exact ⟨⟨rfl, rfl, trivial⟩⟩
    · rw [if_pos (.inr ‹_›)] at hl
      rw [← hR, zfU hx (by omega) (by omega) hl hne]
      exact ⟨⟨rfl, rfl, trivial⟩⟩
    · rename_i he3
      subst he3
      rw [if_neg (by omega)] at hl
      rw [← hR, zkc hx (by omega) (by omega) hl, hp (by omega) (by omega)]
      exact ⟨⟨rfl, rfl, trivial⟩⟩
    · rw [← hR, zfe hx (by omega)]
      exact ⟨⟨rfl, rfl, trivial⟩⟩
  · have hz := r6 he
    subst hz
    refine zbi Tryz.func154 rfl Tryz.ntmps154 Tryz.results154 rfl rfl rfl rfl rfl fun X hL hX => ?_
    repeat' (first |with_reducible (first |refine zaK ?_|refine zaj ?_|refine zaL ?_|refine zaB ?_|refine zaO ?_|refine zaD ?_|refine zaC ?_|refine zar ?_|refine zaq ?_|refine zaI ?_|refine zaE ?_|refine zas ?_|refine zaH ?_)|refine zaw rfl rfl True.intro ?_|refine zau rfl rfl rfl ?_|refine zao rfl rfl rfl ?_|refine zag rfl rfl rfl rfl True.intro ?_|refine zaF rfl ?_|refine zat rfl ?_|((first |refine zal rfl ?_ ?_|refine zan rfl ?_ ?_|refine zak rfl ?_ ?_|refine zam rfl ?_ ?_|refine zap rfl ?_ ?_|refine zaA rfl ?_ ?_|refine zad rfl rfl ?_ ?_|refine zae rfl rfl ?_ ?_|refine zaf rfl rfl ?_ ?_|refine zac rfl rfl ?_ ?_|refine zab rfl rfl ?_ ?_)<;>intro<;>try (first |contradiction|(exfalso;omega)))|((first |refine zaw rfl rfl ?_ ?_|refine zag rfl rfl rfl rfl ?_ ?_|refine zaM rfl rfl ?_ ?_|refine zaJ rfl ?_ ?_|refine zaG rfl rfl rfl rfl ?_ ?_);focus (first |omega|exact le_ rfl|((repeat first |rw [zay]|rw [wi6_]|rw [wi3_]|rw [zai]|rw [zah]);(repeat' refine And.intro ?_ ?_)<;>omega)|((repeat' refine And.intro ?_ ?_)<;>first |omega|rfl|exact Nat.le_refl _|exact le_ rfl|exact zaa _)|(simp_all;done)|(simp_all;omega)))|refine zaP rfl ?_|refine zaz rfl ?_|with_reducible refine ⟨by kernel_rfl, ?_⟩|refine zbf rfl rfl ?_|refine zbg rfl rfl ?_|refine zaV (f := 167) 20 200 rfl rfl Tryz.call167 rfl rfl rfl rfl rfl rfl rfl rfl rfl hn ?_|((with_reducible refine zaN ?_);(fail_if_success (refine zax true rfl rfl rfl ?_));(fail_if_success (refine zax false rfl rfl rfl ?_));refine zav rfl rfl (fun _ => ?_) (fun _ => ?_)))
    rw [← hR, zlw hx he]
    exact ⟨⟨rfl, rfl, trivial⟩⟩

def tlB (l : List UInt8) (k : Int) (lo hi : Int) : Bool := decide (k < l.length) && decide (lo ≤ at' l k) && decide (at' l k ≤ hi)
def loF (c : Int) : Int := if c = 224 then 160 else if c = 240 then 144 else 128
def hiF (c : Int) : Int := if c = 237 then 159 else if c = 244 then 143 else 191

def oneL (l : List UInt8) : Nat :=
  if at' l 0 < 128 then 1
  else if tlB l 1 (loF (at' l 0)) (hiF (at' l 0)) = false then 0
  else if 194 ≤ at' l 0 ∧ at' l 0 ≤ 223 then 2
  else if 224 ≤ at' l 0 ∧ at' l 0 ≤ 239 ∧ tlB l 2 128 191 = true then 3
  else if 240 ≤ at' l 0 ∧ at' l 0 ≤ 244 ∧ tlB l 2 128 191 = true ∧ tlB l 3 128 191 = true then 4
  else 0

def validN : Nat → List UInt8 → Bool
  | 0, _ => true
  | n + 1, l => if l.length = 0 then true else if oneL l = 0 then false else validN n (l.drop (oneL l))

def validL (l : List UInt8) : Bool := validN l.length l

theorem zgK : ∀ (n m : Nat) (l : List UInt8), l.length ≤ n → l.length ≤ m → validN n l = validN m l
  | 0, m, l, h, _ => by
    have : l.length = 0 := by omega
    cases m with
    | zero => rfl
    | succ m => simp [validN, this]
  | n + 1, 0, l, _, h => by
    have : l.length = 0 := by omega
    simp [validN, this]
  | n + 1, m + 1, l, h1, h2 => by
    unfold validN
    by_cases h0 : l.length = 0
    · simp [h0]
    · rw [if_neg h0, if_neg h0]
      by_cases ho : oneL l = 0
      · rw [if_pos ho, if_pos ho]
      · rw [if_neg ho, if_neg ho]
        exact zgK n m _ (by rw [List.length_drop]; omega) (by rw [List.length_drop]; omega)

theorem zkt {l : List UInt8} (h : l.length = 0) : validL l = true := by
  unfold validL
  rw [h]
  rfl
theorem zkg {l : List UInt8} (h : ¬ l.length = 0) (ho : oneL l = 0) : validL l = false := by
  unfold validL
  obtain ⟨n, hn⟩ : ∃ n, l.length = n + 1 := ⟨l.length - 1, by omega⟩
  rw [hn]
  unfold validN
  rw [if_neg h, if_pos ho]
theorem zfd {l : List UInt8} (h : ¬ l.length = 0) (ho : ¬ oneL l = 0) : validL l = validL (l.drop (oneL l)) := by
  unfold validL
  obtain ⟨n, hn⟩ : ∃ n, l.length = n + 1 := ⟨l.length - 1, by omega⟩
  rw [hn]
  conv => lhs; unfold validN
  rw [if_neg h, if_neg ho]
  exact zgK _ _ _ (by rw [List.length_drop]; omega) (Nat.le_refl _)

theorem zii (l : List UInt8) (k j : Nat) : at' (l.drop k) j = at' l ((k + j : Nat) : Int) := by
  unfold at'
  simp only [Int.toNat_natCast]
  simp [List.getD_eq_getElem?_getD, List.getElem?_drop]

theorem zbZ : ∀ (k : Nat) (l : List UInt8), k ≤ l.length → (∀ j : Nat, j < k → at' l j < 128) → validL (l.drop k) = validL l
  | 0, l, _, _ => by simp
  | k + 1, l, h, ha => by
    have h0 := ha 0 (by omega)
    have ho : oneL l = 1 := by unfold oneL; rw [if_pos (by simpa using h0)]
    rw [zfd (l := l) (by omega) (by omega), ho, ← zbZ k (l.drop 1) (by rw [List.length_drop]; omega) (fun j hj => by rw [zii]; exact ha (1 + j) (by omega)), List.drop_drop, Nat.add_comm 1 k]

def wordV (l : List UInt8) : Int := at' l 0 + 256 * at' l 1 + 65536 * at' l 2 + 16777216 * at' l 3 + 4294967296 * at' l 4 + 1099511627776 * at' l 5 + 281474976710656 * at' l 6 + 72057594037927936 * at' l 7

theorem zbr (n : Int) (h₀ : 0 ≤ n) (h₁ : n < 2 ^ 64) : IntKind.u64.wrap n = n := by rw [zah]; omega
theorem zgq (k : IntKind) (x y : Int) : bits .or k x y = bits .or k y x := by simp [bits, BitVec.or_comm]

theorem zin (i : Nat) (x y p : Int) (hx : 0 ≤ x) (hx2 : x < 2 ^ i) (hy : 0 ≤ y) (hy2 : y < 256) (_hi : i + 8 ≤ 64) (hp : p = 2 ^ i) (hp2 : y * p < 18446744073709551616) (hx3 : x < 18446744073709551616) (hp0 : 0 ≤ y * p) : bits .or .u64 x (IntKind.u64.wrap (IntKind.u64.wrap y * p)) = x + y * p := by
  rw [zbr y hy (by omega), zbr _ hp0 hp2, zgq, bits_join .u64 64 (by decide) zbr i _ _ hp0 (by rw [hp, Int.mul_emod_left]) hp2 hx hx2 hx3]
  omega

theorem znf (l : List UInt8) (h : 8 ≤ l.length) : Ctr Tryz.prog 126 [.s l] (.i .u64 (wordV l)) := by
  have r0 := zba l 0
  have r1 := zba l 1
  have r2 := zba l 2
  have r3 := zba l 3
  have r4 := zba l 4
  have r5 := zba l 5
  have r6 := zba l 6
  have r7 := zba l 7
  refine zbe Tryz.func126 rfl Tryz.ntmps126 Tryz.results126 rfl rfl fun X hL hX => ?_
  repeat' (first |with_reducible (first |refine zaK ?_|refine zaj ?_|refine zaL ?_|refine zaB ?_|refine zaO ?_|refine zaD ?_|refine zaC ?_|refine zar ?_|refine zaq ?_|refine zaI ?_|refine zaE ?_|refine zas ?_|refine zaH ?_)|refine zaw rfl rfl True.intro ?_|refine zau rfl rfl rfl ?_|refine zao rfl rfl rfl ?_|refine zag rfl rfl rfl rfl True.intro ?_|refine zaF rfl ?_|refine zat rfl ?_|((first |refine zal rfl ?_ ?_|refine zan rfl ?_ ?_|refine zak rfl ?_ ?_|refine zam rfl ?_ ?_|refine zap rfl ?_ ?_|refine zaA rfl ?_ ?_|refine zad rfl rfl ?_ ?_|refine zae rfl rfl ?_ ?_|refine zaf rfl rfl ?_ ?_|refine zac rfl rfl ?_ ?_|refine zab rfl rfl ?_ ?_)<;>intro<;>try (first |(rename_i hz;first |exact tf_ hz|exact ft_ hz)|(exfalso;omega)))|((first |refine zaw rfl rfl ?_ ?_|refine zag rfl rfl rfl rfl ?_ ?_|refine zaM rfl rfl ?_ ?_|refine zaJ rfl ?_ ?_|refine zaG rfl rfl rfl rfl ?_ ?_);focus (first |omega|exact le_ rfl|((repeat first |rw [zay]|rw [wi6_]|rw [wi3_]|rw [zai]|rw [zah]);(repeat' refine And.intro ?_ ?_)<;>omega)|((repeat' refine And.intro ?_ ?_)<;>first |omega|rfl|exact Nat.le_refl _|exact le_ rfl|exact zaa _)|(simp_all;done)|(simp_all;omega)))|refine zaP rfl ?_|refine zaz rfl ?_|with_reducible refine ⟨by kernel_rfl, ?_⟩|refine zaQ rfl ?_|((with_reducible refine zaN ?_);(fail_if_success (refine zax true rfl rfl rfl ?_));(fail_if_success (refine zax false rfl rfl rfl ?_));refine zav rfl rfl (fun _ => ?_) (fun _ => ?_)))
  unfold wordV
  generalize at' l 0 = b0 at *
  generalize at' l 1 = b1 at *
  generalize at' l 2 = b2 at *
  generalize at' l 3 = b3 at *
  generalize at' l 4 = b4 at *
  generalize at' l 5 = b5 at *
  generalize at' l 6 = b6 at *
  generalize at' l 7 = b7 at *
  have p8 : (2 : Int) ^ Int.toNat 8 = 256 := by decide
  have p16 : (2 : Int) ^ Int.toNat 16 = 65536 := by decide
  have p24 : (2 : Int) ^ Int.toNat 24 = 16777216 := by decide
  have p32 : (2 : Int) ^ Int.toNat 32 = 4294967296 := by decide
  have p40 : (2 : Int) ^ Int.toNat 40 = 1099511627776 := by decide
  have p48 : (2 : Int) ^ Int.toNat 48 = 281474976710656 := by decide
  have p56 : (2 : Int) ^ Int.toNat 56 = 72057594037927936 := by decide
  rw [p8, p16, p24, p32, p40, p48, p56, zbr b0 r0.1 (by omega)]
  rw [zin 8 b0 b1 256 (by omega) (by omega) r1.1 r1.2 (by omega) (by decide) (by omega) (by omega) (by omega)]
  rw [zin 16 _ b2 65536 (by omega) (by omega) r2.1 r2.2 (by omega) (by decide) (by omega) (by omega) (by omega)]
  rw [zin 24 _ b3 16777216 (by omega) (by omega) r3.1 r3.2 (by omega) (by decide) (by omega) (by omega) (by omega)]
  rw [zin 32 _ b4 4294967296 (by omega) (by omega) r4.1 r4.2 (by omega) (by decide) (by omega) (by omega) (by omega)]
  rw [zin 40 _ b5 1099511627776 (by omega) (by omega) r5.1 r5.2 (by omega) (by decide) (by omega) (by omega) (by omega)]
  rw [zin 48 _ b6 281474976710656 (by omega) (by omega) r6.1 r6.2 (by omega) (by decide) (by omega) (by omega) (by omega)]
  rw [zin 56 _ b7 72057594037927936 (by omega) (by omega) r7.1 r7.2 (by omega) (by decide) (by omega) (by omega) (by omega)]
  exact congrArg (D.i .u64) (by omega)

theorem zon (w : Nat) (h : bits .and .u64 (w : Int) 9259542123273814144 = 0) (hw : w < 18446744073709551616) : w / 128 % 2 = 0 ∧ w / 32768 % 2 = 0 ∧ w / 8388608 % 2 = 0 ∧ w / 2147483648 % 2 = 0 ∧ w / 549755813888 % 2 = 0 ∧ w / 140737488355328 % 2 = 0 ∧ w / 36028797018963968 % 2 = 0 ∧ w / 9223372036854775808 % 2 = 0 := by
  have h1 := (bits_nat .u64 64 (by decide) zbr w 9259542123273814144 hw (by decide)).1
  have h2 : w &&& 9259542123273814144 = 0 := by
    have : ((9259542123273814144 : Nat) : Int) = 9259542123273814144 := rfl
    rw [this, h] at h1
    omega
  have key : ∀ i, (9259542123273814144 : Nat).testBit i = true → w / 2 ^ i % 2 = 0 := fun i hi => by
    have h3 : (w &&& 9259542123273814144).testBit i = false := by rw [h2]; exact Nat.zero_testBit i
    rw [Nat.testBit_and, hi, Bool.and_true, Nat.testBit_eq_decide_div_mod_eq] at h3
    have := of_decide_eq_false h3
    omega
  exact ⟨key 7 (by decide), key 15 (by decide), key 23 (by decide), key 31 (by decide), key 39 (by decide), key 47 (by decide), key 55 (by decide), key 63 (by decide)⟩

theorem zbA (l : List UInt8) : 0 ≤ wordV l ∧ wordV l < 18446744073709551616 := by
  have r0 := zba l 0
  have r1 := zba l 1
  have r2 := zba l 2
  have r3 := zba l 3
  have r4 := zba l 4
  have r5 := zba l 5
  have r6 := zba l 6
  have r7 := zba l 7
  unfold wordV
  omega

theorem zcp (l : List UInt8) (h : bits .and .u64 (wordV l) 9259542123273814144 = 0) : ∀ j : Nat, j < 8 → at' l j < 128 := by
  have hr := zbA l
  obtain ⟨w, hw⟩ : ∃ w : Nat, wordV l = w := ⟨(wordV l).toNat, by omega⟩
  rw [hw] at h
  obtain ⟨k0, k1, k2, k3, k4, k5, k6, k7⟩ := zon w h (by omega)
  have r0 := zba l 0
  have r1 := zba l 1
  have r2 := zba l 2
  have r3 := zba l 3
  have r4 := zba l 4
  have r5 := zba l 5
  have r6 := zba l 6
  have r7 := zba l 7
  unfold wordV at hw
  intro j hj
  have hj : j = 0 ∨ j = 1 ∨ j = 2 ∨ j = 3 ∨ j = 4 ∨ j = 5 ∨ j = 6 ∨ j = 7 := by omega
  rcases hj with rfl | rfl | rfl | rfl | rfl | rfl | rfl | rfl
  · show at' l 0 < 128; clear k1 k2 k3 k4 k5 k6 k7; omega
  · show at' l 1 < 128; clear k0 k2 k3 k4 k5 k6 k7; omega
  · show at' l 2 < 128; clear k1 k0 k3 k4 k5 k6 k7; omega
  · show at' l 3 < 128; clear k1 k2 k0 k4 k5 k6 k7; omega
  · show at' l 4 < 128; clear k1 k2 k3 k0 k5 k6 k7; omega
  · show at' l 5 < 128; clear k1 k2 k3 k4 k0 k6 k7; omega
  · show at' l 6 < 128; clear k1 k2 k3 k4 k5 k0 k7; omega
  · show at' l 7 < 128; clear k1 k2 k3 k4 k5 k6 k0; omega

theorem zjl (a b : Int) (ha : 0 ≤ a) (ha2 : a < 18446744073709551616) (hb : 0 ≤ b) (hb2 : b < 18446744073709551616) (h : bits .and .u64 (bits .or .u64 a b) 9259542123273814144 = 0) : bits .and .u64 a 9259542123273814144 = 0 ∧ bits .and .u64 b 9259542123273814144 = 0 := by
  obtain ⟨x, rfl⟩ := Int.eq_ofNat_of_zero_le ha
  obtain ⟨y, rfl⟩ := Int.eq_ofNat_of_zero_le hb
  have hx : x < 2 ^ 64 := by omega
  have hy : y < 2 ^ 64 := by omega
  have hM : (9259542123273814144 : Nat) < 2 ^ 64 := by decide
  have c : ((9259542123273814144 : Nat) : Int) = 9259542123273814144 := rfl
  rw [(bits_nat .u64 64 (by decide) zbr x y hx hy).2, ← c, (bits_nat .u64 64 (by decide) zbr (x ||| y) 9259542123273814144 (Nat.or_lt_two_pow hx hy) hM).1, Nat.and_or_distrib_right] at h
  rw [← c, (bits_nat .u64 64 (by decide) zbr x 9259542123273814144 hx hM).1, (bits_nat .u64 64 (by decide) zbr y 9259542123273814144 hy hM).1]
  have h2 : x &&& 9259542123273814144 ||| y &&& 9259542123273814144 = 0 := by omega
  rw [Nat.or_eq_zero_iff] at h2
  rw [h2.1, h2.2]
  exact ⟨rfl, rfl⟩

theorem zjq (a b : Int) (ha : 0 ≤ a) (ha2 : a < 18446744073709551616) (hb : 0 ≤ b) (hb2 : b < 18446744073709551616) : 0 ≤ bits .or .u64 a b ∧ bits .or .u64 a b < 18446744073709551616 := by
  obtain ⟨x, rfl⟩ := Int.eq_ofNat_of_zero_le ha
  obtain ⟨y, rfl⟩ := Int.eq_ofNat_of_zero_le hb
  have hx : x < 2 ^ 64 := by omega
  have hy : y < 2 ^ 64 := by omega
  rw [(bits_nat .u64 64 (by decide) zbr x y hx hy).2]
  have := Nat.or_lt_two_pow hx hy
  omega

end Go.Proofs.YtcajofhafpkbdaaGreatDoor.Flow
