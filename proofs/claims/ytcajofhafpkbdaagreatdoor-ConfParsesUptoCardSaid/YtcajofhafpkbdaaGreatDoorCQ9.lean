/- The texts U1, U2, U3, U4, U5, U6, one behind the other. -/
import Derived.Test.YtcajofhafpkbdaaGreatDoorCQ8
import Derived.Laws.BitsLemmas
namespace Go.Proofs.YtcajofhafpkbdaaGreatDoor.Flow
open Go
def hexF (c : Int) : Int := if 48 ≤ c ∧ c ≤ 57 then c - 48 else if 97 ≤ c ∧ c ≤ 102 then c - 87 else if 65 ≤ c ∧ c ≤ 70 then c - 55 else -1
theorem zeQ (c : Int) : -1 ≤ hexF c ∧ hexF c ≤ 15 := by
  unfold hexF
  split
  · omega
  · split
    · omega
    · split <;> omega
theorem zrj (c : Int) (h0 : 0 ≤ c) (h1 : c < 256) : Ctr Tryz.prog 178 [.i .u8 c] (.i .i64 (hexF c)) := by
  refine zay Tryz.func178 rfl Tryz.ntmps178 Tryz.results178 rfl rfl fun X hL hX => ?_
  repeat' (first |with_reducible (first |refine zag ?_|refine zaa ?_|refine zaf ?_|refine zad ?_|refine zaj ?_|refine zai ?_|refine zae ?_|refine zaq ?_|refine zal ?_|refine zap ?_)|refine zab rfl rfl True.intro ?_|refine zau rfl rfl rfl ?_|refine zam rfl rfl rfl rfl True.intro ?_|refine zak rfl ?_|((first |refine zac rfl ?_ ?_|refine zan rfl rfl ?_ ?_)<;>intro<;>try (first |(exfalso;omega)))|((first |refine zab rfl rfl ?_ ?_);focus (first |((repeat first |rw [zcb]|rw [wi6_]);(repeat' refine And.intro ?_ ?_)<;>omega)))|refine zaw rfl ?_|fail)
  all_goals
    congr 1
    try simp only [zcb, wi6_]
    unfold hexF
    first
      | (rw [if_pos (by omega)]; omega)
      | (rw [if_neg (by omega), if_pos (by omega)]; omega)
      | (rw [if_neg (by omega), if_neg (by omega), if_pos (by omega)]; omega)
      | (rw [if_neg (by omega), if_neg (by omega), if_neg (by omega)])
def rd (s : List UInt8) (i : Int) (o : List UInt8) (e : Int) : List D := [.s s, .i .i64 i, .gs 200 1 o.length (bytesF o), .i .i64 e]
def rdl (s : List UInt8) (i : Int) (o : List UInt8) (e : Int) : Ow := [(20, .var (rd s i o e)), (200, .row 5 1 o.length)]
def failF (e c : Int) : Int := if e = 0 then c else e
theorem zcv (s : List UInt8) (i : Int) (o : List UInt8) (e c : Int) : CtrO Tryz.prog 133 [.pv 20 0, .i .i64 c] (rdl s i o e) (.tu []) (rdl s i o (failF e c)) := by
  refine zaK Tryz.func133 rfl Tryz.ntmps133 Tryz.results133 rfl rfl rfl rfl rfl fun X hL hX => ?_
  repeat' (first |with_reducible (first |refine zag ?_|refine zaa ?_|refine zaf ?_|refine zad ?_|refine zai ?_)|refine zab rfl rfl True.intro ?_|((first |refine zac rfl ?_ ?_)<;>intro)|((first |refine zab rfl rfl ?_ ?_|refine zar rfl ?_ ?_);focus (first |exact le_ rfl|((repeat' refine And.intro ?_ ?_)<;>first |rfl|exact Nat.le_refl _)))|refine zcc rfl rfl ?_|fail)
  · exact ⟨⟨by rw [show failF e c = c from if_pos ‹_›]; rfl, rfl, trivial⟩⟩
  · exact ⟨⟨by rw [show failF e c = e from if_neg ‹_›]; rfl, rfl, trivial⟩⟩
theorem zkf (e c : Int) (h : ¬ c = 0) : ¬ failF e c = 0 := by
  unfold failF
  split
  · exact h
  · assumption
def nextF (s : List UInt8) (i e : Int) : Int × Int × Int := if e = 0 then (if i < s.length then (at' s i, i + 1, 0) else (0, i, 2)) else (0, i, e)
theorem zbG {s : List UInt8} {i e : Int} (h : e = 0) (h2 : i < s.length) : nextF s i e = (at' s i, i + 1, 0) := by
  unfold nextF
  rw [if_pos h, if_pos h2]
theorem zbs {s : List UInt8} {i e : Int} (h : e = 0) (h2 : ¬ i < s.length) : nextF s i e = (0, i, 2) := by
  unfold nextF
  rw [if_pos h, if_neg h2]
theorem zco {s : List UInt8} {i e : Int} (h : ¬ e = 0) : nextF s i e = (0, i, e) := by
  unfold nextF
  rw [if_neg h]
theorem zjM {s : List UInt8} {i e : Int} (_h : 0 ≤ i) (h2 : i ≤ s.length) : i ≤ (nextF s i e).2.1 ∧ (nextF s i e).2.1 ≤ s.length ∧ 0 ≤ (nextF s i e).1 ∧ (nextF s i e).1 < 256 ∧ (nextF s i e).2.1 ≤ i + 1 := by
  have := zaG s i
  unfold nextF
  split
  · split
    · dsimp only; omega
    · dsimp only; omega
  · dsimp only; omega
theorem zdD (s : List UInt8) (i : Int) (o : List UInt8) (e : Int) (hs : s.length ≤ 1099511627776) (h0 : 0 ≤ i) (h1 : i ≤ s.length) :
    CtrO Tryz.prog 131 [.pv 20 0] (rdl s i o e) (.i .u8 (nextF s i e).1) (rdl s (nextF s i e).2.1 o (nextF s i e).2.2) := by
  refine zaK Tryz.func131 rfl Tryz.ntmps131 Tryz.results131 rfl rfl rfl rfl rfl fun X hL hX => ?_
  have hz : ¬ failF e 2 = 0 := zkf e 2 (by omega)
  repeat' (first |with_reducible (first |refine zag ?_|refine zaa ?_|refine zaf ?_|refine zad ?_|refine zaj ?_|refine zai ?_|refine zal ?_|refine zaD ?_)|refine zab rfl rfl True.intro ?_|((first |refine zac rfl ?_ ?_|refine zat rfl ?_ ?_)<;>intro<;>try (first |contradiction))|((first |refine zab rfl rfl ?_ ?_|refine zar rfl ?_ ?_);focus (first |omega|exact le_ rfl|((repeat' refine And.intro ?_ ?_)<;>omega)|((repeat' refine And.intro ?_ ?_)<;>first |rfl|exact le_ rfl)))|with_reducible refine ⟨by kernel_rfl, ?_⟩|refine zbe rfl ?_ ?_|refine zaC (f := 133) 20 200 rfl rfl Tryz.call133 rfl rfl rfl rfl rfl rfl rfl rfl rfl (zcv s i o e 2) ?_|fail)
  · by_cases he : e = 0
    · rw [zbs he (by omega)]
    · rw [zco he]
  · by_cases he : e = 0
    · rw [zbs he (by omega)]
      exact ⟨⟨by rw [show failF e 2 = 2 from if_pos he]; rfl, rfl, trivial⟩⟩
    · rw [zco he]
      exact ⟨⟨by rw [show failF e 2 = e from if_neg he]; rfl, rfl, trivial⟩⟩
  · rw [zco ‹_›]
  · rw [zco ‹_›]
    exact ⟨⟨rfl, rfl, trivial⟩⟩
  · rw [zbG ‹_› (by omega), show i + 1 - 1 = i by omega]
  · rw [zbG ‹_› (by omega)]
    subst e
    exact ⟨⟨rfl, rfl, trivial⟩⟩
def mustF (s : List UInt8) (i e c : Int) : Int × Int := ((nextF s i e).2.1, if (nextF s i e).1 = c then (nextF s i e).2.2 else failF (nextF s i e).2.2 3)
theorem zhE (s : List UInt8) (i : Int) (o : List UInt8) (e c : Int) (hs : s.length ≤ 1099511627776) (h0 : 0 ≤ i) (h1 : i ≤ s.length) :
    CtrO Tryz.prog 130 [.pv 20 0, .i .u8 c] (rdl s i o e) (.tu []) (rdl s (mustF s i e c).1 o (mustF s i e c).2) := by
  have hn := zdD s i o e hs h0 h1
  unfold mustF
  generalize nextF s i e = x at hn ⊢
  obtain ⟨b, j, e'⟩ := x
  dsimp only at hn ⊢
  refine zaK Tryz.func130 rfl Tryz.ntmps130 Tryz.results130 rfl rfl rfl rfl rfl fun X hL hX => ?_
  repeat' (first |with_reducible (first |refine zag ?_|refine zaa ?_|refine zaf ?_|refine zad ?_|refine zai ?_)|refine zab rfl rfl True.intro ?_|((first |refine zat rfl ?_ ?_)<;>intro)|refine zcc rfl rfl ?_|refine zaC (f := 133) 20 200 rfl rfl Tryz.call133 rfl rfl rfl rfl rfl rfl rfl rfl rfl (zcv s j o e' 3) ?_|refine zaC (f := 131) 20 200 rfl rfl Tryz.call131 rfl rfl rfl rfl rfl rfl rfl rfl rfl hn ?_|fail)
  · exact ⟨⟨by rw [if_neg ‹_›]; rfl, rfl, trivial⟩⟩
  · exact ⟨⟨by rw [if_pos ‹_›]; rfl, rfl, trivial⟩⟩
def fourG (s : List UInt8) : Nat → Int → Int → Int × Int × Int
  | 0, n, i => (n, i, 0)
  | k + 1, n, i => if i < s.length then (if hexF (at' s i) < 0 then (0, i + 1, 3) else fourG s k (16 * n + hexF (at' s i)) (i + 1)) else (0, i, 2)
def fourF (s : List UInt8) (i e : Int) : Int × Int × Int := if e = 0 then fourG s 4 0 i else (0, i, e)

theorem or4 (n h : Int) (h0 : 0 ≤ n) (h1 : n < 4096) (h2 : 0 ≤ h) (h3 : h < 16) : bits .or .i32 (IntKind.i32.wrap (n * 2 ^ (4 : Int).toNat)) (IntKind.i32.wrap h) = 16 * n + h := by
  have e : n * 2 ^ (4 : Int).toNat = 16 * n := by
    show n * 2 ^ 4 = _
    omega
  rw [e, wrap_i32 _ (by omega) (by omega), wrap_i32 _ (by omega) (by omega)]
  exact bits_join .i32 31 (by decide) wraps_i32 4 (16 * n) h (by omega) (by omega) (by omega) h2 (by omega) (by omega)
section
variable {s : List UInt8} {k : Nat} {n i : Int}
theorem zgy (h : i < s.length) (h2 : ¬ hexF (at' s i) < 0) : fourG s (k + 1) n i = fourG s k (16 * n + hexF (at' s i)) (i + 1) := by
  rw [fourG, if_pos h, if_neg h2]
theorem zeC (h : i < s.length) (h2 : hexF (at' s i) < 0) : fourG s (k + 1) n i = (0, i + 1, 3) := by
  rw [fourG, if_pos h, if_pos h2]
theorem zdK (h : ¬ i < s.length) : fourG s (k + 1) n i = (0, i, 2) := by
  rw [fourG, if_neg h]
end
theorem ziD (s : List UInt8) (i : Int) (o : List UInt8) (hs : s.length ≤ 1099511627776) (h0 : 0 ≤ i) (h1 : i ≤ s.length) :
    CtrO Tryz.prog 167 [.pv 20 0] (rdl s i o 0) (.i .i32 (fourG s 4 0 i).1) (rdl s (fourG s 4 0 i).2.1 o (fourG s 4 0 i).2.2) := by
  refine zaK Tryz.func167 rfl Tryz.ntmps167 Tryz.results167 rfl rfl rfl rfl rfl fun X hL hX => ?_
  repeat' (first |with_reducible (first |refine zag ?_|refine zaa ?_|refine zaf ?_|refine zad ?_|refine zae ?_)|refine zab rfl rfl True.intro ?_|fail)
  refine T.loop hL (fun x : Nat × Int × Int => [(0, .pv 20 0), (3, .i .i32 x.2.1), (6, .i .i64 x.1)]) (fun x => rdl s x.2.2 o 0)
    (fun x => x.1 ≤ 4 ∧ 0 ≤ x.2.1 ∧ x.2.1 < 16 ^ x.1 ∧ 0 ≤ x.2.2 ∧ x.2.2 ≤ s.length ∧ fourG s (4 - x.1) x.2.1 x.2.2 = fourG s 4 0 i) (fun x => 4 - x.1) (0, 0, i) (by simp; omega)
    ⟨⟨rfl, rfl, rfl, trivial⟩, ⟨rfl, rfl, trivial⟩, rfl, by rw [hX]; intro k hk; exact hk⟩ ?_
  rintro ⟨k, n, j⟩ ⟨g1, g2, g3, g4, g5, g6⟩
  dsimp only at g1 g2 g3 g4 g5 g6 ⊢
  have hr := zaG s j
  have hh := zeQ (at' s j)
  have hpow : k ≤ 3 → (16 : Int) ^ k ≤ 4096 := fun h => by
    have : k = 0 ∨ k = 1 ∨ k = 2 ∨ k = 3 := by omega
    rcases this with rfl | rfl | rfl | rfl <;> decide
  have hk : (k : Int) < 4 → 4 - k = (3 - k) + 1 := fun h => by omega
  have hk0 : ¬ (k : Int) < 4 → fourG s (4 - k) n j = (n, j, 0) := fun h => by rw [show 4 - k = 0 by omega]; rfl
  by_cases hj : j < s.length
  · have hn := zdD s j o 0 hs g4 g5
    rw [zbG rfl hj] at hn
    dsimp only at hn
    repeat' (first |with_reducible (first |refine zag ?_|refine zaa ?_|refine zaf ?_|refine zad ?_|refine zaj ?_|refine zai ?_|refine zaz ?_|refine zae ?_|refine zaq ?_|refine zaA ?_|refine zal ?_|refine zap ?_)|refine zab rfl rfl True.intro ?_|refine zak rfl ?_|((first |refine zac rfl ?_ ?_)<;>intro)|((first |refine zab rfl rfl ?_ ?_);focus (first |omega|exact le_ rfl|((repeat' refine And.intro ?_ ?_)<;>omega)))|refine zaJ rfl ?_|refine zbe rfl ?_ ?_|refine zaC (f := 133) 20 200 rfl rfl Tryz.call133 rfl rfl rfl rfl rfl rfl rfl rfl rfl (zcv s (j + 1) o 0 3) ?_|refine zaC (f := 131) 20 200 rfl rfl Tryz.call131 rfl rfl rfl rfl rfl rfl rfl rfl rfl hn ?_|refine zah (f := 178) rfl rfl Tryz.call178 rfl (zrj (at' s j) (by omega) (by omega)) ?_|fail)
    · rw [← g6, hk ‹_›, zeC hj ‹_›]
    · rw [← g6, hk ‹_›, zeC hj ‹_›]
      exact ⟨⟨rfl, rfl, trivial⟩⟩
    · have := hpow (by omega)
      refine ⟨(k + 1, 16 * n + hexF (at' s j), j + 1), ⟨by dsimp only; omega, by dsimp only; omega, by dsimp only; rw [Int.pow_succ]; omega, by dsimp only; omega, by dsimp only; omega, ?_⟩, by dsimp only; omega,
        ⟨rfl, by rw [← or4 n (hexF (at' s j)) g2 (by omega) (by omega) (by omega)]; rfl, rfl, trivial⟩, ⟨rfl, rfl, trivial⟩, rfl, by rw [hX]; intro k hk; exact hk⟩
      dsimp only
      rw [← g6, hk ‹_›, zgy hj ‹_›, show 4 - (k + 1) = 3 - k by omega]
    · rw [← g6, hk0 ‹_›]
    · rw [← g6, hk0 ‹_›]
      exact ⟨⟨rfl, rfl, trivial⟩⟩
  · have hn := zdD s j o 0 hs g4 g5
    rw [zbs rfl hj] at hn
    dsimp only at hn
    repeat' (first |with_reducible (first |refine zag ?_|refine zaa ?_|refine zaf ?_|refine zad ?_|refine zaj ?_|refine zai ?_|refine zaz ?_|refine zae ?_|refine zaA ?_|refine zal ?_|refine zap ?_)|refine zab rfl rfl True.intro ?_|refine zas rfl ?_|((first |refine zac rfl ?_ ?_)<;>intro)|((first |refine zab rfl rfl ?_ ?_);focus (first |exact le_ rfl|((repeat' refine And.intro ?_ ?_)<;>omega)))|refine zaJ rfl ?_|refine zbe rfl ?_ ?_|refine zaC (f := 131) 20 200 rfl rfl Tryz.call131 rfl rfl rfl rfl rfl rfl rfl rfl rfl hn ?_|fail)
    · rw [← g6, hk ‹_›, zdK hj]
    · rw [← g6, hk ‹_›, zdK hj]
      exact ⟨⟨rfl, rfl, trivial⟩⟩
    · rw [← g6, hk0 ‹_›]
    · rw [← g6, hk0 ‹_›]
      exact ⟨⟨rfl, rfl, trivial⟩⟩
theorem zpI (s : List UInt8) (i : Int) (o : List UInt8) (e : Int) (hs : s.length ≤ 1099511627776) (h0 : 0 ≤ i) (h1 : i ≤ s.length) :
    CtrO Tryz.prog 167 [.pv 20 0] (rdl s i o e) (.i .i32 (fourF s i e).1) (rdl s (fourF s i e).2.1 o (fourF s i e).2.2) := by
  by_cases he : e = 0
  · subst he
    exact ziD s i o hs h0 h1
  rw [show fourF s i e = (0, i, e) from if_neg he]
  have hn := zdD s i o e hs h0 h1
  rw [zco he] at hn
  dsimp only at hn ⊢
  refine zaK Tryz.func167 rfl Tryz.ntmps167 Tryz.results167 rfl rfl rfl rfl rfl fun X hL hX => ?_
  repeat' (first |with_reducible (first |refine zag ?_|refine zaa ?_|refine zaf ?_|refine zad ?_|refine zae ?_)|refine zab rfl rfl True.intro ?_|fail)
  refine T.loop hL (fun x : Nat => [(0, .pv 20 0), (3, .i .i32 0), (6, .i .i64 0)]) (fun x => rdl s i o e) (fun x => True) (fun x => x) 0 trivial
    ⟨⟨rfl, rfl, rfl, trivial⟩, ⟨rfl, rfl, trivial⟩, rfl, by rw [hX]; intro k hk; exact hk⟩ ?_
  intro x _
  repeat' (first |with_reducible (first |refine zag ?_|refine zaa ?_|refine zaf ?_|refine zad ?_|refine zaj ?_|refine zai ?_|refine zae ?_|refine zal ?_|refine zap ?_)|refine zab rfl rfl True.intro ?_|refine zas rfl ?_|((first |refine zat rfl ?_ ?_)<;>intro<;>try (first |contradiction))|((first |refine zab rfl rfl ?_ ?_);focus (first |exact le_ rfl|((repeat' refine And.intro ?_ ?_)<;>omega)))|refine zbe rfl ?_ ?_|refine zaC (f := 131) 20 200 rfl rfl Tryz.call131 rfl rfl rfl rfl rfl rfl rfl rfl rfl hn ?_|fail)
  all_goals first | rfl | exact ⟨⟨rfl, rfl, trivial⟩⟩ | contradiction
theorem zba (s : List UInt8) : ∀ (k : Nat) (n i : Int), 0 ≤ i → i ≤ s.length → 0 ≤ n → 0 ≤ (fourG s k n i).1 ∧ (fourG s k n i).1 < 16 ^ k * (n + 1) ∧ i ≤ (fourG s k n i).2.1 ∧ (fourG s k n i).2.1 ≤ s.length ∧ (fourG s k n i).2.1 ≤ i + k ∧ ((fourG s k n i).2.2 ≠ 0 → (fourG s k n i).1 = 0) ∧ ((fourG s k n i).2.2 = 0 → (fourG s k n i).2.1 = i + k)
  | 0, n, i, h0, h1, h2 => by simp [fourG]; omega
  | k + 1, n, i, h0, h1, h2 => by
    have hh := zeQ (at' s i)
    have hp : (0 : Int) < 16 ^ k := Int.pow_pos (by omega)
    rw [fourG]
    split
    · split
      · dsimp only
        refine ⟨by omega, ?_, by omega, by omega, by omega, fun _ => rfl, fun h => absurd h (by omega)⟩
        exact Int.mul_pos (Int.pow_pos (by omega)) (by omega)
      · have ih := zba s k (16 * n + hexF (at' s i)) (i + 1) (by omega) (by omega) (by omega)
        obtain ⟨a, b, c, d, e, f, g⟩ := ih
        refine ⟨a, Int.lt_of_lt_of_le b ?_, by omega, by omega, by omega, f, fun h => by have := g h; omega⟩
        have : (16 : Int) ^ (k + 1) * (n + 1) = 16 ^ k * (16 * (n + 1)) := by rw [Int.pow_succ, Int.mul_assoc]
        rw [this]
        exact Int.mul_le_mul_of_nonneg_left (by omega) (by omega)
    · dsimp only
      refine ⟨by omega, ?_, by omega, by omega, by omega, fun _ => rfl, fun h => absurd h (by omega)⟩
      exact Int.mul_pos (Int.pow_pos (by omega)) (by omega)
theorem zfk (s : List UInt8) (i e : Int) (h0 : 0 ≤ i) (h1 : i ≤ s.length) : 0 ≤ (fourF s i e).1 ∧ (fourF s i e).1 < 65536 ∧ i ≤ (fourF s i e).2.1 ∧ (fourF s i e).2.1 ≤ s.length ∧ (fourF s i e).2.1 ≤ i + 4 ∧ ((fourF s i e).2.2 ≠ 0 → (fourF s i e).1 = 0) := by
  have h := zba s 4 0 i h0 h1 (by omega)
  unfold fourF
  split
  · refine ⟨h.1, ?_, h.2.2.1, h.2.2.2.1, h.2.2.2.2.1, h.2.2.2.2.2.1⟩
    have := h.2.1
    omega
  · dsimp only
    omega

def utfB (n : Int) : List UInt8 :=
  if n < 128 then [by8 n] else if n < 2048 then [by8 (192 + n / 64), by8 (128 + n % 64)]
  else if n < 65536 then [by8 (224 + n / 4096), by8 (128 + n / 64 % 64), by8 (128 + n % 64)]
  else [by8 (240 + n / 262144), by8 (128 + n / 4096 % 64), by8 (128 + n / 64 % 64), by8 (128 + n % 64)]
theorem zgR (n : Int) : (utfB n).length ≤ 4 := by
  unfold utfB
  split
  · simp
  · split
    · simp
    · split <;> simp
theorem tail6 (x : Int) (_h : 0 ≤ x) : bits .or .u8 128 (bits .and .u8 (IntKind.u8.wrap x) 63) = ((by8 (128 + x % 64)).toNat : Int) := by
  rw [zcb, and63 _ (by omega) (by omega), or128 _ (by omega) (by omega), zcn _ (by omega) (by omega)]
  omega
theorem head2 (x : Int) (h : 0 ≤ x) (h2 : x < 32) : bits .or .u8 192 (IntKind.u8.wrap x) = ((by8 (192 + x)).toNat : Int) := by
  rw [zcb, or192 _ (by omega) (by omega), zcn _ (by omega) (by omega)]
  omega
theorem head3 (x : Int) (h : 0 ≤ x) (h2 : x < 16) : bits .or .u8 224 (IntKind.u8.wrap x) = ((by8 (224 + x)).toNat : Int) := by
  rw [zcb, or224 _ (by omega) (by omega), zcn _ (by omega) (by omega)]
  omega
theorem head4 (x : Int) (h : 0 ≤ x) (h2 : x < 8) : bits .or .u8 240 (IntKind.u8.wrap x) = ((by8 (240 + x)).toNat : Int) := by
  rw [zcb, or240 _ (by omega) (by omega), zcn _ (by omega) (by omega)]
  omega
theorem zob {r : Int} (h : r < 128) : utfB r = [by8 r] := if_pos h
theorem znN {r : Int} (h0 : 128 ≤ r) (h : r < 2048) : utfB r = [by8 (192 + r / 64), by8 (128 + r % 64)] := by
  unfold utfB
  rw [if_neg (by omega), if_pos h]
theorem ziz {r : Int} (h0 : 2048 ≤ r) (h : r < 65536) : utfB r = [by8 (224 + r / 4096), by8 (128 + r / 64 % 64), by8 (128 + r % 64)] := by
  unfold utfB
  rw [if_neg (by omega), if_neg (by omega), if_pos h]
theorem znk {r : Int} (h0 : 65536 ≤ r) : utfB r = [by8 (240 + r / 262144), by8 (128 + r / 4096 % 64), by8 (128 + r / 64 % 64), by8 (128 + r % 64)] := by
  unfold utfB
  rw [if_neg (by omega), if_neg (by omega), if_neg (by omega)]
theorem p6 : (2 : Int) ^ Int.toNat 6 = 64 := by decide
theorem p12 : (2 : Int) ^ Int.toNat 12 = 4096 := by decide
theorem p18 : (2 : Int) ^ Int.toNat 18 = 262144 := by decide
set_option maxHeartbeats 2000000 in
theorem zog (o : List UInt8) (r : Int) (ho : o.length ≤ 1099511627776) (h0 : 128 ≤ r) (h1 : r ≤ 1114111) (h2 : r < 55296 ∨ 57343 < r) :
    CtrO Tryz.prog 179 [.gs 200 1 o.length (bytesF o), .i .i32 r] [(200, .row 5 1 o.length)] (.gs 200 1 (o ++ utfB r).length (bytesF (o ++ utfB r))) [(200, .row 5 1 (o ++ utfB r).length)] := by
  have hw : IntKind.u32.wrap r = r := zkq r (by omega) (by omega)
  refine zaK Tryz.func179 rfl Tryz.ntmps179 Tryz.results179 rfl rfl rfl rfl rfl fun X hL hX => ?_
  repeat' (first |with_reducible (first |refine zag ?_|refine zaa ?_|refine zaf ?_|refine zad ?_|refine zaj ?_|refine zai ?_|refine zae ?_|refine zap ?_)|refine zab rfl rfl True.intro ?_|refine zam rfl rfl rfl rfl True.intro ?_|((first |refine zac rfl ?_ ?_|refine zan rfl rfl ?_ ?_)<;>intro<;>try (first |contradiction|(exfalso;omega)))|((first |refine zab rfl rfl ?_ ?_|refine zao rfl rfl ?_ ?_);focus (first |omega|((repeat first |rw [zcb]);(repeat' refine And.intro ?_ ?_)<;>omega)|((repeat' refine And.intro ?_ ?_)<;>first |omega|rfl)))|refine zbe rfl ?_ ?_|fail)
  · rw [znN h0 (by omega), p6]
    exact zcR 200 o _ 2 _ rfl (fun i hi => match i, hi with
      | 0, _ => congrArg (fun z => [D.i .u8 z]) (head2 _ (by omega) (by omega))
      | 1, _ => congrArg (fun z => [D.i .u8 z]) (tail6 _ (by omega)))
  · rw [znN h0 (by omega)]
    exact ⟨⟨by rw [List.length_append]; rfl, trivial⟩⟩
  · rw [ziz (by omega) (by omega), p6, p12]
    exact zcR 200 o _ 3 _ rfl (fun i hi => match i, hi with
      | 0, _ => congrArg (fun z => [D.i .u8 z]) (head3 _ (by omega) (by omega))
      | 1, _ => congrArg (fun z => [D.i .u8 z]) (tail6 _ (by omega))
      | 2, _ => congrArg (fun z => [D.i .u8 z]) (tail6 _ (by omega)))
  · rw [ziz (by omega) (by omega)]
    exact ⟨⟨by rw [List.length_append]; rfl, trivial⟩⟩
  · rw [ziz (by omega) (by omega), p6, p12]
    exact zcR 200 o _ 3 _ rfl (fun i hi => match i, hi with
      | 0, _ => congrArg (fun z => [D.i .u8 z]) (head3 _ (by omega) (by omega))
      | 1, _ => congrArg (fun z => [D.i .u8 z]) (tail6 _ (by omega))
      | 2, _ => congrArg (fun z => [D.i .u8 z]) (tail6 _ (by omega)))
  · rw [ziz (by omega) (by omega)]
    exact ⟨⟨by rw [List.length_append]; rfl, trivial⟩⟩
  · rw [znk (by omega), p6, p12, p18]
    exact zcR 200 o _ 4 _ rfl (fun i hi => match i, hi with
      | 0, _ => congrArg (fun z => [D.i .u8 z]) (head4 _ (by omega) (by omega))
      | 1, _ => congrArg (fun z => [D.i .u8 z]) (tail6 _ (by omega))
      | 2, _ => congrArg (fun z => [D.i .u8 z]) (tail6 _ (by omega))
      | 3, _ => congrArg (fun z => [D.i .u8 z]) (tail6 _ (by omega)))
  · rw [znk (by omega)]
    exact ⟨⟨by rw [List.length_append]; rfl, trivial⟩⟩
theorem zkc (o : List UInt8) (r : Int) (ho : o.length ≤ 1099511627776) (h0 : 0 ≤ r) (h1 : r ≤ 1114111) (h2 : r < 55296 ∨ 57343 < r) :
    CtrO Tryz.prog 168 [.gs 200 1 o.length (bytesF o), .i .i32 r] [(200, .row 5 1 o.length)] (.gs 200 1 (o ++ utfB r).length (bytesF (o ++ utfB r))) [(200, .row 5 1 (o ++ utfB r).length)] := by
  have hw : IntKind.u32.wrap r = r := zkq r (by omega) (by omega)
  refine zaK Tryz.func168 rfl Tryz.ntmps168 Tryz.results168 rfl rfl rfl rfl rfl fun X hL hX => ?_
  repeat' (first |with_reducible (first |refine zag ?_|refine zaa ?_|refine zaf ?_|refine zad ?_|refine zaj ?_|refine zai ?_|refine zal ?_)|refine zab rfl rfl True.intro ?_|((first |refine zac rfl ?_ ?_)<;>intro)|((first |refine zao rfl rfl ?_ ?_);focus (first |((repeat first |rw [zcb]);(repeat' refine And.intro ?_ ?_)<;>omega)|((repeat' refine And.intro ?_ ?_)<;>first |omega|rfl)))|refine zbe rfl ?_ ?_|refine zav (f := 179) 200 rfl rfl Tryz.call179 rfl rfl rfl rfl rfl (zog o r ho (by omega) h1 h2) ?_|fail)
  · rw [zob (by omega)]
    exact zcR 200 o _ 1 _ rfl (fun i hi => match i, hi with
      | 0, _ => congrArg (fun z => [D.i .u8 z]) (show IntKind.u8.wrap r = ((by8 r).toNat : Int) by rw [zcb, zcn _ h0 (by omega)]; omega))
  · rw [zob (by omega)]
    exact ⟨⟨by rw [List.length_append]; rfl, trivial⟩⟩
  · rfl
  · exact ⟨⟨rfl, trivial⟩⟩

def pairW (n m : Int) : Int := IntKind.i32.wrap (IntKind.i32.wrap (IntKind.i32.wrap (65536 + IntKind.i32.wrap (IntKind.i32.wrap (n - 55296) * 2 ^ (10 : Int).toNat)) + m) - 56320)
def pairF (n m : Int) : Int := 65536 + 1024 * (n - 55296) + m - 56320
theorem zqc (n m : Int) (h0 : 55296 ≤ n) (h1 : n ≤ 56319) (h2 : 0 ≤ m) (h3 : m < 65536) : pairW n m = pairF n m := by
  unfold pairW pairF
  have e : (2 : Int) ^ Int.toNat 10 = 1024 := by decide
  rw [e, wrap_i32 (n - 55296) (by omega) (by omega), wrap_i32 ((n - 55296) * 1024) (by omega) (by omega), wrap_i32 (65536 + (n - 55296) * 1024) (by omega) (by omega), wrap_i32 (65536 + (n - 55296) * 1024 + m) (by omega) (by omega), wrap_i32 _ (by omega) (by omega)]
  omega
def lowP (s : List UInt8) (j : Int) : Int × Int × Int :=
  let a := mustF s j 0 92
  let b := mustF s a.1 a.2 117
  let y := fourF s b.1 b.2
  (y.1, y.2.1, if y.1 < 56320 ∨ 57343 < y.1 then failF y.2.2 3 else y.2.2)
theorem zbB (s : List UInt8) (i e c : Int) (h : 0 ≤ i) (h2 : i ≤ s.length) : i ≤ (mustF s i e c).1 ∧ (mustF s i e c).1 ≤ s.length ∧ (mustF s i e c).1 ≤ i + 1 := by
  have := zjM (e := e) h h2
  unfold mustF
  dsimp only
  omega
def codeP (s : List UInt8) (i : Int) (o : List UInt8) : Int × List UInt8 × Int :=
  let x := fourG s 4 0 i
  if x.2.2 = 0 then
    if 56320 ≤ x.1 ∧ x.1 ≤ 57343 then (x.2.1, o, 3)
    else if 55296 ≤ x.1 ∧ x.1 ≤ 56319 then
      (if (lowP s x.2.1).2.2 = 0 then ((lowP s x.2.1).2.1, o ++ utfB (pairF x.1 (lowP s x.2.1).1), 0) else ((lowP s x.2.1).2.1, o, (lowP s x.2.1).2.2))
    else (x.2.1, o ++ utfB x.1, 0)
  else (x.2.1, o, x.2.2)
section
variable {s : List UInt8} {i j j1 j2 j3 n m e e1 e2 e3 : Int} {o : List UInt8}
theorem zex (h1 : mustF s j 0 92 = (j1, e1)) (h2 : mustF s j1 e1 117 = (j2, e2)) (h3 : fourF s j2 e2 = (m, j3, e3)) : lowP s j = (m, j3, if m < 56320 ∨ 57343 < m then failF e3 3 else e3) := by
  simp only [lowP, h1, h2, h3]
theorem ziv (h : fourG s 4 0 i = (n, j, e)) (h2 : ¬ e = 0) : codeP s i o = (j, o, e) := by
  simp only [codeP, h]
  rw [if_neg h2]
theorem ziR (h : fourG s 4 0 i = (n, j, 0)) (h2 : 56320 ≤ n) (h3 : n ≤ 57343) : codeP s i o = (j, o, 3) := by
  simp only [codeP, h]
  rw [if_pos trivial, if_pos ⟨h2, h3⟩]
theorem zfJ (h : fourG s 4 0 i = (n, j, 0)) (h2 : n < 55296 ∨ 57343 < n) : codeP s i o = (j, o ++ utfB n, 0) := by
  simp only [codeP, h]
  rw [if_pos trivial, if_neg (by omega), if_neg (by omega)]
theorem zgN (h : fourG s 4 0 i = (n, j, 0)) (h2 : 55296 ≤ n) (h3 : n ≤ 56319) (h4 : lowP s j = (m, j3, 0)) : codeP s i o = (j3, o ++ utfB (pairF n m), 0) := by
  simp only [codeP, h]
  rw [if_pos trivial, if_neg (by omega), if_pos ⟨h2, h3⟩, h4]
  rfl
theorem zeD (h : fourG s 4 0 i = (n, j, 0)) (h2 : 55296 ≤ n) (h3 : n ≤ 56319) (h4 : lowP s j = (m, j3, e)) (h5 : ¬ e = 0) : codeP s i o = (j3, o, e) := by
  simp only [codeP, h]
  rw [if_pos trivial, if_neg (by omega), if_pos ⟨h2, h3⟩, h4]
  dsimp only
  rw [if_neg h5]
end
set_option maxHeartbeats 4000000 in
theorem zpG (s : List UInt8) (i : Int) (o : List UInt8) (hs : s.length ≤ 1099511627776) (h0 : 0 ≤ i) (h1 : i ≤ s.length) (ho : o.length ≤ 1099511627776) :
    CtrO Tryz.prog 154 [.pv 20 0] (rdl s i o 0) (.tu []) (rdl s (codeP s i o).1 (codeP s i o).2.1 (codeP s i o).2.2) := by
  have hn := ziD s i o hs h0 h1
  have hr := zba s 4 0 i h0 h1 (by omega)
  generalize hR : codeP s i o = R
  generalize hx : fourG s 4 0 i = x at hn hr
  obtain ⟨n, j, e⟩ := x
  dsimp only at hn hr ⊢
  obtain ⟨r1, r2, r3, r4, r5, r6, _⟩ := hr
  have r2 : n < 65536 := by omega
  by_cases he : e = 0
  · subst he
    have hj0 : 0 ≤ j := by omega
    have q1 := zbB s j 0 92 hj0 r4
    have c1 := zhE s j o 0 92 hs hj0 r4
    generalize ha : mustF s j 0 92 = a at c1 q1
    obtain ⟨j1, e1⟩ := a
    dsimp only at c1 q1
    have hj1 : 0 ≤ j1 := by omega
    have q2 := zbB s j1 e1 117 hj1 q1.2.1
    have c2 := zhE s j1 o e1 117 hs hj1 q1.2.1
    generalize hb : mustF s j1 e1 117 = b at c2 q2
    obtain ⟨j2, e2⟩ := b
    dsimp only at c2 q2
    have hj2 : 0 ≤ j2 := by omega
    have q3 := zfk s j2 e2 hj2 q2.2.1
    have c3 := zpI s j2 o e2 hs hj2 q2.2.1
    generalize hy : fourF s j2 e2 = y at c3 q3
    obtain ⟨m, j3, e3⟩ := y
    dsimp only at c3 q3
    obtain ⟨y1, y2, y3, y4, y5, y6⟩ := q3
    have hne := zkf e3 3 (by omega)
    have hp : 55296 ≤ n → n ≤ 56319 → pairW n m = pairF n m := fun a b => zqc n m a b y1 y2
    have hl := zex ha hb hy
    have hf := zcv s j o 0 3
    have hf3 := zcv s j3 o e3 3
    refine zaK Tryz.func154 rfl Tryz.ntmps154 Tryz.results154 rfl rfl rfl rfl rfl fun X hL hX => ?_
    repeat' (first |with_reducible (first |refine zag ?_|refine zaa ?_|refine zaf ?_|refine zad ?_|refine zai ?_|refine zae ?_|refine zaq ?_)|refine zab rfl rfl True.intro ?_|refine zau rfl rfl rfl ?_|refine zam rfl rfl rfl rfl True.intro ?_|refine zas rfl ?_|refine zak rfl ?_|((first |refine zac rfl ?_ ?_|refine zan rfl rfl ?_ ?_)<;>intro<;>try (first |contradiction|(exfalso;omega)))|((first |refine zab rfl rfl ?_ ?_|refine zar rfl ?_ ?_);focus (first |omega|exact le_ rfl|((repeat' refine And.intro ?_ ?_)<;>omega)|((repeat' refine And.intro ?_ ?_)<;>first |rfl|exact le_ rfl)))|refine zcc rfl rfl ?_|refine zaC (f := 133) 20 200 rfl rfl Tryz.call133 rfl rfl rfl rfl rfl rfl rfl rfl rfl hf ?_|refine zaC (f := 133) 20 200 rfl rfl Tryz.call133 rfl rfl rfl rfl rfl rfl rfl rfl rfl hf3 ?_|refine zaC (f := 130) 20 200 rfl rfl Tryz.call130 rfl rfl rfl rfl rfl rfl rfl rfl rfl c1 ?_|refine zaC (f := 130) 20 200 rfl rfl Tryz.call130 rfl rfl rfl rfl rfl rfl rfl rfl rfl c2 ?_|refine zaC (f := 167) 20 200 rfl rfl Tryz.call167 rfl rfl rfl rfl rfl rfl rfl rfl rfl hn ?_|refine zaC (f := 167) 20 200 rfl rfl Tryz.call167 rfl rfl rfl rfl rfl rfl rfl rfl rfl c3 ?_|refine zav (f := 168) 200 rfl rfl Tryz.call168 rfl rfl rfl rfl rfl (zkc o n ho (by omega) (by omega) (by omega)) ?_|refine zav (f := 168) 200 rfl rfl Tryz.call168 rfl rfl rfl rfl rfl (zkc o (pairW n m) ho (by rw [hp (by omega) (by omega)];unfold pairF;omega) (by rw [hp (by omega) (by omega)];unfold pairF;omega) (by rw [hp (by omega) (by omega)];unfold pairF;omega)) ?_|fail)
    · rw [← hR, ziR hx ‹_› ‹_›]
      exact ⟨⟨rfl, rfl, trivial⟩⟩
    · rw [← hR, zfJ hx (by omega)]
      exact ⟨⟨rfl, rfl, trivial⟩⟩
    · rw [if_pos (.inl ‹_›)] at hl
      rw [← hR, zeD hx (by omega) (by omega) hl hne]
      exact ⟨⟨rfl, rfl, trivial⟩⟩
    · rw [if_pos (.inr ‹_›)] at hl
      rw [← hR, zeD hx (by omega) (by omega) hl hne]
      exact ⟨⟨rfl, rfl, trivial⟩⟩
    · rename_i he3
      subst he3
      rw [if_neg (by omega)] at hl
      rw [← hR, zgN hx (by omega) (by omega) hl, hp (by omega) (by omega)]
      exact ⟨⟨rfl, rfl, trivial⟩⟩
    · rw [← hR, zfJ hx (by omega)]
      exact ⟨⟨rfl, rfl, trivial⟩⟩
  · have hz := r6 he
    subst hz
    refine zaK Tryz.func154 rfl Tryz.ntmps154 Tryz.results154 rfl rfl rfl rfl rfl fun X hL hX => ?_
    repeat' (first |with_reducible (first |refine zag ?_|refine zaa ?_|refine zaf ?_|refine zad ?_|refine zai ?_|refine zae ?_|refine zaq ?_)|refine zab rfl rfl True.intro ?_|refine zau rfl rfl rfl ?_|refine zak rfl ?_|((first |refine zac rfl ?_ ?_)<;>intro<;>try (first |contradiction))|((first |refine zab rfl rfl ?_ ?_);focus (first |exact le_ rfl|((repeat' refine And.intro ?_ ?_)<;>omega)))|refine zcc rfl rfl ?_|refine zaC (f := 167) 20 200 rfl rfl Tryz.call167 rfl rfl rfl rfl rfl rfl rfl rfl rfl hn ?_|fail)
    rw [← hR, ziv hx he]
    exact ⟨⟨rfl, rfl, trivial⟩⟩

def tlB (l : List UInt8) (k : Int) (lo hi : Int) : Bool := decide (k < l.length) && decide (lo ≤ at' l k) && decide (at' l k ≤ hi)
def loF (c : Int) : Int := if c = 224 then 160 else if c = 240 then 144 else 128
def hiF (c : Int) : Int := if c = 237 then 159 else if c = 244 then 143 else 191
def oneL (l : List UInt8) : Nat :=
  if at' l 0 < 128 then 1
  else if tlB l 1 (loF (at' l 0)) (hiF (at' l 0)) = false then 0
  else if 194 ≤ at' l 0 ∧ at' l 0 ≤ 223 then 2
  else if 224 ≤ at' l 0 ∧ at' l 0 ≤ 239 ∧ tlB l 2 128 191 = true then 3
  else if 240 ≤ at' l 0 ∧ at' l 0 ≤ 244 ∧ tlB l 2 128 191 = true ∧ tlB l 3 128 191 = true then 4
  else 0
def validN : Nat → List UInt8 → Bool
  | 0, _ => true
  | n + 1, l => if l.length = 0 then true else if oneL l = 0 then false else validN n (l.drop (oneL l))
def validL (l : List UInt8) : Bool := validN l.length l
theorem zip : ∀ (n m : Nat) (l : List UInt8), l.length ≤ n → l.length ≤ m → validN n l = validN m l
  | 0, m, l, h, _ => by
    have : l.length = 0 := by omega
    cases m with
    | zero => rfl
    | succ m => simp [validN, this]
  | n + 1, 0, l, _, h => by
    have : l.length = 0 := by omega
    simp [validN, this]
  | n + 1, m + 1, l, h1, h2 => by
    unfold validN
    by_cases h0 : l.length = 0
    · simp [h0]
    · rw [if_neg h0, if_neg h0]
      by_cases ho : oneL l = 0
      · rw [if_pos ho, if_pos ho]
      · rw [if_neg ho, if_neg ho]
        exact zip n m _ (by rw [List.length_drop]; omega) (by rw [List.length_drop]; omega)
theorem zgD {l : List UInt8} (h : l.length = 0) : validL l = true := by
  unfold validL
  rw [h]
  rfl
theorem zgA {l : List UInt8} (h : ¬ l.length = 0) (ho : oneL l = 0) : validL l = false := by
  unfold validL
  obtain ⟨n, hn⟩ : ∃ n, l.length = n + 1 := ⟨l.length - 1, by omega⟩
  rw [hn]
  unfold validN
  rw [if_neg h, if_pos ho]
theorem zdO {l : List UInt8} (h : ¬ l.length = 0) (ho : ¬ oneL l = 0) : validL l = validL (l.drop (oneL l)) := by
  unfold validL
  obtain ⟨n, hn⟩ : ∃ n, l.length = n + 1 := ⟨l.length - 1, by omega⟩
  rw [hn]
  conv => lhs; unfold validN
  rw [if_neg h, if_neg ho]
  exact zip _ _ _ (by rw [List.length_drop]; omega) (Nat.le_refl _)
theorem zfT (l : List UInt8) (k j : Nat) : at' (l.drop k) j = at' l ((k + j : Nat) : Int) := by
  unfold at'
  simp only [Int.toNat_natCast]
  simp [List.getD_eq_getElem?_getD, List.getElem?_drop]
theorem zcp : ∀ (k : Nat) (l : List UInt8), k ≤ l.length → (∀ j : Nat, j < k → at' l j < 128) → validL (l.drop k) = validL l
  | 0, l, _, _ => by simp
  | k + 1, l, h, ha => by
    have h0 := ha 0 (by omega)
    have ho : oneL l = 1 := by unfold oneL; rw [if_pos (by simpa using h0)]
    rw [zdO (l := l) (by omega) (by omega), ho, ← zcp k (l.drop 1) (by rw [List.length_drop]; omega) (fun j hj => by rw [zfT]; exact ha (1 + j) (by omega)), List.drop_drop, Nat.add_comm 1 k]
def wordV (l : List UInt8) : Int := at' l 0 + 256 * at' l 1 + 65536 * at' l 2 + 16777216 * at' l 3 + 4294967296 * at' l 4 + 1099511627776 * at' l 5 + 281474976710656 * at' l 6 + 72057594037927936 * at' l 7
theorem zbn (n : Int) (h₀ : 0 ≤ n) (h₁ : n < 2 ^ 64) : IntKind.u64.wrap n = n := by rw [zfV]; omega
theorem zgV (k : IntKind) (x y : Int) : bits .or k x y = bits .or k y x := by simp [bits, BitVec.or_comm]
theorem zjp (i : Nat) (x y p : Int) (hx : 0 ≤ x) (hx2 : x < 2 ^ i) (hy : 0 ≤ y) (hy2 : y < 256) (_hi : i + 8 ≤ 64) (hp : p = 2 ^ i) (hp2 : y * p < 18446744073709551616) (hx3 : x < 18446744073709551616) (hp0 : 0 ≤ y * p) : bits .or .u64 x (IntKind.u64.wrap (IntKind.u64.wrap y * p)) = x + y * p := by
  rw [zbn y hy (by omega), zbn _ hp0 hp2, zgV, bits_join .u64 64 (by decide) zbn i _ _ hp0 (by rw [hp, Int.mul_emod_left]) hp2 hx hx2 hx3]
  omega
theorem zpY (l : List UInt8) (h : 8 ≤ l.length) : Ctr Tryz.prog 126 [.s l] (.i .u64 (wordV l)) := by
  have r0 := zaG l 0
  have r1 := zaG l 1
  have r2 := zaG l 2
  have r3 := zaG l 3
  have r4 := zaG l 4
  have r5 := zaG l 5
  have r6 := zaG l 6
  have r7 := zaG l 7
  refine zay Tryz.func126 rfl Tryz.ntmps126 Tryz.results126 rfl rfl fun X hL hX => ?_
  repeat' (first |with_reducible (first |refine zag ?_|refine zaa ?_|refine zaf ?_|refine zad ?_|refine zaj ?_|refine zai ?_|refine zaD ?_)|refine zab rfl rfl True.intro ?_|refine zak rfl ?_|((first |refine zab rfl rfl ?_ ?_);focus (first |omega|((repeat' refine And.intro ?_ ?_)<;>omega)))|with_reducible refine ⟨by kernel_rfl, ?_⟩|refine zaw rfl ?_|fail)
  unfold wordV
  generalize at' l 0 = b0 at *
  generalize at' l 1 = b1 at *
  generalize at' l 2 = b2 at *
  generalize at' l 3 = b3 at *
  generalize at' l 4 = b4 at *
  generalize at' l 5 = b5 at *
  generalize at' l 6 = b6 at *
  generalize at' l 7 = b7 at *
  have p8 : (2 : Int) ^ Int.toNat 8 = 256 := by decide
  have p16 : (2 : Int) ^ Int.toNat 16 = 65536 := by decide
  have p24 : (2 : Int) ^ Int.toNat 24 = 16777216 := by decide
  have p32 : (2 : Int) ^ Int.toNat 32 = 4294967296 := by decide
  have p40 : (2 : Int) ^ Int.toNat 40 = 1099511627776 := by decide
  have p48 : (2 : Int) ^ Int.toNat 48 = 281474976710656 := by decide
  have p56 : (2 : Int) ^ Int.toNat 56 = 72057594037927936 := by decide
  rw [p8, p16, p24, p32, p40, p48, p56, zbn b0 r0.1 (by omega)]
  rw [zjp 8 b0 b1 256 (by omega) (by omega) r1.1 r1.2 (by omega) (by decide) (by omega) (by omega) (by omega)]
  rw [zjp 16 _ b2 65536 (by omega) (by omega) r2.1 r2.2 (by omega) (by decide) (by omega) (by omega) (by omega)]
  rw [zjp 24 _ b3 16777216 (by omega) (by omega) r3.1 r3.2 (by omega) (by decide) (by omega) (by omega) (by omega)]
  rw [zjp 32 _ b4 4294967296 (by omega) (by omega) r4.1 r4.2 (by omega) (by decide) (by omega) (by omega) (by omega)]
  rw [zjp 40 _ b5 1099511627776 (by omega) (by omega) r5.1 r5.2 (by omega) (by decide) (by omega) (by omega) (by omega)]
  rw [zjp 48 _ b6 281474976710656 (by omega) (by omega) r6.1 r6.2 (by omega) (by decide) (by omega) (by omega) (by omega)]
  rw [zjp 56 _ b7 72057594037927936 (by omega) (by omega) r7.1 r7.2 (by omega) (by decide) (by omega) (by omega) (by omega)]
  exact congrArg (D.i .u64) (by omega)
theorem zrb (w : Nat) (h : bits .and .u64 (w : Int) 9259542123273814144 = 0) (hw : w < 18446744073709551616) : w / 128 % 2 = 0 ∧ w / 32768 % 2 = 0 ∧ w / 8388608 % 2 = 0 ∧ w / 2147483648 % 2 = 0 ∧ w / 549755813888 % 2 = 0 ∧ w / 140737488355328 % 2 = 0 ∧ w / 36028797018963968 % 2 = 0 ∧ w / 9223372036854775808 % 2 = 0 := by
  have h1 := (bits_nat .u64 64 (by decide) zbn w 9259542123273814144 hw (by decide)).1
  have h2 : w &&& 9259542123273814144 = 0 := by
    have : ((9259542123273814144 : Nat) : Int) = 9259542123273814144 := rfl
    rw [this, h] at h1
    omega
  have key : ∀ i, (9259542123273814144 : Nat).testBit i = true → w / 2 ^ i % 2 = 0 := fun i hi => by
    have h3 : (w &&& 9259542123273814144).testBit i = false := by rw [h2]; exact Nat.zero_testBit i
    rw [Nat.testBit_and, hi, Bool.and_true, Nat.testBit_eq_decide_div_mod_eq] at h3
    have := of_decide_eq_false h3
    omega
  exact ⟨key 7 (by decide), key 15 (by decide), key 23 (by decide), key 31 (by decide), key 39 (by decide), key 47 (by decide), key 55 (by decide), key 63 (by decide)⟩
theorem zbA (l : List UInt8) : 0 ≤ wordV l ∧ wordV l < 18446744073709551616 := by
  have r0 := zaG l 0
  have r1 := zaG l 1
  have r2 := zaG l 2
  have r3 := zaG l 3
  have r4 := zaG l 4
  have r5 := zaG l 5
  have r6 := zaG l 6
  have r7 := zaG l 7
  unfold wordV
  omega
theorem zcJ (l : List UInt8) (h : bits .and .u64 (wordV l) 9259542123273814144 = 0) : ∀ j : Nat, j < 8 → at' l j < 128 := by
  have hr := zbA l
  obtain ⟨w, hw⟩ : ∃ w : Nat, wordV l = w := ⟨(wordV l).toNat, by omega⟩
  rw [hw] at h
  obtain ⟨k0, k1, k2, k3, k4, k5, k6, k7⟩ := zrb w h (by omega)
  have r0 := zaG l 0
  have r1 := zaG l 1
  have r2 := zaG l 2
  have r3 := zaG l 3
  have r4 := zaG l 4
  have r5 := zaG l 5
  have r6 := zaG l 6
  have r7 := zaG l 7
  unfold wordV at hw
  intro j hj
  have hj : j = 0 ∨ j = 1 ∨ j = 2 ∨ j = 3 ∨ j = 4 ∨ j = 5 ∨ j = 6 ∨ j = 7 := by omega
  rcases hj with rfl | rfl | rfl | rfl | rfl | rfl | rfl | rfl
  · show at' l 0 < 128; clear k1 k2 k3 k4 k5 k6 k7; omega
  · show at' l 1 < 128; clear k0 k2 k3 k4 k5 k6 k7; omega
  · show at' l 2 < 128; clear k1 k0 k3 k4 k5 k6 k7; omega
  · show at' l 3 < 128; clear k1 k2 k0 k4 k5 k6 k7; omega
  · show at' l 4 < 128; clear k1 k2 k3 k0 k5 k6 k7; omega
  · show at' l 5 < 128; clear k1 k2 k3 k4 k0 k6 k7; omega
  · show at' l 6 < 128; clear k1 k2 k3 k4 k5 k0 k7; omega
  · show at' l 7 < 128; clear k1 k2 k3 k4 k5 k6 k0; omega
theorem zkJ (a b : Int) (ha : 0 ≤ a) (ha2 : a < 18446744073709551616) (hb : 0 ≤ b) (hb2 : b < 18446744073709551616) (h : bits .and .u64 (bits .or .u64 a b) 9259542123273814144 = 0) : bits .and .u64 a 9259542123273814144 = 0 ∧ bits .and .u64 b 9259542123273814144 = 0 := by
  obtain ⟨x, rfl⟩ := Int.eq_ofNat_of_zero_le ha
  obtain ⟨y, rfl⟩ := Int.eq_ofNat_of_zero_le hb
  have hx : x < 2 ^ 64 := by omega
  have hy : y < 2 ^ 64 := by omega
  have hM : (9259542123273814144 : Nat) < 2 ^ 64 := by decide
  have c : ((9259542123273814144 : Nat) : Int) = 9259542123273814144 := rfl
  rw [(bits_nat .u64 64 (by decide) zbn x y hx hy).2, ← c, (bits_nat .u64 64 (by decide) zbn (x ||| y) 9259542123273814144 (Nat.or_lt_two_pow hx hy) hM).1, Nat.and_or_distrib_right] at h
  rw [← c, (bits_nat .u64 64 (by decide) zbn x 9259542123273814144 hx hM).1, (bits_nat .u64 64 (by decide) zbn y 9259542123273814144 hy hM).1]
  have h2 : x &&& 9259542123273814144 ||| y &&& 9259542123273814144 = 0 := by omega
  rw [Nat.or_eq_zero_iff] at h2
  rw [h2.1, h2.2]
  exact ⟨rfl, rfl⟩
theorem zkZ (a b : Int) (ha : 0 ≤ a) (ha2 : a < 18446744073709551616) (hb : 0 ≤ b) (hb2 : b < 18446744073709551616) : 0 ≤ bits .or .u64 a b ∧ bits .or .u64 a b < 18446744073709551616 := by
  obtain ⟨x, rfl⟩ := Int.eq_ofNat_of_zero_le ha
  obtain ⟨y, rfl⟩ := Int.eq_ofNat_of_zero_le hb
  have hx : x < 2 ^ 64 := by omega
  have hy : y < 2 ^ 64 := by omega
  rw [(bits_nat .u64 64 (by decide) zbn x y hx hy).2]
  have := Nat.or_lt_two_pow hx hy
  omega

theorem zcm (l l' : List UInt8) (e : l = l') (h : 8 ≤ l'.length) : Ctr Tryz.prog 126 [.s l] (.i .u64 (wordV l')) := by
  subst e
  exact zpY l h
theorem zbI (l : List UInt8) (k : Nat) (n : Int) (hn : n = k) : ((l.take ((l.length : Int)).toNat).drop n.toNat) = l.drop k := by
  subst hn
  rw [Int.toNat_natCast, Int.toNat_natCast, List.take_length]
theorem sizes (c : Int) (h0 : 128 ≤ c) (h1 : c < 256) :
    (c < 194 ∨ 244 < c) ∧ firstZ c.toNat = 241 ∨ (194 ≤ c ∧ c ≤ 223) ∧ firstZ c.toNat = 2 ∨ c = 224 ∧ firstZ c.toNat = 19 ∨ (225 ≤ c ∧ c ≤ 236 ∨ 238 ≤ c ∧ c ≤ 239) ∧ firstZ c.toNat = 3 ∨ c = 237 ∧ firstZ c.toNat = 35 ∨
      c = 240 ∧ firstZ c.toNat = 52 ∨ (241 ≤ c ∧ c ≤ 243) ∧ firstZ c.toNat = 4 ∨ c = 244 ∧ firstZ c.toNat = 68 := by
  obtain ⟨n, rfl⟩ := Int.eq_ofNat_of_zero_le (show 0 ≤ c by omega)
  rw [Int.toNat_natCast]
  have h : n < 194 ∨ (194 ≤ n ∧ n < 224) ∨ n = 224 ∨ (225 ≤ n ∧ n < 237) ∨ n = 237 ∨ (238 ≤ n ∧ n < 240) ∨ n = 240 ∨ (241 ≤ n ∧ n < 244) ∨ n = 244 ∨ 245 ≤ n := by omega
  rcases h with h | h | h | h | h | h | h | h | h | h
  · have e : firstZ n = 241 := by unfold firstZ; rw [if_neg (by omega), if_pos (by omega)]
    omega
  · have e : firstZ n = 2 := by unfold firstZ; rw [if_neg (by omega), if_neg (by omega), if_pos (by omega)]
    omega
  · have e : firstZ n = 19 := by unfold firstZ; rw [if_neg (by omega), if_neg (by omega), if_neg (by omega), if_pos (by omega)]
    omega
  · have e : firstZ n = 3 := by unfold firstZ; rw [if_neg (by omega), if_neg (by omega), if_neg (by omega), if_neg (by omega), if_pos (by omega)]
    omega
  · have e : firstZ n = 35 := by unfold firstZ; rw [if_neg (by omega), if_neg (by omega), if_neg (by omega), if_neg (by omega), if_neg (by omega), if_pos (by omega)]
    omega
  · have e : firstZ n = 3 := by unfold firstZ; rw [if_neg (by omega), if_neg (by omega), if_neg (by omega), if_neg (by omega), if_neg (by omega), if_neg (by omega), if_pos (by omega)]
    omega
  · have e : firstZ n = 52 := by unfold firstZ; rw [if_neg (by omega), if_neg (by omega), if_neg (by omega), if_neg (by omega), if_neg (by omega), if_neg (by omega), if_neg (by omega), if_pos (by omega)]
    omega
  · have e : firstZ n = 4 := by unfold firstZ; rw [if_neg (by omega), if_neg (by omega), if_neg (by omega), if_neg (by omega), if_neg (by omega), if_neg (by omega), if_neg (by omega), if_neg (by omega), if_pos (by omega)]
    omega
  · have e : firstZ n = 68 := by unfold firstZ; rw [if_neg (by omega), if_neg (by omega), if_neg (by omega), if_neg (by omega), if_neg (by omega), if_neg (by omega), if_neg (by omega), if_neg (by omega), if_neg (by omega), if_pos (by omega)]
    omega
  · have e : firstZ n = 241 := by unfold firstZ; rw [if_neg (by omega), if_neg (by omega), if_neg (by omega), if_neg (by omega), if_neg (by omega), if_neg (by omega), if_neg (by omega), if_neg (by omega), if_neg (by omega), if_neg (by omega)]
    omega
theorem zfK {l : List UInt8} (h : ¬ at' l 0 < 128) : oneL l = if 1 < (l.length : Int) ∧ loF (at' l 0) ≤ at' l 1 ∧ at' l 1 ≤ hiF (at' l 0) then
      (if 194 ≤ at' l 0 ∧ at' l 0 ≤ 223 then 2 else if 224 ≤ at' l 0 ∧ at' l 0 ≤ 239 ∧ 2 < (l.length : Int) ∧ 128 ≤ at' l 2 ∧ at' l 2 ≤ 191 then 3
      else if 240 ≤ at' l 0 ∧ at' l 0 ≤ 244 ∧ 2 < (l.length : Int) ∧ 128 ≤ at' l 2 ∧ at' l 2 ≤ 191 ∧ 3 < (l.length : Int) ∧ 128 ≤ at' l 3 ∧ at' l 3 ≤ 191 then 4 else 0) else 0 := by
  have ht : ∀ (k lo hi : Int), tlB l k lo hi = true ↔ k < l.length ∧ lo ≤ at' l k ∧ at' l k ≤ hi := fun k lo hi => by
    unfold tlB
    simp [and_assoc]
  unfold oneL
  rw [if_neg h]
  by_cases h1 : tlB l 1 (loF (at' l 0)) (hiF (at' l 0)) = true
  · rw [if_neg (by rw [h1]; decide), if_pos ((ht _ _ _).1 h1)]
    simp only [ht, and_assoc]
  · rw [if_pos (by simpa using h1), if_neg (fun h2 => h1 ((ht _ _ _).2 h2))]
set_option maxRecDepth 20000 in
set_option maxHeartbeats 2000000 in
theorem zlj (l0 : List UInt8) (_hl0 : l0.length ≤ 1099511627776) : Ctr Tryz.prog 101 [.s l0] (.b (validL l0)) := by
  refine zay Tryz.func101 rfl Tryz.ntmps101 Tryz.results101 rfl rfl fun X hL hX => ?_
  repeat' (first |with_reducible (first |refine zag ?_|refine zaa ?_|refine zaf ?_|refine zad ?_|refine zae ?_)|refine zab rfl rfl True.intro ?_|fail)
  refine T.loop hL (fun l : List UInt8 => [(0, .s l)]) (fun _ => []) (fun l => l.length ≤ l0.length ∧ validL l = validL l0) (fun l => l.length) l0
    ⟨Nat.le_refl _, rfl⟩ ⟨⟨rfl, trivial⟩, trivial, rfl, by rw [hX]; intro k hk; cases hk⟩ ?_
  rintro l ⟨g1, g2⟩
  have hr := zaG l 0
  by_cases hlen : l.length = 0
  · have hv := zgD hlen
    repeat' (first |with_reducible (first |refine zag ?_|refine zaa ?_|refine zaf ?_|refine zad ?_|refine zaj ?_|refine zaz ?_|refine zaA ?_)|refine zab rfl rfl True.intro ?_|((first |refine zac rfl ?_ ?_)<;>intro<;>try (first |(exfalso;omega)))|refine zaJ rfl ?_|refine zaw rfl ?_|fail)
    rw [← g2, hv]
  by_cases hasc : at' l 0 < 128
  · have hv1 : validL (l.drop 1) = validL l := zcp 1 l (by omega) fun j hj => by rw [show j = 0 by omega]; exact hasc
    have hl1 : (l.drop 1).length = l.length - 1 := List.length_drop
    have e1 := zbI l 1 1 rfl
    generalize l.drop 1 = l1 at hv1 hl1 e1
    rw [g2] at hv1
    have hv9 : 8 ≤ l1.length → bits .and .u64 (wordV l1) 9259542123273814144 = 0 → validL (l1.drop 8) = validL l0 := fun h1 h2 => by rw [zcp 8 l1 h1 (zcJ l1 h2), hv1]
    have hl9 : (l1.drop 8).length = l1.length - 8 := List.length_drop
    have e9 := zbI l1 8 8 rfl
    generalize l1.drop 8 = l9 at hv9 hl9 e9
    have hv25 : validL l9 = validL l0 → 16 ≤ l9.length → bits .and .u64 (bits .or .u64 (wordV l9) (wordV (l9.drop 8))) 9259542123273814144 = 0 → validL (l9.drop 16) = validL l0 := fun h0 h1 h2 => by
      have w1 := zbA l9
      have w2 := zbA (l9.drop 8)
      obtain ⟨a1, a2⟩ := zkJ _ _ w1.1 w1.2 w2.1 w2.2 h2
      rw [zcp 16 l9 h1 (fun j hj => ?_), h0]
      by_cases h8 : j < 8
      · exact zcJ l9 a1 j h8
      · have := zcJ _ a2 (j - 8) (by omega)
        rw [zfT, show 8 + (j - 8) = j by omega] at this
        exact this
    have hl25 : (l9.drop 16).length = l9.length - 16 := List.length_drop
    have f8 := zbI l9 8 8 rfl
    have hf8 : (l9.drop 8).length = l9.length - 8 := List.length_drop
    have e25 := zbI l9 16 16 rfl
    generalize l9.drop 16 = l25 at hv25 hl25 e25
    generalize l9.drop 8 = l17 at hv25 f8 hf8
    have leaf : ∀ (m : List UInt8) (fr : Fr) (ow : Ow), m.length < l.length → validL m = validL l0 → leFr fr [(0, .s m)] →
        ∃ y : List UInt8, (y.length ≤ l0.length ∧ validL y = validL l0) ∧ y.length < l.length ∧ Le X fr ow [(0, .s y)] [] := fun m fr ow h1 h2 h3 =>
      ⟨m, ⟨by omega, h2⟩, h1, h3, trivial, rfl, by rw [hX]; intro k hk; cases hk⟩
    repeat' (first |refine T.weakF 0 (.s l1) (.of_eq (congrArg D.s e1)) ?_|refine T.weakF 0 (.s l9) (.of_eq (congrArg D.s e9)) ?_|refine T.weakF 0 (.s l25) (.of_eq (congrArg D.s e25)) ?_|with_reducible (first |refine zag ?_|refine zaa ?_|refine zaf ?_|refine zad ?_|refine zai ?_|refine zaz ?_|refine zae ?_|refine zaA ?_|refine zaD ?_)|refine zab rfl rfl True.intro ?_|refine zau rfl rfl rfl ?_|refine zam rfl rfl rfl rfl True.intro ?_|refine zak rfl ?_|((first |refine zac rfl ?_ ?_|refine zan rfl rfl ?_ ?_)<;>intro<;>try (first |(exfalso;omega)))|((first |refine zab rfl rfl ?_ ?_|refine zam rfl rfl rfl rfl ?_ ?_);focus (first |omega|((repeat' refine And.intro ?_ ?_)<;>omega)))|refine zaJ rfl ?_|with_reducible refine ⟨by kernel_rfl, ?_⟩|refine zaM (f := 126) rfl rfl rfl rfl Tryz.call126 rfl (zcm _ l1 rfl (by omega)) ?_|refine zaM (f := 126) rfl rfl rfl rfl Tryz.call126 rfl (zcm _ l9 rfl (by omega)) ?_|refine zaM (f := 126) rfl rfl rfl rfl Tryz.call126 rfl (zcm _ l17 f8 (by omega)) ?_|fail)
    · have hv9 := hv9 (by omega) ‹_›
      have hv25 := hv25 hv9 (by omega) ‹_›
      refine T.loop hL (fun m : List UInt8 => [(0, .s m)]) (fun _ => []) (fun m => m.length < l.length ∧ validL m = validL l0) (fun m => m.length) l25
        ⟨by omega, hv25⟩ ⟨⟨rfl, trivial⟩, trivial, rfl, by rw [hX]; intro k hk; cases hk⟩ ?_
      clear hv9 hv25 hl25 e25 hf8 f8 hl9 e9 hv1 hl1 e1
      rintro m ⟨q1, q2⟩
      have f8 := zbI m 8 8 rfl
      have f16 := zbI m 16 16 rfl
      have f24 := zbI m 24 24 rfl
      have f32 := zbI m 32 32 rfl
      have h8 : (m.drop 8).length = m.length - 8 := List.length_drop
      have h16 : (m.drop 16).length = m.length - 16 := List.length_drop
      have h24 : (m.drop 24).length = m.length - 24 := List.length_drop
      have h32 : (m.drop 32).length = m.length - 32 := List.length_drop
      have hv32 : 32 ≤ m.length → bits .and .u64 (bits .or .u64 (bits .or .u64 (wordV m) (wordV (m.drop 8))) (bits .or .u64 (wordV (m.drop 16)) (wordV (m.drop 24)))) 9259542123273814144 = 0 → validL (m.drop 32) = validL l0 := fun h1 h2 => by
        have w0 := zbA m
        have w1 := zbA (m.drop 8)
        have w2 := zbA (m.drop 16)
        have w3 := zbA (m.drop 24)
        have o1 := zkZ _ _ w0.1 w0.2 w1.1 w1.2
        have o2 := zkZ _ _ w2.1 w2.2 w3.1 w3.2
        obtain ⟨a1, a2⟩ := zkJ _ _ o1.1 o1.2 o2.1 o2.2 h2
        obtain ⟨b0, b1⟩ := zkJ _ _ w0.1 w0.2 w1.1 w1.2 a1
        obtain ⟨b2, b3⟩ := zkJ _ _ w2.1 w2.2 w3.1 w3.2 a2
        rw [zcp 32 m h1 (fun j hj => ?_), q2]
        have part : ∀ k : Nat, bits .and .u64 (wordV (m.drop k)) 9259542123273814144 = 0 → k ≤ j → j < k + 8 → at' m j < 128 := fun k hk g1 g2 => by
          have := zcJ _ hk (j - k) (by omega)
          rw [zfT, show k + (j - k) = j by omega] at this
          exact this
        by_cases c1 : j < 8
        · exact zcJ m b0 j c1
        · by_cases c2 : j < 16
          · exact part 8 b1 (by omega) (by omega)
          · by_cases c3 : j < 24
            · exact part 16 b2 (by omega) (by omega)
            · exact part 24 b3 (by omega) (by omega)
      generalize m.drop 8 = m8 at *
      generalize m.drop 16 = m16 at *
      generalize m.drop 24 = m24 at *
      generalize m.drop 32 = m32 at *
      repeat' (first |with_reducible (first |refine zag ?_|refine zaa ?_|refine zaf ?_|refine zad ?_|refine zai ?_|refine zaz ?_|refine zae ?_|refine zaq ?_|refine zaA ?_|refine zaD ?_)|refine zab rfl rfl True.intro ?_|refine zau rfl rfl rfl ?_|refine zam rfl rfl rfl rfl True.intro ?_|refine zak rfl ?_|((first |refine zac rfl ?_ ?_|refine zan rfl rfl ?_ ?_)<;>intro)|((first |refine zab rfl rfl ?_ ?_|refine zam rfl rfl rfl rfl ?_ ?_);focus (first |omega|((repeat' refine And.intro ?_ ?_)<;>omega)))|refine zaJ rfl ?_|with_reducible refine ⟨by kernel_rfl, ?_⟩|refine zaM (f := 126) rfl rfl rfl rfl Tryz.call126 rfl (zcm _ m rfl (by omega)) ?_|refine zaM (f := 126) rfl rfl rfl rfl Tryz.call126 rfl (zcm _ m8 f8 (by omega)) ?_|refine zaM (f := 126) rfl rfl rfl rfl Tryz.call126 rfl (zcm _ m16 f16 (by omega)) ?_|refine zaM (f := 126) rfl rfl rfl rfl Tryz.call126 rfl (zcm _ m24 f24 (by omega)) ?_|fail)
      · exact ⟨m32, ⟨by omega, hv32 (by omega) ‹_›⟩, by omega, ⟨congrArg D.s f32, trivial⟩, trivial, rfl, by rw [hX]; intro k hk; cases hk⟩
      · exact leaf m _ _ q1 q2 ⟨rfl, trivial⟩
      · exact leaf m _ _ q1 q2 ⟨rfl, trivial⟩
    · exact leaf l9 _ _ (by omega) (hv9 (by omega) ‹_›) ⟨rfl, trivial⟩
    · exact leaf l9 _ _ (by omega) (hv9 (by omega) ‹_›) ⟨rfl, trivial⟩
    · exact leaf l1 _ _ (by omega) hv1 ⟨rfl, trivial⟩
    · exact leaf l1 _ _ (by omega) hv1 ⟨rfl, trivial⟩
  · have hsz := sizes (at' l 0) (by omega) hr.2
    have hF0 : 0 + (at' l 0).toNat * 1 = (at' l 0).toNat := by omega
    rw [← hF0] at hsz
    have hS : IntKind.i64.wrap (bits .and .u8 (firstZ (0 + (at' l 0).toNat * 1)) 7) = firstZ (0 + (at' l 0).toNat * 1) % 8 := by
      have := bits_mask .u8 8 (by decide) wraps_u8 3 (by decide) (firstZ (0 + (at' l 0).toNat * 1)) (by omega) (by omega)
      rw [show (7 : Int) = 2 ^ 3 - 1 by decide, this, wi6_]
      omega
    have e4 : (2 : Int) ^ Int.toNat 4 = 16 := by decide
    have hA : firstZ (0 + (at' l 0).toNat * 1) / 2 ^ Int.toNat 4 = firstZ (0 + (at' l 0).toNat * 1) / 16 := by rw [e4]
    have hlh : (at' l 0 < 194 ∨ 244 < at' l 0) ∨ (accZ (0 + (firstZ (0 + (at' l 0).toNat * 1) / 2 ^ Int.toNat 4).toNat * 2) = loF (at' l 0) ∧ accZ (0 + (firstZ (0 + (at' l 0).toNat * 1) / 2 ^ Int.toNat 4).toNat * 2 + 1) = hiF (at' l 0)) := by
      rcases hsz with ⟨h, _⟩ | ⟨h, hF⟩ | ⟨h, hF⟩ | ⟨h, hF⟩ | ⟨h, hF⟩ | ⟨h, hF⟩ | ⟨h, hF⟩ | ⟨h, hF⟩
      · exact .inl h
      all_goals
        right
        rw [hF]
        unfold loF hiF
        refine ⟨?_, ?_⟩ <;> (repeat' split) <;> first | rfl | (exfalso; omega)
    have f2 := zbI l 2 2 rfl
    have f3 := zbI l 3 3 rfl
    have f4 := zbI l 4 4 rfl
    have good : ∀ k : Nat, oneL l = k → 2 ≤ k → k ≤ l.length → ∀ (fr : Fr) (ow : Ow), leFr fr [(0, .s (l.drop k))] →
        ∃ y : List UInt8, (y.length ≤ l0.length ∧ validL y = validL l0) ∧ y.length < l.length ∧ Le X fr ow [(0, .s y)] [] := fun k h1 h2 h3 fr ow h4 => by
      have hlen2 : (l.drop k).length = l.length - k := List.length_drop
      refine ⟨l.drop k, ⟨by omega, ?_⟩, by omega, h4, trivial, rfl, by rw [hX]; intro k hk; cases hk⟩
      rw [← g2, zdO hlen (by omega), h1]
    repeat' (first |with_reducible (first |refine zag ?_|refine zaa ?_|refine zaf ?_|refine zad ?_|refine zaj ?_|refine zai ?_|refine zae ?_|refine zaq ?_|refine zal ?_|refine zap ?_|refine zaD ?_)|refine zab rfl rfl True.intro ?_|refine zau rfl rfl rfl ?_|refine zam rfl rfl rfl rfl True.intro ?_|refine zas rfl ?_|((first |refine zac rfl ?_ ?_|refine zan rfl rfl ?_ ?_)<;>intro<;>try (first |(exfalso;omega)))|((first |refine zab rfl rfl ?_ ?_|refine zam rfl rfl rfl rfl ?_ ?_|refine zao rfl rfl ?_ ?_|refine zar rfl ?_ ?_);focus (first |(rw [hA];omega)|omega|exact le_ rfl|((repeat' refine And.intro ?_ ?_)<;>omega)|((repeat' refine And.intro ?_ ?_)<;>first |rfl|exact Nat.le_refl _)))|with_reducible refine ⟨by kernel_rfl, ?_⟩|refine zaw rfl ?_|fail)
    all_goals
      first
        | (rw [← g2, zgA hlen (by rw [zfK hasc]; (repeat' split) <;> omega)]; done)
        | exact good 2 (by rw [zfK hasc]; (repeat' split) <;> omega) (by omega) (by omega) _ _ ⟨congrArg D.s f2, trivial⟩
        | exact good 3 (by rw [zfK hasc]; (repeat' split) <;> omega) (by omega) (by omega) _ _ ⟨congrArg D.s f3, trivial⟩
        | exact good 4 (by rw [zfK hasc]; (repeat' split) <;> omega) (by omega) (by omega) _ _ ⟨congrArg D.s f4, trivial⟩
end Go.Proofs.YtcajofhafpkbdaaGreatDoor.Flow
