/- The texts T7, T10, H12, H13, FlowXc, FlowXe, H14, one behind the other. -/
import Derived.Test.YtkkaamhocpmhkaaGreatDoorJJ17
import Derived.Test.YtkkaamhocpmhkaaGreatDoorJJ20
import Derived.Test.YtkkaamhocpmhkaaGreatDoorJJ21
import Derived.Test.YtkkaamhocpmhkaaGreatDoorJJ22
namespace Go.Proofs.YtkkaamhocpmhkaaGreatDoor.Flow
open Go
theorem zhn : ∀ x : Nat, 0 < x → x < 2 ^ 64 → 2 ^ (Lib.bitLen x - 1) ≤ x ∧ x < 2 ^ Lib.bitLen x ∧ 1 ≤ Lib.bitLen x := by
  intro x
  induction x using Nat.strongRecOn with
  | ind x ih =>
    intro h0 h1
    rw [Lib.bitLen_half x (by omega) h1]
    by_cases hx : x / 2 = 0
    · have : x = 1 := by omega
      subst this
      decide
    · obtain ⟨i1, i2, i3⟩ := ih (x / 2) (by omega) (by omega) (by omega)
      generalize Lib.bitLen (x / 2) = k at *
      refine ⟨?_, ?_, by omega⟩
      · rw [show 1 + k - 1 = (k - 1) + 1 by omega, Nat.pow_succ]
        omega
      · rw [show 1 + k = k + 1 by omega, Nat.pow_succ]
        omega
theorem zmt (x : Nat) (hx : x < 18446744073709551616) : Ctr Tryz.prog 117 [.i .u64 (x : Nat)] (.i .i64 (Lib.bitLen x : Nat)) := by
  intro w S vs hv hg hn hr
  have h := hr 0 (by simp)
  rw [zoa hn]
  generalize vs.getD 0 undef = v0 at *
  cases h
  refine (Tryz.bits_Len64 (x : Int) w (by omega) (by omega)).mono ?_
  rintro e w' ⟨rfl, rfl⟩
  exact ⟨_, S, rfl, .i _ _ _, zcv _ S hv hg⟩
set_option maxHeartbeats 1000000 in
theorem zpe (b : Nat) (hb : b < 4294967296) : Ctr Tryz.prog 73 [.i .u64 (b : Nat)]
    (if b / 8388608 % 256 = 255 then .tu [.i .u64 0, .b false] else .tu [.i .u64 (wideF b (Lib.bitLen (b % 8388608)) : Nat), .b true]) := by
  have e31 : (2 : Int) ^ Int.toNat 31 = 2147483648 := by decide
  have e63 : (2 : Int) ^ Int.toNat 63 = 9223372036854775808 := by decide
  have e23 : (2 : Int) ^ Int.toNat 23 = 8388608 := by decide
  have e52 : (2 : Int) ^ Int.toNat 52 = 4503599627370496 := by decide
  have e29 : (2 : Int) ^ Int.toNat 29 = 536870912 := by decide
  have k1 : IntKind.i64.wrap (bits .and .u64 ((b : Int) / 2 ^ Int.toNat 23) 255) = ((b / 8388608 % 256 : Nat) : Int) := by
    have := bits_mask .u64 64 (by decide) zbb 8 (by decide) ((b : Int) / 2 ^ Int.toNat 23) (by rw [e23]; omega) (by rw [e23]; omega)
    rw [show (255 : Int) = 2 ^ 8 - 1 by decide, this, e23, wi6_]
    omega
  have k2 : bits .and .u64 (b : Int) 8388607 = ((b % 8388608 : Nat) : Int) := by
    have := bits_mask .u64 64 (by decide) zbb 23 (by decide) (b : Int) (by omega) (by omega)
    rw [show (8388607 : Int) = 2 ^ 23 - 1 by decide, this]
    omega
  have k3 : IntKind.u64.wrap ((b : Int) / 2 ^ Int.toNat 31 * 2 ^ Int.toNat 63) = ((if 2147483648 ≤ b then 9223372036854775808 else 0 : Nat) : Int) := by
    rw [e31, e63, zar]
    split <;> omega
  have hS : (if 2147483648 ≤ b then 9223372036854775808 else 0 : Nat) = 9223372036854775808 ∨ (if 2147483648 ≤ b then 9223372036854775808 else 0 : Nat) = 0 := by
    split
    · exact .inl rfl
    · exact .inr rfl
  have hW : wideF b (Lib.bitLen (b % 8388608)) = (if 2147483648 ≤ b then 9223372036854775808 else 0) +
    (if b / 8388608 % 256 = 0 then (if b % 8388608 = 0 then 0 else (Lib.bitLen (b % 8388608) + 873) * 4503599627370496 + (b % 8388608 * 2 ^ (53 - Lib.bitLen (b % 8388608)) - 4503599627370496))
     else (b / 8388608 % 256 + 896) * 4503599627370496 + b % 8388608 * 536870912) := rfl
  have c1 := zmt (b % 8388608) (by omega)
  have hn : b % 8388608 ≠ 0 → 2 ^ (Lib.bitLen (b % 8388608) - 1) ≤ b % 8388608 ∧ b % 8388608 < 2 ^ Lib.bitLen (b % 8388608) ∧ 1 ≤ Lib.bitLen (b % 8388608) ∧ Lib.bitLen (b % 8388608) ≤ 23 := fun h => by
    obtain ⟨h1, h2, h3⟩ := zhn (b % 8388608) (by omega) (by omega)
    refine ⟨h1, h2, h3, ?_⟩
    rcases Nat.lt_or_ge 23 (Lib.bitLen (b % 8388608)) with h4 | h4
    · have : 2 ^ 23 ≤ 2 ^ (Lib.bitLen (b % 8388608) - 1) := Nat.pow_le_pow_right (by decide) (by omega)
      omega
    · exact h4
  have hx8 : b / 8388608 % 256 < 256 := by omega
  have hf8 : b % 8388608 < 8388608 := by omega
  generalize wideF b (Lib.bitLen (b % 8388608)) = W at *
  generalize Lib.bitLen (b % 8388608) = n at *
  generalize (if 2147483648 ≤ b then 9223372036854775808 else 0 : Nat) = S at *
  generalize hX : b / 8388608 % 256 = x at *
  generalize hF : b % 8388608 = f at *
  by_cases hx : x = 255
  · subst hx
    rw [if_pos rfl]
    clear hn hW
    refine zax Tryz.func73 rfl Tryz.ntmps73 Tryz.results73 rfl rfl fun X hL hX => ?_
    repeat' (first |with_reducible (first |refine zah ?_|refine zaa ?_|refine zag ?_|refine zad ?_|refine zan ?_|refine zaf ?_|refine zam ?_|refine zaz ?_)|refine zab rfl rfl True.intro ?_|((first |refine zac rfl ?_ ?_)<;>intro<;>try (first |(exfalso;omega)))|((first |refine zab rfl rfl ?_ ?_);focus (first |omega|((repeat' refine And.intro ?_ ?_)<;>omega)))|refine zaq rfl ?_|fail)
    all_goals rfl
  · rw [if_neg hx]
    have j1 : ∀ A B : Nat, A % 4503599627370496 = 0 → A < 9223372036854775808 → B < 4503599627370496 → bits .or .u64 (bits .or .u64 (S : Int) (A : Int)) (B : Int) = ((S + A + B : Nat) : Int) := fun A B hA hA2 hB => by
      have h1 := bits_join .u64 64 (by decide) zbb 63 (S : Int) (A : Int) (by omega) (by rcases hS with h | h <;> rw [h] <;> decide) (by rcases hS with h | h <;> rw [h] <;> decide) (by omega) (by omega) (by omega)
      rw [h1]
      have h2 := bits_join .u64 64 (by decide) zbb 52 ((S : Int) + (A : Int)) (B : Int) (by omega) (by rcases hS with h | h <;> rw [h] <;> omega) (by rcases hS with h | h <;> rw [h] <;> omega) (by omega) (by omega) (by omega)
      rw [h2]
      omega
    by_cases h0 : x = 0
    · rw [if_pos h0] at hW
      by_cases hf : f = 0
      · rw [if_pos hf] at hW
        clear hn j1
        refine zax Tryz.func73 rfl Tryz.ntmps73 Tryz.results73 rfl rfl fun X hL hX => ?_
        repeat' (first |with_reducible (first |refine zah ?_|refine zaa ?_|refine zag ?_|refine zad ?_|refine zan ?_|refine zaf ?_|refine zam ?_|refine zaz ?_)|refine zab rfl rfl True.intro ?_|((first |refine zac rfl ?_ ?_)<;>intro<;>try (first |(exfalso;omega)))|((first |refine zab rfl rfl ?_ ?_);focus (first |omega|((repeat' refine And.intro ?_ ?_)<;>omega)))|refine zaq rfl ?_|fail)
        all_goals
          rw [k3, hW]
          rfl
      · rw [if_neg hf] at hW
        obtain ⟨n1, n2, n3, n4⟩ := hn hf
        have t52 : (4503599627370496 : Nat) = 2 ^ (n - 1) * 2 ^ (53 - n) := by rw [← Nat.pow_add, show n - 1 + (53 - n) = 52 by omega]
        have t53 : (9007199254740992 : Nat) = 2 ^ n * 2 ^ (53 - n) := by rw [← Nat.pow_add, show n + (53 - n) = 53 by omega]
        have m1 : 4503599627370496 ≤ f * 2 ^ (53 - n) := by rw [t52]; exact Nat.mul_le_mul_right _ n1
        have m2 : f * 2 ^ (53 - n) < 9007199254740992 := by rw [t53]; exact Nat.mul_lt_mul_of_pos_right n2 (Nat.two_pow_pos _)
        have q1 : IntKind.u64.wrap (IntKind.u64.wrap ((n : Int) + 873) * 2 ^ Int.toNat 52) = (((n + 873) * 4503599627370496 : Nat) : Int) := by
          rw [e52, zar, zar]
          omega
        have q2 : bits .and .u64 (IntKind.u64.wrap (bits .and .u64 (b : Int) 8388607 * 2 ^ (53 - (n : Int)).toNat)) 4503599627370495 = ((f * 2 ^ (53 - n) - 4503599627370496 : Nat) : Int) := by
          have hp : (2 : Int) ^ (53 - (n : Int)).toNat = ((2 ^ (53 - n) : Nat) : Int) := by
            rw [show (53 - (n : Int)).toNat = 53 - n by omega]
            simp
          have hw : IntKind.u64.wrap (bits .and .u64 (b : Int) 8388607 * 2 ^ (53 - (n : Int)).toNat) = ((f * 2 ^ (53 - n) : Nat) : Int) := by
            rw [k2, hp, ← Int.natCast_mul, zar]
            omega
          rw [hw]
          have := bits_mask .u64 64 (by decide) zbb 52 (by decide) ((f * 2 ^ (53 - n) : Nat) : Int) (by omega) (by omega)
          rw [show (4503599627370495 : Int) = 2 ^ 52 - 1 by decide, this]
          omega
        have q3 := j1 ((n + 873) * 4503599627370496) (f * 2 ^ (53 - n) - 4503599627370496) (by omega) (by omega) (by omega)
        rw [← k2] at c1
        clear hn j1 t52 t53 n1 n2
        generalize f * 2 ^ (53 - n) = M at *
        refine zax Tryz.func73 rfl Tryz.ntmps73 Tryz.results73 rfl rfl fun X hL hX => ?_
        repeat' (first |with_reducible (first |refine zah ?_|refine zaa ?_|refine zag ?_|refine zad ?_|refine zan ?_|refine zai ?_|refine zaf ?_|refine zao ?_)|refine zab rfl rfl True.intro ?_|((first |refine zac rfl ?_ ?_)<;>intro<;>try (first |(exfalso;omega)))|((first |refine zab rfl rfl ?_ ?_);focus (first |omega|((repeat' refine And.intro ?_ ?_)<;>omega)))|refine zaq rfl ?_|refine zae (f := 117) rfl rfl Tryz.call117 rfl c1 ?_|fail)
        all_goals
          rw [k3, q1, q2, q3, hW, Nat.add_assoc]
    · rw [if_neg h0] at hW
      have q1 : IntKind.u64.wrap (IntKind.u64.wrap (IntKind.i64.wrap (bits .and .u64 ((b : Int) / 2 ^ Int.toNat 23) 255) + 896) * 2 ^ Int.toNat 52) = (((x + 896) * 4503599627370496 : Nat) : Int) := by
        rw [k1, e52, zar, zar]
        omega
      have q2 : IntKind.u64.wrap (bits .and .u64 (b : Int) 8388607 * 2 ^ Int.toNat 29) = ((f * 536870912 : Nat) : Int) := by
        rw [k2, e29, zar]
        omega
      have q3 := j1 ((x + 896) * 4503599627370496) (f * 536870912) (by omega) (by omega) (by omega)
      clear hn j1
      refine zax Tryz.func73 rfl Tryz.ntmps73 Tryz.results73 rfl rfl fun X hL hX => ?_
      repeat' (first |with_reducible (first |refine zah ?_|refine zaa ?_|refine zag ?_|refine zad ?_|refine zan ?_|refine zaf ?_|refine zam ?_|refine zaz ?_)|refine zab rfl rfl True.intro ?_|((first |refine zac rfl ?_ ?_)<;>intro<;>try (first |(exfalso;omega)))|((first |refine zab rfl rfl ?_ ?_);focus (first |omega|((repeat' refine And.intro ?_ ?_)<;>omega)))|refine zaq rfl ?_|fail)
      all_goals
        rw [k3, q1, q2, q3, hW, Nat.add_assoc]
theorem zcr (n0 : Nat) (hn0 : n0 < 18446744073709551616) : Ctr Tryz.prog 89 [.i .u64 (n0 : Nat)] (.s (Lib.decDigits n0)) := by
  have hlen := zfv n0 20 (by omega) (by omega)
  refine zax Tryz.func89 rfl Tryz.ntmps89 Tryz.results89 rfl rfl fun X hL hX => ?_
  repeat' (first |with_reducible (first |refine zah ?_|refine zaa ?_|refine zag ?_|refine zad ?_|refine zaf ?_)|refine zab rfl rfl True.intro ?_|fail)
  refine T.loop hL (fun y : Nat × List UInt8 => [(0, .i .u64 (y.1 : Nat)), (3, .s y.2)]) (fun _ => []) (fun y => Lib.decDigits n0 = Lib.decDigits y.1 ++ y.2 ∧ y.1 < 18446744073709551616) (fun y => y.1) (n0, [])
    ⟨by simp, hn0⟩ ⟨⟨rfl, rfl, trivial⟩, trivial, rfl, by rw [hX]; intro k hk; cases hk⟩ ?_
  rintro ⟨n, s⟩ ⟨g1, g2⟩
  dsimp only at g1 g2 ⊢
  have hls : s.length ≤ 20 := by
    have := congrArg List.length g1
    simp only [List.length_append] at this
    omega
  have l10 : dig10.length = 10 := rfl
  by_cases hn : n < 10
  · have hw : IntKind.u64.wrap ((n : Int) + 1) = ((n + 1 : Nat) : Int) := by
      rw [zar]
      omega
    rw [zbW hn, ← zhW n hn] at g1
    have g1 := fun _ : Unit => g1
    repeat' (first |with_reducible (first |refine zah ?_|refine zaa ?_|refine zag ?_|refine zad ?_|refine zan ?_|refine zat ?_|refine zas ?_)|refine zab rfl rfl True.intro ?_|((first |refine zac rfl ?_ ?_)<;>intro<;>try (first |(exfalso;omega)))|((first |refine zab rfl rfl ?_ ?_);focus (first |(first |(simp only [List.length_drop, List.length_take];omega)|(rw [hw];(repeat' refine And.intro ?_ ?_)<;>first |omega|(simp only [l10];omega)))|((repeat' refine And.intro ?_ ?_)<;>omega)))|refine zaB rfl ?_|refine zaq rfl ?_|fail)
    rw [g1 (), hw]
    rfl
  · have hd := zex hn
    have hcut := zhW (n % 10) (by omega)
    have hw : IntKind.u64.wrap ((n : Int) % 10 + 1) = ((n % 10 + 1 : Nat) : Int) := by
      rw [zar]
      omega
    rw [hd, List.append_assoc, ← hcut] at g1
    have g1 := fun _ : Unit => g1
    clear hd hcut
    repeat' (first |with_reducible (first |refine zah ?_|refine zaa ?_|refine zag ?_|refine zad ?_|refine zai ?_|refine zaf ?_|refine zao ?_)|refine zab rfl rfl True.intro ?_|((first |refine zac rfl ?_ ?_)<;>intro<;>try (first |(exfalso;omega)))|((first |refine zab rfl rfl ?_ ?_);focus (first |(first |(simp only [List.length_drop, List.length_take];omega)|(rw [hw];(repeat' refine And.intro ?_ ?_)<;>first |omega|(simp only [l10];omega)))|omega|((repeat first |rw [zar]);(repeat' refine And.intro ?_ ?_)<;>omega)))|fail)
    exact ⟨(n / 10, (dig10.take (n % 10 + 1)).drop (n % 10) ++ s), ⟨g1 (), by dsimp only; omega⟩, by dsimp only; omega, ⟨congrArg (D.i .u64) (by dsimp only; omega), congrArg D.s (by dsimp only; rw [hw, Int.toNat_natCast, show ((n : Int) % 10).toNat = n % 10 by omega]), trivial⟩, trivial, rfl, by rw [hX]; intro k hk; cases hk⟩

theorem ziD (x : Bool) : Ctr Tryz.prog 72 [.b x] (.s (if x = true then [116, 114, 117, 101] else [102, 97, 108, 115, 101])) := by
  intro w S vs hv hg hn hr
  have h := hr 0 (by simp)
  rw [zoa hn]
  generalize vs.getD 0 undef = v0 at *
  cases h
  refine (Tryz.strconv_FormatBool x w).mono ?_
  rintro e w' ⟨rfl, rfl⟩
  refine ⟨_, S, rfl, ?_, zcv _ S hv hg⟩
  cases x
  · exact .s ..
  · exact .s ..
theorem zlD (n : Int) (h0 : -9223372036854775808 ≤ n) (h1 : n ≤ 9223372036854775807) : Ctr Tryz.prog 75 [.i .i64 n, .i .i64 10] (.s (Lib.itoa n)) := by
  intro w S vs hv hg hn hr
  have h := hr 0 (by simp)
  have h' := hr 1 (by simp)
  rw [zeS hn]
  generalize vs.getD 0 undef = v0 at *
  generalize vs.getD 1 undef = v1 at *
  cases h
  cases h'
  refine (Tryz.strconv_FormatInt_10 n h0 h1 w (zgF hg)).mono ?_
  rintro e w' ⟨rfl, k, os, rfl⟩
  exact ⟨_, S, rfl, .s _ _, zbU hv hg (zcY w k os)⟩
theorem zhR (n : Nat) (h1 : n < 18446744073709551616) : Ctr Tryz.prog 115 [.i .u64 (n : Nat), .i .i64 10] (.s (Lib.decDigits n)) := by
  intro w S vs hv hg hn hr
  have h := hr 0 (by simp)
  have h' := hr 1 (by simp)
  rw [zeS hn]
  generalize vs.getD 0 undef = v0 at *
  generalize vs.getD 1 undef = v1 at *
  cases h
  cases h'
  refine (zgK n h1 w (zgF hg)).mono ?_
  rintro e w' ⟨rfl, k, os, rfl⟩
  exact ⟨_, S, rfl, .s _ _, zbU hv hg (zcY w k os)⟩
theorem zjg (n : Nat) (h1 : n < 18446744073709551616) : Ctr Tryz.prog 71 [.i .u64 (n : Nat), .i .i64 10] (.s (Lib.decDigits n)) := by
  have c1 := zhR n h1
  refine zax Tryz.func71 rfl Tryz.ntmps71 Tryz.results71 rfl rfl fun X hL hX => ?_
  repeat' (first |with_reducible (first |refine zah ?_|refine zaa ?_|refine zag ?_|refine zad ?_|refine zan ?_)|refine zab rfl rfl True.intro ?_|refine zaq rfl ?_|refine zae (f := 115) rfl rfl Tryz.call115 rfl c1 ?_|fail)
  all_goals rfl
theorem zkP (k : Int) (s : List UInt8) (hs : s.length ≤ 1048576) (b : Nat) (hb : b < 18446744073709551616) : Ctr Tryz.prog 70 [vlD k s (b : Nat)] (.b (valR k (validL s) b)) := by
  have c1 := zee s (by omega)
  have v1 : k = 1 → valR k (validL s) b = validL s := fun h => if_pos h
  have v2 : k = 2 → valR k (validL s) b = decide ((b : Int) < 4294967296) := fun h => by
    unfold valR
    rw [if_neg (by omega), if_pos h, decide_eq_decide]
    omega
  have v7 : k = 7 → valR k (validL s) b = decide ((b : Int) < 2) := fun h => by
    unfold valR
    rw [if_neg (by omega), if_neg (by omega), if_pos h, decide_eq_decide]
    omega
  have v0 : ¬ k = 1 → ¬ k = 2 → ¬ k = 7 → valR k (validL s) b = decide (1 ≤ k ∧ k ≤ 7) := fun h h2 h3 => by
    unfold valR
    rw [if_neg h, if_neg h2, if_neg h3]
  generalize valR k (validL s) b = B at *
  generalize validL s = V at *
  refine zax Tryz.func70 rfl Tryz.ntmps70 Tryz.results70 rfl rfl fun X hL hX => ?_
  repeat' (first |with_reducible (first |refine zah ?_|refine zaa ?_|refine zag ?_|refine zad ?_|refine zan ?_|refine zai ?_|refine zaf ?_|refine zao ?_|refine zam ?_|refine zaz ?_)|refine zab rfl rfl True.intro ?_|refine zap rfl rfl rfl ?_|refine zaj rfl rfl rfl rfl True.intro ?_|((first |refine zac rfl ?_ ?_|refine zak rfl rfl ?_ ?_)<;>intro)|((first |refine zab rfl rfl ?_ ?_|refine zaj rfl rfl rfl rfl ?_ ?_|refine zav rfl rfl ?_ ?_);focus (first |exact le_ rfl|((repeat' refine And.intro ?_ ?_)<;>omega)|((repeat' refine And.intro ?_ ?_)<;>first |rfl)))|refine zaq rfl ?_|refine zae (f := 112) rfl rfl Tryz.call112 rfl c1 ?_|fail)
  all_goals
    first
      | rw [v1 (by omega)]
      | rw [v2 (by omega)]
      | rw [v7 (by omega)]
      | (rw [v0 (by omega) (by omega) (by omega)]
         exact congrArg D.b (by simp; omega))
theorem ziL (k : Int) (s : List UInt8) (hs : s.length ≤ 1048576) (b : Nat) (hb : b < 18446744073709551616) : Ctr Tryz.prog 88 [vlD k s (b : Nat)] (.b (valR k (validL s) b)) := by
  have c1 := zee s (by omega)
  have v1 : k = 1 → valR k (validL s) b = validL s := fun h => if_pos h
  have v2 : k = 2 → valR k (validL s) b = decide ((b : Int) ≤ 4294967295) := fun h => by
    unfold valR
    rw [if_neg (by omega), if_pos h, decide_eq_decide]
    omega
  have v7 : k = 7 → valR k (validL s) b = decide ((b : Int) ≤ 1) := fun h => by
    unfold valR
    rw [if_neg (by omega), if_neg (by omega), if_pos h, decide_eq_decide]
    omega
  have v0 : ¬ k = 1 → ¬ k = 2 → ¬ k = 7 → valR k (validL s) b = decide (1 ≤ k ∧ k ≤ 7) := fun h h2 h3 => by
    unfold valR
    rw [if_neg h, if_neg h2, if_neg h3]
  generalize valR k (validL s) b = B at *
  generalize validL s = V at *
  refine zax Tryz.func88 rfl Tryz.ntmps88 Tryz.results88 rfl rfl fun X hL hX => ?_
  repeat' (first |with_reducible (first |refine zah ?_|refine zaa ?_|refine zag ?_|refine zad ?_|refine zan ?_|refine zai ?_|refine zam ?_)|refine zab rfl rfl True.intro ?_|refine zap rfl rfl rfl ?_|refine zaj rfl rfl rfl rfl True.intro ?_|((first |refine zac rfl ?_ ?_|refine zak rfl rfl ?_ ?_)<;>intro)|((first |refine zab rfl rfl ?_ ?_|refine zaj rfl rfl rfl rfl ?_ ?_|refine zav rfl rfl ?_ ?_);focus (first |exact le_ rfl|((repeat' refine And.intro ?_ ?_)<;>omega)|((repeat' refine And.intro ?_ ?_)<;>first |rfl)))|refine zaq rfl ?_|refine zae (f := 112) rfl rfl Tryz.call112 rfl c1 ?_|fail)
  all_goals
    first
      | rw [v1 (by omega)]
      | rw [v2 (by omega)]
      | rw [v7 (by omega)]
      | (rw [v0 (by omega) (by omega) (by omega)]
         exact congrArg D.b (decide_eq_decide.2 (by omega)))
      | (rw [v0 (by omega) (by omega) (by omega)]
         exact congrArg D.b (decide_eq_false (by omega)).symm)
theorem zpH {v : Bool} {b : Nat} (h : valR 2 v b = true) : b < 4294967296 := of_decide_eq_true h
theorem zrJ {v : Bool} {b : Nat} (h : valR 7 v b = true) : b < 2 := of_decide_eq_true h
theorem zjK {k : Int} {s : List UInt8} {v : Bool} {b : Nat} (h : valR k v b = false) : keyF k s v b = ([], false) := if_pos h
theorem zpS {s : List UInt8} {v : Bool} {b : Nat} (h : ¬ valR 1 v b = false) : keyF 1 s v b = (s, true) := by unfold keyF; rw [if_neg h, if_pos rfl]
theorem zpz {s : List UInt8} {v : Bool} {b : Nat} (h : ¬ valR 5 v b = false) : keyF 5 s v b = (Lib.decDigits b, true) := by unfold keyF; rw [if_neg h, if_neg (by decide), if_pos rfl]
theorem zpQ {s : List UInt8} {v : Bool} {b : Nat} (h : ¬ valR 7 v b = false) : keyF 7 s v b = ((if b = 1 then [116, 114, 117, 101] else [102, 97, 108, 115, 101]), true) := by unfold keyF; rw [if_neg h, if_neg (by decide), if_neg (by decide), if_pos rfl]
theorem zpn {s : List UInt8} {v : Bool} {b : Nat} (h : ¬ valR 2 v b = false) : keyF 2 s v b = wText (singleF b) := by unfold keyF; rw [if_neg h, if_neg (by decide), if_neg (by decide), if_neg (by decide), if_pos rfl]
theorem zpF {s : List UInt8} {v : Bool} {b : Nat} (h : ¬ valR 3 v b = false) : keyF 3 s v b = wText (wholeF b) := by unfold keyF; rw [if_neg h, if_neg (by decide), if_neg (by decide), if_neg (by decide), if_neg (by decide), if_pos rfl]
theorem zpC {k : Int} {s : List UInt8} {v : Bool} {b : Nat} (h : ¬ valR k v b = false) (h1 : ¬ k = 1) (h2 : ¬ k = 2) (h3 : ¬ k = 3) (h5 : ¬ k = 5) (h7 : ¬ k = 7) : keyF k s v b = (Lib.itoa (i64F b), true) := by
  unfold keyF
  rw [if_neg h, if_neg h1, if_neg h5, if_neg h7, if_neg h2, if_neg h3]
theorem znr {b : Nat} (hb : b < 18446744073709551616) : IntKind.i64.wrap (b : Int) = i64F b ∧ -9223372036854775808 ≤ i64F b ∧ i64F b ≤ 9223372036854775807 := by
  unfold i64F
  rw [wi6_]
  split <;> omega
theorem zgg {b : Nat} (h : b / 8388608 % 256 = 255) : singleF b = none := if_pos h
set_option maxHeartbeats 1000000 in
theorem zrd (k : Int) (s : List UInt8) (hs : s.length ≤ 1048576) (b : Nat) (hb : b < 18446744073709551616) : Ctr Tryz.prog 40 [vlD k s (b : Nat)] (.tu [.s (keyF k s (validL s) b).1, .b (keyF k s (validL s) b).2]) := by
  have c1 := zkP k s hs b hb
  by_cases hv : valR k (validL s) b = false
  · rw [zjK hv]
    rw [hv] at c1
    clear hv
    refine zax Tryz.func40 rfl Tryz.ntmps40 Tryz.results40 rfl rfl fun X hL hX => ?_
    repeat' (first |with_reducible (first |refine zah ?_|refine zaa ?_|refine zag ?_|refine zad ?_|refine zan ?_|refine zam ?_)|refine zab rfl rfl True.intro ?_|refine zau rfl ?_|((first |refine zab rfl rfl ?_ ?_|refine zav rfl rfl ?_ ?_);focus (first |exact le_ rfl|((repeat' refine And.intro ?_ ?_)<;>omega)|((repeat' refine And.intro ?_ ?_)<;>first |rfl)))|refine zaq rfl ?_|refine zae (f := 70) rfl rfl Tryz.call70 rfl c1 ?_|fail)
    all_goals rfl
  · have hv2 : valR k (validL s) b = true := by simpa using hv
    rw [hv2] at c1
    by_cases k1 : k = 1
    · subst k1
      rw [zpS hv]
      clear hv hv2
      refine zax Tryz.func40 rfl Tryz.ntmps40 Tryz.results40 rfl rfl fun X hL hX => ?_
      repeat' (first |with_reducible (first |refine zah ?_|refine zaa ?_|refine zag ?_|refine zad ?_|refine zan ?_|refine zai ?_|refine zat ?_|refine zaf ?_|refine zas ?_|refine zam ?_|refine zaz ?_)|refine zab rfl rfl True.intro ?_|refine zau rfl ?_|refine zal rfl ?_|((first |refine zab rfl rfl ?_ ?_|refine zav rfl rfl ?_ ?_);focus (first |exact le_ rfl|((repeat' refine And.intro ?_ ?_)<;>omega)|((repeat' refine And.intro ?_ ?_)<;>first |rfl)))|refine zaB rfl ?_|refine zaq rfl ?_|refine zae (f := 70) rfl rfl Tryz.call70 rfl c1 ?_|fail)
      all_goals rfl
    by_cases k5 : k = 5
    · subst k5
      rw [zpz hv]
      have c2 := zjg b hb
      clear hv hv2
      refine zax Tryz.func40 rfl Tryz.ntmps40 Tryz.results40 rfl rfl fun X hL hX => ?_
      repeat' (first |with_reducible (first |refine zah ?_|refine zaa ?_|refine zag ?_|refine zad ?_|refine zan ?_|refine zai ?_|refine zat ?_|refine zaf ?_|refine zas ?_|refine zam ?_|refine zaz ?_)|refine zab rfl rfl True.intro ?_|refine zau rfl ?_|refine zal rfl ?_|((first |refine zab rfl rfl ?_ ?_|refine zav rfl rfl ?_ ?_);focus (first |exact le_ rfl|((repeat' refine And.intro ?_ ?_)<;>omega)|((repeat' refine And.intro ?_ ?_)<;>first |rfl)))|refine zaB rfl ?_|refine zel rfl ?_|refine zaq rfl ?_|refine zae (f := 70) rfl rfl Tryz.call70 rfl c1 ?_|refine zae (f := 71) rfl rfl Tryz.call71 rfl c2 ?_|fail)
      all_goals rfl
    by_cases k7 : k = 7
    · subst k7
      rw [zpQ hv]
      have hb2 := zrJ hv2
      have c2 := ziD ((b : Int) == 1)
      have e2 : (if ((b : Int) == 1) = true then ([116, 114, 117, 101] : List UInt8) else [102, 97, 108, 115, 101]) = if b = 1 then [116, 114, 117, 101] else [102, 97, 108, 115, 101] := by
        by_cases h : b = 1
        · subst h
          rfl
        · rw [if_neg h, if_neg (by simp; omega)]
      rw [e2] at c2
      clear hv hv2 e2
      generalize (if b = 1 then ([116, 114, 117, 101] : List UInt8) else [102, 97, 108, 115, 101]) = t at *
      refine zax Tryz.func40 rfl Tryz.ntmps40 Tryz.results40 rfl rfl fun X hL hX => ?_
      repeat' (first |with_reducible (first |refine zah ?_|refine zaa ?_|refine zag ?_|refine zad ?_|refine zan ?_|refine zai ?_|refine zat ?_|refine zaf ?_|refine zas ?_|refine zam ?_|refine zaz ?_)|refine zab rfl rfl True.intro ?_|refine zau rfl ?_|refine zal rfl ?_|((first |refine zab rfl rfl ?_ ?_|refine zav rfl rfl ?_ ?_);focus (first |exact le_ rfl|((repeat' refine And.intro ?_ ?_)<;>omega)|((repeat' refine And.intro ?_ ?_)<;>first |rfl)))|refine zaB rfl ?_|refine zel rfl ?_|refine zaq rfl ?_|refine zae (f := 70) rfl rfl Tryz.call70 rfl c1 ?_|refine zae (f := 72) rfl rfl Tryz.call72 rfl c2 ?_|fail)
      all_goals rfl
    by_cases k2 : k = 2
    · subst k2
      rw [zpn hv]
      have hb2 := zpH hv2
      have c2 := zpe b hb2
      by_cases hx : b / 8388608 % 256 = 255
      · rw [if_pos hx] at c2
        rw [zgg hx]
        show Ctr _ _ _ (.tu [.s [], .b false])
        clear hv hv2 hx
        refine zax Tryz.func40 rfl Tryz.ntmps40 Tryz.results40 rfl rfl fun X hL hX => ?_
        repeat' (first |with_reducible (first |refine zah ?_|refine zaa ?_|refine zag ?_|refine zad ?_|refine zan ?_|refine zai ?_|refine zat ?_|refine zaf ?_|refine zas ?_|refine zam ?_|refine zaz ?_)|refine zab rfl rfl True.intro ?_|refine zau rfl ?_|refine zal rfl ?_|((first |refine zab rfl rfl ?_ ?_|refine zav rfl rfl ?_ ?_);focus (first |exact le_ rfl|((repeat' refine And.intro ?_ ?_)<;>omega)|((repeat' refine And.intro ?_ ?_)<;>first |rfl)))|refine zaB rfl ?_|refine zel rfl ?_|refine zaq rfl ?_|refine zae (f := 70) rfl rfl Tryz.call70 rfl c1 ?_|refine zae (f := 73) rfl rfl Tryz.call73 rfl c2 ?_|fail)
        all_goals rfl
      · rw [if_neg hx] at c2
        have hn : b % 8388608 ≠ 0 → 2 ^ (Lib.bitLen (b % 8388608) - 1) ≤ b % 8388608 ∧ b % 8388608 < 2 ^ Lib.bitLen (b % 8388608) ∧ 1 ≤ Lib.bitLen (b % 8388608) ∧ Lib.bitLen (b % 8388608) ≤ 23 := fun h => by
          obtain ⟨h1, h2, h3⟩ := zhn (b % 8388608) (by omega) (by omega)
          refine ⟨h1, h2, h3, ?_⟩
          rcases Nat.lt_or_ge 23 (Lib.bitLen (b % 8388608)) with h4 | h4
          · have : 2 ^ 23 ≤ 2 ^ (Lib.bitLen (b % 8388608) - 1) := Nat.pow_le_pow_right (by decide) (by omega)
            omega
          · exact h4
        obtain ⟨w1, w2⟩ := zqH hb2 hx hn
        have c3 := zic _ w1
        rw [w2] at c3
        clear hn w1 w2
        generalize wideF b (Lib.bitLen (b % 8388608)) = q at *
        generalize wText (singleF b) = R at *
        obtain ⟨t, ok⟩ := R
        clear hv hv2 hx
        refine zax Tryz.func40 rfl Tryz.ntmps40 Tryz.results40 rfl rfl fun X hL hX => ?_
        repeat' (first |with_reducible (first |refine zah ?_|refine zaa ?_|refine zag ?_|refine zad ?_|refine zan ?_|refine zai ?_|refine zat ?_|refine zaf ?_|refine zao ?_|refine zas ?_|refine zam ?_|refine zaz ?_)|refine zab rfl rfl True.intro ?_|refine zau rfl ?_|refine zal rfl ?_|((first |refine zab rfl rfl ?_ ?_|refine zav rfl rfl ?_ ?_|refine zaH rfl ?_ ?_);focus (first |exact le_ rfl|((repeat' refine And.intro ?_ ?_)<;>omega)|((repeat' refine And.intro ?_ ?_)<;>first |rfl|exact Nat.le_refl _)))|refine zaB rfl ?_|refine zel rfl ?_|refine zaq rfl ?_|refine zae (f := 70) rfl rfl Tryz.call70 rfl c1 ?_|refine zae (f := 73) rfl rfl Tryz.call73 rfl c2 ?_|refine zae (f := 74) rfl rfl Tryz.call74 rfl c3 ?_|fail)
        all_goals rfl
    by_cases k3 : k = 3
    · subst k3
      rw [zpF hv]
      have c3 := zic b hb
      generalize wText (wholeF b) = R at *
      obtain ⟨t, ok⟩ := R
      clear hv hv2
      refine zax Tryz.func40 rfl Tryz.ntmps40 Tryz.results40 rfl rfl fun X hL hX => ?_
      repeat' (first |with_reducible (first |refine zah ?_|refine zaa ?_|refine zag ?_|refine zad ?_|refine zan ?_|refine zai ?_|refine zat ?_|refine zaf ?_|refine zas ?_|refine zam ?_|refine zaz ?_)|refine zab rfl rfl True.intro ?_|refine zau rfl ?_|refine zal rfl ?_|((first |refine zab rfl rfl ?_ ?_|refine zav rfl rfl ?_ ?_);focus (first |exact le_ rfl|((repeat' refine And.intro ?_ ?_)<;>omega)|((repeat' refine And.intro ?_ ?_)<;>first |rfl)))|refine zaB rfl ?_|refine zel rfl ?_|refine zaq rfl ?_|refine zae (f := 70) rfl rfl Tryz.call70 rfl c1 ?_|refine zae (f := 74) rfl rfl Tryz.call74 rfl c3 ?_|fail)
      all_goals rfl
    · rw [zpC hv k1 k2 k3 k5 k7]
      obtain ⟨i1, i2, i3⟩ := znr hb
      have c2 := zlD (i64F b) i2 i3
      rw [← i1] at c2 ⊢
      clear hv hv2 i1 i2 i3
      refine zax Tryz.func40 rfl Tryz.ntmps40 Tryz.results40 rfl rfl fun X hL hX => ?_
      repeat' (first |with_reducible (first |refine zah ?_|refine zaa ?_|refine zag ?_|refine zad ?_|refine zan ?_|refine zai ?_|refine zat ?_|refine zaf ?_|refine zas ?_)|refine zab rfl rfl True.intro ?_|refine zal rfl ?_|((first |refine zac rfl ?_ ?_)<;>intro<;>try (first |(exfalso;omega)))|((first |refine zab rfl rfl ?_ ?_|refine zav rfl rfl ?_ ?_);focus (first |exact le_ rfl|((repeat' refine And.intro ?_ ?_)<;>omega)|((repeat' refine And.intro ?_ ?_)<;>first |rfl)))|refine zaB rfl ?_|refine zel rfl ?_|refine zaq rfl ?_|refine zae (f := 70) rfl rfl Tryz.call70 rfl c1 ?_|refine zae (f := 75) rfl rfl Tryz.call75 rfl c2 ?_|fail)
      all_goals rfl

def lo50 (rows : List (List Tx)) (j : JnR) : Ow := (50, .var [.pv 70 0]) :: tblO rows j
theorem okT5 {fr : Fr} {ks : List Tx} {i n : Nat} {t : TypeId} {cs cs0 : List D} (h : okAll [50, 70, 68, 101] fr [(50, .var cs0), (70, .var cs), (101, .row t 1 n)] = true) : okAll [50, 70, 68, 101] fr [(50, .var cs0), (70, .var cs), (68, .mp (firstE ks i)), (101, .row t 1 n)] = true := by
  unfold okAll at h ⊢
  rw [List.all_cons, List.all_cons, List.all_cons, okFirst]
  rw [List.all_cons, List.all_cons] at h
  exact h
theorem zgu (rows : List (List Tx)) (j : JnR) : (lo50 rows j).all (fun x => x.2.okIn [50, 70, 68, 101]) = true := by
  unfold lo50 tblO
  rw [List.all_cons, List.all_cons, List.all_cons, okFirst]
  rfl
set_option maxRecDepth 100000 in
set_option maxHeartbeats 4000000 in
theorem zkU (rows : List (List Tx)) (j : JnR) (p : AtR) : CtrO Tryz.prog 39 [.ag (atrP p), .pv 50 0] (lo50 rows j) (.b (p.1 == j.attr)) (lo50 rows j) := by
  refine zdb (ids := [50, 70, 68, 101]) (ids2 := [50, 70, 68, 101]) Tryz.func39 rfl Tryz.ntmps39 Tryz.results39 rfl rfl rfl (fun _ h => h) rfl (zgu rows j) fun X hL hX => ?_
  unfold lo50 tblO
  repeat' (first |with_reducible (first |refine zah ?_|refine zaa ?_|refine zag ?_|refine zad ?_|refine zan ?_|refine zaC ?_)|refine zab rfl rfl True.intro ?_|((first |refine zab rfl rfl ?_ ?_|refine zav rfl rfl ?_ ?_);focus (first |exact le_ rfl|((repeat' refine And.intro ?_ ?_)<;>omega)|((repeat' refine And.intro ?_ ?_)<;>first |rfl)))|with_reducible refine ⟨by kernel_rfl, ?_⟩|refine zcm rfl (.refl _) ⟨⟨rfl, rfl, rfl, rfl, trivial⟩⟩|fail)
  all_goals first
    | rfl
    | trace_state
set_option maxRecDepth 100000 in
set_option maxHeartbeats 4000000 in
theorem zkH (rows : List (List Tx)) (j : JnR) (l : List AtR) (hl : l.length ≤ 1048576) : CtrO Tryz.prog 38 [.sl 4 l.length (atrF l), .fn 39 [.pv 50 0]] (lo50 rows j) (.i .i64 (Csv.idxI j.attr (keysA l))) (lo50 rows j) := by
  refine zdb (ids := [50, 70, 68, 101]) (ids2 := [50, 70, 68, 101]) Tryz.func38 rfl Tryz.ntmps38 Tryz.results38 rfl rfl rfl (fun _ h => h) rfl (zgu rows j) fun X hL hX => ?_
  have hok := zgu rows j
  have hA := fun p => zkU rows j p
  unfold lo50 tblO at hok hA ⊢
  repeat' (first |with_reducible (first |refine zah ?_|refine zaa ?_|refine zag ?_|refine zad ?_|refine zaf ?_)|refine zab rfl rfl True.intro ?_|fail)
  refine T.loop hL (fun i : Nat => [(0, .sl 4 l.length (atrF l)), (1, .fn 39 [.pv 50 0]), (7, .i .i64 l.length), (8, .i .i64 i)]) (fun _ => [(50, .var [.pv 70 0]), (70, .var (tblP rows j (.gs 101 1 (colsR rows j).length (colF (colsR rows j))))), (68, .mp (firstE (keysR rows (colK rows j)) (rows.length - 1))), (101, .row 3 1 (colsR rows j).length)])
    (fun i => i ≤ l.length ∧ ∀ k, k < i → ¬ (keysA l).getD k [] = j.attr) (fun i => l.length - i) 0 ⟨Nat.zero_le _, fun k h => absurd h (Nat.not_lt_zero _)⟩
    ⟨⟨rfl, rfl, rfl, rfl, trivial⟩, ⟨rfl, rfl, rfl, rfl, trivial⟩, okT5 rfl, by rw [hX]; simp⟩ ?_
  rintro i ⟨g1, g2⟩
  try dsimp only at g1 g2 ⊢
  have hnat : (i : Int).toNat = i := Int.toNat_natCast i
  have hkl : (keysA l).length = l.length := List.length_map ..
  by_cases hi : i < l.length
  rotate_left
  · have hi' : ¬ (i : Int) < (l.length : Int) := by omega
    rw [Csv.idxI_miss (fun k hk => g2 k (by omega))]
    repeat' (first |with_reducible (first |refine zah ?_|refine zaa ?_|refine zag ?_|refine zad ?_|refine zan ?_|refine zat ?_|refine zas ?_)|refine zab rfl rfl True.intro ?_|((first |refine zac rfl ?_ ?_)<;>intro<;>try (first |(exfalso;omega)))|refine zaB rfl ?_|refine zcm rfl (.refl _) ⟨⟨rfl, rfl, rfl, rfl, trivial⟩⟩|fail)
    all_goals first
      | rfl
      | trace_state
  have hi' : (i : Int) < (l.length : Int) := by omega
  have c := hA (l.getD (i : Int).toNat ([], v03))
  by_cases hk : (keysA l).getD i [] = j.attr
  · rw [Csv.idxI_hit g2 (by omega) hk]
    have hb : ((l.getD (i : Int).toNat ([], v03)).1 == j.attr) = true := by
      rw [hnat, ← zcj]
      exact beq_iff_eq.2 hk
    rw [hb] at c
    repeat' (first |refine zbp (f := 39) [(50, .var [.pv 70 0]), (70, .var (tblP rows j (.gs 101 1 (colsR rows j).length (colF (colsR rows j))))), (68, .mp (firstE (keysR rows (colK rows j)) (rows.length - 1))), (101, .row 3 1 (colsR rows j).length)] [50, 70, 68, 101] rfl (by decide) rfl rfl Tryz.call39 ⟨rfl, rfl, rfl, rfl, trivial⟩ rfl hok rfl c ?_|with_reducible (first |refine zah ?_|refine zaa ?_|refine zag ?_|refine zad ?_|refine zan ?_|refine zai ?_|refine zaf ?_|refine zam ?_|refine zaz ?_)|refine zab rfl rfl True.intro ?_|refine zau rfl ?_|((first |refine zac rfl ?_ ?_)<;>intro<;>try (first |(exfalso;omega)))|((first |refine zab rfl rfl ?_ ?_);focus (first |omega|exact le_ rfl|((repeat' refine And.intro ?_ ?_)<;>omega)))|refine zcm rfl (.refl _) ⟨⟨rfl, rfl, rfl, rfl, trivial⟩⟩|fail)
    all_goals first
      | rfl
      | trace_state
  · have hb : ((l.getD (i : Int).toNat ([], v03)).1 == j.attr) = false := by
      rw [hnat, ← zcj]
      exact beq_eq_false_iff_ne.2 hk
    rw [hb] at c
    have g3 : ∀ k, k < i + 1 → ¬ (keysA l).getD k [] = j.attr := fun k h => by
      by_cases e : k = i
      · rw [e]
        exact hk
      · exact g2 k (by omega)
    repeat' (first |refine zbp (f := 39) [(50, .var [.pv 70 0]), (70, .var (tblP rows j (.gs 101 1 (colsR rows j).length (colF (colsR rows j))))), (68, .mp (firstE (keysR rows (colK rows j)) (rows.length - 1))), (101, .row 3 1 (colsR rows j).length)] [50, 70, 68, 101] rfl (by decide) rfl rfl Tryz.call39 ⟨rfl, rfl, rfl, rfl, trivial⟩ rfl hok rfl c ?_|with_reducible (first |refine zah ?_|refine zaa ?_|refine zag ?_|refine zad ?_|refine zai ?_|refine zaf ?_|refine zao ?_)|refine zab rfl rfl True.intro ?_|refine zal rfl ?_|((first |refine zac rfl ?_ ?_)<;>intro<;>try (first |(exfalso;omega)))|((first |refine zab rfl rfl ?_ ?_);focus (first |omega|exact le_ rfl|((repeat' refine And.intro ?_ ?_)<;>omega)))|fail)
    all_goals first
      | exact ⟨i + 1, ⟨by omega, g3⟩, by omega, ⟨rfl, rfl, rfl, rfl, trivial⟩, ⟨rfl, rfl, rfl, rfl, trivial⟩, okT5 rfl, by rw [hX]; simp⟩
      | trace_state

def okAtt (l : List AtR) : Prop := ∀ i, 0 ≤ (l.getD i ([], v03)).2.2.2 ∧ (l.getD i ([], v03)).2.2.2 < 18446744073709551616 ∧ (l.getD i ([], v03)).2.2.1.length ≤ 1048576
theorem zhc (rows : List (List Tx)) (j : JnR) (key : Tx) : (rowV rows j key).1.length ≤ (namesR rows).length := by
  unfold rowV
  split
  · exact Nat.zero_le _
  · unfold attsJ colsR
    refine Nat.le_trans (List.length_filterMap_le ..) (Nat.le_trans (List.length_filter_le ..) ?_)
    rw [List.length_range]
    exact Nat.le_refl _
set_option maxRecDepth 100000 in
set_option maxHeartbeats 8000000 in
theorem ziy (rows : List (List Tx)) (j : JnR) (l : List AtR) (n : Nat) (hT : RightT n rows j) (hn : n ≤ 1000000) (hl : l.length ≤ 1048576) (hv : okAtt l) : CtrO Tryz.prog 11 [.pv 70 0, .sl 4 l.length (atrF l)] (tblO rows j) (.tu [.sl 4 (attrsJ rows j l).1.length (atrF (attrsJ rows j l).1), .b (attrsJ rows j l).2]) (tblO rows j) := by
  have cI := zkH rows j l hl
  have cC := (zdK l hl).shut
  have hil := (zcD j.attr (keysA l)).2
  rw [show (keysA l).length = l.length from List.length_map ..] at hil
  have hnl : (namesR rows).length ≤ n + 1 := (zaI hT.good).1
  have hok5 := zgu rows j
  have hok := zem rows j
  unfold attrsJ
  refine zdb (ids := [70, 68, 101]) (ids2 := [70, 68, 101]) Tryz.func11 rfl Tryz.ntmps11 Tryz.results11 rfl rfl rfl (fun _ h => h) rfl (zem rows j) fun X hL hX => ?_
  generalize hix : Csv.idxI j.attr (keysA l) = ix at *
  clear hix
  by_cases h0 : ix < 0
  · rw [if_pos h0]
    unfold lo50 at cI hok5
    unfold tblO at cI hok5 ⊢
    clear hT hv
    repeat' (first |refine zfD 50 rfl rfl rfl rfl rfl ?_|refine zen zaZ rfl rfl rfl ?_|refine zbp (f := 38) [(50, .var [.pv 70 0]), (70, .var (tblP rows j (.gs 101 1 (colsR rows j).length (colF (colsR rows j))))), (68, .mp (firstE (keysR rows (colK rows j)) (rows.length - 1))), (101, .row 3 1 (colsR rows j).length)] [50, 70, 68, 101] rfl (by decide) rfl rfl Tryz.call38 ⟨rfl, rfl, rfl, rfl, trivial⟩ rfl hok5 rfl cI ?_|refine zae (f := 37) rfl rfl Tryz.call37 rfl cC ?_|with_reducible (first |refine zah ?_|refine zaa ?_|refine zag ?_|refine zad ?_|refine zan ?_|refine zai ?_|refine zaC ?_)|refine zab rfl rfl True.intro ?_|refine zal rfl ?_|((first |refine zac rfl ?_ ?_)<;>intro<;>try (first |(exfalso;omega)))|((first |refine zab rfl rfl ?_ ?_);focus (first |exact le_ rfl|((repeat' refine And.intro ?_ ?_)<;>omega)))|with_reducible refine ⟨by kernel_rfl, ?_⟩|refine zcm rfl (.refl _) ⟨⟨rfl, rfl, rfl, trivial⟩⟩|fail)
    all_goals first
      | rfl
      | (exfalso; omega)
      | trace_state
  rw [if_neg h0]
  obtain ⟨v1, v2, v3⟩ := hv ix.toNat
  have cK := zrd (l.getD ix.toNat ([], v03)).2.1 (l.getD ix.toNat ([], v03)).2.2.1 v3 (l.getD ix.toNat ([], v03)).2.2.2.toNat (by omega)
  rw [Int.toNat_of_nonneg v1] at cK
  have hkv : keyF (l.getD ix.toNat ([], v03)).2.1 (l.getD ix.toNat ([], v03)).2.2.1 (validL (l.getD ix.toNat ([], v03)).2.2.1) (l.getD ix.toNat ([], v03)).2.2.2.toNat = keyV (l.getD ix.toNat ([], v03)).2 := rfl
  rw [hkv] at cK
  generalize keyV (l.getD ix.toNat ([], v03)).2 = kv at *
  obtain ⟨key, kb⟩ := kv
  have cR := zgL rows j key n hT hn
  have hrf := zhc rows j key
  cases kb with
  | false =>
    rw [if_neg (fun q => Bool.false_ne_true q.1)]
    unfold lo50 at cI hok5
    unfold tblO at cI hok5 ⊢
    clear hT hv cR hkv
    repeat' (first |refine zfD 50 rfl rfl rfl rfl rfl ?_|refine zen zaZ rfl rfl rfl ?_|refine zbp (f := 38) [(50, .var [.pv 70 0]), (70, .var (tblP rows j (.gs 101 1 (colsR rows j).length (colF (colsR rows j))))), (68, .mp (firstE (keysR rows (colK rows j)) (rows.length - 1))), (101, .row 3 1 (colsR rows j).length)] [50, 70, 68, 101] rfl (by decide) rfl rfl Tryz.call38 ⟨rfl, rfl, rfl, rfl, trivial⟩ rfl hok5 rfl cI ?_|refine zae (f := 40) rfl rfl Tryz.call40 rfl cK ?_|refine zae (f := 37) rfl rfl Tryz.call37 rfl cC ?_|with_reducible (first |refine zah ?_|refine zaa ?_|refine zag ?_|refine zad ?_|refine zan ?_|refine zai ?_|refine zaC ?_)|refine zab rfl rfl True.intro ?_|refine zal rfl ?_|((first |refine zac rfl ?_ ?_)<;>intro<;>try (first |(exfalso;omega)))|((first |refine zab rfl rfl ?_ ?_);focus (first |omega|exact le_ rfl|((repeat' refine And.intro ?_ ?_)<;>omega)))|with_reducible refine ⟨by kernel_rfl, ?_⟩|refine zcm rfl (.refl _) ⟨⟨rfl, rfl, rfl, trivial⟩⟩|fail)
    all_goals first
      | rfl
      | (exfalso; omega)
      | trace_state
  | true =>
    dsimp only
    generalize rowV rows j key = rv at *
    obtain ⟨ra, rb⟩ := rv
    dsimp only at cR hrf ⊢
    cases rb with
    | false =>
      rw [if_neg (fun q => Bool.false_ne_true q.2)]
      unfold lo50 at cI hok5
      unfold tblO at cI hok5 cR hok ⊢
      clear hT hv hkv
      repeat' (first |refine zfD 50 rfl rfl rfl rfl rfl ?_|refine zen zaZ rfl rfl rfl ?_|refine zbp (f := 38) [(50, .var [.pv 70 0]), (70, .var (tblP rows j (.gs 101 1 (colsR rows j).length (colF (colsR rows j))))), (68, .mp (firstE (keysR rows (colK rows j)) (rows.length - 1))), (101, .row 3 1 (colsR rows j).length)] [50, 70, 68, 101] rfl (by decide) rfl rfl Tryz.call38 ⟨rfl, rfl, rfl, rfl, trivial⟩ rfl hok5 rfl cI ?_|refine zae (f := 40) rfl rfl Tryz.call40 rfl cK ?_|refine zbp (f := 13) [(70, .var (tblP rows j (.gs 101 1 (colsR rows j).length (colF (colsR rows j))))), (68, .mp (firstE (keysR rows (colK rows j)) (rows.length - 1))), (101, .row 3 1 (colsR rows j).length)] [70, 68, 101] rfl (by decide) rfl rfl Tryz.call13 ⟨rfl, rfl, rfl, trivial⟩ rfl hok rfl cR ?_|refine zae (f := 37) rfl rfl Tryz.call37 rfl cC ?_|with_reducible (first |refine zah ?_|refine zaa ?_|refine zag ?_|refine zad ?_|refine zan ?_|refine zai ?_|refine zaC ?_)|refine zab rfl rfl True.intro ?_|refine zau rfl ?_|refine zal rfl ?_|((first |refine zac rfl ?_ ?_)<;>intro<;>try (first |(exfalso;omega)))|((first |refine zab rfl rfl ?_ ?_);focus (first |omega|exact le_ rfl|((repeat' refine And.intro ?_ ?_)<;>omega)))|with_reducible refine ⟨by kernel_rfl, ?_⟩|refine zcm rfl (.refl _) ⟨⟨rfl, rfl, rfl, trivial⟩⟩|fail)
      all_goals first
        | rfl
        | (exfalso; omega)
        | trace_state
    | true =>
      rw [if_pos ⟨rfl, rfl⟩]
      have cO := zht l ra hl (by omega)
      unfold lo50 at cI hok5
      unfold tblO at cI hok5 cR hok ⊢
      clear hT hv hkv
      repeat' (first |refine zfD 50 rfl rfl rfl rfl rfl ?_|refine zen zaZ rfl rfl rfl ?_|refine zbp (f := 38) [(50, .var [.pv 70 0]), (70, .var (tblP rows j (.gs 101 1 (colsR rows j).length (colF (colsR rows j))))), (68, .mp (firstE (keysR rows (colK rows j)) (rows.length - 1))), (101, .row 3 1 (colsR rows j).length)] [50, 70, 68, 101] rfl (by decide) rfl rfl Tryz.call38 ⟨rfl, rfl, rfl, rfl, trivial⟩ rfl hok5 rfl cI ?_|refine zae (f := 40) rfl rfl Tryz.call40 rfl cK ?_|refine zbp (f := 13) [(70, .var (tblP rows j (.gs 101 1 (colsR rows j).length (colF (colsR rows j))))), (68, .mp (firstE (keysR rows (colK rows j)) (rows.length - 1))), (101, .row 3 1 (colsR rows j).length)] [70, 68, 101] rfl (by decide) rfl rfl Tryz.call13 ⟨rfl, rfl, rfl, trivial⟩ rfl hok rfl cR ?_|refine zae (f := 16) rfl rfl Tryz.call16 rfl cO ?_|with_reducible (first |refine zah ?_|refine zaa ?_|refine zag ?_|refine zad ?_|refine zan ?_|refine zai ?_|refine zam ?_)|refine zab rfl rfl True.intro ?_|refine zau rfl ?_|refine zal rfl ?_|((first |refine zac rfl ?_ ?_)<;>intro<;>try (first |(exfalso;omega)))|((first |refine zab rfl rfl ?_ ?_);focus (first |omega|exact le_ rfl|((repeat' refine And.intro ?_ ?_)<;>omega)))|refine zcm rfl (.refl _) ⟨⟨rfl, rfl, rfl, trivial⟩⟩|fail)
      all_goals first
        | rfl
        | (exfalso; omega)
        | trace_state

section
variable {P : Program} {X : Ctx} {n : Nat} {o : Oper} {fr : Fr} {ow : Ow} {ty : TypeId} {x : Operand}
end
section
variable {X : Ctx} {n : Nat} {all rest : List Oper} {fr : Fr} {ow : Ow} {tr : List (List Nat × List Nat)} {K : Fr → Ow → List (List Nat × List Nat) → Prop}
variable {t : Nat} {ty ty' : TypeId} {ps : String} {af : Array Edge} {x : Operand}
end

section
variable {P : Program} {X : Ctx} {n : Nat} {fr : Fr} {ow : Ow}
end
theorem CtrO.weakArgs {P : Program} {f : FuncId} {args args' : List D} {ow ow' : Ow} {d : D} (h : CtrO P f args' ow d ow') (hn : args'.length = args.length) (hw : ∀ j, j < args.length → Weak (args.getD j .any) (args'.getD j .any)) : CtrO P f args ow d ow' :=
  fun X vs hids hH hI hsz hr => h X vs hids hH hI (hsz.trans hn.symm) fun j hj => (hr j (by omega)).weak (hw j (by omega))

def exJ : Tx := [105, 100, 44, 112, 111, 112, 10, 55, 44, 49, 50, 10]
def exRows : List (List Tx) := [[[105, 100], [112, 111, 112]], [[55], [49, 50]]]
def jnL : JnR := ⟨[105, 100], [105, 100], [], [], false, false⟩
def exIn : List AtR := [([105, 100], (4, [], 7))]
def exOut : List AtR := [([105, 100], (4, [], 7)), ([112, 111, 112], (4, [], 12))]
theorem zoq : Csv.parseG exJ = (exRows, 12, 0) := by
  unfold Csv.parseG exJ exRows
  simp [Csv.tabG, Csv.rowG, Csv.fieldF, Csv.plainF, Csv.overF, Csv.endF, at']
theorem zpr : tabJ exJ jnL = (exRows, 0) := by
  unfold tabJ
  rw [zoq]
  decide +kernel
theorem zpY : attrsJ exRows jnL exIn = (exOut, true) := by decide +kernel
theorem ex_ok : okAtt exIn := fun i => by
  match i with
  | 0 => exact ⟨by decide, by decide, by decide⟩
  | i + 1 => exact ⟨Int.le_refl 0, (by decide : (0 : Int) < 18446744073709551616), Nat.zero_le _⟩
theorem zeT (e : Int) : Ctr Tryz.prog 18 [.i .i64 e] (.i .i64 e) := by
  refine zax Tryz.func18 rfl Tryz.ntmps18 Tryz.results18 rfl rfl fun X hL hX => ?_
  repeat' (first |with_reducible (first |refine zah ?_|refine zaa ?_|refine zag ?_|refine zad ?_|refine zan ?_)|refine zab rfl rfl True.intro ?_|refine zaq rfl ?_|fail)
  all_goals rfl
theorem new3 {ow : Ow} (h1 : look 70 ow = none) (h2 : look 68 ow = none) (h3 : look 101 ow = none) : ∀ k ∈ [70, 68, 101], k ∉ ([] : List Nat) → look k ow = none := fun k h _ => by
  rcases List.mem_cons.1 h with rfl | h
  · exact h1
  rcases List.mem_cons.1 h with rfl | h
  · exact h2
  rw [List.mem_singleton.1 h]
  exact h3
theorem zoK : Weak (.ag [.s [105, 100], .s [105, 100], .nilS, .nilS, .b false, .b false]) (.ag (jnP jnL)) := .ag _ _ rfl fun k hk => match k, hk with
  | 0, _ => .refl _
  | 1, _ => .refl _
  | 2, _ => .nil 1 _
  | 3, _ => .nil 1 _
  | 4, _ => .refl _
  | 5, _ => .refl _
theorem zmb : Weak (.sl 4 1 (chunk 4 [.s [105, 100], .i .i64 4, .s [], .i .u64 7])) (.sl 4 1 (atrF exIn)) := .sl _ _ _ _ (fun i hi => match i, hi with
    | 0, _ => ⟨rfl, rfl⟩) fun i j hi hj => match i, j, hi, hj with
    | 0, _, _, _ => .refl _
set_option maxRecDepth 100000 in
set_option maxHeartbeats 8000000 in
theorem zfo : Ctr Tryz.prog 8 [] (.b true) := by
  have h0 : (tabJ exJ jnL).2 = 0 := by rw [zpr]
  obtain ⟨hT, _⟩ := zdq h0
  have cN := zeD exJ jnL (by decide) (by decide) (by decide) h0
  rw [zpr] at hT cN
  dsimp only at hT cN
  have cN : CtrO Tryz.prog 9 [.s exJ, .ag [.s [105, 100], .s [105, 100], .nilS, .nilS, .b false, .b false]] [] (.tu [.pv 70 0, .i .i64 0]) (tblO exRows jnL) := cN.weakArgs rfl fun k hk => match k, hk with
    | 0, _ => .refl _
    | 1, _ => zoK
  have cA := ziy exRows jnL exIn exJ.length hT (by decide) (by decide) ex_ok
  rw [zpY] at cA
  dsimp only at cA
  have cA : CtrO Tryz.prog 11 [.pv 70 0, .sl 4 1 (chunk 4 [.s [105, 100], .i .i64 4, .s [], .i .u64 7])] (tblO exRows jnL) (.tu [.sl 4 exOut.length (atrF exOut), .b true]) (tblO exRows jnL) := cA.weakArgs rfl fun k hk => match k, hk with
    | 0, _ => .refl _
    | 1, _ => zmb
  have cc := zeT 0
  have hok := zem exRows jnL
  refine zax Tryz.func8 rfl Tryz.ntmps8 Tryz.results8 rfl rfl fun X hL hX => ?_
  repeat' (first |refine ziT (f := 9) [] (tblO exRows jnL) [] [70, 68, 101] rfl rfl (by decide) (fun _ h => by cases h) (new3 rfl rfl rfl) rfl rfl Tryz.call9 trivial rfl rfl hok rfl cN ?_|refine zbp (f := 11) (tblO exRows jnL) [70, 68, 101] rfl (by decide) rfl rfl Tryz.call11 ⟨rfl, rfl, rfl, trivial⟩ rfl hok rfl cA ?_|refine zae (f := 18) rfl rfl Tryz.call18 rfl cc ?_|with_reducible (first |refine zah ?_|refine zaa ?_|refine zag ?_|refine zad ?_|refine zan ?_)|refine zab rfl rfl True.intro ?_|refine zap rfl rfl rfl ?_|refine zaj rfl rfl rfl rfl True.intro ?_|((first |refine zak rfl rfl ?_ ?_|refine zbh rfl rfl ?_ ?_)<;>intro)|((first |refine zaj rfl rfl rfl rfl ?_ ?_|refine zav rfl rfl ?_ ?_);focus (first |omega|exact le_ rfl|((repeat' refine And.intro ?_ ?_)<;>omega)|((repeat' refine And.intro ?_ ?_)<;>first |omega|rfl)))|refine zaq rfl ?_|fail)
  all_goals first
    | rfl
    | (exfalso; rename_i q; exact q rfl)
    | trace_state
end Go.Proofs.YtkkaamhocpmhkaaGreatDoor.Flow
