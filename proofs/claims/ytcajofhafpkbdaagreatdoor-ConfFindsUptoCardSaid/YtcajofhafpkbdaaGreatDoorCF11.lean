/- The texts U6, U7, U8, one behind the other. -/
import Derived.Test.YtcajofhafpkbdaaGreatDoorCF10
namespace Go.Proofs.YtcajofhafpkbdaaGreatDoor.Flow
open Go

theorem zcd (l l' : List UInt8) (e : l = l') (h : 8 ≤ l'.length) : Ctr Tryz.prog 126 [.s l] (.i .u64 (wordV l')) := by
  subst e
  exact znf l h

theorem zbG (l : List UInt8) (k : Nat) (n : Int) (hn : n = k) : ((l.take ((l.length : Int)).toNat).drop n.toNat) = l.drop k := by
  subst hn
  rw [Int.toNat_natCast, Int.toNat_natCast, List.take_length]

theorem sizes (c : Int) (h0 : 128 ≤ c) (h1 : c < 256) :
    (c < 194 ∨ 244 < c) ∧ firstZ c.toNat = 241 ∨ (194 ≤ c ∧ c ≤ 223) ∧ firstZ c.toNat = 2 ∨ c = 224 ∧ firstZ c.toNat = 19 ∨ (225 ≤ c ∧ c ≤ 236 ∨ 238 ≤ c ∧ c ≤ 239) ∧ firstZ c.toNat = 3 ∨ c = 237 ∧ firstZ c.toNat = 35 ∨
      c = 240 ∧ firstZ c.toNat = 52 ∨ (241 ≤ c ∧ c ≤ 243) ∧ firstZ c.toNat = 4 ∨ c = 244 ∧ firstZ c.toNat = 68 := by
  obtain ⟨n, rfl⟩ := Int.eq_ofNat_of_zero_le (show 0 ≤ c by omega)
  rw [Int.toNat_natCast]
  have h : n < 194 ∨ (194 ≤ n ∧ n < 224) ∨ n = 224 ∨ (225 ≤ n ∧ n < 237) ∨ n = 237 ∨ (238 ≤ n ∧ n < 240) ∨ n = 240 ∨ (241 ≤ n ∧ n < 244) ∨ n = 244 ∨ 245 ≤ n := by omega
  rcases h with h | h | h | h | h | h | h | h | h | h
  · have e : firstZ n = 241 := by unfold firstZ; rw [if_neg (by omega), if_pos (by omega)]
    omega
  · have e : firstZ n = 2 := by unfold firstZ; rw [if_neg (by omega), if_neg (by omega), if_pos (by omega)]
    omega
  · have e : firstZ n = 19 := by unfold firstZ; rw [if_neg (by omega), if_neg (by omega), if_neg (by omega), if_pos (by omega)]
    omega
  · have e : firstZ n = 3 := by unfold firstZ; rw [if_neg (by omega), if_neg (by omega), if_neg (by omega), if_neg (by omega), if_pos (by omega)]
    omega
  · have e : firstZ n = 35 := by unfold firstZ; rw [if_neg (by omega), if_neg (by omega), if_neg (by omega), if_neg (by omega), if_neg (by omega), if_pos (by omega)]
    omega
  · have e : firstZ n = 3 := by unfold firstZ; rw [if_neg (by omega), if_neg (by omega), if_neg (by omega), if_neg (by omega), if_neg (by omega), if_neg (by omega), if_pos (by omega)]
    omega
  · have e : firstZ n = 52 := by unfold firstZ; rw [if_neg (by omega), if_neg (by omega), if_neg (by omega), if_neg (by omega), if_neg (by omega), if_neg (by omega), if_neg (by omega), if_pos (by omega)]
    omega
  · have e : firstZ n = 4 := by unfold firstZ; rw [if_neg (by omega), if_neg (by omega), if_neg (by omega), if_neg (by omega), if_neg (by omega), if_neg (by omega), if_neg (by omega), if_neg (by omega), if_pos (by omega)]
    omega
  · have e : firstZ n = 68 := by unfold firstZ; rw [if_neg (by omega), if_neg (by omega), if_neg (by omega), if_neg (by omega), if_neg (by omega), if_neg (by omega), if_neg (by omega), if_neg (by omega), if_neg (by omega), if_pos (by omega)]
    omega
  · have e : firstZ n = 241 := by unfold firstZ; rw [if_neg (by omega), if_neg (by omega), if_neg (by omega), if_neg (by omega), if_neg (by omega), if_neg (by omega), if_neg (by omega), if_neg (by omega), if_neg (by omega), if_neg (by omega)]
    omega

theorem zfY {l : List UInt8} (h : ¬ at' l 0 < 128) : oneL l = if 1 < (l.length : Int) ∧ loF (at' l 0) ≤ at' l 1 ∧ at' l 1 ≤ hiF (at' l 0) then
      (if 194 ≤ at' l 0 ∧ at' l 0 ≤ 223 then 2 else if 224 ≤ at' l 0 ∧ at' l 0 ≤ 239 ∧ 2 < (l.length : Int) ∧ 128 ≤ at' l 2 ∧ at' l 2 ≤ 191 then 3
      else if 240 ≤ at' l 0 ∧ at' l 0 ≤ 244 ∧ 2 < (l.length : Int) ∧ 128 ≤ at' l 2 ∧ at' l 2 ≤ 191 ∧ 3 < (l.length : Int) ∧ 128 ≤ at' l 3 ∧ at' l 3 ≤ 191 then 4 else 0) else 0 := by
  have ht : ∀ (k lo hi : Int), tlB l k lo hi = true ↔ k < l.length ∧ lo ≤ at' l k ∧ at' l k ≤ hi := fun k lo hi => by
    unfold tlB
    simp [and_assoc]
  unfold oneL
  rw [if_neg h]
  by_cases h1 : tlB l 1 (loF (at' l 0)) (hiF (at' l 0)) = true
  · rw [if_neg (by rw [h1]; decide), if_pos ((ht _ _ _).1 h1)]
    simp only [ht, and_assoc]
  · rw [if_pos (by simpa using h1), if_neg (fun h2 => h1 ((ht _ _ _).2 h2))]

set_option maxRecDepth 20000 in
set_option maxHeartbeats 2000000 in
theorem zjM (l0 : List UInt8) (_hl0 : l0.length ≤ 1099511627776) : Ctr Tryz.prog 101 [.s l0] (.b (validL l0)) := by
  refine zbe Tryz.func101 rfl Tryz.ntmps101 Tryz.results101 rfl rfl fun X hL hX => ?_
  repeat' (first |with_reducible (first |refine zaK ?_|refine zaj ?_|refine zaL ?_|refine zaB ?_|refine zaO ?_|refine zaD ?_|refine zaC ?_|refine zar ?_|refine zaq ?_|refine zaI ?_|refine zaE ?_|refine zas ?_|refine zaH ?_)|refine zaw rfl rfl True.intro ?_|refine zau rfl rfl rfl ?_|refine zao rfl rfl rfl ?_|refine zag rfl rfl rfl rfl True.intro ?_|refine zaF rfl ?_|refine zat rfl ?_|((first |refine zal rfl ?_ ?_|refine zan rfl ?_ ?_|refine zak rfl ?_ ?_|refine zam rfl ?_ ?_|refine zap rfl ?_ ?_|refine zaA rfl ?_ ?_|refine zad rfl rfl ?_ ?_|refine zae rfl rfl ?_ ?_|refine zaf rfl rfl ?_ ?_|refine zac rfl rfl ?_ ?_|refine zab rfl rfl ?_ ?_)<;>intro<;>try (first |contradiction|(exfalso;omega)))|((first |refine zaw rfl rfl ?_ ?_|refine zag rfl rfl rfl rfl ?_ ?_|refine zaM rfl rfl ?_ ?_|refine zaJ rfl ?_ ?_|refine zaG rfl rfl rfl rfl ?_ ?_);focus (first |omega|exact le_ rfl|((repeat first |rw [zay]|rw [wi6_]|rw [wi3_]|rw [zai]|rw [zah]);(repeat' refine And.intro ?_ ?_)<;>omega)|((repeat' refine And.intro ?_ ?_)<;>first |omega|rfl|exact Nat.le_refl _|exact le_ rfl|exact zaa _)|(simp_all;done)|(simp_all;omega)))|refine zaP rfl ?_|refine zaz rfl ?_|with_reducible refine ⟨by kernel_rfl, ?_⟩|refine zaQ rfl ?_|((with_reducible refine zaN ?_);(fail_if_success (refine zax true rfl rfl rfl ?_));(fail_if_success (refine zax false rfl rfl rfl ?_));refine zav rfl rfl (fun _ => ?_) (fun _ => ?_)))
  refine T.loop hL (fun l : List UInt8 => [(0, .s l)]) (fun _ => []) (fun l => l.length ≤ l0.length ∧ validL l = validL l0) (fun l => l.length) l0
    ⟨Nat.le_refl _, rfl⟩ ⟨⟨rfl, trivial⟩, trivial, rfl, by rw [hX]; intro k hk; cases hk⟩ ?_
  rintro l ⟨g1, g2⟩
  have hr := zba l 0
  by_cases hlen : l.length = 0
  · have hv := zkt hlen
    repeat' (first |with_reducible (first |refine zaK ?_|refine zaj ?_|refine zaL ?_|refine zaB ?_|refine zaO ?_|refine zaD ?_|refine zaC ?_|refine zar ?_|refine zaq ?_|refine zaI ?_|refine zaE ?_|refine zas ?_|refine zaH ?_)|refine zaw rfl rfl True.intro ?_|refine zau rfl rfl rfl ?_|refine zao rfl rfl rfl ?_|refine zag rfl rfl rfl rfl True.intro ?_|refine zaF rfl ?_|refine zat rfl ?_|((first |refine zal rfl ?_ ?_|refine zan rfl ?_ ?_|refine zak rfl ?_ ?_|refine zam rfl ?_ ?_|refine zap rfl ?_ ?_|refine zaA rfl ?_ ?_|refine zad rfl rfl ?_ ?_|refine zae rfl rfl ?_ ?_|refine zaf rfl rfl ?_ ?_|refine zac rfl rfl ?_ ?_|refine zab rfl rfl ?_ ?_)<;>intro<;>try (first |(rename_i hz;first |exact tf_ hz|exact ft_ hz)|(exfalso;omega)))|((first |refine zaw rfl rfl ?_ ?_|refine zag rfl rfl rfl rfl ?_ ?_|refine zaM rfl rfl ?_ ?_|refine zaJ rfl ?_ ?_|refine zaG rfl rfl rfl rfl ?_ ?_);focus (first |omega|exact le_ rfl|((repeat first |rw [zay]|rw [wi6_]|rw [wi3_]|rw [zai]|rw [zah]);(repeat' refine And.intro ?_ ?_)<;>omega)|((repeat' refine And.intro ?_ ?_)<;>first |omega|rfl|exact Nat.le_refl _|exact le_ rfl|exact zaa _)|(simp_all;done)|(simp_all;omega)))|refine zaP rfl ?_|refine zaz rfl ?_|with_reducible refine ⟨by kernel_rfl, ?_⟩|refine zaQ rfl ?_|((with_reducible refine zaN ?_);(fail_if_success (refine zax true rfl rfl rfl ?_));(fail_if_success (refine zax false rfl rfl rfl ?_));refine zav rfl rfl (fun _ => ?_) (fun _ => ?_)))
    rw [← g2, hv]
  by_cases hasc : at' l 0 < 128
  · have hv1 : validL (l.drop 1) = validL l := zbZ 1 l (by omega) fun j hj => by rw [show j = 0 by omega]; exact hasc
    have hl1 : (l.drop 1).length = l.length - 1 := List.length_drop
    have e1 := zbG l 1 1 rfl
    generalize l.drop 1 = l1 at hv1 hl1 e1
    rw [g2] at hv1
    have hv9 : 8 ≤ l1.length → bits .and .u64 (wordV l1) 9259542123273814144 = 0 → validL (l1.drop 8) = validL l0 := fun h1 h2 => by rw [zbZ 8 l1 h1 (zcp l1 h2), hv1]
    have hl9 : (l1.drop 8).length = l1.length - 8 := List.length_drop
    have e9 := zbG l1 8 8 rfl
    generalize l1.drop 8 = l9 at hv9 hl9 e9
    have hv25 : validL l9 = validL l0 → 16 ≤ l9.length → bits .and .u64 (bits .or .u64 (wordV l9) (wordV (l9.drop 8))) 9259542123273814144 = 0 → validL (l9.drop 16) = validL l0 := fun h0 h1 h2 => by
      have w1 := zbA l9
      have w2 := zbA (l9.drop 8)
      obtain ⟨a1, a2⟩ := zjl _ _ w1.1 w1.2 w2.1 w2.2 h2
      rw [zbZ 16 l9 h1 (fun j hj => ?_), h0]
      by_cases h8 : j < 8
      · exact zcp l9 a1 j h8
      · have := zcp _ a2 (j - 8) (by omega)
        rw [zii, show 8 + (j - 8) = j by omega] at this
        exact this
    have hl25 : (l9.drop 16).length = l9.length - 16 := List.length_drop
    have f8 := zbG l9 8 8 rfl
    have hf8 : (l9.drop 8).length = l9.length - 8 := List.length_drop
    have e25 := zbG l9 16 16 rfl
    generalize l9.drop 16 = l25 at hv25 hl25 e25
    generalize l9.drop 8 = l17 at hv25 f8 hf8
    have leaf : ∀ (m : List UInt8) (fr : Fr) (ow : Ow), m.length < l.length → validL m = validL l0 → leFr fr [(0, .s m)] →
        ∃ y : List UInt8, (y.length ≤ l0.length ∧ validL y = validL l0) ∧ y.length < l.length ∧ Le X fr ow [(0, .s y)] [] := fun m fr ow h1 h2 h3 =>
      ⟨m, ⟨by omega, h2⟩, h1, h3, trivial, rfl, by rw [hX]; intro k hk; cases hk⟩
    repeat' (first |refine T.weakF 0 (.s l1) (.of_eq (congrArg D.s e1)) ?_|refine T.weakF 0 (.s l9) (.of_eq (congrArg D.s e9)) ?_|refine T.weakF 0 (.s l25) (.of_eq (congrArg D.s e25)) ?_|with_reducible (first |refine zaK ?_|refine zaj ?_|refine zaL ?_|refine zaB ?_|refine zaO ?_|refine zaD ?_|refine zaC ?_|refine zar ?_|refine zaq ?_|refine zaI ?_|refine zaE ?_|refine zas ?_|refine zaH ?_)|refine zaw rfl rfl True.intro ?_|refine zau rfl rfl rfl ?_|refine zao rfl rfl rfl ?_|refine zag rfl rfl rfl rfl True.intro ?_|refine zaF rfl ?_|refine zat rfl ?_|((first |refine zal rfl ?_ ?_|refine zan rfl ?_ ?_|refine zak rfl ?_ ?_|refine zam rfl ?_ ?_|refine zap rfl ?_ ?_|refine zaA rfl ?_ ?_|refine zad rfl rfl ?_ ?_|refine zae rfl rfl ?_ ?_|refine zaf rfl rfl ?_ ?_|refine zac rfl rfl ?_ ?_|refine zab rfl rfl ?_ ?_)<;>intro<;>try (first |(rename_i hz;first |exact tf_ hz|exact ft_ hz)|(exfalso;omega)))|((first |refine zaw rfl rfl ?_ ?_|refine zag rfl rfl rfl rfl ?_ ?_|refine zaM rfl rfl ?_ ?_|refine zaJ rfl ?_ ?_|refine zaG rfl rfl rfl rfl ?_ ?_);focus (first |omega|exact le_ rfl|((repeat first |rw [zay]|rw [wi6_]|rw [wi3_]|rw [zai]|rw [zah]);(repeat' refine And.intro ?_ ?_)<;>omega)|((repeat' refine And.intro ?_ ?_)<;>first |omega|rfl|exact Nat.le_refl _|exact le_ rfl|exact zaa _)|(simp_all;done)|(simp_all;omega)))|refine zaP rfl ?_|refine zaz rfl ?_|with_reducible refine ⟨by kernel_rfl, ?_⟩|refine zaQ rfl ?_|refine zaY (f := 126) rfl rfl rfl rfl Tryz.call126 rfl (zcd _ l1 rfl (by omega)) ?_|refine zaY (f := 126) rfl rfl rfl rfl Tryz.call126 rfl (zcd _ l9 rfl (by omega)) ?_|refine zaY (f := 126) rfl rfl rfl rfl Tryz.call126 rfl (zcd _ l17 f8 (by omega)) ?_|((with_reducible refine zaN ?_);(fail_if_success (refine zax true rfl rfl rfl ?_));(fail_if_success (refine zax false rfl rfl rfl ?_));refine zav rfl rfl (fun _ => ?_) (fun _ => ?_)))
    · have hv9 := hv9 (by omega) ‹_›
      have hv25 := hv25 hv9 (by omega) ‹_›
      refine T.loop hL (fun m : List UInt8 => [(0, .s m)]) (fun _ => []) (fun m => m.length < l.length ∧ validL m = validL l0) (fun m => m.length) l25
        ⟨by omega, hv25⟩ ⟨⟨rfl, trivial⟩, trivial, rfl, by rw [hX]; intro k hk; cases hk⟩ ?_
      clear hv9 hv25 hl25 e25 hf8 f8 hl9 e9 hv1 hl1 e1
      rintro m ⟨q1, q2⟩
      have f8 := zbG m 8 8 rfl
      have f16 := zbG m 16 16 rfl
      have f24 := zbG m 24 24 rfl
      have f32 := zbG m 32 32 rfl
      have h8 : (m.drop 8).length = m.length - 8 := List.length_drop
      have h16 : (m.drop 16).length = m.length - 16 := List.length_drop
      have h24 : (m.drop 24).length = m.length - 24 := List.length_drop
      have h32 : (m.drop 32).length = m.length - 32 := List.length_drop
      have hv32 : 32 ≤ m.length → bits .and .u64 (bits .or .u64 (bits .or .u64 (wordV m) (wordV (m.drop 8))) (bits .or .u64 (wordV (m.drop 16)) (wordV (m.drop 24)))) 9259542123273814144 = 0 → validL (m.drop 32) = validL l0 := fun h1 h2 => by
        have w0 := zbA m
        have w1 := zbA (m.drop 8)
        have w2 := zbA (m.drop 16)
        have w3 := zbA (m.drop 24)
        have o1 := zjq _ _ w0.1 w0.2 w1.1 w1.2
        have o2 := zjq _ _ w2.1 w2.2 w3.1 w3.2
        obtain ⟨a1, a2⟩ := zjl _ _ o1.1 o1.2 o2.1 o2.2 h2
        obtain ⟨b0, b1⟩ := zjl _ _ w0.1 w0.2 w1.1 w1.2 a1
        obtain ⟨b2, b3⟩ := zjl _ _ w2.1 w2.2 w3.1 w3.2 a2
        rw [zbZ 32 m h1 (fun j hj => ?_), q2]
        have part : ∀ k : Nat, bits .and .u64 (wordV (m.drop k)) 9259542123273814144 = 0 → k ≤ j → j < k + 8 → at' m j < 128 := fun k hk g1 g2 => by
          have := zcp _ hk (j - k) (by omega)
          rw [zii, show k + (j - k) = j by omega] at this
          exact this
        by_cases c1 : j < 8
        · exact zcp m b0 j c1
        · by_cases c2 : j < 16
          · exact part 8 b1 (by omega) (by omega)
          · by_cases c3 : j < 24
            · exact part 16 b2 (by omega) (by omega)
            · exact part 24 b3 (by omega) (by omega)
      generalize m.drop 8 = m8 at *
      generalize m.drop 16 = m16 at *
      generalize m.drop 24 = m24 at *
      generalize m.drop 32 = m32 at *
      repeat' (first |refine T.weakF 0 (.s m32) (.of_eq (congrArg D.s f32)) ?_|with_reducible (first |refine zaK ?_|refine zaj ?_|refine zaL ?_|refine zaB ?_|refine zaO ?_|refine zaD ?_|refine zaC ?_|refine zar ?_|refine zaq ?_|refine zaI ?_|refine zaE ?_|refine zas ?_|refine zaH ?_)|refine zaw rfl rfl True.intro ?_|refine zau rfl rfl rfl ?_|refine zao rfl rfl rfl ?_|refine zag rfl rfl rfl rfl True.intro ?_|refine zaF rfl ?_|refine zat rfl ?_|((first |refine zal rfl ?_ ?_|refine zan rfl ?_ ?_|refine zak rfl ?_ ?_|refine zam rfl ?_ ?_|refine zap rfl ?_ ?_|refine zaA rfl ?_ ?_|refine zad rfl rfl ?_ ?_|refine zae rfl rfl ?_ ?_|refine zaf rfl rfl ?_ ?_|refine zac rfl rfl ?_ ?_|refine zab rfl rfl ?_ ?_)<;>intro<;>try (first |(rename_i hz;first |exact tf_ hz|exact ft_ hz)|(exfalso;omega)))|((first |refine zaw rfl rfl ?_ ?_|refine zag rfl rfl rfl rfl ?_ ?_|refine zaM rfl rfl ?_ ?_|refine zaJ rfl ?_ ?_|refine zaG rfl rfl rfl rfl ?_ ?_);focus (first |omega|exact le_ rfl|((repeat first |rw [zay]|rw [wi6_]|rw [wi3_]|rw [zai]|rw [zah]);(repeat' refine And.intro ?_ ?_)<;>omega)|((repeat' refine And.intro ?_ ?_)<;>first |omega|rfl|exact Nat.le_refl _|exact le_ rfl|exact zaa _)|(simp_all;done)|(simp_all;omega)))|refine zaP rfl ?_|refine zaz rfl ?_|with_reducible refine ⟨by kernel_rfl, ?_⟩|refine zaQ rfl ?_|refine zaY (f := 126) rfl rfl rfl rfl Tryz.call126 rfl (zcd _ m rfl (by omega)) ?_|refine zaY (f := 126) rfl rfl rfl rfl Tryz.call126 rfl (zcd _ m8 f8 (by omega)) ?_|refine zaY (f := 126) rfl rfl rfl rfl Tryz.call126 rfl (zcd _ m16 f16 (by omega)) ?_|refine zaY (f := 126) rfl rfl rfl rfl Tryz.call126 rfl (zcd _ m24 f24 (by omega)) ?_|((with_reducible refine zaN ?_);(fail_if_success (refine zax true rfl rfl rfl ?_));(fail_if_success (refine zax false rfl rfl rfl ?_));refine zav rfl rfl (fun _ => ?_) (fun _ => ?_)))
      · exact ⟨m32, ⟨by omega, hv32 (by omega) ‹_›⟩, by omega, ⟨congrArg D.s f32, trivial⟩, trivial, rfl, by rw [hX]; intro k hk; cases hk⟩
      · exact leaf m _ _ q1 q2 ⟨rfl, trivial⟩
      · exact leaf m _ _ q1 q2 ⟨rfl, trivial⟩
    · exact leaf l9 _ _ (by omega) (hv9 (by omega) ‹_›) ⟨rfl, trivial⟩
    · exact leaf l9 _ _ (by omega) (hv9 (by omega) ‹_›) ⟨rfl, trivial⟩
    · exact leaf l1 _ _ (by omega) hv1 ⟨rfl, trivial⟩
    · exact leaf l1 _ _ (by omega) hv1 ⟨rfl, trivial⟩
  · have hsz := sizes (at' l 0) (by omega) hr.2
    have hF0 : 0 + (at' l 0).toNat * 1 = (at' l 0).toNat := by omega
    rw [← hF0] at hsz
    have hS : IntKind.i64.wrap (bits .and .u8 (firstZ (0 + (at' l 0).toNat * 1)) 7) = firstZ (0 + (at' l 0).toNat * 1) % 8 := by
      have := bits_mask .u8 8 (by decide) wraps_u8 3 (by decide) (firstZ (0 + (at' l 0).toNat * 1)) (by omega) (by omega)
      rw [show (7 : Int) = 2 ^ 3 - 1 by decide, this, wi6_]
      omega
    have e4 : (2 : Int) ^ Int.toNat 4 = 16 := by decide
    have hA : firstZ (0 + (at' l 0).toNat * 1) / 2 ^ Int.toNat 4 = firstZ (0 + (at' l 0).toNat * 1) / 16 := by rw [e4]
    have hlh : (at' l 0 < 194 ∨ 244 < at' l 0) ∨ (accZ (0 + (firstZ (0 + (at' l 0).toNat * 1) / 2 ^ Int.toNat 4).toNat * 2) = loF (at' l 0) ∧ accZ (0 + (firstZ (0 + (at' l 0).toNat * 1) / 2 ^ Int.toNat 4).toNat * 2 + 1) = hiF (at' l 0)) := by
      rcases hsz with ⟨h, _⟩ | ⟨h, hF⟩ | ⟨h, hF⟩ | ⟨h, hF⟩ | ⟨h, hF⟩ | ⟨h, hF⟩ | ⟨h, hF⟩ | ⟨h, hF⟩
      · exact .inl h
      all_goals
        right
        rw [hF]
        unfold loF hiF
        refine ⟨?_, ?_⟩ <;> (repeat' split) <;> first | rfl | (exfalso; omega)
    have f2 := zbG l 2 2 rfl
    have f3 := zbG l 3 3 rfl
    have f4 := zbG l 4 4 rfl
    have good : ∀ k : Nat, oneL l = k → 2 ≤ k → k ≤ l.length → ∀ (fr : Fr) (ow : Ow), leFr fr [(0, .s (l.drop k))] →
        ∃ y : List UInt8, (y.length ≤ l0.length ∧ validL y = validL l0) ∧ y.length < l.length ∧ Le X fr ow [(0, .s y)] [] := fun k h1 h2 h3 fr ow h4 => by
      have hlen2 : (l.drop k).length = l.length - k := List.length_drop
      refine ⟨l.drop k, ⟨by omega, ?_⟩, by omega, h4, trivial, rfl, by rw [hX]; intro k hk; cases hk⟩
      rw [← g2, zfd hlen (by omega), h1]
    repeat' (first |with_reducible (first |refine zaK ?_|refine zaj ?_|refine zaL ?_|refine zaB ?_|refine zaO ?_|refine zaD ?_|refine zaC ?_|refine zar ?_|refine zaq ?_|refine zaI ?_|refine zaE ?_|refine zas ?_|refine zaH ?_)|refine zaw rfl rfl True.intro ?_|refine zau rfl rfl rfl ?_|refine zao rfl rfl rfl ?_|refine zag rfl rfl rfl rfl True.intro ?_|refine zaF rfl ?_|refine zat rfl ?_|((first |refine zal rfl ?_ ?_|refine zan rfl ?_ ?_|refine zak rfl ?_ ?_|refine zam rfl ?_ ?_|refine zap rfl ?_ ?_|refine zaA rfl ?_ ?_|refine zad rfl rfl ?_ ?_|refine zae rfl rfl ?_ ?_|refine zaf rfl rfl ?_ ?_|refine zac rfl rfl ?_ ?_|refine zab rfl rfl ?_ ?_)<;>intro<;>try (first |(rename_i hz;first |exact tf_ hz|exact ft_ hz)|(exfalso;omega)))|((first |refine zaw rfl rfl ?_ ?_|refine zag rfl rfl rfl rfl ?_ ?_|refine zaM rfl rfl ?_ ?_|refine zaJ rfl ?_ ?_|refine zaG rfl rfl rfl rfl ?_ ?_);focus (first |(rw [hA];omega)|omega|exact le_ rfl|((repeat first |rw [zay]|rw [wi6_]|rw [wi3_]|rw [zai]|rw [zah]);(repeat' refine And.intro ?_ ?_)<;>omega)|((repeat' refine And.intro ?_ ?_)<;>first |omega|rfl|exact Nat.le_refl _|exact le_ rfl|exact zaa _)|(simp_all;done)|(simp_all;omega)))|refine zaP rfl ?_|refine zaz rfl ?_|with_reducible refine ⟨by kernel_rfl, ?_⟩|refine zaQ rfl ?_|((with_reducible refine zaN ?_);(fail_if_success (refine zax true rfl rfl rfl ?_));(fail_if_success (refine zax false rfl rfl rfl ?_));refine zav rfl rfl (fun _ => ?_) (fun _ => ?_)))
    all_goals
      first
        | (rw [← g2, zkg hlen (by rw [zfY hasc]; (repeat' split) <;> omega)]; done)
        | exact good 2 (by rw [zfY hasc]; (repeat' split) <;> omega) (by omega) (by omega) _ _ ⟨congrArg D.s f2, trivial⟩
        | exact good 3 (by rw [zfY hasc]; (repeat' split) <;> omega) (by omega) (by omega) _ _ ⟨congrArg D.s f3, trivial⟩
        | exact good 4 (by rw [zfY hasc]; (repeat' split) <;> omega) (by omega) (by omega) _ _ ⟨congrArg D.s f4, trivial⟩

theorem zcG (s : List UInt8) (hs : s.length ≤ 1099511627776) : Ctr Tryz.prog 69 [.s s] (.b (validL s)) := by
  have c := zjM s hs
  refine zbe Tryz.func69 rfl Tryz.ntmps69 Tryz.results69 rfl rfl fun X hL hX => ?_
  repeat' (first |with_reducible (first |refine zaK ?_|refine zaj ?_|refine zaL ?_|refine zaB ?_|refine zaO ?_|refine zaD ?_|refine zaC ?_|refine zar ?_|refine zaq ?_|refine zaI ?_|refine zaE ?_|refine zas ?_|refine zaH ?_)|refine zaw rfl rfl True.intro ?_|refine zau rfl rfl rfl ?_|refine zao rfl rfl rfl ?_|refine zag rfl rfl rfl rfl True.intro ?_|refine zaF rfl ?_|refine zat rfl ?_|((first |refine zal rfl ?_ ?_|refine zan rfl ?_ ?_|refine zak rfl ?_ ?_|refine zam rfl ?_ ?_|refine zap rfl ?_ ?_|refine zaA rfl ?_ ?_|refine zad rfl rfl ?_ ?_|refine zae rfl rfl ?_ ?_|refine zaf rfl rfl ?_ ?_|refine zac rfl rfl ?_ ?_|refine zab rfl rfl ?_ ?_)<;>intro<;>try (first |(rename_i hz;first |exact tf_ hz|exact ft_ hz)|(exfalso;omega)))|((first |refine zaw rfl rfl ?_ ?_|refine zag rfl rfl rfl rfl ?_ ?_|refine zaM rfl rfl ?_ ?_|refine zaJ rfl ?_ ?_|refine zaG rfl rfl rfl rfl ?_ ?_);focus (first |omega|exact le_ rfl|((repeat first |rw [zay]|rw [wi6_]|rw [wi3_]|rw [zai]|rw [zah]);(repeat' refine And.intro ?_ ?_)<;>omega)|((repeat' refine And.intro ?_ ?_)<;>first |omega|rfl|exact Nat.le_refl _|exact le_ rfl|exact zaa _)|(simp_all;done)|(simp_all;omega)))|refine zaP rfl ?_|refine zaz rfl ?_|with_reducible refine ⟨by kernel_rfl, ?_⟩|refine zaQ rfl ?_|refine zaR (f := 101) rfl rfl Tryz.call101 rfl c ?_|((with_reducible refine zaN ?_);(fail_if_success (refine zax true rfl rfl rfl ?_));(fail_if_success (refine zax false rfl rfl rfl ?_));refine zav rfl rfl (fun _ => ?_) (fun _ => ?_)))
  rfl

theorem zof (c i : Int) (h0 : 0 ≤ i) (h1 : i < 16) (h : c = (if i < 10 then 48 + i else 87 + i) ∨ c = (if i < 10 then 48 + i else 55 + i)) : hexF c = i := by
  unfold hexF
  split at h <;> (repeat' split) <;> omega
theorem hexF_hi (c : Int) (h : ∀ i : Nat, i < 16 → ¬ c = (if (i : Int) < 10 then 48 + (i : Int) else 87 + i) ∧ ¬ c = (if (i : Int) < 10 then 48 + (i : Int) else 55 + i)) : hexF c = -1 := by
  unfold hexF
  split
  · have := h (c - 48).toNat (by omega)
    rw [if_pos (by omega)] at this
    omega
  · split
    · have := (h (c - 87).toNat (by omega)).1
      rw [if_neg (by omega)] at this
      omega
    · split
      · have := (h (c - 55).toNat (by omega)).2
        rw [if_neg (by omega)] at this
        omega
      · rfl

theorem hexS : ∀ i : Nat, i < 16 → at' ({ data := #[48, 49, 50, 51, 52, 53, 54, 55, 56, 57, 97, 98, 99, 100, 101, 102] } : ByteArray).data.toList i = (if (i : Int) < 10 then 48 + (i : Int) else 87 + i) := by decide
theorem hexL : ∀ i : Nat, i < 16 → at' ({ data := #[48, 49, 50, 51, 52, 53, 54, 55, 56, 57, 65, 66, 67, 68, 69, 70] } : ByteArray).data.toList i = (if (i : Int) < 10 then 48 + (i : Int) else 55 + i) := by decide

def escV (c : Int) : Int := if c = 98 then 8 else if c = 102 then 12 else if c = 110 then 10 else if c = 114 then 13 else if c = 116 then 9 else c
def escE (c : Int) : Int := if c = 98 ∨ c = 102 ∨ c = 110 ∨ c = 114 ∨ c = 116 ∨ c = 34 ∨ c = 92 ∨ c = 47 then 0 else 3
def escP (s : List UInt8) (i : Int) (o : List UInt8) : Int × List UInt8 × Int :=
  if i < s.length then (if at' s i = 117 then codeP s (i + 1) o else (i + 1, o ++ [by8 (escV (at' s i))], escE (at' s i))) else (i, o ++ [0], 2)

theorem zgH {s : List UInt8} {i : Int} {o : List UInt8} {e e' c c' : Int} {ow : Ow} {g : Nat → List D} (hc : c = c') (h0 : 0 ≤ c') (h1 : c' < 256) (he : e = e') (hg : g 0 = [.i .u8 c])
    (h20 : look 20 ow = some (.var [.s s, .i .i64 i, .gs 200 1 (o.length + 1) (catF o.length (bytesF o) 1 g), .i .i64 e])) (h200 : look 200 ow = some (.row 5 1 (o.length + 1))) : leOw ow (rdl s i (o ++ [by8 c']) e') := by
  subst hc
  subst he
  refine ⟨?_, ?_, trivial⟩
  · rw [h20, zoF 200 o (by8 c) g (by rw [hg, zcC c h0 h1])]
    rfl
  · rw [h200]
    simp

theorem zow (s : List UInt8) (i : Int) (o : List UInt8) (hs : s.length ≤ 1099511627776) (h0 : 0 ≤ i) (h1 : i ≤ s.length) (ho : o.length ≤ 1099511627776) :
    CtrO Tryz.prog 132 [.pv 20 0] (rdl s i o 0) (.tu []) (rdl s (escP s i o).1 (escP s i o).2.1 (escP s i o).2.2) := by
  have hn := zda s i o 0 hs h0 h1
  unfold escP
  by_cases hi : i < s.length
  · rw [zdf rfl hi] at hn
    dsimp only at hn
    rw [if_pos hi]
    have hr := zba s i
    have hcode := zmH s (i + 1) o hs (by omega) (by omega) ho
    have hf := zck s (i + 1) o 0 3
    by_cases hc : at' s i = 117
    · rw [if_pos hc]
      generalize codeP s (i + 1) o = R at *
      rw [hc] at hn
      refine zbi Tryz.func132 rfl Tryz.ntmps132 Tryz.results132 rfl rfl rfl rfl rfl fun X hL hX => ?_
      repeat' (first |with_reducible (first |refine zaK ?_|refine zaj ?_|refine zaL ?_|refine zaB ?_|refine zaO ?_|refine zaD ?_|refine zaC ?_|refine zar ?_|refine zaq ?_|refine zaI ?_|refine zaE ?_|refine zas ?_|refine zaH ?_)|refine zaw rfl rfl True.intro ?_|refine zau rfl rfl rfl ?_|refine zao rfl rfl rfl ?_|refine zag rfl rfl rfl rfl True.intro ?_|refine zaF rfl ?_|refine zat rfl ?_|((first |refine zal rfl ?_ ?_|refine zan rfl ?_ ?_|refine zak rfl ?_ ?_|refine zam rfl ?_ ?_|refine zap rfl ?_ ?_|refine zaA rfl ?_ ?_|refine zad rfl rfl ?_ ?_|refine zae rfl rfl ?_ ?_|refine zaf rfl rfl ?_ ?_|refine zac rfl rfl ?_ ?_|refine zab rfl rfl ?_ ?_)<;>intro<;>try (first |(rename_i hz;first |exact tf_ hz|exact ft_ hz)|(exfalso;omega)))|((first |refine zaw rfl rfl ?_ ?_|refine zag rfl rfl rfl rfl ?_ ?_|refine zaM rfl rfl ?_ ?_|refine zaJ rfl ?_ ?_|refine zaG rfl rfl rfl rfl ?_ ?_);focus (first |omega|exact le_ rfl|((repeat first |rw [zay]|rw [wi6_]|rw [wi3_]|rw [zai]|rw [zah]);(repeat' refine And.intro ?_ ?_)<;>omega)|((repeat' refine And.intro ?_ ?_)<;>first |omega|rfl|exact Nat.le_refl _|exact le_ rfl|exact zaa _)|(simp_all;done)|(simp_all;omega)))|refine zaP rfl ?_|refine zaz rfl ?_|with_reducible refine ⟨by kernel_rfl, ?_⟩|refine zbf rfl rfl ?_|refine zbg rfl rfl ?_|refine zaV (f := 131) 20 200 rfl rfl Tryz.call131 rfl rfl rfl rfl rfl rfl rfl rfl rfl hn ?_|refine zaV (f := 154) 20 200 rfl rfl Tryz.call154 rfl rfl rfl rfl rfl rfl rfl rfl rfl hcode ?_|((with_reducible refine zaN ?_);(fail_if_success (refine zax true rfl rfl rfl ?_));(fail_if_success (refine zax false rfl rfl rfl ?_));refine zav rfl rfl (fun _ => ?_) (fun _ => ?_)))
      exact ⟨⟨rfl, rfl, trivial⟩⟩
    · rw [if_neg hc]
      clear hcode
      refine zbi Tryz.func132 rfl Tryz.ntmps132 Tryz.results132 rfl rfl rfl rfl rfl fun X hL hX => ?_
      repeat' (first |with_reducible (first |refine zaK ?_|refine zaj ?_|refine zaL ?_|refine zaB ?_|refine zaO ?_|refine zaD ?_|refine zaC ?_|refine zar ?_|refine zaq ?_|refine zaI ?_|refine zaE ?_|refine zas ?_|refine zaH ?_)|refine zaw rfl rfl True.intro ?_|refine zau rfl rfl rfl ?_|refine zao rfl rfl rfl ?_|refine zag rfl rfl rfl rfl True.intro ?_|refine zaF rfl ?_|refine zat rfl ?_|((first |refine zal rfl ?_ ?_|refine zan rfl ?_ ?_|refine zak rfl ?_ ?_|refine zam rfl ?_ ?_|refine zap rfl ?_ ?_|refine zaA rfl ?_ ?_|refine zad rfl rfl ?_ ?_|refine zae rfl rfl ?_ ?_|refine zaf rfl rfl ?_ ?_|refine zac rfl rfl ?_ ?_|refine zab rfl rfl ?_ ?_)<;>intro<;>try (first |(rename_i hz;first |exact tf_ hz|exact ft_ hz)|(exfalso;omega)))|((first |refine zaw rfl rfl ?_ ?_|refine zag rfl rfl rfl rfl ?_ ?_|refine zaM rfl rfl ?_ ?_|refine zaJ rfl ?_ ?_|refine zaG rfl rfl rfl rfl ?_ ?_);focus (first |omega|exact le_ rfl|((repeat first |rw [zay]|rw [wi6_]|rw [wi3_]|rw [zai]|rw [zah]);(repeat' refine And.intro ?_ ?_)<;>omega)|((repeat' refine And.intro ?_ ?_)<;>first |omega|rfl|exact Nat.le_refl _|exact le_ rfl|exact zaa _)|(simp_all;done)|(simp_all;omega)))|refine zaP rfl ?_|refine zaz rfl ?_|with_reducible refine ⟨by kernel_rfl, ?_⟩|refine zbf rfl rfl ?_|refine zbg rfl rfl ?_|refine zaV (f := 131) 20 200 rfl rfl Tryz.call131 rfl rfl rfl rfl rfl rfl rfl rfl rfl hn ?_|refine zaV (f := 133) 20 200 rfl rfl Tryz.call133 rfl rfl rfl rfl rfl rfl rfl rfl rfl hf ?_|((with_reducible refine zaN ?_);(fail_if_success (refine zax true rfl rfl rfl ?_));(fail_if_success (refine zax false rfl rfl rfl ?_));refine zav rfl rfl (fun _ => ?_) (fun _ => ?_)))
      all_goals
        unfold escV escE
        refine ⟨zgH (by (repeat' split) <;> omega) (by (repeat' split) <;> omega) (by (repeat' split) <;> omega) (by simp only [failF, if_true]; (repeat' split) <;> first | rfl | (exfalso; omega)) rfl rfl rfl⟩
  · rw [zcf rfl hi] at hn
    dsimp only at hn
    rw [if_neg hi]
    have hf := zck s i o 2 3
    refine zbi Tryz.func132 rfl Tryz.ntmps132 Tryz.results132 rfl rfl rfl rfl rfl fun X hL hX => ?_
    repeat' (first |with_reducible (first |refine zaK ?_|refine zaj ?_|refine zaL ?_|refine zaB ?_|refine zaO ?_|refine zaD ?_|refine zaC ?_|refine zar ?_|refine zaq ?_|refine zaI ?_|refine zaE ?_|refine zas ?_|refine zaH ?_)|refine zaw rfl rfl True.intro ?_|refine zau rfl rfl rfl ?_|refine zao rfl rfl rfl ?_|refine zag rfl rfl rfl rfl True.intro ?_|refine zaF rfl ?_|refine zat rfl ?_|((first |refine zal rfl ?_ ?_|refine zan rfl ?_ ?_|refine zak rfl ?_ ?_|refine zam rfl ?_ ?_|refine zap rfl ?_ ?_|refine zaA rfl ?_ ?_|refine zad rfl rfl ?_ ?_|refine zae rfl rfl ?_ ?_|refine zaf rfl rfl ?_ ?_|refine zac rfl rfl ?_ ?_|refine zab rfl rfl ?_ ?_)<;>intro<;>try (first |(rename_i hz;first |exact tf_ hz|exact ft_ hz)|(exfalso;omega)))|((first |refine zaw rfl rfl ?_ ?_|refine zag rfl rfl rfl rfl ?_ ?_|refine zaM rfl rfl ?_ ?_|refine zaJ rfl ?_ ?_|refine zaG rfl rfl rfl rfl ?_ ?_);focus (first |omega|exact le_ rfl|((repeat first |rw [zay]|rw [wi6_]|rw [wi3_]|rw [zai]|rw [zah]);(repeat' refine And.intro ?_ ?_)<;>omega)|((repeat' refine And.intro ?_ ?_)<;>first |omega|rfl|exact Nat.le_refl _|exact le_ rfl|exact zaa _)|(simp_all;done)|(simp_all;omega)))|refine zaP rfl ?_|refine zaz rfl ?_|with_reducible refine ⟨by kernel_rfl, ?_⟩|refine zbf rfl rfl ?_|refine zbg rfl rfl ?_|refine zaV (f := 131) 20 200 rfl rfl Tryz.call131 rfl rfl rfl rfl rfl rfl rfl rfl rfl hn ?_|refine zaV (f := 133) 20 200 rfl rfl Tryz.call133 rfl rfl rfl rfl rfl rfl rfl rfl rfl hf ?_|((with_reducible refine zaN ?_);(fail_if_success (refine zax true rfl rfl rfl ?_));(fail_if_success (refine zax false rfl rfl rfl ?_));refine zav rfl rfl (fun _ => ?_) (fun _ => ?_)))
    exact ⟨zgH (c' := 0) rfl (by omega) (by omega) rfl rfl rfl rfl⟩

end Go.Proofs.YtcajofhafpkbdaaGreatDoor.Flow
