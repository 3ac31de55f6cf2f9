/- The texts D7, D16, D11, D17a, V8, F1, F2, F3, F4, F5, F6, F7, F8, F9, T1, D4, D5, D8, D9, T3, T5, D15, U1, U2, U3, U4, U5, T6, K27, K1, one behind the other. -/
import Derived.Test.YtkkaamhocpmhkaaGreatDoorSA1
import Derived.Test.YtkkaamhocpmhkaaGreatDoorSA9
import Derived.Test.YtkkaamhocpmhkaaGreatDoorSA13
import Derived.Test.YtkkaamhocpmhkaaGreatDoorSA14
import Derived.Lib.Bytealg
import Derived.Lib.IndexAny
import Derived.Laws.BitsLemmas
namespace Go.Proofs.YtkkaamhocpmhkaaGreatDoor.Flow
open Go
set_option maxHeartbeats 1000000 in
theorem ziS (neg : Bool) (s : List UInt8) (e : Int) (hs : s.length ≤ 1099511627776) (h1 : -4611686018427387904 ≤ e) (h2 : e ≤ 4611686018427387904) :
    Ctr Tryz.prog 134 [.b neg, .s s, .i .i64 e] (.tu [dcV (normF neg s e).1, .i .i64 (normF neg s e).2]) := by
  generalize hR : normF neg s e = R
  unfold normF at hR
  replace hR := fun _ : Unit => hR.symm
  refine zaE Tryz.func134 rfl Tryz.ntmps134 Tryz.results134 rfl rfl fun X hL hX => ?_
  repeat' (first |with_reducible (first |refine zag ?_|refine zaa ?_|refine zaf ?_|refine zac ?_|refine zae ?_)|refine zab rfl rfl True.intro ?_|((first |refine zaw rfl rfl ?_ ?_);focus (first |((repeat' refine And.intro ?_ ?_)<;>omega)|((repeat' refine And.intro ?_ ?_)<;>first |rfl)))|fail)
  refine T.loop hL (fun y : List UInt8 => [(0, .b neg), (1, .s y), (2, .i .i64 (e + (s.length - y.length))), (6, .pv 6 0)]) (fun _ => [(6, .var [.b false, .s [], .i .i64 0])]) (fun y => tR y = tR s ∧ y.length ≤ s.length) (fun y => y.length) s ⟨rfl, Nat.le_refl _⟩
    ⟨⟨rfl, rfl, by show D.i .i64 e = _; rw [Int.sub_self, Int.add_zero], rfl, trivial⟩, ⟨rfl, trivial⟩, rfl, by rw [hX]; intro k hk; cases hk⟩ ?_
  rintro y ⟨g1, g2⟩
  by_cases hy : y.length = 0 ∨ ¬ at' y (y.length - 1) = 48
  · have hst : y = tR s := by rw [← g1, zmw y hy]
    have hst := fun _ : Unit => hst
    clear g1
    have hm := fun _ : Unit => hst ()
    have hle : y.length ≤ s.length := g2
    have key : Unit → (tR s).length = y.length := fun _ => by rw [← hst ()]
    repeat' (first |with_reducible (first |refine zag ?_|refine zaa ?_|refine zaf ?_|refine zac ?_|refine zan ?_|refine zae ?_|refine zao ?_)|refine zab rfl rfl True.intro ?_|refine zay rfl rfl rfl ?_|refine zam rfl rfl rfl rfl True.intro ?_|refine zak rfl ?_|((first |refine zad rfl ?_ ?_|refine zal rfl rfl ?_ ?_)<;>intro<;>try (first |(exfalso;omega)))|((first |refine zam rfl rfl rfl rfl ?_ ?_);focus (first |omega|((repeat' refine And.intro ?_ ?_)<;>omega)))|refine zat rfl ?_|fail)
    all_goals
      refine T.loop hL (fun z : List UInt8 => [(0, .b neg), (1, .s z), (2, .i .i64 (e + (s.length - y.length))), (6, .pv 6 0)]) (fun _ => [(6, .var [.b false, .s [], .i .i64 0])]) (fun z => tL z = tL y ∧ z.length ≤ y.length) (fun z => z.length) y ⟨rfl, Nat.le_refl _⟩
        ⟨⟨rfl, rfl, rfl, rfl, trivial⟩, ⟨rfl, trivial⟩, rfl, by rw [hX]; intro k hk; cases hk⟩ ?_
      rintro z ⟨q1, q2⟩
      by_cases hz : z.length = 0 ∨ ¬ at' z 0 = 48
      · have hz2 : z = tL y := by rw [← q1, zmv z hz]
        have hR2 : Unit → R = if z.length = 0 then ((false, [], 0), 0) else if 100 < z.length then ((false, [], 0), 5) else if e + (s.length - y.length) < -1000 ∨ 1000 < e + (s.length - y.length) then ((false, [], 0), 8) else ((neg, z, e + (s.length - y.length)), 0) := fun _ => by rw [hR (), ← hst (), ← hz2]
        clear q1 hz2 hR hst hm key
        repeat' (first |with_reducible (first |refine zag ?_|refine zaa ?_|refine zaf ?_|refine zac ?_|refine zar ?_|refine zah ?_|refine zan ?_|refine zao ?_|refine zaB ?_)|refine zab rfl rfl True.intro ?_|refine zay rfl rfl rfl ?_|refine zam rfl rfl rfl rfl True.intro ?_|refine zas rfl ?_|refine zak rfl ?_|((first |refine zad rfl ?_ ?_|refine zal rfl rfl ?_ ?_)<;>intro<;>try (first |(exfalso;omega)))|((first |refine zam rfl rfl rfl rfl ?_ ?_|refine zax rfl ?_ ?_);focus (first |omega|((repeat' refine And.intro ?_ ?_)<;>omega)|((repeat' refine And.intro ?_ ?_)<;>first |rfl|exact Nat.le_refl _)))|refine zat rfl ?_|refine zau rfl ?_|fail)
        all_goals first
          | (rw [hR2 (), if_pos (by omega)]; rfl)
          | (rw [hR2 (), if_neg (by omega), if_pos (by omega)]; rfl)
          | (rw [hR2 (), if_neg (by omega), if_neg (by omega), if_pos (by omega)]; rfl)
          | (rw [hR2 (), if_neg (by omega), if_neg (by omega), if_neg (by omega)]; rfl)
          | (exfalso; omega)
      · have hst2 := fun _ : Unit => zml z (by omega) (by omega)
        have q1 := fun _ : Unit => q1
        have hz1 : ¬ z.length = 0 := by omega
        have hz2 : at' z 0 = 48 := by omega
        clear hR hst hm key
        repeat' (first |with_reducible (first |refine zag ?_|refine zaa ?_|refine zaf ?_|refine zac ?_|refine zah ?_|refine zae ?_|refine zai ?_)|refine zab rfl rfl True.intro ?_|refine zam rfl rfl rfl rfl True.intro ?_|((first |refine zad rfl ?_ ?_|refine zal rfl rfl ?_ ?_)<;>intro<;>try (first |contradiction|(exfalso;omega)))|((first |refine zab rfl rfl ?_ ?_|refine zam rfl rfl rfl rfl ?_ ?_);focus (first |omega|((repeat' refine And.intro ?_ ?_)<;>omega)))|fail)
        all_goals refine ⟨z.drop 1, ⟨(hst2 ()).trans (q1 ()), by simp; omega⟩, by simp only [List.length_drop]; omega, ⟨rfl, ?_, rfl, rfl, trivial⟩, ⟨rfl, trivial⟩, rfl, by rw [hX]; intro k hk; cases hk⟩
        all_goals exact congrArg D.s (by rw [Int.toNat_natCast, List.take_length]; rfl)
  · have hst := fun _ : Unit => zlF y (by omega) (by omega)
    have g1 := fun _ : Unit => g1
    have hy1 : ¬ y.length = 0 := by omega
    have hy2 : at' y (y.length - 1) = 48 := by omega
    repeat' (first |with_reducible (first |refine zag ?_|refine zaa ?_|refine zaf ?_|refine zac ?_|refine zah ?_|refine zae ?_|refine zai ?_)|refine zab rfl rfl True.intro ?_|refine zam rfl rfl rfl rfl True.intro ?_|((first |refine zad rfl ?_ ?_|refine zal rfl rfl ?_ ?_)<;>intro<;>try (first |contradiction|(exfalso;omega)))|((first |refine zab rfl rfl ?_ ?_|refine zam rfl rfl rfl rfl ?_ ?_);focus (first |omega|((repeat' refine And.intro ?_ ?_)<;>omega)))|fail)
    refine ⟨y.take (y.length - 1), ⟨(hst ()).trans (g1 ()), by simp; omega⟩, by simp; omega, ⟨rfl, ?_, ?_, rfl, trivial⟩, ⟨rfl, trivial⟩, rfl, by rw [hX]; intro k hk; cases hk⟩
    · exact congrArg D.s (by rw [show ((y.length : Int) - 1).toNat = y.length - 1 by omega]; rfl)
    · exact congrArg (D.i .i64) (by rw [List.length_take]; omega)

theorem zle (m : Int) : (if m.tmod 10 < 0 then -(m.tmod 10) else m.tmod 10) = ((m.natAbs % 10 : Nat) : Int) := by
  by_cases h : 0 ≤ m
  · obtain ⟨k, rfl⟩ := Int.eq_ofNat_of_zero_le h
    rw [Int.tmod_eq_emod_of_nonneg h]
    simp only [Int.natAbs_natCast]
    rw [if_neg (by omega)]
    omega
  · obtain ⟨k, hk⟩ := Int.eq_ofNat_of_zero_le (show 0 ≤ -m by omega)
    obtain rfl : m = -(k : Int) := by omega
    rw [Int.neg_tmod, Int.tmod_eq_emod_of_nonneg (by omega)]
    simp only [Int.natAbs_neg, Int.natAbs_natCast]
    split <;> omega
theorem zkp (m : Int) : (m.tdiv 10).natAbs = m.natAbs / 10 := by
  have h1 : (m.tdiv 10).natAbs = m.natAbs / (10 : Int).natAbs := Int.natAbs_tdiv m 10
  exact h1
theorem zmr (n e : Int) (h0 : -9223372036854775808 ≤ n) (h1 : n ≤ 9223372036854775807) : Ctr Tryz.prog 93 [.i .i64 n, .i .i64 e] (dcV (ofF n e)) := by
  have hlD : (dig0 n.natAbs).length ≤ 19 := by
    unfold dig0
    split
    · simp
    · exact zcP _ 19 (by omega) (by omega)
  have c2 := fun h : -2000 ≤ e ∧ e ≤ 2000 => ziS (decide (n < 0)) (dig0 n.natAbs) e (by omega) (by omega) (by omega)
  rw [zjI] at c2
  generalize hR : ofF n e = R
  unfold ofF at hR
  replace hR := fun _ : Unit => hR.symm
  generalize normF (decide (n < 0)) (Lib.decDigits n.natAbs) e = N at *
  refine zaE Tryz.func93 rfl Tryz.ntmps93 Tryz.results93 rfl rfl fun X hL hX => ?_
  repeat' (first |with_reducible (first |refine zag ?_|refine zaa ?_|refine zaf ?_|refine zac ?_|refine zae ?_)|refine zab rfl rfl True.intro ?_|((first |refine zaw rfl rfl ?_ ?_);focus (first |((repeat' refine And.intro ?_ ?_)<;>omega)|((repeat' refine And.intro ?_ ?_)<;>first |rfl)))|fail)
  refine T.loop hL (fun y : Int × List UInt8 => [(0, .i .i64 n), (1, .i .i64 e), (4, .pv 4 0), (5, .s y.2), (6, .i .i64 y.1)]) (fun _ => [(4, .var [.b false, .s [], .i .i64 0])]) (fun y => dig0 n.natAbs = dig0 y.1.natAbs ++ y.2 ∧ InI y.1) (fun y => y.1.natAbs) (n, [])
    ⟨by simp, h0, h1⟩ ⟨⟨rfl, rfl, rfl, rfl, rfl, trivial⟩, ⟨rfl, trivial⟩, rfl, by rw [hX]; intro k hk; cases hk⟩ ?_
  rintro ⟨m, s⟩ ⟨g1, g2⟩
  dsimp only at g1 g2 ⊢
  by_cases hz : m = 0
  · subst hz
    have g1 : dig0 n.natAbs = s := g1
    have g1 := fun _ : Unit => g1
    rw [g1 ()] at c2
    clear g2
    repeat' (first |with_reducible (first |refine zag ?_|refine zaa ?_|refine zaf ?_|refine zac ?_|refine zar ?_|refine zah ?_|refine zan ?_|refine zao ?_|refine zaB ?_)|refine zab rfl rfl True.intro ?_|refine zay rfl rfl rfl ?_|refine zam rfl rfl rfl rfl True.intro ?_|refine zas rfl ?_|refine zak rfl ?_|((first |refine zad rfl ?_ ?_|refine zal rfl rfl ?_ ?_)<;>intro)|((first |refine zab rfl rfl ?_ ?_|refine zaw rfl rfl ?_ ?_|refine zax rfl ?_ ?_);focus (first |exact le_ rfl|((repeat' refine And.intro ?_ ?_)<;>omega)|((repeat' refine And.intro ?_ ?_)<;>first |rfl|exact Nat.le_refl _)))|refine zat rfl ?_|refine zau rfl ?_|refine zaj (f := 134) rfl rfl Tryz.call134 rfl (c2 (by omega)) ?_|fail)
    all_goals
      rw [hR ()]
      first
        | rw [if_pos (by omega)]; done
        | (rw [if_pos (by omega)]; rfl)
        | rw [if_neg (by omega)]; done
        | (rw [if_neg (by omega)]; rfl)
  · have hma := zle m
    have hda := zkp m
    have hst := ziZ (k := m.natAbs) (by omega)
    rw [hst, List.append_assoc] at g1
    have hdl : [UInt8.ofNat (48 + m.natAbs % 10)].length = 1 := rfl
    have hcut := ziF (m.natAbs % 10) (by omega)
    have hls : s.length ≤ 19 := by
      have := congrArg List.length g1
      simp only [List.length_append] at this
      omega
    have fin : ∀ c : Int, c = ((m.natAbs % 10 : Nat) : Int) → ∀ (fr : Fr) (ow : Ow), leFr fr [(0, .i .i64 n), (1, .i .i64 e), (4, .pv 4 0), (5, .s ((dig10.take (c + 1).toNat).drop c.toNat ++ s)), (6, .i .i64 (m.tdiv 10))] → leOw ow [(4, .var [.b false, .s [], .i .i64 0])] →
        ∃ y : Int × List UInt8, (dig0 n.natAbs = dig0 y.1.natAbs ++ y.2 ∧ InI y.1) ∧ y.1.natAbs < m.natAbs ∧
          Le X fr ow [(0, .i .i64 n), (1, .i .i64 e), (4, .pv 4 0), (5, .s y.2), (6, .i .i64 y.1)] [(4, .var [.b false, .s [], .i .i64 0])] := by
      intro c hc fr ow h1 h2
      subst hc
      rw [show (((m.natAbs % 10 : Nat) : Int) + 1).toNat = m.natAbs % 10 + 1 by omega, Int.toNat_natCast, hcut] at h1
      exact ⟨(m.tdiv 10, [UInt8.ofNat (48 + m.natAbs % 10)] ++ s), ⟨by dsimp only; rw [hda]; exact g1, zjx (by omega) g2⟩, by dsimp only; omega, h1, h2, rfl, by rw [hX]; intro k hk; cases hk⟩
    clear g1 hst hcut hR c2
    have l10 : dig10.length = 10 := rfl
    repeat' (first |with_reducible (first |refine zag ?_|refine zaa ?_|refine zaf ?_|refine zac ?_|refine zah ?_|refine zae ?_|refine zai ?_)|refine zab rfl rfl True.intro ?_|((first |refine zad rfl ?_ ?_|refine zdg rfl ?_ ?_)<;>intro<;>try (first |(exfalso;omega)))|((first |refine zab rfl rfl ?_ ?_);focus (first |(simp only [List.length_drop, List.length_take];omega)|omega|((repeat first |rw [wi6_]);(repeat' refine And.intro ?_ ?_)<;>omega)|((repeat' refine And.intro ?_ ?_)<;>first |omega)|(simp_all;omega)))|refine zmK rfl rfl rfl (by omega) ?_|refine zmz rfl rfl rfl (by omega) (by omega) ?_|fail)
    · refine fin (-m.tmod 10) (by rw [if_pos (by omega)] at hma; omega) _ _ ?_ ?_
      · exact ⟨rfl, rfl, rfl, rfl, rfl, trivial⟩
      · exact ⟨rfl, trivial⟩
    · refine fin (m.tmod 10) (by rw [if_neg (by omega)] at hma; omega) _ _ ?_ ?_
      · exact ⟨rfl, rfl, rfl, rfl, rfl, trivial⟩
      · exact ⟨rfl, trivial⟩

theorem text_bad (neg : Bool) (s : List UInt8) (e : Int) (hs : s.length ≤ 1048576) (h : ¬ RightP neg s e) : Ctr Tryz.prog 119 [dcD neg s e] (.s []) := by
  have c1 := zfE neg s e (by omega)
  rw [zea h] at c1
  refine zaE Tryz.func119 rfl Tryz.ntmps119 Tryz.results119 rfl rfl fun X hL hX => ?_
  repeat' (first |with_reducible (first |refine zag ?_|refine zaa ?_|refine zaf ?_|refine zac ?_|refine zar ?_|refine zaB ?_)|refine zab rfl rfl True.intro ?_|refine zas rfl ?_|((first |refine zab rfl rfl ?_ ?_|refine zaw rfl rfl ?_ ?_);focus (first |exact le_ rfl|((repeat' refine And.intro ?_ ?_)<;>omega)|((repeat' refine And.intro ?_ ?_)<;>first |rfl)))|refine zau rfl ?_|refine zaj (f := 127) rfl rfl Tryz.call127 rfl c1 ?_|fail)
  rfl
theorem zjY (neg : Bool) (s : List UInt8) (e : Int) (hs : s.length ≤ 1048576) (h : ¬ RightP neg s e) : Ctr Tryz.prog 92 [dcD neg s e] (.s []) := by
  have c1 := zcR neg s e (by omega)
  rw [zea h] at c1
  refine zaE Tryz.func92 rfl Tryz.ntmps92 Tryz.results92 rfl rfl fun X hL hX => ?_
  repeat' (first |with_reducible (first |refine zag ?_|refine zaa ?_|refine zaf ?_|refine zac ?_|refine zar ?_|refine zaB ?_)|refine zab rfl rfl True.intro ?_|refine zas rfl ?_|((first |refine zab rfl rfl ?_ ?_|refine zaw rfl rfl ?_ ?_);focus (first |exact le_ rfl|((repeat' refine And.intro ?_ ?_)<;>omega)|((repeat' refine And.intro ?_ ?_)<;>first |rfl)))|refine zau rfl ?_|refine zaj (f := 135) rfl rfl Tryz.call135 rfl c1 ?_|fail)
  rfl
section
variable {s : List UInt8} {e : Int}
theorem zkk (h : 0 ≤ e) (h2 : s.length + e ≤ 21) : textU s e = s ++ zs e.toNat := if_pos ⟨h, h2⟩
theorem ziH (h : ¬ (0 ≤ e ∧ s.length + e ≤ 21)) (h2 : 1 ≤ s.length + e) (h3 : s.length + e < s.length) : textU s e = s.take (s.length + e).toNat ++ [46] ++ s.drop (s.length + e).toNat := by
  unfold textU
  rw [if_neg h, if_pos ⟨h2, h3⟩]
theorem zjs (h : ¬ (0 ≤ e ∧ s.length + e ≤ 21)) (h2 : -6 ≤ s.length + e) (h3 : s.length + e ≤ 0) : textU s e = [48, 46] ++ zs (-(s.length + e)).toNat ++ s := by
  unfold textU
  rw [if_neg h, if_neg (by omega), if_pos ⟨h2, h3⟩]
theorem zkg (h : ¬ (0 ≤ e ∧ s.length + e ≤ 21)) (h2 : ¬ (1 ≤ s.length + e ∧ s.length + e < s.length)) (h3 : ¬ (-6 ≤ s.length + e ∧ s.length + e ≤ 0)) : textU s e = s.take 1 ++ (if 1 < s.length then [46] ++ s.drop 1 else []) ++ [101] ++ Lib.itoa (s.length + e - 1) := by
  unfold textU
  rw [if_neg h, if_neg h2, if_neg h3]
end
set_option maxHeartbeats 2000000 in
theorem text_ok (neg : Bool) (s : List UInt8) (e : Int) (h : RightP neg s e) (h0 : ¬ s.length = 0) : Ctr Tryz.prog 119 [dcD neg s e] (.s ((if neg = true then [45] else []) ++ textU s e)) := by
  obtain ⟨b1, b2, b3, b4⟩ := h.bounds
  have c1 := zfE neg s e (by omega)
  rw [zbU.2 h] at c1
  have c2 := fun h => zji e h (by omega)
  have c3 := fun h => zji (-(s.length + e)) h (by omega)
  have c4 := zbz (s.length + e - 1) (by omega) (by omega)
  have l4 := zhf (s.length + e - 1) (by omega) (by omega)
  have u1 := fun h h2 => zkk (s := s) (e := e) h h2
  have u2 := fun h h2 h3 => ziH (s := s) (e := e) h h2 h3
  have u3 := fun h h2 h3 => zjs (s := s) (e := e) h h2 h3
  have u4 := fun h h2 h3 => zkg (s := s) (e := e) h h2 h3
  have lz : ∀ n : Nat, (zs n).length = n := fun n => by simp
  generalize textU s e = U at *
  generalize Lib.itoa (s.length + e - 1) = I at *
  clear h
  refine zaE Tryz.func119 rfl Tryz.ntmps119 Tryz.results119 rfl rfl fun X hL hX => ?_
  cases neg with
  | false =>
    repeat' (first |with_reducible (first |refine zag ?_|refine zaa ?_|refine zaf ?_|refine zac ?_|refine zar ?_|refine zah ?_|refine zae ?_|refine zai ?_|refine zaB ?_|refine zaO ?_|refine zaH ?_)|refine zab rfl rfl True.intro ?_|refine zay rfl rfl rfl ?_|refine zam rfl rfl rfl rfl True.intro ?_|refine zak rfl ?_|((first |refine zad rfl ?_ ?_|refine zal rfl rfl ?_ ?_)<;>intro<;>try (first |(exfalso;omega)))|((first |refine zab rfl rfl ?_ ?_|refine zaw rfl rfl ?_ ?_);focus (first |(simp only [List.length_append, List.length_drop, List.length_take, lz, List.length_cons, List.length_nil];omega)|omega|exact le_ rfl|((repeat' refine And.intro ?_ ?_)<;>omega)|((repeat' refine And.intro ?_ ?_)<;>first |rfl)))|with_reducible refine ⟨by kernel_rfl, ?_⟩|refine zau rfl ?_|refine zaj (f := 127) rfl rfl Tryz.call127 rfl c1 ?_|refine zaj (f := 128) rfl rfl Tryz.call128 rfl (c2 (by omega)) ?_|refine zaj (f := 128) rfl rfl Tryz.call128 rfl (c3 (by omega)) ?_|refine zaj (f := 56) rfl rfl Tryz.call56 rfl c4 ?_|fail)
    · rw [u1 (by omega) (by omega)]
      exact congrArg D.s (by simp)
    · rw [u4 (by omega) (by omega) (by omega), if_pos (show 1 < s.length by omega)]
      exact congrArg D.s (by simp)
    · rw [u4 (by omega) (by omega) (by omega), if_neg (show ¬ 1 < s.length by omega)]
      exact congrArg D.s (by simp)
    · rw [u2 (by omega) (by omega) (by omega)]
      exact congrArg D.s (by simp)
    · rw [u3 (by omega) (by omega) (by omega)]
      exact congrArg D.s (by simp)
    · rw [u4 (by omega) (by omega) (by omega), if_pos (show 1 < s.length by omega)]
      exact congrArg D.s (by simp)
    · rw [u4 (by omega) (by omega) (by omega), if_neg (show ¬ 1 < s.length by omega)]
      exact congrArg D.s (by simp)
  | true =>
    repeat' (first |with_reducible (first |refine zag ?_|refine zaa ?_|refine zaf ?_|refine zac ?_|refine zar ?_|refine zah ?_|refine zae ?_|refine zai ?_|refine zaB ?_|refine zaO ?_|refine zaH ?_)|refine zab rfl rfl True.intro ?_|refine zay rfl rfl rfl ?_|refine zam rfl rfl rfl rfl True.intro ?_|refine zas rfl ?_|refine zak rfl ?_|((first |refine zad rfl ?_ ?_|refine zal rfl rfl ?_ ?_)<;>intro<;>try (first |(exfalso;omega)))|((first |refine zab rfl rfl ?_ ?_|refine zaw rfl rfl ?_ ?_);focus (first |(simp only [List.length_append, List.length_drop, List.length_take, lz, List.length_cons, List.length_nil];omega)|omega|exact le_ rfl|((repeat' refine And.intro ?_ ?_)<;>omega)|((repeat' refine And.intro ?_ ?_)<;>first |rfl)))|with_reducible refine ⟨by kernel_rfl, ?_⟩|refine zau rfl ?_|refine zaj (f := 127) rfl rfl Tryz.call127 rfl c1 ?_|refine zaj (f := 128) rfl rfl Tryz.call128 rfl (c2 (by omega)) ?_|refine zaj (f := 128) rfl rfl Tryz.call128 rfl (c3 (by omega)) ?_|refine zaj (f := 56) rfl rfl Tryz.call56 rfl c4 ?_|fail)
    · rw [u1 (by omega) (by omega)]
      exact congrArg D.s (by simp)
    · rw [u4 (by omega) (by omega) (by omega), if_pos (show 1 < s.length by omega)]
      exact congrArg D.s (by simp)
    · rw [u4 (by omega) (by omega) (by omega), if_neg (show ¬ 1 < s.length by omega)]
      exact congrArg D.s (by simp)
    · rw [u2 (by omega) (by omega) (by omega)]
      exact congrArg D.s (by simp)
    · rw [u3 (by omega) (by omega) (by omega)]
      exact congrArg D.s (by simp)
    · rw [u4 (by omega) (by omega) (by omega), if_pos (show 1 < s.length by omega)]
      exact congrArg D.s (by simp)
    · rw [u4 (by omega) (by omega) (by omega), if_neg (show ¬ 1 < s.length by omega)]
      exact congrArg D.s (by simp)
set_option maxHeartbeats 2000000 in
theorem zkX (neg : Bool) (s : List UInt8) (e : Int) (h : RightP neg s e) (h0 : ¬ s.length = 0) : Ctr Tryz.prog 92 [dcD neg s e] (.s ((if neg = true then [45] else []) ++ textU s e)) := by
  obtain ⟨b1, b2, b3, b4⟩ := h.bounds
  have c1 := zcR neg s e (by omega)
  rw [zbU.2 h] at c1
  have c2 := fun h => zfP e h (by omega)
  have c3 := fun h => zfP (-(s.length + e)) h (by omega)
  have c4 := zll (s.length + e - 1) (by omega) (by omega)
  have l4 := zhf (s.length + e - 1) (by omega) (by omega)
  have u1 := fun h h2 => zkk (s := s) (e := e) h h2
  have u2 := fun h h2 h3 => ziH (s := s) (e := e) h h2 h3
  have u3 := fun h h2 h3 => zjs (s := s) (e := e) h h2 h3
  have u4 := fun h h2 h3 => zkg (s := s) (e := e) h h2 h3
  have lz : ∀ n : Nat, (zs n).length = n := fun n => by simp
  generalize textU s e = U at *
  generalize Lib.itoa (s.length + e - 1) = I at *
  clear h
  refine zaE Tryz.func92 rfl Tryz.ntmps92 Tryz.results92 rfl rfl fun X hL hX => ?_
  cases neg with
  | false =>
    repeat' (first |with_reducible (first |refine zag ?_|refine zaa ?_|refine zaf ?_|refine zac ?_|refine zar ?_|refine zah ?_|refine zaH ?_)|refine zab rfl rfl True.intro ?_|refine zay rfl rfl rfl ?_|refine zam rfl rfl rfl rfl True.intro ?_|refine zak rfl ?_|((first |refine zad rfl ?_ ?_|refine zal rfl rfl ?_ ?_)<;>intro<;>try (first |(exfalso;omega)))|((first |refine zab rfl rfl ?_ ?_|refine zam rfl rfl rfl rfl ?_ ?_|refine zaw rfl rfl ?_ ?_);focus (first |(simp only [List.length_append, List.length_drop, List.length_take, lz, List.length_cons, List.length_nil];omega)|omega|exact le_ rfl|((repeat' refine And.intro ?_ ?_)<;>omega)|((repeat' refine And.intro ?_ ?_)<;>first |rfl)))|with_reducible refine ⟨by kernel_rfl, ?_⟩|refine zau rfl ?_|refine zaj (f := 135) rfl rfl Tryz.call135 rfl c1 ?_|refine zaj (f := 141) rfl rfl Tryz.call141 rfl (c2 (by omega)) ?_|refine zaj (f := 141) rfl rfl Tryz.call141 rfl (c3 (by omega)) ?_|refine zaj (f := 142) rfl rfl Tryz.call142 rfl c4 ?_|fail)
    · rw [u1 (by omega) (by omega)]
      exact congrArg D.s (by simp)
    · rw [u4 (by omega) (by omega) (by omega), if_neg (show ¬ 1 < s.length by omega), List.take_of_length_le (show s.length ≤ 1 by omega)]
      exact congrArg D.s (by simp)
    · rw [u4 (by omega) (by omega) (by omega), if_pos (show 1 < s.length by omega)]
      exact congrArg D.s (by simp)
    · rw [u2 (by omega) (by omega) (by omega)]
      exact congrArg D.s (by simp)
    · rw [u3 (by omega) (by omega) (by omega)]
      exact congrArg D.s (by simp)
    · rw [u4 (by omega) (by omega) (by omega), if_neg (show ¬ 1 < s.length by omega), List.take_of_length_le (show s.length ≤ 1 by omega)]
      exact congrArg D.s (by simp)
    · rw [u4 (by omega) (by omega) (by omega), if_pos (show 1 < s.length by omega)]
      exact congrArg D.s (by simp)
  | true =>
    repeat' (first |with_reducible (first |refine zag ?_|refine zaa ?_|refine zaf ?_|refine zac ?_|refine zar ?_|refine zah ?_|refine zaB ?_|refine zaH ?_)|refine zab rfl rfl True.intro ?_|refine zay rfl rfl rfl ?_|refine zam rfl rfl rfl rfl True.intro ?_|refine zas rfl ?_|refine zak rfl ?_|((first |refine zad rfl ?_ ?_|refine zal rfl rfl ?_ ?_)<;>intro<;>try (first |(exfalso;omega)))|((first |refine zab rfl rfl ?_ ?_|refine zam rfl rfl rfl rfl ?_ ?_|refine zaw rfl rfl ?_ ?_);focus (first |(simp only [List.length_append, List.length_drop, List.length_take, lz, List.length_cons, List.length_nil];omega)|omega|exact le_ rfl|((repeat' refine And.intro ?_ ?_)<;>omega)|((repeat' refine And.intro ?_ ?_)<;>first |rfl)))|with_reducible refine ⟨by kernel_rfl, ?_⟩|refine zau rfl ?_|refine zaj (f := 135) rfl rfl Tryz.call135 rfl c1 ?_|refine zaj (f := 141) rfl rfl Tryz.call141 rfl (c2 (by omega)) ?_|refine zaj (f := 141) rfl rfl Tryz.call141 rfl (c3 (by omega)) ?_|refine zaj (f := 142) rfl rfl Tryz.call142 rfl c4 ?_|fail)
    · rw [u1 (by omega) (by omega)]
      exact congrArg D.s (by simp)
    · rw [u4 (by omega) (by omega) (by omega), if_neg (show ¬ 1 < s.length by omega), List.take_of_length_le (show s.length ≤ 1 by omega)]
      exact congrArg D.s (by simp)
    · rw [u4 (by omega) (by omega) (by omega), if_pos (show 1 < s.length by omega)]
      exact congrArg D.s (by simp)
    · rw [u2 (by omega) (by omega) (by omega)]
      exact congrArg D.s (by simp)
    · rw [u3 (by omega) (by omega) (by omega)]
      exact congrArg D.s (by simp)
    · rw [u4 (by omega) (by omega) (by omega), if_neg (show ¬ 1 < s.length by omega), List.take_of_length_le (show s.length ≤ 1 by omega)]
      exact congrArg D.s (by simp)
    · rw [u4 (by omega) (by omega) (by omega), if_pos (show 1 < s.length by omega)]
      exact congrArg D.s (by simp)

theorem zhU : Ctr Tryz.prog 92 [dcD false [] 0] (.s [48]) := by
  have c1 := zcR false [] 0 (by decide)
  have hr : rightB false [] 0 = true := by decide
  rw [hr] at c1
  refine zaE Tryz.func92 rfl Tryz.ntmps92 Tryz.results92 rfl rfl fun X hL hX => ?_
  repeat' (first |with_reducible (first |refine zag ?_|refine zaa ?_|refine zaf ?_|refine zac ?_|refine zar ?_|refine zah ?_|refine zaB ?_)|refine zab rfl rfl True.intro ?_|refine zas rfl ?_|refine zak rfl ?_|((first |refine zab rfl rfl ?_ ?_|refine zaw rfl rfl ?_ ?_);focus (first |exact le_ rfl|((repeat' refine And.intro ?_ ?_)<;>omega)|((repeat' refine And.intro ?_ ?_)<;>first |rfl)))|refine zau rfl ?_|refine zaj (f := 135) rfl rfl Tryz.call135 rfl c1 ?_|fail)
  all_goals rfl
theorem zjh (neg : Bool) (s : List UInt8) (e : Int) (hs : s.length ≤ 1048576) : Ctr Tryz.prog 92 [dcD neg s e] (.s (textF neg s e)) := by
  by_cases h : RightP neg s e
  · by_cases h0 : s.length = 0
    · obtain ⟨rfl, rfl⟩ := (zcw h0).1 h
      obtain rfl := zjD h0
      exact zhU
    · have := zkX neg s e h h0
      unfold textF
      rw [if_neg (fun h2 => h2 h), if_neg h0]
      exact this
  · have := zjY neg s e hs h
    unfold textF
    rw [if_pos h]
    exact this

def hexL : List UInt8 := [48, 49, 50, 51, 52, 53, 54, 55, 56, 57, 97, 98, 99, 100, 101, 102]
def hexC (k : Nat) : UInt8 := hexL.getD k 0
def hxP (n i : Nat) : List UInt8 := (List.range i).map fun j => hexC (n / 16 ^ (7 - j) % 16)
def hxR : Nat → Nat → List UInt8
  | 0, _ => []
  | i + 1, n => hexC (n / 16 ^ i % 16) :: hxR i n
theorem zlY (n i : Nat) : (hxP n i).length = i := by simp [hxP]
theorem zlg (n i : Nat) : hxP n (i + 1) = hxP n i ++ [hexC (n / 16 ^ (7 - i) % 16)] := by
  unfold hxP
  rw [List.range_succ, List.map_append]
  rfl
theorem hx_eq (n : Nat) : hxR 8 n = hxP n 8 := rfl
theorem ziv (n : Nat) : ∀ i, (hxR i n).length = i
  | 0 => rfl
  | i + 1 => congrArg (· + 1) (ziv n i)
theorem and15 (a : Nat) (ha : a < 4294967296) : bits .and .u32 (a : Int) 15 = ((a % 16 : Nat) : Int) := by
  have h := (bits_nat .u32 32 (by decide) wrap32 a 15 ha (by decide)).1
  have e : a &&& 15 = a % 16 := Nat.and_two_pow_sub_one_eq_mod a 4
  rw [e] at h
  exact h
theorem zma (n i : Nat) (h : i < 8) : (n : Int) / 2 ^ ((28 : Int) - 4 * (i : Int)).toNat = ((n / 16 ^ (7 - i) : Nat) : Int) := by
  have e : ((28 : Int) - 4 * (i : Int)).toNat = 4 * (7 - i) := by omega
  have e2 : (16 : Nat) ^ (7 - i) = 2 ^ (4 * (7 - i)) := by rw [Nat.pow_mul]
  rw [e, e2, Int.natCast_ediv, Int.natCast_pow]
  rfl
def tagF (c : Nat) (n : Int) (gz : Bool) : List UInt8 := (if gz = true then [34] ++ hxP c 8 ++ [45] ++ Lib.itoa n ++ [45, 103] else [34] ++ hxP c 8 ++ [45] ++ Lib.itoa n) ++ [34]
theorem zlT : ∀ m : _root_.Fin 16, List.drop m.1 (List.take (m.1 + 1) hexL) = [hexC m.1] := by decide
def rsns : List (List UInt8) := [[79, 75], [78, 111, 32, 67, 111, 110, 116, 101, 110, 116], [78, 111, 116, 32, 77, 111, 100, 105, 102, 105, 101, 100], [66, 97, 100, 32, 82, 101, 113, 117, 101, 115, 116], [78, 111, 116, 32, 70, 111, 117, 110, 100], [77, 101, 116, 104, 111, 100, 32, 78, 111, 116, 32, 65, 108, 108, 111, 119, 101, 100], [73, 110, 116, 101, 114, 110, 97, 108, 32, 83, 101, 114, 118, 101, 114, 32, 69, 114, 114, 111, 114], [66, 97, 100, 32, 71, 97, 116, 101, 119, 97, 121]]
def rsnF (s : Int) : List UInt8 :=
  if s = 200 then rsns.getD 0 [] else if s = 204 then rsns.getD 1 [] else if s = 304 then rsns.getD 2 [] else if s = 400 then rsns.getD 3 [] else if s = 404 then rsns.getD 4 [] else if s = 405 then rsns.getD 5 [] else if s = 500 then rsns.getD 6 [] else if s = 502 then rsns.getD 7 [] else []
set_option maxRecDepth 100000 in
theorem zic (s : Int) : Ctr Tryz.prog 60 [.i .i64 s] (.s (rsnF s)) := by
  refine zaE Tryz.func60 rfl Tryz.ntmps60 Tryz.results60 rfl rfl fun X hL hX => ?_
  unfold rsnF
  repeat' (first |with_reducible (first |refine zag ?_|refine zaa ?_|refine zaf ?_|refine zac ?_|refine zar ?_|refine zah ?_|refine zae ?_|refine zai ?_|refine zaB ?_|refine zaO ?_)|refine zab rfl rfl True.intro ?_|((first |refine zad rfl ?_ ?_)<;>intro)|refine zau rfl ?_|fail)
  all_goals
    refine congrArg D.s ?_
    (repeat' split) <;> first | rfl | (exfalso; omega)
set_option maxRecDepth 100000 in
set_option maxHeartbeats 2000000 in
theorem zga (s : Int) : Ctr Tryz.prog 61 [.i .i64 s] (.s (rsnF s)) := by
  refine zaE Tryz.func61 rfl Tryz.ntmps61 Tryz.results61 rfl rfl fun X hL hX => ?_
  repeat' (first |with_reducible (first |refine zag ?_|refine zaa ?_|refine zaf ?_|refine zac ?_|refine zae ?_)|refine zab rfl rfl True.intro ?_|((first |refine zaw rfl rfl ?_ ?_);focus (first |((repeat' refine And.intro ?_ ?_)<;>first |omega|rfl)))|fail)
  refine T.loop hL (fun i : Nat => [(0, .i .i64 s), (3, .gs 6 1 8 (chunk 1 [.i .i64 200, .i .i64 204, .i .i64 304, .i .i64 400, .i .i64 404, .i .i64 405, .i .i64 500, .i .i64 502])), (4, .gs 7 1 8 (chunk 1 (rsns.map D.s))), (5, .i .i64 i)]) (fun _ => [(7, .row 9 1 8), (6, .row 3 1 8)])
    (fun i => i ≤ 8 ∧ (0 < i → s ≠ 200) ∧ (1 < i → s ≠ 204) ∧ (2 < i → s ≠ 304) ∧ (3 < i → s ≠ 400) ∧ (4 < i → s ≠ 404) ∧ (5 < i → s ≠ 405) ∧ (6 < i → s ≠ 500) ∧ (7 < i → s ≠ 502)) (fun i => 8 - i) 0 (by omega)
    ⟨⟨rfl, rfl, rfl, rfl, trivial⟩, ⟨rfl, rfl, trivial⟩, rfl, fun q hq => by rw [hX] at hq; simp at hq⟩ ?_
  rintro i ⟨hi, g⟩
  have hc : i = 0 ∨ i = 1 ∨ i = 2 ∨ i = 3 ∨ i = 4 ∨ i = 5 ∨ i = 6 ∨ i = 7 ∨ i = 8 := by omega
  rcases hc with rfl | rfl | rfl | rfl | rfl | rfl | rfl | rfl | rfl
  all_goals
    repeat' (first |with_reducible (first |refine zag ?_|refine zaa ?_|refine zaf ?_|refine zac ?_|refine zar ?_|refine zah ?_|refine zan ?_|refine zae ?_|refine zai ?_|refine zao ?_|refine zaB ?_|refine zaO ?_)|refine zab rfl rfl True.intro ?_|refine zas rfl ?_|refine zak rfl ?_|((first |refine zad rfl ?_ ?_)<;>intro)|((first |refine zab rfl rfl ?_ ?_);focus (first |omega|exact le_ rfl))|refine zat rfl ?_|refine zau rfl ?_|fail)
    all_goals first
      | (refine congrArg D.s ?_
         unfold rsnF
         (repeat' split) <;> first | rfl | (exfalso; omega))
      | exact ⟨_ + 1, by omega, by omega, ⟨rfl, rfl, rfl, rfl, trivial⟩, ⟨rfl, rfl, trivial⟩, rfl, fun q hq => by rw [hX] at hq; simp at hq⟩
      | trace_state
end Go.Proofs.YtkkaamhocpmhkaaGreatDoor.Flow

namespace Go.Proofs.YtkkaamhocpmhkaaGreatDoor.Flow
end Go.Proofs.YtkkaamhocpmhkaaGreatDoor.Flow

namespace Go.Proofs.YtkkaamhocpmhkaaGreatDoor.Flow
end Go.Proofs.YtkkaamhocpmhkaaGreatDoor.Flow

namespace Go.Proofs.YtkkaamhocpmhkaaGreatDoor.Flow
open Go
theorem WL.of_eq {a b : List D} (h : a = b) : WL a b := .inl h

def hvG : Nat → Nat → Int → Nat × Int
  | 0, m, e => (m, e)
  | k + 1, m, e => if e < 0 ∧ m % 2 = 0 ∧ 0 < m then hvG k (m / 2) (e + 1) else (m, e)
def hv (m : Nat) (e : Int) : Nat × Int := hvG m m e

section
variable {s : List UInt8} {i : Nat}
end

theorem zkU (s : List UInt8) : ∃ z, s = zs z ++ tL s := by
  induction s with
  | nil => exact ⟨0, rfl⟩
  | cons c s ih =>
    by_cases hc : c = 48
    · subst hc
      obtain ⟨z, hz⟩ := ih
      have e : tL (48 :: s) = tL s := by simp [tL, Lib.trimLeftB]
      refine ⟨z + 1, ?_⟩
      rw [e, show zs (z + 1) = 48 :: zs z from List.replicate_succ, List.cons_append, ← hz]
    · exact ⟨0, by rw [zkE hc]; rfl⟩
theorem zkS (s : List UInt8) : ∀ c l, tL s = c :: l → ¬ c = 48 := by
  induction s with
  | nil =>
    intro c l h
    have : tL [] = [] := rfl
    rw [this] at h
    cases h
  | cons c s ih =>
    intro d l h
    by_cases hc : c = 48
    · subst hc
      have e : tL (48 :: s) = tL s := by simp [tL, Lib.trimLeftB]
      rw [e] at h
      exact ih d l h
    · rw [zkE hc] at h
      rw [← (List.cons.inj h).1]
      exact hc
theorem zeR {neg : Bool} {s : List UInt8} {e : Int} (hs : ∀ c ∈ s, isD c = true) (h : (normF neg s e).2 = 0) : RightP (normF neg s e).1.1 (normF neg s e).1.2.1 (normF neg s e).1.2.2 := by
  unfold normF at h ⊢
  split
  · decide
  · rename_i h0
    rw [if_neg h0] at h
    split
    · decide
    · rename_i h1
      rw [if_neg h1] at h
      split
      · decide
      · rename_i h2
        dsimp only
        rw [zaI h0]
        obtain ⟨z, hz⟩ := zkU (tR s)
        have hk := zjF s
        have hmem : ∀ c ∈ tL (tR s), isD c = true := fun c hc => hs c (zmW (by rw [hz]; exact List.mem_append_right _ hc))
        have hf := zkS (tR s)
        rw [hz] at hk
        generalize tL (tR s) = d at *
        refine ⟨fun i hi => zjf.1 (hmem _ ?_), by omega, fun h => ?_, fun h => ?_, by omega, by omega⟩
        · simp only [Int.toNat_natCast, List.getD_eq_getElem?_getD, List.getElem?_eq_getElem hi, Option.getD_some]
          exact List.getElem_mem hi
        · match d, h0 with
          | c :: l, _ => exact hf c l rfl ((zlf (n := 48) (by omega)).1 h)
        · rcases zbp d with rfl | ⟨r, w, rfl⟩
          · exact h0 rfl
          · have e : ((r ++ [w]).length : Int) - 1 = r.length := by simp
            rw [e, zfX] at h
            exact hk w (zs z ++ r) (by rw [List.append_assoc]) ((zlf (n := 48) (by omega)).1 h)

section
variable {x r ds : List UInt8} {a : UInt8} {i : Nat}
end
abbrev sgL (neg : Bool) : List UInt8 := if neg = true then [45] else []

section
variable {s : List UInt8} {k : Nat} {n i : Int}
end

section
variable {s : List UInt8} {i j j1 j2 j3 n m e e1 e2 e3 : Int} {o : List UInt8}
end

section
variable {x ds : List UInt8} {i : Nat}
end
theorem zjB {n e : Int} (h : ¬ n = 0) (hn : n.natAbs < 10 ^ 19) (h0 : -900 ≤ e) (h1 : e ≤ 900) : (normF (decide (n < 0)) (Lib.decDigits n.natAbs) e).2 = 0 := by
  have hl := zcP n.natAbs 19 hn (by omega)
  obtain ⟨c, l, hc, hc2⟩ := zfw n.natAbs (by omega)
  have hlen := zhi (Lib.decDigits n.natAbs)
  have hf := zhc (l := l) hc2
  rw [← hc] at hf
  unfold normF
  generalize Lib.decDigits n.natAbs = D at *
  obtain ⟨m, hm⟩ := hf
  rw [hm] at hlen ⊢
  simp only [List.length_cons] at hlen
  rw [zkE hc2]
  simp only [List.length_cons]
  rw [if_neg (by omega), if_neg (by omega), if_neg (by omega)]
theorem zkH (n : Int) (hn : n.natAbs < 10 ^ 19) : normF (decide (n < 0)) (Lib.decDigits n.natAbs) 0 = (ofF n 0, 0) := by
  by_cases h : n = 0
  · subst h
    show normF false (Lib.decDigits 0) 0 = _
    rw [zha, show Lib.decDigits 0 = [48] from zbg (by omega), zdj]
  · refine Prod.ext ?_ (zjB h hn (by omega) (by omega))
    unfold ofF
    rw [if_neg (by omega)]
theorem zgk (n : Int) : Lib.itoa n = sgL (decide (n < 0)) ++ Lib.decDigits n.natAbs := by
  obtain ⟨h1, h2⟩ := zks n
  by_cases h : n < 0
  · rw [h1 h, decide_eq_true h]
    rfl
  · rw [h2 h, decide_eq_false h]
    rfl

theorem zjR (n : Int) (hn : n.natAbs < 10 ^ 19) : textF (ofF n 0).1 (ofF n 0).2.1 (ofF n 0).2.2 = Lib.itoa n := by
  rw [zgk]
  by_cases h : n = 0
  · subst h
    rw [zha, show Lib.decDigits (0 : Int).natAbs = [48] from zbg (by decide)]
    decide
  have hl := zcP n.natAbs 19 hn (by omega)
  obtain ⟨c, l, hc, hc2⟩ := zfw n.natAbs (by omega)
  have hs := zeO (Lib.decDigits n.natAbs)
  have hlen := zhi (Lib.decDigits n.natAbs)
  have hf := zhc (l := l) hc2
  rw [← hc] at hf
  have hN := zkH n hn
  have hR := zeR (neg := decide (n < 0)) (e := 0) (zmj n.natAbs) (by rw [hN])
  rw [hN] at hR
  have e : ofF n 0 = (decide (n < 0), tR (Lib.decDigits n.natAbs), (((Lib.decDigits n.natAbs).length : Int) - ((tR (Lib.decDigits n.natAbs)).length : Int))) := by
    have h1 : ofF n 0 = (normF (decide (n < 0)) (Lib.decDigits n.natAbs) 0).1 := by rw [hN]
    rw [h1]
    unfold normF
    obtain ⟨m, hm⟩ := hf
    rw [hm] at hlen ⊢
    simp only [List.length_cons] at hlen
    rw [zkE hc2]
    simp only [List.length_cons]
    rw [if_neg (by omega), if_neg (by omega), if_neg (by omega), Int.zero_add]
  rw [e] at hR ⊢
  obtain ⟨m, hm⟩ := hf
  dsimp only at hR ⊢
  generalize Lib.decDigits n.natAbs = D at *
  have hp : 0 < (tR D).length := by rw [hm]; simp
  have ht : ((D.length : Int) - ((tR D).length : Int)).toNat = D.length - (tR D).length := by omega
  have hU : textU (tR D) ((D.length : Int) - ((tR D).length : Int)) = D := by
    unfold textU
    rw [if_pos (by omega), ht, ← hs]
  unfold textF
  rw [if_neg (not_not_intro hR), if_neg (by omega), hU]
theorem zdV {n : Int} (h0 : 0 ≤ n) (h1 : n ≤ 3000) : (Lib.itoa n).length ≤ 20 := by
  rw [zgk, decide_eq_false (by omega)]
  have := zcP n.natAbs 4 (by omega) (by decide)
  show ([] ++ Lib.decDigits n.natAbs).length ≤ 20
  rw [List.nil_append]
  omega
theorem zbi (n : Int) (h0 : -9223372036854775808 ≤ n) (h1 : n ≤ 9223372036854775807) : Ctr Tryz.prog 59 [.i .i64 n] (.s (Lib.itoa n)) := by
  have c1 := zmr n 0 (by omega) (by omega)
  have e := zjR n (by omega)
  have hl := zmx n 0 (by omega) (by omega)
  have c2 := zjh (ofF n 0).1 (ofF n 0).2.1 (ofF n 0).2.2 (by omega)
  rw [e] at c2
  generalize ofF n 0 = R at *
  obtain ⟨r1, r2, r3⟩ := R
  generalize Lib.itoa n = T1 at *
  refine zaE Tryz.func59 rfl Tryz.ntmps59 Tryz.results59 rfl rfl fun X hL hX => ?_
  repeat' (first |with_reducible (first |refine zag ?_|refine zaa ?_|refine zaf ?_|refine zac ?_|refine zar ?_)|refine zab rfl rfl True.intro ?_|refine zau rfl ?_|refine zaj (f := 93) rfl rfl Tryz.call93 rfl c1 ?_|refine zaj (f := 92) rfl rfl Tryz.call92 rfl c2 ?_|fail)
  all_goals rfl
set_option maxRecDepth 100000 in
set_option maxHeartbeats 2000000 in
theorem zkA (n : Nat) (f : Nat → List D) (gz : Bool) (hf : ∀ j, j < n → ∃ v, f j = [.i .u8 v]) (hn : n ≤ 3000) : Ctr Tryz.prog 52 [.sl 1 n f, .b gz] (.s (tagF (crcOf (btsL n f)) n gz)) := by
  have c1 := zfU n f hf (by omega)
  have c2 := zbz n (by omega) (by omega)
  have hc : crcOf (btsL n f) < 4294967296 := by
    unfold crcOf
    omega
  have hi3 := zdV (n := (n : Int)) (by omega) (by omega)
  unfold tagF
  generalize crcOf (btsL n f) = c at *
  generalize Lib.itoa (n : Int) = T1 at *
  refine zaE Tryz.func52 rfl Tryz.ntmps52 Tryz.results52 rfl rfl fun X hL hX => ?_
  repeat' (first |with_reducible (first |refine zag ?_|refine zaa ?_|refine zaf ?_|refine zac ?_|refine zae ?_)|refine zab rfl rfl True.intro ?_|refine zaj (f := 100) rfl rfl Tryz.call100 rfl c1 ?_|fail)
  refine T.adopt 6 6 5 1 (bytesF []) rfl rfl ?_
  refine T.loop hL (fun i : Nat => [(0, .sl 1 n f), (1, .b gz), (5, .i .u32 (c : Nat)), (6, .gs 6 1 (hxP c i).length (bytesF (hxP c i))), (11, .i .i64 i)]) (fun i => [(6, .row 5 1 (hxP c i).length)]) (fun i => i ≤ 8) (fun i => 8 - i) 0 (by omega)
    ⟨⟨rfl, rfl, rfl, rfl, rfl, trivial⟩, ⟨rfl, trivial⟩, rfl, fun q hq => by rw [hX] at hq; simp at hq⟩ ?_
  intro i hi
  have hln := zlY c i
  by_cases hi8 : i < 8
  · have hsh := zma c i hi8
    have hlt : c / 16 ^ (7 - i) < 4294967296 := Nat.lt_of_le_of_lt (Nat.div_le_self _ _) hc
    have han := and15 _ hlt
    rw [← hsh] at han
    have hsu := zlg c i
    have hm : c / 16 ^ (7 - i) % 16 < 16 := Nat.mod_lt _ (by decide)
    generalize c / 16 ^ (7 - i) % 16 = m at *
    have hb : 0 ≤ bits .and .u32 ((c : Int) / 2 ^ ((28 : Int) - 4 * (i : Int)).toNat) 15 ∧ bits .and .u32 ((c : Int) / 2 ^ ((28 : Int) - 4 * (i : Int)).toNat) 15 < 16 := by omega
    generalize hxP c i = l at *
    repeat' (first |with_reducible (first |refine zag ?_|refine zaa ?_|refine zaf ?_|refine zac ?_|refine zah ?_|refine zae ?_|refine zai ?_)|refine zab rfl rfl True.intro ?_|((first |refine zad rfl ?_ ?_)<;>intro<;>try (first |(exfalso;omega)))|((first |refine zab rfl rfl ?_ ?_|refine zaw rfl rfl ?_ ?_);focus (first |omega|(simp_all;omega)|((repeat' refine And.intro ?_ ?_)<;>first |omega|rfl)))|fail)
    all_goals exact ⟨i + 1, by omega, by omega, ⟨rfl, rfl, rfl, by rw [hsu]; exact zlX 6 l (hexC m) _ (by
      show [D.i .u8 (at' hexL (bits .and .u32 ((c : Int) / 2 ^ ((28 : Int) - 4 * (i : Int)).toNat) 15))] = _
      rw [han]
      rfl), congrArg (D.i .i64) (by omega), trivial⟩, ⟨by rw [hsu, List.length_append]; rfl, trivial⟩, rfl, fun q hq => by rw [hX] at hq; simp at hq⟩
  · have : i = 8 := by omega
    subst this
    have hbo := zdU (hxP c 8)
    have hbl : (bytesOf (hxP c 8).length (bytesF (hxP c 8))).length = 8 := by rw [hbo, hln]
    cases gz with
    | true =>
      repeat' (first |with_reducible (first |refine zag ?_|refine zaa ?_|refine zaf ?_|refine zac ?_|refine zar ?_|refine zan ?_|refine zao ?_|refine zaH ?_)|refine zab rfl rfl True.intro ?_|refine zas rfl ?_|refine zak rfl ?_|((first |refine zab rfl rfl ?_ ?_);focus (first |exact le_ rfl|(simp_all;omega)|((repeat' refine And.intro ?_ ?_)<;>first |omega|exact zbj _)))|refine zat rfl ?_|with_reducible refine ⟨by kernel_rfl, ?_⟩|refine zaj (f := 56) rfl rfl Tryz.call56 rfl c2 ?_|refine zau rfl ?_|fail)
      all_goals
        rw [hbo]
        rfl
    | false =>
      repeat' (first |with_reducible (first |refine zag ?_|refine zaa ?_|refine zaf ?_|refine zac ?_|refine zar ?_|refine zah ?_|refine zan ?_|refine zao ?_|refine zaH ?_)|refine zab rfl rfl True.intro ?_|refine zak rfl ?_|((first |refine zab rfl rfl ?_ ?_);focus (first |exact le_ rfl|(simp_all;omega)|((repeat' refine And.intro ?_ ?_)<;>first |omega|exact zbj _)))|refine zat rfl ?_|with_reducible refine ⟨by kernel_rfl, ?_⟩|refine zaj (f := 56) rfl rfl Tryz.call56 rfl c2 ?_|refine zau rfl ?_|fail)
      all_goals
        rw [hbo]
        rfl
set_option maxRecDepth 100000 in
set_option maxHeartbeats 2000000 in
theorem zjm (n : Nat) (f : Nat → List D) (gz : Bool) (hf : ∀ j, j < n → ∃ v, f j = [.i .u8 v]) (hn : n ≤ 3000) : Ctr Tryz.prog 57 [.sl 1 n f, .b gz] (.s (tagF (crcOf (btsL n f)) n gz)) := by
  have c1 := zeh n f hf (by omega)
  have c2 := zbi n (by omega) (by omega)
  have hc : crcOf (btsL n f) < 4294967296 := by
    unfold crcOf
    omega
  have hi3 := zdV (n := (n : Int)) (by omega) (by omega)
  unfold tagF
  generalize crcOf (btsL n f) = c at *
  generalize Lib.itoa (n : Int) = T1 at *
  refine zaE Tryz.func57 rfl Tryz.ntmps57 Tryz.results57 rfl rfl fun X hL hX => ?_
  repeat' (first |with_reducible (first |refine zag ?_|refine zaa ?_|refine zaf ?_|refine zac ?_|refine zae ?_)|refine zab rfl rfl True.intro ?_|refine zaj (f := 106) rfl rfl Tryz.call106 rfl c1 ?_|fail)
  refine T.loop hL (fun i : Nat => [(0, .sl 1 n f), (1, .b gz), (5, .i .u32 (c / 16 ^ i : Nat)), (6, .s (hxR i c)), (7, .i .i64 i)]) (fun _ => []) (fun i => i ≤ 8) (fun i => 8 - i) 0 (by omega)
    ⟨⟨rfl, rfl, congrArg (D.i .u32) (by rw [Nat.pow_zero, Nat.div_one]), rfl, rfl, trivial⟩, trivial, rfl, fun q hq => by rw [hX] at hq; simp at hq⟩ ?_
  intro i hi
  have hln := ziv c i
  by_cases hi8 : i < 8
  · have hlt : c / 16 ^ i < 4294967296 := Nat.lt_of_le_of_lt (Nat.div_le_self _ _) hc
    have hdv : c / 16 ^ (i + 1) = c / 16 ^ i / 16 := by rw [Nat.pow_succ, Nat.div_div_eq_div_mul]
    have hsu : hxR (i + 1) c = hexC (c / 16 ^ i % 16) :: hxR i c := rfl
    generalize c / 16 ^ i = m at *
    have hmm : ((m : Int) % 16).toNat = m % 16 ∧ ((m : Int) % 16 + 1).toNat = m % 16 + 1 := by omega
    have hmb : 0 ≤ (m : Int) % 16 ∧ (m : Int) % 16 < 16 := by omega
    have hcut : List.drop ((m : Int) % 16).toNat (List.take ((m : Int) % 16 + 1).toNat hexL) = [hexC (m % 16)] := by
      rw [hmm.1, hmm.2]
      exact zlT ⟨m % 16, Nat.mod_lt _ (by decide)⟩
    have hw64 : IntKind.i64.wrap ((m : Int) % 16) = (m : Int) % 16 := by
      rw [wi6_]
      omega
    have hcl : (List.drop (IntKind.i64.wrap ((m : Int) % 16)).toNat (List.take (IntKind.i64.wrap ((m : Int) % 16) + 1).toNat (ByteArray.mk #[48, 49, 50, 51, 52, 53, 54, 55, 56, 57, 97, 98, 99, 100, 101, 102]).data.toList)).length = 1 := by
      rw [hw64]
      show (List.drop ((m : Int) % 16).toNat (List.take ((m : Int) % 16 + 1).toNat hexL)).length = 1
      rw [hcut]
      rfl
    have hw : IntKind.u32.wrap ((m : Int) / 16) = (m : Int) / 16 := wrap32 _ (by omega) (by omega)
    repeat' (first |with_reducible (first |refine zag ?_|refine zaa ?_|refine zaf ?_|refine zac ?_|refine zah ?_|refine zae ?_|refine zai ?_)|refine zab rfl rfl True.intro ?_|((first |refine zad rfl ?_ ?_)<;>intro<;>try (first |(exfalso;omega)))|((first |refine zab rfl rfl ?_ ?_);focus (first |omega|(simp_all;omega)))|fail)
    all_goals exact ⟨i + 1, by omega, by omega, ⟨rfl, rfl, congrArg (D.i .u32) (by rw [hdv]; omega), congrArg D.s (by
      show List.drop (IntKind.i64.wrap ((m : Int) % 16)).toNat (List.take (IntKind.i64.wrap ((m : Int) % 16) + 1).toNat hexL) ++ hxR i c = _
      rw [hw64, hcut, hsu]
      rfl), congrArg (D.i .i64) (by omega), trivial⟩, trivial, rfl, fun q hq => by rw [hX] at hq; simp at hq⟩
  · have : i = 8 := by omega
    subst this
    rw [hx_eq] at *
    cases gz with
    | true =>
      repeat' (first |with_reducible (first |refine zag ?_|refine zaa ?_|refine zaf ?_|refine zac ?_|refine zar ?_|refine zan ?_|refine zao ?_)|refine zab rfl rfl True.intro ?_|refine zas rfl ?_|refine zak rfl ?_|((first |refine zab rfl rfl ?_ ?_);focus (first |exact le_ rfl|(simp_all;omega)))|refine zat rfl ?_|refine zaj (f := 59) rfl rfl Tryz.call59 rfl c2 ?_|refine zau rfl ?_|fail)
      all_goals rfl
    | false =>
      repeat' (first |with_reducible (first |refine zag ?_|refine zaa ?_|refine zaf ?_|refine zac ?_|refine zar ?_|refine zah ?_|refine zan ?_|refine zao ?_)|refine zab rfl rfl True.intro ?_|refine zak rfl ?_|((first |refine zab rfl rfl ?_ ?_);focus (first |exact le_ rfl|(simp_all;omega)))|refine zat rfl ?_|refine zaj (f := 59) rfl rfl Tryz.call59 rfl c2 ?_|refine zau rfl ?_|fail)
      all_goals rfl

def valB : List Bool → Nat
  | [] => 0
  | b :: r => b.toNat + 2 * valB r
theorem zfu : ∀ (l : List Bool) (v : Bool), valB (l ++ [v]) = valB l + v.toNat * 2 ^ l.length
  | [], v => by simp [valB]
  | b :: r, v => by
    rw [List.cons_append, valB, valB, zfu r v, List.length_cons, Nat.pow_succ]
    have : v.toNat * (2 ^ r.length * 2) = 2 * (v.toNat * 2 ^ r.length) := by
      rw [← Nat.mul_assoc, Nat.mul_comm]
    omega
theorem zlH (b : Bool) : b.toNat ≤ 1 := by cases b <;> decide
theorem zgg : ∀ l : List Bool, valB l < 2 ^ l.length
  | [] => by simp [valB]
  | b :: r => by
    have h1 := zgg r
    have h2 := zlH b
    rw [valB, List.length_cons, Nat.pow_succ]
    omega
def byteB (l : List Bool) (k : Nat) : Nat := valB ((l.drop (8 * k)).take 8)
def lenB (n : Nat) : Nat := (n + 7) / 8
def packB (l : List Bool) : List UInt8 := (List.range (lenB l.length)).map fun k => UInt8.ofNat (byteB l k)
theorem zdy (l : List Bool) : (packB l).length = lenB l.length := by
  unfold packB
  rw [List.length_map, List.length_range]
theorem zde (l : List Bool) (k : Nat) : byteB l k < 256 := by
  have h := zgg ((l.drop (8 * k)).take 8)
  have h2 : ((l.drop (8 * k)).take 8).length ≤ 8 := by
    rw [List.length_take]
    exact Nat.min_le_left ..
  have h3 : 2 ^ ((l.drop (8 * k)).take 8).length ≤ 2 ^ 8 := Nat.pow_le_pow_right (by decide) h2
  unfold byteB
  omega
theorem zem (l : List Bool) : byteB l (l.length / 8) < 2 ^ (l.length % 8) := by
  have h := zgg ((l.drop (8 * (l.length / 8))).take 8)
  have h2 : ((l.drop (8 * (l.length / 8))).take 8).length = l.length % 8 := by
    rw [List.length_take, List.length_drop]
    omega
  rw [h2] at h
  exact h
theorem zbv {l : List Bool} {k : Nat} (h : l.length ≤ 8 * k) : byteB l k = 0 := by
  unfold byteB
  rw [List.drop_of_length_le h]
  rfl
theorem zbV (l : List Bool) (v : Bool) (k : Nat) : byteB (l ++ [v]) k = if k = l.length / 8 then byteB l k + v.toNat * 2 ^ (l.length % 8) else byteB l k := by
  by_cases h : k = l.length / 8
  · rw [if_pos h]
    have h1 : (l.drop (8 * k)).length = l.length % 8 := by
      rw [List.length_drop]
      omega
    unfold byteB
    rw [List.drop_append_of_le_length (by omega), List.take_of_length_le (by rw [List.length_append, h1]; simp only [List.length_cons, List.length_nil]; omega), zfu, h1, List.take_of_length_le (by omega)]
  · rw [if_neg h]
    by_cases h2 : k < l.length / 8
    · unfold byteB
      rw [List.drop_append_of_le_length (by omega), List.take_append_of_le_length (by rw [List.length_drop]; omega)]
    · rw [zbv (by rw [List.length_append]; simp only [List.length_cons, List.length_nil]; omega), zbv (by omega)]
theorem zfp {n : Nat} (h : n % 8 = 0) : lenB (n + 1) = lenB n + 1 ∧ lenB n = n / 8 := by
  unfold lenB
  omega
theorem zfi {n : Nat} (h : ¬ n % 8 = 0) : lenB (n + 1) = lenB n ∧ lenB n = n / 8 + 1 := by
  unfold lenB
  omega
def lowB (v n : Nat) : List Bool := (List.range n).map fun i => v.testBit i
theorem zfN (v i : Nat) : lowB v (i + 1) = lowB v i ++ [v.testBit i] := by
  unfold lowB
  rw [List.range_succ, List.map_append]
  rfl
theorem zbh (v n : Nat) : (lowB v n).length = n := by
  unfold lowB
  rw [List.length_map, List.length_range]
def turnTo (v n i : Nat) : List Bool := (List.range i).map fun i => v.testBit (n - 1 - i)
theorem zgw (v n i : Nat) : turnTo v n (i + 1) = turnTo v n i ++ [v.testBit (n - 1 - i)] := by
  unfold turnTo
  rw [List.range_succ, List.map_append]
  rfl
theorem zbS (v n i : Nat) : (turnTo v n i).length = i := by
  unfold turnTo
  rw [List.length_map, List.length_range]
end Go.Proofs.YtkkaamhocpmhkaaGreatDoor.Flow
