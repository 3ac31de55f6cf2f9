/- The texts G5, one behind the other. -/
import Derived.Test.YtcajofhafpkbdaaGreatDoorCF9
import Derived.Test.YtcajofhafpkbdaaGreatDoorCF15
namespace Go.Proofs.YtcajofhafpkbdaaGreatDoor.Flow
open Go

theorem zjs {p : UInt8 → Bool} {s : List UInt8} {i : Nat} (h : i < s.length) : (s.take (i + 1)).all p = ((s.take i).all p && p (s.getD i 0)) := by
  rw [List.take_add_one, List.all_append]
  congr 1
  have : s[i]? = some (s.getD i 0) := by simp [List.getD_eq_getElem?_getD, h]
  rw [this]
  simp
theorem zjz {p : UInt8 → Bool} {s : List UInt8} {i : Nat} (h : i < s.length) (hc : p (s.getD i 0) = false) : s.all p = false := by
  rw [List.all_eq_false]
  refine ⟨s.getD i 0, ?_, ?_⟩
  · rw [List.getD_eq_getElem?_getD, List.getElem?_eq_getElem h, Option.getD_some]
    exact List.getElem_mem h
  · rw [hc]
    exact Bool.false_ne_true
theorem znI (s : List UInt8) (i : Nat) : at' s i = ((s.getD i 0).toNat : Int) := by simp [at']

def nmC (c : UInt8) : Bool := (decide (97 ≤ c.toNat) && decide (c.toNat ≤ 122)) || (decide (48 ≤ c.toNat) && decide (c.toNat ≤ 57)) || decide (c.toNat = 95) || decide (c.toNat = 45)
def nmB (s : List UInt8) : Bool := s.all nmC && decide (0 < s.length ∧ s.length ≤ 64)

theorem zoO {c : UInt8} : nmC c = true ↔ (97 ≤ c.toNat ∧ c.toNat ≤ 122) ∨ (48 ≤ c.toNat ∧ c.toNat ≤ 57) ∨ c.toNat = 95 ∨ c.toNat = 45 := by
  simp only [nmC, Bool.or_eq_true, Bool.and_eq_true, decide_eq_true_eq]
  omega
theorem zpI {c : UInt8} : nmC c = false ↔ ¬ ((97 ≤ c.toNat ∧ c.toNat ≤ 122) ∨ (48 ≤ c.toNat ∧ c.toNat ≤ 57) ∨ c.toNat = 95 ∨ c.toNat = 45) := by
  rw [← zoO, Bool.not_eq_true]

set_option maxRecDepth 100000 in
theorem zhy (s : List UInt8) (hs : s.length ≤ 4194304) : Ctr Tryz.prog 10 [.s s] (.b (nmB s)) := by
  refine zbe Tryz.func10 rfl Tryz.ntmps10 Tryz.results10 rfl rfl fun X hL hX => ?_
  repeat' (first |with_reducible (first |refine zaK ?_|refine zaj ?_|refine zaL ?_|refine zaB ?_|refine zaO ?_|refine zaD ?_|refine zaC ?_|refine zar ?_|refine zaq ?_|refine zaI ?_|refine zaE ?_|refine zas ?_|refine zaH ?_)|refine zaw rfl rfl True.intro ?_|refine zau rfl rfl rfl ?_|refine zao rfl rfl rfl ?_|refine zag rfl rfl rfl rfl True.intro ?_|refine zaF rfl ?_|refine zat rfl ?_|((first |refine zal rfl ?_ ?_|refine zan rfl ?_ ?_|refine zak rfl ?_ ?_|refine zam rfl ?_ ?_|refine zap rfl ?_ ?_|refine zaA rfl ?_ ?_|refine zad rfl rfl ?_ ?_|refine zae rfl rfl ?_ ?_|refine zaf rfl rfl ?_ ?_|refine zac rfl rfl ?_ ?_|refine zab rfl rfl ?_ ?_)<;>intro<;>try (first |contradiction|(exfalso;omega)))|((first |refine zaw rfl rfl ?_ ?_|refine zag rfl rfl rfl rfl ?_ ?_|refine zaM rfl rfl ?_ ?_|refine zaJ rfl ?_ ?_|refine zaG rfl rfl rfl rfl ?_ ?_);focus (first |omega|exact le_ rfl|(simp_all;done)|(simp_all;omega)|((repeat' refine And.intro ?_ ?_)<;>first |omega|rfl|exact Nat.le_refl _|exact le_ rfl|exact zaa _|(simp_all;done)|(simp_all;omega))))|refine zaP rfl ?_|refine zaz rfl ?_|with_reducible refine ⟨by kernel_rfl, ?_⟩|((with_reducible refine zaN ?_);(fail_if_success (refine zax true rfl rfl rfl ?_));(fail_if_success (refine zax false rfl rfl rfl ?_));refine zav rfl rfl (fun _ => ?_) (fun _ => ?_)))
  refine T.loop hL (fun i : Nat => [(0, .s s), (6, .i .i64 s.length), (7, .i .i64 i)]) (fun _ => []) (fun i => i ≤ s.length ∧ (s.take i).all nmC = true) (fun i => s.length - i) 0 ⟨Nat.zero_le _, by simp⟩
    ⟨⟨rfl, rfl, rfl, trivial⟩, trivial, rfl, fun q hq => by rw [hX] at hq; simp at hq⟩ ?_
  rintro i ⟨hi, hall⟩
  by_cases hil : i < s.length
  · have hst := zjs (p := nmC) hil
    have ha := znI s i
    cases hc : nmC (s.getD i 0) with
    | true =>
      have hcc := zoO.1 hc
      have hna : (97 ≤ at' s i ∧ at' s i ≤ 122) ∨ (48 ≤ at' s i ∧ at' s i ≤ 57) ∨ at' s i = 95 ∨ at' s i = 45 := by omega
      clear hcc ha
      repeat' (first |with_reducible (first |refine zaK ?_|refine zaj ?_|refine zaL ?_|refine zaB ?_|refine zaO ?_|refine zaD ?_|refine zaC ?_|refine zar ?_|refine zaq ?_|refine zaI ?_|refine zaE ?_|refine zas ?_|refine zaH ?_)|refine zaw rfl rfl True.intro ?_|refine zau rfl rfl rfl ?_|refine zao rfl rfl rfl ?_|refine zag rfl rfl rfl rfl True.intro ?_|refine zaF rfl ?_|refine zat rfl ?_|((first |refine zal rfl ?_ ?_|refine zan rfl ?_ ?_|refine zak rfl ?_ ?_|refine zam rfl ?_ ?_|refine zap rfl ?_ ?_|refine zaA rfl ?_ ?_|refine zad rfl rfl ?_ ?_|refine zae rfl rfl ?_ ?_|refine zaf rfl rfl ?_ ?_|refine zac rfl rfl ?_ ?_|refine zab rfl rfl ?_ ?_)<;>intro<;>try (first |contradiction|(exfalso;omega)))|((first |refine zaw rfl rfl ?_ ?_|refine zag rfl rfl rfl rfl ?_ ?_|refine zaM rfl rfl ?_ ?_|refine zaJ rfl ?_ ?_|refine zaG rfl rfl rfl rfl ?_ ?_);focus (first |omega|exact le_ rfl|(simp_all;done)|(simp_all;omega)|((repeat' refine And.intro ?_ ?_)<;>first |omega|rfl|exact Nat.le_refl _|exact le_ rfl|exact zaa _|(simp_all;done)|(simp_all;omega))))|refine zaP rfl ?_|refine zaz rfl ?_|with_reducible refine ⟨by kernel_rfl, ?_⟩|refine zaQ rfl ?_|refine zaT rfl ?_|((with_reducible refine zaN ?_);(fail_if_success (refine zax true rfl rfl rfl ?_));(fail_if_success (refine zax false rfl rfl rfl ?_));refine zav rfl rfl (fun _ => ?_) (fun _ => ?_)))
      all_goals exact ⟨i + 1, ⟨by omega, by rw [hst, hall, hc]; rfl⟩, by omega, ⟨rfl, rfl, congrArg (D.i .i64) (by omega), trivial⟩, trivial, rfl, fun q hq => by rw [hX] at hq; simp at hq⟩
    | false =>
      have hcc := zpI.1 hc
      have hna : ¬ ((97 ≤ at' s i ∧ at' s i ≤ 122) ∨ (48 ≤ at' s i ∧ at' s i ≤ 57) ∨ at' s i = 95 ∨ at' s i = 45) := by omega
      have hb : nmB s = false := by
        unfold nmB
        rw [zjz hil hc]
        rfl
      rw [hb]
      clear hcc ha
      repeat' (first |with_reducible (first |refine zaK ?_|refine zaj ?_|refine zaL ?_|refine zaB ?_|refine zaO ?_|refine zaD ?_|refine zaC ?_|refine zar ?_|refine zaq ?_|refine zaI ?_|refine zaE ?_|refine zas ?_|refine zaH ?_)|refine zaw rfl rfl True.intro ?_|refine zau rfl rfl rfl ?_|refine zao rfl rfl rfl ?_|refine zag rfl rfl rfl rfl True.intro ?_|refine zaF rfl ?_|refine zat rfl ?_|((first |refine zal rfl ?_ ?_|refine zan rfl ?_ ?_|refine zak rfl ?_ ?_|refine zam rfl ?_ ?_|refine zap rfl ?_ ?_|refine zaA rfl ?_ ?_|refine zad rfl rfl ?_ ?_|refine zae rfl rfl ?_ ?_|refine zaf rfl rfl ?_ ?_|refine zac rfl rfl ?_ ?_|refine zab rfl rfl ?_ ?_)<;>intro<;>try (first |contradiction|(exfalso;omega)))|((first |refine zaw rfl rfl ?_ ?_|refine zag rfl rfl rfl rfl ?_ ?_|refine zaM rfl rfl ?_ ?_|refine zaJ rfl ?_ ?_|refine zaG rfl rfl rfl rfl ?_ ?_);focus (first |omega|exact le_ rfl|(simp_all;done)|(simp_all;omega)|((repeat' refine And.intro ?_ ?_)<;>first |omega|rfl|exact Nat.le_refl _|exact le_ rfl|exact zaa _|(simp_all;done)|(simp_all;omega))))|refine zaP rfl ?_|refine zaz rfl ?_|with_reducible refine ⟨by kernel_rfl, ?_⟩|refine zaQ rfl ?_|refine zaT rfl ?_|((with_reducible refine zaN ?_);(fail_if_success (refine zax true rfl rfl rfl ?_));(fail_if_success (refine zax false rfl rfl rfl ?_));refine zav rfl rfl (fun _ => ?_) (fun _ => ?_)))
      all_goals rfl
  · have : i = s.length := by omega
    subst this
    rw [List.take_length] at hall
    have hb : nmB s = decide (0 < s.length ∧ s.length ≤ 64) := by
      unfold nmB
      rw [hall]
      rfl
    rw [hb]
    repeat' (first |with_reducible (first |refine zaK ?_|refine zaj ?_|refine zaL ?_|refine zaB ?_|refine zaO ?_|refine zaD ?_|refine zaC ?_|refine zar ?_|refine zaq ?_|refine zaI ?_|refine zaE ?_|refine zas ?_|refine zaH ?_)|refine zaw rfl rfl True.intro ?_|refine zau rfl rfl rfl ?_|refine zao rfl rfl rfl ?_|refine zag rfl rfl rfl rfl True.intro ?_|refine zaF rfl ?_|refine zat rfl ?_|((first |refine zal rfl ?_ ?_|refine zan rfl ?_ ?_|refine zak rfl ?_ ?_|refine zam rfl ?_ ?_|refine zap rfl ?_ ?_|refine zaA rfl ?_ ?_|refine zad rfl rfl ?_ ?_|refine zae rfl rfl ?_ ?_|refine zaf rfl rfl ?_ ?_|refine zac rfl rfl ?_ ?_|refine zab rfl rfl ?_ ?_)<;>intro<;>try (first |contradiction|(exfalso;omega)))|((first |refine zaw rfl rfl ?_ ?_|refine zag rfl rfl rfl rfl ?_ ?_|refine zaM rfl rfl ?_ ?_|refine zaJ rfl ?_ ?_|refine zaG rfl rfl rfl rfl ?_ ?_);focus (first |omega|exact le_ rfl|(simp_all;done)|(simp_all;omega)|((repeat' refine And.intro ?_ ?_)<;>first |omega|rfl|exact Nat.le_refl _|exact le_ rfl|exact zaa _|(simp_all;done)|(simp_all;omega))))|refine zaP rfl ?_|refine zaz rfl ?_|with_reducible refine ⟨by kernel_rfl, ?_⟩|refine zaQ rfl ?_|refine zaT rfl ?_|((with_reducible refine zaN ?_);(fail_if_success (refine zax true rfl rfl rfl ?_));(fail_if_success (refine zax false rfl rfl rfl ?_));refine zav rfl rfl (fun _ => ?_) (fun _ => ?_)))
    all_goals
      refine congrArg D.b ?_
      rw [Bool.eq_iff_iff]
      simp only [decide_eq_true_eq, Bool.false_eq_true, false_iff]
      omega

set_option maxRecDepth 100000 in
theorem zlm (s : List UInt8) (hs : s.length ≤ 4194304) : Ctr Tryz.prog 11 [.s s] (.b (nmB s)) := by
  refine zbe Tryz.func11 rfl Tryz.ntmps11 Tryz.results11 rfl rfl fun X hL hX => ?_
  repeat' (first |with_reducible (first |refine zaK ?_|refine zaj ?_|refine zaL ?_|refine zaB ?_|refine zaO ?_|refine zaD ?_|refine zaC ?_|refine zar ?_|refine zaq ?_|refine zaI ?_|refine zaE ?_|refine zas ?_|refine zaH ?_)|refine zaw rfl rfl True.intro ?_|refine zau rfl rfl rfl ?_|refine zao rfl rfl rfl ?_|refine zag rfl rfl rfl rfl True.intro ?_|refine zaF rfl ?_|refine zat rfl ?_|((first |refine zal rfl ?_ ?_|refine zan rfl ?_ ?_|refine zak rfl ?_ ?_|refine zam rfl ?_ ?_|refine zap rfl ?_ ?_|refine zaA rfl ?_ ?_|refine zad rfl rfl ?_ ?_|refine zae rfl rfl ?_ ?_|refine zaf rfl rfl ?_ ?_|refine zac rfl rfl ?_ ?_|refine zab rfl rfl ?_ ?_)<;>intro<;>try (first |contradiction|(exfalso;omega)))|((first |refine zaw rfl rfl ?_ ?_|refine zag rfl rfl rfl rfl ?_ ?_|refine zaM rfl rfl ?_ ?_|refine zaJ rfl ?_ ?_|refine zaG rfl rfl rfl rfl ?_ ?_);focus (first |omega|exact le_ rfl|(simp_all;done)|(simp_all;omega)|((repeat' refine And.intro ?_ ?_)<;>first |omega|rfl|exact Nat.le_refl _|exact le_ rfl|exact zaa _|(simp_all;done)|(simp_all;omega))))|refine zaP rfl ?_|refine zaz rfl ?_|with_reducible refine ⟨by kernel_rfl, ?_⟩|((with_reducible refine zaN ?_);(fail_if_success (refine zax true rfl rfl rfl ?_));(fail_if_success (refine zax false rfl rfl rfl ?_));refine zav rfl rfl (fun _ => ?_) (fun _ => ?_)))
  refine T.loop hL (fun i : Nat => [(0, .s s), (3, .i .i64 i)]) (fun _ => []) (fun i => i ≤ s.length ∧ (s.take i).all nmC = true) (fun i => s.length - i) 0 ⟨Nat.zero_le _, by simp⟩
    ⟨⟨rfl, rfl, trivial⟩, trivial, rfl, fun q hq => by rw [hX] at hq; simp at hq⟩ ?_
  rintro i ⟨hi, hall⟩
  by_cases hil : i < s.length
  · have hst := zjs (p := nmC) hil
    have ha := znI s i
    cases hc : nmC (s.getD i 0) with
    | true =>
      have hcc := zoO.1 hc
      have hna : (97 ≤ at' s i ∧ at' s i ≤ 122) ∨ (48 ≤ at' s i ∧ at' s i ≤ 57) ∨ at' s i = 95 ∨ at' s i = 45 := by omega
      clear hcc ha
      repeat' (first |with_reducible (first |refine zaK ?_|refine zaj ?_|refine zaL ?_|refine zaB ?_|refine zaO ?_|refine zaD ?_|refine zaC ?_|refine zar ?_|refine zaq ?_|refine zaI ?_|refine zaE ?_|refine zas ?_|refine zaH ?_)|refine zaw rfl rfl True.intro ?_|refine zau rfl rfl rfl ?_|refine zao rfl rfl rfl ?_|refine zag rfl rfl rfl rfl True.intro ?_|refine zaF rfl ?_|refine zat rfl ?_|((first |refine zal rfl ?_ ?_|refine zan rfl ?_ ?_|refine zak rfl ?_ ?_|refine zam rfl ?_ ?_|refine zap rfl ?_ ?_|refine zaA rfl ?_ ?_|refine zad rfl rfl ?_ ?_|refine zae rfl rfl ?_ ?_|refine zaf rfl rfl ?_ ?_|refine zac rfl rfl ?_ ?_|refine zab rfl rfl ?_ ?_)<;>intro<;>try (first |contradiction|(exfalso;omega)))|((first |refine zaw rfl rfl ?_ ?_|refine zag rfl rfl rfl rfl ?_ ?_|refine zaM rfl rfl ?_ ?_|refine zaJ rfl ?_ ?_|refine zaG rfl rfl rfl rfl ?_ ?_);focus (first |omega|exact le_ rfl|(simp_all;done)|(simp_all;omega)|((repeat' refine And.intro ?_ ?_)<;>first |omega|rfl|exact Nat.le_refl _|exact le_ rfl|exact zaa _|(simp_all;done)|(simp_all;omega))))|refine zaP rfl ?_|refine zaz rfl ?_|with_reducible refine ⟨by kernel_rfl, ?_⟩|refine zaQ rfl ?_|refine zaT rfl ?_|((with_reducible refine zaN ?_);(fail_if_success (refine zax true rfl rfl rfl ?_));(fail_if_success (refine zax false rfl rfl rfl ?_));refine zav rfl rfl (fun _ => ?_) (fun _ => ?_)))
      all_goals exact ⟨i + 1, ⟨by omega, by rw [hst, hall, hc]; rfl⟩, by omega, ⟨rfl, congrArg (D.i .i64) (by omega), trivial⟩, trivial, rfl, fun q hq => by rw [hX] at hq; simp at hq⟩
    | false =>
      have hcc := zpI.1 hc
      have hna : ¬ ((97 ≤ at' s i ∧ at' s i ≤ 122) ∨ (48 ≤ at' s i ∧ at' s i ≤ 57) ∨ at' s i = 95 ∨ at' s i = 45) := by omega
      have hb : nmB s = false := by
        unfold nmB
        rw [zjz hil hc]
        rfl
      rw [hb]
      clear hcc ha
      repeat' (first |with_reducible (first |refine zaK ?_|refine zaj ?_|refine zaL ?_|refine zaB ?_|refine zaO ?_|refine zaD ?_|refine zaC ?_|refine zar ?_|refine zaq ?_|refine zaI ?_|refine zaE ?_|refine zas ?_|refine zaH ?_)|refine zaw rfl rfl True.intro ?_|refine zau rfl rfl rfl ?_|refine zao rfl rfl rfl ?_|refine zag rfl rfl rfl rfl True.intro ?_|refine zaF rfl ?_|refine zat rfl ?_|((first |refine zal rfl ?_ ?_|refine zan rfl ?_ ?_|refine zak rfl ?_ ?_|refine zam rfl ?_ ?_|refine zap rfl ?_ ?_|refine zaA rfl ?_ ?_|refine zad rfl rfl ?_ ?_|refine zae rfl rfl ?_ ?_|refine zaf rfl rfl ?_ ?_|refine zac rfl rfl ?_ ?_|refine zab rfl rfl ?_ ?_)<;>intro<;>try (first |contradiction|(exfalso;omega)))|((first |refine zaw rfl rfl ?_ ?_|refine zag rfl rfl rfl rfl ?_ ?_|refine zaM rfl rfl ?_ ?_|refine zaJ rfl ?_ ?_|refine zaG rfl rfl rfl rfl ?_ ?_);focus (first |omega|exact le_ rfl|(simp_all;done)|(simp_all;omega)|((repeat' refine And.intro ?_ ?_)<;>first |omega|rfl|exact Nat.le_refl _|exact le_ rfl|exact zaa _|(simp_all;done)|(simp_all;omega))))|refine zaP rfl ?_|refine zaz rfl ?_|with_reducible refine ⟨by kernel_rfl, ?_⟩|refine zaQ rfl ?_|refine zaT rfl ?_|((with_reducible refine zaN ?_);(fail_if_success (refine zax true rfl rfl rfl ?_));(fail_if_success (refine zax false rfl rfl rfl ?_));refine zav rfl rfl (fun _ => ?_) (fun _ => ?_)))
      all_goals rfl
  · have : i = s.length := by omega
    subst this
    rw [List.take_length] at hall
    have hb : nmB s = decide (0 < s.length ∧ s.length ≤ 64) := by
      unfold nmB
      rw [hall]
      rfl
    rw [hb]
    repeat' (first |with_reducible (first |refine zaK ?_|refine zaj ?_|refine zaL ?_|refine zaB ?_|refine zaO ?_|refine zaD ?_|refine zaC ?_|refine zar ?_|refine zaq ?_|refine zaI ?_|refine zaE ?_|refine zas ?_|refine zaH ?_)|refine zaw rfl rfl True.intro ?_|refine zau rfl rfl rfl ?_|refine zao rfl rfl rfl ?_|refine zag rfl rfl rfl rfl True.intro ?_|refine zaF rfl ?_|refine zat rfl ?_|((first |refine zal rfl ?_ ?_|refine zan rfl ?_ ?_|refine zak rfl ?_ ?_|refine zam rfl ?_ ?_|refine zap rfl ?_ ?_|refine zaA rfl ?_ ?_|refine zad rfl rfl ?_ ?_|refine zae rfl rfl ?_ ?_|refine zaf rfl rfl ?_ ?_|refine zac rfl rfl ?_ ?_|refine zab rfl rfl ?_ ?_)<;>intro<;>try (first |contradiction|(exfalso;omega)))|((first |refine zaw rfl rfl ?_ ?_|refine zag rfl rfl rfl rfl ?_ ?_|refine zaM rfl rfl ?_ ?_|refine zaJ rfl ?_ ?_|refine zaG rfl rfl rfl rfl ?_ ?_);focus (first |omega|exact le_ rfl|(simp_all;done)|(simp_all;omega)|((repeat' refine And.intro ?_ ?_)<;>first |omega|rfl|exact Nat.le_refl _|exact le_ rfl|exact zaa _|(simp_all;done)|(simp_all;omega))))|refine zaP rfl ?_|refine zaz rfl ?_|with_reducible refine ⟨by kernel_rfl, ?_⟩|refine zaQ rfl ?_|refine zaT rfl ?_|((with_reducible refine zaN ?_);(fail_if_success (refine zax true rfl rfl rfl ?_));(fail_if_success (refine zax false rfl rfl rfl ?_));refine zav rfl rfl (fun _ => ?_) (fun _ => ?_)))
    all_goals
      refine congrArg D.b ?_
      rw [Bool.eq_iff_iff]
      simp only [decide_eq_true_eq, Bool.false_eq_true, false_iff]
      omega

set_option maxRecDepth 100000 in
set_option maxHeartbeats 16000000 in
theorem zdW (a b : List CmpR) (ha : smallL a) (hb : smallL b) : Ctr Tryz.prog 9 [.sl 5 a.length (cmpF a), .sl 5 b.length (cmpF b)] (.b (decide (a = b))) := by
  obtain ⟨ha1, ha2⟩ := ha
  obtain ⟨hb1, hb2⟩ := hb
  refine zbe Tryz.func9 rfl Tryz.ntmps9 Tryz.results9 rfl rfl fun X hL hX => ?_
  by_cases hlen : a.length = b.length
  rotate_left
  · have hlen' : ¬ (a.length : Int) = b.length := by omega
    repeat' (first |with_reducible (first |refine zaK ?_|refine zaj ?_|refine zaL ?_|refine zaB ?_|refine zaO ?_|refine zaD ?_|refine zaC ?_|refine zar ?_|refine zaq ?_|refine zaI ?_|refine zaE ?_|refine zas ?_|refine zaH ?_)|refine zaw rfl rfl True.intro ?_|refine zau rfl rfl rfl ?_|refine zao rfl rfl rfl ?_|refine zag rfl rfl rfl rfl True.intro ?_|refine zaF rfl ?_|refine zat rfl ?_|((first |refine zal rfl ?_ ?_|refine zan rfl ?_ ?_|refine zak rfl ?_ ?_|refine zam rfl ?_ ?_|refine zap rfl ?_ ?_|refine zaA rfl ?_ ?_|refine zad rfl rfl ?_ ?_|refine zae rfl rfl ?_ ?_|refine zaf rfl rfl ?_ ?_|refine zac rfl rfl ?_ ?_|refine zab rfl rfl ?_ ?_)<;>intro<;>try (first |contradiction|(exfalso;omega)))|((first |refine zaw rfl rfl ?_ ?_|refine zag rfl rfl rfl rfl ?_ ?_|refine zaM rfl rfl ?_ ?_|refine zaJ rfl ?_ ?_|refine zaG rfl rfl rfl rfl ?_ ?_);focus (first |omega|exact le_ rfl|((repeat first |rw [zay]|rw [wi6_]|rw [wi3_]|rw [zai]|rw [zah]);(repeat' refine And.intro ?_ ?_)<;>omega)|((repeat' refine And.intro ?_ ?_)<;>first |omega|rfl|exact Nat.le_refl _|exact le_ rfl|exact zaa _)|(simp_all;done)|(simp_all;omega)))|refine zaP rfl ?_|refine zaz rfl ?_|with_reducible refine ⟨by kernel_rfl, ?_⟩|refine zaQ rfl ?_|refine zaT rfl ?_|((with_reducible refine zaN ?_);(fail_if_success (refine zax true rfl rfl rfl ?_));(fail_if_success (refine zax false rfl rfl rfl ?_));refine zav rfl rfl (fun _ => ?_) (fun _ => ?_)))
    all_goals exact congrArg D.b (decide_eq_false fun h => hlen (by rw [h])).symm
  have hlen' : (a.length : Int) = b.length := by omega
  repeat' (first |with_reducible (first |refine zaK ?_|refine zaj ?_|refine zaL ?_|refine zaB ?_|refine zaO ?_|refine zaD ?_|refine zaC ?_|refine zar ?_|refine zaq ?_|refine zaI ?_|refine zaE ?_|refine zas ?_|refine zaH ?_)|refine zaw rfl rfl True.intro ?_|refine zau rfl rfl rfl ?_|refine zao rfl rfl rfl ?_|refine zag rfl rfl rfl rfl True.intro ?_|refine zaF rfl ?_|refine zat rfl ?_|((first |refine zal rfl ?_ ?_|refine zan rfl ?_ ?_|refine zak rfl ?_ ?_|refine zam rfl ?_ ?_|refine zap rfl ?_ ?_|refine zaA rfl ?_ ?_|refine zad rfl rfl ?_ ?_|refine zae rfl rfl ?_ ?_|refine zaf rfl rfl ?_ ?_|refine zac rfl rfl ?_ ?_|refine zab rfl rfl ?_ ?_)<;>intro<;>try (first |contradiction|(exfalso;omega)))|((first |refine zaw rfl rfl ?_ ?_|refine zag rfl rfl rfl rfl ?_ ?_|refine zaM rfl rfl ?_ ?_|refine zaJ rfl ?_ ?_|refine zaG rfl rfl rfl rfl ?_ ?_);focus (first |omega|exact le_ rfl|((repeat first |rw [zay]|rw [wi6_]|rw [wi3_]|rw [zai]|rw [zah]);(repeat' refine And.intro ?_ ?_)<;>omega)|((repeat' refine And.intro ?_ ?_)<;>first |omega|rfl|exact Nat.le_refl _|exact le_ rfl|exact zaa _)|(simp_all;done)|(simp_all;omega)))|refine zaP rfl ?_|refine zaz rfl ?_|with_reducible refine ⟨by kernel_rfl, ?_⟩|refine zaQ rfl ?_|refine zaT rfl ?_|((with_reducible refine zaN ?_);(fail_if_success (refine zax true rfl rfl rfl ?_));(fail_if_success (refine zax false rfl rfl rfl ?_));refine zav rfl rfl (fun _ => ?_) (fun _ => ?_)))
  refine T.loop hL (fun i : Nat => [(0, .sl 5 a.length (cmpF a)), (1, .sl 5 b.length (cmpF b)), (5, .i .i64 i)]) (fun _ => [])
    (fun i => i ≤ a.length ∧ a.take i = b.take i) (fun i => a.length - i) 0 ⟨by omega, by simp⟩
    ⟨⟨rfl, rfl, rfl, trivial⟩, trivial, rfl, by rw [hX]; simp⟩ ?_
  rintro i ⟨h1, h2⟩
  try dsimp only at h1 h2 ⊢
  by_cases hlt : i < a.length
  rotate_left
  · have he : a = b := zbQ h2 hlen (by omega)
    have hlt' : ¬ (i : Int) < a.length := by omega
    repeat' (first |with_reducible (first |refine zaK ?_|refine zaj ?_|refine zaL ?_|refine zaB ?_|refine zaO ?_|refine zaD ?_|refine zaC ?_|refine zar ?_|refine zaq ?_|refine zaI ?_|refine zaE ?_|refine zas ?_|refine zaH ?_)|refine zaw rfl rfl True.intro ?_|refine zau rfl rfl rfl ?_|refine zao rfl rfl rfl ?_|refine zag rfl rfl rfl rfl True.intro ?_|refine zaF rfl ?_|refine zat rfl ?_|((first |refine zal rfl ?_ ?_|refine zan rfl ?_ ?_|refine zak rfl ?_ ?_|refine zam rfl ?_ ?_|refine zap rfl ?_ ?_|refine zaA rfl ?_ ?_|refine zad rfl rfl ?_ ?_|refine zae rfl rfl ?_ ?_|refine zaf rfl rfl ?_ ?_|refine zac rfl rfl ?_ ?_|refine zab rfl rfl ?_ ?_)<;>intro<;>try (first |contradiction|(exfalso;omega)))|((first |refine zaw rfl rfl ?_ ?_|refine zag rfl rfl rfl rfl ?_ ?_|refine zaM rfl rfl ?_ ?_|refine zaJ rfl ?_ ?_|refine zaG rfl rfl rfl rfl ?_ ?_);focus (first |omega|exact le_ rfl|((repeat first |rw [zay]|rw [wi6_]|rw [wi3_]|rw [zai]|rw [zah]);(repeat' refine And.intro ?_ ?_)<;>omega)|((repeat' refine And.intro ?_ ?_)<;>first |omega|rfl|exact Nat.le_refl _|exact le_ rfl|exact zaa _)|(simp_all;done)|(simp_all;omega)))|refine zaP rfl ?_|refine zaz rfl ?_|with_reducible refine ⟨by kernel_rfl, ?_⟩|refine zaQ rfl ?_|refine zaT rfl ?_|((with_reducible refine zaN ?_);(fail_if_success (refine zax true rfl rfl rfl ?_));(fail_if_success (refine zax false rfl rfl rfl ?_));refine zav rfl rfl (fun _ => ?_) (fun _ => ?_)))
    all_goals exact congrArg D.b (decide_eq_true he).symm
  have hlt' : (i : Int) < a.length := by omega
  have hnat : (i : Int).toNat = i := Int.toNat_natCast i
  have hne : ¬ (a.getD (i : Int).toNat c0R) = (b.getD (i : Int).toNat c0R) → a ≠ b := fun h e => h (by rw [e])
  have hnx : (a.getD (i : Int).toNat c0R) = (b.getD (i : Int).toNat c0R) → a.take (i + 1) = b.take (i + 1) := fun h => zbD c0R h2 hlt (by omega) (by rwa [hnat] at h)
  clear h2
  obtain ⟨x1, x2⟩ := ha2 (i : Int).toNat
  obtain ⟨y1, y2⟩ := hb2 (i : Int).toNat
  clear ha2 hb2
  by_cases e1 : (a.getD (i : Int).toNat c0R).id = (b.getD (i : Int).toNat c0R).id
  rotate_left
  · have e1' : ¬ ((a.getD (i : Int).toNat c0R).id == (b.getD (i : Int).toNat c0R).id) = true := fun h => e1 (beq_iff_eq.1 h)
    have hne := hne fun h => e1 (by rw [h])
    repeat' (first |with_reducible (first |refine zaK ?_|refine zaj ?_|refine zaL ?_|refine zaB ?_|refine zaO ?_|refine zaD ?_|refine zaC ?_|refine zar ?_|refine zaq ?_|refine zaI ?_|refine zaE ?_|refine zas ?_|refine zaH ?_)|refine zaw rfl rfl True.intro ?_|refine zau rfl rfl rfl ?_|refine zao rfl rfl rfl ?_|refine zag rfl rfl rfl rfl True.intro ?_|refine zaF rfl ?_|refine zat rfl ?_|((first |refine zal rfl ?_ ?_|refine zan rfl ?_ ?_|refine zak rfl ?_ ?_|refine zam rfl ?_ ?_|refine zap rfl ?_ ?_|refine zaA rfl ?_ ?_|refine zad rfl rfl ?_ ?_|refine zae rfl rfl ?_ ?_|refine zaf rfl rfl ?_ ?_|refine zac rfl rfl ?_ ?_|refine zab rfl rfl ?_ ?_)<;>intro<;>try (first |contradiction|(exfalso;omega)))|((first |refine zaw rfl rfl ?_ ?_|refine zag rfl rfl rfl rfl ?_ ?_|refine zaM rfl rfl ?_ ?_|refine zaJ rfl ?_ ?_|refine zaG rfl rfl rfl rfl ?_ ?_);focus (first |omega|exact le_ rfl|((repeat first |rw [zay]|rw [wi6_]|rw [wi3_]|rw [zai]|rw [zah]);(repeat' refine And.intro ?_ ?_)<;>omega)|((repeat' refine And.intro ?_ ?_)<;>first |omega|rfl|exact Nat.le_refl _|exact le_ rfl|exact zaa _)|(simp_all;done)|(simp_all;omega)))|refine zaP rfl ?_|refine zaz rfl ?_|with_reducible refine ⟨by kernel_rfl, ?_⟩|refine zaQ rfl ?_|refine zaT rfl ?_|((with_reducible refine zaN ?_);(fail_if_success (refine zax true rfl rfl rfl ?_));(fail_if_success (refine zax false rfl rfl rfl ?_));refine zav rfl rfl (fun _ => ?_) (fun _ => ?_)))
    all_goals exact congrArg D.b (decide_eq_false hne).symm
  have e1' : ¬ ((a.getD (i : Int).toNat c0R).id == (b.getD (i : Int).toNat c0R).id) = false := fun h => beq_eq_false_iff_ne.1 h e1
  by_cases e2 : (a.getD (i : Int).toNat c0R).buf = (b.getD (i : Int).toNat c0R).buf
  rotate_left
  · have hne := hne fun h => e2 (by rw [h])
    repeat' (first |with_reducible (first |refine zaK ?_|refine zaj ?_|refine zaL ?_|refine zaB ?_|refine zaO ?_|refine zaD ?_|refine zaC ?_|refine zar ?_|refine zaq ?_|refine zaI ?_|refine zaE ?_|refine zas ?_|refine zaH ?_)|refine zaw rfl rfl True.intro ?_|refine zau rfl rfl rfl ?_|refine zao rfl rfl rfl ?_|refine zag rfl rfl rfl rfl True.intro ?_|refine zaF rfl ?_|refine zat rfl ?_|((first |refine zal rfl ?_ ?_|refine zan rfl ?_ ?_|refine zak rfl ?_ ?_|refine zam rfl ?_ ?_|refine zap rfl ?_ ?_|refine zaA rfl ?_ ?_|refine zad rfl rfl ?_ ?_|refine zae rfl rfl ?_ ?_|refine zaf rfl rfl ?_ ?_|refine zac rfl rfl ?_ ?_|refine zab rfl rfl ?_ ?_)<;>intro<;>try (first |contradiction|(exfalso;omega)))|((first |refine zaw rfl rfl ?_ ?_|refine zag rfl rfl rfl rfl ?_ ?_|refine zaM rfl rfl ?_ ?_|refine zaJ rfl ?_ ?_|refine zaG rfl rfl rfl rfl ?_ ?_);focus (first |omega|exact le_ rfl|((repeat first |rw [zay]|rw [wi6_]|rw [wi3_]|rw [zai]|rw [zah]);(repeat' refine And.intro ?_ ?_)<;>omega)|((repeat' refine And.intro ?_ ?_)<;>first |omega|rfl|exact Nat.le_refl _|exact le_ rfl|exact zaa _)|(simp_all;done)|(simp_all;omega)))|refine zaP rfl ?_|refine zaz rfl ?_|with_reducible refine ⟨by kernel_rfl, ?_⟩|refine zaQ rfl ?_|refine zaT rfl ?_|((with_reducible refine zaN ?_);(fail_if_success (refine zax true rfl rfl rfl ?_));(fail_if_success (refine zax false rfl rfl rfl ?_));refine zav rfl rfl (fun _ => ?_) (fun _ => ?_)))
    all_goals exact congrArg D.b (decide_eq_false hne).symm
  by_cases e3 : (a.getD (i : Int).toNat c0R).mx = (b.getD (i : Int).toNat c0R).mx
  rotate_left
  · have hne := hne fun h => e3 (by rw [h])
    repeat' (first |with_reducible (first |refine zaK ?_|refine zaj ?_|refine zaL ?_|refine zaB ?_|refine zaO ?_|refine zaD ?_|refine zaC ?_|refine zar ?_|refine zaq ?_|refine zaI ?_|refine zaE ?_|refine zas ?_|refine zaH ?_)|refine zaw rfl rfl True.intro ?_|refine zau rfl rfl rfl ?_|refine zao rfl rfl rfl ?_|refine zag rfl rfl rfl rfl True.intro ?_|refine zaF rfl ?_|refine zat rfl ?_|((first |refine zal rfl ?_ ?_|refine zan rfl ?_ ?_|refine zak rfl ?_ ?_|refine zam rfl ?_ ?_|refine zap rfl ?_ ?_|refine zaA rfl ?_ ?_|refine zad rfl rfl ?_ ?_|refine zae rfl rfl ?_ ?_|refine zaf rfl rfl ?_ ?_|refine zac rfl rfl ?_ ?_|refine zab rfl rfl ?_ ?_)<;>intro<;>try (first |contradiction|(exfalso;omega)))|((first |refine zaw rfl rfl ?_ ?_|refine zag rfl rfl rfl rfl ?_ ?_|refine zaM rfl rfl ?_ ?_|refine zaJ rfl ?_ ?_|refine zaG rfl rfl rfl rfl ?_ ?_);focus (first |omega|exact le_ rfl|((repeat first |rw [zay]|rw [wi6_]|rw [wi3_]|rw [zai]|rw [zah]);(repeat' refine And.intro ?_ ?_)<;>omega)|((repeat' refine And.intro ?_ ?_)<;>first |omega|rfl|exact Nat.le_refl _|exact le_ rfl|exact zaa _)|(simp_all;done)|(simp_all;omega)))|refine zaP rfl ?_|refine zaz rfl ?_|with_reducible refine ⟨by kernel_rfl, ?_⟩|refine zaQ rfl ?_|refine zaT rfl ?_|((with_reducible refine zaN ?_);(fail_if_success (refine zax true rfl rfl rfl ?_));(fail_if_success (refine zax false rfl rfl rfl ?_));refine zav rfl rfl (fun _ => ?_) (fun _ => ?_)))
    all_goals exact congrArg D.b (decide_eq_false hne).symm
  by_cases e4 : (a.getD (i : Int).toNat c0R).lim = (b.getD (i : Int).toNat c0R).lim
  rotate_left
  · have hne := hne fun h => e4 (by rw [h])
    repeat' (first |with_reducible (first |refine zaK ?_|refine zaj ?_|refine zaL ?_|refine zaB ?_|refine zaO ?_|refine zaD ?_|refine zaC ?_|refine zar ?_|refine zaq ?_|refine zaI ?_|refine zaE ?_|refine zas ?_|refine zaH ?_)|refine zaw rfl rfl True.intro ?_|refine zau rfl rfl rfl ?_|refine zao rfl rfl rfl ?_|refine zag rfl rfl rfl rfl True.intro ?_|refine zaF rfl ?_|refine zat rfl ?_|((first |refine zal rfl ?_ ?_|refine zan rfl ?_ ?_|refine zak rfl ?_ ?_|refine zam rfl ?_ ?_|refine zap rfl ?_ ?_|refine zaA rfl ?_ ?_|refine zad rfl rfl ?_ ?_|refine zae rfl rfl ?_ ?_|refine zaf rfl rfl ?_ ?_|refine zac rfl rfl ?_ ?_|refine zab rfl rfl ?_ ?_)<;>intro<;>try (first |contradiction|(exfalso;omega)))|((first |refine zaw rfl rfl ?_ ?_|refine zag rfl rfl rfl rfl ?_ ?_|refine zaM rfl rfl ?_ ?_|refine zaJ rfl ?_ ?_|refine zaG rfl rfl rfl rfl ?_ ?_);focus (first |omega|exact le_ rfl|((repeat first |rw [zay]|rw [wi6_]|rw [wi3_]|rw [zai]|rw [zah]);(repeat' refine And.intro ?_ ?_)<;>omega)|((repeat' refine And.intro ?_ ?_)<;>first |omega|rfl|exact Nat.le_refl _|exact le_ rfl|exact zaa _)|(simp_all;done)|(simp_all;omega)))|refine zaP rfl ?_|refine zaz rfl ?_|with_reducible refine ⟨by kernel_rfl, ?_⟩|refine zaQ rfl ?_|refine zaT rfl ?_|((with_reducible refine zaN ?_);(fail_if_success (refine zax true rfl rfl rfl ?_));(fail_if_success (refine zax false rfl rfl rfl ?_));refine zav rfl rfl (fun _ => ?_) (fun _ => ?_)))
    all_goals exact congrArg D.b (decide_eq_false hne).symm
  by_cases e5 : (a.getD (i : Int).toNat c0R).srcs.length = (b.getD (i : Int).toNat c0R).srcs.length
  rotate_left
  · have e5' : ¬ ((a.getD (i : Int).toNat c0R).srcs.length : Int) = (b.getD (i : Int).toNat c0R).srcs.length := by omega
    have hne := hne fun h => e5 (by rw [h])
    repeat' (first |with_reducible (first |refine zaK ?_|refine zaj ?_|refine zaL ?_|refine zaB ?_|refine zaO ?_|refine zaD ?_|refine zaC ?_|refine zar ?_|refine zaq ?_|refine zaI ?_|refine zaE ?_|refine zas ?_|refine zaH ?_)|refine zaw rfl rfl True.intro ?_|refine zau rfl rfl rfl ?_|refine zao rfl rfl rfl ?_|refine zag rfl rfl rfl rfl True.intro ?_|refine zaF rfl ?_|refine zat rfl ?_|((first |refine zal rfl ?_ ?_|refine zan rfl ?_ ?_|refine zak rfl ?_ ?_|refine zam rfl ?_ ?_|refine zap rfl ?_ ?_|refine zaA rfl ?_ ?_|refine zad rfl rfl ?_ ?_|refine zae rfl rfl ?_ ?_|refine zaf rfl rfl ?_ ?_|refine zac rfl rfl ?_ ?_|refine zab rfl rfl ?_ ?_)<;>intro<;>try (first |contradiction|(exfalso;omega)))|((first |refine zaw rfl rfl ?_ ?_|refine zag rfl rfl rfl rfl ?_ ?_|refine zaM rfl rfl ?_ ?_|refine zaJ rfl ?_ ?_|refine zaG rfl rfl rfl rfl ?_ ?_);focus (first |omega|exact le_ rfl|((repeat first |rw [zay]|rw [wi6_]|rw [wi3_]|rw [zai]|rw [zah]);(repeat' refine And.intro ?_ ?_)<;>omega)|((repeat' refine And.intro ?_ ?_)<;>first |omega|rfl|exact Nat.le_refl _|exact le_ rfl|exact zaa _)|(simp_all;done)|(simp_all;omega)))|refine zaP rfl ?_|refine zaz rfl ?_|with_reducible refine ⟨by kernel_rfl, ?_⟩|refine zaQ rfl ?_|refine zaT rfl ?_|((with_reducible refine zaN ?_);(fail_if_success (refine zax true rfl rfl rfl ?_));(fail_if_success (refine zax false rfl rfl rfl ?_));refine zav rfl rfl (fun _ => ?_) (fun _ => ?_)))
    all_goals exact congrArg D.b (decide_eq_false hne).symm
  have e5' : ((a.getD (i : Int).toNat c0R).srcs.length : Int) = (b.getD (i : Int).toNat c0R).srcs.length := by omega
  repeat' (first |with_reducible (first |refine zaK ?_|refine zaj ?_|refine zaL ?_|refine zaB ?_|refine zaO ?_|refine zaD ?_|refine zaC ?_|refine zar ?_|refine zaq ?_|refine zaI ?_|refine zaE ?_|refine zas ?_|refine zaH ?_)|refine zaw rfl rfl True.intro ?_|refine zau rfl rfl rfl ?_|refine zao rfl rfl rfl ?_|refine zag rfl rfl rfl rfl True.intro ?_|refine zaF rfl ?_|refine zat rfl ?_|((first |refine zal rfl ?_ ?_|refine zan rfl ?_ ?_|refine zak rfl ?_ ?_|refine zam rfl ?_ ?_|refine zap rfl ?_ ?_|refine zaA rfl ?_ ?_|refine zad rfl rfl ?_ ?_|refine zae rfl rfl ?_ ?_|refine zaf rfl rfl ?_ ?_|refine zac rfl rfl ?_ ?_|refine zab rfl rfl ?_ ?_)<;>intro<;>try (first |contradiction|(exfalso;omega)))|((first |refine zaw rfl rfl ?_ ?_|refine zag rfl rfl rfl rfl ?_ ?_|refine zaM rfl rfl ?_ ?_|refine zaJ rfl ?_ ?_|refine zaG rfl rfl rfl rfl ?_ ?_);focus (first |omega|exact le_ rfl|((repeat first |rw [zay]|rw [wi6_]|rw [wi3_]|rw [zai]|rw [zah]);(repeat' refine And.intro ?_ ?_)<;>omega)|((repeat' refine And.intro ?_ ?_)<;>first |omega|rfl|exact Nat.le_refl _|exact le_ rfl|exact zaa _)|(simp_all;done)|(simp_all;omega)))|refine zaP rfl ?_|refine zaz rfl ?_|with_reducible refine ⟨by kernel_rfl, ?_⟩|refine zaQ rfl ?_|refine zaT rfl ?_|((with_reducible refine zaN ?_);(fail_if_success (refine zax true rfl rfl rfl ?_));(fail_if_success (refine zax false rfl rfl rfl ?_));refine zav rfl rfl (fun _ => ?_) (fun _ => ?_)))
  refine T.loop hL (fun k : Nat => [(0, .sl 5 a.length (cmpF a)), (1, .sl 5 b.length (cmpF b)), (5, .i .i64 i), (6, .pv 6 0), (7, .pv 7 0), (8, .i .i64 k)]) (fun _ => [(6, .var (cmpP (a.getD (i : Int).toNat c0R))), (7, .var (cmpP (b.getD (i : Int).toNat c0R)))])
    (fun k => k ≤ (a.getD (i : Int).toNat c0R).srcs.length ∧ (a.getD (i : Int).toNat c0R).srcs.take k = (b.getD (i : Int).toNat c0R).srcs.take k) (fun k => (a.getD (i : Int).toNat c0R).srcs.length - k) 0 ⟨by omega, by simp⟩
    ⟨⟨rfl, rfl, rfl, rfl, rfl, rfl, trivial⟩, ⟨rfl, rfl, trivial⟩, rfl, by rw [hX]; simp⟩ ?_
  clear e1' e5'
  rintro k ⟨g1, g2⟩
  try dsimp only at g1 g2 ⊢
  by_cases klt : k < (a.getD (i : Int).toNat c0R).srcs.length
  rotate_left
  · have klt' : ¬ (k : Int) < (a.getD (i : Int).toNat c0R).srcs.length := by omega
    have he : (a.getD (i : Int).toNat c0R) = (b.getD (i : Int).toNat c0R) := (zeR _ _).1 ⟨e1, zbQ g2 e5 (by omega), e2, e3, e4⟩
    have hnx := hnx he
    repeat' (first |with_reducible (first |refine zaK ?_|refine zaj ?_|refine zaL ?_|refine zaB ?_|refine zaO ?_|refine zaD ?_|refine zaC ?_|refine zar ?_|refine zaq ?_|refine zaI ?_|refine zaE ?_|refine zas ?_|refine zaH ?_)|refine zaw rfl rfl True.intro ?_|refine zau rfl rfl rfl ?_|refine zao rfl rfl rfl ?_|refine zag rfl rfl rfl rfl True.intro ?_|refine zaF rfl ?_|refine zat rfl ?_|((first |refine zal rfl ?_ ?_|refine zan rfl ?_ ?_|refine zak rfl ?_ ?_|refine zam rfl ?_ ?_|refine zap rfl ?_ ?_|refine zaA rfl ?_ ?_|refine zad rfl rfl ?_ ?_|refine zae rfl rfl ?_ ?_|refine zaf rfl rfl ?_ ?_|refine zac rfl rfl ?_ ?_|refine zab rfl rfl ?_ ?_)<;>intro<;>try (first |contradiction|(exfalso;omega)))|((first |refine zaw rfl rfl ?_ ?_|refine zag rfl rfl rfl rfl ?_ ?_|refine zaM rfl rfl ?_ ?_|refine zaJ rfl ?_ ?_|refine zaG rfl rfl rfl rfl ?_ ?_);focus (first |omega|exact le_ rfl|((repeat first |rw [zay]|rw [wi6_]|rw [wi3_]|rw [zai]|rw [zah]);(repeat' refine And.intro ?_ ?_)<;>omega)|((repeat' refine And.intro ?_ ?_)<;>first |omega|rfl|exact Nat.le_refl _|exact le_ rfl|exact zaa _)|(simp_all;done)|(simp_all;omega)))|refine zaP rfl ?_|refine zaz rfl ?_|with_reducible refine ⟨by kernel_rfl, ?_⟩|refine zaQ rfl ?_|refine zaT rfl ?_|((with_reducible refine zaN ?_);(fail_if_success (refine zax true rfl rfl rfl ?_));(fail_if_success (refine zax false rfl rfl rfl ?_));refine zav rfl rfl (fun _ => ?_) (fun _ => ?_)))
    all_goals exact ⟨i + 1, ⟨by omega, hnx⟩, by omega, ⟨rfl, rfl, rfl, trivial⟩, trivial, rfl, by rw [hX]; simp⟩
  have klt' : (k : Int) < (a.getD (i : Int).toNat c0R).srcs.length := by omega
  have knat : (k : Int).toNat = k := Int.toNat_natCast k
  have c := zkC ((a.getD (i : Int).toNat c0R).srcs.getD (k : Int).toNat s0R) ((b.getD (i : Int).toNat c0R).srcs.getD (k : Int).toNat s0R) (x2 _) (y2 _)
  by_cases he : (a.getD (i : Int).toNat c0R).srcs.getD (k : Int).toNat s0R = (b.getD (i : Int).toNat c0R).srcs.getD (k : Int).toNat s0R
  · rw [decide_eq_true he] at c
    have hn := zbD s0R g2 klt (by omega) (by rwa [knat] at he)
    clear hne hnx
    repeat' (first |refine zaR (f := 20) rfl rfl Tryz.call20 rfl c ?_|with_reducible (first |refine zaK ?_|refine zaj ?_|refine zaL ?_|refine zaB ?_|refine zaO ?_|refine zaD ?_|refine zaC ?_|refine zar ?_|refine zaq ?_|refine zaI ?_|refine zaE ?_|refine zas ?_|refine zaH ?_)|refine zaw rfl rfl True.intro ?_|refine zau rfl rfl rfl ?_|refine zao rfl rfl rfl ?_|refine zag rfl rfl rfl rfl True.intro ?_|refine zaF rfl ?_|refine zat rfl ?_|((first |refine zal rfl ?_ ?_|refine zan rfl ?_ ?_|refine zak rfl ?_ ?_|refine zam rfl ?_ ?_|refine zap rfl ?_ ?_|refine zaA rfl ?_ ?_|refine zad rfl rfl ?_ ?_|refine zae rfl rfl ?_ ?_|refine zaf rfl rfl ?_ ?_|refine zac rfl rfl ?_ ?_|refine zab rfl rfl ?_ ?_)<;>intro<;>try (first |contradiction|(exfalso;omega)))|((first |refine zaw rfl rfl ?_ ?_|refine zag rfl rfl rfl rfl ?_ ?_|refine zaM rfl rfl ?_ ?_|refine zaJ rfl ?_ ?_|refine zaG rfl rfl rfl rfl ?_ ?_);focus (first |omega|exact le_ rfl|((repeat first |rw [zay]|rw [wi6_]|rw [wi3_]|rw [zai]|rw [zah]);(repeat' refine And.intro ?_ ?_)<;>omega)|((repeat' refine And.intro ?_ ?_)<;>first |omega|rfl|exact Nat.le_refl _|exact le_ rfl|exact zaa _)|(simp_all;done)|(simp_all;omega)))|refine zaP rfl ?_|refine zaz rfl ?_|with_reducible refine ⟨by kernel_rfl, ?_⟩|refine zaQ rfl ?_|refine zaT rfl ?_|((with_reducible refine zaN ?_);(fail_if_success (refine zax true rfl rfl rfl ?_));(fail_if_success (refine zax false rfl rfl rfl ?_));refine zav rfl rfl (fun _ => ?_) (fun _ => ?_)))
    all_goals exact ⟨k + 1, ⟨by omega, hn⟩, by omega, ⟨rfl, rfl, rfl, rfl, rfl, rfl, trivial⟩, ⟨rfl, rfl, trivial⟩, rfl, by rw [hX]; simp⟩
  · rw [decide_eq_false he] at c
    have hne := hne fun h => he (by rw [h])
    clear hnx
    repeat' (first |refine zaR (f := 20) rfl rfl Tryz.call20 rfl c ?_|with_reducible (first |refine zaK ?_|refine zaj ?_|refine zaL ?_|refine zaB ?_|refine zaO ?_|refine zaD ?_|refine zaC ?_|refine zar ?_|refine zaq ?_|refine zaI ?_|refine zaE ?_|refine zas ?_|refine zaH ?_)|refine zaw rfl rfl True.intro ?_|refine zau rfl rfl rfl ?_|refine zao rfl rfl rfl ?_|refine zag rfl rfl rfl rfl True.intro ?_|refine zaF rfl ?_|refine zat rfl ?_|((first |refine zal rfl ?_ ?_|refine zan rfl ?_ ?_|refine zak rfl ?_ ?_|refine zam rfl ?_ ?_|refine zap rfl ?_ ?_|refine zaA rfl ?_ ?_|refine zad rfl rfl ?_ ?_|refine zae rfl rfl ?_ ?_|refine zaf rfl rfl ?_ ?_|refine zac rfl rfl ?_ ?_|refine zab rfl rfl ?_ ?_)<;>intro<;>try (first |contradiction|(exfalso;omega)))|((first |refine zaw rfl rfl ?_ ?_|refine zag rfl rfl rfl rfl ?_ ?_|refine zaM rfl rfl ?_ ?_|refine zaJ rfl ?_ ?_|refine zaG rfl rfl rfl rfl ?_ ?_);focus (first |omega|exact le_ rfl|((repeat first |rw [zay]|rw [wi6_]|rw [wi3_]|rw [zai]|rw [zah]);(repeat' refine And.intro ?_ ?_)<;>omega)|((repeat' refine And.intro ?_ ?_)<;>first |omega|rfl|exact Nat.le_refl _|exact le_ rfl|exact zaa _)|(simp_all;done)|(simp_all;omega)))|refine zaP rfl ?_|refine zaz rfl ?_|with_reducible refine ⟨by kernel_rfl, ?_⟩|refine zaQ rfl ?_|refine zaT rfl ?_|((with_reducible refine zaN ?_);(fail_if_success (refine zax true rfl rfl rfl ?_));(fail_if_success (refine zax false rfl rfl rfl ?_));refine zav rfl rfl (fun _ => ?_) (fun _ => ?_)))
    all_goals exact congrArg D.b (decide_eq_false hne).symm

end Go.Proofs.YtcajofhafpkbdaaGreatDoor.Flow
