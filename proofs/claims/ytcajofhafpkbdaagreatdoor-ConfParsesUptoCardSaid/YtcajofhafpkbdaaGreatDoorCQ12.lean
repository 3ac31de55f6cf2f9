/- The texts G3, G4, G5, G6, G7, G8, FlowS, FlowW, FlowXc, one behind the other. -/
import Derived.Test.YtcajofhafpkbdaaGreatDoorCQ8
import Derived.Test.YtcajofhafpkbdaaGreatDoorCQ10
import Derived.Test.YtcajofhafpkbdaaGreatDoorCQ11
import Derived.Lib.OthersKept
namespace Go.Proofs.YtcajofhafpkbdaaGreatDoor.Flow
open Go
theorem zoY (a b : SrcR) : decide (a = b) = decide (sameS a b) := decide_eq_decide.2 (ziq a b).symm
set_option maxRecDepth 100000 in
set_option maxHeartbeats 16000000 in
theorem zlK (a b : SrcR) (ha : smallS a) (hb : smallS b) : Ctr Tryz.prog 20 [.ag (srcP a), .ag (srcP b)] (.b (decide (a = b))) := by
  obtain ⟨a1, a2, a3⟩ := ha
  obtain ⟨b1, b2, b3⟩ := hb
  have c2 := zdT a.only b.only a2 b2
  have c3 := zdT a.notl b.notl a3 b3
  refine zay Tryz.func20 rfl Tryz.ntmps20 Tryz.results20 rfl rfl fun X hL hX => ?_
  by_cases h1 : a.arch = b.arch
  rotate_left
  · have h1' : ¬ (a.arch == b.arch) = true := fun h => h1 (beq_iff_eq.1 h)
    repeat' (first |with_reducible (first |refine zag ?_|refine zaa ?_|refine zaf ?_|refine zad ?_|refine zaj ?_|refine zal ?_)|refine zab rfl rfl True.intro ?_|refine zau rfl rfl rfl ?_|refine zas rfl ?_|((first |refine zaF rfl rfl ?_ ?_)<;>intro<;>try (first |contradiction))|((first |refine zab rfl rfl ?_ ?_|refine zao rfl rfl ?_ ?_);focus (first |exact le_ rfl|((repeat' refine And.intro ?_ ?_)<;>omega)|((repeat' refine And.intro ?_ ?_)<;>first |rfl)))|refine zaw rfl ?_|fail)
    all_goals exact congrArg D.b (decide_eq_false fun h => h1 (by rw [h])).symm
  have h1' : ¬ (a.arch == b.arch) = false := fun h => beq_eq_false_iff_ne.1 h h1
  by_cases h2 : a.csv = b.csv
  rotate_left
  · have h2' : ¬ (a.csv == b.csv) = true := fun h => h2 (beq_iff_eq.1 h)
    repeat' (first |with_reducible (first |refine zag ?_|refine zaa ?_|refine zaf ?_|refine zad ?_|refine zaj ?_|refine zal ?_)|refine zab rfl rfl True.intro ?_|refine zau rfl rfl rfl ?_|refine zam rfl rfl rfl rfl True.intro ?_|refine zas rfl ?_|((first |refine zaF rfl rfl ?_ ?_)<;>intro<;>try (first |contradiction))|((first |refine zab rfl rfl ?_ ?_|refine zam rfl rfl rfl rfl ?_ ?_|refine zao rfl rfl ?_ ?_);focus (first |exact le_ rfl|((repeat' refine And.intro ?_ ?_)<;>omega)|((repeat' refine And.intro ?_ ?_)<;>first |rfl)))|refine zaw rfl ?_|fail)
    all_goals exact congrArg D.b (decide_eq_false fun h => h2 (by rw [h])).symm
  have h2' : ¬ (a.csv == b.csv) = false := fun h => beq_eq_false_iff_ne.1 h h2
  by_cases h3 : a.lays.length = b.lays.length
  rotate_left
  · have h3' : ¬ (a.lays.length : Int) = b.lays.length := by omega
    repeat' (first |with_reducible (first |refine zag ?_|refine zaa ?_|refine zaf ?_|refine zad ?_|refine zaj ?_|refine zal ?_)|refine zab rfl rfl True.intro ?_|refine zam rfl rfl rfl rfl True.intro ?_|((first |refine zat rfl ?_ ?_|refine zaF rfl rfl ?_ ?_)<;>intro<;>try (first |contradiction))|((first |refine zab rfl rfl ?_ ?_|refine zam rfl rfl rfl rfl ?_ ?_|refine zao rfl rfl ?_ ?_);focus (first |exact le_ rfl|((repeat' refine And.intro ?_ ?_)<;>omega)|((repeat' refine And.intro ?_ ?_)<;>first |rfl)))|refine zaw rfl ?_|fail)
    all_goals exact congrArg D.b (decide_eq_false fun h => h3 (by rw [h])).symm
  have h3' : (a.lays.length : Int) = b.lays.length := by omega
  repeat' (first |with_reducible (first |refine zag ?_|refine zaa ?_|refine zaf ?_|refine zad ?_|refine zai ?_|refine zae ?_)|refine zab rfl rfl True.intro ?_|refine zam rfl rfl rfl rfl True.intro ?_|((first |refine zat rfl ?_ ?_|refine zaF rfl rfl ?_ ?_)<;>intro<;>try (first |contradiction))|((first |refine zab rfl rfl ?_ ?_|refine zam rfl rfl rfl rfl ?_ ?_|refine zao rfl rfl ?_ ?_);focus (first |exact le_ rfl|((repeat' refine And.intro ?_ ?_)<;>omega)|((repeat' refine And.intro ?_ ?_)<;>first |rfl)))|fail)
  refine T.loop hL (fun i : Nat => [(2, .pv 2 0), (3, .pv 3 0), (5, .i .i64 i)]) (fun _ => [(2, .var (srcP a)), (3, .var (srcP b))])
    (fun i => i ≤ a.lays.length ∧ a.lays.take i = b.lays.take i) (fun i => a.lays.length - i) 0 ⟨by omega, by simp⟩
    ⟨⟨rfl, rfl, rfl, trivial⟩, ⟨rfl, rfl, trivial⟩, rfl, by rw [hX]; simp⟩ ?_
  rintro i ⟨g1, g2⟩
  try dsimp only at g1 g2 ⊢
  by_cases hlt : i < a.lays.length
  rotate_left
  · have he : a.lays = b.lays := zer g2 h3 (by omega)
    rw [zoY]
    unfold sameS
    clear h3 h3'
    have hlt' : ¬ (i : Int) < a.lays.length := by omega
    repeat' (first |refine zaM (f := 44) rfl rfl rfl rfl Tryz.call44 rfl c2 ?_|refine zaM (f := 44) rfl rfl rfl rfl Tryz.call44 rfl c3 ?_|with_reducible (first |refine zag ?_|refine zaa ?_|refine zaf ?_|refine zad ?_|refine zaj ?_|refine zaz ?_|refine zaA ?_|refine zaD ?_)|refine zab rfl rfl True.intro ?_|refine zau rfl rfl rfl ?_|refine zam rfl rfl rfl rfl True.intro ?_|((first |refine zac rfl ?_ ?_|refine zan rfl rfl ?_ ?_|refine zee rfl rfl ?_ ?_)<;>intro<;>try (first |contradiction))|((first |refine zab rfl rfl ?_ ?_|refine zam rfl rfl rfl rfl ?_ ?_|refine zao rfl rfl ?_ ?_|refine zar rfl ?_ ?_);focus (first |exact le_ rfl|((repeat' refine And.intro ?_ ?_)<;>omega)|((repeat' refine And.intro ?_ ?_)<;>first |rfl|exact Nat.le_refl _)))|refine zaJ rfl ?_|with_reducible refine ⟨by kernel_rfl, ?_⟩|refine zaw rfl ?_|fail)
    all_goals (refine congrArg D.b ?_; clear c2 c3 hL hX X; first | (simp_all; done) | (simp_all; generalize a.drop = p; generalize b.drop = q; cases p <;> cases q <;> rfl))
  clear c2 c3
  by_cases he : a.lays.getD i ([], []) = b.lays.getD i ([], [])
  · have hn := zds ([], []) g2 hlt (by omega) he
    have he' : ((a.lays.getD (i : Int).toNat ([], [])).1 == (b.lays.getD (i : Int).toNat ([], [])).1 && (a.lays.getD (i : Int).toNat ([], [])).2 == (b.lays.getD (i : Int).toNat ([], [])).2) = true := by rw [Int.toNat_natCast, he]; simp
    repeat' (first |with_reducible (first |refine zag ?_|refine zaa ?_|refine zaf ?_|refine zad ?_|refine zaj ?_|refine zai ?_|refine zae ?_|refine zaq ?_|refine zal ?_|refine zap ?_|refine zaD ?_)|refine zab rfl rfl True.intro ?_|((first |refine zac rfl ?_ ?_|refine zbw rfl ?_ ?_)<;>intro<;>try (first |(exfalso;omega)))|((first |refine zab rfl rfl ?_ ?_);focus (first |omega|exact le_ rfl|((repeat' refine And.intro ?_ ?_)<;>omega)))|with_reducible refine ⟨by kernel_rfl, ?_⟩|refine zaw rfl ?_|fail)
    all_goals first
      | exact ⟨i + 1, ⟨by omega, hn⟩, by omega, ⟨rfl, rfl, rfl, trivial⟩, ⟨rfl, rfl, trivial⟩, rfl, by rw [hX]; simp⟩
      | exact Bool.noConfusion (he'.symm.trans (by assumption : _ = false))
  · have hne : a ≠ b := fun h => he (by rw [h])
    have he' : ((a.lays.getD (i : Int).toNat ([], [])).1 == (b.lays.getD (i : Int).toNat ([], [])).1 && (a.lays.getD (i : Int).toNat ([], [])).2 == (b.lays.getD (i : Int).toNat ([], [])).2) = false := by
      rw [Int.toNat_natCast]
      refine Bool.eq_false_iff.2 fun h => he ?_
      simp only [Bool.and_eq_true, beq_iff_eq] at h
      exact Prod.ext h.1 h.2
    repeat' (first |with_reducible (first |refine zag ?_|refine zaa ?_|refine zaf ?_|refine zad ?_|refine zaj ?_|refine zai ?_|refine zae ?_|refine zaq ?_|refine zal ?_|refine zap ?_|refine zaD ?_)|refine zab rfl rfl True.intro ?_|((first |refine zac rfl ?_ ?_|refine zbw rfl ?_ ?_)<;>intro<;>try (first |(exfalso;omega)))|((first |refine zab rfl rfl ?_ ?_);focus (first |omega|exact le_ rfl|((repeat' refine And.intro ?_ ?_)<;>omega)))|with_reducible refine ⟨by kernel_rfl, ?_⟩|refine zaw rfl ?_|fail)
    all_goals first
      | exact congrArg D.b (decide_eq_false hne).symm
      | exact Bool.noConfusion ((by assumption : _ = true).symm.trans he')

theorem zlb {p : UInt8 → Bool} {s : List UInt8} {i : Nat} (h : i < s.length) : (s.take (i + 1)).all p = ((s.take i).all p && p (s.getD i 0)) := by
  rw [List.take_add_one, List.all_append]
  congr 1
  have : s[i]? = some (s.getD i 0) := by simp [List.getD_eq_getElem?_getD, h]
  rw [this]
  simp
theorem zkK {p : UInt8 → Bool} {s : List UInt8} {i : Nat} (h : i < s.length) (hc : p (s.getD i 0) = false) : s.all p = false := by
  rw [List.all_eq_false]
  refine ⟨s.getD i 0, ?_, ?_⟩
  · rw [List.getD_eq_getElem?_getD, List.getElem?_eq_getElem h, Option.getD_some]
    exact List.getElem_mem h
  · rw [hc]
    exact Bool.false_ne_true
theorem zqe (s : List UInt8) (i : Nat) : at' s i = ((s.getD i 0).toNat : Int) := by simp [at']
def nmC (c : UInt8) : Bool := (decide (97 ≤ c.toNat) && decide (c.toNat ≤ 122)) || (decide (48 ≤ c.toNat) && decide (c.toNat ≤ 57)) || decide (c.toNat = 95) || decide (c.toNat = 45)
def nmB (s : List UInt8) : Bool := s.all nmC && decide (0 < s.length ∧ s.length ≤ 64)
theorem zrK {c : UInt8} : nmC c = true ↔ (97 ≤ c.toNat ∧ c.toNat ≤ 122) ∨ (48 ≤ c.toNat ∧ c.toNat ≤ 57) ∨ c.toNat = 95 ∨ c.toNat = 45 := by
  simp only [nmC, Bool.or_eq_true, Bool.and_eq_true, decide_eq_true_eq]
  omega
theorem zsg {c : UInt8} : nmC c = false ↔ ¬ ((97 ≤ c.toNat ∧ c.toNat ≤ 122) ∨ (48 ≤ c.toNat ∧ c.toNat ≤ 57) ∨ c.toNat = 95 ∨ c.toNat = 45) := by
  rw [← zrK, Bool.not_eq_true]
set_option maxRecDepth 100000 in
theorem znU (s : List UInt8) (hs : s.length ≤ 4194304) : Ctr Tryz.prog 10 [.s s] (.b (nmB s)) := by
  refine zay Tryz.func10 rfl Tryz.ntmps10 Tryz.results10 rfl rfl fun X hL hX => ?_
  repeat' (first |with_reducible (first |refine zag ?_|refine zaa ?_|refine zaf ?_|refine zad ?_|refine zae ?_)|refine zab rfl rfl True.intro ?_|fail)
  refine T.loop hL (fun i : Nat => [(0, .s s), (6, .i .i64 s.length), (7, .i .i64 i)]) (fun _ => []) (fun i => i ≤ s.length ∧ (s.take i).all nmC = true) (fun i => s.length - i) 0 ⟨Nat.zero_le _, by simp⟩
    ⟨⟨rfl, rfl, rfl, trivial⟩, trivial, rfl, fun q hq => by rw [hX] at hq; simp at hq⟩ ?_
  rintro i ⟨hi, hall⟩
  by_cases hil : i < s.length
  · have hst := zlb (p := nmC) hil
    have ha := zqe s i
    cases hc : nmC (s.getD i 0) with
    | true =>
      have hcc := zrK.1 hc
      have hna : (97 ≤ at' s i ∧ at' s i ≤ 122) ∨ (48 ≤ at' s i ∧ at' s i ≤ 57) ∨ at' s i = 95 ∨ at' s i = 45 := by omega
      clear hcc ha
      repeat' (first |with_reducible (first |refine zag ?_|refine zaa ?_|refine zaf ?_|refine zad ?_|refine zai ?_|refine zae ?_|refine zaq ?_)|refine zab rfl rfl True.intro ?_|refine zau rfl rfl rfl ?_|refine zce rfl rfl rfl ?_|refine zam rfl rfl rfl rfl True.intro ?_|refine zak rfl ?_|((first |refine zac rfl ?_ ?_|refine zat rfl ?_ ?_|refine zan rfl rfl ?_ ?_)<;>intro<;>try (first |(exfalso;omega)))|((first |refine zab rfl rfl ?_ ?_);focus (first |omega))|fail)
      all_goals exact ⟨i + 1, ⟨by omega, by rw [hst, hall, hc]; rfl⟩, by omega, ⟨rfl, rfl, congrArg (D.i .i64) (by omega), trivial⟩, trivial, rfl, fun q hq => by rw [hX] at hq; simp at hq⟩
    | false =>
      have hcc := zsg.1 hc
      have hna : ¬ ((97 ≤ at' s i ∧ at' s i ≤ 122) ∨ (48 ≤ at' s i ∧ at' s i ≤ 57) ∨ at' s i = 95 ∨ at' s i = 45) := by omega
      have hb : nmB s = false := by
        unfold nmB
        rw [zkK hil hc]
        rfl
      rw [hb]
      clear hcc ha
      repeat' (first |with_reducible (first |refine zag ?_|refine zaa ?_|refine zaf ?_|refine zad ?_|refine zaj ?_|refine zai ?_|refine zae ?_|refine zal ?_|refine zap ?_)|refine zab rfl rfl True.intro ?_|refine zau rfl rfl rfl ?_|refine zam rfl rfl rfl rfl True.intro ?_|((first |refine zac rfl ?_ ?_|refine zat rfl ?_ ?_|refine zan rfl rfl ?_ ?_)<;>intro<;>try (first |(exfalso;omega)))|((first |refine zab rfl rfl ?_ ?_);focus (first |omega))|refine zaw rfl ?_|fail)
      all_goals rfl
  · have : i = s.length := by omega
    subst this
    rw [List.take_length] at hall
    have hb : nmB s = decide (0 < s.length ∧ s.length ≤ 64) := by
      unfold nmB
      rw [hall]
      rfl
    rw [hb]
    repeat' (first |with_reducible (first |refine zag ?_|refine zaa ?_|refine zaf ?_|refine zad ?_|refine zaj ?_|refine zaz ?_|refine zaA ?_)|refine zab rfl rfl True.intro ?_|refine zau rfl rfl rfl ?_|refine zam rfl rfl rfl rfl True.intro ?_|((first |refine zac rfl ?_ ?_|refine zan rfl rfl ?_ ?_)<;>intro<;>try (first |(exfalso;omega)))|refine zaJ rfl ?_|refine zaw rfl ?_|fail)
    all_goals
      refine congrArg D.b ?_
      rw [Bool.eq_iff_iff]
      simp only [decide_eq_true_eq, Bool.false_eq_true, false_iff]
      omega
set_option maxRecDepth 100000 in
theorem zox (s : List UInt8) (hs : s.length ≤ 4194304) : Ctr Tryz.prog 11 [.s s] (.b (nmB s)) := by
  refine zay Tryz.func11 rfl Tryz.ntmps11 Tryz.results11 rfl rfl fun X hL hX => ?_
  repeat' (first |with_reducible (first |refine zag ?_|refine zaa ?_|refine zaf ?_|refine zad ?_|refine zae ?_)|refine zab rfl rfl True.intro ?_|fail)
  refine T.loop hL (fun i : Nat => [(0, .s s), (3, .i .i64 i)]) (fun _ => []) (fun i => i ≤ s.length ∧ (s.take i).all nmC = true) (fun i => s.length - i) 0 ⟨Nat.zero_le _, by simp⟩
    ⟨⟨rfl, rfl, trivial⟩, trivial, rfl, fun q hq => by rw [hX] at hq; simp at hq⟩ ?_
  rintro i ⟨hi, hall⟩
  by_cases hil : i < s.length
  · have hst := zlb (p := nmC) hil
    have ha := zqe s i
    cases hc : nmC (s.getD i 0) with
    | true =>
      have hcc := zrK.1 hc
      have hna : (97 ≤ at' s i ∧ at' s i ≤ 122) ∨ (48 ≤ at' s i ∧ at' s i ≤ 57) ∨ at' s i = 95 ∨ at' s i = 45 := by omega
      clear hcc ha
      repeat' (first |with_reducible (first |refine zag ?_|refine zaa ?_|refine zaf ?_|refine zad ?_|refine zai ?_|refine zae ?_|refine zaq ?_)|refine zab rfl rfl True.intro ?_|refine zau rfl rfl rfl ?_|refine zce rfl rfl rfl ?_|refine zam rfl rfl rfl rfl True.intro ?_|refine zak rfl ?_|((first |refine zac rfl ?_ ?_|refine zat rfl ?_ ?_|refine zan rfl rfl ?_ ?_|refine zaQ rfl rfl ?_ ?_)<;>intro<;>try (first |(exfalso;omega)))|((first |refine zab rfl rfl ?_ ?_);focus (first |omega))|fail)
      all_goals exact ⟨i + 1, ⟨by omega, by rw [hst, hall, hc]; rfl⟩, by omega, ⟨rfl, congrArg (D.i .i64) (by omega), trivial⟩, trivial, rfl, fun q hq => by rw [hX] at hq; simp at hq⟩
    | false =>
      have hcc := zsg.1 hc
      have hna : ¬ ((97 ≤ at' s i ∧ at' s i ≤ 122) ∨ (48 ≤ at' s i ∧ at' s i ≤ 57) ∨ at' s i = 95 ∨ at' s i = 45) := by omega
      have hb : nmB s = false := by
        unfold nmB
        rw [zkK hil hc]
        rfl
      rw [hb]
      clear hcc ha
      repeat' (first |with_reducible (first |refine zag ?_|refine zaa ?_|refine zaf ?_|refine zad ?_|refine zaj ?_|refine zai ?_|refine zae ?_|refine zal ?_|refine zap ?_)|refine zab rfl rfl True.intro ?_|refine zau rfl rfl rfl ?_|refine zam rfl rfl rfl rfl True.intro ?_|((first |refine zac rfl ?_ ?_|refine zat rfl ?_ ?_|refine zan rfl rfl ?_ ?_|refine zaQ rfl rfl ?_ ?_)<;>intro<;>try (first |(exfalso;omega)))|((first |refine zab rfl rfl ?_ ?_);focus (first |omega))|refine zaw rfl ?_|fail)
      all_goals rfl
  · have : i = s.length := by omega
    subst this
    rw [List.take_length] at hall
    have hb : nmB s = decide (0 < s.length ∧ s.length ≤ 64) := by
      unfold nmB
      rw [hall]
      rfl
    rw [hb]
    repeat' (first |with_reducible (first |refine zag ?_|refine zaa ?_|refine zaf ?_|refine zad ?_|refine zaj ?_|refine zaz ?_|refine zaA ?_)|refine zab rfl rfl True.intro ?_|refine zau rfl rfl rfl ?_|refine zam rfl rfl rfl rfl True.intro ?_|((first |refine zac rfl ?_ ?_|refine zan rfl rfl ?_ ?_)<;>intro<;>try (first |(exfalso;omega)))|refine zaJ rfl ?_|refine zaw rfl ?_|fail)
    all_goals
      refine congrArg D.b ?_
      rw [Bool.eq_iff_iff]
      simp only [decide_eq_true_eq, Bool.false_eq_true, false_iff]
      omega
set_option maxRecDepth 100000 in
set_option maxHeartbeats 16000000 in
theorem zmu (a b : List CmpR) (ha : smallL a) (hb : smallL b) : Ctr Tryz.prog 9 [.sl 5 a.length (cmpF a), .sl 5 b.length (cmpF b)] (.b (decide (a = b))) := by
  obtain ⟨ha1, ha2⟩ := ha
  obtain ⟨hb1, hb2⟩ := hb
  refine zay Tryz.func9 rfl Tryz.ntmps9 Tryz.results9 rfl rfl fun X hL hX => ?_
  by_cases hlen : a.length = b.length
  rotate_left
  · have hlen' : ¬ (a.length : Int) = b.length := by omega
    repeat' (first |with_reducible (first |refine zag ?_|refine zaa ?_|refine zaf ?_|refine zad ?_|refine zaj ?_|refine zal ?_)|refine zab rfl rfl True.intro ?_|((first |refine zat rfl ?_ ?_)<;>intro<;>try (first |contradiction))|refine zaw rfl ?_|fail)
    all_goals exact congrArg D.b (decide_eq_false fun h => hlen (by rw [h])).symm
  have hlen' : (a.length : Int) = b.length := by omega
  repeat' (first |with_reducible (first |refine zag ?_|refine zaa ?_|refine zaf ?_|refine zad ?_|refine zai ?_|refine zae ?_)|refine zab rfl rfl True.intro ?_|((first |refine zat rfl ?_ ?_)<;>intro<;>try (first |contradiction))|fail)
  refine T.loop hL (fun i : Nat => [(0, .sl 5 a.length (cmpF a)), (1, .sl 5 b.length (cmpF b)), (5, .i .i64 i)]) (fun _ => [])
    (fun i => i ≤ a.length ∧ a.take i = b.take i) (fun i => a.length - i) 0 ⟨by omega, by simp⟩
    ⟨⟨rfl, rfl, rfl, trivial⟩, trivial, rfl, by rw [hX]; simp⟩ ?_
  rintro i ⟨h1, h2⟩
  try dsimp only at h1 h2 ⊢
  by_cases hlt : i < a.length
  rotate_left
  · have he : a = b := zer h2 hlen (by omega)
    have hlt' : ¬ (i : Int) < a.length := by omega
    repeat' (first |with_reducible (first |refine zag ?_|refine zaa ?_|refine zaf ?_|refine zad ?_|refine zaj ?_|refine zaz ?_|refine zaA ?_)|refine zab rfl rfl True.intro ?_|((first |refine zac rfl ?_ ?_)<;>intro<;>try (first |contradiction))|refine zaJ rfl ?_|refine zaw rfl ?_|fail)
    all_goals exact congrArg D.b (decide_eq_true he).symm
  have hlt' : (i : Int) < a.length := by omega
  have hnat : (i : Int).toNat = i := Int.toNat_natCast i
  have hne : ¬ (a.getD (i : Int).toNat c0R) = (b.getD (i : Int).toNat c0R) → a ≠ b := fun h e => h (by rw [e])
  have hnx : (a.getD (i : Int).toNat c0R) = (b.getD (i : Int).toNat c0R) → a.take (i + 1) = b.take (i + 1) := fun h => zds c0R h2 hlt (by omega) (by rwa [hnat] at h)
  clear h2
  obtain ⟨x1, x2⟩ := ha2 (i : Int).toNat
  obtain ⟨y1, y2⟩ := hb2 (i : Int).toNat
  clear ha2 hb2
  by_cases e1 : (a.getD (i : Int).toNat c0R).id = (b.getD (i : Int).toNat c0R).id
  rotate_left
  · have e1' : ¬ ((a.getD (i : Int).toNat c0R).id == (b.getD (i : Int).toNat c0R).id) = true := fun h => e1 (beq_iff_eq.1 h)
    have hne := hne fun h => e1 (by rw [h])
    repeat' (first |with_reducible (first |refine zag ?_|refine zaa ?_|refine zaf ?_|refine zad ?_|refine zaj ?_|refine zai ?_|refine zae ?_|refine zal ?_|refine zap ?_|refine zaD ?_)|refine zab rfl rfl True.intro ?_|refine zau rfl rfl rfl ?_|refine zas rfl ?_|((first |refine zac rfl ?_ ?_|refine zaF rfl rfl ?_ ?_)<;>intro<;>try (first |contradiction))|((first |refine zab rfl rfl ?_ ?_|refine zao rfl rfl ?_ ?_|refine zar rfl ?_ ?_);focus (first |omega|exact le_ rfl|((repeat' refine And.intro ?_ ?_)<;>omega)|((repeat' refine And.intro ?_ ?_)<;>first |rfl|exact Nat.le_refl _)))|with_reducible refine ⟨by kernel_rfl, ?_⟩|refine zaw rfl ?_|fail)
    all_goals exact congrArg D.b (decide_eq_false hne).symm
  have e1' : ¬ ((a.getD (i : Int).toNat c0R).id == (b.getD (i : Int).toNat c0R).id) = false := fun h => beq_eq_false_iff_ne.1 h e1
  by_cases e2 : (a.getD (i : Int).toNat c0R).buf = (b.getD (i : Int).toNat c0R).buf
  rotate_left
  · have hne := hne fun h => e2 (by rw [h])
    repeat' (first |with_reducible (first |refine zag ?_|refine zaa ?_|refine zaf ?_|refine zad ?_|refine zaj ?_|refine zai ?_|refine zae ?_|refine zal ?_|refine zap ?_|refine zaD ?_)|refine zab rfl rfl True.intro ?_|refine zau rfl rfl rfl ?_|refine zam rfl rfl rfl rfl True.intro ?_|refine zas rfl ?_|((first |refine zac rfl ?_ ?_|refine zaQ rfl rfl ?_ ?_|refine zaF rfl rfl ?_ ?_)<;>intro<;>try (first |contradiction))|((first |refine zab rfl rfl ?_ ?_|refine zam rfl rfl rfl rfl ?_ ?_|refine zao rfl rfl ?_ ?_|refine zar rfl ?_ ?_);focus (first |omega|exact le_ rfl|((repeat' refine And.intro ?_ ?_)<;>omega)|((repeat' refine And.intro ?_ ?_)<;>first |rfl|exact Nat.le_refl _)))|with_reducible refine ⟨by kernel_rfl, ?_⟩|refine zaw rfl ?_|fail)
    all_goals exact congrArg D.b (decide_eq_false hne).symm
  by_cases e3 : (a.getD (i : Int).toNat c0R).mx = (b.getD (i : Int).toNat c0R).mx
  rotate_left
  · have hne := hne fun h => e3 (by rw [h])
    repeat' (first |with_reducible (first |refine zag ?_|refine zaa ?_|refine zaf ?_|refine zad ?_|refine zaj ?_|refine zai ?_|refine zae ?_|refine zal ?_|refine zap ?_|refine zaD ?_)|refine zab rfl rfl True.intro ?_|refine zau rfl rfl rfl ?_|refine zam rfl rfl rfl rfl True.intro ?_|refine zas rfl ?_|((first |refine zac rfl ?_ ?_|refine zaQ rfl rfl ?_ ?_|refine zaF rfl rfl ?_ ?_)<;>intro<;>try (first |contradiction))|((first |refine zab rfl rfl ?_ ?_|refine zam rfl rfl rfl rfl ?_ ?_|refine zao rfl rfl ?_ ?_|refine zar rfl ?_ ?_);focus (first |omega|exact le_ rfl|((repeat' refine And.intro ?_ ?_)<;>omega)|((repeat' refine And.intro ?_ ?_)<;>first |rfl|exact Nat.le_refl _)))|with_reducible refine ⟨by kernel_rfl, ?_⟩|refine zaw rfl ?_|fail)
    all_goals exact congrArg D.b (decide_eq_false hne).symm
  by_cases e4 : (a.getD (i : Int).toNat c0R).lim = (b.getD (i : Int).toNat c0R).lim
  rotate_left
  · have hne := hne fun h => e4 (by rw [h])
    repeat' (first |with_reducible (first |refine zag ?_|refine zaa ?_|refine zaf ?_|refine zad ?_|refine zaj ?_|refine zai ?_|refine zae ?_|refine zal ?_|refine zap ?_|refine zaD ?_)|refine zab rfl rfl True.intro ?_|refine zau rfl rfl rfl ?_|refine zam rfl rfl rfl rfl True.intro ?_|refine zas rfl ?_|((first |refine zac rfl ?_ ?_|refine zaQ rfl rfl ?_ ?_|refine zaF rfl rfl ?_ ?_)<;>intro<;>try (first |contradiction))|((first |refine zab rfl rfl ?_ ?_|refine zam rfl rfl rfl rfl ?_ ?_|refine zao rfl rfl ?_ ?_|refine zar rfl ?_ ?_);focus (first |omega|exact le_ rfl|((repeat' refine And.intro ?_ ?_)<;>omega)|((repeat' refine And.intro ?_ ?_)<;>first |rfl|exact Nat.le_refl _)))|with_reducible refine ⟨by kernel_rfl, ?_⟩|refine zaw rfl ?_|fail)
    all_goals exact congrArg D.b (decide_eq_false hne).symm
  by_cases e5 : (a.getD (i : Int).toNat c0R).srcs.length = (b.getD (i : Int).toNat c0R).srcs.length
  rotate_left
  · have e5' : ¬ ((a.getD (i : Int).toNat c0R).srcs.length : Int) = (b.getD (i : Int).toNat c0R).srcs.length := by omega
    have hne := hne fun h => e5 (by rw [h])
    repeat' (first |with_reducible (first |refine zag ?_|refine zaa ?_|refine zaf ?_|refine zad ?_|refine zaj ?_|refine zai ?_|refine zae ?_|refine zal ?_|refine zap ?_|refine zaD ?_)|refine zab rfl rfl True.intro ?_|refine zam rfl rfl rfl rfl True.intro ?_|((first |refine zac rfl ?_ ?_|refine zat rfl ?_ ?_|refine zaQ rfl rfl ?_ ?_|refine zaF rfl rfl ?_ ?_)<;>intro<;>try (first |contradiction))|((first |refine zab rfl rfl ?_ ?_|refine zam rfl rfl rfl rfl ?_ ?_|refine zao rfl rfl ?_ ?_|refine zar rfl ?_ ?_);focus (first |omega|exact le_ rfl|((repeat' refine And.intro ?_ ?_)<;>omega)|((repeat' refine And.intro ?_ ?_)<;>first |rfl|exact Nat.le_refl _)))|with_reducible refine ⟨by kernel_rfl, ?_⟩|refine zaw rfl ?_|fail)
    all_goals exact congrArg D.b (decide_eq_false hne).symm
  have e5' : ((a.getD (i : Int).toNat c0R).srcs.length : Int) = (b.getD (i : Int).toNat c0R).srcs.length := by omega
  repeat' (first |with_reducible (first |refine zag ?_|refine zaa ?_|refine zaf ?_|refine zad ?_|refine zai ?_|refine zae ?_|refine zaD ?_)|refine zab rfl rfl True.intro ?_|refine zam rfl rfl rfl rfl True.intro ?_|((first |refine zac rfl ?_ ?_|refine zat rfl ?_ ?_|refine zaQ rfl rfl ?_ ?_|refine zaF rfl rfl ?_ ?_)<;>intro<;>try (first |contradiction))|((first |refine zab rfl rfl ?_ ?_|refine zam rfl rfl rfl rfl ?_ ?_|refine zao rfl rfl ?_ ?_|refine zar rfl ?_ ?_);focus (first |omega|exact le_ rfl|((repeat' refine And.intro ?_ ?_)<;>omega)|((repeat' refine And.intro ?_ ?_)<;>first |rfl|exact Nat.le_refl _)))|with_reducible refine ⟨by kernel_rfl, ?_⟩|fail)
  refine T.loop hL (fun k : Nat => [(0, .sl 5 a.length (cmpF a)), (1, .sl 5 b.length (cmpF b)), (5, .i .i64 i), (6, .pv 6 0), (7, .pv 7 0), (8, .i .i64 k)]) (fun _ => [(6, .var (cmpP (a.getD (i : Int).toNat c0R))), (7, .var (cmpP (b.getD (i : Int).toNat c0R)))])
    (fun k => k ≤ (a.getD (i : Int).toNat c0R).srcs.length ∧ (a.getD (i : Int).toNat c0R).srcs.take k = (b.getD (i : Int).toNat c0R).srcs.take k) (fun k => (a.getD (i : Int).toNat c0R).srcs.length - k) 0 ⟨by omega, by simp⟩
    ⟨⟨rfl, rfl, rfl, rfl, rfl, rfl, trivial⟩, ⟨rfl, rfl, trivial⟩, rfl, by rw [hX]; simp⟩ ?_
  clear e1' e5'
  rintro k ⟨g1, g2⟩
  try dsimp only at g1 g2 ⊢
  by_cases klt : k < (a.getD (i : Int).toNat c0R).srcs.length
  rotate_left
  · have klt' : ¬ (k : Int) < (a.getD (i : Int).toNat c0R).srcs.length := by omega
    have he : (a.getD (i : Int).toNat c0R) = (b.getD (i : Int).toNat c0R) := (zid _ _).1 ⟨e1, zer g2 e5 (by omega), e2, e3, e4⟩
    have hnx := hnx he
    repeat' (first |with_reducible (first |refine zag ?_|refine zaa ?_|refine zaf ?_|refine zad ?_|refine zaz ?_|refine zaq ?_|refine zaA ?_)|refine zab rfl rfl True.intro ?_|((first |refine zac rfl ?_ ?_)<;>intro<;>try (first |contradiction))|((first |refine zab rfl rfl ?_ ?_);focus (first |omega|exact le_ rfl|((repeat' refine And.intro ?_ ?_)<;>omega)))|refine zaJ rfl ?_|fail)
    all_goals exact ⟨i + 1, ⟨by omega, hnx⟩, by omega, ⟨rfl, rfl, rfl, trivial⟩, trivial, rfl, by rw [hX]; simp⟩
  have klt' : (k : Int) < (a.getD (i : Int).toNat c0R).srcs.length := by omega
  have knat : (k : Int).toNat = k := Int.toNat_natCast k
  have c := zlK ((a.getD (i : Int).toNat c0R).srcs.getD (k : Int).toNat s0R) ((b.getD (i : Int).toNat c0R).srcs.getD (k : Int).toNat s0R) (x2 _) (y2 _)
  by_cases he : (a.getD (i : Int).toNat c0R).srcs.getD (k : Int).toNat s0R = (b.getD (i : Int).toNat c0R).srcs.getD (k : Int).toNat s0R
  · rw [decide_eq_true he] at c
    have hn := zds s0R g2 klt (by omega) (by rwa [knat] at he)
    clear hne hnx
    repeat' (first |refine zah (f := 20) rfl rfl Tryz.call20 rfl c ?_|with_reducible (first |refine zag ?_|refine zaa ?_|refine zaf ?_|refine zad ?_|refine zai ?_|refine zae ?_|refine zaq ?_|refine zaD ?_)|refine zab rfl rfl True.intro ?_|refine zak rfl ?_|((first |refine zac rfl ?_ ?_)<;>intro<;>try (first |contradiction))|((first |refine zab rfl rfl ?_ ?_);focus (first |omega|exact le_ rfl|((repeat' refine And.intro ?_ ?_)<;>omega)))|with_reducible refine ⟨by kernel_rfl, ?_⟩|fail)
    all_goals exact ⟨k + 1, ⟨by omega, hn⟩, by omega, ⟨rfl, rfl, rfl, rfl, rfl, rfl, trivial⟩, ⟨rfl, rfl, trivial⟩, rfl, by rw [hX]; simp⟩
  · rw [decide_eq_false he] at c
    have hne := hne fun h => he (by rw [h])
    clear hnx
    repeat' (first |refine zah (f := 20) rfl rfl Tryz.call20 rfl c ?_|with_reducible (first |refine zag ?_|refine zaa ?_|refine zaf ?_|refine zad ?_|refine zaj ?_|refine zai ?_|refine zae ?_|refine zal ?_|refine zap ?_|refine zaD ?_)|refine zab rfl rfl True.intro ?_|refine zas rfl ?_|((first |refine zac rfl ?_ ?_)<;>intro<;>try (first |contradiction))|((first |refine zab rfl rfl ?_ ?_);focus (first |omega|exact le_ rfl|((repeat' refine And.intro ?_ ?_)<;>omega)))|with_reducible refine ⟨by kernel_rfl, ?_⟩|refine zaw rfl ?_|fail)
    all_goals exact congrArg D.b (decide_eq_false hne).symm

def bigT (t : Txt) : Prop := t.length ≤ 1048576
def bigS (s : SrcR) : Prop := bigT s.arch ∧ bigT s.csv ∧ bigT s.key ∧ bigT s.attr ∧ (∀ i, bigT (s.only.getD i [])) ∧ (∀ i, bigT (s.notl.getD i [])) ∧ ∀ i, bigT (s.lays.getD i ([], [])).1 ∧ bigT (s.lays.getD i ([], [])).2
def bigC (c : CmpR) : Prop := bigT c.id ∧ ∀ i, bigS (c.srcs.getD i s0R)
theorem Weak.sl_ofG {e n n' : Nat} {f g : Nat → List D} (hn : n = n') (h : ∀ i, i < n → f i = g i) (hp : ∀ i, i < n → (g i).all D.plain = true) : Weak (.sl e n f) (.sl e n' g) := by
  subst hn
  refine .sl e n f g (fun i hi => ⟨by rw [h i hi], hp i hi⟩) fun i j hi _ => ?_
  rw [h i hi]
  exact .refl _

theorem zjO (n m : Int) : Ctr Tryz.prog 37 [.i .i64 n, .i .i64 m] (.b (decide (0 ≤ n ∧ n ≤ m))) := by
  refine zay Tryz.func37 rfl Tryz.ntmps37 Tryz.results37 rfl rfl fun X hL hX => ?_
  by_cases h1 : 0 ≤ n
  · skip
    repeat' (first |with_reducible (first |refine zag ?_|refine zaa ?_|refine zaf ?_|refine zad ?_|refine zaj ?_)|refine zab rfl rfl True.intro ?_|refine zam rfl rfl rfl rfl True.intro ?_|((first |refine zan rfl rfl ?_ ?_)<;>intro<;>try (first |contradiction))|refine zaw rfl ?_|fail)
    all_goals first
      | exact congrArg D.b (decide_eq_decide.2 ⟨fun h => ⟨h1, h⟩, fun h => h.2⟩)
      | (exfalso; omega)
      | trace_state
  · skip
    repeat' (first |with_reducible (first |refine zag ?_|refine zaa ?_|refine zaf ?_|refine zad ?_|refine zaj ?_)|refine zab rfl rfl True.intro ?_|refine zau rfl rfl rfl ?_|((first |refine zan rfl rfl ?_ ?_)<;>intro<;>try (first |contradiction))|refine zaw rfl ?_|fail)
    all_goals first
      | exact congrArg D.b (decide_eq_false fun h => h1 h.1).symm
      | (exfalso; omega)
      | trace_state
theorem zpJ (t : Txt) (ht : t.length ≤ 1099511627776) : Ctr Tryz.prog 68 [.s t] (.b (!validL t)) := by
  have c := zdg t ht
  refine zay Tryz.func68 rfl Tryz.ntmps68 Tryz.results68 rfl rfl fun X hL hX => ?_
  repeat' (first |refine zah (f := 69) rfl rfl Tryz.call69 rfl c ?_|with_reducible (first |refine zag ?_|refine zaa ?_|refine zaf ?_|refine zad ?_|refine zaj ?_)|refine zab rfl rfl True.intro ?_|refine zaw rfl ?_|fail)
  all_goals rfl
def noneJ (s : SrcR) : Prop := s.key = [] ∧ s.attr = [] ∧ (s.only.length : Int) + (s.notl.length : Int) = 0 ∧ s.texts = false ∧ s.drop = false
instance (s : SrcR) : Decidable (noneJ s) := by unfold noneJ; infer_instance
def joinP (s : SrcR) : List D := [.s s.key, .s s.attr, .sl 1 s.only.length (txF s.only), .sl 1 s.notl.length (txF s.notl), .b s.texts, .b s.drop]
set_option maxRecDepth 100000 in
set_option maxHeartbeats 4000000 in
theorem zna (s : SrcR) (hs : smallS s) : Ctr Tryz.prog 72 [.ag (joinP s)] (.b (decide (noneJ s))) := by
  obtain ⟨_, h2, h3⟩ := hs
  unfold noneJ
  refine zay Tryz.func72 rfl Tryz.ntmps72 Tryz.results72 rfl rfl fun X hL hX => ?_
  repeat' (first |with_reducible (first |refine zag ?_|refine zaa ?_|refine zaf ?_|refine zad ?_|refine zaj ?_)|refine zab rfl rfl True.intro ?_|refine zau rfl rfl rfl ?_|refine zam rfl rfl rfl rfl True.intro ?_|((first |refine zan rfl rfl ?_ ?_|refine zee rfl rfl ?_ ?_|refine zaF rfl rfl ?_ ?_)<;>intro)|((first |refine zab rfl rfl ?_ ?_|refine zam rfl rfl rfl rfl ?_ ?_|refine zao rfl rfl ?_ ?_);focus (first |omega|exact le_ rfl|((repeat' refine And.intro ?_ ?_)<;>omega)|((repeat' refine And.intro ?_ ?_)<;>first |rfl)))|refine zaw rfl ?_|fail)
  all_goals (refine congrArg D.b ?_; clear hL hX X h2 h3; first | (simp_all; done) | (simp_all; generalize s.drop = q; cases q <;> rfl))
def badT : List Txt → Int
  | [] => -1
  | t :: r => if validL t = true then (if badT r < 0 then -1 else badT r + 1) else 0
theorem zkU : ∀ {l : List Txt} {i : Nat}, i < l.length → (∀ j, j < i → validL (l.getD j []) = true) → validL (l.getD i []) = false → badT l = i
  | [], _, h, _, _ => by simp at h
  | t :: r, 0, _, _, h => by
    have h : validL t = false := by simpa using h
    rw [badT, h]
    rfl
  | t :: r, i + 1, hi, h1, h => by
    have h0 : validL t = true := by simpa using h1 0 (by omega)
    have ih := zkU (l := r) (i := i) (by simpa using hi) (fun j hj => by simpa using h1 (j + 1) (by omega)) (by simpa using h)
    rw [badT, if_pos h0, ih, if_neg (by omega)]
    omega
theorem zgf : ∀ {l : List Txt}, (∀ j, j < l.length → validL (l.getD j []) = true) → badT l = -1
  | [], _ => rfl
  | t :: r, h1 => by
    have h0 : validL t = true := by simpa using h1 0 (by simp)
    have ih := zgf (l := r) fun j hj => by simpa using h1 (j + 1) (by simpa using hj)
    rw [badT, if_pos h0, ih]
    rfl
theorem zhh : ∀ l : List Txt, (0 ≤ badT l ↔ l.all validL = false)
  | [] => by simp [badT]
  | t :: r => by
    have ih := zhh r
    rw [badT, List.all_cons]
    by_cases h0 : validL t = true
    · rw [if_pos h0, h0, Bool.true_and]
      by_cases h1 : badT r < 0
      · rw [if_pos h1, ← ih]
        omega
      · rw [if_neg h1, ← ih]
        omega
    · rw [if_neg h0]
      have h0 : validL t = false := by simpa using h0
      simp [h0]
set_option maxRecDepth 100000 in
set_option maxHeartbeats 2000000 in
theorem zjF (l : List Txt) (hl : l.length ≤ 4194304) (hb : ∀ i, (l.getD i []).length ≤ 1099511627776) :
    Ctr Tryz.prog 102 [.sl 1 l.length (txF l), .fn 68 []] (.i .i64 (badT l)) := by
  refine zay Tryz.func102 rfl Tryz.ntmps102 Tryz.results102 rfl rfl fun X hL hX => ?_
  repeat' (first |with_reducible (first |refine zag ?_|refine zaa ?_|refine zaf ?_|refine zad ?_|refine zae ?_)|refine zab rfl rfl True.intro ?_|fail)
  refine T.loop hL (fun i : Nat => [(0, .sl 1 l.length (txF l)), (1, .fn 68 []), (7, .i .i64 l.length), (8, .i .i64 i)]) (fun _ => [])
    (fun i => i ≤ l.length ∧ ∀ j, j < i → validL (l.getD j []) = true) (fun i => l.length - i) 0 ⟨Nat.zero_le _, fun j h => absurd h (Nat.not_lt_zero _)⟩
    ⟨⟨rfl, rfl, rfl, rfl, trivial⟩, trivial, rfl, by rw [hX]; simp⟩ ?_
  rintro i ⟨g1, g2⟩
  try dsimp only at g1 g2 ⊢
  have hnat : (i : Int).toNat = i := Int.toNat_natCast i
  by_cases hil : i < l.length
  rotate_left
  · rw [zgf (fun j hj => g2 j (by omega))]
    have hil' : ¬ (i : Int) < l.length := by omega
    repeat' (first |with_reducible (first |refine zag ?_|refine zaa ?_|refine zaf ?_|refine zad ?_|refine zaj ?_|refine zaz ?_|refine zaA ?_)|refine zab rfl rfl True.intro ?_|((first |refine zac rfl ?_ ?_)<;>intro<;>try (first |contradiction))|refine zaJ rfl ?_|refine zaw rfl ?_|fail)
    all_goals rfl
  have hil' : (i : Int) < l.length := by omega
  have c := zpJ (l.getD (i : Int).toNat []) (hb _)
  cases hv : validL (l.getD (i : Int).toNat []) with
  | true =>
    rw [hv] at c
    have g3 : ∀ j, j < i + 1 → validL (l.getD j []) = true := fun j hj => by
      by_cases e : j = i
      · rw [e]
        rwa [hnat] at hv
      · exact g2 j (by omega)
    clear g2
    repeat' (first |refine zah (f := 68) rfl rfl Tryz.call68 rfl c ?_|with_reducible (first |refine zag ?_|refine zaa ?_|refine zaf ?_|refine zad ?_|refine zai ?_|refine zae ?_|refine zaq ?_)|refine zab rfl rfl True.intro ?_|refine zak rfl ?_|((first |refine zac rfl ?_ ?_)<;>intro<;>try (first |contradiction))|((first |refine zab rfl rfl ?_ ?_);focus (first |omega|exact le_ rfl|((repeat' refine And.intro ?_ ?_)<;>omega)))|fail)
    all_goals exact ⟨i + 1, ⟨by omega, g3⟩, by omega, ⟨rfl, rfl, rfl, rfl, trivial⟩, trivial, rfl, by rw [hX]; simp⟩
  | false =>
    rw [hv] at c
    rw [zkU hil g2 (by rwa [hnat] at hv)]
    clear g2
    repeat' (first |refine zah (f := 68) rfl rfl Tryz.call68 rfl c ?_|with_reducible (first |refine zag ?_|refine zaa ?_|refine zaf ?_|refine zad ?_|refine zaj ?_|refine zai ?_|refine zae ?_|refine zal ?_|refine zap ?_)|refine zab rfl rfl True.intro ?_|refine zas rfl ?_|((first |refine zac rfl ?_ ?_)<;>intro<;>try (first |contradiction))|((first |refine zab rfl rfl ?_ ?_);focus (first |omega|exact le_ rfl|((repeat' refine And.intro ?_ ?_)<;>omega)))|refine zaw rfl ?_|fail)
    all_goals rfl
set_option maxRecDepth 100000 in
theorem zmo (l : List Txt) (hl : l.length ≤ 4194304) (hb : ∀ i, (l.getD i []).length ≤ 1099511627776) :
    Ctr Tryz.prog 70 [.sl 1 l.length (txF l), .fn 68 []] (.b (!l.all validL)) := by
  have c := zjF l hl hb
  have ha := zhh l
  refine zay Tryz.func70 rfl Tryz.ntmps70 Tryz.results70 rfl rfl fun X hL hX => ?_
  repeat' (first |refine zah (f := 102) rfl rfl Tryz.call102 rfl c ?_|with_reducible (first |refine zag ?_|refine zaa ?_|refine zaf ?_|refine zad ?_|refine zaj ?_)|refine zab rfl rfl True.intro ?_|refine zaw rfl ?_|fail)
  all_goals (refine congrArg D.b ?_; cases hq : l.all validL <;> simp_all)

theorem zse {l : List Txt} (h : ∀ j, j < l.length → validL (l.getD j []) = true) : l.all validL = true := by
  have := zhh l
  rw [zgf h] at this
  cases hq : l.all validL with
  | true => rfl
  | false => exact absurd (this.2 hq) (by decide)
theorem zqS {l : List Txt} {i : Nat} (hi : i < l.length) (h : validL (l.getD i []) = false) : l.all validL = false := by
  cases hq : l.all validL with
  | false => rfl
  | true =>
    have := List.all_eq_true.1 hq (l.getD i []) (by
      rw [show l.getD i [] = l[i] by simp [List.getD_eq_getElem?_getD, hi]]
      exact List.getElem_mem hi)
    rw [h] at this
    cases this
set_option maxRecDepth 100000 in
set_option maxHeartbeats 2000000 in
theorem zcT (l : List Txt) (hl : l.length ≤ 4194304) (hb : ∀ i, (l.getD i []).length ≤ 1099511627776) : Ctr Tryz.prog 73 [.sl 1 l.length (txF l)] (.b (l.all validL)) := by
  refine zay Tryz.func73 rfl Tryz.ntmps73 Tryz.results73 rfl rfl fun X hL hX => ?_
  repeat' (first |with_reducible (first |refine zag ?_|refine zaa ?_|refine zaf ?_|refine zad ?_|refine zae ?_)|refine zab rfl rfl True.intro ?_|fail)
  refine T.loop hL (fun i : Nat => [(0, .sl 1 l.length (txF l)), (3, .i .i64 i)]) (fun _ => [])
    (fun i => i ≤ l.length ∧ ∀ j, j < i → validL (l.getD j []) = true) (fun i => l.length - i) 0 ⟨Nat.zero_le _, fun j h => absurd h (Nat.not_lt_zero _)⟩
    ⟨⟨rfl, rfl, trivial⟩, trivial, rfl, by rw [hX]; simp⟩ ?_
  rintro i ⟨g1, g2⟩
  try dsimp only at g1 g2 ⊢
  have hnat : (i : Int).toNat = i := Int.toNat_natCast i
  by_cases hil : i < l.length
  rotate_left
  · rw [zse (fun j hj => g2 j (by omega))]
    have hil' : ¬ (i : Int) < l.length := by omega
    repeat' (first |with_reducible (first |refine zag ?_|refine zaa ?_|refine zaf ?_|refine zad ?_|refine zaj ?_|refine zaz ?_|refine zaA ?_)|refine zab rfl rfl True.intro ?_|((first |refine zac rfl ?_ ?_)<;>intro<;>try (first |contradiction))|refine zaJ rfl ?_|refine zaw rfl ?_|fail)
    all_goals rfl
  have hil' : (i : Int) < l.length := by omega
  have c := zgp (l.getD (i : Int).toNat []) (hb _)
  cases hv : validL (l.getD (i : Int).toNat []) with
  | true =>
    rw [hv] at c
    have g3 : ∀ j, j < i + 1 → validL (l.getD j []) = true := fun j hj => by
      by_cases e : j = i
      · rw [e]
        rwa [hnat] at hv
      · exact g2 j (by omega)
    clear g2
    repeat' (first |refine zah (f := 104) rfl rfl Tryz.call104 rfl c ?_|with_reducible (first |refine zag ?_|refine zaa ?_|refine zaf ?_|refine zad ?_|refine zai ?_|refine zae ?_|refine zaq ?_)|refine zab rfl rfl True.intro ?_|refine zak rfl ?_|((first |refine zac rfl ?_ ?_)<;>intro<;>try (first |contradiction))|((first |refine zab rfl rfl ?_ ?_);focus (first |omega|exact le_ rfl|((repeat' refine And.intro ?_ ?_)<;>omega)))|fail)
    all_goals exact ⟨i + 1, ⟨by omega, g3⟩, by omega, ⟨rfl, rfl, trivial⟩, trivial, rfl, by rw [hX]; simp⟩
  | false =>
    rw [hv] at c
    rw [zqS hil (by rwa [hnat] at hv)]
    clear g2
    repeat' (first |refine zah (f := 104) rfl rfl Tryz.call104 rfl c ?_|with_reducible (first |refine zag ?_|refine zaa ?_|refine zaf ?_|refine zad ?_|refine zaj ?_|refine zai ?_|refine zae ?_|refine zal ?_|refine zap ?_)|refine zab rfl rfl True.intro ?_|refine zas rfl ?_|((first |refine zac rfl ?_ ?_)<;>intro<;>try (first |contradiction))|((first |refine zab rfl rfl ?_ ?_);focus (first |omega|exact le_ rfl|((repeat' refine And.intro ?_ ?_)<;>omega)))|refine zaw rfl ?_|fail)
    all_goals rfl

theorem Chg.setObj (w : World) (S : Cells) (b : Nat) (x : Obj) (hS : ∀ o, ¬ S b o) : Chg w { w with heap := w.heap.setIfInBounds b x } S (some b) where
  os := rfl
  tape := rfl
  output := rfl
  size := by simp
  block := fun k _ hne => by
    have : b ≠ k := fun e => hne (by rw [e])
    simp [this]
  cell := fun b' o hb => by
    have : b ≠ b' := fun e => hS o (by rw [e]; exact hb)
    have e : ({ w with heap := w.heap.setIfInBounds b x } : World).heap[b']? = w.heap[b']? := by simp [this]
    exact World.cell?_of_block e
section
variable {P : Program} {X : Ctx} {n : Nat} {O : Nat → Option Own}
theorem zqd {w : World} {S : Cells} {r : Rho} (x : Obj) (hH : Hist X w S) (hI : Inv X w S r O) {k : Nat} (hk : O k = none) :
    ∃ r', Rel S (w.alloc x) r' (.pv k 0) (.pointer (some ⟨w.heap.size, 0, none⟩)) ∧ Hist X (w.alloc x) S ∧ Inv X (w.alloc x) S r' (updO O [(k, .ob x)]) ∧
      (∀ b o, S b o → (w.alloc x).cell? ⟨b, o, none⟩ = w.cell? ⟨b, o, none⟩) ∧ RhoLe r r' := by
  have hc := Chg.alloc w S hH.valid x
  have hr : RhoLe r (updR r k (.blk w.heap.size)) := RhoLe.new (hI.dom k hk)
  have hk0 : updR r k (.blk w.heap.size) k = some (.blk w.heap.size) := by simp [updR]
  refine ⟨updR r k (.blk w.heap.size), .pv _ k 0 _ hk0, ?_, ?_, hc.cell, hr⟩
  · exact hH.chg hc (fun b hb => by cases hb) (fun _ _ h => h) (fun b o h => .inl h)
  · refine hI.put hc (fun _ _ h => h) hr k _ (.blk w.heap.size) ?_ hk0 (fun j hj => by simp [updR, hj]) (fun b hb => ?_) (fun b hb => by cases hb) (fun b o h => .inl h)
    · exact ⟨w.heap.size, hk0, heap_alloc_new w _, fun o ho => by have := hH.valid _ _ ho; omega⟩
    · simp only [Loc.block, Option.some.injEq] at hb
      subst hb
      exact .inl ⟨Nat.le_refl _, .inl hH.size⟩
theorem zoX {w : World} {S : Cells} {r : Rho} {x : Obj} {b : Nat} (y : Obj) (hH : Hist X w S) (hI : Inv X w S r O) {k : Nat} (hk : O k = some (.ob x)) (hb : r k = some (.blk b)) :
    Hist X { w with heap := w.heap.setIfInBounds b y } S ∧ Inv X { w with heap := w.heap.setIfInBounds b y } S r (updO O [(k, .ob y)]) ∧
      (∀ b' o, S b' o → ({ w with heap := w.heap.setIfInBounds b y } : World).cell? ⟨b', o, none⟩ = w.cell? ⟨b', o, none⟩) := by
  obtain ⟨b', h1, h2, h3⟩ := hI.obj k _ hk
  rw [hb] at h1
  cases h1
  have hc := Chg.setObj w S b y h3
  have hlow := hI.low k _ b hb rfl
  refine ⟨?_, ?_, hc.cell⟩
  · exact hH.chg hc (fun b' hb' => by cases hb'; exact hlow) (fun _ _ h => h) (fun b o h => .inl h)
  · refine hI.put hc (fun _ _ h => h) (RhoLe.refl r) k _ (.blk b) ?_ hb (fun _ _ => rfl) (fun b' hb' => .inr ⟨_, hb, hb'⟩) (fun b' hb' => ⟨_, hb, hb'⟩) (fun b o h => .inl h)
    have hlt := (Array.getElem?_eq_some_iff.1 h2).1
    exact ⟨b, hb, by simp [hlt], h3⟩
variable {o : Oper} {fr : Fr} {ow : Ow} {t k pos : Nat} {ty : TypeId} {x : Operand} {l : List UInt8}
theorem zmp {B' : Tb} (hB : tb P = B') (ho : o.op = .range ty x) (hty : B'.ty ty = .str) (hx : ev fr x = .s l) (ht : look t ow = none) (hd : dstOk o.dst n) :
    ∀ F' O', (∀ y ∈ o.op.operands.toList, evF F' y = evF (fF fr) y) → (∀ j ∈ [t], O' j = fO ow j) → StepAt P X n o F' O' (.pv t 0) [(t, .ob (.stringIter ⟨l.toArray⟩ 0))] := by
  intro F' O' he hO
  refine zax hd fun a w S r hH hI hr => ?_
  have hx' := hr x
  rw [he x (by simp [ho, Op.operands]), zaZ, hx] at hx'
  have hk : O' t = none := (hO t (by simp)).trans ht
  have hu := zbg (P := P) (t := ty) (by subst hB; exact hty)
  obtain ⟨r', g1, g2, g3, g4, g5⟩ := zqd (.stringIter ⟨l.toArray⟩ 0) hH hI hk
  refine ⟨_, _, S, r', .inl ?_, g1, g2, g3, fun _ _ h => h, g4, g5⟩
  generalize hv : a.eval x = v at hx'
  cases hx'
  simp [execOp, ho, Instr.range, underlying, hu, hv, Sem.run_bind, newObj, Sem.run, Result.andThen]
theorem zmD (l : List UInt8) (pos : Nat) (h : pos < l.length) : (((⟨l.toArray⟩ : ByteArray)[pos]'(by simpa [ByteArray.size] using h)).toNat : Int) = at' l pos := by
  unfold at'
  simp [List.getD_eq_getElem?_getD, h, ByteArray.getElem_eq_getElem_data]
theorem znQ (ho : o.op = .next x true) (hx : ev fr x = .pv k 0) (hk : look k ow = some (.ob (.stringIter ⟨l.toArray⟩ pos))) (hp : pos < l.length) (hb : at' l pos < 128) (hd : dstOk o.dst n) :
    ∀ F' O', (∀ y ∈ o.op.operands.toList, evF F' y = evF (fF fr) y) → (∀ j ∈ [k], O' j = fO ow j) →
      StepAt P X n o F' O' (.tu [.b true, .i .i64 pos, .i .i32 (at' l pos)]) [(k, .ob (.stringIter ⟨l.toArray⟩ (pos + 1)))] := by
  intro F' O' he hO
  refine zax hd fun a w S r hH hI hr => ?_
  have hx' := hr x
  rw [he x (by simp [ho, Op.operands]), zaZ, hx] at hx'
  have hk' : O' k = some (.ob (.stringIter ⟨l.toArray⟩ pos)) := (hO k (by simp)).trans hk
  obtain ⟨b, h1, h2, h3⟩ := hI.obj k _ hk'
  obtain ⟨g1, g2, g3⟩ := zoX (.stringIter ⟨l.toArray⟩ (pos + 1)) hH hI hk' h1
  have hlt : pos < (⟨l.toArray⟩ : ByteArray).size := by simpa [ByteArray.size] using hp
  have hbb : ((⟨l.toArray⟩ : ByteArray)[pos]'hlt).toNat < 128 := by
    have := zmD l pos hp
    omega
  refine ⟨.tuple #[.bool true, .int .i64 pos, .int .i32 (((⟨l.toArray⟩ : ByteArray)[pos]'hlt).toNat)], _, S, r, .inl ?_, .tu _ _ _ rfl fun j hj => ?_, g1, g2, fun _ _ h => h, g3, RhoLe.refl r⟩
  · generalize hv : a.eval x = v at hx'
    cases hx' with
    | pv _ _ _ b' h4 =>
      rw [h1] at h4
      cases h4
      have hrun := Lib.run_next_ascii_at (P := P) w b ⟨l.toArray⟩ pos o.type h2 hlt hbb
      unfold World.iterAt at hrun
      simp only [execOp, ho, hv]
      simp [hrun]
  · match j, hj with
    | 0, _ => exact .b ..
    | 1, _ => exact .i ..
    | 2, _ =>
      show Rel S _ r (.i .i32 (at' l pos)) (.int .i32 _)
      rw [← zmD l pos hp]
      exact .i ..
theorem znL (ho : o.op = .next x true) (hx : ev fr x = .pv k 0) (hk : look k ow = some (.ob (.stringIter ⟨l.toArray⟩ pos))) (hp : l.length ≤ pos) (hd : dstOk o.dst n) :
    ∀ F' O', (∀ y ∈ o.op.operands.toList, evF F' y = evF (fF fr) y) → (∀ j ∈ [k], O' j = fO ow j) → StepAt P X n o F' O' (.tu [.b false]) [] := by
  intro F' O' he hO
  refine zax hd fun a w S r hH hI hr => ?_
  have hx' := hr x
  rw [he x (by simp [ho, Op.operands]), zaZ, hx] at hx'
  have hk' : O' k = some (.ob (.stringIter ⟨l.toArray⟩ pos)) := (hO k (by simp)).trans hk
  obtain ⟨b, h1, h2, h3⟩ := hI.obj k _ hk'
  refine ⟨.tuple #[.bool false], w, S, r, .inl ?_, .tu _ _ _ rfl fun j hj => ?_, hH, hI, fun _ _ h => h, fun _ _ _ => rfl, RhoLe.refl r⟩
  · generalize hv : a.eval x = v at hx'
    cases hx' with
    | pv _ _ _ b' h4 =>
      rw [h1] at h4
      cases h4
      have hrun := Lib.run_next_end_at (P := P) w b ⟨l.toArray⟩ pos o.type h2 (by simpa [ByteArray.size] using hp)
      simp only [execOp, ho, hv]
      simp [hrun]
  · match j, hj with
    | 0, _ => exact .b ..
end
section
variable {X : Ctx} {n : Nat} {all rest : List Oper} {fr : Fr} {ow : Ow} {tr : List (List Nat × List Nat)} {K : Fr → Ow → List (List Nat × List Nat) → Prop}
variable {t k pos : Nat} {ty ty' : TypeId} {ps : String} {af : Array Edge} {x : Operand} {l : List UInt8}
theorem znO (o : Oper) (ho : o.op = .range ty x) (hg : o.guard = none) (hds : o.dst = some t) (hty : B.ty ty = .str) (hx : ev fr x = .s l) (ht : look t ow = none) (hn : Nat.blt t n = true)
    (h : CT Tryz.prog X n all rest ((t, .pv t 0) :: fr) ((t, .ob (.stringIter ⟨l.toArray⟩ 0)) :: ow) (tr ++ [([t], [t])]) K) : CT Tryz.prog X n all (o :: rest) fr ow tr K := by
  have e := zcD
  have h1 := @zmp Tryz.prog X n o fr ow t ty x l
  have h2 := @h1 B e
  have h3 := h2 ho
  have h4 := h3 hty hx ht (by rw [hds]; exact Nat.le_of_ble_eq_true hn)
  refine CT.cons (e := ⟨.pv t 0, [t], [(t, .ob (.stringIter ⟨l.toArray⟩ 0))]⟩) (.plain hg h4) ?_ (zaL ..) h
  rw [hds]
  exact zaH ..
theorem zrF (hty : B.ty ty = .str) (hx : ev fr x = .s l) (ht : look t ow = none) (hn : Nat.blt t n = true)
    (h : CT Tryz.prog X n all rest ((t, .pv t 0) :: fr) ((t, .ob (.stringIter ⟨l.toArray⟩ 0)) :: ow) (tr ++ [([t], [t])]) K) : CT Tryz.prog X n all (⟨some t, .range ty x, ty', ps, af, none⟩ :: rest) fr ow tr K := by
  generalize ho : (⟨some t, .range ty x, ty', ps, af, none⟩ : Oper) = o
  exact znO o (by rw [← ho]) (by rw [← ho]) (by rw [← ho]) hty hx ht hn h
theorem zst (hx : ev fr x = .pv k 0) (hk : look k ow = some (.ob (.stringIter ⟨l.toArray⟩ pos))) (hn : Nat.blt t n = true) (hp : pos < l.length) (hb : at' l pos < 128)
    (h : CT Tryz.prog X n all rest ((t, .tu [.b true, .i .i64 pos, .i .i32 (at' l pos)]) :: fr) ((k, .ob (.stringIter ⟨l.toArray⟩ (pos + 1))) :: ow) (tr ++ [([k], [k])]) K) :
    CT Tryz.prog X n all (⟨some t, .next x true, ty', ps, af, none⟩ :: rest) fr ow tr K :=
  CT.cons (e := ⟨.tu [.b true, .i .i64 pos, .i .i32 (at' l pos)], [k], [(k, .ob (.stringIter ⟨l.toArray⟩ (pos + 1)))]⟩) (.plain rfl (znQ (P := Tryz.prog) (X := X) (o := ⟨some t, .next x true, ty', ps, af, none⟩) rfl hx hk hp hb (Nat.le_of_ble_eq_true hn))) (zaH ..) (zaL ..) h
theorem zsl (hx : ev fr x = .pv k 0) (hk : look k ow = some (.ob (.stringIter ⟨l.toArray⟩ pos))) (hn : Nat.blt t n = true) (hp : l.length ≤ pos)
    (h : CT Tryz.prog X n all rest ((t, .tu [.b false]) :: fr) ow (tr ++ [([k], [])]) K) : CT Tryz.prog X n all (⟨some t, .next x true, ty', ps, af, none⟩ :: rest) fr ow tr K :=
  CT.cons (e := ⟨.tu [.b false], [k], []⟩) (.plain rfl (znL (P := Tryz.prog) (X := X) (o := ⟨some t, .next x true, ty', ps, af, none⟩) rfl hx hk hp (Nat.le_of_ble_eq_true hn))) (zaH ..) rfl h
end

section
variable {P : Program} {X : Ctx} {n : Nat} {O : Nat → Option Own}
variable {o : Oper} {fr : Fr} {ow : Ow} {t k : Nat} {ty : TypeId} {x : Operand}
end
section
variable {X : Ctx} {n : Nat} {all rest : List Oper} {fr : Fr} {ow : Ow} {tr : List (List Nat × List Nat)} {K : Fr → Ow → List (List Nat × List Nat) → Prop}
variable {t k : Nat} {ty ty' : TypeId} {ps : String} {af : Array Edge} {x : Operand}
end

section
variable {P : Program} {X : Ctx} {n : Nat} {o : Oper} {fr : Fr} {ow : Ow} {ty : TypeId} {x : Operand}
theorem zoq {B' : Tb} {el : Nat} {cs : List D} (hB : tb P = B') (ho : o.op = .slice ty x none none none) (hty : B'.ty ty = .array cs.length el 1 false) (hx : ev fr x = .rf cs 0) (hm : cs.length ≤ 1048576) (hd : dstOk o.dst n) :
    ∀ F' O', (∀ y ∈ o.op.operands.toList, evF F' y = evF (fF fr) y) → (∀ j ∈ ([] : List Nat), O' j = fO ow j) → StepAt P X n o F' O' (.sl 1 cs.length (fun j => [cs.getD j .any])) [] := by
  intro F' O' he hO
  have hty' : tyOf P ty = .array cs.length el 1 false := by subst hB; exact hty
  obtain ⟨hu, hsz⟩ := zbC hty'
  refine zax hd fun a w S r hH hI hr => ?_
  have hx' := hr x
  rw [he x (by simp [ho, Op.operands]), zaZ, hx] at hx'
  generalize hv : a.eval x = vx at hx'
  cases hx' with
  | rf _ _ _ b q c hp hcell hrel =>
  have hrun : (execOp a.eval o).run P w = .ok (.value (.slice (some ⟨b, q, none⟩) cs.length cs.length)) w := by
    have hs := zaO (w := w) hsz
    simp [execOp, ho, hv, Instr.sliceAt, Instr.sureAddr, Instr.sliceBounds, run_underlying hu, hs, Addr.add]
    try omega
  refine ⟨_, w, S, r, .inl hrun, ?_, hH, hI, fun b o h => h, fun _ _ _ => rfl, RhoLe.refl r⟩
  refine .sl r 1 cs.length _ (some ⟨b, q, none⟩) cs.length (fun j _ => c j) (Nat.le_refl _) (by unfold maxLen; omega) (fun j hj => ⟨rfl, ?_⟩) (fun j k hj hk => ?_) (fun j k hj hk => ?_)
  · simp only [List.all_cons, List.all_nil, Bool.and_true]
    rw [List.all_eq_true] at hp
    refine hp _ ?_
    rw [List.getD_eq_getElem?_getD, List.getElem?_eq_getElem hj, Option.getD_some]
    exact List.getElem_mem _
  · obtain rfl : k = 0 := by omega
    refine ⟨b, q, rfl, ?_⟩
    rw [Nat.mul_one, Nat.add_zero]
    exact hcell j hj
  · obtain rfl : k = 0 := by omega
    exact hrel j hj
end
section
variable {X : Ctx} {n : Nat} {all rest : List Oper} {fr : Fr} {ow : Ow} {tr : List (List Nat × List Nat)} {K : Fr → Ow → List (List Nat × List Nat) → Prop}
variable {t : Nat} {ty ty' : TypeId} {ps : String} {af : Array Edge} {x : Operand}
theorem zpA {el : Nat} {cs : List D} (o : Oper) (ho : o.op = .slice ty x none none none) (hg : o.guard = none) (hds : o.dst = some t) (hty : B.ty ty = .array cs.length el 1 false) (hx : ev fr x = .rf cs 0) (hm : cs.length ≤ 1048576) (hn : Nat.blt t n = true)
    (h : CT Tryz.prog X n all rest ((t, .sl 1 cs.length (fun j => [cs.getD j .any])) :: fr) ow (tr ++ [([], [])]) K) : CT Tryz.prog X n all (o :: rest) fr ow tr K := by
  have q := zcD
  have q1 := @zoq Tryz.prog X n o fr ow ty x
  have q2 := @q1 B el cs q
  have q3 := q2 ho
  have q4 := q3 hty hx hm (by rw [hds]; exact Nat.le_of_ble_eq_true hn)
  refine CT.cons (e := ⟨.sl 1 cs.length (fun j => [cs.getD j .any]), [], []⟩) (.plain hg q4) ?_ rfl h
  rw [hds]
  exact zaH ..
theorem zoK {el : Nat} {cs : List D} (hty : B.ty ty = .array cs.length el 1 false) (hx : ev fr x = .rf cs 0) (hm : cs.length ≤ 1048576) (hn : Nat.blt t n = true)
    (h : CT Tryz.prog X n all rest ((t, .sl 1 cs.length (fun j => [cs.getD j .any])) :: fr) ow (tr ++ [([], [])]) K) : CT Tryz.prog X n all (⟨some t, .slice ty x none none none, ty', ps, af, none⟩ :: rest) fr ow tr K := by
  generalize ho : (⟨some t, .slice ty x none none none, ty', ps, af, none⟩ : Oper) = o
  exact zpA o (by rw [← ho]) (by rw [← ho]) (by rw [← ho]) hty hx hm hn h
end
end Go.Proofs.YtcajofhafpkbdaaGreatDoor.Flow
