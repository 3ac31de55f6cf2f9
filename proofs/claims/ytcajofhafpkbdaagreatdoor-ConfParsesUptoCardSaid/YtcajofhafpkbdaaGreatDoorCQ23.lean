/- The texts D7, D9, D17a, D17, DP, LibsC, D21, D18, U18, U19, J27, one behind the other. -/
import Derived.Test.YtcajofhafpkbdaaGreatDoorCQ11
import Derived.Test.YtcajofhafpkbdaaGreatDoorCQ17
import Derived.Test.YtcajofhafpkbdaaGreatDoorCQ20
import Derived.Test.YtcajofhafpkbdaaGreatDoorCQ22
namespace Go.Proofs.YtcajofhafpkbdaaGreatDoor.Flow
open Go
theorem zdR (s : List UInt8) (i : Nat) (hs : s.length ≤ 1048576) (hi : i ≤ s.length) : Ctr Tryz.prog 118 [.s s, .i .i64 i] (.i .i64 ((i + (dgT s i).length : Nat) : Int)) := by
  refine zay Tryz.func118 rfl Tryz.ntmps118 Tryz.results118 rfl rfl fun X hL hX => ?_
  repeat' (first |with_reducible (first |refine zag ?_|refine zaa ?_|refine zaf ?_|refine zad ?_|refine zae ?_)|refine zab rfl rfl True.intro ?_|fail)
  refine T.loop hL (fun k : Nat => [(0, .s s), (1, .i .i64 k)]) (fun _ => []) (fun k => i ≤ k ∧ k ≤ s.length ∧ k + (dgT s k).length = i + (dgT s i).length) (fun k => s.length - k) i ⟨Nat.le_refl _, hi, rfl⟩
    ⟨⟨rfl, rfl, trivial⟩, trivial, rfl, by rw [hX]; intro k hk; cases hk⟩ ?_
  rintro k ⟨g1, g2, g3⟩
  have c1 := ziu (at' s k)
  have g3 := fun _ : Unit => g3
  by_cases hk : k < s.length
  · by_cases hd : 48 ≤ at' s k ∧ at' s k ≤ 57
    · rw [decide_eq_true hd] at c1
      have h2 := fun _ : Unit => zhx hk hd
      clear hd
      repeat' (first |with_reducible (first |refine zag ?_|refine zaa ?_|refine zaf ?_|refine zad ?_|refine zai ?_|refine zae ?_|refine zaq ?_)|refine zab rfl rfl True.intro ?_|refine zam rfl rfl rfl rfl True.intro ?_|refine zas rfl ?_|((first |refine zan rfl rfl ?_ ?_)<;>intro<;>try (first |(exfalso;omega)))|((first |refine zab rfl rfl ?_ ?_|refine zam rfl rfl rfl rfl ?_ ?_);focus (first |omega|((repeat' refine And.intro ?_ ?_)<;>omega)))|refine zaM (f := 93) rfl rfl rfl rfl Tryz.call93 rfl c1 ?_|fail)
      exact ⟨k + 1, ⟨by omega, by omega, by rw [← g3 (), h2 (), List.length_cons]; omega⟩, by omega, ⟨rfl, rfl, trivial⟩, trivial, rfl, by rw [hX]; intro k hk; cases hk⟩
    · rw [decide_eq_false hd] at c1
      have h2 := fun _ : Unit => zfc (s := s) (i := k) (.inr hd)
      clear hd
      repeat' (first |with_reducible (first |refine zag ?_|refine zaa ?_|refine zaf ?_|refine zad ?_|refine zaj ?_|refine zaz ?_|refine zaA ?_)|refine zab rfl rfl True.intro ?_|refine zam rfl rfl rfl rfl True.intro ?_|refine zak rfl ?_|((first |refine zan rfl rfl ?_ ?_)<;>intro<;>try (first |(exfalso;omega)))|((first |refine zam rfl rfl rfl rfl ?_ ?_);focus (first |omega|((repeat' refine And.intro ?_ ?_)<;>omega)))|refine zaJ rfl ?_|refine zaw rfl ?_|refine zaM (f := 93) rfl rfl rfl rfl Tryz.call93 rfl c1 ?_|fail)
      rw [← g3 (), h2 ()]
      rfl
  · have h2 := fun _ : Unit => zfc (s := s) (i := k) (.inl hk)
    repeat' (first |with_reducible (first |refine zag ?_|refine zaa ?_|refine zaf ?_|refine zad ?_|refine zaj ?_|refine zaz ?_|refine zaA ?_)|refine zab rfl rfl True.intro ?_|refine zau rfl rfl rfl ?_|refine zak rfl ?_|((first |refine zan rfl rfl ?_ ?_)<;>intro<;>try (first |(exfalso;omega)))|refine zaJ rfl ?_|refine zaw rfl ?_|fail)
    rw [← g3 (), h2 ()]
    rfl
set_option maxHeartbeats 1000000 in
theorem zmW (neg : Bool) (s : List UInt8) (e : Int) (hs : s.length ≤ 1099511627776) (h1 : -4611686018427387904 ≤ e) (h2 : e ≤ 4611686018427387904) :
    Ctr Tryz.prog 107 [.b neg, .s s, .i .i64 e] (.tu [dcV (normF neg s e).1, .i .i64 (normF neg s e).2]) := by
  generalize hR : normF neg s e = R
  unfold normF at hR
  replace hR := fun _ : Unit => hR.symm
  refine zay Tryz.func107 rfl Tryz.ntmps107 Tryz.results107 rfl rfl fun X hL hX => ?_
  repeat' (first |with_reducible (first |refine zag ?_|refine zaa ?_|refine zaf ?_|refine zad ?_|refine zae ?_)|refine zab rfl rfl True.intro ?_|((first |refine zao rfl rfl ?_ ?_);focus (first |((repeat' refine And.intro ?_ ?_)<;>omega)|((repeat' refine And.intro ?_ ?_)<;>first |rfl)))|fail)
  refine T.loop hL (fun y : List UInt8 => [(0, .b neg), (1, .s y), (2, .i .i64 (e + (s.length - y.length))), (6, .pv 6 0)]) (fun _ => [(6, .var [.b false, .s [], .i .i64 0])]) (fun y => tR y = tR s ∧ y.length ≤ s.length) (fun y => y.length) s ⟨rfl, Nat.le_refl _⟩
    ⟨⟨rfl, rfl, by show D.i .i64 e = _; rw [Int.sub_self, Int.add_zero], rfl, trivial⟩, ⟨rfl, trivial⟩, rfl, by rw [hX]; intro k hk; cases hk⟩ ?_
  rintro y ⟨g1, g2⟩
  by_cases hy : y.length = 0 ∨ ¬ at' y (y.length - 1) = 48
  · have hst : y = tR s := by rw [← g1, zqJ y hy]
    have hst := fun _ : Unit => hst
    clear g1
    have hm := fun _ : Unit => hst ()
    have hle : y.length ≤ s.length := g2
    have key : Unit → (tR s).length = y.length := fun _ => by rw [← hst ()]
    repeat' (first |with_reducible (first |refine zag ?_|refine zaa ?_|refine zaf ?_|refine zad ?_|refine zaz ?_|refine zae ?_|refine zaA ?_)|refine zab rfl rfl True.intro ?_|refine zau rfl rfl rfl ?_|refine zam rfl rfl rfl rfl True.intro ?_|refine zak rfl ?_|((first |refine zac rfl ?_ ?_|refine zan rfl rfl ?_ ?_)<;>intro<;>try (first |(exfalso;omega)))|((first |refine zam rfl rfl rfl rfl ?_ ?_);focus (first |omega|((repeat' refine And.intro ?_ ?_)<;>omega)))|refine zaJ rfl ?_|fail)
    all_goals
      refine T.loop hL (fun z : List UInt8 => [(0, .b neg), (1, .s z), (2, .i .i64 (e + (s.length - y.length))), (6, .pv 6 0)]) (fun _ => [(6, .var [.b false, .s [], .i .i64 0])]) (fun z => tL z = tL y ∧ z.length ≤ y.length) (fun z => z.length) y ⟨rfl, Nat.le_refl _⟩
        ⟨⟨rfl, rfl, rfl, rfl, trivial⟩, ⟨rfl, trivial⟩, rfl, by rw [hX]; intro k hk; cases hk⟩ ?_
      rintro z ⟨q1, q2⟩
      by_cases hz : z.length = 0 ∨ ¬ at' z 0 = 48
      · have hz2 : z = tL y := by rw [← q1, zrr z hz]
        have hR2 : Unit → R = if z.length = 0 then ((false, [], 0), 0) else if 100 < z.length then ((false, [], 0), 5) else if e + (s.length - y.length) < -1000 ∨ 1000 < e + (s.length - y.length) then ((false, [], 0), 8) else ((neg, z, e + (s.length - y.length)), 0) := fun _ => by rw [hR (), ← hst (), ← hz2]
        clear q1 hz2 hR hst hm key
        repeat' (first |with_reducible (first |refine zag ?_|refine zaa ?_|refine zaf ?_|refine zad ?_|refine zaj ?_|refine zai ?_|refine zaz ?_|refine zaA ?_|refine zal ?_)|refine zab rfl rfl True.intro ?_|refine zau rfl rfl rfl ?_|refine zam rfl rfl rfl rfl True.intro ?_|refine zas rfl ?_|refine zak rfl ?_|((first |refine zac rfl ?_ ?_|refine zan rfl rfl ?_ ?_)<;>intro<;>try (first |(exfalso;omega)))|((first |refine zam rfl rfl rfl rfl ?_ ?_|refine zar rfl ?_ ?_);focus (first |omega|((repeat' refine And.intro ?_ ?_)<;>omega)|((repeat' refine And.intro ?_ ?_)<;>first |rfl|exact Nat.le_refl _)))|refine zaJ rfl ?_|refine zaw rfl ?_|fail)
        all_goals first
          | (rw [hR2 (), if_pos (by omega)]; rfl)
          | (rw [hR2 (), if_neg (by omega), if_pos (by omega)]; rfl)
          | (rw [hR2 (), if_neg (by omega), if_neg (by omega), if_pos (by omega)]; rfl)
          | (rw [hR2 (), if_neg (by omega), if_neg (by omega), if_neg (by omega)]; rfl)
          | (exfalso; omega)
      · have hst2 := fun _ : Unit => zqP z (by omega) (by omega)
        have q1 := fun _ : Unit => q1
        have hz1 : ¬ z.length = 0 := by omega
        have hz2 : at' z 0 = 48 := by omega
        clear hR hst hm key
        repeat' (first |with_reducible (first |refine zag ?_|refine zaa ?_|refine zaf ?_|refine zad ?_|refine zai ?_|refine zae ?_|refine zaq ?_)|refine zab rfl rfl True.intro ?_|refine zam rfl rfl rfl rfl True.intro ?_|((first |refine zac rfl ?_ ?_|refine zan rfl rfl ?_ ?_)<;>intro<;>try (first |contradiction|(exfalso;omega)))|((first |refine zab rfl rfl ?_ ?_|refine zam rfl rfl rfl rfl ?_ ?_);focus (first |omega|((repeat' refine And.intro ?_ ?_)<;>omega)))|fail)
        all_goals refine ⟨z.drop 1, ⟨(hst2 ()).trans (q1 ()), by simp; omega⟩, by simp only [List.length_drop]; omega, ⟨rfl, ?_, rfl, rfl, trivial⟩, ⟨rfl, trivial⟩, rfl, by rw [hX]; intro k hk; cases hk⟩
        all_goals exact congrArg D.s (by rw [Int.toNat_natCast, List.take_length]; rfl)
  · have hst := fun _ : Unit => zrw y (by omega) (by omega)
    have g1 := fun _ : Unit => g1
    have hy1 : ¬ y.length = 0 := by omega
    have hy2 : at' y (y.length - 1) = 48 := by omega
    repeat' (first |with_reducible (first |refine zag ?_|refine zaa ?_|refine zaf ?_|refine zad ?_|refine zai ?_|refine zae ?_|refine zaq ?_)|refine zab rfl rfl True.intro ?_|refine zam rfl rfl rfl rfl True.intro ?_|((first |refine zac rfl ?_ ?_|refine zan rfl rfl ?_ ?_)<;>intro<;>try (first |contradiction|(exfalso;omega)))|((first |refine zab rfl rfl ?_ ?_|refine zam rfl rfl rfl rfl ?_ ?_);focus (first |omega|((repeat' refine And.intro ?_ ?_)<;>omega)))|fail)
    refine ⟨y.take (y.length - 1), ⟨(hst ()).trans (g1 ()), by simp; omega⟩, by simp; omega, ⟨rfl, ?_, ?_, rfl, trivial⟩, ⟨rfl, trivial⟩, rfl, by rw [hX]; intro k hk; cases hk⟩
    · exact congrArg D.s (by rw [show ((y.length : Int) - 1).toNat = y.length - 1 by omega]; rfl)
    · exact congrArg (D.i .i64) (by rw [List.length_take]; omega)

theorem zgL : ∀ (x : List UInt8) (n : Int), 1000000000 ≤ n → x.foldl (fun n c => if n < 1000000000 then 10 * n + (c.toNat : Int) - 48 else n) n = n
  | [], _, _ => rfl
  | c :: x, n, h => by
    rw [List.foldl_cons, if_neg (by omega)]
    exact zgL x n h
theorem zmj (x : List UInt8) (m : Nat) : powR x = (x.drop m).foldl (fun n c => if n < 1000000000 then 10 * n + (c.toNat : Int) - 48 else n) (powR (x.take m)) := by
  unfold powR
  rw [← List.foldl_append, List.take_append_drop]
theorem znS (x : List UInt8) (m : Nat) (h : 1000000000 ≤ powR (x.take m)) : powR x = powR (x.take m) := by
  rw [zmj x m, zgL _ _ h]
theorem znJ (l : List UInt8) (c : UInt8) (h : powR l < 1000000000) : powR (l ++ [c]) = 10 * powR l + (c.toNat : Int) - 48 := by
  unfold powR at *
  rw [List.foldl_append, List.foldl_cons, List.foldl_nil, if_pos h]
theorem zqM (x : List UInt8) (hx : ∀ c ∈ x, isD c = true) : 0 ≤ powR x ∧ powR x < 20000000000 := by
  have key : ∀ (x : List UInt8) (n : Int), (∀ c ∈ x, isD c = true) → 0 ≤ n → n < 20000000000 → 0 ≤ x.foldl (fun n c => if n < 1000000000 then 10 * n + (c.toNat : Int) - 48 else n) n ∧ x.foldl (fun n c => if n < 1000000000 then 10 * n + (c.toNat : Int) - 48 else n) n < 20000000000 := by
    intro x
    induction x with
    | nil => exact fun n _ h h2 => ⟨h, h2⟩
    | cons c x ih =>
      intro n hx h h2
      have := zbY.1 (hx c (by simp))
      rw [List.foldl_cons]
      refine ih _ (fun c hc => hx c (by simp [hc])) ?_ ?_
      · split <;> omega
      · split <;> omega
  exact key x 0 hx (by omega) (by omega)
theorem zqr (s : List UInt8) (i k : Nat) (h : k < (dgT s i).length) : (dgT s i).getD k 0 = s.getD (i + k) 0 := by
  have e : dgT s i = (s.drop i).take (dgT s i).length := (zcw _).symm
  have hl := zbt s i
  rw [e]
  simp only [List.getD_eq_getElem?_getD, List.getElem?_take, h, if_true, List.getElem?_drop]
theorem zsz (s : List UInt8) (i : Nat) (h : sat s i 48) : ¬ dgT s i = [] := by
  rw [zhx h.1 (by have := h.2; omega)]
  simp
theorem zrf (s : List UInt8) (i : Nat) : (s.take (whN s i).2).drop i = (whN s i).1 := by
  unfold whN
  split
  · rename_i h
    have := cutD s i h.1
    rw [this]
    have e : s.getD i 0 = 48 := (zpf (n := 48) (by omega)).1 h.2
    rw [e]
  · exact zjx s i
where
  cutD (s : List UInt8) (i : Nat) (h : i < s.length) : (s.take (i + 1)).drop i = [s.getD i 0] := by
    rw [List.take_add_one, List.drop_append_of_le_length (by simp; omega), List.drop_eq_nil_of_le (by simp; omega)]
    simp [h, List.getD_eq_getElem?_getD]
theorem zro (s : List UInt8) (i : Nat) : (whN s i).1 = [] ↔ dgT s i = [] := by
  unfold whN
  split
  · rename_i h
    simp [zsz s i h]
  · exact Iff.rfl
set_option maxHeartbeats 4000000 in
theorem zmn (s : List UInt8) (hs : s.length ≤ 1048576) : Ctr Tryz.prog 91 [.s s] (.tu [dcV (parseG powR s).1, .i .i64 (parseG powR s).2.1, .i .i64 (parseG powR s).2.2]) := by
  generalize hR : parseG powR s = R
  unfold parseG at hR
  replace hR := fun _ : Unit => hR.symm
  refine zay Tryz.func91 rfl Tryz.ntmps91 Tryz.results91 rfl rfl fun X hL hX => ?_
  have n1 : 0 < s.length → (at' s 0 == 45) = decide (sat s 0 45) := fun h => by
    rw [Bool.eq_iff_iff, beq_iff_eq, decide_eq_true_iff]
    exact ⟨fun h2 => ⟨h, h2⟩, fun h2 => h2.2⟩
  have n2 : ¬ 0 < s.length → false = decide (sat s 0 45) := fun h => (decide_eq_false fun h2 => h h2.1).symm
  repeat' (first |refine znb 2 hL (fun _ : Unit => [(0, .s s), (2, .pv 2 0), (5, .i .i64 0), (6, .b (decide (sat s 0 45)))]) (fun _ => [(2, .var [.b false, .s [], .i .i64 0])]) (fun _ => True) ?_ ?_|with_reducible (first |refine zag ?_|refine zaa ?_|refine zaf ?_|refine zad ?_)|refine zab rfl rfl True.intro ?_|refine zau rfl rfl rfl ?_|refine zam rfl rfl rfl rfl True.intro ?_|((first |refine zan rfl rfl ?_ ?_)<;>intro)|((first |refine zam rfl rfl rfl rfl ?_ ?_|refine zao rfl rfl ?_ ?_);focus (first |omega|((repeat' refine And.intro ?_ ?_)<;>omega)|((repeat' refine And.intro ?_ ?_)<;>first |rfl)))|fail)
  · exact ⟨(), trivial, ⟨rfl, rfl, rfl, congrArg D.b (n1 (by omega)), trivial⟩, ⟨rfl, trivial⟩, rfl, by rw [hX]; intro k hk; cases hk⟩
  · exact ⟨(), trivial, ⟨rfl, rfl, rfl, congrArg D.b (n2 (by omega)), trivial⟩, ⟨rfl, trivial⟩, rfl, by rw [hX]; intro k hk; cases hk⟩
  clear n1 n2
  intro _ _
  have e5 : sat s 0 45 → (1 : Int) = (sg0 s : Int) := fun h => by unfold sg0; rw [if_pos h]; rfl
  have e5' : ¬ sat s 0 45 → (0 : Int) = (sg0 s : Int) := fun h => by unfold sg0; rw [if_neg h]; rfl
  repeat' (first |refine zgg 3 hL (fun _ : Unit => [(0, .s s), (2, .pv 2 0), (5, .i .i64 (sg0 s)), (6, .b (decide (sat s 0 45)))]) (fun _ => [(2, .var [.b false, .s [], .i .i64 0])]) (fun _ => True) ?_ ?_|with_reducible (first |refine zag ?_|refine zaa ?_|refine zaf ?_|refine zad ?_|refine zai ?_)|refine zab rfl rfl True.intro ?_|((first |refine zac rfl ?_ ?_)<;>intro)|fail)
  · exact ⟨(), trivial, ⟨rfl, rfl, congrArg (D.i .i64) (e5 ‹_›), rfl, trivial⟩, ⟨rfl, trivial⟩, rfl, by rw [hX]; intro k hk; cases hk⟩
  · exact ⟨(), trivial, ⟨rfl, rfl, congrArg (D.i .i64) (e5' ‹_›), rfl, trivial⟩, ⟨rfl, trivial⟩, rfl, by rw [hX]; intro k hk; cases hk⟩
  clear e5 e5'
  intro _ _
  have hi := zql (s := s)
  generalize sg0 s = i at hR hi ⊢
  have c1 := zdR s i hs hi
  have L0 := zro s i
  have L1 := fun h => zjm (s := s) (i := i) h
  have L2 := fun h => zjS (s := s) (i := i) h
  have hl := zbt s i
  have hz : (dgT s i).length = 0 ↔ dgT s i = [] := List.length_eq_zero_iff
  have hi2 : ¬ (dgT s i).length = 0 → i < s.length := fun h => by omega
  have L0 := fun _ : Unit => L0
  have hz := fun _ : Unit => hz
  repeat' (first |refine zgg 8 hL (fun _ : Unit => [(0, .s s), (2, .pv 2 0), (5, .i .i64 i), (6, .b (decide (sat s 0 45))), (7, .i .i64 (whN s i).2)]) (fun _ => [(2, .var [.b false, .s [], .i .i64 0])]) (fun _ => ¬ (whN s i).1 = []) ?_ ?_|with_reducible (first |refine zag ?_|refine zaa ?_|refine zaf ?_|refine zad ?_|refine zaj ?_|refine zai ?_|refine zal ?_)|refine zab rfl rfl True.intro ?_|((first |refine zac rfl ?_ ?_)<;>intro)|((first |refine zab rfl rfl ?_ ?_|refine zar rfl ?_ ?_);focus (first |omega|((repeat' refine And.intro ?_ ?_)<;>omega)|((repeat' refine And.intro ?_ ?_)<;>first |rfl|exact Nat.le_refl _)))|refine zaw rfl ?_|refine zah (f := 118) rfl rfl Tryz.call118 rfl c1 ?_|fail)
  · rw [hR (), if_pos ((L0 ()).2 ((hz ()).1 (by omega)))]
    rfl
  · rename_i h1 h2
    have hs1 : sat s i 48 := ⟨hi2 (by omega), h2⟩
    rw [L1 hs1]
    exact ⟨(), by simp, ⟨rfl, rfl, rfl, rfl, rfl, trivial⟩, ⟨rfl, trivial⟩, rfl, by rw [hX]; intro k hk; cases hk⟩
  · rename_i h1 h2
    have hs1 : ¬ sat s i 48 := fun h => h2 h.2
    have h3 : ¬ dgT s i = [] := fun h => h1 (by rw [h]; simp)
    rw [L2 hs1]
    exact ⟨(), h3, ⟨rfl, rfl, rfl, rfl, rfl, trivial⟩, ⟨rfl, trivial⟩, rfl, by rw [hX]; intro k hk; cases hk⟩
  clear L0 hz c1 L1 L2 hl hi2
  intro _ hw
  replace hR := fun _ : Unit => (hR ()).trans (if_neg hw)
  dsimp only at hR
  have hj := zqm hi
  have lw : (whN s i).1.length ≤ 1048577 := by
    have := zbt s i
    unfold whN
    split <;> dsimp only [List.length_cons, List.length_nil] <;> omega
  have hcut := fun _ : Unit => zrf s i
  have hij : i ≤ (whN s i).2 := by
    unfold whN
    split <;> dsimp only <;> omega
  generalize whN s i = W at hR hw hj lw hcut hij ⊢
  obtain ⟨w, j⟩ := W
  dsimp only at hR hw hj lw hcut hij ⊢
  clear hw
  have hl := zbt s (j + 1)
  have c2 := fun h : sat s j 46 => zdR s (j + 1) hs h.1
  have L1 := fun h h2 => zju (s := s) (i := j) h h2
  have L2 := fun h => zjN (s := s) (i := j) h
  have hz : (dgT s (j + 1)).length = 0 ↔ dgT s (j + 1) = [] := List.length_eq_zero_iff
  have hz := fun _ : Unit => hz
  have hcf := fun _ : Unit => zjx s (j + 1)
  have ms : j < s.length → at' s j = 46 → sat s j 46 := fun h h2 => ⟨h, h2⟩
  repeat' (first |refine zgg 13 hL (fun _ : Unit => [(0, .s s), (2, .pv 2 0), (5, .i .i64 (frN s j).2), (6, .b (decide (sat s 0 45))), (8, .s (w ++ (frN s j).1)), (9, .i .i64 (-((frN s j).1.length : Int)))]) (fun _ => [(2, .var [.b false, .s [], .i .i64 0])]) (fun _ => True) ?_ ?_|with_reducible (first |refine zag ?_|refine zaa ?_|refine zaf ?_|refine zad ?_|refine zai ?_)|refine zab rfl rfl True.intro ?_|refine zau rfl rfl rfl ?_|refine zam rfl rfl rfl rfl True.intro ?_|refine zak rfl ?_|((first |refine zac rfl ?_ ?_|refine zan rfl rfl ?_ ?_)<;>intro)|((first |refine zab rfl rfl ?_ ?_|refine zam rfl rfl rfl rfl ?_ ?_);focus (first |(simp only [List.length_drop, List.length_take];omega)|omega|((repeat' refine And.intro ?_ ?_)<;>omega)))|refine zah (f := 118) rfl rfl Tryz.call118 rfl (c2 (ms (by omega) ‹_›)) ?_|refine zaM (f := 118) rfl rfl rfl rfl Tryz.call118 rfl (c2 (ms (by omega) ‹_›)) ?_|fail)
  · rename_i h1 h2 h3
    rw [L1 (ms (by omega) h2) (fun h => by rw [h] at h3; simp at h3)]
    exact ⟨(), trivial, ⟨rfl, rfl, rfl, rfl, congrArg D.s (by simp only [Int.toNat_natCast, show ((j : Int) + 1).toNat = j + 1 by omega]; rw [hcut (), hcf ()]), congrArg (D.i .i64) (by dsimp only; omega), trivial⟩, ⟨rfl, trivial⟩, rfl, by rw [hX]; intro k hk; cases hk⟩
  · rename_i h1 h2 h3
    rw [L2 (.inr ((hz ()).1 (by omega)))]
    exact ⟨(), trivial, ⟨rfl, rfl, rfl, rfl, congrArg D.s (by simp only [Int.toNat_natCast]; rw [hcut ()]; simp), rfl, trivial⟩, ⟨rfl, trivial⟩, rfl, by rw [hX]; intro k hk; cases hk⟩
  · rename_i h1 h2
    rw [L2 (.inl fun h => h2 h.2)]
    exact ⟨(), trivial, ⟨rfl, rfl, rfl, rfl, congrArg D.s (by simp only [Int.toNat_natCast]; rw [hcut ()]; simp), rfl, trivial⟩, ⟨rfl, trivial⟩, rfl, by rw [hX]; intro k hk; cases hk⟩
  · rename_i h1
    rw [L2 (.inl fun h => h1 (by have := h.1; omega))]
    exact ⟨(), trivial, ⟨rfl, rfl, rfl, rfl, congrArg D.s (by simp only [Int.toNat_natCast]; rw [hcut ()]; simp), rfl, trivial⟩, ⟨rfl, trivial⟩, rfl, by rw [hX]; intro k hk; cases hk⟩
  clear c2 L1 L2 hz hcf ms hcut hij hl
  intro _ _
  have hk := zqv hj
  have lf : (frN s j).1.length ≤ 1048577 := by
    have := zbt s (j + 1)
    unfold frN
    split <;> dsimp only [List.length_cons, List.length_nil] <;> omega
  generalize frN s j = W at hR hk lf ⊢
  obtain ⟨f, k⟩ := W
  dsimp only at hR hk lf ⊢
  have la : (w ++ f).length ≤ 2097154 := by rw [List.length_append]; omega
  generalize w ++ f = al at hR la ⊢
  have L1 : (sat s k 101 ∨ sat s k 69) → ¬ (dgT s (sgN s (k + 1))).length = 0 → exN powR s k = (if sat s (k + 1) 45 then -powR (dgT s (sgN s (k + 1))) else powR (dgT s (sgN s (k + 1))), sgN s (k + 1) + (dgT s (sgN s (k + 1))).length) := fun h h2 => zhJ h (fun h3 => h2 (by rw [h3]; rfl))
  have L2 : (dgT s (sgN s (k + 1))).length = 0 → exN powR s k = (0, k) := fun h => zfA (.inr (List.length_eq_zero_iff.1 h))
  have L3 := fun h => zfA (s := s) (i := k) (pw := powR) (.inl h)
  have hp0 : k < s.length → sgN s (k + 1) ≤ s.length ∧ k + 1 ≤ sgN s (k + 1) := fun h => ⟨zsf (by omega), by unfold sgN; split <;> omega⟩
  have hx0 := fun _ : Unit => (zni (dgT s (sgN s (k + 1))) (zcL _ _))
  have bE : (k : Int) < s.length → ∀ c, (at' s k == c) = decide (sat s k c) := fun h c => by
    rw [Bool.eq_iff_iff, beq_iff_eq, decide_eq_true_iff]
    exact ⟨fun h2 => ⟨by omega, h2⟩, fun h2 => h2.2⟩
  have bF : (k : Int) + 1 < s.length → ∀ c, (at' s ((k : Int) + 1) == c) = decide (sat s (k + 1) c) := fun h c => by
    rw [Bool.eq_iff_iff, beq_iff_eq, decide_eq_true_iff]
    exact ⟨fun h2 => ⟨by omega, h2⟩, fun h2 => h2.2⟩
  have sN : ∀ {c : Int}, ¬ (k : Int) < s.length → ¬ sat s k c := fun h h2 => h (by have := h2.1; omega)
  have sM : ∀ {c : Int}, ¬ (k : Int) + 1 < s.length → ¬ sat s (k + 1) c := fun h h2 => h (by have := h2.1; omega)
  repeat' (first |refine zgg 18 hL (fun _ : Unit => [(0, .s s), (2, .pv 2 0), (5, .i .i64 (exN powR s k).2), (6, .b (decide (sat s 0 45))), (8, .s al), (9, .i .i64 ((exN powR s k).1 - f.length))]) (fun _ => [(2, .var [.b false, .s [], .i .i64 0])]) (fun _ => True) ?_ ?_|refine znb 18 hL (fun _ : Unit => [(0, .s s), (2, .pv 2 0), (5, .i .i64 k), (6, .b (decide (sat s 0 45))), (8, .s al), (9, .i .i64 (-(f.length : Int))), (93, .b (decide (sat s k 101 ∨ sat s k 69)))]) (fun _ => [(2, .var [.b false, .s [], .i .i64 0])]) (fun _ => True) ?_ ?_|with_reducible (first |refine zag ?_|refine zaa ?_|refine zaf ?_|refine zad ?_)|refine zab rfl rfl True.intro ?_|refine zau rfl rfl rfl ?_|refine zce rfl rfl rfl ?_|refine zam rfl rfl rfl rfl True.intro ?_|((first |refine zan rfl rfl ?_ ?_)<;>intro)|((first |refine zam rfl rfl rfl rfl ?_ ?_);focus (first |omega|((repeat' refine And.intro ?_ ?_)<;>omega)))|fail)
  · rename_i h1 h2
    exact ⟨(), trivial, ⟨rfl, rfl, rfl, rfl, rfl, rfl, congrArg D.b (decide_eq_true (.inl ⟨by omega, h2⟩)).symm, trivial⟩, ⟨rfl, trivial⟩, rfl, by rw [hX]; intro k hk; cases hk⟩
  · rename_i h1 h2
    exact ⟨(), trivial, ⟨rfl, rfl, rfl, rfl, rfl, rfl, congrArg D.b (by rw [bE h1, decide_eq_decide]; exact ⟨.inr, fun h => h.elim (fun h => absurd h.2 h2) id⟩), trivial⟩, ⟨rfl, trivial⟩, rfl, by rw [hX]; intro k hk; cases hk⟩
  · rename_i h1
    exact ⟨(), trivial, ⟨rfl, rfl, rfl, rfl, rfl, rfl, congrArg D.b (decide_eq_false (fun h => h.elim (sN h1) (sN h1))).symm, trivial⟩, ⟨rfl, trivial⟩, rfl, by rw [hX]; intro k hk; cases hk⟩
  clear bE sN
  intro _ _
  repeat' (first |refine zgg 20 hL (fun _ : Unit => [(0, .s s), (2, .pv 2 0), (5, .i .i64 k), (6, .b (decide (sat s 0 45))), (8, .s al), (9, .i .i64 (-(f.length : Int))), (10, .i .i64 (sgN s (k + 1)))]) (fun _ => [(2, .var [.b false, .s [], .i .i64 0])]) (fun _ => True) ?_ ?_|refine znb 20 hL (fun _ : Unit => [(0, .s s), (2, .pv 2 0), (5, .i .i64 k), (6, .b (decide (sat s 0 45))), (8, .s al), (9, .i .i64 (-(f.length : Int))), (10, .i .i64 ((k : Int) + 1)), (111, .b (decide (sat s (k + 1) 43 ∨ sat s (k + 1) 45)))]) (fun _ => [(2, .var [.b false, .s [], .i .i64 0])]) (fun _ => True) ?_ ?_|with_reducible (first |refine zag ?_|refine zaa ?_|refine zaf ?_|refine zad ?_|refine zai ?_)|refine zab rfl rfl True.intro ?_|refine zau rfl rfl rfl ?_|refine zce rfl rfl rfl ?_|refine zam rfl rfl rfl rfl True.intro ?_|((first |refine zac rfl ?_ ?_|refine zan rfl rfl ?_ ?_)<;>intro)|((first |refine zab rfl rfl ?_ ?_|refine zam rfl rfl rfl rfl ?_ ?_);focus (first |omega|((repeat' refine And.intro ?_ ?_)<;>omega)))|fail)
  · rename_i h1 h2
    exact ⟨(), trivial, ⟨rfl, rfl, rfl, rfl, rfl, rfl, rfl, congrArg D.b (decide_eq_true (.inl ⟨by omega, h2⟩)).symm, trivial⟩, ⟨rfl, trivial⟩, rfl, by rw [hX]; intro k hk; cases hk⟩
  · rename_i h1 h2
    exact ⟨(), trivial, ⟨rfl, rfl, rfl, rfl, rfl, rfl, rfl, congrArg D.b (by rw [bF h1, decide_eq_decide]; exact ⟨.inr, fun h => h.elim (fun h => absurd h.2 h2) id⟩), trivial⟩, ⟨rfl, trivial⟩, rfl, by rw [hX]; intro k hk; cases hk⟩
  · rename_i h1
    exact ⟨(), trivial, ⟨rfl, rfl, rfl, rfl, rfl, rfl, rfl, congrArg D.b (decide_eq_false (fun h => h.elim (sM h1) (sM h1))).symm, trivial⟩, ⟨rfl, trivial⟩, rfl, by rw [hX]; intro k hk; cases hk⟩
  · intro _ _
    have g1 : (sat s (k + 1) 43 ∨ sat s (k + 1) 45) → sgN s (k + 1) = k + 1 + 1 := fun h => if_pos h
    have g2 : ¬ (sat s (k + 1) 43 ∨ sat s (k + 1) 45) → sgN s (k + 1) = k + 1 := fun h => if_neg h
    have hb : (sat s k 101 ∨ sat s k 69) → (k : Int) < s.length := fun h => by
      rcases h with h | h
      · have := h.1
        omega
      · have := h.1
        omega
    have hb := hb ‹_›
    repeat' (first |with_reducible (first |refine zaa ?_|refine zaf ?_|refine zad ?_|refine zai ?_)|refine zab rfl rfl True.intro ?_|((first |refine zac rfl ?_ ?_)<;>intro)|((first |refine zab rfl rfl ?_ ?_);focus (first |omega|((repeat' refine And.intro ?_ ?_)<;>omega)))|fail)
    · rw [g1 ‹_›]
      exact ⟨(), trivial, ⟨rfl, rfl, rfl, rfl, rfl, rfl, rfl, trivial⟩, ⟨rfl, trivial⟩, rfl, by rw [hX]; intro k hk; cases hk⟩
    · rw [g2 ‹_›]
      exact ⟨(), trivial, ⟨rfl, rfl, rfl, rfl, rfl, rfl, rfl, trivial⟩, ⟨rfl, trivial⟩, rfl, by rw [hX]; intro k hk; cases hk⟩
  · intro _ _
    rename_i he _ _
    have hb : k < s.length := by
      rcases he with h | h
      · exact h.1
      · exact h.1
    have hp1 := hp0 hb
    have hs45 : ∀ c, at' s ((k : Int) + 1) = c → k + 1 < s.length → sat s (k + 1) c := fun c h h2 => ⟨h2, h⟩
    generalize sgN s (k + 1) = p at hp1 L1 L2 hx0 ⊢
    have hl := zbt s p
    have c1 := zdR s p hs hp1.1
    have hdg := zcL s p
    have L1 := L1 he
    clear hR hp0 L3 bF sM he
    repeat' (first |with_reducible (first |refine zag ?_|refine zaa ?_|refine zaf ?_|refine zad ?_|refine zae ?_)|refine zab rfl rfl True.intro ?_|refine zah (f := 118) rfl rfl Tryz.call118 rfl c1 ?_|fail)
    clear c1
    refine T.loop hL (fun y : Nat × Int => [(0, .s s), (2, .pv 2 0), (5, .i .i64 k), (6, .b (decide (sat s 0 45))), (7, .i .i64 ((p + (dgT s p).length : Nat) : Int)), (8, .s al), (9, .i .i64 (-(f.length : Int))), (10, .i .i64 p), (11, .i .i64 y.2), (12, .i .i64 ((p + y.1 : Nat) : Int))]) (fun _ => [(2, .var [.b false, .s [], .i .i64 0])])
      (fun y => y.1 ≤ (dgT s p).length ∧ 0 ≤ y.2 ∧ y.2 < 20000000000 ∧ y.2 = powR ((dgT s p).take y.1)) (fun y => (dgT s p).length - y.1) (0, 0) ⟨Nat.zero_le _, by decide, by decide, rfl⟩ ⟨⟨rfl, rfl, rfl, rfl, rfl, rfl, rfl, rfl, rfl, rfl, trivial⟩, ⟨rfl, trivial⟩, rfl, by rw [hX]; intro k hk; cases hk⟩ ?_
    rintro ⟨q, n⟩ ⟨q1, q2, q3, q4⟩
    dsimp only at q1 q2 q3 q4 ⊢
    have hfin : ¬ q < (dgT s p).length ∨ ¬ n < 1000000000 → n = powR (dgT s p) := fun h => by
      rcases h with h | h
      · rw [q4, List.take_of_length_le (by omega)]
      · rw [znS (dgT s p) q (by rw [← q4]; omega), ← q4]
    have hdq : q < (dgT s p).length → 48 ≤ at' s ((p + q : Nat) : Int) ∧ at' s ((p + q : Nat) : Int) ≤ 57 := fun h => by
      have := zbY.1 (hdg ((dgT s p).getD q 0) (by simp [List.getD_eq_getElem?_getD, h]))
      rw [zqr s p q h] at this
      exact this
    have hsn : q < (dgT s p).length → n < 1000000000 → powR ((dgT s p).take (q + 1)) = 10 * n + at' s ((p + q : Nat) : Int) - 48 := fun h h2 => by
      rw [zfZ _ q h, znJ _ _ (by rw [← q4]; exact h2), ← q4, zqr s p q h]
      rfl
    have q4 := fun _ : Unit => q4
    have hdg := fun _ : Unit => hdg
    have hw : q < (dgT s p).length → IntKind.i64.wrap (at' s ((p + q : Nat) : Int)) = at' s ((p + q : Nat) : Int) := fun h => by
      have := hdq h
      rw [wi6_]
      omega
    by_cases hq : q < (dgT s p).length
    · have hw := hw hq
      have hdq := hdq hq
      have hfin := fun h : ¬ n < 1000000000 => hfin (.inr h)
      repeat' (first |with_reducible (first |refine zag ?_|refine zaa ?_|refine zaf ?_|refine zad ?_|refine zai ?_|refine zaz ?_|refine zae ?_|refine zaq ?_|refine zaA ?_)|refine zab rfl rfl True.intro ?_|refine zam rfl rfl rfl rfl True.intro ?_|((first |refine zac rfl ?_ ?_|refine zan rfl rfl ?_ ?_)<;>intro<;>try (first |(exfalso;omega)))|((first |refine zab rfl rfl ?_ ?_);focus (first |(rw [hw];(repeat' refine And.intro ?_ ?_)<;>omega)|omega|((repeat' refine And.intro ?_ ?_)<;>omega)))|refine zaJ rfl ?_|fail)
      · refine ⟨(q + 1, 10 * n + IntKind.i64.wrap (at' s ((p + q : Nat) : Int)) - 48), ⟨by dsimp only; omega, by dsimp only; omega, by dsimp only; omega, ?_⟩, by dsimp only; omega, ⟨rfl, rfl, rfl, rfl, rfl, rfl, rfl, rfl, rfl, rfl, trivial⟩, ⟨rfl, trivial⟩, rfl, by rw [hX]; intro k hk; cases hk⟩
        dsimp only
        rw [hw, hsn hq ‹_›]
      · rename_i h45
        rw [L1 (by omega), if_pos (hs45 45 h45 (by omega))]
        exact ⟨(), trivial, ⟨rfl, rfl, rfl, rfl, rfl, congrArg (D.i .i64) (by dsimp only; rw [← hfin (by assumption)]; omega), trivial⟩, ⟨rfl, trivial⟩, rfl, by rw [hX]; intro k hk; cases hk⟩
      · rename_i h45
        rw [L1 (by omega), if_neg (fun h => h45 h.2)]
        exact ⟨(), trivial, ⟨rfl, rfl, rfl, rfl, rfl, congrArg (D.i .i64) (by dsimp only; rw [← hfin (by assumption)]; omega), trivial⟩, ⟨rfl, trivial⟩, rfl, by rw [hX]; intro k hk; cases hk⟩
    ·
      clear hw hdq hsn
      have hfin := fun _ : Unit => hfin (.inl hq)
      repeat' (first |with_reducible (first |refine zag ?_|refine zaa ?_|refine zaf ?_|refine zad ?_|refine zai ?_|refine zaz ?_|refine zaA ?_)|refine zab rfl rfl True.intro ?_|refine zau rfl rfl rfl ?_|refine zak rfl ?_|((first |refine zac rfl ?_ ?_|refine zan rfl rfl ?_ ?_)<;>intro<;>try (first |(exfalso;omega)))|((first |refine zab rfl rfl ?_ ?_);focus (first |omega|((repeat' refine And.intro ?_ ?_)<;>omega)))|refine zaJ rfl ?_|fail)
      · rename_i h45
        rw [L1 (by omega), if_pos (hs45 45 h45 (by omega))]
        exact ⟨(), trivial, ⟨rfl, rfl, rfl, rfl, rfl, congrArg (D.i .i64) (by dsimp only; rw [← hfin ()]; omega), trivial⟩, ⟨rfl, trivial⟩, rfl, by rw [hX]; intro k hk; cases hk⟩
      · rename_i h45
        rw [L1 (by omega), if_neg (fun h => h45 h.2)]
        exact ⟨(), trivial, ⟨rfl, rfl, rfl, rfl, rfl, congrArg (D.i .i64) (by dsimp only; rw [← hfin ()]; omega), trivial⟩, ⟨rfl, trivial⟩, rfl, by rw [hX]; intro k hk; cases hk⟩
      · rw [L2 (by omega)]
        exact ⟨(), trivial, ⟨rfl, rfl, rfl, rfl, rfl, congrArg (D.i .i64) (by dsimp only; omega), trivial⟩, ⟨rfl, trivial⟩, rfl, by rw [hX]; intro k hk; cases hk⟩
  · rename_i h1
    rw [L3 h1]
    exact ⟨(), trivial, ⟨rfl, rfl, rfl, rfl, rfl, congrArg (D.i .i64) (by dsimp only; omega), trivial⟩, ⟨rfl, trivial⟩, rfl, by rw [hX]; intro k hk; cases hk⟩
  intro _ _
  have hx : -20000000000 ≤ (exN powR s k).1 ∧ (exN powR s k).1 ≤ 20000000000 := by
    have hpr := zqM (dgT s (sgN s (k + 1))) (zcL _ _)
    unfold exN
    split
    · dsimp only
      split <;> omega
    · dsimp only
      omega
  generalize exN powR s k = W at hR hx ⊢
  obtain ⟨x, m⟩ := W
  dsimp only at hR hx ⊢
  have c1 := zmW (decide (sat s 0 45)) al (x - f.length) (by omega) (by omega) (by omega)
  generalize normF (decide (sat s 0 45)) al (x - f.length) = W at hR c1
  obtain ⟨⟨n1, d1, e1⟩, err⟩ := W
  dsimp only at hR c1
  clear L1 L2 L3 hp0 hx0 bF sM
  repeat' (first |with_reducible (first |refine zag ?_|refine zaa ?_|refine zaf ?_|refine zad ?_|refine zaj ?_|refine zai ?_|refine zal ?_)|refine zab rfl rfl True.intro ?_|((first |refine zat rfl ?_ ?_)<;>intro)|((first |refine zab rfl rfl ?_ ?_|refine zao rfl rfl ?_ ?_|refine zar rfl ?_ ?_);focus (first |exact le_ rfl|((repeat' refine And.intro ?_ ?_)<;>omega)|((repeat' refine And.intro ?_ ?_)<;>first |rfl|exact Nat.le_refl _)))|refine zaw rfl ?_|refine zah (f := 107) rfl rfl Tryz.call107 rfl c1 ?_|fail)
  · rename_i h
    rw [hR (), if_neg h]
    rfl
  · rename_i h
    rw [hR (), if_pos h]
    rfl

theorem zoI : Ctr Tryz.prog 98 [dcD false [] 0] (.s [48]) := by
  have c1 := zcz false [] 0 (by decide)
  have hr : rightB false [] 0 = true := by decide
  rw [hr] at c1
  refine zay Tryz.func98 rfl Tryz.ntmps98 Tryz.results98 rfl rfl fun X hL hX => ?_
  repeat' (first |with_reducible (first |refine zag ?_|refine zaa ?_|refine zaf ?_|refine zad ?_|refine zaj ?_|refine zai ?_|refine zae ?_|refine zal ?_|refine zap ?_)|refine zab rfl rfl True.intro ?_|refine zas rfl ?_|refine zak rfl ?_|((first |refine zab rfl rfl ?_ ?_|refine zao rfl rfl ?_ ?_);focus (first |exact le_ rfl|((repeat' refine And.intro ?_ ?_)<;>omega)|((repeat' refine And.intro ?_ ?_)<;>first |omega|rfl)|(simp_all;omega)))|refine zaw rfl ?_|refine zah (f := 113) rfl rfl Tryz.call113 rfl c1 ?_|fail)
  all_goals rfl
theorem zqa (neg : Bool) (s : List UInt8) (e : Int) (hs : s.length ≤ 1048576) : Ctr Tryz.prog 98 [dcD neg s e] (.s (textF neg s e)) := by
  by_cases h : RightP neg s e
  · by_cases h0 : s.length = 0
    · obtain ⟨rfl, rfl⟩ := (zdm h0).1 h
      obtain rfl := zjo h0
      exact zoI
    · have := zrh neg s e h h0
      unfold textF
      rw [if_neg (fun h2 => h2 h), if_neg h0]
      exact this
  · have := zpQ neg s e hs h
    unfold textF
    rw [if_pos h]
    exact this

theorem zhM {neg : Bool} {s : List UInt8} {e : Int} (h : RightP neg s e) : (textF neg s e).length ≤ 1000 := by
  obtain ⟨b1, b2, b3, _⟩ := h.bounds
  have l4 := zkH (s.length + e - 1) (by omega) (by omega)
  have lu : (textU s e).length ≤ 900 := by
    unfold textU
    split
    · simp only [List.length_append, List.length_replicate]
      omega
    · split
      · simp only [List.length_append, List.length_take, List.length_drop, List.length_cons, List.length_nil]
        omega
      · split
        · simp only [List.length_append, List.length_replicate, List.length_cons, List.length_nil]
          omega
        · have : (if 1 < s.length then ([46] : List UInt8) ++ s.drop 1 else []).length ≤ 200 := by
            split
            · simp only [List.length_append, List.length_drop, List.length_cons, List.length_nil]
              omega
            · simp
          simp only [List.length_append, List.length_take, List.length_cons, List.length_nil]
          omega
  unfold textF
  rw [if_neg (fun h2 => h2 h)]
  split
  · simp
  · have : (if neg = true then ([45] : List UInt8) else []).length ≤ 1 := by split <;> simp
    rw [List.length_append]
    omega

theorem zlX (s : List UInt8) : (quoteL s).length ≤ 6 * s.length + 2 := by
  have := znu s
  unfold quoteL
  split
  · simp
    omega
  · simp

theorem zgE (mp : Bool) (x : J) : ∀ (l : List J) (f : Bool) (ks : List (List UInt8)), partsT mp f (l ++ [x]) ks = partsT mp f l ks ++ (aheadT mp (f && l.isEmpty) (ks.drop l.length) ++ textJ x)
  | [], f, ks => by
    rw [List.nil_append, partsT, partsT, partsT, List.append_nil]
    cases f <;> rfl
  | y :: l, f, ks => by
    rw [List.cons_append, partsT, zgE mp x l false ks.tail, partsT]
    simp only [List.append_assoc, List.length_cons, List.isEmpty_cons, Bool.and_false, Bool.false_and, List.drop_tail]
def partN (mp : Bool) (l : List J) (ks : List (List UInt8)) (i : Nat) : List UInt8 := partsT mp true (l.take i) ks
theorem zlW (mp : Bool) (l : List J) (ks : List (List UInt8)) : partN mp l ks 0 = [] := by
  unfold partN
  rw [List.take_zero, partsT]
theorem ziJ (mp : Bool) (l : List J) (ks : List (List UInt8)) : partN mp l ks l.length = partsT mp true l ks := by
  unfold partN
  rw [List.take_length]
theorem zgr (mp : Bool) {l : List J} (ks : List (List UInt8)) {i : Nat} (h : i < l.length) :
    partN mp l ks (i + 1) = ((partN mp l ks i ++ (if i = 0 then [] else [44])) ++ (if mp = true then quoteL (ks.getD i []) ++ [58] else [])) ++ textJ (l.getD i j0) := by
  unfold partN
  have e : l.take (i + 1) = l.take i ++ [l.getD i j0] := by
    rw [List.take_add_one]
    have : l[i]? = some (l.getD i j0) := by simp [List.getD_eq_getElem?_getD, h]
    rw [this]
    rfl
  rw [e, zgE]
  have e2 : (true && (l.take i).isEmpty) = decide (i = 0) := by
    by_cases h0 : i = 0
    · subst h0
      rw [List.take_zero]
      rfl
    · rw [decide_eq_false h0, Bool.true_and]
      cases hq : (l.take i).isEmpty with
      | false => rfl
      | true =>
        have := List.isEmpty_iff_length_eq_zero.1 hq
        rw [List.length_take] at this
        omega
  have e3 : (ks.drop (l.take i).length).headD [] = ks.getD i [] := by
    rw [List.length_take, Nat.min_eq_left (by omega)]
    simp [List.headD_eq_head?_getD, List.getD_eq_getElem?_getD, List.head?_drop]
  rw [e2]
  unfold aheadT
  rw [e3]
  simp only [List.append_assoc, decide_eq_true_eq]
theorem zhG (s : List UInt8) : (quoteL s).length ≤ 6 * s.length + 2 := zlX s
theorem zgP {d : Nat} (ih : ∀ x, rightJ d x = true → (textJ x).length + 4 ≤ 1010 * jb x) : ∀ (l : List J) (ks : List (List UInt8)) (mp f : Bool), l.all (rightJ d) = true → (partsT mp f l ks).length ≤ 1010 * (jbL l + txL ks)
  | [], _, _, _, _ => by
    rw [partsT]
    exact Nat.zero_le _
  | x :: r, ks, mp, f, h => by
    rw [List.all_cons, Bool.and_eq_true] at h
    have h1 := ih x h.1
    have h2 := zgP ih r ks.tail mp false h.2
    rw [partsT, jbL]
    have ha : (aheadT mp f ks).length + 1010 * txL ks.tail ≤ 1010 * txL ks + 4 := by
      unfold aheadT
      cases ks with
      | nil => cases f <;> cases mp <;> decide
      | cons k kr =>
        have := zhG k
        have e1 : (k :: kr).headD [] = k := rfl
        have e2 : (k :: kr).tail = kr := rfl
        rw [e1, e2, txL]
        cases f <;> cases mp <;> simp only [if_true, if_false, Bool.false_eq_true, List.length_append, List.length_cons, List.length_nil] <;> omega
    simp only [List.length_append]
    omega
theorem znf : ∀ (d : Nat) (x : J), rightJ d x = true → (textJ x).length + 4 ≤ 1010 * jb x := by
  intro d
  induction d with
  | zero => intro x h; cases h
  | succ d ih =>
    rintro ⟨k, y, n, dg, e, t, l, ks⟩ h
    have hp := zgP ih l ks
    rw [textJ, jb]
    rw [zhu] at h
    have qt := zhG t
    by_cases k0 : k = 0
    · rw [if_pos k0]
      show 4 + 4 ≤ _
      omega
    rw [if_neg k0]
    by_cases k1 : k = 1
    · rw [if_pos k1]
      cases y
      · show 5 + 4 ≤ _
        omega
      · show 4 + 4 ≤ _
        omega
    rw [if_neg k1]
    rw [if_neg (fun q => q.elim k0 k1)] at h
    by_cases k2 : k = 2
    · rw [if_pos k2] at h ⊢
      have := zhM (zgQ h)
      omega
    rw [if_neg k2] at h ⊢
    by_cases k3 : k = 3
    · rw [if_pos k3]
      omega
    rw [if_neg k3] at h ⊢
    by_cases k4 : k = 4
    · rw [if_pos k4]
      rw [if_neg (by omega), if_pos k4] at h
      have := hp false true h
      simp only [List.length_append, List.length_cons, List.length_nil]
      omega
    rw [if_neg k4] at h ⊢
    by_cases k5 : k = 5
    · rw [if_pos k5, Bool.and_eq_true] at h
      have := hp (decide (k = 5)) true h.2
      simp only [List.length_append, List.length_cons, List.length_nil]
      omega
    · rw [if_neg k5] at h
      cases h
end Go.Proofs.YtcajofhafpkbdaaGreatDoor.Flow
