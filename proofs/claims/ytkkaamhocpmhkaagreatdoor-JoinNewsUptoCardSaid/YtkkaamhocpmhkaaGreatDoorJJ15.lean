/- The texts D9, T3, FlowS, one behind the other. -/
import Derived.Test.YtkkaamhocpmhkaaGreatDoorJJ9
import Derived.Test.YtkkaamhocpmhkaaGreatDoorJJ14
import Derived.Lib.IndexAny
import Derived.Lib.OthersKept
namespace Go.Proofs.YtkkaamhocpmhkaaGreatDoor.Flow
open Go
theorem zfI : ∀ (x : List UInt8) (n : Int), 1000000000 ≤ n → x.foldl (fun n c => if n < 1000000000 then 10 * n + (c.toNat : Int) - 48 else n) n = n
  | [], _, _ => rfl
  | c :: x, n, h => by
    rw [List.foldl_cons, if_neg (by omega)]
    exact zfI x n h
theorem zkQ (x : List UInt8) (m : Nat) : powR x = (x.drop m).foldl (fun n c => if n < 1000000000 then 10 * n + (c.toNat : Int) - 48 else n) (powR (x.take m)) := by
  unfold powR
  rw [← List.foldl_append, List.take_append_drop]
theorem zmF (x : List UInt8) (m : Nat) (h : 1000000000 ≤ powR (x.take m)) : powR x = powR (x.take m) := by
  rw [zkQ x m, zfI _ _ h]
theorem znn (l : List UInt8) (c : UInt8) (h : powR l < 1000000000) : powR (l ++ [c]) = 10 * powR l + (c.toNat : Int) - 48 := by
  unfold powR at *
  rw [List.foldl_append, List.foldl_cons, List.foldl_nil, if_pos h]
theorem zqG (x : List UInt8) (hx : ∀ c ∈ x, isD c = true) : 0 ≤ powR x ∧ powR x < 20000000000 := by
  have key : ∀ (x : List UInt8) (n : Int), (∀ c ∈ x, isD c = true) → 0 ≤ n → n < 20000000000 → 0 ≤ x.foldl (fun n c => if n < 1000000000 then 10 * n + (c.toNat : Int) - 48 else n) n ∧ x.foldl (fun n c => if n < 1000000000 then 10 * n + (c.toNat : Int) - 48 else n) n < 20000000000 := by
    intro x
    induction x with
    | nil => exact fun n _ h h2 => ⟨h, h2⟩
    | cons c x ih =>
      intro n hx h h2
      have := zby.1 (hx c (by simp))
      rw [List.foldl_cons]
      refine ih _ (fun c hc => hx c (by simp [hc])) ?_ ?_
      · split <;> omega
      · split <;> omega
  exact key x 0 hx (by omega) (by omega)
theorem znL (s : List UInt8) (i k : Nat) (h : k < (dgT s i).length) : (dgT s i).getD k 0 = s.getD (i + k) 0 := by
  have e : dgT s i = (s.drop i).take (dgT s i).length := (zbS _).symm
  have hl := zbl s i
  rw [e]
  simp only [List.getD_eq_getElem?_getD, List.getElem?_take, h, if_true, List.getElem?_drop]
theorem zrx (s : List UInt8) (i : Nat) (h : sat s i 48) : ¬ dgT s i = [] := by
  rw [zhi h.1 (by have := h.2; omega)]
  simp
theorem zqv (s : List UInt8) (i : Nat) : (s.take (whN s i).2).drop i = (whN s i).1 := by
  unfold whN
  split
  · rename_i h
    have := cutD s i h.1
    rw [this]
    have e : s.getD i 0 = 48 := (zkO (n := 48) (by omega)).1 h.2
    rw [e]
  · exact ziA s i
where
  cutD (s : List UInt8) (i : Nat) (h : i < s.length) : (s.take (i + 1)).drop i = [s.getD i 0] := by
    rw [List.take_add_one, List.drop_append_of_le_length (by simp; omega), List.drop_eq_nil_of_le (by simp; omega)]
    simp [h, List.getD_eq_getElem?_getD]
theorem zrb (s : List UInt8) (i : Nat) : (whN s i).1 = [] ↔ dgT s i = [] := by
  unfold whN
  split
  · rename_i h
    simp [zrx s i h]
  · exact Iff.rfl
set_option maxHeartbeats 4000000 in
theorem rparse_ctr (s : List UInt8) (hs : s.length ≤ 1048576) : Ctr Tryz.prog 83 [.s s] (.tu [dcV (parseG powR s).1, .i .i64 (parseG powR s).2.1, .i .i64 (parseG powR s).2.2]) := by
  generalize hR : parseG powR s = R
  unfold parseG at hR
  replace hR := fun _ : Unit => hR.symm
  refine zax Tryz.func83 rfl Tryz.ntmps83 Tryz.results83 rfl rfl fun X hL hX => ?_
  have n1 : 0 < s.length → (at' s 0 == 45) = decide (sat s 0 45) := fun h => by
    rw [Bool.eq_iff_iff, beq_iff_eq, decide_eq_true_iff]
    exact ⟨fun h2 => ⟨h, h2⟩, fun h2 => h2.2⟩
  have n2 : ¬ 0 < s.length → false = decide (sat s 0 45) := fun h => (decide_eq_false fun h2 => h h2.1).symm
  repeat' (first |refine zlW 2 hL (fun _ : Unit => [(0, .s s), (2, .pv 2 0), (5, .i .i64 0), (6, .b (decide (sat s 0 45)))]) (fun _ => [(2, .var [.b false, .s [], .i .i64 0])]) (fun _ => True) ?_ ?_|with_reducible (first |refine zah ?_|refine zaa ?_|refine zag ?_|refine zad ?_)|refine zab rfl rfl True.intro ?_|refine zap rfl rfl rfl ?_|refine zaj rfl rfl rfl rfl True.intro ?_|((first |refine zak rfl rfl ?_ ?_)<;>intro)|((first |refine zaj rfl rfl rfl rfl ?_ ?_|refine zav rfl rfl ?_ ?_);focus (first |omega|((repeat' refine And.intro ?_ ?_)<;>omega)|((repeat' refine And.intro ?_ ?_)<;>first |rfl)))|fail)
  · exact ⟨(), trivial, ⟨rfl, rfl, rfl, congrArg D.b (n1 (by omega)), trivial⟩, ⟨rfl, trivial⟩, rfl, by rw [hX]; intro k hk; cases hk⟩
  · exact ⟨(), trivial, ⟨rfl, rfl, rfl, congrArg D.b (n2 (by omega)), trivial⟩, ⟨rfl, trivial⟩, rfl, by rw [hX]; intro k hk; cases hk⟩
  clear n1 n2
  intro _ _
  have e5 : sat s 0 45 → (1 : Int) = (sg0 s : Int) := fun h => by unfold sg0; rw [if_pos h]; rfl
  have e5' : ¬ sat s 0 45 → (0 : Int) = (sg0 s : Int) := fun h => by unfold sg0; rw [if_neg h]; rfl
  repeat' (first |refine zgs 3 hL (fun _ : Unit => [(0, .s s), (2, .pv 2 0), (5, .i .i64 (sg0 s)), (6, .b (decide (sat s 0 45)))]) (fun _ => [(2, .var [.b false, .s [], .i .i64 0])]) (fun _ => True) ?_ ?_|with_reducible (first |refine zah ?_|refine zaa ?_|refine zag ?_|refine zad ?_|refine zai ?_)|refine zab rfl rfl True.intro ?_|((first |refine zac rfl ?_ ?_)<;>intro)|fail)
  · exact ⟨(), trivial, ⟨rfl, rfl, congrArg (D.i .i64) (e5 ‹_›), rfl, trivial⟩, ⟨rfl, trivial⟩, rfl, by rw [hX]; intro k hk; cases hk⟩
  · exact ⟨(), trivial, ⟨rfl, rfl, congrArg (D.i .i64) (e5' ‹_›), rfl, trivial⟩, ⟨rfl, trivial⟩, rfl, by rw [hX]; intro k hk; cases hk⟩
  clear e5 e5'
  intro _ _
  have hi := zpA (s := s)
  generalize sg0 s = i at hR hi ⊢
  have c1 := zdc s i hs hi
  have L0 := zrb s i
  have L1 := fun h => zme (s := s) (i := i) h
  have L2 := fun h => zmE (s := s) (i := i) h
  have hl := zbl s i
  have hz : (dgT s i).length = 0 ↔ dgT s i = [] := List.length_eq_zero_iff
  have hi2 : ¬ (dgT s i).length = 0 → i < s.length := fun h => by omega
  have L0 := fun _ : Unit => L0
  have hz := fun _ : Unit => hz
  repeat' (first |refine zgs 8 hL (fun _ : Unit => [(0, .s s), (2, .pv 2 0), (5, .i .i64 i), (6, .b (decide (sat s 0 45))), (7, .i .i64 (whN s i).2)]) (fun _ => [(2, .var [.b false, .s [], .i .i64 0])]) (fun _ => ¬ (whN s i).1 = []) ?_ ?_|with_reducible (first |refine zah ?_|refine zaa ?_|refine zag ?_|refine zad ?_|refine zan ?_|refine zai ?_|refine zam ?_)|refine zab rfl rfl True.intro ?_|((first |refine zac rfl ?_ ?_)<;>intro)|((first |refine zab rfl rfl ?_ ?_|refine zaH rfl ?_ ?_);focus (first |omega|((repeat' refine And.intro ?_ ?_)<;>omega)|((repeat' refine And.intro ?_ ?_)<;>first |rfl|exact Nat.le_refl _)))|refine zaq rfl ?_|refine zae (f := 133) rfl rfl Tryz.call133 rfl c1 ?_|fail)
  · rw [hR (), if_pos ((L0 ()).2 ((hz ()).1 (by omega)))]
    rfl
  · rename_i h1 h2
    have hs1 : sat s i 48 := ⟨hi2 (by omega), h2⟩
    rw [L1 hs1]
    exact ⟨(), by simp, ⟨rfl, rfl, rfl, rfl, rfl, trivial⟩, ⟨rfl, trivial⟩, rfl, by rw [hX]; intro k hk; cases hk⟩
  · rename_i h1 h2
    have hs1 : ¬ sat s i 48 := fun h => h2 h.2
    have h3 : ¬ dgT s i = [] := fun h => h1 (by rw [h]; simp)
    rw [L2 hs1]
    exact ⟨(), h3, ⟨rfl, rfl, rfl, rfl, rfl, trivial⟩, ⟨rfl, trivial⟩, rfl, by rw [hX]; intro k hk; cases hk⟩
  clear L0 hz c1 L1 L2 hl hi2
  intro _ hw
  replace hR := fun _ : Unit => (hR ()).trans (if_neg hw)
  dsimp only at hR
  have hj := zpT hi
  have lw : (whN s i).1.length ≤ 1048577 := by
    have := zbl s i
    unfold whN
    split <;> dsimp only [List.length_cons, List.length_nil] <;> omega
  have hcut := fun _ : Unit => zqv s i
  have hij : i ≤ (whN s i).2 := by
    unfold whN
    split <;> dsimp only <;> omega
  generalize whN s i = W at hR hw hj lw hcut hij ⊢
  obtain ⟨w, j⟩ := W
  dsimp only at hR hw hj lw hcut hij ⊢
  clear hw
  have hl := zbl s (j + 1)
  have c2 := fun h : sat s j 46 => zdc s (j + 1) hs h.1
  have L1 := fun h h2 => zns (s := s) (i := j) h h2
  have L2 := fun h => zng (s := s) (i := j) h
  have hz : (dgT s (j + 1)).length = 0 ↔ dgT s (j + 1) = [] := List.length_eq_zero_iff
  have hz := fun _ : Unit => hz
  have hcf := fun _ : Unit => ziA s (j + 1)
  have ms : j < s.length → at' s j = 46 → sat s j 46 := fun h h2 => ⟨h, h2⟩
  repeat' (first |refine zgs 13 hL (fun _ : Unit => [(0, .s s), (2, .pv 2 0), (5, .i .i64 (frN s j).2), (6, .b (decide (sat s 0 45))), (8, .s (w ++ (frN s j).1)), (9, .i .i64 (-((frN s j).1.length : Int)))]) (fun _ => [(2, .var [.b false, .s [], .i .i64 0])]) (fun _ => True) ?_ ?_|with_reducible (first |refine zah ?_|refine zaa ?_|refine zag ?_|refine zad ?_|refine zai ?_)|refine zab rfl rfl True.intro ?_|refine zap rfl rfl rfl ?_|refine zaj rfl rfl rfl rfl True.intro ?_|refine zal rfl ?_|((first |refine zac rfl ?_ ?_|refine zak rfl rfl ?_ ?_)<;>intro)|((first |refine zab rfl rfl ?_ ?_|refine zaj rfl rfl rfl rfl ?_ ?_);focus (first |(simp only [List.length_drop, List.length_take];omega)|omega|((repeat' refine And.intro ?_ ?_)<;>omega)))|refine zae (f := 133) rfl rfl Tryz.call133 rfl (c2 (ms (by omega) ‹_›)) ?_|refine zaw (f := 133) rfl rfl rfl rfl Tryz.call133 rfl (c2 (ms (by omega) ‹_›)) ?_|fail)
  · rename_i h1 h2 h3
    rw [L1 (ms (by omega) h2) (fun h => by rw [h] at h3; simp at h3)]
    exact ⟨(), trivial, ⟨rfl, rfl, rfl, rfl, congrArg D.s (by simp only [Int.toNat_natCast, show ((j : Int) + 1).toNat = j + 1 by omega]; rw [hcut (), hcf ()]), congrArg (D.i .i64) (by dsimp only; omega), trivial⟩, ⟨rfl, trivial⟩, rfl, by rw [hX]; intro k hk; cases hk⟩
  · rename_i h1 h2 h3
    rw [L2 (.inr ((hz ()).1 (by omega)))]
    exact ⟨(), trivial, ⟨rfl, rfl, rfl, rfl, congrArg D.s (by simp only [Int.toNat_natCast]; rw [hcut ()]; simp), rfl, trivial⟩, ⟨rfl, trivial⟩, rfl, by rw [hX]; intro k hk; cases hk⟩
  · rename_i h1 h2
    rw [L2 (.inl fun h => h2 h.2)]
    exact ⟨(), trivial, ⟨rfl, rfl, rfl, rfl, congrArg D.s (by simp only [Int.toNat_natCast]; rw [hcut ()]; simp), rfl, trivial⟩, ⟨rfl, trivial⟩, rfl, by rw [hX]; intro k hk; cases hk⟩
  · rename_i h1
    rw [L2 (.inl fun h => h1 (by have := h.1; omega))]
    exact ⟨(), trivial, ⟨rfl, rfl, rfl, rfl, congrArg D.s (by simp only [Int.toNat_natCast]; rw [hcut ()]; simp), rfl, trivial⟩, ⟨rfl, trivial⟩, rfl, by rw [hX]; intro k hk; cases hk⟩
  clear c2 L1 L2 hz hcf ms hcut hij hl
  intro _ _
  have hk := zpM hj
  have lf : (frN s j).1.length ≤ 1048577 := by
    have := zbl s (j + 1)
    unfold frN
    split <;> dsimp only [List.length_cons, List.length_nil] <;> omega
  generalize frN s j = W at hR hk lf ⊢
  obtain ⟨f, k⟩ := W
  dsimp only at hR hk lf ⊢
  have la : (w ++ f).length ≤ 2097154 := by rw [List.length_append]; omega
  generalize w ++ f = al at hR la ⊢
  have L1 : (sat s k 101 ∨ sat s k 69) → ¬ (dgT s (sgN s (k + 1))).length = 0 → exN powR s k = (if sat s (k + 1) 45 then -powR (dgT s (sgN s (k + 1))) else powR (dgT s (sgN s (k + 1))), sgN s (k + 1) + (dgT s (sgN s (k + 1))).length) := fun h h2 => znP h (fun h3 => h2 (by rw [h3]; rfl))
  have L2 : (dgT s (sgN s (k + 1))).length = 0 → exN powR s k = (0, k) := fun h => zgr (.inr (List.length_eq_zero_iff.1 h))
  have L3 := fun h => zgr (s := s) (i := k) (pw := powR) (.inl h)
  have hp0 : k < s.length → sgN s (k + 1) ≤ s.length ∧ k + 1 ≤ sgN s (k + 1) := fun h => ⟨zrt (by omega), by unfold sgN; split <;> omega⟩
  have hx0 := fun _ : Unit => (zlK (dgT s (sgN s (k + 1))) (zbi _ _))
  have bE : (k : Int) < s.length → ∀ c, (at' s k == c) = decide (sat s k c) := fun h c => by
    rw [Bool.eq_iff_iff, beq_iff_eq, decide_eq_true_iff]
    exact ⟨fun h2 => ⟨by omega, h2⟩, fun h2 => h2.2⟩
  have bF : (k : Int) + 1 < s.length → ∀ c, (at' s ((k : Int) + 1) == c) = decide (sat s (k + 1) c) := fun h c => by
    rw [Bool.eq_iff_iff, beq_iff_eq, decide_eq_true_iff]
    exact ⟨fun h2 => ⟨by omega, h2⟩, fun h2 => h2.2⟩
  have sN : ∀ {c : Int}, ¬ (k : Int) < s.length → ¬ sat s k c := fun h h2 => h (by have := h2.1; omega)
  have sM : ∀ {c : Int}, ¬ (k : Int) + 1 < s.length → ¬ sat s (k + 1) c := fun h h2 => h (by have := h2.1; omega)
  repeat' (first |refine zgs 18 hL (fun _ : Unit => [(0, .s s), (2, .pv 2 0), (5, .i .i64 (exN powR s k).2), (6, .b (decide (sat s 0 45))), (8, .s al), (9, .i .i64 ((exN powR s k).1 - f.length))]) (fun _ => [(2, .var [.b false, .s [], .i .i64 0])]) (fun _ => True) ?_ ?_|refine zlW 18 hL (fun _ : Unit => [(0, .s s), (2, .pv 2 0), (5, .i .i64 k), (6, .b (decide (sat s 0 45))), (8, .s al), (9, .i .i64 (-(f.length : Int))), (93, .b (decide (sat s k 101 ∨ sat s k 69)))]) (fun _ => [(2, .var [.b false, .s [], .i .i64 0])]) (fun _ => True) ?_ ?_|with_reducible (first |refine zah ?_|refine zaa ?_|refine zag ?_|refine zad ?_)|refine zab rfl rfl True.intro ?_|refine zap rfl rfl rfl ?_|refine zbP rfl rfl rfl ?_|refine zaj rfl rfl rfl rfl True.intro ?_|((first |refine zak rfl rfl ?_ ?_)<;>intro)|((first |refine zaj rfl rfl rfl rfl ?_ ?_);focus (first |omega|((repeat' refine And.intro ?_ ?_)<;>omega)))|fail)
  · rename_i h1 h2
    exact ⟨(), trivial, ⟨rfl, rfl, rfl, rfl, rfl, rfl, congrArg D.b (decide_eq_true (.inl ⟨by omega, h2⟩)).symm, trivial⟩, ⟨rfl, trivial⟩, rfl, by rw [hX]; intro k hk; cases hk⟩
  · rename_i h1 h2
    exact ⟨(), trivial, ⟨rfl, rfl, rfl, rfl, rfl, rfl, congrArg D.b (by rw [bE h1, decide_eq_decide]; exact ⟨.inr, fun h => h.elim (fun h => absurd h.2 h2) id⟩), trivial⟩, ⟨rfl, trivial⟩, rfl, by rw [hX]; intro k hk; cases hk⟩
  · rename_i h1
    exact ⟨(), trivial, ⟨rfl, rfl, rfl, rfl, rfl, rfl, congrArg D.b (decide_eq_false (fun h => h.elim (sN h1) (sN h1))).symm, trivial⟩, ⟨rfl, trivial⟩, rfl, by rw [hX]; intro k hk; cases hk⟩
  clear bE sN
  intro _ _
  repeat' (first |refine zgs 20 hL (fun _ : Unit => [(0, .s s), (2, .pv 2 0), (5, .i .i64 k), (6, .b (decide (sat s 0 45))), (8, .s al), (9, .i .i64 (-(f.length : Int))), (10, .i .i64 (sgN s (k + 1)))]) (fun _ => [(2, .var [.b false, .s [], .i .i64 0])]) (fun _ => True) ?_ ?_|refine zlW 20 hL (fun _ : Unit => [(0, .s s), (2, .pv 2 0), (5, .i .i64 k), (6, .b (decide (sat s 0 45))), (8, .s al), (9, .i .i64 (-(f.length : Int))), (10, .i .i64 ((k : Int) + 1)), (111, .b (decide (sat s (k + 1) 43 ∨ sat s (k + 1) 45)))]) (fun _ => [(2, .var [.b false, .s [], .i .i64 0])]) (fun _ => True) ?_ ?_|with_reducible (first |refine zah ?_|refine zaa ?_|refine zag ?_|refine zad ?_|refine zai ?_)|refine zab rfl rfl True.intro ?_|refine zap rfl rfl rfl ?_|refine zbP rfl rfl rfl ?_|refine zaj rfl rfl rfl rfl True.intro ?_|((first |refine zac rfl ?_ ?_|refine zak rfl rfl ?_ ?_)<;>intro)|((first |refine zab rfl rfl ?_ ?_|refine zaj rfl rfl rfl rfl ?_ ?_);focus (first |omega|((repeat' refine And.intro ?_ ?_)<;>omega)))|fail)
  · rename_i h1 h2
    exact ⟨(), trivial, ⟨rfl, rfl, rfl, rfl, rfl, rfl, rfl, congrArg D.b (decide_eq_true (.inl ⟨by omega, h2⟩)).symm, trivial⟩, ⟨rfl, trivial⟩, rfl, by rw [hX]; intro k hk; cases hk⟩
  · rename_i h1 h2
    exact ⟨(), trivial, ⟨rfl, rfl, rfl, rfl, rfl, rfl, rfl, congrArg D.b (by rw [bF h1, decide_eq_decide]; exact ⟨.inr, fun h => h.elim (fun h => absurd h.2 h2) id⟩), trivial⟩, ⟨rfl, trivial⟩, rfl, by rw [hX]; intro k hk; cases hk⟩
  · rename_i h1
    exact ⟨(), trivial, ⟨rfl, rfl, rfl, rfl, rfl, rfl, rfl, congrArg D.b (decide_eq_false (fun h => h.elim (sM h1) (sM h1))).symm, trivial⟩, ⟨rfl, trivial⟩, rfl, by rw [hX]; intro k hk; cases hk⟩
  · intro _ _
    have g1 : (sat s (k + 1) 43 ∨ sat s (k + 1) 45) → sgN s (k + 1) = k + 1 + 1 := fun h => if_pos h
    have g2 : ¬ (sat s (k + 1) 43 ∨ sat s (k + 1) 45) → sgN s (k + 1) = k + 1 := fun h => if_neg h
    have hb : (sat s k 101 ∨ sat s k 69) → (k : Int) < s.length := fun h => by
      rcases h with h | h
      · have := h.1
        omega
      · have := h.1
        omega
    have hb := hb ‹_›
    repeat' (first |with_reducible (first |refine zaa ?_|refine zag ?_|refine zad ?_|refine zai ?_)|refine zab rfl rfl True.intro ?_|((first |refine zac rfl ?_ ?_)<;>intro)|((first |refine zab rfl rfl ?_ ?_);focus (first |omega|((repeat' refine And.intro ?_ ?_)<;>omega)))|fail)
    · rw [g1 ‹_›]
      exact ⟨(), trivial, ⟨rfl, rfl, rfl, rfl, rfl, rfl, rfl, trivial⟩, ⟨rfl, trivial⟩, rfl, by rw [hX]; intro k hk; cases hk⟩
    · rw [g2 ‹_›]
      exact ⟨(), trivial, ⟨rfl, rfl, rfl, rfl, rfl, rfl, rfl, trivial⟩, ⟨rfl, trivial⟩, rfl, by rw [hX]; intro k hk; cases hk⟩
  · intro _ _
    rename_i he _ _
    have hb : k < s.length := by
      rcases he with h | h
      · exact h.1
      · exact h.1
    have hp1 := hp0 hb
    have hs45 : ∀ c, at' s ((k : Int) + 1) = c → k + 1 < s.length → sat s (k + 1) c := fun c h h2 => ⟨h2, h⟩
    generalize sgN s (k + 1) = p at hp1 L1 L2 hx0 ⊢
    have hl := zbl s p
    have c1 := zdc s p hs hp1.1
    have hdg := zbi s p
    have L1 := L1 he
    clear hR hp0 L3 bF sM he
    repeat' (first |with_reducible (first |refine zah ?_|refine zaa ?_|refine zag ?_|refine zad ?_|refine zaf ?_)|refine zab rfl rfl True.intro ?_|refine zae (f := 133) rfl rfl Tryz.call133 rfl c1 ?_|fail)
    clear c1
    refine T.loop hL (fun y : Nat × Int => [(0, .s s), (2, .pv 2 0), (5, .i .i64 k), (6, .b (decide (sat s 0 45))), (7, .i .i64 ((p + (dgT s p).length : Nat) : Int)), (8, .s al), (9, .i .i64 (-(f.length : Int))), (10, .i .i64 p), (11, .i .i64 y.2), (12, .i .i64 ((p + y.1 : Nat) : Int))]) (fun _ => [(2, .var [.b false, .s [], .i .i64 0])])
      (fun y => y.1 ≤ (dgT s p).length ∧ 0 ≤ y.2 ∧ y.2 < 20000000000 ∧ y.2 = powR ((dgT s p).take y.1)) (fun y => (dgT s p).length - y.1) (0, 0) ⟨Nat.zero_le _, by decide, by decide, rfl⟩ ⟨⟨rfl, rfl, rfl, rfl, rfl, rfl, rfl, rfl, rfl, rfl, trivial⟩, ⟨rfl, trivial⟩, rfl, by rw [hX]; intro k hk; cases hk⟩ ?_
    rintro ⟨q, n⟩ ⟨q1, q2, q3, q4⟩
    dsimp only at q1 q2 q3 q4 ⊢
    have hfin : ¬ q < (dgT s p).length ∨ ¬ n < 1000000000 → n = powR (dgT s p) := fun h => by
      rcases h with h | h
      · rw [q4, List.take_of_length_le (by omega)]
      · rw [zmF (dgT s p) q (by rw [← q4]; omega), ← q4]
    have hdq : q < (dgT s p).length → 48 ≤ at' s ((p + q : Nat) : Int) ∧ at' s ((p + q : Nat) : Int) ≤ 57 := fun h => by
      have := zby.1 (hdg ((dgT s p).getD q 0) (by simp [List.getD_eq_getElem?_getD, h]))
      rw [znL s p q h] at this
      exact this
    have hsn : q < (dgT s p).length → n < 1000000000 → powR ((dgT s p).take (q + 1)) = 10 * n + at' s ((p + q : Nat) : Int) - 48 := fun h h2 => by
      rw [zcA _ q h, znn _ _ (by rw [← q4]; exact h2), ← q4, znL s p q h]
      rfl
    have q4 := fun _ : Unit => q4
    have hdg := fun _ : Unit => hdg
    have hw : q < (dgT s p).length → IntKind.i64.wrap (at' s ((p + q : Nat) : Int)) = at' s ((p + q : Nat) : Int) := fun h => by
      have := hdq h
      rw [wi6_]
      omega
    by_cases hq : q < (dgT s p).length
    · have hw := hw hq
      have hdq := hdq hq
      have hfin := fun h : ¬ n < 1000000000 => hfin (.inr h)
      repeat' (first |with_reducible (first |refine zah ?_|refine zaa ?_|refine zag ?_|refine zad ?_|refine zai ?_|refine zat ?_|refine zaf ?_|refine zao ?_|refine zas ?_)|refine zab rfl rfl True.intro ?_|refine zaj rfl rfl rfl rfl True.intro ?_|((first |refine zac rfl ?_ ?_|refine zak rfl rfl ?_ ?_)<;>intro<;>try (first |(exfalso;omega)))|((first |refine zab rfl rfl ?_ ?_);focus (first |(rw [hw];(repeat' refine And.intro ?_ ?_)<;>omega)|omega|((repeat' refine And.intro ?_ ?_)<;>omega)))|refine zaB rfl ?_|fail)
      · refine ⟨(q + 1, 10 * n + IntKind.i64.wrap (at' s ((p + q : Nat) : Int)) - 48), ⟨by dsimp only; omega, by dsimp only; omega, by dsimp only; omega, ?_⟩, by dsimp only; omega, ⟨rfl, rfl, rfl, rfl, rfl, rfl, rfl, rfl, rfl, rfl, trivial⟩, ⟨rfl, trivial⟩, rfl, by rw [hX]; intro k hk; cases hk⟩
        dsimp only
        rw [hw, hsn hq ‹_›]
      · rename_i h45
        rw [L1 (by omega), if_pos (hs45 45 h45 (by omega))]
        exact ⟨(), trivial, ⟨rfl, rfl, rfl, rfl, rfl, congrArg (D.i .i64) (by dsimp only; rw [← hfin (by assumption)]; omega), trivial⟩, ⟨rfl, trivial⟩, rfl, by rw [hX]; intro k hk; cases hk⟩
      · rename_i h45
        rw [L1 (by omega), if_neg (fun h => h45 h.2)]
        exact ⟨(), trivial, ⟨rfl, rfl, rfl, rfl, rfl, congrArg (D.i .i64) (by dsimp only; rw [← hfin (by assumption)]; omega), trivial⟩, ⟨rfl, trivial⟩, rfl, by rw [hX]; intro k hk; cases hk⟩
    ·
      clear hw hdq hsn
      have hfin := fun _ : Unit => hfin (.inl hq)
      repeat' (first |with_reducible (first |refine zah ?_|refine zaa ?_|refine zag ?_|refine zad ?_|refine zai ?_|refine zat ?_|refine zas ?_)|refine zab rfl rfl True.intro ?_|refine zap rfl rfl rfl ?_|refine zal rfl ?_|((first |refine zac rfl ?_ ?_|refine zak rfl rfl ?_ ?_)<;>intro<;>try (first |(exfalso;omega)))|((first |refine zab rfl rfl ?_ ?_);focus (first |omega|((repeat' refine And.intro ?_ ?_)<;>omega)))|refine zaB rfl ?_|fail)
      · rename_i h45
        rw [L1 (by omega), if_pos (hs45 45 h45 (by omega))]
        exact ⟨(), trivial, ⟨rfl, rfl, rfl, rfl, rfl, congrArg (D.i .i64) (by dsimp only; rw [← hfin ()]; omega), trivial⟩, ⟨rfl, trivial⟩, rfl, by rw [hX]; intro k hk; cases hk⟩
      · rename_i h45
        rw [L1 (by omega), if_neg (fun h => h45 h.2)]
        exact ⟨(), trivial, ⟨rfl, rfl, rfl, rfl, rfl, congrArg (D.i .i64) (by dsimp only; rw [← hfin ()]; omega), trivial⟩, ⟨rfl, trivial⟩, rfl, by rw [hX]; intro k hk; cases hk⟩
      · rw [L2 (by omega)]
        exact ⟨(), trivial, ⟨rfl, rfl, rfl, rfl, rfl, congrArg (D.i .i64) (by dsimp only; omega), trivial⟩, ⟨rfl, trivial⟩, rfl, by rw [hX]; intro k hk; cases hk⟩
  · rename_i h1
    rw [L3 h1]
    exact ⟨(), trivial, ⟨rfl, rfl, rfl, rfl, rfl, congrArg (D.i .i64) (by dsimp only; omega), trivial⟩, ⟨rfl, trivial⟩, rfl, by rw [hX]; intro k hk; cases hk⟩
  intro _ _
  have hx : -20000000000 ≤ (exN powR s k).1 ∧ (exN powR s k).1 ≤ 20000000000 := by
    have hpr := zqG (dgT s (sgN s (k + 1))) (zbi _ _)
    unfold exN
    split
    · dsimp only
      split <;> omega
    · dsimp only
      omega
  generalize exN powR s k = W at hR hx ⊢
  obtain ⟨x, m⟩ := W
  dsimp only at hR hx ⊢
  have c1 := zim (decide (sat s 0 45)) al (x - f.length) (by omega) (by omega) (by omega)
  generalize normF (decide (sat s 0 45)) al (x - f.length) = W at hR c1
  obtain ⟨⟨n1, d1, e1⟩, err⟩ := W
  dsimp only at hR c1
  clear L1 L2 L3 hp0 hx0 bF sM
  repeat' (first |with_reducible (first |refine zah ?_|refine zaa ?_|refine zag ?_|refine zad ?_|refine zan ?_|refine zai ?_|refine zam ?_)|refine zab rfl rfl True.intro ?_|((first |refine zaR rfl ?_ ?_)<;>intro)|((first |refine zab rfl rfl ?_ ?_|refine zav rfl rfl ?_ ?_|refine zaH rfl ?_ ?_);focus (first |exact le_ rfl|((repeat' refine And.intro ?_ ?_)<;>omega)|((repeat' refine And.intro ?_ ?_)<;>first |rfl|exact Nat.le_refl _)))|refine zaq rfl ?_|refine zae (f := 134) rfl rfl Tryz.call134 rfl c1 ?_|fail)
  · rename_i h
    rw [hR (), if_neg h]
    rfl
  · rename_i h
    rw [hR (), if_pos h]
    rfl

theorem zqC {N D : Nat} (hD : 0 < D) : nearB N D (flB N D) = !(upB N D (flB N D)) := by
  obtain ⟨f1, f2, f3, f4⟩ := zjR N D
  rw [Bool.eq_iff_iff, zpk]
  constructor
  · rintro ⟨h, _⟩
    rw [h]
    rfl
  · intro h
    have h : upB N D (flB N D) = false := by simpa using h
    refine ⟨h, ?_⟩
    by_cases hm : mB (flB N D) = 0
    · exact .inl hm
    · obtain ⟨c, hc, _⟩ := zob N D (flB N D) hm
      refine .inr ⟨c, hc, .inl ?_⟩
      have h1 := zrA c
      have h2 := zry c
      rw [hc] at f2
      have h3 : D * (wB c + hB c) < D * wB (c + 1) := (Nat.mul_lt_mul_left hD).2 (by omega)
      omega

theorem zop (s : List UInt8) : ∃ z, s = zs z ++ tL s := by
  induction s with
  | nil => exact ⟨0, rfl⟩
  | cons c s ih =>
    by_cases hc : c = 48
    · subst hc
      obtain ⟨z, hz⟩ := ih
      have e : tL (48 :: s) = tL s := by simp [tL, Lib.trimLeftB]
      refine ⟨z + 1, ?_⟩
      rw [e, show zs (z + 1) = 48 :: zs z from List.replicate_succ, List.cons_append, ← hz]
    · exact ⟨0, by rw [zrw hc]; rfl⟩
theorem zol (s : List UInt8) : ∀ c l, tL s = c :: l → ¬ c = 48 := by
  induction s with
  | nil =>
    intro c l h
    have : tL [] = [] := rfl
    rw [this] at h
    cases h
  | cons c s ih =>
    intro d l h
    by_cases hc : c = 48
    · subst hc
      have e : tL (48 :: s) = tL s := by simp [tL, Lib.trimLeftB]
      rw [e] at h
      exact ih d l h
    · rw [zrw hc] at h
      rw [← (List.cons.inj h).1]
      exact hc
theorem zik {neg : Bool} {s : List UInt8} {e : Int} (hs : ∀ c ∈ s, isD c = true) (h : (normF neg s e).2 = 0) : RightP (normF neg s e).1.1 (normF neg s e).1.2.1 (normF neg s e).1.2.2 := by
  unfold normF at h ⊢
  split
  · decide
  · rename_i h0
    rw [if_neg h0] at h
    split
    · decide
    · rename_i h1
      rw [if_neg h1] at h
      split
      · decide
      · rename_i h2
        dsimp only
        rw [zaK h0]
        obtain ⟨z, hz⟩ := zop (tR s)
        have hk := zmT s
        have hmem : ∀ c ∈ tL (tR s), isD c = true := fun c hc => hs c (zrH (by rw [hz]; exact List.mem_append_right _ hc))
        have hf := zol (tR s)
        rw [hz] at hk
        generalize tL (tR s) = d at *
        refine ⟨fun i hi => zby.1 (hmem _ ?_), by omega, fun h => ?_, fun h => ?_, by omega, by omega⟩
        · simp only [Int.toNat_natCast, List.getD_eq_getElem?_getD, List.getElem?_eq_getElem hi, Option.getD_some]
          exact List.getElem_mem hi
        · match d, h0 with
          | c :: l, _ => exact hf c l rfl ((zkO (n := 48) (by omega)).1 h)
        · rcases zbk d with rfl | ⟨r, w, rfl⟩
          · exact h0 rfl
          · have e : ((r ++ [w]).length : Int) - 1 = r.length := by simp
            rw [e, zjc] at h
            exact hk w (zs z ++ r) (by rw [List.append_assoc]) ((zkO (n := 48) (by omega)).1 h)
theorem zqr (s : List UInt8) (i : Nat) : ∀ c ∈ (whN s i).1, isD c = true := by
  unfold whN
  split
  · intro c hc
    rw [List.mem_singleton.1 hc]
    rfl
  · exact zbi s i
theorem zqN (s : List UInt8) (i : Nat) : ∀ c ∈ (frN s i).1, isD c = true := by
  unfold frN
  split
  · exact zbi s (i + 1)
  · intro c hc
    cases hc
theorem zeO {pw : List UInt8 → Int} {s : List UInt8} (_h : (parseG pw s).2.2 = 0) : RightP (parseG pw s).1.1 (parseG pw s).1.2.1 (parseG pw s).1.2.2 := by
  unfold parseG
  split
  · decide
  · dsimp only
    split
    · rename_i h1
      exact zik (fun c hc => by
        rcases List.mem_append.1 hc with hc | hc
        · exact zqr _ _ c hc
        · exact zqN _ _ c hc) h1
    · exact (show RightP false [] 0 by decide)

def asc (s : List UInt8) (a b : Nat) : Prop := ∀ i, a ≤ i → i < b → i < s.length → at' s i < 128
theorem zjd (s : List UInt8) (i : Nat) : asc s i (i + (dgT s i).length) := fun j h1 h2 _ => by
  have hm : (dgT s i).getD (j - i) 0 ∈ dgT s i := by
    rw [List.getD_eq_getElem?_getD, List.getElem?_eq_getElem (by omega)]
    exact List.getElem_mem _
  have h3 := zby.1 (zbi s i _ hm)
  rw [znL s i (j - i) (by omega), show i + (j - i) = j by omega] at h3
  unfold at'
  rw [Int.toNat_natCast]
  omega
theorem zda {s : List UInt8} {i : Nat} {c : Int} (h : sat s i c) (hc : c < 128) : asc s i (i + 1) := fun j h1 h2 _ => by
  obtain rfl : j = i := by omega
  have := h.2
  omega
theorem zgE (s : List UInt8) (i : Nat) : asc s i i := fun j h1 h2 _ => by omega
theorem zdM {s : List UInt8} {a b c : Nat} (h : asc s a b) (h2 : asc s b c) : asc s a c := fun j h3 h4 h5 => by
  by_cases hj : j < b
  · exact h j h3 hj h5
  · exact h2 j (by omega) h4 h5
theorem zqU (s : List UInt8) (i : Nat) : asc s i (whN s i).2 := by
  unfold whN
  split
  · rename_i h
    exact zda h (by decide)
  · exact zjd s i
theorem zpX (s : List UInt8) (i : Nat) : asc s i (frN s i).2 := by
  unfold frN
  split
  · rename_i h
    exact zdM (zda h.1 (by decide)) (zjd s (i + 1))
  · exact zgE s i
theorem zqO (s : List UInt8) (i : Nat) : asc s i (sgN s i) := by
  unfold sgN
  split
  · rename_i h
    rcases h with h | h
    · exact zda h (by decide)
    · exact zda h (by decide)
  · exact zgE s i
theorem zqw (pw : List UInt8 → Int) (s : List UInt8) (i : Nat) : asc s i (exN pw s i).2 := by
  unfold exN
  split
  · rename_i h
    have h1 : asc s i (i + 1) := by
      rcases h.1 with h | h
      · exact zda h (by decide)
      · exact zda h (by decide)
    exact zdM h1 (zdM (zqO s (i + 1)) (zjd s _))
  · exact zgE s i
theorem zre (s : List UInt8) : asc s 0 (sg0 s) := by
  unfold sg0
  split
  · rename_i h
    exact zda h (by decide)
  · exact zgE s 0
theorem zib {pw : List UInt8 → Int} {s : List UInt8} (h : (parseG pw s).2.2 = 0) (hl : (parseG pw s).2.1 = s.length) : ∀ c ∈ s, c.toNat < 128 := by
  have key : asc s 0 s.length := by
    unfold parseG at h hl
    split at h
    · cases h
    · rename_i h0
      rw [if_neg h0] at hl
      dsimp only at h hl
      split at h
      · rename_i h1
        rw [if_pos h1] at hl
        have hl : (exN pw s (frN s (whN s (sg0 s)).2).2).2 = s.length := hl
        rw [← hl]
        exact zdM (zre s) (zdM (zqU s _) (zdM (zpX s _) (zqw pw s _)))
      · rename_i h1
        exact absurd h h1
  intro c hc
  obtain ⟨i, hi, rfl⟩ := List.getElem_of_mem hc
  have := key i (by omega) hi hi
  unfold at' at this
  simp only [Int.toNat_natCast, List.getD_eq_getElem?_getD, List.getElem?_eq_getElem hi, Option.getD_some] at this
  omega
def isNum (s : List UInt8) : Bool := decide ((parseG powP s).2.2 = 0 ∧ (parseG powP s).2.1 = s.length)
def dotE (s : List UInt8) : Bool := s.any fun c => c == 46 || c == 101 || c == 69
theorem znQ (s : List UInt8) : Lib.containsAny s [46, 101, 69] = dotE s := by
  unfold Lib.containsAny dotE
  induction s with
  | nil => rfl
  | cons b l ih =>
    have hge := Lib.indexAny_ge [46, 101, 69] l
    rw [List.any_cons, ← ih]
    have e : Lib.indexAny (b :: l) [46, 101, 69] = if ([46, 101, 69] : List UInt8).contains b then 0 else if Lib.indexAny l [46, 101, 69] == -1 then -1 else Lib.indexAny l [46, 101, 69] + 1 := rfl
    rw [e]
    have hc : ([46, 101, 69] : List UInt8).contains b = (b == 46 || b == 101 || b == 69) := by
      simp [Bool.or_assoc]
      rfl
    rw [hc]
    generalize (b == 46 || b == 101 || b == 69) = z
    generalize Lib.indexAny l [46, 101, 69] = k at *
    cases z with
    | true => simp
    | false =>
      by_cases hk : k = -1
      · simp [hk]
      · simp [hk]
        omega

theorem Chg.setObj (w : World) (S : Cells) (b : Nat) (x : Obj) (hS : ∀ o, ¬ S b o) : Chg w { w with heap := w.heap.setIfInBounds b x } S (some b) where
  os := rfl
  tape := rfl
  output := rfl
  size := by simp
  block := fun k _ hne => by
    have : b ≠ k := fun e => hne (by rw [e])
    simp [this]
  cell := fun b' o hb => by
    have : b ≠ b' := fun e => hS o (by rw [e]; exact hb)
    have e : ({ w with heap := w.heap.setIfInBounds b x } : World).heap[b']? = w.heap[b']? := by simp [this]
    exact World.cell?_of_block e
section
variable {P : Program} {X : Ctx} {n : Nat} {O : Nat → Option Own}
theorem zoj {w : World} {S : Cells} {r : Rho} (x : Obj) (hH : Hist X w S) (hI : Inv X w S r O) {k : Nat} (hk : O k = none) :
    ∃ r', Rel S (w.alloc x) r' (.pv k 0) (.pointer (some ⟨w.heap.size, 0, none⟩)) ∧ Hist X (w.alloc x) S ∧ Inv X (w.alloc x) S r' (updO O [(k, .ob x)]) ∧
      (∀ b o, S b o → (w.alloc x).cell? ⟨b, o, none⟩ = w.cell? ⟨b, o, none⟩) ∧ RhoLe r r' := by
  have hc := Chg.alloc w S hH.valid x
  have hr : RhoLe r (updR r k (.blk w.heap.size)) := RhoLe.new (hI.dom k hk)
  have hk0 : updR r k (.blk w.heap.size) k = some (.blk w.heap.size) := by simp [updR]
  refine ⟨updR r k (.blk w.heap.size), .pv _ k 0 _ hk0, ?_, ?_, hc.cell, hr⟩
  · exact hH.chg hc (fun b hb => by cases hb) (fun _ _ h => h) (fun b o h => .inl h)
  · refine hI.put hc (fun _ _ h => h) hr k _ (.blk w.heap.size) ?_ hk0 (fun j hj => by simp [updR, hj]) (fun b hb => ?_) (fun b hb => by cases hb) (fun b o h => .inl h)
    · exact ⟨w.heap.size, hk0, heap_alloc_new w _, fun o ho => by have := hH.valid _ _ ho; omega⟩
    · simp only [Loc.block, Option.some.injEq] at hb
      subst hb
      exact .inl ⟨Nat.le_refl _, .inl hH.size⟩
theorem zon {w : World} {S : Cells} {r : Rho} {x : Obj} {b : Nat} (y : Obj) (hH : Hist X w S) (hI : Inv X w S r O) {k : Nat} (hk : O k = some (.ob x)) (hb : r k = some (.blk b)) :
    Hist X { w with heap := w.heap.setIfInBounds b y } S ∧ Inv X { w with heap := w.heap.setIfInBounds b y } S r (updO O [(k, .ob y)]) ∧
      (∀ b' o, S b' o → ({ w with heap := w.heap.setIfInBounds b y } : World).cell? ⟨b', o, none⟩ = w.cell? ⟨b', o, none⟩) := by
  obtain ⟨b', h1, h2, h3⟩ := hI.obj k _ hk
  rw [hb] at h1
  cases h1
  have hc := Chg.setObj w S b y h3
  have hlow := hI.low k _ b hb rfl
  refine ⟨?_, ?_, hc.cell⟩
  · exact hH.chg hc (fun b' hb' => by cases hb'; exact hlow) (fun _ _ h => h) (fun b o h => .inl h)
  · refine hI.put hc (fun _ _ h => h) (RhoLe.refl r) k _ (.blk b) ?_ hb (fun _ _ => rfl) (fun b' hb' => .inr ⟨_, hb, hb'⟩) (fun b' hb' => ⟨_, hb, hb'⟩) (fun b o h => .inl h)
    have hlt := (Array.getElem?_eq_some_iff.1 h2).1
    exact ⟨b, hb, by simp [hlt], h3⟩
variable {o : Oper} {fr : Fr} {ow : Ow} {t k pos : Nat} {ty : TypeId} {x : Operand} {l : List UInt8}
theorem zlx {B' : Tb} (hB : tb P = B') (ho : o.op = .range ty x) (hty : B'.ty ty = .str) (hx : ev fr x = .s l) (ht : look t ow = none) (hd : dstOk o.dst n) :
    ∀ F' O', (∀ y ∈ o.op.operands.toList, evF F' y = evF (fF fr) y) → (∀ j ∈ [t], O' j = fO ow j) → StepAt P X n o F' O' (.pv t 0) [(t, .ob (.stringIter ⟨l.toArray⟩ 0))] := by
  intro F' O' he hO
  refine zay hd fun a w S r hH hI hr => ?_
  have hx' := hr x
  rw [he x (by simp [ho, Op.operands]), zaX, hx] at hx'
  have hk : O' t = none := (hO t (by simp)).trans ht
  have hu := zaU (P := P) (t := ty) (by subst hB; exact hty)
  obtain ⟨r', g1, g2, g3, g4, g5⟩ := zoj (.stringIter ⟨l.toArray⟩ 0) hH hI hk
  refine ⟨_, _, S, r', .inl ?_, g1, g2, g3, fun _ _ h => h, g4, g5⟩
  generalize hv : a.eval x = v at hx'
  cases hx'
  simp [execOp, ho, Instr.range, underlying, hu, hv, Sem.run_bind, newObj, Sem.run, Result.andThen]
theorem zmk (l : List UInt8) (pos : Nat) (h : pos < l.length) : (((⟨l.toArray⟩ : ByteArray)[pos]'(by simpa [ByteArray.size] using h)).toNat : Int) = at' l pos := by
  unfold at'
  simp [List.getD_eq_getElem?_getD, h, ByteArray.getElem_eq_getElem_data]
theorem znj (ho : o.op = .next x true) (hx : ev fr x = .pv k 0) (hk : look k ow = some (.ob (.stringIter ⟨l.toArray⟩ pos))) (hp : pos < l.length) (hb : at' l pos < 128) (hd : dstOk o.dst n) :
    ∀ F' O', (∀ y ∈ o.op.operands.toList, evF F' y = evF (fF fr) y) → (∀ j ∈ [k], O' j = fO ow j) →
      StepAt P X n o F' O' (.tu [.b true, .i .i64 pos, .i .i32 (at' l pos)]) [(k, .ob (.stringIter ⟨l.toArray⟩ (pos + 1)))] := by
  intro F' O' he hO
  refine zay hd fun a w S r hH hI hr => ?_
  have hx' := hr x
  rw [he x (by simp [ho, Op.operands]), zaX, hx] at hx'
  have hk' : O' k = some (.ob (.stringIter ⟨l.toArray⟩ pos)) := (hO k (by simp)).trans hk
  obtain ⟨b, h1, h2, h3⟩ := hI.obj k _ hk'
  obtain ⟨g1, g2, g3⟩ := zon (.stringIter ⟨l.toArray⟩ (pos + 1)) hH hI hk' h1
  have hlt : pos < (⟨l.toArray⟩ : ByteArray).size := by simpa [ByteArray.size] using hp
  have hbb : ((⟨l.toArray⟩ : ByteArray)[pos]'hlt).toNat < 128 := by
    have := zmk l pos hp
    omega
  refine ⟨.tuple #[.bool true, .int .i64 pos, .int .i32 (((⟨l.toArray⟩ : ByteArray)[pos]'hlt).toNat)], _, S, r, .inl ?_, .tu _ _ _ rfl fun j hj => ?_, g1, g2, fun _ _ h => h, g3, RhoLe.refl r⟩
  · generalize hv : a.eval x = v at hx'
    cases hx' with
    | pv _ _ _ b' h4 =>
      rw [h1] at h4
      cases h4
      have hrun := Lib.run_next_ascii_at (P := P) w b ⟨l.toArray⟩ pos o.type h2 hlt hbb
      unfold World.iterAt at hrun
      simp only [execOp, ho, hv]
      simp [hrun]
  · match j, hj with
    | 0, _ => exact .b ..
    | 1, _ => exact .i ..
    | 2, _ =>
      show Rel S _ r (.i .i32 (at' l pos)) (.int .i32 _)
      rw [← zmk l pos hp]
      exact .i ..
theorem znD (ho : o.op = .next x true) (hx : ev fr x = .pv k 0) (hk : look k ow = some (.ob (.stringIter ⟨l.toArray⟩ pos))) (hp : l.length ≤ pos) (hd : dstOk o.dst n) :
    ∀ F' O', (∀ y ∈ o.op.operands.toList, evF F' y = evF (fF fr) y) → (∀ j ∈ [k], O' j = fO ow j) → StepAt P X n o F' O' (.tu [.b false]) [] := by
  intro F' O' he hO
  refine zay hd fun a w S r hH hI hr => ?_
  have hx' := hr x
  rw [he x (by simp [ho, Op.operands]), zaX, hx] at hx'
  have hk' : O' k = some (.ob (.stringIter ⟨l.toArray⟩ pos)) := (hO k (by simp)).trans hk
  obtain ⟨b, h1, h2, h3⟩ := hI.obj k _ hk'
  refine ⟨.tuple #[.bool false], w, S, r, .inl ?_, .tu _ _ _ rfl fun j hj => ?_, hH, hI, fun _ _ h => h, fun _ _ _ => rfl, RhoLe.refl r⟩
  · generalize hv : a.eval x = v at hx'
    cases hx' with
    | pv _ _ _ b' h4 =>
      rw [h1] at h4
      cases h4
      have hrun := Lib.run_next_end_at (P := P) w b ⟨l.toArray⟩ pos o.type h2 (by simpa [ByteArray.size] using hp)
      simp only [execOp, ho, hv]
      simp [hrun]
  · match j, hj with
    | 0, _ => exact .b ..
theorem zmM {a b : Int} (hb : 0 < b) (ha : InI a) : InI (a.tdiv b) := by
  have h1 : (a.tdiv b).natAbs = a.natAbs / b.natAbs := Int.natAbs_tdiv a b
  have h2 : a.natAbs / b.natAbs ≤ a.natAbs := Nat.div_le_self _ _
  by_cases h : 0 ≤ a
  · have := Int.tdiv_nonneg h (Int.le_of_lt hb)
    omega
  · have h3 : a.tdiv b ≤ 0 := by
      have e : (-a).tdiv b = -(a.tdiv b) := Int.neg_tdiv a b
      have := Int.tdiv_nonneg (show 0 ≤ -a by omega) (Int.le_of_lt hb)
      omega
    omega
theorem zoJ {a b : Int} {y : Operand} {ty2 : TypeId} (ho : o.op = .binOp .quo ty x y ty2) (hx : ev fr x = .i .i64 a) (hy : ev fr y = .i .i64 b) (hb : 0 < b) (ha : InI a) (hd : dstOk o.dst n) :
    ∀ F' O', (∀ y ∈ o.op.operands.toList, evF F' y = evF (fF fr) y) → (∀ j ∈ ([] : List Nat), O' j = fO ow j) → StepAt P X n o F' O' (.i .i64 (a.tdiv b)) [] := by
  intro F' O' he _
  refine zay hd fun a' w S r hH hI hr => ?_
  have hx' := hr x
  have hy' := hr y
  rw [he x (by simp [ho, Op.operands]), zaX, hx] at hx'
  rw [he y (by simp [ho, Op.operands]), zaX, hy] at hy'
  have hne : b ≠ 0 := by omega
  refine ⟨.int .i64 (a.tdiv b), w, S, r, .inl ?_, .i .., hH, hI, fun _ _ h => h, fun _ _ _ => rfl, RhoLe.refl r⟩
  generalize hv : a'.eval x = v at hx'
  generalize hu : a'.eval y = u at hy'
  cases hx'
  cases hy'
  have h1 : (do eqGuard .quo ty x y (.int .i64 a) (.int .i64 b); binOp .quo ty (.int .i64 a) (.int .i64 b) : Sem Value).run P w = .ok (.int .i64 (IntKind.i64.wrap (a.tdiv b))) w := by
    have e0 : (eqGuard .quo ty x y (.int .i64 a) (.int .i64 b)) = pure () := rfl
    simp only [e0]
    simp [binOp_quo, Op.intDiv, hne]
  rw [wrapI (zmM hb ha)] at h1
  simp only [execOp, ho, hv, hu, Sem.run_bind] at h1 ⊢
  rw [h1]
  rfl
theorem zok {k : IntKind} {a b : Int} {y : Operand} {ty2 : TypeId} (ho : o.op = .binOp .rem ty x y ty2) (hx : ev fr x = .i k a) (hy : ev fr y = .i k b) (hb : 0 < b) (hd : dstOk o.dst n) :
    ∀ F' O', (∀ y ∈ o.op.operands.toList, evF F' y = evF (fF fr) y) → (∀ j ∈ ([] : List Nat), O' j = fO ow j) → StepAt P X n o F' O' (.i k (a.tmod b)) [] := by
  intro F' O' he _
  refine zay hd fun a' w S r hH hI hr => ?_
  have hx' := hr x
  have hy' := hr y
  rw [he x (by simp [ho, Op.operands]), zaX, hx] at hx'
  rw [he y (by simp [ho, Op.operands]), zaX, hy] at hy'
  have hne : b ≠ 0 := by omega
  refine ⟨.int k (a.tmod b), w, S, r, .inl ?_, .i .., hH, hI, fun _ _ h => h, fun _ _ _ => rfl, RhoLe.refl r⟩
  generalize hv : a'.eval x = v at hx'
  generalize hu : a'.eval y = u at hy'
  cases hx'
  cases hy'
  have h1 : (do eqGuard .rem ty x y (.int k a) (.int k b); binOp .rem ty (.int k a) (.int k b) : Sem Value).run P w = .ok (.int k (a.tmod b)) w := by
    have e0 : (eqGuard .rem ty x y (.int k a) (.int k b)) = pure () := rfl
    simp only [e0]
    simp [binOp_rem, Op.intDiv, hne]
  simp only [execOp, ho, hv, hu, Sem.run_bind] at h1 ⊢
  rw [h1]
  rfl
end
section
variable {X : Ctx} {n : Nat} {all rest : List Oper} {fr : Fr} {ow : Ow} {tr : List (List Nat × List Nat)} {K : Fr → Ow → List (List Nat × List Nat) → Prop}
variable {t k pos : Nat} {ty ty' : TypeId} {ps : String} {af : Array Edge} {x : Operand} {l : List UInt8}
theorem zmO (o : Oper) (ho : o.op = .range ty x) (hg : o.guard = none) (hds : o.dst = some t) (hty : B.ty ty = .str) (hx : ev fr x = .s l) (ht : look t ow = none) (hn : Nat.blt t n = true)
    (h : CT Tryz.prog X n all rest ((t, .pv t 0) :: fr) ((t, .ob (.stringIter ⟨l.toArray⟩ 0)) :: ow) (tr ++ [([t], [t])]) K) : CT Tryz.prog X n all (o :: rest) fr ow tr K := by
  have e := zer
  have h1 := @zlx Tryz.prog X n o fr ow t ty x l
  have h2 := @h1 B e
  have h3 := h2 ho
  have h4 := h3 hty hx ht (by rw [hds]; exact Nat.le_of_ble_eq_true hn)
  refine CT.cons (e := ⟨.pv t 0, [t], [(t, .ob (.stringIter ⟨l.toArray⟩ 0))]⟩) (.plain hg h4) ?_ (zaM ..) h
  rw [hds]
  exact zaE ..
theorem zpW (hty : B.ty ty = .str) (hx : ev fr x = .s l) (ht : look t ow = none) (hn : Nat.blt t n = true)
    (h : CT Tryz.prog X n all rest ((t, .pv t 0) :: fr) ((t, .ob (.stringIter ⟨l.toArray⟩ 0)) :: ow) (tr ++ [([t], [t])]) K) : CT Tryz.prog X n all (⟨some t, .range ty x, ty', ps, af, none⟩ :: rest) fr ow tr K := by
  generalize ho : (⟨some t, .range ty x, ty', ps, af, none⟩ : Oper) = o
  exact zmO o (by rw [← ho]) (by rw [← ho]) (by rw [← ho]) hty hx ht hn h
theorem zrq (hx : ev fr x = .pv k 0) (hk : look k ow = some (.ob (.stringIter ⟨l.toArray⟩ pos))) (hn : Nat.blt t n = true) (hp : pos < l.length) (hb : at' l pos < 128)
    (h : CT Tryz.prog X n all rest ((t, .tu [.b true, .i .i64 pos, .i .i32 (at' l pos)]) :: fr) ((k, .ob (.stringIter ⟨l.toArray⟩ (pos + 1))) :: ow) (tr ++ [([k], [k])]) K) :
    CT Tryz.prog X n all (⟨some t, .next x true, ty', ps, af, none⟩ :: rest) fr ow tr K :=
  CT.cons (e := ⟨.tu [.b true, .i .i64 pos, .i .i32 (at' l pos)], [k], [(k, .ob (.stringIter ⟨l.toArray⟩ (pos + 1)))]⟩) (.plain rfl (znj (P := Tryz.prog) (X := X) (o := ⟨some t, .next x true, ty', ps, af, none⟩) rfl hx hk hp hb (Nat.le_of_ble_eq_true hn))) (zaE ..) (zaM ..) h
theorem zrh (hx : ev fr x = .pv k 0) (hk : look k ow = some (.ob (.stringIter ⟨l.toArray⟩ pos))) (hn : Nat.blt t n = true) (hp : l.length ≤ pos)
    (h : CT Tryz.prog X n all rest ((t, .tu [.b false]) :: fr) ow (tr ++ [([k], [])]) K) : CT Tryz.prog X n all (⟨some t, .next x true, ty', ps, af, none⟩ :: rest) fr ow tr K :=
  CT.cons (e := ⟨.tu [.b false], [k], []⟩) (.plain rfl (znD (P := Tryz.prog) (X := X) (o := ⟨some t, .next x true, ty', ps, af, none⟩) rfl hx hk hp (Nat.le_of_ble_eq_true hn))) (zaE ..) rfl h
theorem zri {a b : Int} {y : Operand} {ty2 : TypeId} (hx : ev fr x = .i .i64 a) (hy : ev fr y = .i .i64 b) (hn : Nat.blt t n = true) (hb : 0 < b) (ha : InI a)
    (h : CT Tryz.prog X n all rest ((t, .i .i64 (a.tdiv b)) :: fr) ow (tr ++ [([], [])]) K) : CT Tryz.prog X n all (⟨some t, .binOp .quo ty x y ty2, ty', ps, af, none⟩ :: rest) fr ow tr K :=
  CT.cons (e := ⟨.i .i64 (a.tdiv b), [], []⟩) (.plain rfl (zoJ (P := Tryz.prog) (X := X) (o := ⟨some t, .binOp .quo ty x y ty2, ty', ps, af, none⟩) rfl hx hy hb ha (Nat.le_of_ble_eq_true hn))) (zaE ..) rfl h
theorem zrB {k : IntKind} {a b : Int} {y : Operand} {ty2 : TypeId} (hx : ev fr x = .i k a) (hy : ev fr y = .i k b) (hn : Nat.blt t n = true) (hb : 0 < b)
    (h : CT Tryz.prog X n all rest ((t, .i k (a.tmod b)) :: fr) ow (tr ++ [([], [])]) K) : CT Tryz.prog X n all (⟨some t, .binOp .rem ty x y ty2, ty', ps, af, none⟩ :: rest) fr ow tr K :=
  CT.cons (e := ⟨.i k (a.tmod b), [], []⟩) (.plain rfl (zok (P := Tryz.prog) (X := X) (o := ⟨some t, .binOp .rem ty x y ty2, ty', ps, af, none⟩) rfl hx hy hb (Nat.le_of_ble_eq_true hn))) (zaE ..) rfl h
end
end Go.Proofs.YtkkaamhocpmhkaaGreatDoor.Flow
