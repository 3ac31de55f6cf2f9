/- The texts RD8, one behind the other. -/
import Derived.Test.YtbegohehjkjnmaaDoorMR14
namespace Go.Proofs.YtbegohehjkjnmaaDoor.Flow
open Go

abbrev pOw (s : List UInt8) (i : Int) : Ow := [(5, .var [.i .i64 i]), (6, .var [pF]), (1, .var [.s s]), (2, .var [.b false, .s [], .i .i64 0])]
abbrev pG : D := .fn 82 [.pv 5 0, .pv 6 0, .pv 1 0]

theorem is1_ctr (a : UInt8) (n : Int) (hn : (a.toNat : Int) = n) (s : List UInt8) (i : Nat) (hs : s.length ≤ 1048576) (hi : i ≤ s.length) : CtrO Tryd.prog 81 [.s [a], .pv 5 0, .pv 1 0] (pO s i) (.b (decide (sat s i n))) (pO s i) := by
  subst hn
  exact is_ctr [a] (fun c => c = (a.toNat : Int)) (set_1 a) s i hs hi
theorem is2_ctr (a b : UInt8) (n m : Int) (hn : (a.toNat : Int) = n) (hm : (b.toNat : Int) = m) (s : List UInt8) (i : Nat) (hs : s.length ≤ 1048576) (hi : i ≤ s.length) : CtrO Tryd.prog 81 [.s [a, b], .pv 5 0, .pv 1 0] (pO s i) (.b (decide (sat s i n ∨ sat s i m))) (pO s i) := by
  subst hn hm
  have := is_ctr [a, b] (fun c => c = (a.toNat : Int) ∨ c = (b.toNat : Int)) (set_2 a b) s i hs hi
  rwa [show decide (i < s.length ∧ (at' s i = (a.toNat : Int) ∨ at' s i = (b.toNat : Int))) = decide (sat s i (a.toNat : Int) ∨ sat s i (b.toNat : Int)) from decide_eq_decide.2 (by unfold sat; constructor <;> intro h <;> omega)] at this

section
variable {s : List UInt8} {i : Nat}
theorem whN_pos (h : sat s i 48) : whN s i = ([48], i + 1) := if_pos h
theorem whN_neg (h : ¬ sat s i 48) : whN s i = (dgT s i, i + (dgT s i).length) := if_neg h
theorem whN_le (h : i ≤ s.length) : (whN s i).2 ≤ s.length := by
  have := dgT_len s i
  unfold whN
  split
  · rename_i h1
    have := h1.1
    dsimp only
    omega
  · dsimp only
    omega
theorem frN_pos (h : sat s i 46) (h2 : ¬ dgT s (i + 1) = []) : frN s i = (dgT s (i + 1), i + 1 + (dgT s (i + 1)).length) := if_pos ⟨h, h2⟩
theorem frN_neg (h : ¬ sat s i 46 ∨ dgT s (i + 1) = []) : frN s i = ([], i) := if_neg fun h2 => by
  rcases h with h | h
  · exact h h2.1
  · exact h2.2 h
theorem frN_le (h : i ≤ s.length) : (frN s i).2 ≤ s.length := by
  have := dgT_len s (i + 1)
  unfold frN
  split
  · rename_i h1
    have := h1.1.1
    dsimp only
    omega
  · exact h
theorem sgN_le (h : i ≤ s.length) : sgN s i ≤ s.length := by
  unfold sgN
  split
  · rename_i h1
    rcases h1 with h1 | h1
    · exact h1.1
    · exact h1.1
  · exact h
theorem exN_neg {pw : List UInt8 → Int} (h : ¬ (sat s i 101 ∨ sat s i 69) ∨ dgT s (sgN s (i + 1)) = []) : exN pw s i = (0, i) := if_neg fun h2 => by
  rcases h with h | h
  · exact h h2.1
  · exact h2.2 h
theorem exN_pos {pw : List UInt8 → Int} (h : sat s i 101 ∨ sat s i 69) (h2 : ¬ dgT s (sgN s (i + 1)) = []) : exN pw s i = (if sat s (i + 1) 45 then -pw (dgT s (sgN s (i + 1))) else pw (dgT s (sgN s (i + 1))), sgN s (i + 1) + (dgT s (sgN s (i + 1))).length) := if_pos ⟨h, h2⟩
theorem sg0_le : sg0 s ≤ s.length := by
  unfold sg0
  split
  · rename_i h
    exact h.1
  · exact Nat.zero_le _
end

set_option maxHeartbeats 4000000 in
theorem parse_ctr (s : List UInt8) (hs : s.length ≤ 1048576) : Ctr Tryd.prog 63 [.s s] (.tu [dcV (parseG powP s).1, .i .i64 (parseG powP s).2.1, .i .i64 (parseG powP s).2.2]) := by
  generalize hR : parseG powP s = R
  unfold parseG at hR
  replace hR := fun _ : Unit => hR.symm
  refine r_fun Tryd.func63 rfl Tryd.ntmps63 Tryd.results63 rfl rfl fun X hL hX => ?_
  have c1 := is1_ctr 45 45 rfl s 0 hs (Nat.zero_le _)
  have e5 : sat s 0 45 → (0 : Int) + 1 = (sg0 s : Int) := fun h => by unfold sg0; rw [if_pos h]; rfl
  have e5' : ¬ sat s 0 45 → (0 : Int) = (sg0 s : Int) := fun h => by unfold sg0; rw [if_neg h]; rfl
  repeat' (first |refine r_mid 5 hL (fun _ : Unit => [(2, .pv 2 0), (5, .pv 5 0), (6, .pv 6 0), (7, pG), (8, .b (decide (sat s 0 45)))]) (fun _ => pOw s (sg0 s)) (fun _ => True) ?_ ?_|with_reducible (first |refine t_seq ?_|refine t_region ?_|refine c_nil ?_|refine n_then ?_|refine t_ret ?_|refine t_skip ?_|refine t_exit ?_|refine t_block ?_|refine n_block ?_|refine e_then ?_|refine x_then ?_|refine x_block ?_|refine t_draw ?_)|refine r_val rfl rfl True.intro ?_|refine r_gskip rfl rfl rfl ?_|refine r_gskip2 rfl rfl rfl ?_|refine r_gval rfl rfl rfl rfl True.intro ?_|refine t_true rfl ?_|refine t_false rfl ?_|((first |refine t_cond_d rfl ?_ ?_|refine t_cond_i rfl ?_ ?_|refine t_cond_j rfl ?_ ?_|refine t_cond_s rfl ?_ ?_|refine t_cond_n rfl ?_ ?_|refine t_cond rfl ?_ ?_|refine c_split_d rfl rfl ?_ ?_|refine c_split_i rfl rfl ?_ ?_|refine c_split_j rfl rfl ?_ ?_|refine c_split_s rfl rfl ?_ ?_|refine c_split_n rfl rfl ?_ ?_)<;>intro<;>try (first |contradiction|(exfalso;omega)))|((first |refine r_val rfl rfl ?_ ?_|refine r_gval rfl rfl rfl rfl ?_ ?_|refine r_obj rfl rfl ?_ ?_|refine r_sto rfl ?_ ?_|refine r_gobj rfl rfl rfl rfl ?_ ?_);focus (first |omega|exact le_ rfl|((repeat first |rw [wrap_u8]|rw [IntKind.wrap_i64]|rw [IntKind.wrap_i32]|rw [wrap_u32']|rw [wrap_u64']);(repeat' refine And.intro ?_ ?_)<;>omega)|((repeat' refine And.intro ?_ ?_)<;>first |omega|rfl|exact Nat.le_refl _|exact le_ rfl|exact bytesF_one _)|(simp_all;done)|(simp_all;omega)))|refine e_hit rfl ?_|refine e_miss rfl ?_|with_reducible refine ⟨by kernel_rfl, ?_⟩|refine r_lend2 (f := 81) 5 1 rfl rfl Tryd.call81 rfl rfl rfl rfl rfl rfl rfl rfl rfl c1 ?_|((with_reducible refine c_grd ?_);(fail_if_success (refine c_lit true rfl rfl rfl ?_));(fail_if_success (refine c_lit false rfl rfl rfl ?_));refine c_split rfl rfl (fun _ => ?_) (fun _ => ?_)))
  · exact ⟨(), trivial, ⟨rfl, rfl, rfl, rfl, rfl, trivial⟩, ⟨congrArg (fun x => some (Own.var [.i .i64 x])) (e5 ‹_›), rfl, rfl, rfl, trivial⟩, rfl, by rw [hX]; intro k hk; cases hk⟩
  · exact ⟨(), trivial, ⟨rfl, rfl, rfl, rfl, rfl, trivial⟩, ⟨congrArg (fun x => some (Own.var [.i .i64 x])) (e5' ‹_›), rfl, rfl, rfl, trivial⟩, rfl, by rw [hX]; intro k hk; cases hk⟩
  clear c1 e5 e5'
  intro _ _
  have hi := sg0_le (s := s)
  generalize sg0 s = i at hR hi ⊢
  have c1 := is1_ctr 48 48 rfl s i hs hi
  have c2 := digits_ctr s i hs hi
  have L1 := fun h => whN_pos (s := s) (i := i) h
  have L2 := fun h => whN_neg (s := s) (i := i) h
  repeat' (first |refine r_mid 8 hL (fun _ : Unit => [(2, .pv 2 0), (5, .pv 5 0), (6, .pv 6 0), (7, pG), (8, .b (decide (sat s 0 45))), (9, .s (whN s i).1)]) (fun _ => pOw s (whN s i).2) (fun _ => ¬ (whN s i).1 = []) ?_ ?_|with_reducible (first |refine t_seq ?_|refine t_region ?_|refine c_nil ?_|refine n_then ?_|refine t_ret ?_|refine t_skip ?_|refine t_exit ?_|refine t_block ?_|refine n_block ?_|refine e_then ?_|refine x_then ?_|refine x_block ?_|refine t_draw ?_)|refine r_val rfl rfl True.intro ?_|refine r_gskip rfl rfl rfl ?_|refine r_gskip2 rfl rfl rfl ?_|refine r_gval rfl rfl rfl rfl True.intro ?_|refine t_true rfl ?_|refine t_false rfl ?_|((first |refine t_cond_d rfl ?_ ?_|refine t_cond_i rfl ?_ ?_|refine t_cond_j rfl ?_ ?_|refine t_cond_s rfl ?_ ?_|refine t_cond_n rfl ?_ ?_|refine t_cond rfl ?_ ?_|refine c_split_d rfl rfl ?_ ?_|refine c_split_i rfl rfl ?_ ?_|refine c_split_j rfl rfl ?_ ?_|refine c_split_s rfl rfl ?_ ?_|refine c_split_n rfl rfl ?_ ?_)<;>intro<;>try (first |contradiction|(exfalso;omega)))|((first |refine r_val rfl rfl ?_ ?_|refine r_gval rfl rfl rfl rfl ?_ ?_|refine r_obj rfl rfl ?_ ?_|refine r_sto rfl ?_ ?_|refine r_gobj rfl rfl rfl rfl ?_ ?_);focus (first |omega|exact le_ rfl|((repeat first |rw [wrap_u8]|rw [IntKind.wrap_i64]|rw [IntKind.wrap_i32]|rw [wrap_u32']|rw [wrap_u64']);(repeat' refine And.intro ?_ ?_)<;>omega)|((repeat' refine And.intro ?_ ?_)<;>first |omega|rfl|exact Nat.le_refl _|exact le_ rfl|exact bytesF_one _)|(simp_all;done)|(simp_all;omega)))|refine e_hit rfl ?_|refine e_miss rfl ?_|with_reducible refine ⟨by kernel_rfl, ?_⟩|refine x_end rfl ?_|refine r_lend2 (f := 81) 5 1 rfl rfl Tryd.call81 rfl rfl rfl rfl rfl rfl rfl rfl rfl c1 ?_|refine r_lend3 (f := 82) 5 6 1 rfl rfl Tryd.call82 rfl rfl rfl rfl rfl rfl rfl rfl rfl rfl rfl rfl c2 ?_|((with_reducible refine c_grd ?_);(fail_if_success (refine c_lit true rfl rfl rfl ?_));(fail_if_success (refine c_lit false rfl rfl rfl ?_));refine c_split rfl rfl (fun _ => ?_) (fun _ => ?_)))
  · rw [L1 ‹_›]
    exact ⟨(), by simp, ⟨rfl, rfl, rfl, rfl, rfl, rfl, trivial⟩, ⟨rfl, rfl, rfl, rfl, trivial⟩, rfl, by rw [hX]; intro k hk; cases hk⟩
  · rename_i h1 h2
    rw [hR (), if_pos (by rw [L2 h1]; exact h2)]
    rfl
  · rename_i h1 h2
    rw [L2 h1]
    exact ⟨(), h2, ⟨rfl, rfl, rfl, rfl, rfl, rfl, trivial⟩, ⟨rfl, rfl, rfl, rfl, trivial⟩, rfl, by rw [hX]; intro k hk; cases hk⟩
  clear c1 c2 L1 L2
  intro _ hw
  replace hR := fun _ : Unit => (hR ()).trans (if_neg hw)
  dsimp only at hR
  have hj := whN_le hi
  have lw : (whN s i).1.length ≤ 1048577 := by
    have := dgT_len s i
    unfold whN
    split <;> dsimp only [List.length_cons, List.length_nil] <;> omega
  generalize whN s i = W at hR hw hj lw ⊢
  obtain ⟨w, j⟩ := W
  dsimp only at hR hw hj lw ⊢
  clear hi hw i
  have c1 := is1_ctr 46 46 rfl s j hs hj
  have c2 := fun h : sat s j 46 => digits_ctr s (j + 1) hs h.1
  have L1 := fun h h2 => frN_pos (s := s) (i := j) h h2
  have L2 := fun h => frN_neg (s := s) (i := j) h
  repeat' (first |refine r_mid 15 hL (fun _ : Unit => [(2, .pv 2 0), (5, .pv 5 0), (6, .pv 6 0), (7, pG), (8, .b (decide (sat s 0 45))), (9, .s w), (10, .s (frN s j).1)]) (fun _ => pOw s (frN s j).2) (fun _ => True) ?_ ?_|with_reducible (first |refine t_seq ?_|refine t_region ?_|refine c_nil ?_|refine n_then ?_|refine t_ret ?_|refine t_skip ?_|refine t_exit ?_|refine t_block ?_|refine n_block ?_|refine e_then ?_|refine x_then ?_|refine x_block ?_|refine t_draw ?_)|refine r_val rfl rfl True.intro ?_|refine r_gskip rfl rfl rfl ?_|refine r_gskip2 rfl rfl rfl ?_|refine r_gval rfl rfl rfl rfl True.intro ?_|refine t_true rfl ?_|refine t_false rfl ?_|((first |refine t_cond_d rfl ?_ ?_|refine t_cond_i rfl ?_ ?_|refine t_cond_j rfl ?_ ?_|refine t_cond_s rfl ?_ ?_|refine t_cond_n rfl ?_ ?_|refine t_cond rfl ?_ ?_|refine c_split_d rfl rfl ?_ ?_|refine c_split_i rfl rfl ?_ ?_|refine c_split_j rfl rfl ?_ ?_|refine c_split_s rfl rfl ?_ ?_|refine c_split_n rfl rfl ?_ ?_)<;>intro<;>try (first |contradiction|(exfalso;omega)))|((first |refine r_val rfl rfl ?_ ?_|refine r_gval rfl rfl rfl rfl ?_ ?_|refine r_obj rfl rfl ?_ ?_|refine r_sto rfl ?_ ?_|refine r_gobj rfl rfl rfl rfl ?_ ?_);focus (first |omega|exact le_ rfl|((repeat first |rw [wrap_u8]|rw [IntKind.wrap_i64]|rw [IntKind.wrap_i32]|rw [wrap_u32']|rw [wrap_u64']);(repeat' refine And.intro ?_ ?_)<;>omega)|((repeat' refine And.intro ?_ ?_)<;>first |omega|rfl|exact Nat.le_refl _|exact le_ rfl|exact bytesF_one _)|(simp_all;done)|(simp_all;omega)))|refine e_hit rfl ?_|refine e_miss rfl ?_|with_reducible refine ⟨by kernel_rfl, ?_⟩|refine r_lend2 (f := 81) 5 1 rfl rfl Tryd.call81 rfl rfl rfl rfl rfl rfl rfl rfl rfl c1 ?_|refine r_lend3 (f := 82) 5 6 1 rfl rfl Tryd.call82 rfl rfl rfl rfl rfl rfl rfl rfl rfl rfl rfl rfl (c2 ‹_›) ?_|((with_reducible refine c_grd ?_);(fail_if_success (refine c_lit true rfl rfl rfl ?_));(fail_if_success (refine c_lit false rfl rfl rfl ?_));refine c_split rfl rfl (fun _ => ?_) (fun _ => ?_)))
  · rename_i h1 h2
    rw [L2 (.inr h2)]
    exact ⟨(), trivial, ⟨rfl, rfl, rfl, rfl, rfl, rfl, congrArg D.s h2, trivial⟩, ⟨rfl, rfl, rfl, rfl, trivial⟩, rfl, by rw [hX]; intro k hk; cases hk⟩
  · rename_i h1 h2
    rw [L1 h1 h2]
    exact ⟨(), trivial, ⟨rfl, rfl, rfl, rfl, rfl, rfl, rfl, trivial⟩, ⟨rfl, rfl, rfl, rfl, trivial⟩, rfl, by rw [hX]; intro k hk; cases hk⟩
  · rename_i h1
    rw [L2 (.inl h1)]
    exact ⟨(), trivial, ⟨rfl, rfl, rfl, rfl, rfl, rfl, rfl, trivial⟩, ⟨rfl, rfl, rfl, rfl, trivial⟩, rfl, by rw [hX]; intro k hk; cases hk⟩
  clear c1 c2 L1 L2
  intro _ _
  have hk := frN_le hj
  have lf : (frN s j).1.length ≤ 1048577 := by
    have := dgT_len s (j + 1)
    unfold frN
    split <;> dsimp only [List.length_cons, List.length_nil] <;> omega
  generalize frN s j = W at hR hk lf ⊢
  obtain ⟨f, k⟩ := W
  dsimp only at hR hk lf ⊢
  have c1 := is2_ctr 101 69 101 69 rfl rfl s k hs hk
  have c2 := fun h : k + 1 ≤ s.length => is1_ctr 45 45 rfl s (k + 1) hs h
  have c3 := fun h : k + 1 ≤ s.length => is2_ctr 43 45 43 45 rfl rfl s (k + 1) hs h
  have c4a := fun (h : k + 1 ≤ s.length) (h2 : sat s (k + 1) 43 ∨ sat s (k + 1) 45) => digits_ctr s (k + 1 + 1) hs (by rcases h2 with h2 | h2; exact h2.1; exact h2.1)
  have c4b := fun (h : k + 1 ≤ s.length) (_ : ¬ (sat s (k + 1) 43 ∨ sat s (k + 1) 45)) => digits_ctr s (k + 1) hs h
  have c5 := fun p => power_ctr (dgT s p) (dgT_digit _ _) (by have := dgT_len s p; omega)
  have hp := fun p => (⟨(pow_eq (dgT s p) (dgT_digit _ _)).1, powP_le (dgT s p) 0 (by omega)⟩ : 0 ≤ powP (dgT s p) ∧ powP (dgT s p) ≤ 1099511627776)
  have hp1 := hp (k + 1)
  have hp2 := hp (k + 1 + 1)
  have hs1 : (sat s k 101 ∨ sat s k 69) → k + 1 ≤ s.length := fun h => by
    rcases h with h | h
    · exact h.1
    · exact h.1
  have g1 : (sat s (k + 1) 43 ∨ sat s (k + 1) 45) → sgN s (k + 1) = k + 1 + 1 := fun h => if_pos h
  have g2 : ¬ (sat s (k + 1) 43 ∨ sat s (k + 1) 45) → sgN s (k + 1) = k + 1 := fun h => if_neg h
  have L1 : ∀ p, sgN s (k + 1) = p → (sat s k 101 ∨ sat s k 69) → ¬ dgT s p = [] → exN powP s k = (if sat s (k + 1) 45 then -powP (dgT s p) else powP (dgT s p), p + (dgT s p).length) := fun p hp h h2 => by
    subst hp
    exact exN_pos h h2
  have L2 : ∀ p, sgN s (k + 1) = p → dgT s p = [] → exN powP s k = (0, k) := fun p hp h => by
    subst hp
    exact exN_neg (.inr h)
  have L3 := fun h => exN_neg (s := s) (i := k) (pw := powP) (.inl h)
  repeat' (first |refine r_mid 22 hL (fun _ : Unit => [(2, .pv 2 0), (5, .pv 5 0), (8, .b (decide (sat s 0 45))), (9, .s w), (10, .s f), (12, .i .i64 (exN powP s k).1)]) (fun _ => pOw s (exN powP s k).2) (fun _ => True) ?_ ?_|with_reducible (first |refine t_seq ?_|refine t_region ?_|refine c_nil ?_|refine n_then ?_|refine t_ret ?_|refine t_skip ?_|refine t_exit ?_|refine t_block ?_|refine n_block ?_|refine e_then ?_|refine x_then ?_|refine x_block ?_|refine t_draw ?_)|refine r_val rfl rfl True.intro ?_|refine r_gskip rfl rfl rfl ?_|refine r_gskip2 rfl rfl rfl ?_|refine r_gval rfl rfl rfl rfl True.intro ?_|refine t_true rfl ?_|refine t_false rfl ?_|((first |refine t_cond_d rfl ?_ ?_|refine t_cond_i rfl ?_ ?_|refine t_cond_j rfl ?_ ?_|refine t_cond_s rfl ?_ ?_|refine t_cond_n rfl ?_ ?_|refine t_cond rfl ?_ ?_|refine c_split_d rfl rfl ?_ ?_|refine c_split_i rfl rfl ?_ ?_|refine c_split_j rfl rfl ?_ ?_|refine c_split_s rfl rfl ?_ ?_|refine c_split_n rfl rfl ?_ ?_)<;>intro<;>try (first |contradiction|(exfalso;omega)))|((first |refine r_val rfl rfl ?_ ?_|refine r_gval rfl rfl rfl rfl ?_ ?_|refine r_obj rfl rfl ?_ ?_|refine r_sto rfl ?_ ?_|refine r_gobj rfl rfl rfl rfl ?_ ?_);focus (first |omega|exact le_ rfl|((repeat first |rw [wrap_u8]|rw [IntKind.wrap_i64]|rw [IntKind.wrap_i32]|rw [wrap_u32']|rw [wrap_u64']);(repeat' refine And.intro ?_ ?_)<;>omega)|((repeat' refine And.intro ?_ ?_)<;>first |omega|rfl|exact Nat.le_refl _|exact le_ rfl|exact bytesF_one _)|(simp_all;done)|(simp_all;omega)))|refine e_hit rfl ?_|refine e_miss rfl ?_|with_reducible refine ⟨by kernel_rfl, ?_⟩|refine r_lend2 (f := 81) 5 1 rfl rfl Tryd.call81 rfl rfl rfl rfl rfl rfl rfl rfl rfl c1 ?_|refine r_lend2 (f := 81) 5 1 rfl rfl Tryd.call81 rfl rfl rfl rfl rfl rfl rfl rfl rfl (c2 (hs1 ‹_›)) ?_|refine r_lend2 (f := 81) 5 1 rfl rfl Tryd.call81 rfl rfl rfl rfl rfl rfl rfl rfl rfl (c3 (hs1 ‹_›)) ?_|refine r_lend3 (f := 82) 5 6 1 rfl rfl Tryd.call82 rfl rfl rfl rfl rfl rfl rfl rfl rfl rfl rfl rfl (c4a (hs1 ‹_›) ‹_›) ?_|refine r_lend3 (f := 82) 5 6 1 rfl rfl Tryd.call82 rfl rfl rfl rfl rfl rfl rfl rfl rfl rfl rfl rfl (c4b (hs1 ‹_›) ‹_›) ?_|refine r_call (f := 83) rfl rfl Tryd.call83 rfl (c5 _) ?_|((with_reducible refine c_grd ?_);(fail_if_success (refine c_lit true rfl rfl rfl ?_));(fail_if_success (refine c_lit false rfl rfl rfl ?_));refine c_split rfl rfl (fun _ => ?_) (fun _ => ?_)))
  · rename_i h1 h2 h3
    rw [L2 _ (g1 h2) h3]
    exact ⟨(), trivial, ⟨rfl, rfl, rfl, rfl, rfl, rfl, trivial⟩, ⟨rfl, rfl, rfl, rfl, trivial⟩, rfl, by rw [hX]; intro k hk; cases hk⟩
  · rename_i h1 h2 h3 h4
    rw [L1 _ (g1 h2) h1 h3, if_pos h4]
    exact ⟨(), trivial, ⟨rfl, rfl, rfl, rfl, rfl, rfl, trivial⟩, ⟨rfl, rfl, rfl, rfl, trivial⟩, rfl, by rw [hX]; intro k hk; cases hk⟩
  · rename_i h1 h2 h3 h4
    rw [L1 _ (g1 h2) h1 h3, if_neg h4]
    exact ⟨(), trivial, ⟨rfl, rfl, rfl, rfl, rfl, rfl, trivial⟩, ⟨rfl, rfl, rfl, rfl, trivial⟩, rfl, by rw [hX]; intro k hk; cases hk⟩
  · rename_i h1 h2 h3
    rw [L2 _ (g2 h2) h3]
    exact ⟨(), trivial, ⟨rfl, rfl, rfl, rfl, rfl, rfl, trivial⟩, ⟨rfl, rfl, rfl, rfl, trivial⟩, rfl, by rw [hX]; intro k hk; cases hk⟩
  · rename_i h1 h2 h3 h4
    exact absurd (.inr h4) h2
  · rename_i h1 h2 h3 h4
    rw [L1 _ (g2 h2) h1 h3, if_neg h4]
    exact ⟨(), trivial, ⟨rfl, rfl, rfl, rfl, rfl, rfl, trivial⟩, ⟨rfl, rfl, rfl, rfl, trivial⟩, rfl, by rw [hX]; intro k hk; cases hk⟩
  · rename_i h1
    rw [L3 h1]
    exact ⟨(), trivial, ⟨rfl, rfl, rfl, rfl, rfl, rfl, trivial⟩, ⟨rfl, rfl, rfl, rfl, trivial⟩, rfl, by rw [hX]; intro k hk; cases hk⟩
  clear c1 c2 c3 c4a c4b g1 g2 L1 L2 L3 hs1 hp1 hp2
  intro _ _
  have hx : -1099511627776 ≤ (exN powP s k).1 ∧ (exN powP s k).1 ≤ 1099511627776 := by
    have := hp (sgN s (k + 1))
    unfold exN
    split
    · dsimp only
      split <;> omega
    · dsimp only
      omega
  clear hp c5
  generalize exN powP s k = W at hR hx ⊢
  obtain ⟨x, m⟩ := W
  dsimp only at hR hx ⊢
  have c1 := norm_ctr (decide (sat s 0 45)) (w ++ f) (x - f.length) (by rw [List.length_append]; omega) (by omega) (by omega)
  generalize normF (decide (sat s 0 45)) (w ++ f) (x - f.length) = W at hR c1
  obtain ⟨⟨n1, d1, e1⟩, err⟩ := W
  dsimp only at hR c1
  repeat' (first |with_reducible (first |refine t_seq ?_|refine t_region ?_|refine c_nil ?_|refine n_then ?_|refine t_ret ?_|refine t_skip ?_|refine t_exit ?_|refine t_block ?_|refine n_block ?_|refine e_then ?_|refine x_then ?_|refine x_block ?_|refine t_draw ?_)|refine r_val rfl rfl True.intro ?_|refine r_gskip rfl rfl rfl ?_|refine r_gskip2 rfl rfl rfl ?_|refine r_gval rfl rfl rfl rfl True.intro ?_|refine t_true rfl ?_|refine t_false rfl ?_|((first |refine t_cond_d rfl ?_ ?_|refine t_cond_i rfl ?_ ?_|refine t_cond_j rfl ?_ ?_|refine t_cond_s rfl ?_ ?_|refine t_cond_n rfl ?_ ?_|refine t_cond rfl ?_ ?_|refine c_split_d rfl rfl ?_ ?_|refine c_split_i rfl rfl ?_ ?_|refine c_split_j rfl rfl ?_ ?_|refine c_split_s rfl rfl ?_ ?_|refine c_split_n rfl rfl ?_ ?_)<;>intro<;>try (first |(rename_i hz;first |exact tf_ hz|exact ft_ hz)|(exfalso;omega)))|((first |refine r_val rfl rfl ?_ ?_|refine r_gval rfl rfl rfl rfl ?_ ?_|refine r_obj rfl rfl ?_ ?_|refine r_sto rfl ?_ ?_|refine r_gobj rfl rfl rfl rfl ?_ ?_);focus (first |(rw [List.length_append];omega)|omega|exact le_ rfl|((repeat first |rw [wrap_u8]|rw [IntKind.wrap_i64]|rw [IntKind.wrap_i32]|rw [wrap_u32']|rw [wrap_u64']);(repeat' refine And.intro ?_ ?_)<;>omega)|((repeat' refine And.intro ?_ ?_)<;>first |omega|rfl|exact Nat.le_refl _|exact le_ rfl|exact bytesF_one _)|(simp_all;done)|(simp_all;omega)))|refine e_hit rfl ?_|refine e_miss rfl ?_|with_reducible refine ⟨by kernel_rfl, ?_⟩|refine x_end rfl ?_|refine r_call (f := 84) rfl rfl Tryd.call84 rfl c1 ?_|((with_reducible refine c_grd ?_);(fail_if_success (refine c_lit true rfl rfl rfl ?_));(fail_if_success (refine c_lit false rfl rfl rfl ?_));refine c_split rfl rfl (fun _ => ?_) (fun _ => ?_)))
  · rename_i h
    rw [hR (), if_neg h]
    rfl
  · rename_i h
    rw [hR (), if_pos h]
    rfl

end Go.Proofs.YtbegohehjkjnmaaDoor.Flow
