/- The texts RD9, RU10, RU11, RU12, RU13, one behind the other. -/
import Derived.Test.YtbegohehjkjnmaaDoorMR12
import Derived.Test.YtbegohehjkjnmaaDoorMR15
import Derived.Test.YtbegohehjkjnmaaDoorMR25
namespace Go.Proofs.YtbegohehjkjnmaaDoor.Flow
open Go

theorem powR_stuck : ∀ (x : List UInt8) (n : Int), 1000000000 ≤ n → x.foldl (fun n c => if n < 1000000000 then 10 * n + (c.toNat : Int) - 48 else n) n = n
  | [], _, _ => rfl
  | c :: x, n, h => by
    rw [List.foldl_cons, if_neg (by omega)]
    exact powR_stuck x n h

theorem powR_split (x : List UInt8) (m : Nat) : powR x = (x.drop m).foldl (fun n c => if n < 1000000000 then 10 * n + (c.toNat : Int) - 48 else n) (powR (x.take m)) := by
  unfold powR
  rw [← List.foldl_append, List.take_append_drop]

theorem powR_done (x : List UInt8) (m : Nat) (h : 1000000000 ≤ powR (x.take m)) : powR x = powR (x.take m) := by
  rw [powR_split x m, powR_stuck _ _ h]

theorem powR_snoc (l : List UInt8) (c : UInt8) (h : powR l < 1000000000) : powR (l ++ [c]) = 10 * powR l + (c.toNat : Int) - 48 := by
  unfold powR at *
  rw [List.foldl_append, List.foldl_cons, List.foldl_nil, if_pos h]

theorem powR_le (x : List UInt8) (hx : ∀ c ∈ x, isD c = true) : 0 ≤ powR x ∧ powR x < 20000000000 := by
  have key : ∀ (x : List UInt8) (n : Int), (∀ c ∈ x, isD c = true) → 0 ≤ n → n < 20000000000 → 0 ≤ x.foldl (fun n c => if n < 1000000000 then 10 * n + (c.toNat : Int) - 48 else n) n ∧ x.foldl (fun n c => if n < 1000000000 then 10 * n + (c.toNat : Int) - 48 else n) n < 20000000000 := by
    intro x
    induction x with
    | nil => exact fun n _ h h2 => ⟨h, h2⟩
    | cons c x ih =>
      intro n hx h h2
      have := isD_iff.1 (hx c (by simp))
      rw [List.foldl_cons]
      refine ih _ (fun c hc => hx c (by simp [hc])) ?_ ?_
      · split <;> omega
      · split <;> omega
  exact key x 0 hx (by omega) (by omega)

theorem dgT_at (s : List UInt8) (i k : Nat) (h : k < (dgT s i).length) : (dgT s i).getD k 0 = s.getD (i + k) 0 := by
  have e : dgT s i = (s.drop i).take (dgT s i).length := (takeWhile_take _).symm
  have hl := dgT_len s i
  rw [e]
  simp only [List.getD_eq_getElem?_getD, List.getElem?_take, h, if_true, List.getElem?_drop]

theorem dgT_ne (s : List UInt8) (i : Nat) (h : sat s i 48) : ¬ dgT s i = [] := by
  rw [dgT_more h.1 (by have := h.2; omega)]
  simp

theorem whN_cut (s : List UInt8) (i : Nat) : (s.take (whN s i).2).drop i = (whN s i).1 := by
  unfold whN
  split
  · rename_i h
    have := cutD s i h.1
    rw [this]
    have e : s.getD i 0 = 48 := (u8_eq (n := 48) (by omega)).1 h.2
    rw [e]
  · exact dgT_cut s i
where
  cutD (s : List UInt8) (i : Nat) (h : i < s.length) : (s.take (i + 1)).drop i = [s.getD i 0] := by
    rw [List.take_add_one, List.drop_append_of_le_length (by simp; omega), List.drop_eq_nil_of_le (by simp; omega)]
    simp [h, List.getD_eq_getElem?_getD]

theorem whN_nil (s : List UInt8) (i : Nat) : (whN s i).1 = [] ↔ dgT s i = [] := by
  unfold whN
  split
  · rename_i h
    simp [dgT_ne s i h]
  · exact Iff.rfl

set_option maxHeartbeats 4000000 in
theorem rparse_ctr (s : List UInt8) (hs : s.length ≤ 1048576) : Ctr Tryd.prog 48 [.s s] (.tu [dcV (parseG powR s).1, .i .i64 (parseG powR s).2.1, .i .i64 (parseG powR s).2.2]) := by
  generalize hR : parseG powR s = R
  unfold parseG at hR
  replace hR := fun _ : Unit => hR.symm
  refine r_fun Tryd.func48 rfl Tryd.ntmps48 Tryd.results48 rfl rfl fun X hL hX => ?_
  have n1 : 0 < s.length → (at' s 0 == 45) = decide (sat s 0 45) := fun h => by
    rw [Bool.eq_iff_iff, beq_iff_eq, decide_eq_true_iff]
    exact ⟨fun h2 => ⟨h, h2⟩, fun h2 => h2.2⟩
  have n2 : ¬ 0 < s.length → false = decide (sat s 0 45) := fun h => (decide_eq_false fun h2 => h h2.1).symm
  repeat' (first |refine r_midr 2 hL (fun _ : Unit => [(0, .s s), (2, .pv 2 0), (5, .i .i64 0), (6, .b (decide (sat s 0 45)))]) (fun _ => [(2, .var [.b false, .s [], .i .i64 0])]) (fun _ => True) ?_ ?_|with_reducible (first |refine t_seq ?_|refine t_region ?_|refine c_nil ?_|refine n_then ?_|refine t_ret ?_|refine t_skip ?_|refine t_exit ?_|refine t_block ?_|refine n_block ?_|refine e_then ?_|refine x_then ?_|refine x_block ?_|refine t_draw ?_)|refine r_val rfl rfl True.intro ?_|refine r_gskip rfl rfl rfl ?_|refine r_gskip2 rfl rfl rfl ?_|refine r_gval rfl rfl rfl rfl True.intro ?_|refine t_true rfl ?_|refine t_false rfl ?_|((first |refine t_cond_d rfl ?_ ?_|refine t_cond_i rfl ?_ ?_|refine t_cond_j rfl ?_ ?_|refine t_cond_s rfl ?_ ?_|refine t_cond_n rfl ?_ ?_|refine t_cond rfl ?_ ?_|refine c_split_d rfl rfl ?_ ?_|refine c_split_i rfl rfl ?_ ?_|refine c_split_j rfl rfl ?_ ?_|refine c_split_s rfl rfl ?_ ?_|refine c_split_n rfl rfl ?_ ?_)<;>intro<;>try (first |contradiction|(exfalso;omega)))|((first |refine r_val rfl rfl ?_ ?_|refine r_gval rfl rfl rfl rfl ?_ ?_|refine r_obj rfl rfl ?_ ?_|refine r_sto rfl ?_ ?_|refine r_gobj rfl rfl rfl rfl ?_ ?_);focus (first |omega|exact le_ rfl|((repeat first |rw [wrap_u8]|rw [IntKind.wrap_i64]|rw [IntKind.wrap_i32]|rw [wrap_u32']|rw [wrap_u64']);(repeat' refine And.intro ?_ ?_)<;>omega)|((repeat' refine And.intro ?_ ?_)<;>first |omega|rfl|exact Nat.le_refl _|exact le_ rfl|exact bytesF_one _)|(simp_all;done)|(simp_all;omega)))|refine e_hit rfl ?_|refine e_miss rfl ?_|with_reducible refine ⟨by kernel_rfl, ?_⟩|((with_reducible refine c_grd ?_);(fail_if_success (refine c_lit true rfl rfl rfl ?_));(fail_if_success (refine c_lit false rfl rfl rfl ?_));refine c_split rfl rfl (fun _ => ?_) (fun _ => ?_)))
  · exact ⟨(), trivial, ⟨rfl, rfl, rfl, congrArg D.b (n1 (by omega)), trivial⟩, ⟨rfl, trivial⟩, rfl, by rw [hX]; intro k hk; cases hk⟩
  · exact ⟨(), trivial, ⟨rfl, rfl, rfl, congrArg D.b (n2 (by omega)), trivial⟩, ⟨rfl, trivial⟩, rfl, by rw [hX]; intro k hk; cases hk⟩
  clear n1 n2
  intro _ _
  have e5 : sat s 0 45 → (1 : Int) = (sg0 s : Int) := fun h => by unfold sg0; rw [if_pos h]; rfl
  have e5' : ¬ sat s 0 45 → (0 : Int) = (sg0 s : Int) := fun h => by unfold sg0; rw [if_neg h]; rfl
  repeat' (first |refine r_mid 3 hL (fun _ : Unit => [(0, .s s), (2, .pv 2 0), (5, .i .i64 (sg0 s)), (6, .b (decide (sat s 0 45)))]) (fun _ => [(2, .var [.b false, .s [], .i .i64 0])]) (fun _ => True) ?_ ?_|with_reducible (first |refine t_seq ?_|refine t_region ?_|refine c_nil ?_|refine n_then ?_|refine t_ret ?_|refine t_skip ?_|refine t_exit ?_|refine t_block ?_|refine n_block ?_|refine e_then ?_|refine x_then ?_|refine x_block ?_|refine t_draw ?_)|refine r_val rfl rfl True.intro ?_|refine r_gskip rfl rfl rfl ?_|refine r_gskip2 rfl rfl rfl ?_|refine r_gval rfl rfl rfl rfl True.intro ?_|refine t_true rfl ?_|refine t_false rfl ?_|((first |refine t_cond_d rfl ?_ ?_|refine t_cond_i rfl ?_ ?_|refine t_cond_j rfl ?_ ?_|refine t_cond_s rfl ?_ ?_|refine t_cond_n rfl ?_ ?_|refine t_cond rfl ?_ ?_|refine c_split_d rfl rfl ?_ ?_|refine c_split_i rfl rfl ?_ ?_|refine c_split_j rfl rfl ?_ ?_|refine c_split_s rfl rfl ?_ ?_|refine c_split_n rfl rfl ?_ ?_)<;>intro<;>try (first |contradiction|(exfalso;omega)))|((first |refine r_val rfl rfl ?_ ?_|refine r_gval rfl rfl rfl rfl ?_ ?_|refine r_obj rfl rfl ?_ ?_|refine r_sto rfl ?_ ?_|refine r_gobj rfl rfl rfl rfl ?_ ?_);focus (first |omega|exact le_ rfl|((repeat first |rw [wrap_u8]|rw [IntKind.wrap_i64]|rw [IntKind.wrap_i32]|rw [wrap_u32']|rw [wrap_u64']);(repeat' refine And.intro ?_ ?_)<;>omega)|((repeat' refine And.intro ?_ ?_)<;>first |omega|rfl|exact Nat.le_refl _|exact le_ rfl|exact bytesF_one _)|(simp_all;done)|(simp_all;omega)))|refine e_hit rfl ?_|refine e_miss rfl ?_|with_reducible refine ⟨by kernel_rfl, ?_⟩|((with_reducible refine c_grd ?_);(fail_if_success (refine c_lit true rfl rfl rfl ?_));(fail_if_success (refine c_lit false rfl rfl rfl ?_));refine c_split rfl rfl (fun _ => ?_) (fun _ => ?_)))
  · exact ⟨(), trivial, ⟨rfl, rfl, congrArg (D.i .i64) (e5 ‹_›), rfl, trivial⟩, ⟨rfl, trivial⟩, rfl, by rw [hX]; intro k hk; cases hk⟩
  · exact ⟨(), trivial, ⟨rfl, rfl, congrArg (D.i .i64) (e5' ‹_›), rfl, trivial⟩, ⟨rfl, trivial⟩, rfl, by rw [hX]; intro k hk; cases hk⟩
  clear e5 e5'
  intro _ _
  have hi := sg0_le (s := s)
  generalize sg0 s = i at hR hi ⊢
  have c1 := rdigits_ctr s i hs hi
  have L0 := whN_nil s i
  have L1 := fun h => whN_pos (s := s) (i := i) h
  have L2 := fun h => whN_neg (s := s) (i := i) h
  have hl := dgT_len s i
  have hz : (dgT s i).length = 0 ↔ dgT s i = [] := List.length_eq_zero_iff
  have hi2 : ¬ (dgT s i).length = 0 → i < s.length := fun h => by omega
  have L0 := fun _ : Unit => L0
  have hz := fun _ : Unit => hz
  repeat' (first |refine r_mid 8 hL (fun _ : Unit => [(0, .s s), (2, .pv 2 0), (5, .i .i64 i), (6, .b (decide (sat s 0 45))), (7, .i .i64 (whN s i).2)]) (fun _ => [(2, .var [.b false, .s [], .i .i64 0])]) (fun _ => ¬ (whN s i).1 = []) ?_ ?_|with_reducible (first |refine t_seq ?_|refine t_region ?_|refine c_nil ?_|refine n_then ?_|refine t_ret ?_|refine t_skip ?_|refine t_exit ?_|refine t_block ?_|refine n_block ?_|refine e_then ?_|refine x_then ?_|refine x_block ?_|refine t_draw ?_)|refine r_val rfl rfl True.intro ?_|refine r_gskip rfl rfl rfl ?_|refine r_gskip2 rfl rfl rfl ?_|refine r_gval rfl rfl rfl rfl True.intro ?_|refine t_true rfl ?_|refine t_false rfl ?_|((first |refine t_cond_d rfl ?_ ?_|refine t_cond_i rfl ?_ ?_|refine t_cond_j rfl ?_ ?_|refine t_cond_s rfl ?_ ?_|refine t_cond_n rfl ?_ ?_|refine t_cond rfl ?_ ?_|refine c_split_d rfl rfl ?_ ?_|refine c_split_i rfl rfl ?_ ?_|refine c_split_j rfl rfl ?_ ?_|refine c_split_s rfl rfl ?_ ?_|refine c_split_n rfl rfl ?_ ?_)<;>intro<;>try (first |contradiction|(exfalso;omega)))|((first |refine r_val rfl rfl ?_ ?_|refine r_gval rfl rfl rfl rfl ?_ ?_|refine r_obj rfl rfl ?_ ?_|refine r_sto rfl ?_ ?_|refine r_gobj rfl rfl rfl rfl ?_ ?_);focus (first |omega|exact le_ rfl|((repeat first |rw [wrap_u8]|rw [IntKind.wrap_i64]|rw [IntKind.wrap_i32]|rw [wrap_u32']|rw [wrap_u64']);(repeat' refine And.intro ?_ ?_)<;>omega)|((repeat' refine And.intro ?_ ?_)<;>first |omega|rfl|exact Nat.le_refl _|exact le_ rfl|exact bytesF_one _)|(simp_all;done)|(simp_all;omega)))|refine e_hit rfl ?_|refine e_miss rfl ?_|with_reducible refine ⟨by kernel_rfl, ?_⟩|refine x_end rfl ?_|refine r_call (f := 68) rfl rfl Tryd.call68 rfl c1 ?_|((with_reducible refine c_grd ?_);(fail_if_success (refine c_lit true rfl rfl rfl ?_));(fail_if_success (refine c_lit false rfl rfl rfl ?_));refine c_split rfl rfl (fun _ => ?_) (fun _ => ?_)))
  · rw [hR (), if_pos ((L0 ()).2 ((hz ()).1 (by omega)))]
    rfl
  · rename_i h1 h2
    have hs1 : sat s i 48 := ⟨hi2 (by omega), h2⟩
    rw [L1 hs1]
    exact ⟨(), by simp, ⟨rfl, rfl, rfl, rfl, rfl, trivial⟩, ⟨rfl, trivial⟩, rfl, by rw [hX]; intro k hk; cases hk⟩
  · rename_i h1 h2
    have hs1 : ¬ sat s i 48 := fun h => h2 h.2
    have h3 : ¬ dgT s i = [] := fun h => h1 (by rw [h]; simp)
    rw [L2 hs1]
    exact ⟨(), h3, ⟨rfl, rfl, rfl, rfl, rfl, trivial⟩, ⟨rfl, trivial⟩, rfl, by rw [hX]; intro k hk; cases hk⟩
  clear L0 hz c1 L1 L2 hl hi2
  intro _ hw
  replace hR := fun _ : Unit => (hR ()).trans (if_neg hw)
  dsimp only at hR
  have hj := whN_le hi
  have lw : (whN s i).1.length ≤ 1048577 := by
    have := dgT_len s i
    unfold whN
    split <;> dsimp only [List.length_cons, List.length_nil] <;> omega
  have hcut := fun _ : Unit => whN_cut s i
  have hij : i ≤ (whN s i).2 := by
    unfold whN
    split <;> dsimp only <;> omega
  generalize whN s i = W at hR hw hj lw hcut hij ⊢
  obtain ⟨w, j⟩ := W
  dsimp only at hR hw hj lw hcut hij ⊢
  clear hw
  have hl := dgT_len s (j + 1)
  have c2 := fun h : sat s j 46 => rdigits_ctr s (j + 1) hs h.1
  have L1 := fun h h2 => frN_pos (s := s) (i := j) h h2
  have L2 := fun h => frN_neg (s := s) (i := j) h
  have hz : (dgT s (j + 1)).length = 0 ↔ dgT s (j + 1) = [] := List.length_eq_zero_iff
  have hz := fun _ : Unit => hz
  have hcf := fun _ : Unit => dgT_cut s (j + 1)
  have ms : j < s.length → at' s j = 46 → sat s j 46 := fun h h2 => ⟨h, h2⟩
  repeat' (first |refine r_mid 13 hL (fun _ : Unit => [(0, .s s), (2, .pv 2 0), (5, .i .i64 (frN s j).2), (6, .b (decide (sat s 0 45))), (8, .s (w ++ (frN s j).1)), (9, .i .i64 (-((frN s j).1.length : Int)))]) (fun _ => [(2, .var [.b false, .s [], .i .i64 0])]) (fun _ => True) ?_ ?_|with_reducible (first |refine t_seq ?_|refine t_region ?_|refine c_nil ?_|refine n_then ?_|refine t_ret ?_|refine t_skip ?_|refine t_exit ?_|refine t_block ?_|refine n_block ?_|refine e_then ?_|refine x_then ?_|refine x_block ?_|refine t_draw ?_)|refine r_val rfl rfl True.intro ?_|refine r_gskip rfl rfl rfl ?_|refine r_gskip2 rfl rfl rfl ?_|refine r_gval rfl rfl rfl rfl True.intro ?_|refine t_true rfl ?_|refine t_false rfl ?_|((first |refine t_cond_d rfl ?_ ?_|refine t_cond_i rfl ?_ ?_|refine t_cond_j rfl ?_ ?_|refine t_cond_s rfl ?_ ?_|refine t_cond_n rfl ?_ ?_|refine t_cond rfl ?_ ?_|refine c_split_d rfl rfl ?_ ?_|refine c_split_i rfl rfl ?_ ?_|refine c_split_j rfl rfl ?_ ?_|refine c_split_s rfl rfl ?_ ?_|refine c_split_n rfl rfl ?_ ?_)<;>intro<;>try (first |(rename_i hz;first |exact tf_ hz|exact ft_ hz)|(exfalso;omega)))|((first |refine r_val rfl rfl ?_ ?_|refine r_gval rfl rfl rfl rfl ?_ ?_|refine r_obj rfl rfl ?_ ?_|refine r_sto rfl ?_ ?_|refine r_gobj rfl rfl rfl rfl ?_ ?_);focus (first |(simp only [List.length_drop, List.length_take];omega)|omega|exact le_ rfl|((repeat first |rw [wrap_u8]|rw [IntKind.wrap_i64]|rw [IntKind.wrap_i32]|rw [wrap_u32']|rw [wrap_u64']);(repeat' refine And.intro ?_ ?_)<;>omega)|((repeat' refine And.intro ?_ ?_)<;>first |omega|rfl|exact Nat.le_refl _|exact le_ rfl|exact bytesF_one _)|(simp_all;done)|(simp_all;omega)))|refine e_hit rfl ?_|refine e_miss rfl ?_|with_reducible refine ⟨by kernel_rfl, ?_⟩|refine r_call (f := 68) rfl rfl Tryd.call68 rfl (c2 (ms (by omega) ‹_›)) ?_|refine r_gcall (f := 68) rfl rfl rfl rfl Tryd.call68 rfl (c2 (ms (by omega) ‹_›)) ?_|((with_reducible refine c_grd ?_);(fail_if_success (refine c_lit true rfl rfl rfl ?_));(fail_if_success (refine c_lit false rfl rfl rfl ?_));refine c_split rfl rfl (fun _ => ?_) (fun _ => ?_)))
  · rename_i h1 h2 h3
    rw [L1 (ms (by omega) h2) (fun h => by rw [h] at h3; simp at h3)]
    exact ⟨(), trivial, ⟨rfl, rfl, rfl, rfl, congrArg D.s (by simp only [Int.toNat_natCast, show ((j : Int) + 1).toNat = j + 1 by omega]; rw [hcut (), hcf ()]), congrArg (D.i .i64) (by dsimp only; omega), trivial⟩, ⟨rfl, trivial⟩, rfl, by rw [hX]; intro k hk; cases hk⟩
  · rename_i h1 h2 h3
    rw [L2 (.inr ((hz ()).1 (by omega)))]
    exact ⟨(), trivial, ⟨rfl, rfl, rfl, rfl, congrArg D.s (by simp only [Int.toNat_natCast]; rw [hcut ()]; simp), rfl, trivial⟩, ⟨rfl, trivial⟩, rfl, by rw [hX]; intro k hk; cases hk⟩
  · rename_i h1 h2
    rw [L2 (.inl fun h => h2 h.2)]
    exact ⟨(), trivial, ⟨rfl, rfl, rfl, rfl, congrArg D.s (by simp only [Int.toNat_natCast]; rw [hcut ()]; simp), rfl, trivial⟩, ⟨rfl, trivial⟩, rfl, by rw [hX]; intro k hk; cases hk⟩
  · rename_i h1
    rw [L2 (.inl fun h => h1 (by have := h.1; omega))]
    exact ⟨(), trivial, ⟨rfl, rfl, rfl, rfl, congrArg D.s (by simp only [Int.toNat_natCast]; rw [hcut ()]; simp), rfl, trivial⟩, ⟨rfl, trivial⟩, rfl, by rw [hX]; intro k hk; cases hk⟩
  clear c2 L1 L2 hz hcf ms hcut hij hl
  intro _ _
  have hk := frN_le hj
  have lf : (frN s j).1.length ≤ 1048577 := by
    have := dgT_len s (j + 1)
    unfold frN
    split <;> dsimp only [List.length_cons, List.length_nil] <;> omega
  generalize frN s j = W at hR hk lf ⊢
  obtain ⟨f, k⟩ := W
  dsimp only at hR hk lf ⊢
  have la : (w ++ f).length ≤ 2097154 := by rw [List.length_append]; omega
  generalize w ++ f = al at hR la ⊢
  have L1 : (sat s k 101 ∨ sat s k 69) → ¬ (dgT s (sgN s (k + 1))).length = 0 → exN powR s k = (if sat s (k + 1) 45 then -powR (dgT s (sgN s (k + 1))) else powR (dgT s (sgN s (k + 1))), sgN s (k + 1) + (dgT s (sgN s (k + 1))).length) := fun h h2 => exN_pos h (fun h3 => h2 (by rw [h3]; rfl))
  have L2 : (dgT s (sgN s (k + 1))).length = 0 → exN powR s k = (0, k) := fun h => exN_neg (.inr (List.length_eq_zero_iff.1 h))
  have L3 := fun h => exN_neg (s := s) (i := k) (pw := powR) (.inl h)
  have hp0 : k < s.length → sgN s (k + 1) ≤ s.length ∧ k + 1 ≤ sgN s (k + 1) := fun h => ⟨sgN_le (by omega), by unfold sgN; split <;> omega⟩
  have hx0 := fun _ : Unit => (pow_eq (dgT s (sgN s (k + 1))) (dgT_digit _ _))
  have bE : (k : Int) < s.length → ∀ c, (at' s k == c) = decide (sat s k c) := fun h c => by
    rw [Bool.eq_iff_iff, beq_iff_eq, decide_eq_true_iff]
    exact ⟨fun h2 => ⟨by omega, h2⟩, fun h2 => h2.2⟩
  have bF : (k : Int) + 1 < s.length → ∀ c, (at' s ((k : Int) + 1) == c) = decide (sat s (k + 1) c) := fun h c => by
    rw [Bool.eq_iff_iff, beq_iff_eq, decide_eq_true_iff]
    exact ⟨fun h2 => ⟨by omega, h2⟩, fun h2 => h2.2⟩
  have sN : ∀ {c : Int}, ¬ (k : Int) < s.length → ¬ sat s k c := fun h h2 => h (by have := h2.1; omega)
  have sM : ∀ {c : Int}, ¬ (k : Int) + 1 < s.length → ¬ sat s (k + 1) c := fun h h2 => h (by have := h2.1; omega)
  repeat' (first |refine r_mid 18 hL (fun _ : Unit => [(0, .s s), (2, .pv 2 0), (5, .i .i64 (exN powR s k).2), (6, .b (decide (sat s 0 45))), (8, .s al), (9, .i .i64 ((exN powR s k).1 - f.length))]) (fun _ => [(2, .var [.b false, .s [], .i .i64 0])]) (fun _ => True) ?_ ?_|refine r_midr 18 hL (fun _ : Unit => [(0, .s s), (2, .pv 2 0), (5, .i .i64 k), (6, .b (decide (sat s 0 45))), (8, .s al), (9, .i .i64 (-(f.length : Int))), (93, .b (decide (sat s k 101 ∨ sat s k 69)))]) (fun _ => [(2, .var [.b false, .s [], .i .i64 0])]) (fun _ => True) ?_ ?_|with_reducible (first |refine t_seq ?_|refine t_region ?_|refine c_nil ?_|refine n_then ?_|refine t_ret ?_|refine t_skip ?_|refine t_exit ?_|refine t_block ?_|refine n_block ?_|refine e_then ?_|refine x_then ?_|refine x_block ?_|refine t_draw ?_)|refine r_val rfl rfl True.intro ?_|refine r_gskip rfl rfl rfl ?_|refine r_gskip2 rfl rfl rfl ?_|refine r_gval rfl rfl rfl rfl True.intro ?_|refine t_true rfl ?_|refine t_false rfl ?_|((first |refine t_cond_d rfl ?_ ?_|refine t_cond_i rfl ?_ ?_|refine t_cond_j rfl ?_ ?_|refine t_cond_s rfl ?_ ?_|refine t_cond_n rfl ?_ ?_|refine t_cond rfl ?_ ?_|refine c_split_d rfl rfl ?_ ?_|refine c_split_i rfl rfl ?_ ?_|refine c_split_j rfl rfl ?_ ?_|refine c_split_s rfl rfl ?_ ?_|refine c_split_n rfl rfl ?_ ?_)<;>intro<;>try (first |(rename_i hz;first |exact tf_ hz|exact ft_ hz)|(exfalso;omega)))|((first |refine r_val rfl rfl ?_ ?_|refine r_gval rfl rfl rfl rfl ?_ ?_|refine r_obj rfl rfl ?_ ?_|refine r_sto rfl ?_ ?_|refine r_gobj rfl rfl rfl rfl ?_ ?_);focus (first |(simp only [List.length_append, List.length_drop, List.length_take];omega)|omega|exact le_ rfl|((repeat first |rw [wrap_u8]|rw [IntKind.wrap_i64]|rw [IntKind.wrap_i32]|rw [wrap_u32']|rw [wrap_u64']);(repeat' refine And.intro ?_ ?_)<;>omega)|((repeat' refine And.intro ?_ ?_)<;>first |omega|rfl|exact Nat.le_refl _|exact le_ rfl|exact bytesF_one _)|(simp_all;done)|(simp_all;omega)))|refine e_hit rfl ?_|refine e_miss rfl ?_|with_reducible refine ⟨by kernel_rfl, ?_⟩|((with_reducible refine c_grd ?_);(fail_if_success (refine c_lit true rfl rfl rfl ?_));(fail_if_success (refine c_lit false rfl rfl rfl ?_));refine c_split rfl rfl (fun _ => ?_) (fun _ => ?_)))
  · rename_i h1 h2
    exact ⟨(), trivial, ⟨rfl, rfl, rfl, rfl, rfl, rfl, congrArg D.b (decide_eq_true (.inl ⟨by omega, h2⟩)).symm, trivial⟩, ⟨rfl, trivial⟩, rfl, by rw [hX]; intro k hk; cases hk⟩
  · rename_i h1 h2
    exact ⟨(), trivial, ⟨rfl, rfl, rfl, rfl, rfl, rfl, congrArg D.b (by rw [bE h1, decide_eq_decide]; exact ⟨.inr, fun h => h.elim (fun h => absurd h.2 h2) id⟩), trivial⟩, ⟨rfl, trivial⟩, rfl, by rw [hX]; intro k hk; cases hk⟩
  · rename_i h1
    exact ⟨(), trivial, ⟨rfl, rfl, rfl, rfl, rfl, rfl, congrArg D.b (decide_eq_false (fun h => h.elim (sN h1) (sN h1))).symm, trivial⟩, ⟨rfl, trivial⟩, rfl, by rw [hX]; intro k hk; cases hk⟩
  clear bE sN
  intro _ _
  repeat' (first |refine r_mid 20 hL (fun _ : Unit => [(0, .s s), (2, .pv 2 0), (5, .i .i64 k), (6, .b (decide (sat s 0 45))), (8, .s al), (9, .i .i64 (-(f.length : Int))), (10, .i .i64 (sgN s (k + 1)))]) (fun _ => [(2, .var [.b false, .s [], .i .i64 0])]) (fun _ => True) ?_ ?_|refine r_midr 20 hL (fun _ : Unit => [(0, .s s), (2, .pv 2 0), (5, .i .i64 k), (6, .b (decide (sat s 0 45))), (8, .s al), (9, .i .i64 (-(f.length : Int))), (10, .i .i64 ((k : Int) + 1)), (111, .b (decide (sat s (k + 1) 43 ∨ sat s (k + 1) 45)))]) (fun _ => [(2, .var [.b false, .s [], .i .i64 0])]) (fun _ => True) ?_ ?_|with_reducible (first |refine t_seq ?_|refine t_region ?_|refine c_nil ?_|refine n_then ?_|refine t_ret ?_|refine t_skip ?_|refine t_exit ?_|refine t_block ?_|refine n_block ?_|refine e_then ?_|refine x_then ?_|refine x_block ?_|refine t_draw ?_)|refine r_val rfl rfl True.intro ?_|refine r_gskip rfl rfl rfl ?_|refine r_gskip2 rfl rfl rfl ?_|refine r_gval rfl rfl rfl rfl True.intro ?_|refine t_true rfl ?_|refine t_false rfl ?_|((first |refine t_cond_d rfl ?_ ?_|refine t_cond_i rfl ?_ ?_|refine t_cond_j rfl ?_ ?_|refine t_cond_s rfl ?_ ?_|refine t_cond_n rfl ?_ ?_|refine t_cond rfl ?_ ?_|refine c_split_d rfl rfl ?_ ?_|refine c_split_i rfl rfl ?_ ?_|refine c_split_j rfl rfl ?_ ?_|refine c_split_s rfl rfl ?_ ?_|refine c_split_n rfl rfl ?_ ?_)<;>intro<;>try (first |(rename_i hz;first |exact tf_ hz|exact ft_ hz)|(exfalso;omega)))|((first |refine r_val rfl rfl ?_ ?_|refine r_gval rfl rfl rfl rfl ?_ ?_|refine r_obj rfl rfl ?_ ?_|refine r_sto rfl ?_ ?_|refine r_gobj rfl rfl rfl rfl ?_ ?_);focus (first |(simp only [List.length_append, List.length_drop, List.length_take];omega)|omega|exact le_ rfl|((repeat first |rw [wrap_u8]|rw [IntKind.wrap_i64]|rw [IntKind.wrap_i32]|rw [wrap_u32']|rw [wrap_u64']);(repeat' refine And.intro ?_ ?_)<;>omega)|((repeat' refine And.intro ?_ ?_)<;>first |omega|rfl|exact Nat.le_refl _|exact le_ rfl|exact bytesF_one _)|(simp_all;done)|(simp_all;omega)))|refine e_hit rfl ?_|refine e_miss rfl ?_|with_reducible refine ⟨by kernel_rfl, ?_⟩|((with_reducible refine c_grd ?_);(fail_if_success (refine c_lit true rfl rfl rfl ?_));(fail_if_success (refine c_lit false rfl rfl rfl ?_));refine c_split rfl rfl (fun _ => ?_) (fun _ => ?_)))
  · rename_i h1 h2
    exact ⟨(), trivial, ⟨rfl, rfl, rfl, rfl, rfl, rfl, rfl, congrArg D.b (decide_eq_true (.inl ⟨by omega, h2⟩)).symm, trivial⟩, ⟨rfl, trivial⟩, rfl, by rw [hX]; intro k hk; cases hk⟩
  · rename_i h1 h2
    exact ⟨(), trivial, ⟨rfl, rfl, rfl, rfl, rfl, rfl, rfl, congrArg D.b (by rw [bF h1, decide_eq_decide]; exact ⟨.inr, fun h => h.elim (fun h => absurd h.2 h2) id⟩), trivial⟩, ⟨rfl, trivial⟩, rfl, by rw [hX]; intro k hk; cases hk⟩
  · rename_i h1
    exact ⟨(), trivial, ⟨rfl, rfl, rfl, rfl, rfl, rfl, rfl, congrArg D.b (decide_eq_false (fun h => h.elim (sM h1) (sM h1))).symm, trivial⟩, ⟨rfl, trivial⟩, rfl, by rw [hX]; intro k hk; cases hk⟩
  · intro _ _
    have g1 : (sat s (k + 1) 43 ∨ sat s (k + 1) 45) → sgN s (k + 1) = k + 1 + 1 := fun h => if_pos h
    have g2 : ¬ (sat s (k + 1) 43 ∨ sat s (k + 1) 45) → sgN s (k + 1) = k + 1 := fun h => if_neg h
    have hb : (sat s k 101 ∨ sat s k 69) → (k : Int) < s.length := fun h => by
      rcases h with h | h
      · have := h.1
        omega
      · have := h.1
        omega
    have hb := hb ‹_›
    repeat' (first |with_reducible (first |refine t_seq ?_|refine t_region ?_|refine c_nil ?_|refine n_then ?_|refine t_ret ?_|refine t_skip ?_|refine t_exit ?_|refine t_block ?_|refine n_block ?_|refine e_then ?_|refine x_then ?_|refine x_block ?_|refine t_draw ?_)|refine r_val rfl rfl True.intro ?_|refine r_gskip rfl rfl rfl ?_|refine r_gskip2 rfl rfl rfl ?_|refine r_gval rfl rfl rfl rfl True.intro ?_|refine t_true rfl ?_|refine t_false rfl ?_|((first |refine t_cond_d rfl ?_ ?_|refine t_cond_i rfl ?_ ?_|refine t_cond_j rfl ?_ ?_|refine t_cond_s rfl ?_ ?_|refine t_cond_n rfl ?_ ?_|refine t_cond rfl ?_ ?_|refine c_split_d rfl rfl ?_ ?_|refine c_split_i rfl rfl ?_ ?_|refine c_split_j rfl rfl ?_ ?_|refine c_split_s rfl rfl ?_ ?_|refine c_split_n rfl rfl ?_ ?_)<;>intro<;>try (first |contradiction|(exfalso;omega)))|((first |refine r_val rfl rfl ?_ ?_|refine r_gval rfl rfl rfl rfl ?_ ?_|refine r_obj rfl rfl ?_ ?_|refine r_sto rfl ?_ ?_|refine r_gobj rfl rfl rfl rfl ?_ ?_);focus (first |omega|exact le_ rfl|((repeat first |rw [wrap_u8]|rw [IntKind.wrap_i64]|rw [IntKind.wrap_i32]|rw [wrap_u32']|rw [wrap_u64']);(repeat' refine And.intro ?_ ?_)<;>omega)|((repeat' refine And.intro ?_ ?_)<;>first |omega|rfl|exact Nat.le_refl _|exact le_ rfl|exact bytesF_one _)|(simp_all;done)|(simp_all;omega)))|refine e_hit rfl ?_|refine e_miss rfl ?_|with_reducible refine ⟨by kernel_rfl, ?_⟩|((with_reducible refine c_grd ?_);(fail_if_success (refine c_lit true rfl rfl rfl ?_));(fail_if_success (refine c_lit false rfl rfl rfl ?_));refine c_split rfl rfl (fun _ => ?_) (fun _ => ?_)))
    · rw [g1 ‹_›]
      exact ⟨(), trivial, ⟨rfl, rfl, rfl, rfl, rfl, rfl, rfl, trivial⟩, ⟨rfl, trivial⟩, rfl, by rw [hX]; intro k hk; cases hk⟩
    · rw [g2 ‹_›]
      exact ⟨(), trivial, ⟨rfl, rfl, rfl, rfl, rfl, rfl, rfl, trivial⟩, ⟨rfl, trivial⟩, rfl, by rw [hX]; intro k hk; cases hk⟩
  · intro _ _
    rename_i he _ _
    have hb : k < s.length := by
      rcases he with h | h
      · exact h.1
      · exact h.1
    have hp1 := hp0 hb
    have hs45 : ∀ c, at' s ((k : Int) + 1) = c → k + 1 < s.length → sat s (k + 1) c := fun c h h2 => ⟨h2, h⟩
    generalize sgN s (k + 1) = p at hp1 L1 L2 hx0 ⊢
    have hl := dgT_len s p
    have c1 := rdigits_ctr s p hs hp1.1
    have hdg := dgT_digit s p
    have L1 := L1 he
    clear hR hp0 L3 bF sM he
    repeat' (first |with_reducible (first |refine t_seq ?_|refine t_region ?_|refine c_nil ?_|refine n_then ?_|refine t_ret ?_|refine t_skip ?_|refine t_exit ?_|refine t_block ?_|refine n_block ?_|refine e_then ?_|refine x_then ?_|refine x_block ?_|refine t_draw ?_)|refine r_val rfl rfl True.intro ?_|refine r_gskip rfl rfl rfl ?_|refine r_gskip2 rfl rfl rfl ?_|refine r_gval rfl rfl rfl rfl True.intro ?_|refine t_true rfl ?_|refine t_false rfl ?_|((first |refine t_cond_d rfl ?_ ?_|refine t_cond_i rfl ?_ ?_|refine t_cond_j rfl ?_ ?_|refine t_cond_s rfl ?_ ?_|refine t_cond_n rfl ?_ ?_|refine t_cond rfl ?_ ?_|refine c_split_d rfl rfl ?_ ?_|refine c_split_i rfl rfl ?_ ?_|refine c_split_j rfl rfl ?_ ?_|refine c_split_s rfl rfl ?_ ?_|refine c_split_n rfl rfl ?_ ?_)<;>intro<;>try (first |contradiction|(exfalso;omega)))|((first |refine r_val rfl rfl ?_ ?_|refine r_gval rfl rfl rfl rfl ?_ ?_|refine r_obj rfl rfl ?_ ?_|refine r_sto rfl ?_ ?_|refine r_gobj rfl rfl rfl rfl ?_ ?_);focus (first |omega|exact le_ rfl|((repeat first |rw [wrap_u8]|rw [IntKind.wrap_i64]|rw [IntKind.wrap_i32]|rw [wrap_u32']|rw [wrap_u64']);(repeat' refine And.intro ?_ ?_)<;>omega)|((repeat' refine And.intro ?_ ?_)<;>first |omega|rfl|exact Nat.le_refl _|exact le_ rfl|exact bytesF_one _)|(simp_all;done)|(simp_all;omega)))|refine e_hit rfl ?_|refine e_miss rfl ?_|with_reducible refine ⟨by kernel_rfl, ?_⟩|refine r_call (f := 68) rfl rfl Tryd.call68 rfl c1 ?_|((with_reducible refine c_grd ?_);(fail_if_success (refine c_lit true rfl rfl rfl ?_));(fail_if_success (refine c_lit false rfl rfl rfl ?_));refine c_split rfl rfl (fun _ => ?_) (fun _ => ?_)))
    clear c1
    refine T.loop hL (fun y : Nat × Int => [(0, .s s), (2, .pv 2 0), (5, .i .i64 k), (6, .b (decide (sat s 0 45))), (7, .i .i64 ((p + (dgT s p).length : Nat) : Int)), (8, .s al), (9, .i .i64 (-(f.length : Int))), (10, .i .i64 p), (11, .i .i64 y.2), (12, .i .i64 ((p + y.1 : Nat) : Int))]) (fun _ => [(2, .var [.b false, .s [], .i .i64 0])])
      (fun y => y.1 ≤ (dgT s p).length ∧ 0 ≤ y.2 ∧ y.2 < 20000000000 ∧ y.2 = powR ((dgT s p).take y.1)) (fun y => (dgT s p).length - y.1) (0, 0) ⟨Nat.zero_le _, by decide, by decide, rfl⟩ ⟨⟨rfl, rfl, rfl, rfl, rfl, rfl, rfl, rfl, rfl, rfl, trivial⟩, ⟨rfl, trivial⟩, rfl, by rw [hX]; intro k hk; cases hk⟩ ?_
    rintro ⟨q, n⟩ ⟨q1, q2, q3, q4⟩
    dsimp only at q1 q2 q3 q4 ⊢
    have hfin : ¬ q < (dgT s p).length ∨ ¬ n < 1000000000 → n = powR (dgT s p) := fun h => by
      rcases h with h | h
      · rw [q4, List.take_of_length_le (by omega)]
      · rw [powR_done (dgT s p) q (by rw [← q4]; omega), ← q4]
    have hdq : q < (dgT s p).length → 48 ≤ at' s ((p + q : Nat) : Int) ∧ at' s ((p + q : Nat) : Int) ≤ 57 := fun h => by
      have := isD_iff.1 (hdg ((dgT s p).getD q 0) (by simp [List.getD_eq_getElem?_getD, h]))
      rw [dgT_at s p q h] at this
      exact this
    have hsn : q < (dgT s p).length → n < 1000000000 → powR ((dgT s p).take (q + 1)) = 10 * n + at' s ((p + q : Nat) : Int) - 48 := fun h h2 => by
      rw [take_snoc _ q h, powR_snoc _ _ (by rw [← q4]; exact h2), ← q4, dgT_at s p q h]
      rfl
    have q4 := fun _ : Unit => q4
    have hdg := fun _ : Unit => hdg
    have hw : q < (dgT s p).length → IntKind.i64.wrap (at' s ((p + q : Nat) : Int)) = at' s ((p + q : Nat) : Int) := fun h => by
      have := hdq h
      rw [IntKind.wrap_i64]
      omega
    by_cases hq : q < (dgT s p).length
    · have hw := hw hq
      have hdq := hdq hq
      have hfin := fun h : ¬ n < 1000000000 => hfin (.inr h)
      repeat' (first |with_reducible (first |refine t_seq ?_|refine t_region ?_|refine c_nil ?_|refine n_then ?_|refine t_ret ?_|refine t_skip ?_|refine t_exit ?_|refine t_block ?_|refine n_block ?_|refine e_then ?_|refine x_then ?_|refine x_block ?_|refine t_draw ?_)|refine r_val rfl rfl True.intro ?_|refine r_gskip rfl rfl rfl ?_|refine r_gskip2 rfl rfl rfl ?_|refine r_gval rfl rfl rfl rfl True.intro ?_|refine t_true rfl ?_|refine t_false rfl ?_|((first |refine t_cond_d rfl ?_ ?_|refine t_cond_i rfl ?_ ?_|refine t_cond_j rfl ?_ ?_|refine t_cond_s rfl ?_ ?_|refine t_cond_n rfl ?_ ?_|refine t_cond rfl ?_ ?_|refine c_split_d rfl rfl ?_ ?_|refine c_split_i rfl rfl ?_ ?_|refine c_split_j rfl rfl ?_ ?_|refine c_split_s rfl rfl ?_ ?_|refine c_split_n rfl rfl ?_ ?_)<;>intro<;>try (first |(rename_i hz;first |exact tf_ hz|exact ft_ hz)|(exfalso;omega)))|((first |refine r_val rfl rfl ?_ ?_|refine r_gval rfl rfl rfl rfl ?_ ?_|refine r_obj rfl rfl ?_ ?_|refine r_sto rfl ?_ ?_|refine r_gobj rfl rfl rfl rfl ?_ ?_);focus (first |(rw [hw];(repeat' refine And.intro ?_ ?_)<;>omega)|omega|exact le_ rfl|((repeat first |rw [wrap_u8]|rw [IntKind.wrap_i64]|rw [IntKind.wrap_i32]|rw [wrap_u32']|rw [wrap_u64']);(repeat' refine And.intro ?_ ?_)<;>omega)|((repeat' refine And.intro ?_ ?_)<;>first |omega|rfl|exact Nat.le_refl _|exact le_ rfl|exact bytesF_one _)|(simp_all;done)|(simp_all;omega)))|refine e_hit rfl ?_|refine e_miss rfl ?_|with_reducible refine ⟨by kernel_rfl, ?_⟩|((with_reducible refine c_grd ?_);(fail_if_success (refine c_lit true rfl rfl rfl ?_));(fail_if_success (refine c_lit false rfl rfl rfl ?_));refine c_split rfl rfl (fun _ => ?_) (fun _ => ?_)))
      · refine ⟨(q + 1, 10 * n + IntKind.i64.wrap (at' s ((p + q : Nat) : Int)) - 48), ⟨by dsimp only; omega, by dsimp only; omega, by dsimp only; omega, ?_⟩, by dsimp only; omega, ⟨rfl, rfl, rfl, rfl, rfl, rfl, rfl, rfl, rfl, rfl, trivial⟩, ⟨rfl, trivial⟩, rfl, by rw [hX]; intro k hk; cases hk⟩
        dsimp only
        rw [hw, hsn hq ‹_›]
      · rename_i h45
        rw [L1 (by omega), if_pos (hs45 45 h45 (by omega))]
        exact ⟨(), trivial, ⟨rfl, rfl, rfl, rfl, rfl, congrArg (D.i .i64) (by dsimp only; rw [← hfin (by assumption)]; omega), trivial⟩, ⟨rfl, trivial⟩, rfl, by rw [hX]; intro k hk; cases hk⟩
      · rename_i h45
        rw [L1 (by omega), if_neg (fun h => h45 h.2)]
        exact ⟨(), trivial, ⟨rfl, rfl, rfl, rfl, rfl, congrArg (D.i .i64) (by dsimp only; rw [← hfin (by assumption)]; omega), trivial⟩, ⟨rfl, trivial⟩, rfl, by rw [hX]; intro k hk; cases hk⟩
    ·
      clear hw hdq hsn
      have hfin := fun _ : Unit => hfin (.inl hq)
      repeat' (first |with_reducible (first |refine t_seq ?_|refine t_region ?_|refine c_nil ?_|refine n_then ?_|refine t_ret ?_|refine t_skip ?_|refine t_exit ?_|refine t_block ?_|refine n_block ?_|refine e_then ?_|refine x_then ?_|refine x_block ?_|refine t_draw ?_)|refine r_val rfl rfl True.intro ?_|refine r_gskip rfl rfl rfl ?_|refine r_gskip2 rfl rfl rfl ?_|refine r_gval rfl rfl rfl rfl True.intro ?_|refine t_true rfl ?_|refine t_false rfl ?_|((first |refine t_cond_d rfl ?_ ?_|refine t_cond_i rfl ?_ ?_|refine t_cond_j rfl ?_ ?_|refine t_cond_s rfl ?_ ?_|refine t_cond_n rfl ?_ ?_|refine t_cond rfl ?_ ?_|refine c_split_d rfl rfl ?_ ?_|refine c_split_i rfl rfl ?_ ?_|refine c_split_j rfl rfl ?_ ?_|refine c_split_s rfl rfl ?_ ?_|refine c_split_n rfl rfl ?_ ?_)<;>intro<;>try (first |(rename_i hz;first |exact tf_ hz|exact ft_ hz)|(exfalso;omega)))|((first |refine r_val rfl rfl ?_ ?_|refine r_gval rfl rfl rfl rfl ?_ ?_|refine r_obj rfl rfl ?_ ?_|refine r_sto rfl ?_ ?_|refine r_gobj rfl rfl rfl rfl ?_ ?_);focus (first |omega|exact le_ rfl|((repeat first |rw [wrap_u8]|rw [IntKind.wrap_i64]|rw [IntKind.wrap_i32]|rw [wrap_u32']|rw [wrap_u64']);(repeat' refine And.intro ?_ ?_)<;>omega)|((repeat' refine And.intro ?_ ?_)<;>first |omega|rfl|exact Nat.le_refl _|exact le_ rfl|exact bytesF_one _)|(simp_all;done)|(simp_all;omega)))|refine e_hit rfl ?_|refine e_miss rfl ?_|with_reducible refine ⟨by kernel_rfl, ?_⟩|((with_reducible refine c_grd ?_);(fail_if_success (refine c_lit true rfl rfl rfl ?_));(fail_if_success (refine c_lit false rfl rfl rfl ?_));refine c_split rfl rfl (fun _ => ?_) (fun _ => ?_)))
      · rename_i h45
        rw [L1 (by omega), if_pos (hs45 45 h45 (by omega))]
        exact ⟨(), trivial, ⟨rfl, rfl, rfl, rfl, rfl, congrArg (D.i .i64) (by dsimp only; rw [← hfin ()]; omega), trivial⟩, ⟨rfl, trivial⟩, rfl, by rw [hX]; intro k hk; cases hk⟩
      · rename_i h45
        rw [L1 (by omega), if_neg (fun h => h45 h.2)]
        exact ⟨(), trivial, ⟨rfl, rfl, rfl, rfl, rfl, congrArg (D.i .i64) (by dsimp only; rw [← hfin ()]; omega), trivial⟩, ⟨rfl, trivial⟩, rfl, by rw [hX]; intro k hk; cases hk⟩
      · rw [L2 (by omega)]
        exact ⟨(), trivial, ⟨rfl, rfl, rfl, rfl, rfl, congrArg (D.i .i64) (by dsimp only; omega), trivial⟩, ⟨rfl, trivial⟩, rfl, by rw [hX]; intro k hk; cases hk⟩
  · rename_i h1
    rw [L3 h1]
    exact ⟨(), trivial, ⟨rfl, rfl, rfl, rfl, rfl, congrArg (D.i .i64) (by dsimp only; omega), trivial⟩, ⟨rfl, trivial⟩, rfl, by rw [hX]; intro k hk; cases hk⟩
  intro _ _
  have hx : -20000000000 ≤ (exN powR s k).1 ∧ (exN powR s k).1 ≤ 20000000000 := by
    have hpr := powR_le (dgT s (sgN s (k + 1))) (dgT_digit _ _)
    unfold exN
    split
    · dsimp only
      split <;> omega
    · dsimp only
      omega
  generalize exN powR s k = W at hR hx ⊢
  obtain ⟨x, m⟩ := W
  dsimp only at hR hx ⊢
  have c1 := rnorm_ctr (decide (sat s 0 45)) al (x - f.length) (by omega) (by omega) (by omega)
  generalize normF (decide (sat s 0 45)) al (x - f.length) = W at hR c1
  obtain ⟨⟨n1, d1, e1⟩, err⟩ := W
  dsimp only at hR c1
  clear L1 L2 L3 hp0 hx0 bF sM
  repeat' (first |with_reducible (first |refine t_seq ?_|refine t_region ?_|refine c_nil ?_|refine n_then ?_|refine t_ret ?_|refine t_skip ?_|refine t_exit ?_|refine t_block ?_|refine n_block ?_|refine e_then ?_|refine x_then ?_|refine x_block ?_|refine t_draw ?_)|refine r_val rfl rfl True.intro ?_|refine r_gskip rfl rfl rfl ?_|refine r_gskip2 rfl rfl rfl ?_|refine r_gval rfl rfl rfl rfl True.intro ?_|refine t_true rfl ?_|refine t_false rfl ?_|((first |refine t_cond_d rfl ?_ ?_|refine t_cond_i rfl ?_ ?_|refine t_cond_j rfl ?_ ?_|refine t_cond_s rfl ?_ ?_|refine t_cond_n rfl ?_ ?_|refine t_cond rfl ?_ ?_|refine c_split_d rfl rfl ?_ ?_|refine c_split_i rfl rfl ?_ ?_|refine c_split_j rfl rfl ?_ ?_|refine c_split_s rfl rfl ?_ ?_|refine c_split_n rfl rfl ?_ ?_)<;>intro<;>try (first |contradiction|(exfalso;omega)))|((first |refine r_val rfl rfl ?_ ?_|refine r_gval rfl rfl rfl rfl ?_ ?_|refine r_obj rfl rfl ?_ ?_|refine r_sto rfl ?_ ?_|refine r_gobj rfl rfl rfl rfl ?_ ?_);focus (first |omega|exact le_ rfl|((repeat first |rw [wrap_u8]|rw [IntKind.wrap_i64]|rw [IntKind.wrap_i32]|rw [wrap_u32']|rw [wrap_u64']);(repeat' refine And.intro ?_ ?_)<;>omega)|((repeat' refine And.intro ?_ ?_)<;>first |omega|rfl|exact Nat.le_refl _|exact le_ rfl|exact bytesF_one _)|(simp_all;done)|(simp_all;omega)))|refine e_hit rfl ?_|refine e_miss rfl ?_|with_reducible refine ⟨by kernel_rfl, ?_⟩|refine x_end rfl ?_|refine r_call (f := 69) rfl rfl Tryd.call69 rfl c1 ?_|((with_reducible refine c_grd ?_);(fail_if_success (refine c_lit true rfl rfl rfl ?_));(fail_if_success (refine c_lit false rfl rfl rfl ?_));refine c_split rfl rfl (fun _ => ?_) (fun _ => ?_)))
  · rename_i h
    rw [hR (), if_neg h]
    rfl
  · rename_i h
    rw [hR (), if_pos h]
    rfl

def codeR (s : List UInt8) (i : Int) : Int × Int × Int :=
  if (fourG s 4 0 i).2.2 = 0 then
    (if 56320 ≤ (fourG s 4 0 i).1 ∧ (fourG s 4 0 i).1 < 57344 then (0, 0, 3)
    else if (fourG s 4 0 i).1 < 55296 ∨ 57344 ≤ (fourG s 4 0 i).1 then ((fourG s 4 0 i).1, i + 4, 0)
    else if i + 4 < s.length then
      (if at' s (i + 4) = 92 then
        (if i + 5 < s.length then
          (if at' s (i + 5) = 117 then
            (if (fourG s 4 0 (i + 6)).2.2 = 0 then
              (if (fourG s 4 0 (i + 6)).1 < 56320 ∨ 57344 ≤ (fourG s 4 0 (i + 6)).1 then (0, 0, 3) else (pairF (fourG s 4 0 i).1 (fourG s 4 0 (i + 6)).1, i + 10, 0))
            else (0, 0, (fourG s 4 0 (i + 6)).2.2))
          else (0, 0, 3))
        else (0, 0, 2))
      else (0, 0, 3))
    else (0, 0, 2))
  else (0, 0, (fourG s 4 0 i).2.2)

theorem fourF_bad {s : List UInt8} {i e : Int} (h : ¬ e = 0) : fourF s i e = (0, i, e) := if_neg h
theorem fourF_ok {s : List UInt8} {i : Int} : fourF s i 0 = fourG s 4 0 i := if_pos rfl
theorem failF_0 (c : Int) : failF 0 c = c := if_pos rfl
theorem failF_n {e : Int} (h : ¬ e = 0) (c : Int) : failF e c = e := if_neg h

theorem codeP_R (s : List UInt8) (i : Int) (o : List UInt8) (h0 : 0 ≤ i) (h1 : i ≤ s.length) :
    (codeP s i o).2.2 = (codeR s i).2.2 ∧ ((codeR s i).2.2 = 0 → (codeP s i o).1 = (codeR s i).2.1 ∧ (codeP s i o).2.1 = o ++ utfB (codeR s i).1) := by
  have hr := fourG_range s 4 0 i h0 h1 (by omega)
  unfold codeR
  generalize hx : fourG s 4 0 i = x at hr
  obtain ⟨n, j, e⟩ := x
  dsimp only at hr ⊢
  by_cases he : e = 0
  · subst he
    obtain rfl : j = i + 4 := by have := hr.2.2.2.2.2.2 rfl; omega
    rw [if_pos rfl]
    by_cases c1 : 56320 ≤ n ∧ n < 57344
    · rw [if_pos c1, codeP_low hx c1.1 (by omega)]
      exact ⟨rfl, fun h => absurd h (by dsimp only; omega)⟩
    rw [if_neg c1]
    by_cases c2 : n < 55296 ∨ 57344 ≤ n
    · rw [if_pos c2, codeP_one hx (by omega)]
      exact ⟨rfl, fun _ => ⟨rfl, rfl⟩⟩
    rw [if_neg c2]
    have g1 : 55296 ≤ n := by omega
    have g2 : n ≤ 56319 := by omega
    have half : ∀ m j3 e, lowP s (i + 4) = (m, j3, e) → ¬ e = 0 → (codeP s i o).2.2 = e ∧ (e = 0 → (codeP s i o).1 = 0 ∧ (codeP s i o).2.1 = o ++ utfB 0) := by
      intro m j3 e hl he
      rw [codeP_half hx g1 g2 hl he]
      exact ⟨rfl, fun h => absurd h he⟩
    by_cases c3 : i + 4 < s.length
    · rw [if_pos c3]
      by_cases c4 : at' s (i + 4) = 92
      · rw [if_pos c4]
        have ha : mustF s (i + 4) 0 92 = (i + 5, 0) := by
          unfold mustF
          rw [nextF_ok rfl c3]
          dsimp only
          rw [if_pos c4, show i + 4 + 1 = i + 5 by omega]
        by_cases c5 : i + 5 < s.length
        · rw [if_pos c5]
          by_cases c6 : at' s (i + 5) = 117
          · rw [if_pos c6]
            have hb : mustF s (i + 5) 0 117 = (i + 6, 0) := by
              unfold mustF
              rw [nextF_ok rfl c5]
              dsimp only
              rw [if_pos c6, show i + 5 + 1 = i + 6 by omega]
            have hr2 := fourG_range s 4 0 (i + 6) (by omega) (by omega) (by omega)
            generalize hy : fourG s 4 0 (i + 6) = y at hr2
            obtain ⟨m, j3, e3⟩ := y
            have hl := lowP_eq ha hb (fourF_ok.trans hy)
            dsimp only at hr2 ⊢
            by_cases c7 : e3 = 0
            · subst c7
              obtain rfl : j3 = i + 10 := by have := hr2.2.2.2.2.2.2 rfl; omega
              rw [if_pos rfl]
              by_cases c8 : m < 56320 ∨ 57344 ≤ m
              · rw [if_pos c8]
                rw [if_pos (by omega), failF_0] at hl
                exact half _ _ _ hl (by decide)
              · rw [if_neg c8]
                rw [if_neg (by omega)] at hl
                rw [codeP_pair hx g1 g2 hl]
                exact ⟨rfl, fun _ => ⟨rfl, rfl⟩⟩
            · rw [if_neg c7]
              obtain rfl : m = 0 := hr2.2.2.2.2.2.1 c7
              rw [if_pos (by omega), failF_n c7] at hl
              exact half _ _ _ hl c7
          · rw [if_neg c6]
            have hb : mustF s (i + 5) 0 117 = (i + 6, 3) := by
              unfold mustF
              rw [nextF_ok rfl c5]
              dsimp only
              rw [if_neg c6, show i + 5 + 1 = i + 6 by omega, failF_0]
            have hl := lowP_eq ha hb (fourF_bad (by omega))
            rw [if_pos (by omega), failF_n (by omega)] at hl
            exact half _ _ _ hl (by decide)
        · rw [if_neg c5]
          have hb : mustF s (i + 5) 0 117 = (i + 5, 2) := by
            unfold mustF
            rw [nextF_short rfl c5]
            dsimp only
            rw [if_neg (by omega), failF_n (by omega)]
          have hl := lowP_eq ha hb (fourF_bad (by omega))
          rw [if_pos (by omega), failF_n (by omega)] at hl
          exact half _ _ _ hl (by decide)
      · rw [if_neg c4]
        have ha : mustF s (i + 4) 0 92 = (i + 5, 3) := by
          unfold mustF
          rw [nextF_ok rfl c3]
          dsimp only
          rw [if_neg c4, show i + 4 + 1 = i + 5 by omega, failF_0]
        have hb : mustF s (i + 5) 3 117 = (i + 5, 3) := by
          unfold mustF
          rw [nextF_bad (by omega)]
          dsimp only
          rw [if_neg (by omega), failF_n (by omega)]
        have hl := lowP_eq ha hb (fourF_bad (by omega))
        rw [if_pos (by omega), failF_n (by omega)] at hl
        exact half _ _ _ hl (by decide)
    · rw [if_neg c3]
      have ha : mustF s (i + 4) 0 92 = (i + 4, 2) := by
        unfold mustF
        rw [nextF_short rfl c3]
        dsimp only
        rw [if_neg (by omega), failF_n (by omega)]
      have hb : mustF s (i + 4) 2 117 = (i + 4, 2) := by
        unfold mustF
        rw [nextF_bad (by omega)]
        dsimp only
        rw [if_neg (by omega), failF_n (by omega)]
      have hl := lowP_eq ha hb (fourF_bad (by omega))
      rw [if_pos (by omega), failF_n (by omega)] at hl
      exact half _ _ _ hl (by decide)
  · rw [if_neg he, codeP_bad hx he]
    exact ⟨rfl, fun h => absurd h he⟩

def hexD (n : Int) : UInt8 := by8 (if n < 10 then 48 + n else 87 + n)

def qI (n : Int) : List UInt8 :=
  if n = 8 then [92, 98] else if n = 9 then [92, 116] else if n = 10 then [92, 110] else if n = 12 then [92, 102] else if n = 13 then [92, 114]
  else if n = 34 then [92, 34] else if n = 92 then [92, 92] else if n < 32 then [92, 117, 48, 48, hexD (n / 16), hexD (n % 16)] else [by8 n]

def qL : List UInt8 → List UInt8
  | [] => []
  | c :: r => qI (c.toNat : Int) ++ qL r

def quoteL (s : List UInt8) : List UInt8 := if validL s = true then [34] ++ qL s ++ [34] else []

theorem weak_bytes {len : Nat} {f : Nat → List D} {l : List UInt8} (hl : len = l.length) (h : ∀ i, i < l.length → f i = bytesF l i) : Weak (.sl 1 len f) (.sl 1 l.length (bytesF l)) := by
  subst hl
  refine .sl _ _ _ _ (fun i hi => ⟨by rw [h i hi], rfl⟩) (fun i j hi hj => .of_eq (by rw [h i hi]))

theorem rfour_ctr (s : List UInt8) (i : Int) (hs : s.length ≤ 1099511627776) (h0 : 0 ≤ i) (h1 : i ≤ s.length) :
    Ctr Tryd.prog 87 [.s s, .i .i64 i] (.tu [.i .i64 (fourG s 4 0 i).1, .i .i64 (fourG s 4 0 i).2.2]) := by
  generalize hR : fourG s 4 0 i = R
  refine r_fun Tryd.func87 rfl Tryd.ntmps87 Tryd.results87 rfl rfl fun X hL hX => ?_
  repeat' (first |with_reducible (first |refine t_seq ?_|refine t_region ?_|refine c_nil ?_|refine n_then ?_|refine t_ret ?_|refine t_skip ?_|refine t_exit ?_|refine t_block ?_|refine n_block ?_|refine e_then ?_|refine x_then ?_|refine x_block ?_|refine t_draw ?_)|refine r_val rfl rfl True.intro ?_|refine r_gskip rfl rfl rfl ?_|refine r_gskip2 rfl rfl rfl ?_|refine r_gval rfl rfl rfl rfl True.intro ?_|refine t_true rfl ?_|refine t_false rfl ?_|((first |refine t_cond_d rfl ?_ ?_|refine t_cond_i rfl ?_ ?_|refine t_cond_j rfl ?_ ?_|refine t_cond_s rfl ?_ ?_|refine t_cond_n rfl ?_ ?_|refine t_cond rfl ?_ ?_|refine c_split_d rfl rfl ?_ ?_|refine c_split_i rfl rfl ?_ ?_|refine c_split_j rfl rfl ?_ ?_|refine c_split_s rfl rfl ?_ ?_|refine c_split_n rfl rfl ?_ ?_)<;>intro<;>try (first |contradiction|(exfalso;omega)))|((first |refine r_val rfl rfl ?_ ?_|refine r_gval rfl rfl rfl rfl ?_ ?_|refine r_obj rfl rfl ?_ ?_|refine r_sto rfl ?_ ?_|refine r_gobj rfl rfl rfl rfl ?_ ?_);focus (first |omega|exact le_ rfl|((repeat first |rw [wrap_u8]|rw [IntKind.wrap_i64]|rw [IntKind.wrap_i32]|rw [wrap_u32']|rw [wrap_u64']);(repeat' refine And.intro ?_ ?_)<;>omega)|((repeat' refine And.intro ?_ ?_)<;>first |omega|rfl|exact Nat.le_refl _|exact le_ rfl|exact bytesF_one _)|(simp_all;done)|(simp_all;omega)))|refine e_hit rfl ?_|refine e_miss rfl ?_|with_reducible refine ⟨by kernel_rfl, ?_⟩|refine x_end rfl ?_|((with_reducible refine c_grd ?_);(fail_if_success (refine c_lit true rfl rfl rfl ?_));(fail_if_success (refine c_lit false rfl rfl rfl ?_));refine c_split rfl rfl (fun _ => ?_) (fun _ => ?_)))
  refine T.loop hL (fun x : Nat × Int × Int => [(0, .s s), (1, .i .i64 i), (6, .i .i64 x.2.1), (7, .i .i64 x.2.2)]) (fun _ => [])
    (fun x => x.1 ≤ 4 ∧ 0 ≤ x.2.1 ∧ x.2.1 < 16 ^ x.1 ∧ x.2.2 = i + x.1 ∧ x.2.2 ≤ s.length ∧ fourG s (4 - x.1) x.2.1 x.2.2 = R) (fun x => 4 - x.1) (0, 0, i) (by simp [hR]; omega)
    ⟨⟨rfl, rfl, rfl, rfl, trivial⟩, trivial, rfl, by rw [hX]; intro k hk; cases hk⟩ ?_
  rintro ⟨k, n, j⟩ ⟨g1, g2, g3, g4, g5, g6⟩
  dsimp only at g1 g2 g3 g4 g5 g6 ⊢
  have hr := at_range s j
  have hh := hexF_range (at' s j)
  have hpow : k ≤ 3 → (16 : Int) ^ k ≤ 4096 := fun h => by
    have : k = 0 ∨ k = 1 ∨ k = 2 ∨ k = 3 := by omega
    rcases this with rfl | rfl | rfl | rfl <;> decide
  have hn : k ≤ 3 → n < 4096 := fun h => Int.lt_of_lt_of_le g3 (hpow h)
  have hk : j < i + 4 → 4 - k = (3 - k) + 1 := fun h => by omega
  have hk0 : ¬ j < i + 4 → R = (n, j, 0) := fun h => by rw [← g6, show 4 - k = 0 by omega]; rfl
  replace hr := hr
  have g6 := fun _ : Unit => g6
  have g3 := fun _ : Unit => g3
  clear hpow
  repeat' (first |with_reducible (first |refine t_seq ?_|refine t_region ?_|refine c_nil ?_|refine n_then ?_|refine t_ret ?_|refine t_skip ?_|refine t_exit ?_|refine t_block ?_|refine n_block ?_|refine e_then ?_|refine x_then ?_|refine x_block ?_|refine t_draw ?_)|refine r_val rfl rfl True.intro ?_|refine r_gskip rfl rfl rfl ?_|refine r_gskip2 rfl rfl rfl ?_|refine r_gval rfl rfl rfl rfl True.intro ?_|refine t_true rfl ?_|refine t_false rfl ?_|((first |refine t_cond_d rfl ?_ ?_|refine t_cond_i rfl ?_ ?_|refine t_cond_j rfl ?_ ?_|refine t_cond_s rfl ?_ ?_|refine t_cond_n rfl ?_ ?_|refine t_cond rfl ?_ ?_|refine c_split_d rfl rfl ?_ ?_|refine c_split_i rfl rfl ?_ ?_|refine c_split_j rfl rfl ?_ ?_|refine c_split_s rfl rfl ?_ ?_|refine c_split_n rfl rfl ?_ ?_)<;>intro<;>try (first |contradiction|(exfalso;omega)))|((first |refine r_val rfl rfl ?_ ?_|refine r_gval rfl rfl rfl rfl ?_ ?_|refine r_obj rfl rfl ?_ ?_|refine r_sto rfl ?_ ?_|refine r_gobj rfl rfl rfl rfl ?_ ?_);focus (first |omega|exact le_ rfl|((repeat first |rw [wrap_u8]|rw [IntKind.wrap_i64]|rw [IntKind.wrap_i32]|rw [wrap_u32']|rw [wrap_u64']);(repeat' refine And.intro ?_ ?_)<;>omega)|((repeat' refine And.intro ?_ ?_)<;>first |omega|rfl|exact Nat.le_refl _|exact le_ rfl|exact bytesF_one _)|(simp_all;done)|(simp_all;omega)))|refine e_hit rfl ?_|refine e_miss rfl ?_|with_reducible refine ⟨by kernel_rfl, ?_⟩|refine x_end rfl ?_|refine r_call (f := 95) rfl rfl Tryd.call95 rfl (rhex_ctr (at' s j)) ?_|((with_reducible refine c_grd ?_);(fail_if_success (refine c_lit true rfl rfl rfl ?_));(fail_if_success (refine c_lit false rfl rfl rfl ?_));refine c_split rfl rfl (fun _ => ?_) (fun _ => ?_)))
  · rw [← g6 (), hk ‹_›, fourG_short (by omega)]
  · rw [← g6 (), hk ‹_›, fourG_form (by omega) ‹_›]
  · refine ⟨(k + 1, 16 * n + hexF (at' s j), j + 1), ⟨by dsimp only; omega, by dsimp only; omega, ?_, by dsimp only; omega, by dsimp only; omega, ?_⟩, by dsimp only; omega, ⟨rfl, rfl, rfl, rfl, trivial⟩, trivial, rfl, by rw [hX]; intro k hk; cases hk⟩
    · dsimp only
      rw [Int.pow_succ]
      have := g3 ()
      omega
    · dsimp only
      rw [← g6 (), hk ‹_›, fourG_more (by omega) ‹_›, show 4 - (k + 1) = 3 - k by omega]
  · rw [hk0 ‹_›]

theorem wrap_u8s (n : Int) (h : 0 ≤ n) (h2 : n < 256) : IntKind.u8.wrap n = ((by8 n).toNat : Int) := by
  rw [wrap_u8, by8_nat n h h2]
  omega

set_option maxHeartbeats 2000000 in
theorem rbytes_ctr (n : Int) (h0 : 0 ≤ n) (h1 : n ≤ 1114111) : Ctr Tryd.prog 67 [.i .i64 n] (.sl 1 (utfB n).length (bytesF (utfB n))) := by
  refine r_fun Tryd.func67 rfl Tryd.ntmps67 Tryd.results67 rfl rfl fun X hL hX => ?_
  repeat' (first |with_reducible (first |refine t_seq ?_|refine t_region ?_|refine c_nil ?_|refine n_then ?_|refine t_ret ?_|refine t_skip ?_|refine t_exit ?_|refine t_block ?_|refine n_block ?_|refine e_then ?_|refine x_then ?_|refine x_block ?_|refine t_draw ?_)|refine r_val rfl rfl True.intro ?_|refine r_gskip rfl rfl rfl ?_|refine r_gskip2 rfl rfl rfl ?_|refine r_gval rfl rfl rfl rfl True.intro ?_|refine t_true rfl ?_|refine t_false rfl ?_|((first |refine t_cond_d rfl ?_ ?_|refine t_cond_i rfl ?_ ?_|refine t_cond_j rfl ?_ ?_|refine t_cond_s rfl ?_ ?_|refine t_cond_n rfl ?_ ?_|refine t_cond rfl ?_ ?_|refine c_split_d rfl rfl ?_ ?_|refine c_split_i rfl rfl ?_ ?_|refine c_split_j rfl rfl ?_ ?_|refine c_split_s rfl rfl ?_ ?_|refine c_split_n rfl rfl ?_ ?_)<;>intro<;>try (first |contradiction|(exfalso;omega)))|((first |refine r_val rfl rfl ?_ ?_|refine r_gval rfl rfl rfl rfl ?_ ?_|refine r_obj rfl rfl ?_ ?_|refine r_sto rfl ?_ ?_|refine r_gobj rfl rfl rfl rfl ?_ ?_);focus (first |omega|exact le_ rfl|((repeat first |rw [wrap_u8]|rw [IntKind.wrap_i64]|rw [IntKind.wrap_i32]|rw [wrap_u32']|rw [wrap_u64']);(repeat' refine And.intro ?_ ?_)<;>omega)|((repeat' refine And.intro ?_ ?_)<;>first |omega|rfl|exact Nat.le_refl _|exact le_ rfl|exact bytesF_one _)|(simp_all;done)|(simp_all;omega)))|refine e_hit rfl ?_|refine e_miss rfl ?_|with_reducible refine ⟨by kernel_rfl, ?_⟩|refine x_endw rfl ?_|((with_reducible refine c_grd ?_);(fail_if_success (refine c_lit true rfl rfl rfl ?_));(fail_if_success (refine c_lit false rfl rfl rfl ?_));refine c_split rfl rfl (fun _ => ?_) (fun _ => ?_)))
  · rw [utfB_1 ‹_›]
    refine weak_bytes rfl fun i hi => match i, hi with
      | 0, _ => congrArg (fun z => [D.i .u8 z]) (wrap_u8s _ (by omega) (by omega))
  · rw [utfB_2 (by omega) (by omega)]
    refine weak_bytes rfl fun i hi => match i, hi with
      | 0, _ => congrArg (fun z => [D.i .u8 z]) (wrap_u8s _ (by omega) (by omega))
      | 1, _ => congrArg (fun z => [D.i .u8 z]) (wrap_u8s _ (by omega) (by omega))
  · rw [utfB_3 (by omega) (by omega)]
    refine weak_bytes rfl fun i hi => match i, hi with
      | 0, _ => congrArg (fun z => [D.i .u8 z]) (wrap_u8s _ (by omega) (by omega))
      | 1, _ => congrArg (fun z => [D.i .u8 z]) (wrap_u8s _ (by omega) (by omega))
      | 2, _ => congrArg (fun z => [D.i .u8 z]) (wrap_u8s _ (by omega) (by omega))
  · rw [utfB_4 (by omega)]
    refine weak_bytes rfl fun i hi => match i, hi with
      | 0, _ => congrArg (fun z => [D.i .u8 z]) (wrap_u8s _ (by omega) (by omega))
      | 1, _ => congrArg (fun z => [D.i .u8 z]) (wrap_u8s _ (by omega) (by omega))
      | 2, _ => congrArg (fun z => [D.i .u8 z]) (wrap_u8s _ (by omega) (by omega))
      | 3, _ => congrArg (fun z => [D.i .u8 z]) (wrap_u8s _ (by omega) (by omega))

end Go.Proofs.YtbegohehjkjnmaaDoor.Flow
