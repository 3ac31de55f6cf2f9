/- The texts D11, D15, J23, J24, D13, D7, D9, one behind the other. -/
import Derived.Test.YtbegohehjkjnmaaGreatDoorJZ13
import Derived.Test.YtbegohehjkjnmaaGreatDoorJZ15
import Derived.Test.YtbegohehjkjnmaaGreatDoorJZ21
import Derived.Test.YtbegohehjkjnmaaGreatDoorJZ22
import Derived.Test.YtbegohehjkjnmaaGreatDoorJZ23
namespace Go.Proofs.YtbegohehjkjnmaaGreatDoor.Flow
open Go

theorem text_bad (neg : Bool) (s : List UInt8) (e : Int) (hs : s.length ≤ 1048576) (h : ¬ RightP neg s e) : Ctr Tryz.prog 24 [dcD neg s e] (.s []) := by
  have c1 := right_ctr neg s e (by omega)
  rw [rightB_not h] at c1
  refine r_fun Tryz.func24 rfl Tryz.ntmps24 Tryz.results24 rfl rfl fun X hL hX => ?_
  repeat' (first | with_reducible (first | refine t_seq ?_ | refine t_region ?_ | refine c_nil ?_ | refine n_then ?_ | refine t_ret ?_ | refine t_skip ?_ | refine t_exit ?_ | refine t_block ?_ | refine n_block ?_ | refine e_then ?_ | refine x_then ?_ | refine x_block ?_ | refine t_draw ?_) | refine r_val rfl rfl True.intro ?_ | refine r_gskip rfl rfl rfl ?_ | refine r_gskip2 rfl rfl rfl ?_ | refine r_gval rfl rfl rfl rfl True.intro ?_ | refine t_true rfl ?_ | refine t_false rfl ?_ | ((first | refine t_cond_d rfl ?_ ?_ | refine t_cond_i rfl ?_ ?_ | refine t_cond_j rfl ?_ ?_ | refine t_cond_s rfl ?_ ?_ | refine t_cond_n rfl ?_ ?_ | refine t_cond rfl ?_ ?_ | refine c_split_d rfl rfl ?_ ?_ | refine c_split_i rfl rfl ?_ ?_ | refine c_split_j rfl rfl ?_ ?_ | refine c_split_s rfl rfl ?_ ?_ | refine c_split_n rfl rfl ?_ ?_) <;> intro <;> try (first | contradiction | (exfalso; omega))) | ((first | refine r_val rfl rfl ?_ ?_ | refine r_gval rfl rfl rfl rfl ?_ ?_ | refine r_obj rfl rfl ?_ ?_ | refine r_sto rfl ?_ ?_ | refine r_gobj rfl rfl rfl rfl ?_ ?_); focus (first | omega | exact Nat.le_of_ble_eq_true rfl | ((repeat first | rw [wrap_u8] | rw [IntKind.wrap_i64] | rw [IntKind.wrap_i32] | rw [wrap_u32'] | rw [wrap_u64']); (repeat' refine And.intro ?_ ?_) <;> omega) | ((repeat' refine And.intro ?_ ?_) <;> first | omega | rfl | exact Nat.le_refl _ | exact Nat.le_of_ble_eq_true rfl | exact bytesF_one _) | (simp_all; done) | (simp_all; omega))) | refine e_hit rfl ?_ | refine e_miss rfl ?_ | with_reducible refine ⟨by kernel_rfl, ?_⟩ | refine x_end rfl ?_ | refine r_call (f := 27) rfl rfl Tryz.call27 rfl c1 ?_ | ((with_reducible refine c_grd ?_); (fail_if_success (refine c_lit true rfl rfl rfl ?_)); (fail_if_success (refine c_lit false rfl rfl rfl ?_)); refine c_split rfl rfl (fun _ => ?_) (fun _ => ?_)))
  rfl

theorem rtext_bad (neg : Bool) (s : List UInt8) (e : Int) (hs : s.length ≤ 1048576) (h : ¬ RightP neg s e) : Ctr Tryz.prog 35 [dcD neg s e] (.s []) := by
  have c1 := rright_ctr neg s e (by omega)
  rw [rightB_not h] at c1
  refine r_fun Tryz.func35 rfl Tryz.ntmps35 Tryz.results35 rfl rfl fun X hL hX => ?_
  repeat' (first | with_reducible (first | refine t_seq ?_ | refine t_region ?_ | refine c_nil ?_ | refine n_then ?_ | refine t_ret ?_ | refine t_skip ?_ | refine t_exit ?_ | refine t_block ?_ | refine n_block ?_ | refine e_then ?_ | refine x_then ?_ | refine x_block ?_ | refine t_draw ?_) | refine r_val rfl rfl True.intro ?_ | refine r_gskip rfl rfl rfl ?_ | refine r_gskip2 rfl rfl rfl ?_ | refine r_gval rfl rfl rfl rfl True.intro ?_ | refine t_true rfl ?_ | refine t_false rfl ?_ | ((first | refine t_cond_d rfl ?_ ?_ | refine t_cond_i rfl ?_ ?_ | refine t_cond_j rfl ?_ ?_ | refine t_cond_s rfl ?_ ?_ | refine t_cond_n rfl ?_ ?_ | refine t_cond rfl ?_ ?_ | refine c_split_d rfl rfl ?_ ?_ | refine c_split_i rfl rfl ?_ ?_ | refine c_split_j rfl rfl ?_ ?_ | refine c_split_s rfl rfl ?_ ?_ | refine c_split_n rfl rfl ?_ ?_) <;> intro <;> try (first | contradiction | (exfalso; omega))) | ((first | refine r_val rfl rfl ?_ ?_ | refine r_gval rfl rfl rfl rfl ?_ ?_ | refine r_obj rfl rfl ?_ ?_ | refine r_sto rfl ?_ ?_ | refine r_gobj rfl rfl rfl rfl ?_ ?_); focus (first | omega | exact Nat.le_of_ble_eq_true rfl | ((repeat first | rw [wrap_u8] | rw [IntKind.wrap_i64] | rw [IntKind.wrap_i32] | rw [wrap_u32'] | rw [wrap_u64']); (repeat' refine And.intro ?_ ?_) <;> omega) | ((repeat' refine And.intro ?_ ?_) <;> first | omega | rfl | exact Nat.le_refl _ | exact Nat.le_of_ble_eq_true rfl | exact bytesF_one _) | (simp_all; done) | (simp_all; omega))) | refine e_hit rfl ?_ | refine e_miss rfl ?_ | with_reducible refine ⟨by kernel_rfl, ?_⟩ | refine x_end rfl ?_ | refine r_call (f := 32) rfl rfl Tryz.call32 rfl c1 ?_ | ((with_reducible refine c_grd ?_); (fail_if_success (refine c_lit true rfl rfl rfl ?_)); (fail_if_success (refine c_lit false rfl rfl rfl ?_)); refine c_split rfl rfl (fun _ => ?_) (fun _ => ?_)))
  rfl

section
variable {s : List UInt8} {e : Int}
theorem textU_1 (h : 0 ≤ e) (h2 : s.length + e ≤ 21) : textU s e = s ++ zs e.toNat := if_pos ⟨h, h2⟩
theorem textU_2 (h : ¬ (0 ≤ e ∧ s.length + e ≤ 21)) (h2 : 1 ≤ s.length + e) (h3 : s.length + e < s.length) : textU s e = s.take (s.length + e).toNat ++ [46] ++ s.drop (s.length + e).toNat := by
  unfold textU
  rw [if_neg h, if_pos ⟨h2, h3⟩]
theorem textU_3 (h : ¬ (0 ≤ e ∧ s.length + e ≤ 21)) (h2 : -6 ≤ s.length + e) (h3 : s.length + e ≤ 0) : textU s e = [48, 46] ++ zs (-(s.length + e)).toNat ++ s := by
  unfold textU
  rw [if_neg h, if_neg (by omega), if_pos ⟨h2, h3⟩]
theorem textU_4 (h : ¬ (0 ≤ e ∧ s.length + e ≤ 21)) (h2 : ¬ (1 ≤ s.length + e ∧ s.length + e < s.length)) (h3 : ¬ (-6 ≤ s.length + e ∧ s.length + e ≤ 0)) : textU s e = s.take 1 ++ (if 1 < s.length then [46] ++ s.drop 1 else []) ++ [101] ++ Lib.itoa (s.length + e - 1) := by
  unfold textU
  rw [if_neg h, if_neg h2, if_neg h3]
end

set_option maxHeartbeats 2000000 in
theorem text_ok (neg : Bool) (s : List UInt8) (e : Int) (h : RightP neg s e) (h0 : ¬ s.length = 0) : Ctr Tryz.prog 24 [dcD neg s e] (.s ((if neg = true then [45] else []) ++ textU s e)) := by
  obtain ⟨b1, b2, b3, b4⟩ := h.bounds
  have c1 := right_ctr neg s e (by omega)
  rw [rightB_iff.2 h] at c1
  have c2 := fun h => rep_ctr e h (by omega)
  have c3 := fun h => rep_ctr (-(s.length + e)) h (by omega)
  have c4 := itoa_ctr (s.length + e - 1) (by omega) (by omega)
  have l4 := itoa_len (s.length + e - 1) (by omega) (by omega)
  have u1 := fun h h2 => textU_1 (s := s) (e := e) h h2
  have u2 := fun h h2 h3 => textU_2 (s := s) (e := e) h h2 h3
  have u3 := fun h h2 h3 => textU_3 (s := s) (e := e) h h2 h3
  have u4 := fun h h2 h3 => textU_4 (s := s) (e := e) h h2 h3
  have lz : ∀ n : Nat, (zs n).length = n := fun n => by simp
  generalize textU s e = U at *
  generalize Lib.itoa (s.length + e - 1) = I at *
  clear h
  refine r_fun Tryz.func24 rfl Tryz.ntmps24 Tryz.results24 rfl rfl fun X hL hX => ?_
  cases neg with
  | false =>
    repeat' (first | with_reducible (first | refine t_seq ?_ | refine t_region ?_ | refine c_nil ?_ | refine n_then ?_ | refine t_ret ?_ | refine t_skip ?_ | refine t_exit ?_ | refine t_block ?_ | refine n_block ?_ | refine e_then ?_ | refine x_then ?_ | refine x_block ?_ | refine t_draw ?_) | refine r_val rfl rfl True.intro ?_ | refine r_gskip rfl rfl rfl ?_ | refine r_gskip2 rfl rfl rfl ?_ | refine r_gval rfl rfl rfl rfl True.intro ?_ | refine t_true rfl ?_ | refine t_false rfl ?_ | ((first | refine t_cond_d rfl ?_ ?_ | refine t_cond_i rfl ?_ ?_ | refine t_cond_j rfl ?_ ?_ | refine t_cond_s rfl ?_ ?_ | refine t_cond_n rfl ?_ ?_ | refine t_cond rfl ?_ ?_ | refine c_split_d rfl rfl ?_ ?_ | refine c_split_i rfl rfl ?_ ?_ | refine c_split_j rfl rfl ?_ ?_ | refine c_split_s rfl rfl ?_ ?_ | refine c_split_n rfl rfl ?_ ?_) <;> intro <;> try (first | (rename_i hz; exact Bool.noConfusion (show true = false from hz)) | (rename_i hz; exact Bool.noConfusion (show false = true from hz)) | (exfalso; omega))) | ((first | refine r_val rfl rfl ?_ ?_ | refine r_gval rfl rfl rfl rfl ?_ ?_ | refine r_obj rfl rfl ?_ ?_ | refine r_sto rfl ?_ ?_ | refine r_gobj rfl rfl rfl rfl ?_ ?_); focus (first | (simp only [List.length_append, List.length_drop, List.length_take, lz, List.length_cons, List.length_nil]; omega) | omega | exact Nat.le_of_ble_eq_true rfl | ((repeat first | rw [wrap_u8] | rw [IntKind.wrap_i64] | rw [IntKind.wrap_i32] | rw [wrap_u32'] | rw [wrap_u64']); (repeat' refine And.intro ?_ ?_) <;> omega) | ((repeat' refine And.intro ?_ ?_) <;> first | omega | rfl | exact Nat.le_refl _ | exact Nat.le_of_ble_eq_true rfl | exact bytesF_one _) | (simp_all; done) | (simp_all; omega))) | refine e_hit rfl ?_ | refine e_miss rfl ?_ | with_reducible refine ⟨by kernel_rfl, ?_⟩ | refine x_end rfl ?_ | refine r_call (f := 27) rfl rfl Tryz.call27 rfl c1 ?_ | refine r_call (f := 44) rfl rfl Tryz.call44 rfl (c2 (by omega)) ?_ | refine r_call (f := 44) rfl rfl Tryz.call44 rfl (c3 (by omega)) ?_ | refine r_call (f := 45) rfl rfl Tryz.call45 rfl c4 ?_ | ((with_reducible refine c_grd ?_); (fail_if_success (refine c_lit true rfl rfl rfl ?_)); (fail_if_success (refine c_lit false rfl rfl rfl ?_)); refine c_split rfl rfl (fun _ => ?_) (fun _ => ?_)))
    · rw [u1 (by omega) (by omega)]
      exact congrArg D.s (by simp)
    · rw [u4 (by omega) (by omega) (by omega), if_pos (show 1 < s.length by omega)]
      exact congrArg D.s (by simp)
    · rw [u4 (by omega) (by omega) (by omega), if_neg (show ¬ 1 < s.length by omega)]
      exact congrArg D.s (by simp)
    · rw [u2 (by omega) (by omega) (by omega)]
      exact congrArg D.s (by simp)
    · rw [u3 (by omega) (by omega) (by omega)]
      exact congrArg D.s (by simp)
    · rw [u4 (by omega) (by omega) (by omega), if_pos (show 1 < s.length by omega)]
      exact congrArg D.s (by simp)
    · rw [u4 (by omega) (by omega) (by omega), if_neg (show ¬ 1 < s.length by omega)]
      exact congrArg D.s (by simp)
  | true =>
    repeat' (first | with_reducible (first | refine t_seq ?_ | refine t_region ?_ | refine c_nil ?_ | refine n_then ?_ | refine t_ret ?_ | refine t_skip ?_ | refine t_exit ?_ | refine t_block ?_ | refine n_block ?_ | refine e_then ?_ | refine x_then ?_ | refine x_block ?_ | refine t_draw ?_) | refine r_val rfl rfl True.intro ?_ | refine r_gskip rfl rfl rfl ?_ | refine r_gskip2 rfl rfl rfl ?_ | refine r_gval rfl rfl rfl rfl True.intro ?_ | refine t_true rfl ?_ | refine t_false rfl ?_ | ((first | refine t_cond_d rfl ?_ ?_ | refine t_cond_i rfl ?_ ?_ | refine t_cond_j rfl ?_ ?_ | refine t_cond_s rfl ?_ ?_ | refine t_cond_n rfl ?_ ?_ | refine t_cond rfl ?_ ?_ | refine c_split_d rfl rfl ?_ ?_ | refine c_split_i rfl rfl ?_ ?_ | refine c_split_j rfl rfl ?_ ?_ | refine c_split_s rfl rfl ?_ ?_ | refine c_split_n rfl rfl ?_ ?_) <;> intro <;> try (first | (rename_i hz; exact Bool.noConfusion (show true = false from hz)) | (rename_i hz; exact Bool.noConfusion (show false = true from hz)) | (exfalso; omega))) | ((first | refine r_val rfl rfl ?_ ?_ | refine r_gval rfl rfl rfl rfl ?_ ?_ | refine r_obj rfl rfl ?_ ?_ | refine r_sto rfl ?_ ?_ | refine r_gobj rfl rfl rfl rfl ?_ ?_); focus (first | (simp only [List.length_append, List.length_drop, List.length_take, lz, List.length_cons, List.length_nil]; omega) | omega | exact Nat.le_of_ble_eq_true rfl | ((repeat first | rw [wrap_u8] | rw [IntKind.wrap_i64] | rw [IntKind.wrap_i32] | rw [wrap_u32'] | rw [wrap_u64']); (repeat' refine And.intro ?_ ?_) <;> omega) | ((repeat' refine And.intro ?_ ?_) <;> first | omega | rfl | exact Nat.le_refl _ | exact Nat.le_of_ble_eq_true rfl | exact bytesF_one _) | (simp_all; done) | (simp_all; omega))) | refine e_hit rfl ?_ | refine e_miss rfl ?_ | with_reducible refine ⟨by kernel_rfl, ?_⟩ | refine x_end rfl ?_ | refine r_call (f := 27) rfl rfl Tryz.call27 rfl c1 ?_ | refine r_call (f := 44) rfl rfl Tryz.call44 rfl (c2 (by omega)) ?_ | refine r_call (f := 44) rfl rfl Tryz.call44 rfl (c3 (by omega)) ?_ | refine r_call (f := 45) rfl rfl Tryz.call45 rfl c4 ?_ | ((with_reducible refine c_grd ?_); (fail_if_success (refine c_lit true rfl rfl rfl ?_)); (fail_if_success (refine c_lit false rfl rfl rfl ?_)); refine c_split rfl rfl (fun _ => ?_) (fun _ => ?_)))
    · rw [u1 (by omega) (by omega)]
      exact congrArg D.s (by simp)
    · rw [u4 (by omega) (by omega) (by omega), if_pos (show 1 < s.length by omega)]
      exact congrArg D.s (by simp)
    · rw [u4 (by omega) (by omega) (by omega), if_neg (show ¬ 1 < s.length by omega)]
      exact congrArg D.s (by simp)
    · rw [u2 (by omega) (by omega) (by omega)]
      exact congrArg D.s (by simp)
    · rw [u3 (by omega) (by omega) (by omega)]
      exact congrArg D.s (by simp)
    · rw [u4 (by omega) (by omega) (by omega), if_pos (show 1 < s.length by omega)]
      exact congrArg D.s (by simp)
    · rw [u4 (by omega) (by omega) (by omega), if_neg (show ¬ 1 < s.length by omega)]
      exact congrArg D.s (by simp)

set_option maxHeartbeats 2000000 in
theorem rtext_ok (neg : Bool) (s : List UInt8) (e : Int) (h : RightP neg s e) (h0 : ¬ s.length = 0) : Ctr Tryz.prog 35 [dcD neg s e] (.s ((if neg = true then [45] else []) ++ textU s e)) := by
  obtain ⟨b1, b2, b3, b4⟩ := h.bounds
  have c1 := rright_ctr neg s e (by omega)
  rw [rightB_iff.2 h] at c1
  have c2 := fun h => zeros_ctr e h (by omega)
  have c3 := fun h => zeros_ctr (-(s.length + e)) h (by omega)
  have c4 := rnum_ctr (s.length + e - 1) (by omega) (by omega)
  have l4 := itoa_len (s.length + e - 1) (by omega) (by omega)
  have u1 := fun h h2 => textU_1 (s := s) (e := e) h h2
  have u2 := fun h h2 h3 => textU_2 (s := s) (e := e) h h2 h3
  have u3 := fun h h2 h3 => textU_3 (s := s) (e := e) h h2 h3
  have u4 := fun h h2 h3 => textU_4 (s := s) (e := e) h h2 h3
  have lz : ∀ n : Nat, (zs n).length = n := fun n => by simp
  generalize textU s e = U at *
  generalize Lib.itoa (s.length + e - 1) = I at *
  clear h
  refine r_fun Tryz.func35 rfl Tryz.ntmps35 Tryz.results35 rfl rfl fun X hL hX => ?_
  cases neg with
  | false =>
    repeat' (first | with_reducible (first | refine t_seq ?_ | refine t_region ?_ | refine c_nil ?_ | refine n_then ?_ | refine t_ret ?_ | refine t_skip ?_ | refine t_exit ?_ | refine t_block ?_ | refine n_block ?_ | refine e_then ?_ | refine x_then ?_ | refine x_block ?_ | refine t_draw ?_) | refine r_val rfl rfl True.intro ?_ | refine r_gskip rfl rfl rfl ?_ | refine r_gskip2 rfl rfl rfl ?_ | refine r_gval rfl rfl rfl rfl True.intro ?_ | refine t_true rfl ?_ | refine t_false rfl ?_ | ((first | refine t_cond_d rfl ?_ ?_ | refine t_cond_i rfl ?_ ?_ | refine t_cond_j rfl ?_ ?_ | refine t_cond_s rfl ?_ ?_ | refine t_cond_n rfl ?_ ?_ | refine t_cond rfl ?_ ?_ | refine c_split_d rfl rfl ?_ ?_ | refine c_split_i rfl rfl ?_ ?_ | refine c_split_j rfl rfl ?_ ?_ | refine c_split_s rfl rfl ?_ ?_ | refine c_split_n rfl rfl ?_ ?_) <;> intro <;> try (first | (rename_i hz; exact Bool.noConfusion (show true = false from hz)) | (rename_i hz; exact Bool.noConfusion (show false = true from hz)) | (exfalso; omega))) | ((first | refine r_val rfl rfl ?_ ?_ | refine r_gval rfl rfl rfl rfl ?_ ?_ | refine r_obj rfl rfl ?_ ?_ | refine r_sto rfl ?_ ?_ | refine r_gobj rfl rfl rfl rfl ?_ ?_); focus (first | (simp only [List.length_append, List.length_drop, List.length_take, lz, List.length_cons, List.length_nil]; omega) | omega | exact Nat.le_of_ble_eq_true rfl | ((repeat first | rw [wrap_u8] | rw [IntKind.wrap_i64] | rw [IntKind.wrap_i32] | rw [wrap_u32'] | rw [wrap_u64']); (repeat' refine And.intro ?_ ?_) <;> omega) | ((repeat' refine And.intro ?_ ?_) <;> first | omega | rfl | exact Nat.le_refl _ | exact Nat.le_of_ble_eq_true rfl | exact bytesF_one _) | (simp_all; done) | (simp_all; omega))) | refine e_hit rfl ?_ | refine e_miss rfl ?_ | with_reducible refine ⟨by kernel_rfl, ?_⟩ | refine x_end rfl ?_ | refine r_call (f := 32) rfl rfl Tryz.call32 rfl c1 ?_ | refine r_call (f := 50) rfl rfl Tryz.call50 rfl (c2 (by omega)) ?_ | refine r_call (f := 50) rfl rfl Tryz.call50 rfl (c3 (by omega)) ?_ | refine r_call (f := 51) rfl rfl Tryz.call51 rfl c4 ?_ | ((with_reducible refine c_grd ?_); (fail_if_success (refine c_lit true rfl rfl rfl ?_)); (fail_if_success (refine c_lit false rfl rfl rfl ?_)); refine c_split rfl rfl (fun _ => ?_) (fun _ => ?_)))
    · rw [u1 (by omega) (by omega)]
      exact congrArg D.s (by simp)
    · rw [u4 (by omega) (by omega) (by omega), if_neg (show ¬ 1 < s.length by omega), List.take_of_length_le (show s.length ≤ 1 by omega)]
      exact congrArg D.s (by simp)
    · rw [u4 (by omega) (by omega) (by omega), if_pos (show 1 < s.length by omega)]
      exact congrArg D.s (by simp)
    · rw [u2 (by omega) (by omega) (by omega)]
      exact congrArg D.s (by simp)
    · rw [u3 (by omega) (by omega) (by omega)]
      exact congrArg D.s (by simp)
    · rw [u4 (by omega) (by omega) (by omega), if_neg (show ¬ 1 < s.length by omega), List.take_of_length_le (show s.length ≤ 1 by omega)]
      exact congrArg D.s (by simp)
    · rw [u4 (by omega) (by omega) (by omega), if_pos (show 1 < s.length by omega)]
      exact congrArg D.s (by simp)
  | true =>
    repeat' (first | with_reducible (first | refine t_seq ?_ | refine t_region ?_ | refine c_nil ?_ | refine n_then ?_ | refine t_ret ?_ | refine t_skip ?_ | refine t_exit ?_ | refine t_block ?_ | refine n_block ?_ | refine e_then ?_ | refine x_then ?_ | refine x_block ?_ | refine t_draw ?_) | refine r_val rfl rfl True.intro ?_ | refine r_gskip rfl rfl rfl ?_ | refine r_gskip2 rfl rfl rfl ?_ | refine r_gval rfl rfl rfl rfl True.intro ?_ | refine t_true rfl ?_ | refine t_false rfl ?_ | ((first | refine t_cond_d rfl ?_ ?_ | refine t_cond_i rfl ?_ ?_ | refine t_cond_j rfl ?_ ?_ | refine t_cond_s rfl ?_ ?_ | refine t_cond_n rfl ?_ ?_ | refine t_cond rfl ?_ ?_ | refine c_split_d rfl rfl ?_ ?_ | refine c_split_i rfl rfl ?_ ?_ | refine c_split_j rfl rfl ?_ ?_ | refine c_split_s rfl rfl ?_ ?_ | refine c_split_n rfl rfl ?_ ?_) <;> intro <;> try (first | (rename_i hz; exact Bool.noConfusion (show true = false from hz)) | (rename_i hz; exact Bool.noConfusion (show false = true from hz)) | (exfalso; omega))) | ((first | refine r_val rfl rfl ?_ ?_ | refine r_gval rfl rfl rfl rfl ?_ ?_ | refine r_obj rfl rfl ?_ ?_ | refine r_sto rfl ?_ ?_ | refine r_gobj rfl rfl rfl rfl ?_ ?_); focus (first | (simp only [List.length_append, List.length_drop, List.length_take, lz, List.length_cons, List.length_nil]; omega) | omega | exact Nat.le_of_ble_eq_true rfl | ((repeat first | rw [wrap_u8] | rw [IntKind.wrap_i64] | rw [IntKind.wrap_i32] | rw [wrap_u32'] | rw [wrap_u64']); (repeat' refine And.intro ?_ ?_) <;> omega) | ((repeat' refine And.intro ?_ ?_) <;> first | omega | rfl | exact Nat.le_refl _ | exact Nat.le_of_ble_eq_true rfl | exact bytesF_one _) | (simp_all; done) | (simp_all; omega))) | refine e_hit rfl ?_ | refine e_miss rfl ?_ | with_reducible refine ⟨by kernel_rfl, ?_⟩ | refine x_end rfl ?_ | refine r_call (f := 32) rfl rfl Tryz.call32 rfl c1 ?_ | refine r_call (f := 50) rfl rfl Tryz.call50 rfl (c2 (by omega)) ?_ | refine r_call (f := 50) rfl rfl Tryz.call50 rfl (c3 (by omega)) ?_ | refine r_call (f := 51) rfl rfl Tryz.call51 rfl c4 ?_ | ((with_reducible refine c_grd ?_); (fail_if_success (refine c_lit true rfl rfl rfl ?_)); (fail_if_success (refine c_lit false rfl rfl rfl ?_)); refine c_split rfl rfl (fun _ => ?_) (fun _ => ?_)))
    · rw [u1 (by omega) (by omega)]
      exact congrArg D.s (by simp)
    · rw [u4 (by omega) (by omega) (by omega), if_neg (show ¬ 1 < s.length by omega), List.take_of_length_le (show s.length ≤ 1 by omega)]
      exact congrArg D.s (by simp)
    · rw [u4 (by omega) (by omega) (by omega), if_pos (show 1 < s.length by omega)]
      exact congrArg D.s (by simp)
    · rw [u2 (by omega) (by omega) (by omega)]
      exact congrArg D.s (by simp)
    · rw [u3 (by omega) (by omega) (by omega)]
      exact congrArg D.s (by simp)
    · rw [u4 (by omega) (by omega) (by omega), if_neg (show ¬ 1 < s.length by omega), List.take_of_length_le (show s.length ≤ 1 by omega)]
      exact congrArg D.s (by simp)
    · rw [u4 (by omega) (by omega) (by omega), if_pos (show 1 < s.length by omega)]
      exact congrArg D.s (by simp)

end Go.Proofs.YtbegohehjkjnmaaGreatDoor.Flow

namespace Go.Proofs.YtbegohehjkjnmaaGreatDoor.Flow
open Go

section
variable {x r ds : List UInt8} {a : UInt8} {i : Nat}

theorem drop_lt {l : List UInt8} (h : x.drop i = a :: l) : i < x.length := by
  by_cases hi : i < x.length
  · exact hi
  · rw [List.drop_eq_nil_of_le (by omega)] at h
    cases h

theorem drop_at (h : x.drop i = a :: r) : at' x i = (a.toNat : Int) := by
  have hi := drop_lt h
  rw [drop_cons hi] at h
  have := (List.cons.inj h).1
  unfold at'
  rw [Int.toNat_natCast, this]

theorem sat_of {c : Int} (h : x.drop i = a :: r) : sat x i c ↔ (a.toNat : Int) = c := by
  unfold sat
  rw [drop_at h]
  exact ⟨fun h => h.2, fun h2 => ⟨drop_lt h, h2⟩⟩

theorem drop_app (h : x.drop i = ds ++ r) : x.drop (i + ds.length) = r := by
  rw [← List.drop_drop, h, List.drop_left]

theorem takeWhile_all {p : UInt8 → Bool} : ∀ {ds : List UInt8}, (∀ c ∈ ds, p c = true) → p a = false → (ds ++ a :: r).takeWhile p = ds
  | [], _, h => by simp [h]
  | c :: ds, h, h2 => by
    rw [List.cons_append, List.takeWhile_cons, if_pos (h c (by simp)), takeWhile_all (fun c hc => h c (by simp [hc])) h2]

theorem dgT_of (h : x.drop i = ds ++ a :: r) (hd : ∀ c ∈ ds, isD c = true) (ha : isD a = false) : dgT x i = ds := by
  unfold dgT
  rw [h]
  exact takeWhile_all hd ha

theorem whN_dig {c : UInt8} (h : x.drop i = c :: ds ++ a :: r) (hc : ¬ c = 48) (hd : ∀ b ∈ c :: ds, isD b = true) (ha : isD a = false) : whN x i = (c :: ds, i + (c :: ds).length) := by
  rw [whN_neg, dgT_of h hd ha]
  rw [sat_of (r := ds ++ a :: r) h]
  exact fun h => hc ((u8_eq (n := 48) (by omega)).1 h)

theorem whN_zero (h : x.drop i = 48 :: r) : whN x i = ([48], i + 1) := whN_pos ((sat_of h).2 rfl)

theorem frN_none (h : x.drop i = a :: r) (ha : ¬ (a.toNat : Int) = 46) : frN x i = ([], i) := frN_neg (.inl fun h2 => ha ((sat_of h).1 h2))

theorem frN_some (h : x.drop i = 46 :: (ds ++ a :: r)) (hd : ∀ b ∈ ds, isD b = true) (ha : isD a = false) (h0 : ¬ ds = []) : frN x i = (ds, i + 1 + ds.length) := by
  have h1 : x.drop (i + 1) = ds ++ a :: r := drop_app (ds := [46]) h
  have h2 := dgT_of h1 hd ha
  rw [frN_pos ((sat_of h).2 rfl) (by rw [h2]; exact h0), h2]

theorem exN_none {pw : List UInt8 → Int} (h : x.drop i = a :: r) (ha : ¬ (a.toNat : Int) = 101) (hb : ¬ (a.toNat : Int) = 69) : exN pw x i = (0, i) := exN_neg (.inl fun h2 => by
  rw [sat_of h, sat_of h] at h2
  omega)

theorem powP_num (k : Nat) (h : k ≤ 1000000) : powP (Lib.decDigits k) = k := by
  induction k using Nat.strongRecOn with
  | ind k ih =>
    by_cases h2 : k < 10
    · rw [dec_small h2]
      have e : powP [UInt8.ofNat (48 + k)] = min (10 * 0 + (((UInt8.ofNat (48 + k)).toNat : Int) - 48)) 1099511627776 := rfl
      rw [e, (isD_dig h2).2]
      omega
    · rw [dec_step h2, powP_snoc, ih (k / 10) (by omega) (by omega), (isD_dig (by omega)).2]
      omega

theorem exN_some {k : Int} (h : x.drop i = 101 :: (Lib.itoa k ++ a :: r)) (ha : isD a = false) (h0 : -1000000 ≤ k) (h1 : k ≤ 1000000) : exN powP x i = (k, i + 1 + (Lib.itoa k).length) := by
  have hs := (sat_of (c := 101) h).2 rfl
  have h2 : x.drop (i + 1) = Lib.itoa k ++ a :: r := drop_app (ds := [101]) h
  unfold Lib.itoa at h2 ⊢
  by_cases hk : k < 0
  · rw [if_pos hk] at h2 ⊢
    have h3 : x.drop (i + 1 + 1) = Lib.decDigits k.natAbs ++ a :: r := drop_app (ds := [45]) h2
    have h45 := (sat_of (c := 45) h2).2 rfl
    have hg : sgN x (i + 1) = i + 1 + 1 := if_pos (.inr h45)
    have hd := dgT_of h3 (dec_isD _) ha
    rw [exN_pos (.inl hs) (by
      rw [hg, hd]
      obtain ⟨c, l, hc, _⟩ := dec_first k.natAbs (by omega)
      rw [hc]
      simp), hg, hd, if_pos h45, powP_num _ (by omega)]
    refine Prod.ext ?_ ?_
    · show -((k.natAbs : Nat) : Int) = k
      omega
    · show i + 1 + 1 + _ = i + 1 + (_ :: _).length
      rw [List.length_cons]
      omega
  · rw [if_neg hk] at h2 ⊢
    have hne : ∃ c l, Lib.decDigits k.toNat = c :: l := by
      by_cases h9 : k.toNat < 10
      · exact ⟨_, [], dec_small h9⟩
      · obtain ⟨c, l, hc, _⟩ := dec_first k.toNat (by omega)
        exact ⟨c, l, hc⟩
    have hd := dgT_of h2 (dec_isD _) ha
    obtain ⟨c, l, hc⟩ := hne
    have hcd := isD_nat (dec_isD k.toNat c (by rw [hc]; simp))
    have h4 : x.drop (i + 1) = c :: (l ++ a :: r) := by rw [h2, hc]; rfl
    have hg : sgN x (i + 1) = i + 1 := if_neg (by rw [sat_of h4, sat_of h4]; omega)
    rw [exN_pos (.inl hs) (by rw [hg, hd, hc]; simp), hg, hd, if_neg (by rw [sat_of h4]; omega), powP_num _ (by omega)]
    refine Prod.ext ?_ rfl
    show ((k.toNat : Nat) : Int) = k
    omega

theorem parse_of {pw : List UInt8 → Int} {g i1 i2 i3 : Nat} {neg : Bool} {w f : List UInt8} {k : Int} {d : Bool × List UInt8 × Int} (hg : sg0 x = g) (hn : decide (sat x 0 45) = neg) (hw : whN x g = (w, i1)) (h0 : ¬ w = []) (hf : frN x i1 = (f, i2))
    (hx : exN pw x i2 = (k, i3)) (hr : normF neg (w ++ f) (k - f.length) = (d, 0)) : parseG pw x = (d, i3, 0) := by
  unfold parseG
  rw [hg, hw]
  dsimp only
  rw [if_neg h0, hf]
  dsimp only
  rw [hx, hn]
  dsimp only
  rw [hr]
  rfl

end

theorem digs_mem {s : List UInt8} (h : digs s) : ∀ c ∈ s, isD c = true := fun c hc => by
  obtain ⟨i, hi, rfl⟩ := List.getElem_of_mem hc
  have := h i hi
  unfold at' at this
  simp only [Int.toNat_natCast, List.getD_eq_getElem?_getD, List.getElem?_eq_getElem hi, Option.getD_some] at this
  exact isD_iff.2 this

theorem norm_right {neg : Bool} {c : UInt8} {m : List UInt8} {e : Int} (h : RightP neg (c :: m) e) (z t : Nat) (e' : Int) (he : e' + t = e) : normF neg (zs z ++ ((c :: m) ++ zs t)) e' = ((neg, c :: m, e), 0) := by
  have hk := right_last h
  have h0 : ¬ (c :: m).length = 0 := by simp
  have hb := h.bounds
  rw [right_cons h0] at h
  have hc : ¬ c = 48 := fun hc => h.2.2.1 (by rw [hc]; rfl)
  have e1 : tR (zs z ++ ((c :: m) ++ zs t)) = zs z ++ (c :: m) := by
    rw [← List.append_assoc, tR_zs]
    refine lastOk_tR fun d q hq => ?_
    rcases snoc_casesU (c :: m) with h2 | ⟨q2, w, h2⟩
    · simp at h2
    · rw [h2, ← List.append_assoc] at hq
      have := List.append_inj_right' hq rfl
      have := (List.cons.inj this).1
      rw [← this]
      exact hk w q2 h2
  unfold normF
  rw [e1, tL_zs, tL_ne hc, if_neg h0, if_neg (by omega), if_neg (by simp only [List.length_append, List.length_replicate]; omega)]
  simp only [List.length_append, List.length_replicate]
  refine Prod.ext (Prod.ext rfl (Prod.ext rfl ?_)) rfl
  dsimp only
  omega

theorem space_no : isD 32 = false := by decide

abbrev sgL (neg : Bool) : List UInt8 := if neg = true then [45] else []

theorem sg_of (neg : Bool) {c : UInt8} {r : List UInt8} (hc : isD c = true) : sg0 (sgL neg ++ c :: r) = (sgL neg).length ∧ decide (sat (sgL neg ++ c :: r) 0 45) = neg ∧ (sgL neg ++ c :: r).drop (sgL neg).length = c :: r := by
  have hc := isD_nat hc
  refine ⟨?_, ?_, List.drop_left⟩
  · cases neg with
    | true =>
      unfold sg0
      rw [if_pos]
      · rfl
      · exact (sat_of (a := 45) (r := c :: r) rfl).2 rfl
    | false =>
      unfold sg0
      rw [if_neg]
      · rfl
      · show ¬ sat (c :: r) 0 45
        rw [sat_of (a := c) (r := r) rfl]
        omega
  · cases neg with
    | true =>
      exact decide_eq_true ((sat_of (a := 45) (r := c :: r) rfl).2 rfl)
    | false =>
      refine decide_eq_false ?_
      show ¬ sat (c :: r) 0 45
      rw [sat_of (a := c) (r := r) rfl]
      omega

theorem textU_parse (neg : Bool) (s : List UInt8) (e : Int) (h : RightP neg s e) (h0 : ¬ s.length = 0) (b : List UInt8) :
    parseG powP (sgL neg ++ (textU s e ++ 32 :: b)) = ((neg, s, e), (sgL neg ++ textU s e).length, 0) := by
  match s, h0 with
  | [], h0 => exact absurd rfl h0
  | c :: m, h0 =>
  have hb := h.bounds
  have hd := digs_mem hb.2.2.2
  have hr := norm_right h
  have hR := h
  rw [right_cons h0] at hR
  have hc : ¬ c = 48 := fun hc => hR.2.2.1 (by rw [hc]; rfl)
  have hc0 := hd c (by simp)
  clear hR
  by_cases k1 : 0 ≤ e ∧ (c :: m).length + e ≤ 21
  · rw [textU_1 k1.1 k1.2]
    obtain ⟨g1, g2, g3⟩ := sg_of neg (c := c) (r := m ++ zs e.toNat ++ 32 :: b) hc0
    have ex : sgL neg ++ ((c :: m) ++ zs e.toNat ++ 32 :: b) = sgL neg ++ c :: (m ++ zs e.toNat ++ 32 :: b) := by simp
    rw [ex]
    generalize sgL neg ++ c :: (m ++ zs e.toNat ++ 32 :: b) = x at *
    have hdz : ∀ b ∈ c :: (m ++ zs e.toNat), isD b = true := fun b hb => by
      rw [← List.cons_append] at hb
      rcases List.mem_append.1 hb with hb | hb
      · exact hd b hb
      · rw [List.eq_of_mem_replicate hb]
        rfl
    have g3 : x.drop (sgL neg).length = c :: (m ++ zs e.toNat) ++ 32 :: b := by rw [g3]; simp
    have w1 := whN_dig g3 hc hdz space_no
    have d2 := drop_app g3
    have f1 := frN_none d2 (by decide)
    have x1 := exN_none (pw := powP) d2 (by decide) (by decide)
    have r1 := hr 0 e.toNat 0 (by omega)
    have e2 : (sgL neg ++ ((c :: m) ++ zs e.toNat)).length = (sgL neg).length + (c :: (m ++ zs e.toNat)).length := by simp
    rw [e2]
    refine parse_of g1 g2 w1 (by simp) f1 x1 ?_
    simpa using r1
  · by_cases k2 : 1 ≤ (c :: m).length + e ∧ (c :: m).length + e < (c :: m).length
    · rw [textU_2 k1 k2.1 k2.2]
      obtain ⟨p, hp⟩ : ∃ p : Nat, ((c :: m).length + e).toNat = p + 1 := ⟨((c :: m).length + e).toNat - 1, by omega⟩
      rw [hp, List.take_succ_cons, List.drop_succ_cons]
      obtain ⟨g1, g2, g3⟩ := sg_of neg (c := c) (r := m.take p ++ 46 :: (m.drop p ++ 32 :: b)) hc0
      have ex : sgL neg ++ (c :: m.take p ++ [46] ++ m.drop p ++ 32 :: b) = sgL neg ++ c :: (m.take p ++ 46 :: (m.drop p ++ 32 :: b)) := by simp
      rw [ex]
      generalize sgL neg ++ c :: (m.take p ++ 46 :: (m.drop p ++ 32 :: b)) = x at *
      have hd1 : ∀ b ∈ c :: m.take p, isD b = true := fun b hb => hd b (by
        rcases List.mem_cons.1 hb with rfl | hb
        · simp
        · exact List.mem_cons_of_mem _ (List.mem_of_mem_take hb))
      have hd2 : ∀ b ∈ m.drop p, isD b = true := fun b hb => hd b (List.mem_cons_of_mem _ (List.mem_of_mem_drop hb))
      have hlm : p < m.length := by simp only [List.length_cons] at k2 hp; omega
      have hne : ¬ m.drop p = [] := fun h => by
        have := congrArg List.length h
        simp at this
        omega
      have g3 : x.drop (sgL neg).length = c :: m.take p ++ 46 :: (m.drop p ++ 32 :: b) := by rw [g3]; simp
      have w1 := whN_dig g3 hc hd1 (by decide)
      have d2 := drop_app g3
      have f1 := frN_some d2 hd2 space_no hne
      have d3 : x.drop ((sgL neg).length + (c :: m.take p).length + 1 + (m.drop p).length) = 32 :: b := drop_app (drop_app (ds := [46]) d2)
      have x1 := exN_none (pw := powP) d3 (by decide) (by decide)
      have r1 := hr 0 0 (0 - ((m.drop p).length : Int)) (by simp only [List.length_drop, List.length_cons] at *; omega)
      have e2 : (sgL neg ++ (c :: m.take p ++ [46] ++ m.drop p)).length = (sgL neg).length + (c :: m.take p).length + 1 + (m.drop p).length := by
        simp only [List.length_append, List.length_cons, List.length_nil]
        omega
      rw [e2]
      refine parse_of g1 g2 w1 (by simp) f1 x1 ?_
      have e3 : c :: m.take p ++ m.drop p = zs 0 ++ ((c :: m) ++ zs 0) := by simp
      rw [e3]
      exact r1
    · by_cases k3 : -6 ≤ (c :: m).length + e ∧ (c :: m).length + e ≤ 0
      · rw [textU_3 k1 k3.1 k3.2]
        generalize hz : (-((c :: m).length + e)).toNat = z
        obtain ⟨g1, g2, g3⟩ := sg_of neg (c := 48) (r := 46 :: ((zs z ++ (c :: m)) ++ 32 :: b)) (by decide)
        have ex : sgL neg ++ ([48, 46] ++ zs z ++ (c :: m) ++ 32 :: b) = sgL neg ++ 48 :: 46 :: ((zs z ++ (c :: m)) ++ 32 :: b) := by simp
        rw [ex]
        generalize sgL neg ++ 48 :: 46 :: ((zs z ++ (c :: m)) ++ 32 :: b) = x at *
        have hd1 : ∀ b ∈ zs z ++ (c :: m), isD b = true := fun b hb => by
          rcases List.mem_append.1 hb with hb | hb
          · rw [List.eq_of_mem_replicate hb]
            rfl
          · exact hd b hb
        have w1 := whN_zero g3
        have d2 : x.drop ((sgL neg).length + 1) = 46 :: ((zs z ++ (c :: m)) ++ 32 :: b) := drop_app (ds := [48]) g3
        have f1 := frN_some d2 hd1 space_no (by simp)
        have d3 : x.drop ((sgL neg).length + 1 + 1 + (zs z ++ (c :: m)).length) = 32 :: b := drop_app (drop_app (ds := [46]) d2)
        have x1 := exN_none (pw := powP) d3 (by decide) (by decide)
        have r1 := hr (z + 1) 0 (0 - ((zs z ++ (c :: m)).length : Int)) (by simp only [List.length_append, List.length_replicate]; omega)
        have e2 : (sgL neg ++ ([48, 46] ++ zs z ++ (c :: m))).length = (sgL neg).length + 1 + 1 + (zs z ++ (c :: m)).length := by
          simp only [List.length_append, List.length_cons, List.length_nil]
          omega
        rw [e2]
        refine parse_of g1 g2 w1 (by simp) f1 x1 ?_
        have e3 : [48] ++ (zs z ++ (c :: m)) = zs (z + 1) ++ ((c :: m) ++ zs 0) := by simp [List.replicate_succ]
        rw [e3]
        exact r1
      · rw [textU_4 k1 k2 k3]
        have q0 : -1000000 ≤ ((c :: m).length : Int) + e - 1 := by omega
        have q1 : ((c :: m).length : Int) + e - 1 ≤ 1000000 := by omega
        have hI : ((c :: m).length : Int) + e - 1 - m.length = e := by simp only [List.length_cons]; omega
        generalize ((c :: m).length : Int) + e - 1 = k at *
        match m with
        | [] =>
          have ex : sgL neg ++ ([c].take 1 ++ (if 1 < [c].length then [46] ++ [c].drop 1 else []) ++ [101] ++ Lib.itoa k ++ 32 :: b) = sgL neg ++ c :: 101 :: (Lib.itoa k ++ 32 :: b) := by simp
          obtain ⟨g1, g2, g3⟩ := sg_of neg (c := c) (r := 101 :: (Lib.itoa k ++ 32 :: b)) hc0
          rw [ex]
          generalize sgL neg ++ c :: 101 :: (Lib.itoa k ++ 32 :: b) = x at *
          have w1 := whN_dig (ds := []) g3 hc hd (by decide)
          have d2 : x.drop ((sgL neg).length + [c].length) = 101 :: (Lib.itoa k ++ 32 :: b) := drop_app (ds := [c]) g3
          have f1 := frN_none d2 (by decide)
          have x1 := exN_some d2 space_no q0 q1
          have r1 := hr 0 0 (k - 0) (by simp at hI ⊢; omega)
          have e2 : (sgL neg ++ ([c].take 1 ++ (if 1 < [c].length then [46] ++ [c].drop 1 else []) ++ [101] ++ Lib.itoa k)).length = (sgL neg).length + [c].length + 1 + (Lib.itoa k).length := by
            simp
            omega
          rw [e2]
          refine parse_of g1 g2 w1 (by simp) f1 x1 ?_
          simpa using r1
        | d :: m =>
          have hdd := isD_nat (hd d (by simp))
          have ex : sgL neg ++ ((c :: d :: m).take 1 ++ (if 1 < (c :: d :: m).length then [46] ++ (c :: d :: m).drop 1 else []) ++ [101] ++ Lib.itoa k ++ 32 :: b) = sgL neg ++ c :: 46 :: ((d :: m) ++ 101 :: (Lib.itoa k ++ 32 :: b)) := by simp
          obtain ⟨g1, g2, g3⟩ := sg_of neg (c := c) (r := 46 :: ((d :: m) ++ 101 :: (Lib.itoa k ++ 32 :: b))) hc0
          rw [ex]
          generalize sgL neg ++ c :: 46 :: ((d :: m) ++ 101 :: (Lib.itoa k ++ 32 :: b)) = x at *
          have hd1 : ∀ b ∈ d :: m, isD b = true := fun b hb => hd b (List.mem_cons_of_mem _ hb)
          have w1 := whN_dig (ds := []) g3 hc (fun b hb => hd b (by rw [List.mem_singleton.1 hb]; simp)) (by decide)
          have d2 : x.drop ((sgL neg).length + [c].length) = 46 :: ((d :: m) ++ 101 :: (Lib.itoa k ++ 32 :: b)) := drop_app (ds := [c]) g3
          have f1 := frN_some d2 hd1 (by decide) (by simp)
          have d3 : x.drop ((sgL neg).length + [c].length + 1 + (d :: m).length) = 101 :: (Lib.itoa k ++ 32 :: b) := drop_app (drop_app (ds := [46]) d2)
          have x1 := exN_some d3 space_no q0 q1
          have r1 := hr 0 0 (k - ((d :: m).length : Int)) (by omega)
          have e2 : (sgL neg ++ ((c :: d :: m).take 1 ++ (if 1 < (c :: d :: m).length then [46] ++ (c :: d :: m).drop 1 else []) ++ [101] ++ Lib.itoa k)).length = (sgL neg).length + [c].length + 1 + (d :: m).length + 1 + (Lib.itoa k).length := by
            simp
            omega
          rw [e2]
          refine parse_of g1 g2 w1 (by simp) f1 x1 ?_
          have e3 : [c] ++ (d :: m) = zs 0 ++ ((c :: d :: m) ++ zs 0) := by simp
          rw [e3]
          exact r1

theorem text_parse (neg : Bool) (s : List UInt8) (e : Int) (h : RightP neg s e) (b : List UInt8) : parseG powP (textF neg s e ++ 32 :: b) = ((neg, s, e), (textF neg s e).length, 0) := by
  unfold textF
  rw [if_neg (fun h2 => h2 h)]
  by_cases h0 : s.length = 0
  · rw [if_pos h0]
    obtain ⟨rfl, rfl⟩ := (right_nil h0).1 h
    obtain rfl := len_nil h0
    have d0 : ([48] ++ 32 :: b).drop 0 = 48 :: 32 :: b := rfl
    have w1 := whN_zero d0
    have d1 : ([48] ++ 32 :: b).drop (0 + 1) = 32 :: b := rfl
    exact parse_of (neg := false) (by unfold sg0; rw [if_neg (by rw [sat_of d0]; decide)]) (decide_eq_false (by rw [sat_of d0]; decide)) w1 (by simp) (frN_none d1 (by decide)) (exN_none d1 (by decide) (by decide)) (norm_zero false _)
  · rw [if_neg h0, List.append_assoc]
    exact textU_parse neg s e h h0 b

end Go.Proofs.YtbegohehjkjnmaaGreatDoor.Flow

namespace Go.Proofs.YtbegohehjkjnmaaGreatDoor.Flow
open Go

mutual
def textJ : J → List UInt8
  | .mk k y n d e t l ks => if k = 0 then nullW else if k = 1 then (if y = true then trueW else falseW) else if k = 2 then textF n d e else if k = 3 then quoteL t
    else if k = 4 then [91] ++ partsT false true l ks ++ [93] else [123] ++ partsT (decide (k = 5)) true l ks ++ [125]
def partsT (mp : Bool) : Bool → List J → List (List UInt8) → List UInt8
  | _, [], _ => []
  | first, x :: r, ks => aheadT mp first ks ++ textJ x ++ partsT mp false r ks.tail
end

theorem ends_32 : endsNum 32 := by decide
theorem text_back (neg : Bool) (s : List UInt8) (e : Int) (h : RightP neg s e) (b : List UInt8) (hb : b = [] ∨ ∃ a r, b = a :: r ∧ endsNum a) : parseG powP (textF neg s e ++ b) = ((neg, s, e), (textF neg s e).length, 0) := by
  have h1 := text_parse neg s e h []
  rw [parse_del ends_32] at h1
  rcases hb with rfl | ⟨a, r, rfl, ha⟩
  · rw [List.append_nil]
    exact h1
  · rw [parse_del ha]
    exact h1

end Go.Proofs.YtbegohehjkjnmaaGreatDoor.Flow

namespace Go.Proofs.YtbegohehjkjnmaaGreatDoor.Flow
open Go

theorem parse_first {pw : List UInt8 → Int} {s : List UInt8} (h : (parseG pw s).2.2 = 0) : ∃ c r, s = c :: r ∧ (c = 45 ∨ isD c = true) := by
  by_cases h45 : sat s 0 45
  · match s, h45 with
    | c :: r, h45 => exact ⟨c, r, rfl, .inl (by
        have : ((c.toNat : Nat) : Int) = 45 := h45.2
        exact UInt8.toNat_inj.1 (by show c.toNat = 45; omega))⟩
    | [], h45 => exact absurd h45.1 (Nat.lt_irrefl _)
  · have e0 : sg0 s = 0 := if_neg h45
    have hw : ¬ (whN s 0).1 = [] := fun q => by
      unfold parseG at h
      rw [e0, if_pos q] at h
      cases h
    match s, hw with
    | [], hw => exact absurd rfl hw
    | c :: r, hw =>
      refine ⟨c, r, rfl, .inr ?_⟩
      cases hc : isD c with
      | true => rfl
      | false =>
        exfalso
        apply hw
        unfold whN
        rw [if_neg (fun q => isD_48 hc q.2)]
        show dgT (c :: r) 0 = []
        unfold dgT
        rw [List.drop_zero, List.takeWhile_cons, hc]
        rfl
theorem num_first {neg : Bool} {s : List UInt8} {e : Int} (h : RightP neg s e) : ∃ c r, textF neg s e = c :: r ∧ (c = 45 ∨ isD c = true) := by
  have := text_back neg s e h [] (.inl rfl)
  rw [List.append_nil] at this
  exact parse_first (by rw [this])
def begins (c : UInt8) : Prop := c = 110 ∨ c = 116 ∨ c = 102 ∨ c = 34 ∨ c = 91 ∨ c = 123 ∨ c = 45 ∨ isD c = true
theorem begins_no {c : UInt8} (h : begins c) : blkB c = false ∧ ¬ (c.toNat : Int) = 93 ∧ ¬ (c.toNat : Int) = 125 := by
  rcases h with rfl | rfl | rfl | rfl | rfl | rfl | rfl | h
  · decide
  · decide
  · decide
  · decide
  · decide
  · decide
  · decide
  · have := isD_iff.1 h
    refine ⟨decide_eq_false fun q => ?_, by omega, by omega⟩
    rcases q with rfl | rfl | rfl | rfl <;> revert h <;> decide
theorem rightB_P {neg : Bool} {s : List UInt8} {e : Int} (h : rightB neg s e = true) : RightP neg s e := of_decide_eq_true h
theorem text_first {d : Nat} {x : J} (h : rightJ d x = true) : ∃ c r, textJ x = c :: r ∧ begins c := by
  cases d with
  | zero => cases h
  | succ d =>
    obtain ⟨k, y, n, dg, e, t, l, ks⟩ := x
    rw [right_mk] at h
    rw [textJ]
    by_cases k0 : k = 0
    · subst k0
      exact ⟨110, [117, 108, 108], rfl, .inl rfl⟩
    rw [if_neg k0]
    by_cases k1 : k = 1
    · subst k1
      rw [if_pos rfl]
      cases y with
      | true => exact ⟨116, [114, 117, 101], rfl, .inr (.inl rfl)⟩
      | false => exact ⟨102, [97, 108, 115, 101], rfl, .inr (.inr (.inl rfl))⟩
    rw [if_neg k1]
    rw [if_neg (fun q => q.elim k0 k1)] at h
    by_cases k2 : k = 2
    · subst k2
      rw [if_pos rfl] at h ⊢
      obtain ⟨c, r, h1, h2⟩ := num_first (rightB_P h)
      exact ⟨c, r, h1, h2.elim (fun q => by rw [q]; exact .inr (.inr (.inr (.inr (.inr (.inr (.inl rfl))))))) fun q => .inr (.inr (.inr (.inr (.inr (.inr (.inr q))))))⟩
    rw [if_neg k2] at h ⊢
    by_cases k3 : k = 3
    · subst k3
      rw [if_pos rfl] at h ⊢
      obtain ⟨r, h1⟩ := quote_first h
      exact ⟨34, r, h1, .inr (.inr (.inr (.inl rfl)))⟩
    rw [if_neg k3]
    by_cases k4 : k = 4
    · subst k4
      exact ⟨91, _, rfl, .inr (.inr (.inr (.inr (.inl rfl))))⟩
    rw [if_neg k4]
    exact ⟨123, _, rfl, .inr (.inr (.inr (.inr (.inr (.inl rfl)))))⟩

theorem parts_false (mp : Bool) (x : J) (l : List J) (ks : List (List UInt8)) : partsT mp false (x :: l) ks = 44 :: partsT mp true (x :: l) ks := by
  rw [partsT, partsT, ahead_len]
  rfl

def Back (d : Nat) : Prop := ∀ x, rightJ d x = true → ∀ s i b, s.drop i = textJ x ++ b → (b = [] ∨ ∃ a r, b = a :: r ∧ endsNum a) → ∃ y, jval s d i = .inl (y, i + (textJ x).length) ∧ sameJ x y = true

theorem go_back {d : Nat} (ih : Back d) (mp : Bool) : ∀ (l : List J) (x : J) (ks kacc : List (List UInt8)) (acc : List J) (s : List UInt8) (i : Nat) (b : List UInt8), s.drop i = partsT mp true (x :: l) ks ++ endU mp :: b → (∀ y ∈ x :: l, rightJ d y = true) →
    (mp = true → ks.length = l.length + 1 ∧ (kacc ++ ks).Nodup ∧ ∀ k ∈ ks, validL k = true) →
    ∃ l', l'.length = l.length + 1 ∧ sameL (x :: l) l' = true ∧ jgo s (jval s d) mp i acc kacc = .inl (manyV mp (acc ++ l') (if mp = true then kacc ++ ks else kacc), i + (partsT mp true (x :: l) ks).length + 1) := by
  intro l
  induction l with
  | nil =>
    intro x ks kacc acc s i b h hr hk
    rw [partsT, partsT, List.append_nil] at h ⊢
    have hne : ∃ c r, s.drop i = c :: r := by
      obtain ⟨c, r, h1, _⟩ := text_first (hr x (by simp))
      rw [h, h1]
      cases ha : aheadT mp true ks with
      | nil => exact ⟨_, _, rfl⟩
      | cons c r => exact ⟨_, _, rfl⟩
    obtain ⟨c0, r0, h0⟩ := hne
    have hi := drop_le h0
    rw [List.append_assoc] at h
    have k1 := keys_back (kacc := kacc) h (fun q => by
      obtain ⟨q1, q2, q3⟩ := hk q
      match ks, q1 with
      | k :: kr, _ => exact ⟨k, kr, rfl, fun q => (List.nodup_append.1 q2).2.2 k q k (by simp) rfl, q3 k (by simp)⟩)
    have d1 := jd_app h
    obtain ⟨y, v1, sm⟩ := ih x (hr x (by simp)) s _ _ d1 (.inr ⟨_, _, rfl, (endU_ends mp).1⟩)
    have d2 := jd_app d1
    have p2 := peek_of d2 (endU_ends mp).2.1
    have a2 := jd_at d2
    rw [(endU_ends mp).2.2] at a2
    refine ⟨[y], rfl, by rw [sameL, sm, sameL]; rfl, ?_⟩
    rw [jgo_eq (jval_ok s d) hi, k1]
    dsimp only
    rw [v1]
    dsimp only
    rw [p2]
    dsimp only
    rw [if_pos a2]
    refine congrArg Sum.inl (Prod.ext ?_ ?_)
    · dsimp only
      cases mp with
      | false => rfl
      | true =>
        obtain ⟨q1, _⟩ := hk rfl
        match ks, q1 with
        | [k], _ => rfl
    · dsimp only
      rw [List.length_append]
      omega
  | cons x2 l il =>
    intro x ks kacc acc s i b h hr hk
    rw [partsT, parts_false] at h ⊢
    have hne : ∃ c r, s.drop i = c :: r := by
      obtain ⟨c, r, h1, _⟩ := text_first (hr x (by simp))
      rw [h, h1]
      cases ha : aheadT mp true ks with
      | nil => exact ⟨_, _, rfl⟩
      | cons c r => exact ⟨_, _, rfl⟩
    obtain ⟨c0, r0, h0⟩ := hne
    have hi := drop_le h0
    rw [List.append_assoc, List.append_assoc] at h
    have k1 := keys_back (kacc := kacc) h (fun q => by
      obtain ⟨q1, q2, q3⟩ := hk q
      match ks, q1 with
      | k :: kr, _ => exact ⟨k, kr, rfl, fun q => (List.nodup_append.1 q2).2.2 k q k (by simp) rfl, q3 k (by simp)⟩)
    have d1 := jd_app h
    obtain ⟨y, v1, sm⟩ := ih x (hr x (by simp)) s _ _ d1 (.inr ⟨44, _, rfl, by decide⟩)
    have d2 := jd_app d1
    have p2 := peek_of d2 (by decide)
    have a2 : at' s ((i + (aheadT mp true ks).length + (textJ x).length : Nat) : Int) = 44 := jd_at d2
    have d3 : s.drop (i + (aheadT mp true ks).length + (textJ x).length + 1) = partsT mp true (x2 :: l) ks.tail ++ endU mp :: b := jd_app (ds := [44]) d2
    obtain ⟨l', q1, q2, q3⟩ := il x2 ks.tail (if mp = true then kacc ++ [ks.headD []] else kacc) (acc ++ [y]) s _ b d3 (fun z hz => hr z (List.mem_cons_of_mem _ hz)) (fun q => by
      obtain ⟨q1, q2, q3⟩ := hk q
      match ks, q1, q2, q3 with
      | k :: kr, q1, q2, q3 =>
        refine ⟨by simpa using q1, ?_, fun z hz => q3 z (List.mem_cons_of_mem _ hz)⟩
        rw [if_pos q]
        show ((kacc ++ [k]) ++ kr).Nodup
        rw [List.append_assoc]
        exact q2)
    refine ⟨y :: l', by rw [List.length_cons, q1]; rfl, by rw [sameL, sm, q2]; rfl, ?_⟩
    rw [jgo_eq (jval_ok s d) hi, k1]
    dsimp only
    rw [v1]
    dsimp only
    rw [p2]
    dsimp only
    have ne : ¬ at' s ((i + (aheadT mp true ks).length + (textJ x).length : Nat) : Int) = endM mp := by
      rw [a2]
      cases mp <;> decide
    rw [if_neg ne, if_pos a2]
    rw [q3]
    refine congrArg Sum.inl (Prod.ext ?_ ?_)
    · dsimp only
      rw [List.append_assoc]
      cases mp with
      | false => rfl
      | true =>
        obtain ⟨q1, _⟩ := hk rfl
        match ks, q1 with
        | k :: kr, _ =>
          show manyV true _ ((kacc ++ [k]) ++ kr) = manyV true _ (kacc ++ (k :: kr))
          rw [List.append_assoc]
          rfl
    · dsimp only
      simp only [List.length_append, List.length_cons]
      omega

theorem back : ∀ d, Back d := by
  intro d
  induction d with
  | zero => intro x h; cases h
  | succ d ih =>
    intro x h s i b hs hb
    obtain ⟨c, r, h1, h2⟩ := text_first h
    have hc : s.drop i = c :: (r ++ b) := by rw [hs, h1]; rfl
    have p0 := peek_of hc (begins_no h2).1
    have a0 := jd_at hc
    obtain ⟨k, y, n, dg, e, t, l, ks⟩ := x
    rw [right_mk] at h
    rw [jval, p0]
    dsimp only
    rw [textJ] at hs h1 ⊢
    by_cases k0 : k = 0
    · subst k0
      rw [if_pos rfl] at hs h1 ⊢
      obtain rfl : c = 110 := (List.cons.inj h1).1.symm
      rw [if_pos (show at' s (i : Int) = 110 from a0), word_of hs]
      exact ⟨_, rfl, by rw [j0, sameJ]; simp⟩
    rw [if_neg k0] at hs h1 ⊢
    by_cases k1 : k = 1
    · subst k1
      rw [if_pos rfl] at hs h1 ⊢
      cases y with
      | true =>
        rw [if_pos rfl] at hs h1 ⊢
        obtain rfl : c = 116 := (List.cons.inj h1).1.symm
        rw [if_neg (show ¬ at' s (i : Int) = 110 by rw [a0]; decide), if_pos (show at' s (i : Int) = 116 from a0), word_of hs]
        exact ⟨_, rfl, by rw [sameJ]; simp⟩
      | false =>
        rw [if_neg Bool.false_ne_true] at hs h1 ⊢
        obtain rfl : c = 102 := (List.cons.inj h1).1.symm
        rw [if_neg (show ¬ at' s (i : Int) = 110 by rw [a0]; decide), if_neg (show ¬ at' s (i : Int) = 116 by rw [a0]; decide), if_pos (show at' s (i : Int) = 102 from a0), word_of hs]
        exact ⟨_, rfl, by rw [sameJ]; simp⟩
    rw [if_neg k1] at hs h1 ⊢
    rw [if_neg (fun q => q.elim k0 k1)] at h
    by_cases k2 : k = 2
    · subst k2
      rw [if_pos rfl] at h hs h1 ⊢
      have hR := rightB_P h
      obtain ⟨c', r', h3, h4⟩ := num_first hR
      rw [h3] at h1
      obtain rfl : c' = c := (List.cons.inj h1).1
      have hn : (c'.toNat : Int) = 45 ∨ 48 ≤ (c'.toNat : Int) ∧ (c'.toNat : Int) ≤ 57 := by
        rcases h4 with rfl | h4
        · exact .inl rfl
        · exact .inr (isD_iff.1 h4)
      rw [if_neg (by rw [a0]; omega), if_neg (by rw [a0]; omega), if_neg (by rw [a0]; omega), if_neg (by rw [a0]; omega), if_neg (by rw [a0]; omega), if_neg (by rw [a0]; omega)]
      unfold jnum
      rw [hs, text_back n dg e hR b hb]
      dsimp only
      rw [if_pos rfl]
      exact ⟨_, rfl, by rw [jnumV, sameJ]; simp⟩
    rw [if_neg k2] at h hs h1 ⊢
    by_cases k3 : k = 3
    · subst k3
      rw [if_pos rfl] at h hs h1 ⊢
      obtain ⟨r', h3⟩ := quote_first h
      rw [h3] at h1
      obtain rfl : (34 : UInt8) = c := (List.cons.inj h1).1
      rw [if_neg (by rw [a0]; decide), if_neg (by rw [a0]; decide), if_neg (by rw [a0]; decide), if_pos (show at' s (i : Int) = 34 from a0), text_of h hs]
      exact ⟨_, rfl, by rw [sameJ]; simp⟩
    rw [if_neg k3] at h hs h1 ⊢
    by_cases k4 : k = 4
    · subst k4
      rw [if_pos rfl] at hs h1 ⊢
      rw [if_neg (by decide), if_pos rfl] at h
      obtain rfl : (91 : UInt8) = c := (List.cons.inj h1).1
      rw [if_neg (by rw [a0]; decide), if_neg (by rw [a0]; decide), if_neg (by rw [a0]; decide), if_neg (by rw [a0]; decide), if_pos (show at' s (i : Int) = 91 from a0)]
      have d1 : s.drop (i + 1) = partsT false true l ks ++ endU false :: b := jd_app (ds := [91]) (by rw [hs]; simp [endU])
      unfold jmany
      cases l with
      | nil =>
        have d1 : s.drop (i + 1) = endU false :: b := d1
        rw [peek_of d1 (endU_ends false).2.1]
        dsimp only
        rw [if_pos (show at' s ((i + 1 : Nat) : Int) = endM false from jd_at d1)]
        exact ⟨_, rfl, by rw [manyV, kindM, sameJ]; simp [sameL]⟩
      | cons x l =>
        obtain ⟨l', q1, q2, q3⟩ := go_back ih false l x ks [] [] s (i + 1) b d1 (fun y hy => List.all_eq_true.1 h y hy) (fun q => by cases q)
        obtain ⟨c1, r1, t1, t2⟩ := text_first (List.all_eq_true.1 h x (by simp))
        have d1' : s.drop (i + 1) = c1 :: (r1 ++ partsT false false l ks.tail ++ endU false :: b) := by
          rw [d1, partsT, t1]
          rfl
        rw [peek_of d1' (begins_no t2).1]
        dsimp only
        rw [if_neg (show ¬ at' s ((i + 1 : Nat) : Int) = endM false by rw [jd_at d1']; exact (begins_no t2).2.1), q3]
        refine ⟨_, congrArg Sum.inl (Prod.ext rfl ?_), ?_⟩
        · dsimp only
          simp only [List.length_append, List.length_cons, List.length_nil]
          omega
        · rw [manyV, kindM, List.nil_append, if_neg Bool.false_ne_true, sameJ]
          simp [q1, q2]
    rw [if_neg k4] at hs h1 ⊢
    by_cases k5 : k = 5
    · subst k5
      rw [if_pos rfl] at h
      rw [decide_eq_true rfl] at hs ⊢
      rw [Bool.and_eq_true, Bool.and_eq_true, decide_eq_true_eq] at h
      obtain ⟨⟨hk, hkl⟩, h⟩ := h
      obtain rfl : (123 : UInt8) = c := (List.cons.inj h1).1
      rw [if_neg (by rw [a0]; decide), if_neg (by rw [a0]; decide), if_neg (by rw [a0]; decide), if_neg (by rw [a0]; decide), if_neg (by rw [a0]; decide), if_pos (show at' s (i : Int) = 123 from a0)]
      have d1 : s.drop (i + 1) = partsT true true l ks ++ endU true :: b := jd_app (ds := [123]) (by rw [hs]; simp [endU])
      unfold jmany
      cases l with
      | nil =>
        have d1 : s.drop (i + 1) = endU true :: b := d1
        rw [peek_of d1 (endU_ends true).2.1]
        dsimp only
        rw [if_pos (show at' s ((i + 1 : Nat) : Int) = endM true from jd_at d1)]
        obtain rfl : ks = [] := List.length_eq_zero_iff.1 hkl
        exact ⟨_, rfl, by rw [manyV, kindM, sameJ]; simp [sameL]⟩
      | cons x l =>
        unfold keysOk at hk
        rw [Bool.and_eq_true, decide_eq_true_eq, List.all_eq_true] at hk
        obtain ⟨l', q1, q2, q3⟩ := go_back ih true l x ks [] [] s (i + 1) b d1 (fun y hy => List.all_eq_true.1 h y hy) (fun _ => ⟨hkl, hk.1, hk.2⟩)
        match ks, hkl, hk with
        | k :: kr, hkl, hk =>
        obtain ⟨r1, t1⟩ := quote_first (hk.2 k (by simp))
        have d1' : s.drop (i + 1) = 34 :: (r1 ++ [58] ++ textJ x ++ partsT true false l kr ++ endU true :: b) := by
          rw [d1, partsT]
          show (quoteL k ++ [58]) ++ textJ x ++ _ ++ _ = _
          rw [t1]
          simp
        rw [peek_of d1' (by decide)]
        dsimp only
        rw [if_neg (show ¬ at' s ((i + 1 : Nat) : Int) = endM true by rw [jd_at d1']; decide), q3]
        refine ⟨_, congrArg Sum.inl (Prod.ext rfl ?_), ?_⟩
        · dsimp only
          simp only [List.length_append, List.length_cons, List.length_nil]
          omega
        · rw [manyV, kindM, List.nil_append, if_pos rfl, if_pos rfl, List.nil_append, sameJ]
          simp [q1, q2]
    · rw [if_neg k5, if_neg k4] at h
      cases h

end Go.Proofs.YtbegohehjkjnmaaGreatDoor.Flow

namespace Go.Proofs.YtbegohehjkjnmaaGreatDoor.Flow
open Go

end Go.Proofs.YtbegohehjkjnmaaGreatDoor.Flow

namespace Go.Proofs.YtbegohehjkjnmaaGreatDoor.Flow
open Go

end Go.Proofs.YtbegohehjkjnmaaGreatDoor.Flow

namespace Go.Proofs.YtbegohehjkjnmaaGreatDoor.Flow
open Go

end Go.Proofs.YtbegohehjkjnmaaGreatDoor.Flow
