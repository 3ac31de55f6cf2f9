/- DEC: a decimal's text: the two functions. -/
import Derived.Test.YtenkmfahcmahkaaDoorDD10
namespace Go.Proofs.YtenkmfahcmahkaaDoor.Flow
open Go

theorem text_bad (neg : Bool) (s : List UInt8) (e : Int) (hs : s.length ≤ 1048576) (h : ¬ RightP neg s e) : Ctr Tryd.prog 35 [dcD neg s e] (.s []) := by
  have c1 := right_ctr neg s e (by omega)
  rw [rightB_not h] at c1
  refine r_fun Tryd.func35 rfl Tryd.ntmps35 Tryd.results35 rfl rfl fun X hL hX => ?_
  repeat' (first
    | with_reducible refine t_seq ?_ | with_reducible refine t_region ?_ | with_reducible refine c_nil ?_ | with_reducible refine n_then ?_
    | with_reducible refine t_ret ?_ | with_reducible refine t_skip ?_ | with_reducible refine t_exit ?_ | with_reducible refine t_block ?_
    | with_reducible refine n_block ?_ | with_reducible refine e_then ?_ | with_reducible refine x_then ?_ | with_reducible refine x_block ?_ | with_reducible refine t_draw ?_
    | refine r_val rfl rfl True.intro ?_ | refine r_gskip rfl rfl rfl ?_ | refine r_gskip2 rfl rfl rfl ?_ | refine r_gval rfl rfl rfl rfl True.intro ?_
    | refine t_true rfl ?_ | refine t_false rfl ?_
    | ((first | refine t_cond_d rfl (fun _ => ?_) (fun _ => ?_) | refine t_cond_i rfl (fun _ => ?_) (fun _ => ?_) | refine t_cond_j rfl (fun _ => ?_) (fun _ => ?_) | refine t_cond_s rfl (fun _ => ?_) (fun _ => ?_) | refine t_cond_n rfl (fun _ => ?_) (fun _ => ?_) | refine t_cond rfl (fun _ => ?_) (fun _ => ?_) | refine c_split_d rfl rfl (fun _ => ?_) (fun _ => ?_) | refine c_split_i rfl rfl (fun _ => ?_) (fun _ => ?_) | refine c_split_j rfl rfl (fun _ => ?_) (fun _ => ?_) | refine c_split_s rfl rfl (fun _ => ?_) (fun _ => ?_) | refine c_split_n rfl rfl (fun _ => ?_) (fun _ => ?_)) <;> try (first | contradiction | (exfalso; omega)))
    | refine r_val rfl rfl (by (first | omega | exact Nat.le_of_ble_eq_true rfl | (simp only [wrap_u8, IntKind.wrap_i64, IntKind.wrap_i32, wrap_u32', wrap_u64', InI]; (repeat' refine And.intro ?_ ?_) <;> omega) | ((repeat' refine And.intro ?_ ?_) <;> first | omega | rfl | exact Nat.le_refl _ | exact Nat.le_of_ble_eq_true rfl | exact bytesF_one _) | (simp_all; done) | (simp_all; omega))) ?_ | refine r_gval rfl rfl rfl rfl (by (first | omega | exact Nat.le_of_ble_eq_true rfl | (simp only [wrap_u8, IntKind.wrap_i64, IntKind.wrap_i32, wrap_u32', wrap_u64', InI]; (repeat' refine And.intro ?_ ?_) <;> omega) | ((repeat' refine And.intro ?_ ?_) <;> first | omega | rfl | exact Nat.le_refl _ | exact Nat.le_of_ble_eq_true rfl | exact bytesF_one _) | (simp_all; done) | (simp_all; omega))) ?_
    | refine r_obj rfl rfl (by (first | omega | exact Nat.le_of_ble_eq_true rfl | (simp only [wrap_u8, IntKind.wrap_i64, IntKind.wrap_i32, wrap_u32', wrap_u64', InI]; (repeat' refine And.intro ?_ ?_) <;> omega) | ((repeat' refine And.intro ?_ ?_) <;> first | omega | rfl | exact Nat.le_refl _ | exact Nat.le_of_ble_eq_true rfl | exact bytesF_one _) | (simp_all; done) | (simp_all; omega))) ?_ | refine r_sto rfl (by (first | omega | exact Nat.le_of_ble_eq_true rfl | (simp only [wrap_u8, IntKind.wrap_i64, IntKind.wrap_i32, wrap_u32', wrap_u64', InI]; (repeat' refine And.intro ?_ ?_) <;> omega) | ((repeat' refine And.intro ?_ ?_) <;> first | omega | rfl | exact Nat.le_refl _ | exact Nat.le_of_ble_eq_true rfl | exact bytesF_one _) | (simp_all; done) | (simp_all; omega))) ?_ | refine r_gobj rfl rfl rfl rfl (by (first | omega | exact Nat.le_of_ble_eq_true rfl | (simp only [wrap_u8, IntKind.wrap_i64, IntKind.wrap_i32, wrap_u32', wrap_u64', InI]; (repeat' refine And.intro ?_ ?_) <;> omega) | ((repeat' refine And.intro ?_ ?_) <;> first | omega | rfl | exact Nat.le_refl _ | exact Nat.le_of_ble_eq_true rfl | exact bytesF_one _) | (simp_all; done) | (simp_all; omega))) ?_
    | refine e_hit rfl ?_ | refine e_miss rfl ?_
    | refine ⟨by kernel_rfl, ?_⟩ | refine x_end rfl ?_ | refine r_call (f := 33) rfl rfl Tryd.call33 rfl c1 ?_ | ((with_reducible refine c_grd ?_); (fail_if_success (refine c_lit true rfl rfl rfl ?_)); (fail_if_success (refine c_lit false rfl rfl rfl ?_)); refine c_split rfl rfl (fun _ => ?_) (fun _ => ?_)))
  rfl
theorem rtext_bad (neg : Bool) (s : List UInt8) (e : Int) (hs : s.length ≤ 1048576) (h : ¬ RightP neg s e) : Ctr Tryd.prog 36 [dcD neg s e] (.s []) := by
  have c1 := rright_ctr neg s e (by omega)
  rw [rightB_not h] at c1
  refine r_fun Tryd.func36 rfl Tryd.ntmps36 Tryd.results36 rfl rfl fun X hL hX => ?_
  repeat' (first
    | with_reducible refine t_seq ?_ | with_reducible refine t_region ?_ | with_reducible refine c_nil ?_ | with_reducible refine n_then ?_
    | with_reducible refine t_ret ?_ | with_reducible refine t_skip ?_ | with_reducible refine t_exit ?_ | with_reducible refine t_block ?_
    | with_reducible refine n_block ?_ | with_reducible refine e_then ?_ | with_reducible refine x_then ?_ | with_reducible refine x_block ?_ | with_reducible refine t_draw ?_
    | refine r_val rfl rfl True.intro ?_ | refine r_gskip rfl rfl rfl ?_ | refine r_gskip2 rfl rfl rfl ?_ | refine r_gval rfl rfl rfl rfl True.intro ?_
    | refine t_true rfl ?_ | refine t_false rfl ?_
    | ((first | refine t_cond_d rfl (fun _ => ?_) (fun _ => ?_) | refine t_cond_i rfl (fun _ => ?_) (fun _ => ?_) | refine t_cond_j rfl (fun _ => ?_) (fun _ => ?_) | refine t_cond_s rfl (fun _ => ?_) (fun _ => ?_) | refine t_cond_n rfl (fun _ => ?_) (fun _ => ?_) | refine t_cond rfl (fun _ => ?_) (fun _ => ?_) | refine c_split_d rfl rfl (fun _ => ?_) (fun _ => ?_) | refine c_split_i rfl rfl (fun _ => ?_) (fun _ => ?_) | refine c_split_j rfl rfl (fun _ => ?_) (fun _ => ?_) | refine c_split_s rfl rfl (fun _ => ?_) (fun _ => ?_) | refine c_split_n rfl rfl (fun _ => ?_) (fun _ => ?_)) <;> try (first | contradiction | (exfalso; omega)))
    | refine r_val rfl rfl (by (first | omega | exact Nat.le_of_ble_eq_true rfl | (simp only [wrap_u8, IntKind.wrap_i64, IntKind.wrap_i32, wrap_u32', wrap_u64', InI]; (repeat' refine And.intro ?_ ?_) <;> omega) | ((repeat' refine And.intro ?_ ?_) <;> first | omega | rfl | exact Nat.le_refl _ | exact Nat.le_of_ble_eq_true rfl | exact bytesF_one _) | (simp_all; done) | (simp_all; omega))) ?_ | refine r_gval rfl rfl rfl rfl (by (first | omega | exact Nat.le_of_ble_eq_true rfl | (simp only [wrap_u8, IntKind.wrap_i64, IntKind.wrap_i32, wrap_u32', wrap_u64', InI]; (repeat' refine And.intro ?_ ?_) <;> omega) | ((repeat' refine And.intro ?_ ?_) <;> first | omega | rfl | exact Nat.le_refl _ | exact Nat.le_of_ble_eq_true rfl | exact bytesF_one _) | (simp_all; done) | (simp_all; omega))) ?_
    | refine r_obj rfl rfl (by (first | omega | exact Nat.le_of_ble_eq_true rfl | (simp only [wrap_u8, IntKind.wrap_i64, IntKind.wrap_i32, wrap_u32', wrap_u64', InI]; (repeat' refine And.intro ?_ ?_) <;> omega) | ((repeat' refine And.intro ?_ ?_) <;> first | omega | rfl | exact Nat.le_refl _ | exact Nat.le_of_ble_eq_true rfl | exact bytesF_one _) | (simp_all; done) | (simp_all; omega))) ?_ | refine r_sto rfl (by (first | omega | exact Nat.le_of_ble_eq_true rfl | (simp only [wrap_u8, IntKind.wrap_i64, IntKind.wrap_i32, wrap_u32', wrap_u64', InI]; (repeat' refine And.intro ?_ ?_) <;> omega) | ((repeat' refine And.intro ?_ ?_) <;> first | omega | rfl | exact Nat.le_refl _ | exact Nat.le_of_ble_eq_true rfl | exact bytesF_one _) | (simp_all; done) | (simp_all; omega))) ?_ | refine r_gobj rfl rfl rfl rfl (by (first | omega | exact Nat.le_of_ble_eq_true rfl | (simp only [wrap_u8, IntKind.wrap_i64, IntKind.wrap_i32, wrap_u32', wrap_u64', InI]; (repeat' refine And.intro ?_ ?_) <;> omega) | ((repeat' refine And.intro ?_ ?_) <;> first | omega | rfl | exact Nat.le_refl _ | exact Nat.le_of_ble_eq_true rfl | exact bytesF_one _) | (simp_all; done) | (simp_all; omega))) ?_
    | refine e_hit rfl ?_ | refine e_miss rfl ?_
    | refine ⟨by kernel_rfl, ?_⟩ | refine x_end rfl ?_ | refine r_call (f := 34) rfl rfl Tryd.call34 rfl c1 ?_ | ((with_reducible refine c_grd ?_); (fail_if_success (refine c_lit true rfl rfl rfl ?_)); (fail_if_success (refine c_lit false rfl rfl rfl ?_)); refine c_split rfl rfl (fun _ => ?_) (fun _ => ?_)))
  rfl

section
variable {s : List UInt8} {e : Int}
theorem textU_1 (h : 0 ≤ e) (h2 : s.length + e ≤ 21) : textU s e = s ++ zs e.toNat := if_pos ⟨h, h2⟩
theorem textU_2 (h : ¬ (0 ≤ e ∧ s.length + e ≤ 21)) (h2 : 1 ≤ s.length + e) (h3 : s.length + e < s.length) : textU s e = s.take (s.length + e).toNat ++ [46] ++ s.drop (s.length + e).toNat := by
  unfold textU
  rw [if_neg h, if_pos ⟨h2, h3⟩]
theorem textU_3 (h : ¬ (0 ≤ e ∧ s.length + e ≤ 21)) (h2 : -6 ≤ s.length + e) (h3 : s.length + e ≤ 0) : textU s e = [48, 46] ++ zs (-(s.length + e)).toNat ++ s := by
  unfold textU
  rw [if_neg h, if_neg (by omega), if_pos ⟨h2, h3⟩]
theorem textU_4 (h : ¬ (0 ≤ e ∧ s.length + e ≤ 21)) (h2 : ¬ (1 ≤ s.length + e ∧ s.length + e < s.length)) (h3 : ¬ (-6 ≤ s.length + e ∧ s.length + e ≤ 0)) : textU s e = s.take 1 ++ (if 1 < s.length then [46] ++ s.drop 1 else []) ++ [101] ++ Lib.itoa (s.length + e - 1) := by
  unfold textU
  rw [if_neg h, if_neg h2, if_neg h3]
end

set_option maxHeartbeats 2000000 in
theorem text_ok (neg : Bool) (s : List UInt8) (e : Int) (h : RightP neg s e) (h0 : ¬ s.length = 0) : Ctr Tryd.prog 35 [dcD neg s e] (.s ((if neg = true then [45] else []) ++ textU s e)) := by
  obtain ⟨b1, b2, b3, b4⟩ := h.bounds
  have c1 := right_ctr neg s e (by omega)
  rw [rightB_iff.2 h] at c1
  have c2 := fun h => rep_ctr e h (by omega)
  have c3 := fun h => rep_ctr (-(s.length + e)) h (by omega)
  have c4 := itoa_ctr (s.length + e - 1) (by omega) (by omega)
  have l4 := itoa_len (s.length + e - 1) (by omega) (by omega)
  have u1 := fun h h2 => textU_1 (s := s) (e := e) h h2
  have u2 := fun h h2 h3 => textU_2 (s := s) (e := e) h h2 h3
  have u3 := fun h h2 h3 => textU_3 (s := s) (e := e) h h2 h3
  have u4 := fun h h2 h3 => textU_4 (s := s) (e := e) h h2 h3
  have lz : ∀ n : Nat, (zs n).length = n := fun n => by simp
  generalize textU s e = U at *
  generalize Lib.itoa (s.length + e - 1) = I at *
  clear h
  refine r_fun Tryd.func35 rfl Tryd.ntmps35 Tryd.results35 rfl rfl fun X hL hX => ?_
  cases neg with
  | false =>
    repeat' (first
      | with_reducible refine t_seq ?_ | with_reducible refine t_region ?_ | with_reducible refine c_nil ?_ | with_reducible refine n_then ?_
      | with_reducible refine t_ret ?_ | with_reducible refine t_skip ?_ | with_reducible refine t_exit ?_ | with_reducible refine t_block ?_
      | with_reducible refine n_block ?_ | with_reducible refine e_then ?_ | with_reducible refine x_then ?_ | with_reducible refine x_block ?_ | with_reducible refine t_draw ?_
      | refine r_val rfl rfl True.intro ?_ | refine r_gskip rfl rfl rfl ?_ | refine r_gskip2 rfl rfl rfl ?_ | refine r_gval rfl rfl rfl rfl True.intro ?_
      | refine t_true rfl ?_ | refine t_false rfl ?_
      | ((first | refine t_cond_d rfl (fun _ => ?_) (fun _ => ?_) | refine t_cond_i rfl (fun _ => ?_) (fun _ => ?_) | refine t_cond_j rfl (fun _ => ?_) (fun _ => ?_) | refine t_cond_s rfl (fun _ => ?_) (fun _ => ?_) | refine t_cond_n rfl (fun _ => ?_) (fun _ => ?_) | refine t_cond rfl (fun _ => ?_) (fun _ => ?_) | refine c_split_d rfl rfl (fun _ => ?_) (fun _ => ?_) | refine c_split_i rfl rfl (fun _ => ?_) (fun _ => ?_) | refine c_split_j rfl rfl (fun _ => ?_) (fun _ => ?_) | refine c_split_s rfl rfl (fun _ => ?_) (fun _ => ?_) | refine c_split_n rfl rfl (fun _ => ?_) (fun _ => ?_)) <;> try (first | (rename_i hz; exact Bool.noConfusion (show true = false from hz)) | (rename_i hz; exact Bool.noConfusion (show false = true from hz)) | (exfalso; omega)))
      | refine r_val rfl rfl (by (first | (simp only [List.length_append, List.length_drop, List.length_take, lz, Array.length_toList, List.size_toArray, List.length_cons, List.length_nil]; omega) | omega | exact Nat.le_of_ble_eq_true rfl | (simp only [wrap_u8, IntKind.wrap_i64, IntKind.wrap_i32, wrap_u32', wrap_u64', InI]; (repeat' refine And.intro ?_ ?_) <;> omega) | ((repeat' refine And.intro ?_ ?_) <;> first | omega | rfl | exact Nat.le_refl _ | exact Nat.le_of_ble_eq_true rfl | exact bytesF_one _) | (simp_all; done) | (simp_all; omega))) ?_ | refine r_gval rfl rfl rfl rfl (by (first | (simp only [List.length_append, List.length_drop, List.length_take, lz, Array.length_toList, List.size_toArray, List.length_cons, List.length_nil]; omega) | omega | exact Nat.le_of_ble_eq_true rfl | (simp only [wrap_u8, IntKind.wrap_i64, IntKind.wrap_i32, wrap_u32', wrap_u64', InI]; (repeat' refine And.intro ?_ ?_) <;> omega) | ((repeat' refine And.intro ?_ ?_) <;> first | omega | rfl | exact Nat.le_refl _ | exact Nat.le_of_ble_eq_true rfl | exact bytesF_one _) | (simp_all; done) | (simp_all; omega))) ?_
      | refine r_obj rfl rfl (by (first | (simp only [List.length_append, List.length_drop, List.length_take, lz, Array.length_toList, List.size_toArray, List.length_cons, List.length_nil]; omega) | omega | exact Nat.le_of_ble_eq_true rfl | (simp only [wrap_u8, IntKind.wrap_i64, IntKind.wrap_i32, wrap_u32', wrap_u64', InI]; (repeat' refine And.intro ?_ ?_) <;> omega) | ((repeat' refine And.intro ?_ ?_) <;> first | omega | rfl | exact Nat.le_refl _ | exact Nat.le_of_ble_eq_true rfl | exact bytesF_one _) | (simp_all; done) | (simp_all; omega))) ?_ | refine r_sto rfl (by (first | (simp only [List.length_append, List.length_drop, List.length_take, lz, Array.length_toList, List.size_toArray, List.length_cons, List.length_nil]; omega) | omega | exact Nat.le_of_ble_eq_true rfl | (simp only [wrap_u8, IntKind.wrap_i64, IntKind.wrap_i32, wrap_u32', wrap_u64', InI]; (repeat' refine And.intro ?_ ?_) <;> omega) | ((repeat' refine And.intro ?_ ?_) <;> first | omega | rfl | exact Nat.le_refl _ | exact Nat.le_of_ble_eq_true rfl | exact bytesF_one _) | (simp_all; done) | (simp_all; omega))) ?_ | refine r_gobj rfl rfl rfl rfl (by (first | (simp only [List.length_append, List.length_drop, List.length_take, lz, Array.length_toList, List.size_toArray, List.length_cons, List.length_nil]; omega) | omega | exact Nat.le_of_ble_eq_true rfl | (simp only [wrap_u8, IntKind.wrap_i64, IntKind.wrap_i32, wrap_u32', wrap_u64', InI]; (repeat' refine And.intro ?_ ?_) <;> omega) | ((repeat' refine And.intro ?_ ?_) <;> first | omega | rfl | exact Nat.le_refl _ | exact Nat.le_of_ble_eq_true rfl | exact bytesF_one _) | (simp_all; done) | (simp_all; omega))) ?_
      | refine e_hit rfl ?_ | refine e_miss rfl ?_
      | refine ⟨by kernel_rfl, ?_⟩ | refine x_end rfl ?_ | refine r_call (f := 33) rfl rfl Tryd.call33 rfl c1 ?_ | refine r_call (f := 59) rfl rfl Tryd.call59 rfl (c2 (by omega)) ?_ | refine r_call (f := 59) rfl rfl Tryd.call59 rfl (c3 (by omega)) ?_ | refine r_call (f := 62) rfl rfl Tryd.call62 rfl c4 ?_ | ((with_reducible refine c_grd ?_); (fail_if_success (refine c_lit true rfl rfl rfl ?_)); (fail_if_success (refine c_lit false rfl rfl rfl ?_)); refine c_split rfl rfl (fun _ => ?_) (fun _ => ?_)))
    · rw [u1 (by omega) (by omega)]
      exact congrArg D.s (by simp)
    · rw [u4 (by omega) (by omega) (by omega), if_pos (show 1 < s.length by omega)]
      exact congrArg D.s (by simp)
    · rw [u4 (by omega) (by omega) (by omega), if_neg (show ¬ 1 < s.length by omega)]
      exact congrArg D.s (by simp)
    · rw [u2 (by omega) (by omega) (by omega)]
      exact congrArg D.s (by simp)
    · rw [u3 (by omega) (by omega) (by omega)]
      exact congrArg D.s (by simp)
    · rw [u4 (by omega) (by omega) (by omega), if_pos (show 1 < s.length by omega)]
      exact congrArg D.s (by simp)
    · rw [u4 (by omega) (by omega) (by omega), if_neg (show ¬ 1 < s.length by omega)]
      exact congrArg D.s (by simp)
  | true =>
    repeat' (first
      | with_reducible refine t_seq ?_ | with_reducible refine t_region ?_ | with_reducible refine c_nil ?_ | with_reducible refine n_then ?_
      | with_reducible refine t_ret ?_ | with_reducible refine t_skip ?_ | with_reducible refine t_exit ?_ | with_reducible refine t_block ?_
      | with_reducible refine n_block ?_ | with_reducible refine e_then ?_ | with_reducible refine x_then ?_ | with_reducible refine x_block ?_ | with_reducible refine t_draw ?_
      | refine r_val rfl rfl True.intro ?_ | refine r_gskip rfl rfl rfl ?_ | refine r_gskip2 rfl rfl rfl ?_ | refine r_gval rfl rfl rfl rfl True.intro ?_
      | refine t_true rfl ?_ | refine t_false rfl ?_
      | ((first | refine t_cond_d rfl (fun _ => ?_) (fun _ => ?_) | refine t_cond_i rfl (fun _ => ?_) (fun _ => ?_) | refine t_cond_j rfl (fun _ => ?_) (fun _ => ?_) | refine t_cond_s rfl (fun _ => ?_) (fun _ => ?_) | refine t_cond_n rfl (fun _ => ?_) (fun _ => ?_) | refine t_cond rfl (fun _ => ?_) (fun _ => ?_) | refine c_split_d rfl rfl (fun _ => ?_) (fun _ => ?_) | refine c_split_i rfl rfl (fun _ => ?_) (fun _ => ?_) | refine c_split_j rfl rfl (fun _ => ?_) (fun _ => ?_) | refine c_split_s rfl rfl (fun _ => ?_) (fun _ => ?_) | refine c_split_n rfl rfl (fun _ => ?_) (fun _ => ?_)) <;> try (first | (rename_i hz; exact Bool.noConfusion (show true = false from hz)) | (rename_i hz; exact Bool.noConfusion (show false = true from hz)) | (exfalso; omega)))
      | refine r_val rfl rfl (by (first | (simp only [List.length_append, List.length_drop, List.length_take, lz, Array.length_toList, List.size_toArray, List.length_cons, List.length_nil]; omega) | omega | exact Nat.le_of_ble_eq_true rfl | (simp only [wrap_u8, IntKind.wrap_i64, IntKind.wrap_i32, wrap_u32', wrap_u64', InI]; (repeat' refine And.intro ?_ ?_) <;> omega) | ((repeat' refine And.intro ?_ ?_) <;> first | omega | rfl | exact Nat.le_refl _ | exact Nat.le_of_ble_eq_true rfl | exact bytesF_one _) | (simp_all; done) | (simp_all; omega))) ?_ | refine r_gval rfl rfl rfl rfl (by (first | (simp only [List.length_append, List.length_drop, List.length_take, lz, Array.length_toList, List.size_toArray, List.length_cons, List.length_nil]; omega) | omega | exact Nat.le_of_ble_eq_true rfl | (simp only [wrap_u8, IntKind.wrap_i64, IntKind.wrap_i32, wrap_u32', wrap_u64', InI]; (repeat' refine And.intro ?_ ?_) <;> omega) | ((repeat' refine And.intro ?_ ?_) <;> first | omega | rfl | exact Nat.le_refl _ | exact Nat.le_of_ble_eq_true rfl | exact bytesF_one _) | (simp_all; done) | (simp_all; omega))) ?_
      | refine r_obj rfl rfl (by (first | (simp only [List.length_append, List.length_drop, List.length_take, lz, Array.length_toList, List.size_toArray, List.length_cons, List.length_nil]; omega) | omega | exact Nat.le_of_ble_eq_true rfl | (simp only [wrap_u8, IntKind.wrap_i64, IntKind.wrap_i32, wrap_u32', wrap_u64', InI]; (repeat' refine And.intro ?_ ?_) <;> omega) | ((repeat' refine And.intro ?_ ?_) <;> first | omega | rfl | exact Nat.le_refl _ | exact Nat.le_of_ble_eq_true rfl | exact bytesF_one _) | (simp_all; done) | (simp_all; omega))) ?_ | refine r_sto rfl (by (first | (simp only [List.length_append, List.length_drop, List.length_take, lz, Array.length_toList, List.size_toArray, List.length_cons, List.length_nil]; omega) | omega | exact Nat.le_of_ble_eq_true rfl | (simp only [wrap_u8, IntKind.wrap_i64, IntKind.wrap_i32, wrap_u32', wrap_u64', InI]; (repeat' refine And.intro ?_ ?_) <;> omega) | ((repeat' refine And.intro ?_ ?_) <;> first | omega | rfl | exact Nat.le_refl _ | exact Nat.le_of_ble_eq_true rfl | exact bytesF_one _) | (simp_all; done) | (simp_all; omega))) ?_ | refine r_gobj rfl rfl rfl rfl (by (first | (simp only [List.length_append, List.length_drop, List.length_take, lz, Array.length_toList, List.size_toArray, List.length_cons, List.length_nil]; omega) | omega | exact Nat.le_of_ble_eq_true rfl | (simp only [wrap_u8, IntKind.wrap_i64, IntKind.wrap_i32, wrap_u32', wrap_u64', InI]; (repeat' refine And.intro ?_ ?_) <;> omega) | ((repeat' refine And.intro ?_ ?_) <;> first | omega | rfl | exact Nat.le_refl _ | exact Nat.le_of_ble_eq_true rfl | exact bytesF_one _) | (simp_all; done) | (simp_all; omega))) ?_
      | refine e_hit rfl ?_ | refine e_miss rfl ?_
      | refine ⟨by kernel_rfl, ?_⟩ | refine x_end rfl ?_ | refine r_call (f := 33) rfl rfl Tryd.call33 rfl c1 ?_ | refine r_call (f := 59) rfl rfl Tryd.call59 rfl (c2 (by omega)) ?_ | refine r_call (f := 59) rfl rfl Tryd.call59 rfl (c3 (by omega)) ?_ | refine r_call (f := 62) rfl rfl Tryd.call62 rfl c4 ?_ | ((with_reducible refine c_grd ?_); (fail_if_success (refine c_lit true rfl rfl rfl ?_)); (fail_if_success (refine c_lit false rfl rfl rfl ?_)); refine c_split rfl rfl (fun _ => ?_) (fun _ => ?_)))
    · rw [u1 (by omega) (by omega)]
      exact congrArg D.s (by simp)
    · rw [u4 (by omega) (by omega) (by omega), if_pos (show 1 < s.length by omega)]
      exact congrArg D.s (by simp)
    · rw [u4 (by omega) (by omega) (by omega), if_neg (show ¬ 1 < s.length by omega)]
      exact congrArg D.s (by simp)
    · rw [u2 (by omega) (by omega) (by omega)]
      exact congrArg D.s (by simp)
    · rw [u3 (by omega) (by omega) (by omega)]
      exact congrArg D.s (by simp)
    · rw [u4 (by omega) (by omega) (by omega), if_pos (show 1 < s.length by omega)]
      exact congrArg D.s (by simp)
    · rw [u4 (by omega) (by omega) (by omega), if_neg (show ¬ 1 < s.length by omega)]
      exact congrArg D.s (by simp)

set_option maxHeartbeats 2000000 in
theorem rtext_ok (neg : Bool) (s : List UInt8) (e : Int) (h : RightP neg s e) (h0 : ¬ s.length = 0) : Ctr Tryd.prog 36 [dcD neg s e] (.s ((if neg = true then [45] else []) ++ textU s e)) := by
  obtain ⟨b1, b2, b3, b4⟩ := h.bounds
  have c1 := rright_ctr neg s e (by omega)
  rw [rightB_iff.2 h] at c1
  have c2 := fun h => zeros_ctr e h (by omega)
  have c3 := fun h => zeros_ctr (-(s.length + e)) h (by omega)
  have c4 := rnum_ctr (s.length + e - 1) (by omega) (by omega)
  have l4 := itoa_len (s.length + e - 1) (by omega) (by omega)
  have u1 := fun h h2 => textU_1 (s := s) (e := e) h h2
  have u2 := fun h h2 h3 => textU_2 (s := s) (e := e) h h2 h3
  have u3 := fun h h2 h3 => textU_3 (s := s) (e := e) h h2 h3
  have u4 := fun h h2 h3 => textU_4 (s := s) (e := e) h h2 h3
  have lz : ∀ n : Nat, (zs n).length = n := fun n => by simp
  generalize textU s e = U at *
  generalize Lib.itoa (s.length + e - 1) = I at *
  clear h
  refine r_fun Tryd.func36 rfl Tryd.ntmps36 Tryd.results36 rfl rfl fun X hL hX => ?_
  cases neg with
  | false =>
    repeat' (first
      | with_reducible refine t_seq ?_ | with_reducible refine t_region ?_ | with_reducible refine c_nil ?_ | with_reducible refine n_then ?_
      | with_reducible refine t_ret ?_ | with_reducible refine t_skip ?_ | with_reducible refine t_exit ?_ | with_reducible refine t_block ?_
      | with_reducible refine n_block ?_ | with_reducible refine e_then ?_ | with_reducible refine x_then ?_ | with_reducible refine x_block ?_ | with_reducible refine t_draw ?_
      | refine r_val rfl rfl True.intro ?_ | refine r_gskip rfl rfl rfl ?_ | refine r_gskip2 rfl rfl rfl ?_ | refine r_gval rfl rfl rfl rfl True.intro ?_
      | refine t_true rfl ?_ | refine t_false rfl ?_
      | ((first | refine t_cond_d rfl (fun _ => ?_) (fun _ => ?_) | refine t_cond_i rfl (fun _ => ?_) (fun _ => ?_) | refine t_cond_j rfl (fun _ => ?_) (fun _ => ?_) | refine t_cond_s rfl (fun _ => ?_) (fun _ => ?_) | refine t_cond_n rfl (fun _ => ?_) (fun _ => ?_) | refine t_cond rfl (fun _ => ?_) (fun _ => ?_) | refine c_split_d rfl rfl (fun _ => ?_) (fun _ => ?_) | refine c_split_i rfl rfl (fun _ => ?_) (fun _ => ?_) | refine c_split_j rfl rfl (fun _ => ?_) (fun _ => ?_) | refine c_split_s rfl rfl (fun _ => ?_) (fun _ => ?_) | refine c_split_n rfl rfl (fun _ => ?_) (fun _ => ?_)) <;> try (first | (rename_i hz; exact Bool.noConfusion (show true = false from hz)) | (rename_i hz; exact Bool.noConfusion (show false = true from hz)) | (exfalso; omega)))
      | refine r_val rfl rfl (by (first | (simp only [List.length_append, List.length_drop, List.length_take, lz, Array.length_toList, List.size_toArray, List.length_cons, List.length_nil]; omega) | omega | exact Nat.le_of_ble_eq_true rfl | (simp only [wrap_u8, IntKind.wrap_i64, IntKind.wrap_i32, wrap_u32', wrap_u64', InI]; (repeat' refine And.intro ?_ ?_) <;> omega) | ((repeat' refine And.intro ?_ ?_) <;> first | omega | rfl | exact Nat.le_refl _ | exact Nat.le_of_ble_eq_true rfl | exact bytesF_one _) | (simp_all; done) | (simp_all; omega))) ?_ | refine r_gval rfl rfl rfl rfl (by (first | (simp only [List.length_append, List.length_drop, List.length_take, lz, Array.length_toList, List.size_toArray, List.length_cons, List.length_nil]; omega) | omega | exact Nat.le_of_ble_eq_true rfl | (simp only [wrap_u8, IntKind.wrap_i64, IntKind.wrap_i32, wrap_u32', wrap_u64', InI]; (repeat' refine And.intro ?_ ?_) <;> omega) | ((repeat' refine And.intro ?_ ?_) <;> first | omega | rfl | exact Nat.le_refl _ | exact Nat.le_of_ble_eq_true rfl | exact bytesF_one _) | (simp_all; done) | (simp_all; omega))) ?_
      | refine r_obj rfl rfl (by (first | (simp only [List.length_append, List.length_drop, List.length_take, lz, Array.length_toList, List.size_toArray, List.length_cons, List.length_nil]; omega) | omega | exact Nat.le_of_ble_eq_true rfl | (simp only [wrap_u8, IntKind.wrap_i64, IntKind.wrap_i32, wrap_u32', wrap_u64', InI]; (repeat' refine And.intro ?_ ?_) <;> omega) | ((repeat' refine And.intro ?_ ?_) <;> first | omega | rfl | exact Nat.le_refl _ | exact Nat.le_of_ble_eq_true rfl | exact bytesF_one _) | (simp_all; done) | (simp_all; omega))) ?_ | refine r_sto rfl (by (first | (simp only [List.length_append, List.length_drop, List.length_take, lz, Array.length_toList, List.size_toArray, List.length_cons, List.length_nil]; omega) | omega | exact Nat.le_of_ble_eq_true rfl | (simp only [wrap_u8, IntKind.wrap_i64, IntKind.wrap_i32, wrap_u32', wrap_u64', InI]; (repeat' refine And.intro ?_ ?_) <;> omega) | ((repeat' refine And.intro ?_ ?_) <;> first | omega | rfl | exact Nat.le_refl _ | exact Nat.le_of_ble_eq_true rfl | exact bytesF_one _) | (simp_all; done) | (simp_all; omega))) ?_ | refine r_gobj rfl rfl rfl rfl (by (first | (simp only [List.length_append, List.length_drop, List.length_take, lz, Array.length_toList, List.size_toArray, List.length_cons, List.length_nil]; omega) | omega | exact Nat.le_of_ble_eq_true rfl | (simp only [wrap_u8, IntKind.wrap_i64, IntKind.wrap_i32, wrap_u32', wrap_u64', InI]; (repeat' refine And.intro ?_ ?_) <;> omega) | ((repeat' refine And.intro ?_ ?_) <;> first | omega | rfl | exact Nat.le_refl _ | exact Nat.le_of_ble_eq_true rfl | exact bytesF_one _) | (simp_all; done) | (simp_all; omega))) ?_
      | refine e_hit rfl ?_ | refine e_miss rfl ?_
      | refine ⟨by kernel_rfl, ?_⟩ | refine x_end rfl ?_ | refine r_call (f := 34) rfl rfl Tryd.call34 rfl c1 ?_ | refine r_call (f := 63) rfl rfl Tryd.call63 rfl (c2 (by omega)) ?_ | refine r_call (f := 63) rfl rfl Tryd.call63 rfl (c3 (by omega)) ?_ | refine r_call (f := 64) rfl rfl Tryd.call64 rfl c4 ?_ | ((with_reducible refine c_grd ?_); (fail_if_success (refine c_lit true rfl rfl rfl ?_)); (fail_if_success (refine c_lit false rfl rfl rfl ?_)); refine c_split rfl rfl (fun _ => ?_) (fun _ => ?_)))
    · rw [u1 (by omega) (by omega)]
      exact congrArg D.s (by simp)
    · rw [u4 (by omega) (by omega) (by omega), if_neg (show ¬ 1 < s.length by omega), List.take_of_length_le (show s.length ≤ 1 by omega)]
      exact congrArg D.s (by simp)
    · rw [u4 (by omega) (by omega) (by omega), if_pos (show 1 < s.length by omega)]
      exact congrArg D.s (by simp)
    · rw [u2 (by omega) (by omega) (by omega)]
      exact congrArg D.s (by simp)
    · rw [u3 (by omega) (by omega) (by omega)]
      exact congrArg D.s (by simp)
    · rw [u4 (by omega) (by omega) (by omega), if_neg (show ¬ 1 < s.length by omega), List.take_of_length_le (show s.length ≤ 1 by omega)]
      exact congrArg D.s (by simp)
    · rw [u4 (by omega) (by omega) (by omega), if_pos (show 1 < s.length by omega)]
      exact congrArg D.s (by simp)
  | true =>
    repeat' (first
      | with_reducible refine t_seq ?_ | with_reducible refine t_region ?_ | with_reducible refine c_nil ?_ | with_reducible refine n_then ?_
      | with_reducible refine t_ret ?_ | with_reducible refine t_skip ?_ | with_reducible refine t_exit ?_ | with_reducible refine t_block ?_
      | with_reducible refine n_block ?_ | with_reducible refine e_then ?_ | with_reducible refine x_then ?_ | with_reducible refine x_block ?_ | with_reducible refine t_draw ?_
      | refine r_val rfl rfl True.intro ?_ | refine r_gskip rfl rfl rfl ?_ | refine r_gskip2 rfl rfl rfl ?_ | refine r_gval rfl rfl rfl rfl True.intro ?_
      | refine t_true rfl ?_ | refine t_false rfl ?_
      | ((first | refine t_cond_d rfl (fun _ => ?_) (fun _ => ?_) | refine t_cond_i rfl (fun _ => ?_) (fun _ => ?_) | refine t_cond_j rfl (fun _ => ?_) (fun _ => ?_) | refine t_cond_s rfl (fun _ => ?_) (fun _ => ?_) | refine t_cond_n rfl (fun _ => ?_) (fun _ => ?_) | refine t_cond rfl (fun _ => ?_) (fun _ => ?_) | refine c_split_d rfl rfl (fun _ => ?_) (fun _ => ?_) | refine c_split_i rfl rfl (fun _ => ?_) (fun _ => ?_) | refine c_split_j rfl rfl (fun _ => ?_) (fun _ => ?_) | refine c_split_s rfl rfl (fun _ => ?_) (fun _ => ?_) | refine c_split_n rfl rfl (fun _ => ?_) (fun _ => ?_)) <;> try (first | (rename_i hz; exact Bool.noConfusion (show true = false from hz)) | (rename_i hz; exact Bool.noConfusion (show false = true from hz)) | (exfalso; omega)))
      | refine r_val rfl rfl (by (first | (simp only [List.length_append, List.length_drop, List.length_take, lz, Array.length_toList, List.size_toArray, List.length_cons, List.length_nil]; omega) | omega | exact Nat.le_of_ble_eq_true rfl | (simp only [wrap_u8, IntKind.wrap_i64, IntKind.wrap_i32, wrap_u32', wrap_u64', InI]; (repeat' refine And.intro ?_ ?_) <;> omega) | ((repeat' refine And.intro ?_ ?_) <;> first | omega | rfl | exact Nat.le_refl _ | exact Nat.le_of_ble_eq_true rfl | exact bytesF_one _) | (simp_all; done) | (simp_all; omega))) ?_ | refine r_gval rfl rfl rfl rfl (by (first | (simp only [List.length_append, List.length_drop, List.length_take, lz, Array.length_toList, List.size_toArray, List.length_cons, List.length_nil]; omega) | omega | exact Nat.le_of_ble_eq_true rfl | (simp only [wrap_u8, IntKind.wrap_i64, IntKind.wrap_i32, wrap_u32', wrap_u64', InI]; (repeat' refine And.intro ?_ ?_) <;> omega) | ((repeat' refine And.intro ?_ ?_) <;> first | omega | rfl | exact Nat.le_refl _ | exact Nat.le_of_ble_eq_true rfl | exact bytesF_one _) | (simp_all; done) | (simp_all; omega))) ?_
      | refine r_obj rfl rfl (by (first | (simp only [List.length_append, List.length_drop, List.length_take, lz, Array.length_toList, List.size_toArray, List.length_cons, List.length_nil]; omega) | omega | exact Nat.le_of_ble_eq_true rfl | (simp only [wrap_u8, IntKind.wrap_i64, IntKind.wrap_i32, wrap_u32', wrap_u64', InI]; (repeat' refine And.intro ?_ ?_) <;> omega) | ((repeat' refine And.intro ?_ ?_) <;> first | omega | rfl | exact Nat.le_refl _ | exact Nat.le_of_ble_eq_true rfl | exact bytesF_one _) | (simp_all; done) | (simp_all; omega))) ?_ | refine r_sto rfl (by (first | (simp only [List.length_append, List.length_drop, List.length_take, lz, Array.length_toList, List.size_toArray, List.length_cons, List.length_nil]; omega) | omega | exact Nat.le_of_ble_eq_true rfl | (simp only [wrap_u8, IntKind.wrap_i64, IntKind.wrap_i32, wrap_u32', wrap_u64', InI]; (repeat' refine And.intro ?_ ?_) <;> omega) | ((repeat' refine And.intro ?_ ?_) <;> first | omega | rfl | exact Nat.le_refl _ | exact Nat.le_of_ble_eq_true rfl | exact bytesF_one _) | (simp_all; done) | (simp_all; omega))) ?_ | refine r_gobj rfl rfl rfl rfl (by (first | (simp only [List.length_append, List.length_drop, List.length_take, lz, Array.length_toList, List.size_toArray, List.length_cons, List.length_nil]; omega) | omega | exact Nat.le_of_ble_eq_true rfl | (simp only [wrap_u8, IntKind.wrap_i64, IntKind.wrap_i32, wrap_u32', wrap_u64', InI]; (repeat' refine And.intro ?_ ?_) <;> omega) | ((repeat' refine And.intro ?_ ?_) <;> first | omega | rfl | exact Nat.le_refl _ | exact Nat.le_of_ble_eq_true rfl | exact bytesF_one _) | (simp_all; done) | (simp_all; omega))) ?_
      | refine e_hit rfl ?_ | refine e_miss rfl ?_
      | refine ⟨by kernel_rfl, ?_⟩ | refine x_end rfl ?_ | refine r_call (f := 34) rfl rfl Tryd.call34 rfl c1 ?_ | refine r_call (f := 63) rfl rfl Tryd.call63 rfl (c2 (by omega)) ?_ | refine r_call (f := 63) rfl rfl Tryd.call63 rfl (c3 (by omega)) ?_ | refine r_call (f := 64) rfl rfl Tryd.call64 rfl c4 ?_ | ((with_reducible refine c_grd ?_); (fail_if_success (refine c_lit true rfl rfl rfl ?_)); (fail_if_success (refine c_lit false rfl rfl rfl ?_)); refine c_split rfl rfl (fun _ => ?_) (fun _ => ?_)))
    · rw [u1 (by omega) (by omega)]
      exact congrArg D.s (by simp)
    · rw [u4 (by omega) (by omega) (by omega), if_neg (show ¬ 1 < s.length by omega), List.take_of_length_le (show s.length ≤ 1 by omega)]
      exact congrArg D.s (by simp)
    · rw [u4 (by omega) (by omega) (by omega), if_pos (show 1 < s.length by omega)]
      exact congrArg D.s (by simp)
    · rw [u2 (by omega) (by omega) (by omega)]
      exact congrArg D.s (by simp)
    · rw [u3 (by omega) (by omega) (by omega)]
      exact congrArg D.s (by simp)
    · rw [u4 (by omega) (by omega) (by omega), if_neg (show ¬ 1 < s.length by omega), List.take_of_length_le (show s.length ≤ 1 by omega)]
      exact congrArg D.s (by simp)
    · rw [u4 (by omega) (by omega) (by omega), if_pos (show 1 < s.length by omega)]
      exact congrArg D.s (by simp)

end Go.Proofs.YtenkmfahcmahkaaDoor.Flow
