/- The texts J6, J8, D7, D9, U10, U11, U12, U13, U14, U15, J9, J10, one behind the other. -/
import Derived.Test.YtbegohehjkjnmaaDoorJD12
import Derived.Test.YtbegohehjkjnmaaDoorJD15
import Derived.Test.YtbegohehjkjnmaaDoorJD18
/- JSON: the program's reader: a value. -/
namespace Go.Proofs.YtbegohehjkjnmaaDoor.Flow
open Go

theorem cells_weak (k : Int) (y n : Bool) (d : List UInt8) (e : Int) (t : List UInt8) : Weak (.ag [.i .i64 k, .b y, .b n, .s d, .i .i64 e, .s t, .nilS, .nilS]) (.ag (jC (.mk k y n d e t [] []))) := by
  rw [jC_mk]
  refine .ag _ _ rfl fun j hj => ?_
  match j, hj with
  | 0, _ => exact .refl _
  | 1, _ => exact .refl _
  | 2, _ => exact .refl _
  | 3, _ => exact .refl _
  | 4, _ => exact .refl _
  | 5, _ => exact .refl _
  | 6, _ => exact .nil 8 _
  | 7, _ => exact .nil 1 _

set_option maxRecDepth 100000 in
set_option maxHeartbeats 8000000 in
theorem value_jctr (s : List UInt8) (hs : s.length ≤ 1048576) : ∀ d : Nat, d ≤ 100 → ∀ i, i ≤ s.length → RdE 25 [.pv 13 0, .i .i64 d] s i (valD (jval s d i)) := by
  intro d
  induction d with
  | zero =>
    intro _ i hi
    refine r_methR Tryd.func25 rfl Tryd.ntmps25 Tryd.results25 rfl valD_ok fun X hL hX => ?_
    have c1 := jpeek_ctr s i hs hi
    unfold jval
    cases h1 : jpeek s i with
    | inr e =>
      obtain ⟨p, e⟩ := e
      rw [h1] at c1
      repeat' (first
        | (refine t_pan (id := 1) 1 ?_; dsimp only [splitOp]) | refine p_lend1 13 rfl Tryd.call39 rfl rfl rfl rfl c1 ?_
        | with_reducible (first | refine t_seq ?_ | refine t_region ?_ | refine c_nil ?_ | refine n_then ?_ | refine t_ret ?_ | refine t_skip ?_ | refine t_exit ?_ | refine t_block ?_ | refine n_block ?_ | refine e_then ?_ | refine x_then ?_ | refine x_block ?_ | refine t_draw ?_)
        | refine r_val rfl rfl True.intro ?_ | refine r_gskip rfl rfl rfl ?_ | refine r_gskip2 rfl rfl rfl ?_ | refine r_gval rfl rfl rfl rfl True.intro ?_
        | refine t_true rfl ?_ | refine t_false rfl ?_
        | ((first | refine t_cond_d rfl ?_ ?_ | refine t_cond_i rfl ?_ ?_ | refine t_cond_j rfl ?_ ?_ | refine t_cond_s rfl ?_ ?_ | refine t_cond_n rfl ?_ ?_ | refine t_cond rfl ?_ ?_ | refine c_split_d rfl rfl ?_ ?_ | refine c_split_i rfl rfl ?_ ?_ | refine c_split_j rfl rfl ?_ ?_ | refine c_split_s rfl rfl ?_ ?_ | refine c_split_n rfl rfl ?_ ?_) <;> intro <;> try (first | (rename_i hz; exact Bool.noConfusion (show true = false from hz)) | (rename_i hz; exact Bool.noConfusion (show false = true from hz)) | (exfalso; omega)))
        | ((first | refine r_val rfl rfl ?_ ?_ | refine r_gval rfl rfl rfl rfl ?_ ?_ | refine r_obj rfl rfl ?_ ?_ | refine r_sto rfl ?_ ?_ | refine r_gobj rfl rfl rfl rfl ?_ ?_); focus (first | omega | exact Nat.le_of_ble_eq_true rfl | ((repeat first | rw [wrap_u8] | rw [IntKind.wrap_i64] | rw [IntKind.wrap_i32] | rw [wrap_u32'] | rw [wrap_u64']); (repeat' refine And.intro ?_ ?_) <;> omega) | ((repeat' refine And.intro ?_ ?_) <;> first | omega | rfl | exact Nat.le_refl _ | exact Nat.le_of_ble_eq_true rfl | exact bytesF_one _) | (simp_all; done) | (simp_all; omega)))
        | refine e_hit rfl ?_ | refine e_miss rfl ?_
        | with_reducible refine ⟨by kernel_rfl, ?_⟩ | refine p_then ?_ | refine p_block ?_ | refine p_endR ⟨_, _, rfl, rfl, _, rfl⟩ | ((with_reducible refine c_grd ?_); (fail_if_success (refine c_lit true rfl rfl rfl ?_)); (fail_if_success (refine c_lit false rfl rfl rfl ?_)); refine c_split rfl rfl (fun _ => ?_) (fun _ => ?_)))
    | inl j =>
      rw [h1] at c1
      dsimp only
      have c5 := jfail_ctr j 9
      repeat' (first
        | (refine t_pan (id := 3) 4 ?_; dsimp only [splitOp]) | refine r_lend1 (f := 39) 13 rfl rfl Tryd.call39 rfl rfl rfl rfl rfl c1 ?_ | refine p_call rfl Tryd.call27 rfl c5 ?_
        | with_reducible (first | refine t_seq ?_ | refine t_region ?_ | refine c_nil ?_ | refine n_then ?_ | refine t_ret ?_ | refine t_skip ?_ | refine t_exit ?_ | refine t_block ?_ | refine n_block ?_ | refine e_then ?_ | refine x_then ?_ | refine x_block ?_ | refine t_draw ?_)
        | refine r_val rfl rfl True.intro ?_ | refine r_gskip rfl rfl rfl ?_ | refine r_gskip2 rfl rfl rfl ?_ | refine r_gval rfl rfl rfl rfl True.intro ?_
        | refine t_true rfl ?_ | refine t_false rfl ?_
        | ((first | refine t_cond_d rfl ?_ ?_ | refine t_cond_i rfl ?_ ?_ | refine t_cond_j rfl ?_ ?_ | refine t_cond_s rfl ?_ ?_ | refine t_cond_n rfl ?_ ?_ | refine t_cond rfl ?_ ?_ | refine c_split_d rfl rfl ?_ ?_ | refine c_split_i rfl rfl ?_ ?_ | refine c_split_j rfl rfl ?_ ?_ | refine c_split_s rfl rfl ?_ ?_ | refine c_split_n rfl rfl ?_ ?_) <;> intro <;> try (first | (rename_i hz; exact Bool.noConfusion (show true = false from hz)) | (rename_i hz; exact Bool.noConfusion (show false = true from hz)) | (exfalso; omega)))
        | ((first | refine r_val rfl rfl ?_ ?_ | refine r_gval rfl rfl rfl rfl ?_ ?_ | refine r_obj rfl rfl ?_ ?_ | refine r_sto rfl ?_ ?_ | refine r_gobj rfl rfl rfl rfl ?_ ?_); focus (first | omega | exact Nat.le_of_ble_eq_true rfl | ((repeat first | rw [wrap_u8] | rw [IntKind.wrap_i64] | rw [IntKind.wrap_i32] | rw [wrap_u32'] | rw [wrap_u64']); (repeat' refine And.intro ?_ ?_) <;> omega) | ((repeat' refine And.intro ?_ ?_) <;> first | omega | rfl | exact Nat.le_refl _ | exact Nat.le_of_ble_eq_true rfl | exact bytesF_one _) | (simp_all; done) | (simp_all; omega)))
        | refine e_hit rfl ?_ | refine e_miss rfl ?_
        | with_reducible refine ⟨by kernel_rfl, ?_⟩ | refine p_then ?_ | refine p_block ?_ | refine p_endR ⟨_, _, rfl, rfl, _, rfl⟩ | ((with_reducible refine c_grd ?_); (fail_if_success (refine c_lit true rfl rfl rfl ?_)); (fail_if_success (refine c_lit false rfl rfl rfl ?_)); refine c_split rfl rfl (fun _ => ?_) (fun _ => ?_)))
  | succ d ih =>
    intro hd i hi
    have ih := ih (by omega)
    refine r_methR Tryd.func25 rfl Tryd.ntmps25 Tryd.results25 rfl valD_ok fun X hL hX => ?_
    have c1 := jpeek_ctr s i hs hi
    have q1 := @jpeek_ok s i
    unfold jval
    cases h1 : jpeek s i with
    | inr e =>
      obtain ⟨p, e⟩ := e
      rw [h1] at c1
      repeat' (first
        | (refine t_pan (id := 1) 1 ?_; dsimp only [splitOp]) | refine p_lend1 13 rfl Tryd.call39 rfl rfl rfl rfl c1 ?_
        | with_reducible (first | refine t_seq ?_ | refine t_region ?_ | refine c_nil ?_ | refine n_then ?_ | refine t_ret ?_ | refine t_skip ?_ | refine t_exit ?_ | refine t_block ?_ | refine n_block ?_ | refine e_then ?_ | refine x_then ?_ | refine x_block ?_ | refine t_draw ?_)
        | refine r_val rfl rfl True.intro ?_ | refine r_gskip rfl rfl rfl ?_ | refine r_gskip2 rfl rfl rfl ?_ | refine r_gval rfl rfl rfl rfl True.intro ?_
        | refine t_true rfl ?_ | refine t_false rfl ?_
        | ((first | refine t_cond_d rfl ?_ ?_ | refine t_cond_i rfl ?_ ?_ | refine t_cond_j rfl ?_ ?_ | refine t_cond_s rfl ?_ ?_ | refine t_cond_n rfl ?_ ?_ | refine t_cond rfl ?_ ?_ | refine c_split_d rfl rfl ?_ ?_ | refine c_split_i rfl rfl ?_ ?_ | refine c_split_j rfl rfl ?_ ?_ | refine c_split_s rfl rfl ?_ ?_ | refine c_split_n rfl rfl ?_ ?_) <;> intro <;> try (first | (rename_i hz; exact Bool.noConfusion (show true = false from hz)) | (rename_i hz; exact Bool.noConfusion (show false = true from hz)) | (exfalso; omega)))
        | ((first | refine r_val rfl rfl ?_ ?_ | refine r_gval rfl rfl rfl rfl ?_ ?_ | refine r_obj rfl rfl ?_ ?_ | refine r_sto rfl ?_ ?_ | refine r_gobj rfl rfl rfl rfl ?_ ?_); focus (first | omega | exact Nat.le_of_ble_eq_true rfl | ((repeat first | rw [wrap_u8] | rw [IntKind.wrap_i64] | rw [IntKind.wrap_i32] | rw [wrap_u32'] | rw [wrap_u64']); (repeat' refine And.intro ?_ ?_) <;> omega) | ((repeat' refine And.intro ?_ ?_) <;> first | omega | rfl | exact Nat.le_refl _ | exact Nat.le_of_ble_eq_true rfl | exact bytesF_one _) | (simp_all; done) | (simp_all; omega)))
        | refine e_hit rfl ?_ | refine e_miss rfl ?_
        | with_reducible refine ⟨by kernel_rfl, ?_⟩ | refine p_then ?_ | refine p_block ?_ | refine p_endR ⟨_, _, rfl, rfl, _, rfl⟩ | ((with_reducible refine c_grd ?_); (fail_if_success (refine c_lit true rfl rfl rfl ?_)); (fail_if_success (refine c_lit false rfl rfl rfl ?_)); refine c_split rfl rfl (fun _ => ?_) (fun _ => ?_)))
    | inl j =>
      rw [h1] at c1
      have q1 := q1 hi h1
      have hjl : j ≤ s.length := by omega
      dsimp only
      by_cases b0 : at' s j = 110
      · rw [if_pos b0]
        have w1 := word_jctr s nullW j 0 false hs (by decide) hjl
        unfold jword at w1 ⊢
        by_cases hp : Lib.hasPrefix (s.drop j) nullW = true
        · rw [if_pos hp] at w1 ⊢
          repeat' (first
            | refine r_lend1 (f := 39) 13 rfl rfl Tryd.call39 rfl rfl rfl rfl rfl c1 ?_ | refine r_lend1 (f := 40) 13 rfl rfl Tryd.call40 rfl rfl rfl rfl rfl w1 ?_
            | with_reducible (first | refine t_seq ?_ | refine t_region ?_ | refine c_nil ?_ | refine n_then ?_ | refine t_ret ?_ | refine t_skip ?_ | refine t_exit ?_ | refine t_block ?_ | refine n_block ?_ | refine e_then ?_ | refine x_then ?_ | refine x_block ?_ | refine t_draw ?_)
            | refine r_val rfl rfl True.intro ?_ | refine r_gskip rfl rfl rfl ?_ | refine r_gskip2 rfl rfl rfl ?_ | refine r_gval rfl rfl rfl rfl True.intro ?_
            | refine t_true rfl ?_ | refine t_false rfl ?_
            | ((first | refine t_cond_d rfl ?_ ?_ | refine t_cond_i rfl ?_ ?_ | refine t_cond_j rfl ?_ ?_ | refine t_cond_s rfl ?_ ?_ | refine t_cond_n rfl ?_ ?_ | refine t_cond rfl ?_ ?_ | refine c_split_d rfl rfl ?_ ?_ | refine c_split_i rfl rfl ?_ ?_ | refine c_split_j rfl rfl ?_ ?_ | refine c_split_s rfl rfl ?_ ?_ | refine c_split_n rfl rfl ?_ ?_) <;> intro <;> try (first | (rename_i hz; exact Bool.noConfusion (show true = false from hz)) | (rename_i hz; exact Bool.noConfusion (show false = true from hz)) | (exfalso; omega)))
            | ((first | refine r_val rfl rfl ?_ ?_ | refine r_gval rfl rfl rfl rfl ?_ ?_ | refine r_obj rfl rfl ?_ ?_ | refine r_sto rfl ?_ ?_ | refine r_gobj rfl rfl rfl rfl ?_ ?_); focus (first | omega | exact Nat.le_of_ble_eq_true rfl | ((repeat first | rw [wrap_u8] | rw [IntKind.wrap_i64] | rw [IntKind.wrap_i32] | rw [wrap_u32'] | rw [wrap_u64']); (repeat' refine And.intro ?_ ?_) <;> omega) | ((repeat' refine And.intro ?_ ?_) <;> first | omega | rfl | exact Nat.le_refl _ | exact Nat.le_of_ble_eq_true rfl | exact bytesF_one _) | (simp_all; done) | (simp_all; omega)))
            | refine e_hit rfl ?_ | refine e_miss rfl ?_
            | with_reducible refine ⟨by kernel_rfl, ?_⟩ | refine x_endR rfl ⟨_, _, rfl, ?_, rfl⟩ | refine n_endR rfl ⟨_, _, rfl, ?_, rfl⟩ | ((with_reducible refine c_grd ?_); (fail_if_success (refine c_lit true rfl rfl rfl ?_)); (fail_if_success (refine c_lit false rfl rfl rfl ?_)); refine c_split rfl rfl (fun _ => ?_) (fun _ => ?_)))
          all_goals exact lit_weak 0 false
        · rw [if_neg hp] at w1 ⊢
          repeat' (first
            | (refine t_pan (id := 6) 2 ?_; dsimp only [splitOp]) | refine r_lend1 (f := 39) 13 rfl rfl Tryd.call39 rfl rfl rfl rfl rfl c1 ?_ | refine p_lend1 13 rfl Tryd.call40 rfl rfl rfl rfl w1 ?_
            | with_reducible (first | refine t_seq ?_ | refine t_region ?_ | refine c_nil ?_ | refine n_then ?_ | refine t_ret ?_ | refine t_skip ?_ | refine t_exit ?_ | refine t_block ?_ | refine n_block ?_ | refine e_then ?_ | refine x_then ?_ | refine x_block ?_ | refine t_draw ?_)
            | refine r_val rfl rfl True.intro ?_ | refine r_gskip rfl rfl rfl ?_ | refine r_gskip2 rfl rfl rfl ?_ | refine r_gval rfl rfl rfl rfl True.intro ?_
            | refine t_true rfl ?_ | refine t_false rfl ?_
            | ((first | refine t_cond_d rfl ?_ ?_ | refine t_cond_i rfl ?_ ?_ | refine t_cond_j rfl ?_ ?_ | refine t_cond_s rfl ?_ ?_ | refine t_cond_n rfl ?_ ?_ | refine t_cond rfl ?_ ?_ | refine c_split_d rfl rfl ?_ ?_ | refine c_split_i rfl rfl ?_ ?_ | refine c_split_j rfl rfl ?_ ?_ | refine c_split_s rfl rfl ?_ ?_ | refine c_split_n rfl rfl ?_ ?_) <;> intro <;> try (first | (rename_i hz; exact Bool.noConfusion (show true = false from hz)) | (rename_i hz; exact Bool.noConfusion (show false = true from hz)) | (exfalso; omega)))
            | ((first | refine r_val rfl rfl ?_ ?_ | refine r_gval rfl rfl rfl rfl ?_ ?_ | refine r_obj rfl rfl ?_ ?_ | refine r_sto rfl ?_ ?_ | refine r_gobj rfl rfl rfl rfl ?_ ?_); focus (first | omega | exact Nat.le_of_ble_eq_true rfl | ((repeat first | rw [wrap_u8] | rw [IntKind.wrap_i64] | rw [IntKind.wrap_i32] | rw [wrap_u32'] | rw [wrap_u64']); (repeat' refine And.intro ?_ ?_) <;> omega) | ((repeat' refine And.intro ?_ ?_) <;> first | omega | rfl | exact Nat.le_refl _ | exact Nat.le_of_ble_eq_true rfl | exact bytesF_one _) | (simp_all; done) | (simp_all; omega)))
            | refine e_hit rfl ?_ | refine e_miss rfl ?_
            | with_reducible refine ⟨by kernel_rfl, ?_⟩ | refine p_then ?_ | refine p_block ?_ | refine p_endR ⟨_, _, rfl, rfl, _, rfl⟩ | ((with_reducible refine c_grd ?_); (fail_if_success (refine c_lit true rfl rfl rfl ?_)); (fail_if_success (refine c_lit false rfl rfl rfl ?_)); refine c_split rfl rfl (fun _ => ?_) (fun _ => ?_)))
      rw [if_neg b0]
      by_cases b1 : at' s j = 116
      · rw [if_pos b1]
        have w1 := word_jctr s trueW j 1 true hs (by decide) hjl
        unfold jword at w1 ⊢
        by_cases hp : Lib.hasPrefix (s.drop j) trueW = true
        · rw [if_pos hp] at w1 ⊢
          repeat' (first
            | refine r_lend1 (f := 39) 13 rfl rfl Tryd.call39 rfl rfl rfl rfl rfl c1 ?_ | refine r_lend1 (f := 40) 13 rfl rfl Tryd.call40 rfl rfl rfl rfl rfl w1 ?_
            | with_reducible (first | refine t_seq ?_ | refine t_region ?_ | refine c_nil ?_ | refine n_then ?_ | refine t_ret ?_ | refine t_skip ?_ | refine t_exit ?_ | refine t_block ?_ | refine n_block ?_ | refine e_then ?_ | refine x_then ?_ | refine x_block ?_ | refine t_draw ?_)
            | refine r_val rfl rfl True.intro ?_ | refine r_gskip rfl rfl rfl ?_ | refine r_gskip2 rfl rfl rfl ?_ | refine r_gval rfl rfl rfl rfl True.intro ?_
            | refine t_true rfl ?_ | refine t_false rfl ?_
            | ((first | refine t_cond_d rfl ?_ ?_ | refine t_cond_i rfl ?_ ?_ | refine t_cond_j rfl ?_ ?_ | refine t_cond_s rfl ?_ ?_ | refine t_cond_n rfl ?_ ?_ | refine t_cond rfl ?_ ?_ | refine c_split_d rfl rfl ?_ ?_ | refine c_split_i rfl rfl ?_ ?_ | refine c_split_j rfl rfl ?_ ?_ | refine c_split_s rfl rfl ?_ ?_ | refine c_split_n rfl rfl ?_ ?_) <;> intro <;> try (first | (rename_i hz; exact Bool.noConfusion (show true = false from hz)) | (rename_i hz; exact Bool.noConfusion (show false = true from hz)) | (exfalso; omega)))
            | ((first | refine r_val rfl rfl ?_ ?_ | refine r_gval rfl rfl rfl rfl ?_ ?_ | refine r_obj rfl rfl ?_ ?_ | refine r_sto rfl ?_ ?_ | refine r_gobj rfl rfl rfl rfl ?_ ?_); focus (first | omega | exact Nat.le_of_ble_eq_true rfl | ((repeat first | rw [wrap_u8] | rw [IntKind.wrap_i64] | rw [IntKind.wrap_i32] | rw [wrap_u32'] | rw [wrap_u64']); (repeat' refine And.intro ?_ ?_) <;> omega) | ((repeat' refine And.intro ?_ ?_) <;> first | omega | rfl | exact Nat.le_refl _ | exact Nat.le_of_ble_eq_true rfl | exact bytesF_one _) | (simp_all; done) | (simp_all; omega)))
            | refine e_hit rfl ?_ | refine e_miss rfl ?_
            | with_reducible refine ⟨by kernel_rfl, ?_⟩ | refine x_endR rfl ⟨_, _, rfl, ?_, rfl⟩ | refine n_endR rfl ⟨_, _, rfl, ?_, rfl⟩ | ((with_reducible refine c_grd ?_); (fail_if_success (refine c_lit true rfl rfl rfl ?_)); (fail_if_success (refine c_lit false rfl rfl rfl ?_)); refine c_split rfl rfl (fun _ => ?_) (fun _ => ?_)))
          all_goals exact lit_weak 1 true
        · rw [if_neg hp] at w1 ⊢
          repeat' (first
            | (refine t_pan (id := 8) 2 ?_; dsimp only [splitOp]) | refine r_lend1 (f := 39) 13 rfl rfl Tryd.call39 rfl rfl rfl rfl rfl c1 ?_ | refine p_lend1 13 rfl Tryd.call40 rfl rfl rfl rfl w1 ?_
            | with_reducible (first | refine t_seq ?_ | refine t_region ?_ | refine c_nil ?_ | refine n_then ?_ | refine t_ret ?_ | refine t_skip ?_ | refine t_exit ?_ | refine t_block ?_ | refine n_block ?_ | refine e_then ?_ | refine x_then ?_ | refine x_block ?_ | refine t_draw ?_)
            | refine r_val rfl rfl True.intro ?_ | refine r_gskip rfl rfl rfl ?_ | refine r_gskip2 rfl rfl rfl ?_ | refine r_gval rfl rfl rfl rfl True.intro ?_
            | refine t_true rfl ?_ | refine t_false rfl ?_
            | ((first | refine t_cond_d rfl ?_ ?_ | refine t_cond_i rfl ?_ ?_ | refine t_cond_j rfl ?_ ?_ | refine t_cond_s rfl ?_ ?_ | refine t_cond_n rfl ?_ ?_ | refine t_cond rfl ?_ ?_ | refine c_split_d rfl rfl ?_ ?_ | refine c_split_i rfl rfl ?_ ?_ | refine c_split_j rfl rfl ?_ ?_ | refine c_split_s rfl rfl ?_ ?_ | refine c_split_n rfl rfl ?_ ?_) <;> intro <;> try (first | (rename_i hz; exact Bool.noConfusion (show true = false from hz)) | (rename_i hz; exact Bool.noConfusion (show false = true from hz)) | (exfalso; omega)))
            | ((first | refine r_val rfl rfl ?_ ?_ | refine r_gval rfl rfl rfl rfl ?_ ?_ | refine r_obj rfl rfl ?_ ?_ | refine r_sto rfl ?_ ?_ | refine r_gobj rfl rfl rfl rfl ?_ ?_); focus (first | omega | exact Nat.le_of_ble_eq_true rfl | ((repeat first | rw [wrap_u8] | rw [IntKind.wrap_i64] | rw [IntKind.wrap_i32] | rw [wrap_u32'] | rw [wrap_u64']); (repeat' refine And.intro ?_ ?_) <;> omega) | ((repeat' refine And.intro ?_ ?_) <;> first | omega | rfl | exact Nat.le_refl _ | exact Nat.le_of_ble_eq_true rfl | exact bytesF_one _) | (simp_all; done) | (simp_all; omega)))
            | refine e_hit rfl ?_ | refine e_miss rfl ?_
            | with_reducible refine ⟨by kernel_rfl, ?_⟩ | refine p_then ?_ | refine p_block ?_ | refine p_endR ⟨_, _, rfl, rfl, _, rfl⟩ | ((with_reducible refine c_grd ?_); (fail_if_success (refine c_lit true rfl rfl rfl ?_)); (fail_if_success (refine c_lit false rfl rfl rfl ?_)); refine c_split rfl rfl (fun _ => ?_) (fun _ => ?_)))
      rw [if_neg b1]
      by_cases b2 : at' s j = 102
      · rw [if_pos b2]
        have w1 := word_jctr s falseW j 1 false hs (by decide) hjl
        unfold jword at w1 ⊢
        by_cases hp : Lib.hasPrefix (s.drop j) falseW = true
        · rw [if_pos hp] at w1 ⊢
          repeat' (first
            | refine r_lend1 (f := 39) 13 rfl rfl Tryd.call39 rfl rfl rfl rfl rfl c1 ?_ | refine r_lend1 (f := 40) 13 rfl rfl Tryd.call40 rfl rfl rfl rfl rfl w1 ?_
            | with_reducible (first | refine t_seq ?_ | refine t_region ?_ | refine c_nil ?_ | refine n_then ?_ | refine t_ret ?_ | refine t_skip ?_ | refine t_exit ?_ | refine t_block ?_ | refine n_block ?_ | refine e_then ?_ | refine x_then ?_ | refine x_block ?_ | refine t_draw ?_)
            | refine r_val rfl rfl True.intro ?_ | refine r_gskip rfl rfl rfl ?_ | refine r_gskip2 rfl rfl rfl ?_ | refine r_gval rfl rfl rfl rfl True.intro ?_
            | refine t_true rfl ?_ | refine t_false rfl ?_
            | ((first | refine t_cond_d rfl ?_ ?_ | refine t_cond_i rfl ?_ ?_ | refine t_cond_j rfl ?_ ?_ | refine t_cond_s rfl ?_ ?_ | refine t_cond_n rfl ?_ ?_ | refine t_cond rfl ?_ ?_ | refine c_split_d rfl rfl ?_ ?_ | refine c_split_i rfl rfl ?_ ?_ | refine c_split_j rfl rfl ?_ ?_ | refine c_split_s rfl rfl ?_ ?_ | refine c_split_n rfl rfl ?_ ?_) <;> intro <;> try (first | (rename_i hz; exact Bool.noConfusion (show true = false from hz)) | (rename_i hz; exact Bool.noConfusion (show false = true from hz)) | (exfalso; omega)))
            | ((first | refine r_val rfl rfl ?_ ?_ | refine r_gval rfl rfl rfl rfl ?_ ?_ | refine r_obj rfl rfl ?_ ?_ | refine r_sto rfl ?_ ?_ | refine r_gobj rfl rfl rfl rfl ?_ ?_); focus (first | omega | exact Nat.le_of_ble_eq_true rfl | ((repeat first | rw [wrap_u8] | rw [IntKind.wrap_i64] | rw [IntKind.wrap_i32] | rw [wrap_u32'] | rw [wrap_u64']); (repeat' refine And.intro ?_ ?_) <;> omega) | ((repeat' refine And.intro ?_ ?_) <;> first | omega | rfl | exact Nat.le_refl _ | exact Nat.le_of_ble_eq_true rfl | exact bytesF_one _) | (simp_all; done) | (simp_all; omega)))
            | refine e_hit rfl ?_ | refine e_miss rfl ?_
            | with_reducible refine ⟨by kernel_rfl, ?_⟩ | refine x_endR rfl ⟨_, _, rfl, ?_, rfl⟩ | refine n_endR rfl ⟨_, _, rfl, ?_, rfl⟩ | ((with_reducible refine c_grd ?_); (fail_if_success (refine c_lit true rfl rfl rfl ?_)); (fail_if_success (refine c_lit false rfl rfl rfl ?_)); refine c_split rfl rfl (fun _ => ?_) (fun _ => ?_)))
          all_goals exact lit_weak 1 false
        · rw [if_neg hp] at w1 ⊢
          repeat' (first
            | (refine t_pan (id := 10) 2 ?_; dsimp only [splitOp]) | refine r_lend1 (f := 39) 13 rfl rfl Tryd.call39 rfl rfl rfl rfl rfl c1 ?_ | refine p_lend1 13 rfl Tryd.call40 rfl rfl rfl rfl w1 ?_
            | with_reducible (first | refine t_seq ?_ | refine t_region ?_ | refine c_nil ?_ | refine n_then ?_ | refine t_ret ?_ | refine t_skip ?_ | refine t_exit ?_ | refine t_block ?_ | refine n_block ?_ | refine e_then ?_ | refine x_then ?_ | refine x_block ?_ | refine t_draw ?_)
            | refine r_val rfl rfl True.intro ?_ | refine r_gskip rfl rfl rfl ?_ | refine r_gskip2 rfl rfl rfl ?_ | refine r_gval rfl rfl rfl rfl True.intro ?_
            | refine t_true rfl ?_ | refine t_false rfl ?_
            | ((first | refine t_cond_d rfl ?_ ?_ | refine t_cond_i rfl ?_ ?_ | refine t_cond_j rfl ?_ ?_ | refine t_cond_s rfl ?_ ?_ | refine t_cond_n rfl ?_ ?_ | refine t_cond rfl ?_ ?_ | refine c_split_d rfl rfl ?_ ?_ | refine c_split_i rfl rfl ?_ ?_ | refine c_split_j rfl rfl ?_ ?_ | refine c_split_s rfl rfl ?_ ?_ | refine c_split_n rfl rfl ?_ ?_) <;> intro <;> try (first | (rename_i hz; exact Bool.noConfusion (show true = false from hz)) | (rename_i hz; exact Bool.noConfusion (show false = true from hz)) | (exfalso; omega)))
            | ((first | refine r_val rfl rfl ?_ ?_ | refine r_gval rfl rfl rfl rfl ?_ ?_ | refine r_obj rfl rfl ?_ ?_ | refine r_sto rfl ?_ ?_ | refine r_gobj rfl rfl rfl rfl ?_ ?_); focus (first | omega | exact Nat.le_of_ble_eq_true rfl | ((repeat first | rw [wrap_u8] | rw [IntKind.wrap_i64] | rw [IntKind.wrap_i32] | rw [wrap_u32'] | rw [wrap_u64']); (repeat' refine And.intro ?_ ?_) <;> omega) | ((repeat' refine And.intro ?_ ?_) <;> first | omega | rfl | exact Nat.le_refl _ | exact Nat.le_of_ble_eq_true rfl | exact bytesF_one _) | (simp_all; done) | (simp_all; omega)))
            | refine e_hit rfl ?_ | refine e_miss rfl ?_
            | with_reducible refine ⟨by kernel_rfl, ?_⟩ | refine p_then ?_ | refine p_block ?_ | refine p_endR ⟨_, _, rfl, rfl, _, rfl⟩ | ((with_reducible refine c_grd ?_); (fail_if_success (refine c_lit true rfl rfl rfl ?_)); (fail_if_success (refine c_lit false rfl rfl rfl ?_)); refine c_split rfl rfl (fun _ => ?_) (fun _ => ?_)))
      rw [if_neg b2]
      by_cases b3 : at' s j = 34
      · rw [if_pos b3]
        have w1 := text_jctr s j hs hjl
        cases h2 : jtext s j with
        | inr e =>
          obtain ⟨p, e⟩ := e
          rw [h2] at w1
          repeat' (first
            | (refine t_pan (id := 12) 1 ?_; dsimp only [splitOp]) | refine r_lend1 (f := 39) 13 rfl rfl Tryd.call39 rfl rfl rfl rfl rfl c1 ?_ | refine p_lend1 13 rfl Tryd.call41 rfl rfl rfl rfl w1 ?_
            | with_reducible (first | refine t_seq ?_ | refine t_region ?_ | refine c_nil ?_ | refine n_then ?_ | refine t_ret ?_ | refine t_skip ?_ | refine t_exit ?_ | refine t_block ?_ | refine n_block ?_ | refine e_then ?_ | refine x_then ?_ | refine x_block ?_ | refine t_draw ?_)
            | refine r_val rfl rfl True.intro ?_ | refine r_gskip rfl rfl rfl ?_ | refine r_gskip2 rfl rfl rfl ?_ | refine r_gval rfl rfl rfl rfl True.intro ?_
            | refine t_true rfl ?_ | refine t_false rfl ?_
            | ((first | refine t_cond_d rfl ?_ ?_ | refine t_cond_i rfl ?_ ?_ | refine t_cond_j rfl ?_ ?_ | refine t_cond_s rfl ?_ ?_ | refine t_cond_n rfl ?_ ?_ | refine t_cond rfl ?_ ?_ | refine c_split_d rfl rfl ?_ ?_ | refine c_split_i rfl rfl ?_ ?_ | refine c_split_j rfl rfl ?_ ?_ | refine c_split_s rfl rfl ?_ ?_ | refine c_split_n rfl rfl ?_ ?_) <;> intro <;> try (first | (rename_i hz; exact Bool.noConfusion (show true = false from hz)) | (rename_i hz; exact Bool.noConfusion (show false = true from hz)) | (exfalso; omega)))
            | ((first | refine r_val rfl rfl ?_ ?_ | refine r_gval rfl rfl rfl rfl ?_ ?_ | refine r_obj rfl rfl ?_ ?_ | refine r_sto rfl ?_ ?_ | refine r_gobj rfl rfl rfl rfl ?_ ?_); focus (first | omega | exact Nat.le_of_ble_eq_true rfl | ((repeat first | rw [wrap_u8] | rw [IntKind.wrap_i64] | rw [IntKind.wrap_i32] | rw [wrap_u32'] | rw [wrap_u64']); (repeat' refine And.intro ?_ ?_) <;> omega) | ((repeat' refine And.intro ?_ ?_) <;> first | omega | rfl | exact Nat.le_refl _ | exact Nat.le_of_ble_eq_true rfl | exact bytesF_one _) | (simp_all; done) | (simp_all; omega)))
            | refine e_hit rfl ?_ | refine e_miss rfl ?_
            | with_reducible refine ⟨by kernel_rfl, ?_⟩ | refine p_then ?_ | refine p_block ?_ | refine p_endR ⟨_, _, rfl, rfl, _, rfl⟩ | ((with_reducible refine c_grd ?_); (fail_if_success (refine c_lit true rfl rfl rfl ?_)); (fail_if_success (refine c_lit false rfl rfl rfl ?_)); refine c_split rfl rfl (fun _ => ?_) (fun _ => ?_)))
        | inl r =>
          obtain ⟨t, n⟩ := r
          rw [h2] at w1
          repeat' (first
            | refine r_lend1 (f := 39) 13 rfl rfl Tryd.call39 rfl rfl rfl rfl rfl c1 ?_ | refine r_lend1 (f := 41) 13 rfl rfl Tryd.call41 rfl rfl rfl rfl rfl w1 ?_
            | with_reducible (first | refine t_seq ?_ | refine t_region ?_ | refine c_nil ?_ | refine n_then ?_ | refine t_ret ?_ | refine t_skip ?_ | refine t_exit ?_ | refine t_block ?_ | refine n_block ?_ | refine e_then ?_ | refine x_then ?_ | refine x_block ?_ | refine t_draw ?_)
            | refine r_val rfl rfl True.intro ?_ | refine r_gskip rfl rfl rfl ?_ | refine r_gskip2 rfl rfl rfl ?_ | refine r_gval rfl rfl rfl rfl True.intro ?_
            | refine t_true rfl ?_ | refine t_false rfl ?_
            | ((first | refine t_cond_d rfl ?_ ?_ | refine t_cond_i rfl ?_ ?_ | refine t_cond_j rfl ?_ ?_ | refine t_cond_s rfl ?_ ?_ | refine t_cond_n rfl ?_ ?_ | refine t_cond rfl ?_ ?_ | refine c_split_d rfl rfl ?_ ?_ | refine c_split_i rfl rfl ?_ ?_ | refine c_split_j rfl rfl ?_ ?_ | refine c_split_s rfl rfl ?_ ?_ | refine c_split_n rfl rfl ?_ ?_) <;> intro <;> try (first | (rename_i hz; exact Bool.noConfusion (show true = false from hz)) | (rename_i hz; exact Bool.noConfusion (show false = true from hz)) | (exfalso; omega)))
            | ((first | refine r_val rfl rfl ?_ ?_ | refine r_gval rfl rfl rfl rfl ?_ ?_ | refine r_obj rfl rfl ?_ ?_ | refine r_sto rfl ?_ ?_ | refine r_gobj rfl rfl rfl rfl ?_ ?_); focus (first | omega | exact Nat.le_of_ble_eq_true rfl | ((repeat first | rw [wrap_u8] | rw [IntKind.wrap_i64] | rw [IntKind.wrap_i32] | rw [wrap_u32'] | rw [wrap_u64']); (repeat' refine And.intro ?_ ?_) <;> omega) | ((repeat' refine And.intro ?_ ?_) <;> first | omega | rfl | exact Nat.le_refl _ | exact Nat.le_of_ble_eq_true rfl | exact bytesF_one _) | (simp_all; done) | (simp_all; omega)))
            | refine e_hit rfl ?_ | refine e_miss rfl ?_
            | with_reducible refine ⟨by kernel_rfl, ?_⟩ | refine x_endR rfl ⟨_, _, rfl, ?_, rfl⟩ | refine n_endR rfl ⟨_, _, rfl, ?_, rfl⟩ | ((with_reducible refine c_grd ?_); (fail_if_success (refine c_lit true rfl rfl rfl ?_)); (fail_if_success (refine c_lit false rfl rfl rfl ?_)); refine c_split rfl rfl (fun _ => ?_) (fun _ => ?_)))
          all_goals exact cells_weak 3 false false [] 0 t
      rw [if_neg b3]
      by_cases b4 : at' s j = 91
      · rw [if_pos b4]
        have w1 := many_false_jctr s (jval s d) d hs (by omega) (jval_ok s d) ih j q1.2.1
        cases h2 : jmany s (jval s d) false j with
        | inr e =>
          obtain ⟨p, e⟩ := e
          rw [h2] at w1
          repeat' (first
            | (refine t_pan (id := 14) 3 ?_; dsimp only [splitOp]) | refine r_lend1 (f := 39) 13 rfl rfl Tryd.call39 rfl rfl rfl rfl rfl c1 ?_ | refine p_lend1 13 rfl Tryd.call42 rfl rfl rfl rfl w1 ?_
            | with_reducible (first | refine t_seq ?_ | refine t_region ?_ | refine c_nil ?_ | refine n_then ?_ | refine t_ret ?_ | refine t_skip ?_ | refine t_exit ?_ | refine t_block ?_ | refine n_block ?_ | refine e_then ?_ | refine x_then ?_ | refine x_block ?_ | refine t_draw ?_)
            | refine r_val rfl rfl True.intro ?_ | refine r_gskip rfl rfl rfl ?_ | refine r_gskip2 rfl rfl rfl ?_ | refine r_gval rfl rfl rfl rfl True.intro ?_
            | refine t_true rfl ?_ | refine t_false rfl ?_
            | ((first | refine t_cond_d rfl ?_ ?_ | refine t_cond_i rfl ?_ ?_ | refine t_cond_j rfl ?_ ?_ | refine t_cond_s rfl ?_ ?_ | refine t_cond_n rfl ?_ ?_ | refine t_cond rfl ?_ ?_ | refine c_split_d rfl rfl ?_ ?_ | refine c_split_i rfl rfl ?_ ?_ | refine c_split_j rfl rfl ?_ ?_ | refine c_split_s rfl rfl ?_ ?_ | refine c_split_n rfl rfl ?_ ?_) <;> intro <;> try (first | (rename_i hz; exact Bool.noConfusion (show true = false from hz)) | (rename_i hz; exact Bool.noConfusion (show false = true from hz)) | (exfalso; omega)))
            | ((first | refine r_val rfl rfl ?_ ?_ | refine r_gval rfl rfl rfl rfl ?_ ?_ | refine r_obj rfl rfl ?_ ?_ | refine r_sto rfl ?_ ?_ | refine r_gobj rfl rfl rfl rfl ?_ ?_); focus (first | omega | exact Nat.le_of_ble_eq_true rfl | ((repeat first | rw [wrap_u8] | rw [IntKind.wrap_i64] | rw [IntKind.wrap_i32] | rw [wrap_u32'] | rw [wrap_u64']); (repeat' refine And.intro ?_ ?_) <;> omega) | ((repeat' refine And.intro ?_ ?_) <;> first | omega | rfl | exact Nat.le_refl _ | exact Nat.le_of_ble_eq_true rfl | exact bytesF_one _) | (simp_all; done) | (simp_all; omega)))
            | refine e_hit rfl ?_ | refine e_miss rfl ?_
            | with_reducible refine ⟨by kernel_rfl, ?_⟩ | refine p_then ?_ | refine p_block ?_ | refine p_endR ⟨_, _, rfl, rfl, _, rfl⟩ | ((with_reducible refine c_grd ?_); (fail_if_success (refine c_lit true rfl rfl rfl ?_)); (fail_if_success (refine c_lit false rfl rfl rfl ?_)); refine c_split rfl rfl (fun _ => ?_) (fun _ => ?_)))
        | inl r =>
          obtain ⟨⟨xk, xy, xn, xd, xe, xt, xl, xs⟩, n⟩ := r
          rw [h2] at w1
          replace w1 : RdE 42 [.pv 13 0, .ag (litC (kindM false) false), .i .u8 (endM false), .i .i64 (d + 1 : Nat)] s j (.inl (.ag [.i .i64 xk, .b xy, .b xn, .s xd, .i .i64 xe, .s xt, .sl 8 xl.length (jF xl), .sl 1 xs.length (txF xs)], n)) := by
            rw [← jC_mk]
            exact w1
          repeat' (first
            | refine r_lend1 (f := 39) 13 rfl rfl Tryd.call39 rfl rfl rfl rfl rfl c1 ?_ | refine r_lend1 (f := 42) 13 rfl rfl Tryd.call42 rfl rfl rfl rfl rfl w1 ?_
            | with_reducible (first | refine t_seq ?_ | refine t_region ?_ | refine c_nil ?_ | refine n_then ?_ | refine t_ret ?_ | refine t_skip ?_ | refine t_exit ?_ | refine t_block ?_ | refine n_block ?_ | refine e_then ?_ | refine x_then ?_ | refine x_block ?_ | refine t_draw ?_)
            | refine r_val rfl rfl True.intro ?_ | refine r_gskip rfl rfl rfl ?_ | refine r_gskip2 rfl rfl rfl ?_ | refine r_gval rfl rfl rfl rfl True.intro ?_
            | refine t_true rfl ?_ | refine t_false rfl ?_
            | ((first | refine t_cond_d rfl ?_ ?_ | refine t_cond_i rfl ?_ ?_ | refine t_cond_j rfl ?_ ?_ | refine t_cond_s rfl ?_ ?_ | refine t_cond_n rfl ?_ ?_ | refine t_cond rfl ?_ ?_ | refine c_split_d rfl rfl ?_ ?_ | refine c_split_i rfl rfl ?_ ?_ | refine c_split_j rfl rfl ?_ ?_ | refine c_split_s rfl rfl ?_ ?_ | refine c_split_n rfl rfl ?_ ?_) <;> intro <;> try (first | (rename_i hz; exact Bool.noConfusion (show true = false from hz)) | (rename_i hz; exact Bool.noConfusion (show false = true from hz)) | (exfalso; omega)))
            | ((first | refine r_val rfl rfl ?_ ?_ | refine r_gval rfl rfl rfl rfl ?_ ?_ | refine r_obj rfl rfl ?_ ?_ | refine r_sto rfl ?_ ?_ | refine r_gobj rfl rfl rfl rfl ?_ ?_); focus (first | omega | exact Nat.le_of_ble_eq_true rfl | ((repeat first | rw [wrap_u8] | rw [IntKind.wrap_i64] | rw [IntKind.wrap_i32] | rw [wrap_u32'] | rw [wrap_u64']); (repeat' refine And.intro ?_ ?_) <;> omega) | ((repeat' refine And.intro ?_ ?_) <;> first | omega | rfl | exact Nat.le_refl _ | exact Nat.le_of_ble_eq_true rfl | exact bytesF_one _) | (simp_all; done) | (simp_all; omega)))
            | refine e_hit rfl ?_ | refine e_miss rfl ?_
            | with_reducible refine ⟨by kernel_rfl, ?_⟩ | refine x_endR rfl ⟨_, _, rfl, ?_, rfl⟩ | refine n_endR rfl ⟨_, _, rfl, ?_, rfl⟩ | ((with_reducible refine c_grd ?_); (fail_if_success (refine c_lit true rfl rfl rfl ?_)); (fail_if_success (refine c_lit false rfl rfl rfl ?_)); refine c_split rfl rfl (fun _ => ?_) (fun _ => ?_)))
          all_goals exact .of_eq (by rw [jC_mk]; rfl)
      rw [if_neg b4]
      by_cases b5 : at' s j = 123
      · rw [if_pos b5]
        have w1 := many_true_jctr s (jval s d) d hs (by omega) (jval_ok s d) ih j q1.2.1
        cases h2 : jmany s (jval s d) true j with
        | inr e =>
          obtain ⟨p, e⟩ := e
          rw [h2] at w1
          repeat' (first
            | (refine t_pan (id := 16) 3 ?_; dsimp only [splitOp]) | refine r_lend1 (f := 39) 13 rfl rfl Tryd.call39 rfl rfl rfl rfl rfl c1 ?_ | refine p_lend1 13 rfl Tryd.call42 rfl rfl rfl rfl w1 ?_
            | with_reducible (first | refine t_seq ?_ | refine t_region ?_ | refine c_nil ?_ | refine n_then ?_ | refine t_ret ?_ | refine t_skip ?_ | refine t_exit ?_ | refine t_block ?_ | refine n_block ?_ | refine e_then ?_ | refine x_then ?_ | refine x_block ?_ | refine t_draw ?_)
            | refine r_val rfl rfl True.intro ?_ | refine r_gskip rfl rfl rfl ?_ | refine r_gskip2 rfl rfl rfl ?_ | refine r_gval rfl rfl rfl rfl True.intro ?_
            | refine t_true rfl ?_ | refine t_false rfl ?_
            | ((first | refine t_cond_d rfl ?_ ?_ | refine t_cond_i rfl ?_ ?_ | refine t_cond_j rfl ?_ ?_ | refine t_cond_s rfl ?_ ?_ | refine t_cond_n rfl ?_ ?_ | refine t_cond rfl ?_ ?_ | refine c_split_d rfl rfl ?_ ?_ | refine c_split_i rfl rfl ?_ ?_ | refine c_split_j rfl rfl ?_ ?_ | refine c_split_s rfl rfl ?_ ?_ | refine c_split_n rfl rfl ?_ ?_) <;> intro <;> try (first | (rename_i hz; exact Bool.noConfusion (show true = false from hz)) | (rename_i hz; exact Bool.noConfusion (show false = true from hz)) | (exfalso; omega)))
            | ((first | refine r_val rfl rfl ?_ ?_ | refine r_gval rfl rfl rfl rfl ?_ ?_ | refine r_obj rfl rfl ?_ ?_ | refine r_sto rfl ?_ ?_ | refine r_gobj rfl rfl rfl rfl ?_ ?_); focus (first | omega | exact Nat.le_of_ble_eq_true rfl | ((repeat first | rw [wrap_u8] | rw [IntKind.wrap_i64] | rw [IntKind.wrap_i32] | rw [wrap_u32'] | rw [wrap_u64']); (repeat' refine And.intro ?_ ?_) <;> omega) | ((repeat' refine And.intro ?_ ?_) <;> first | omega | rfl | exact Nat.le_refl _ | exact Nat.le_of_ble_eq_true rfl | exact bytesF_one _) | (simp_all; done) | (simp_all; omega)))
            | refine e_hit rfl ?_ | refine e_miss rfl ?_
            | with_reducible refine ⟨by kernel_rfl, ?_⟩ | refine p_then ?_ | refine p_block ?_ | refine p_endR ⟨_, _, rfl, rfl, _, rfl⟩ | ((with_reducible refine c_grd ?_); (fail_if_success (refine c_lit true rfl rfl rfl ?_)); (fail_if_success (refine c_lit false rfl rfl rfl ?_)); refine c_split rfl rfl (fun _ => ?_) (fun _ => ?_)))
        | inl r =>
          obtain ⟨⟨xk, xy, xn, xd, xe, xt, xl, xs⟩, n⟩ := r
          rw [h2] at w1
          replace w1 : RdE 42 [.pv 13 0, .ag (litC (kindM true) false), .i .u8 (endM true), .i .i64 (d + 1 : Nat)] s j (.inl (.ag [.i .i64 xk, .b xy, .b xn, .s xd, .i .i64 xe, .s xt, .sl 8 xl.length (jF xl), .sl 1 xs.length (txF xs)], n)) := by
            rw [← jC_mk]
            exact w1
          repeat' (first
            | refine r_lend1 (f := 39) 13 rfl rfl Tryd.call39 rfl rfl rfl rfl rfl c1 ?_ | refine r_lend1 (f := 42) 13 rfl rfl Tryd.call42 rfl rfl rfl rfl rfl w1 ?_
            | with_reducible (first | refine t_seq ?_ | refine t_region ?_ | refine c_nil ?_ | refine n_then ?_ | refine t_ret ?_ | refine t_skip ?_ | refine t_exit ?_ | refine t_block ?_ | refine n_block ?_ | refine e_then ?_ | refine x_then ?_ | refine x_block ?_ | refine t_draw ?_)
            | refine r_val rfl rfl True.intro ?_ | refine r_gskip rfl rfl rfl ?_ | refine r_gskip2 rfl rfl rfl ?_ | refine r_gval rfl rfl rfl rfl True.intro ?_
            | refine t_true rfl ?_ | refine t_false rfl ?_
            | ((first | refine t_cond_d rfl ?_ ?_ | refine t_cond_i rfl ?_ ?_ | refine t_cond_j rfl ?_ ?_ | refine t_cond_s rfl ?_ ?_ | refine t_cond_n rfl ?_ ?_ | refine t_cond rfl ?_ ?_ | refine c_split_d rfl rfl ?_ ?_ | refine c_split_i rfl rfl ?_ ?_ | refine c_split_j rfl rfl ?_ ?_ | refine c_split_s rfl rfl ?_ ?_ | refine c_split_n rfl rfl ?_ ?_) <;> intro <;> try (first | (rename_i hz; exact Bool.noConfusion (show true = false from hz)) | (rename_i hz; exact Bool.noConfusion (show false = true from hz)) | (exfalso; omega)))
            | ((first | refine r_val rfl rfl ?_ ?_ | refine r_gval rfl rfl rfl rfl ?_ ?_ | refine r_obj rfl rfl ?_ ?_ | refine r_sto rfl ?_ ?_ | refine r_gobj rfl rfl rfl rfl ?_ ?_); focus (first | omega | exact Nat.le_of_ble_eq_true rfl | ((repeat first | rw [wrap_u8] | rw [IntKind.wrap_i64] | rw [IntKind.wrap_i32] | rw [wrap_u32'] | rw [wrap_u64']); (repeat' refine And.intro ?_ ?_) <;> omega) | ((repeat' refine And.intro ?_ ?_) <;> first | omega | rfl | exact Nat.le_refl _ | exact Nat.le_of_ble_eq_true rfl | exact bytesF_one _) | (simp_all; done) | (simp_all; omega)))
            | refine e_hit rfl ?_ | refine e_miss rfl ?_
            | with_reducible refine ⟨by kernel_rfl, ?_⟩ | refine x_endR rfl ⟨_, _, rfl, ?_, rfl⟩ | refine n_endR rfl ⟨_, _, rfl, ?_, rfl⟩ | ((with_reducible refine c_grd ?_); (fail_if_success (refine c_lit true rfl rfl rfl ?_)); (fail_if_success (refine c_lit false rfl rfl rfl ?_)); refine c_split rfl rfl (fun _ => ?_) (fun _ => ?_)))
          all_goals exact .of_eq (by rw [jC_mk]; rfl)
      rw [if_neg b5]
      have w1 := number_jctr s j hs hjl
      unfold jnum at w1 ⊢
      by_cases hz : (parseG powP (s.drop j)).2.2 = 0
      · rw [if_pos hz] at w1 ⊢
        have hw := num_weak (parseG powP (s.drop j)).1
        repeat' (first
          | refine r_lend1 (f := 39) 13 rfl rfl Tryd.call39 rfl rfl rfl rfl rfl c1 ?_ | refine r_lend1 (f := 43) 13 rfl rfl Tryd.call43 rfl rfl rfl rfl rfl w1 ?_
          | with_reducible (first | refine t_seq ?_ | refine t_region ?_ | refine c_nil ?_ | refine n_then ?_ | refine t_ret ?_ | refine t_skip ?_ | refine t_exit ?_ | refine t_block ?_ | refine n_block ?_ | refine e_then ?_ | refine x_then ?_ | refine x_block ?_ | refine t_draw ?_)
          | refine r_val rfl rfl True.intro ?_ | refine r_gskip rfl rfl rfl ?_ | refine r_gskip2 rfl rfl rfl ?_ | refine r_gval rfl rfl rfl rfl True.intro ?_
          | refine t_true rfl ?_ | refine t_false rfl ?_
          | ((first | refine t_cond_d rfl ?_ ?_ | refine t_cond_i rfl ?_ ?_ | refine t_cond_j rfl ?_ ?_ | refine t_cond_s rfl ?_ ?_ | refine t_cond_n rfl ?_ ?_ | refine t_cond rfl ?_ ?_ | refine c_split_d rfl rfl ?_ ?_ | refine c_split_i rfl rfl ?_ ?_ | refine c_split_j rfl rfl ?_ ?_ | refine c_split_s rfl rfl ?_ ?_ | refine c_split_n rfl rfl ?_ ?_) <;> intro <;> try (first | (rename_i hz; exact Bool.noConfusion (show true = false from hz)) | (rename_i hz; exact Bool.noConfusion (show false = true from hz)) | (exfalso; omega)))
          | ((first | refine r_val rfl rfl ?_ ?_ | refine r_gval rfl rfl rfl rfl ?_ ?_ | refine r_obj rfl rfl ?_ ?_ | refine r_sto rfl ?_ ?_ | refine r_gobj rfl rfl rfl rfl ?_ ?_); focus (first | omega | exact Nat.le_of_ble_eq_true rfl | ((repeat first | rw [wrap_u8] | rw [IntKind.wrap_i64] | rw [IntKind.wrap_i32] | rw [wrap_u32'] | rw [wrap_u64']); (repeat' refine And.intro ?_ ?_) <;> omega) | ((repeat' refine And.intro ?_ ?_) <;> first | omega | rfl | exact Nat.le_refl _ | exact Nat.le_of_ble_eq_true rfl | exact bytesF_one _) | (simp_all; done) | (simp_all; omega)))
          | refine e_hit rfl ?_ | refine e_miss rfl ?_
          | with_reducible refine ⟨by kernel_rfl, ?_⟩ | refine x_endR rfl ⟨_, _, rfl, ?_, rfl⟩ | refine n_endR rfl ⟨_, _, rfl, ?_, rfl⟩ | ((with_reducible refine c_grd ?_); (fail_if_success (refine c_lit true rfl rfl rfl ?_)); (fail_if_success (refine c_lit false rfl rfl rfl ?_)); refine c_split rfl rfl (fun _ => ?_) (fun _ => ?_)))
        all_goals exact hw
      · rw [if_neg hz] at w1 ⊢
        repeat' (first
          | (refine t_pan (id := 17) 1 ?_; dsimp only [splitOp]) | refine r_lend1 (f := 39) 13 rfl rfl Tryd.call39 rfl rfl rfl rfl rfl c1 ?_ | refine p_lend1 13 rfl Tryd.call43 rfl rfl rfl rfl w1 ?_
          | with_reducible (first | refine t_seq ?_ | refine t_region ?_ | refine c_nil ?_ | refine n_then ?_ | refine t_ret ?_ | refine t_skip ?_ | refine t_exit ?_ | refine t_block ?_ | refine n_block ?_ | refine e_then ?_ | refine x_then ?_ | refine x_block ?_ | refine t_draw ?_)
          | refine r_val rfl rfl True.intro ?_ | refine r_gskip rfl rfl rfl ?_ | refine r_gskip2 rfl rfl rfl ?_ | refine r_gval rfl rfl rfl rfl True.intro ?_
          | refine t_true rfl ?_ | refine t_false rfl ?_
          | ((first | refine t_cond_d rfl ?_ ?_ | refine t_cond_i rfl ?_ ?_ | refine t_cond_j rfl ?_ ?_ | refine t_cond_s rfl ?_ ?_ | refine t_cond_n rfl ?_ ?_ | refine t_cond rfl ?_ ?_ | refine c_split_d rfl rfl ?_ ?_ | refine c_split_i rfl rfl ?_ ?_ | refine c_split_j rfl rfl ?_ ?_ | refine c_split_s rfl rfl ?_ ?_ | refine c_split_n rfl rfl ?_ ?_) <;> intro <;> try (first | (rename_i hz; exact Bool.noConfusion (show true = false from hz)) | (rename_i hz; exact Bool.noConfusion (show false = true from hz)) | (exfalso; omega)))
          | ((first | refine r_val rfl rfl ?_ ?_ | refine r_gval rfl rfl rfl rfl ?_ ?_ | refine r_obj rfl rfl ?_ ?_ | refine r_sto rfl ?_ ?_ | refine r_gobj rfl rfl rfl rfl ?_ ?_); focus (first | omega | exact Nat.le_of_ble_eq_true rfl | ((repeat first | rw [wrap_u8] | rw [IntKind.wrap_i64] | rw [IntKind.wrap_i32] | rw [wrap_u32'] | rw [wrap_u64']); (repeat' refine And.intro ?_ ?_) <;> omega) | ((repeat' refine And.intro ?_ ?_) <;> first | omega | rfl | exact Nat.le_refl _ | exact Nat.le_of_ble_eq_true rfl | exact bytesF_one _) | (simp_all; done) | (simp_all; omega)))
          | refine e_hit rfl ?_ | refine e_miss rfl ?_
          | with_reducible refine ⟨by kernel_rfl, ?_⟩ | refine p_then ?_ | refine p_block ?_ | refine p_endR ⟨_, _, rfl, rfl, _, rfl⟩ | ((with_reducible refine c_grd ?_); (fail_if_success (refine c_lit true rfl rfl rfl ?_)); (fail_if_success (refine c_lit false rfl rfl rfl ?_)); refine c_split rfl rfl (fun _ => ?_) (fun _ => ?_)))

end Go.Proofs.YtbegohehjkjnmaaDoor.Flow

/- JSON: the document's skip, begins, place. -/
namespace Go.Proofs.YtbegohehjkjnmaaDoor.Flow
open Go

end Go.Proofs.YtbegohehjkjnmaaDoor.Flow

/- DEC: the reference: digits, the form, the exponent. -/
namespace Go.Proofs.YtbegohehjkjnmaaDoor.Flow
open Go

end Go.Proofs.YtbegohehjkjnmaaDoor.Flow

/- DEC: the reference's Parse. -/
namespace Go.Proofs.YtbegohehjkjnmaaDoor.Flow
open Go

end Go.Proofs.YtbegohehjkjnmaaDoor.Flow

/- UTF: the page's example; UtfValid's function. -/
namespace Go.Proofs.YtbegohehjkjnmaaDoor.Flow
open Go

end Go.Proofs.YtbegohehjkjnmaaDoor.Flow

/- UTF: what the reference reads behind a backslash and u, beside what the program reads. -/
namespace Go.Proofs.YtbegohehjkjnmaaDoor.Flow
open Go

/-- The reference: a code point, the place behind, what is wrong. -/
def codeR (s : List UInt8) (i : Int) : Int × Int × Int :=
  if (fourG s 4 0 i).2.2 = 0 then
    (if 56320 ≤ (fourG s 4 0 i).1 ∧ (fourG s 4 0 i).1 < 57344 then (0, 0, 3)
    else if (fourG s 4 0 i).1 < 55296 ∨ 57344 ≤ (fourG s 4 0 i).1 then ((fourG s 4 0 i).1, i + 4, 0)
    else if i + 4 < s.length then
      (if at' s (i + 4) = 92 then
        (if i + 5 < s.length then
          (if at' s (i + 5) = 117 then
            (if (fourG s 4 0 (i + 6)).2.2 = 0 then
              (if (fourG s 4 0 (i + 6)).1 < 56320 ∨ 57344 ≤ (fourG s 4 0 (i + 6)).1 then (0, 0, 3) else (pairF (fourG s 4 0 i).1 (fourG s 4 0 (i + 6)).1, i + 10, 0))
            else (0, 0, (fourG s 4 0 (i + 6)).2.2))
          else (0, 0, 3))
        else (0, 0, 2))
      else (0, 0, 3))
    else (0, 0, 2))
  else (0, 0, (fourG s 4 0 i).2.2)

end Go.Proofs.YtbegohehjkjnmaaDoor.Flow

/- UTF: a text in quotes, and read again. -/
namespace Go.Proofs.YtbegohehjkjnmaaDoor.Flow
open Go

/-- A digit as a letter. -/
def hexD (n : Int) : UInt8 := by8 (if n < 10 then 48 + n else 87 + n)

/-- A byte as JSON writes it. -/
def qI (n : Int) : List UInt8 :=
  if n = 8 then [92, 98] else if n = 9 then [92, 116] else if n = 10 then [92, 110] else if n = 12 then [92, 102] else if n = 13 then [92, 114]
  else if n = 34 then [92, 34] else if n = 92 then [92, 92] else if n < 32 then [92, 117, 48, 48, hexD (n / 16), hexD (n % 16)] else [by8 n]

def qL : List UInt8 → List UInt8
  | [] => []
  | c :: r => qI (c.toNat : Int) ++ qL r

def quoteL (s : List UInt8) : List UInt8 := if validL s = true then [34] ++ qL s ++ [34] else []

theorem by8_self (c : UInt8) : by8 (c.toNat : Int) = c := by simp [by8]

theorem dropAt {t rest : List UInt8} {c : UInt8} {p : Nat} (h : t.drop p = c :: rest) : at' t (p : Int) = (c.toNat : Int) ∧ p < t.length ∧ t.drop (p + 1) = rest := by
  have hp : p < t.length := by
    have : (t.drop p).length = rest.length + 1 := by rw [h]; rfl
    simp at this
    omega
  have hg : t[p] = c := by
    have : (t.drop p)[0]? = some c := by rw [h]; rfl
    simpa [hp] using this
  refine ⟨?_, hp, ?_⟩
  · simp [at', hp, hg, List.getD_eq_getElem?_getD]
  · rw [← List.drop_drop, h]
    rfl

theorem hexF_D (n : Int) (h0 : 0 ≤ n) (h1 : n < 16) : hexF ((hexD n).toNat : Int) = n := by
  unfold hexD
  rw [by8_nat _ (by split <;> omega) (by split <;> omega)]
  exact hexF_lo _ n h0 h1 (.inl rfl)

theorem four_hex (t rest : List UInt8) (p : Nat) (a b c d : UInt8) (h : t.drop p = a :: b :: c :: d :: rest) (ha : 0 ≤ hexF (a.toNat : Int)) (hb : 0 ≤ hexF (b.toNat : Int)) (hc : 0 ≤ hexF (c.toNat : Int)) (hd : 0 ≤ hexF (d.toNat : Int)) :
    fourG t 4 0 (p : Int) = (16 * (16 * (16 * (16 * 0 + hexF (a.toNat : Int)) + hexF (b.toNat : Int)) + hexF (c.toNat : Int)) + hexF (d.toNat : Int), (p : Int) + 4, 0) := by
  obtain ⟨a1, a2, a3⟩ := dropAt h
  obtain ⟨b1, b2, b3⟩ := dropAt a3
  obtain ⟨c1, c2, c3⟩ := dropAt b3
  obtain ⟨d1, d2, d3⟩ := dropAt c3
  rw [show (((p + 1 : Nat)) : Int) = (p : Int) + 1 by omega] at b1
  rw [show (((p + 1 + 1 : Nat)) : Int) = (p : Int) + 1 + 1 by omega] at c1
  rw [show (((p + 1 + 1 + 1 : Nat)) : Int) = (p : Int) + 1 + 1 + 1 by omega] at d1
  rw [fourG_more (by omega) (by rw [a1]; omega), a1, fourG_more (by omega) (by rw [b1]; omega), b1, fourG_more (by omega) (by rw [c1]; omega), c1, fourG_more (by omega) (by rw [d1]; omega), d1]
  show (_, _, _) = (_, _, _)
  rw [show (p : Int) + 1 + 1 + 1 + 1 = p + 4 by omega]

/-- One step of the reader over a byte as JSON writes it. -/
theorem unq_step (t rest o : List UInt8) (c : UInt8) (p n : Nat) (h : t.drop p = qI (c.toNat : Int) ++ rest) :
    unqG t (n + 1) (p : Int) o = unqG t n ((p + (qI (c.toNat : Int)).length : Nat) : Int) (o ++ [c]) := by
  have hc : (c.toNat : Int) < 256 := by have := c.toNat_lt; omega
  have key : ∀ (k v : UInt8), qI (c.toNat : Int) = [92, k] → ¬ (k.toNat : Int) = 117 → escE (k.toNat : Int) = 0 → by8 (escV (k.toNat : Int)) = c → unqG t (n + 1) (p : Int) o = unqG t n ((p + (qI (c.toNat : Int)).length : Nat) : Int) (o ++ [c]) := by
    intro k v hq hk he hv
    rw [hq] at h ⊢
    obtain ⟨a1, a2, a3⟩ := dropAt (show t.drop p = 92 :: (k :: rest) from h)
    obtain ⟨b1, b2, b3⟩ := dropAt a3
    rw [show (((p + 1 : Nat)) : Int) = (p : Int) + 1 by omega] at b1
    have e : escP t ((p : Int) + 1) o = ((p : Int) + 2, o ++ [c], 0) := by
      unfold escP
      rw [if_pos (by omega), b1, if_neg hk, he, hv, show (p : Int) + 1 + 1 = p + 2 by omega]
    rw [unqG_esc (by omega) a1, e]
    rfl
  by_cases c8 : (c.toNat : Int) = 8
  · exact key 98 0 (by unfold qI; rw [if_pos c8]) (by decide) (by decide) (by rw [← by8_self c, c8]; decide)
  by_cases c9 : (c.toNat : Int) = 9
  · exact key 116 0 (by unfold qI; rw [if_neg c8, if_pos c9]) (by decide) (by decide) (by rw [← by8_self c, c9]; decide)
  by_cases c10 : (c.toNat : Int) = 10
  · exact key 110 0 (by unfold qI; rw [if_neg c8, if_neg c9, if_pos c10]) (by decide) (by decide) (by rw [← by8_self c, c10]; decide)
  by_cases c12 : (c.toNat : Int) = 12
  · exact key 102 0 (by unfold qI; rw [if_neg c8, if_neg c9, if_neg c10, if_pos c12]) (by decide) (by decide) (by rw [← by8_self c, c12]; decide)
  by_cases c13 : (c.toNat : Int) = 13
  · exact key 114 0 (by unfold qI; rw [if_neg c8, if_neg c9, if_neg c10, if_neg c12, if_pos c13]) (by decide) (by decide) (by rw [← by8_self c, c13]; decide)
  by_cases c34 : (c.toNat : Int) = 34
  · exact key 34 0 (by unfold qI; rw [if_neg c8, if_neg c9, if_neg c10, if_neg c12, if_neg c13, if_pos c34]) (by decide) (by decide) (by rw [← by8_self c, c34]; decide)
  by_cases c92 : (c.toNat : Int) = 92
  · exact key 92 0 (by unfold qI; rw [if_neg c8, if_neg c9, if_neg c10, if_neg c12, if_neg c13, if_neg c34, if_pos c92]) (by decide) (by decide) (by rw [← by8_self c, c92]; decide)
  clear key
  by_cases c32 : (c.toNat : Int) < 32
  · have hq : qI (c.toNat : Int) = [92, 117, 48, 48, hexD ((c.toNat : Int) / 16), hexD ((c.toNat : Int) % 16)] := by
      unfold qI
      rw [if_neg c8, if_neg c9, if_neg c10, if_neg c12, if_neg c13, if_neg c34, if_neg c92, if_pos c32]
    rw [hq] at h ⊢
    obtain ⟨a1, a2, a3⟩ := dropAt (show t.drop p = 92 :: (117 :: 48 :: 48 :: hexD ((c.toNat : Int) / 16) :: hexD ((c.toNat : Int) % 16) :: rest) from h)
    obtain ⟨b1, b2, b3⟩ := dropAt a3
    have d1 := hexF_D ((c.toNat : Int) / 16) (by omega) (by omega)
    have d2 := hexF_D ((c.toNat : Int) % 16) (by omega) (by omega)
    have h48 : hexF (((48 : UInt8).toNat : Nat) : Int) = 0 := by decide
    have hf := four_hex t rest (p + 1 + 1) 48 48 _ _ b3 (by omega) (by omega) (by omega) (by omega)
    rw [d1, d2, h48, show 16 * (16 * (16 * (16 * 0 + 0) + 0) + (c.toNat : Int) / 16) + (c.toNat : Int) % 16 = c.toNat by omega, show ((p + 1 + 1 : Nat) : Int) = (p : Int) + 1 + 1 by omega] at hf
    rw [show (((p + 1 : Nat)) : Int) = (p : Int) + 1 by omega] at b1
    have e : escP t ((p : Int) + 1) o = ((p : Int) + 6, o ++ [c], 0) := by
      unfold escP
      rw [if_pos (by omega), b1, if_pos (by decide), codeP_one hf (by omega), utfB_1 (by omega), by8_self, show (p : Int) + 1 + 1 + 4 = p + 6 by omega]
    rw [unqG_esc (by omega) a1, e]
    rfl
  · have hq : qI (c.toNat : Int) = [c] := by
      unfold qI
      rw [if_neg c8, if_neg c9, if_neg c10, if_neg c12, if_neg c13, if_neg c34, if_neg c92, if_neg c32, by8_self]
    rw [hq] at h ⊢
    obtain ⟨a1, a2, a3⟩ := dropAt (show t.drop p = c :: rest from h)
    rw [unqG_more (by omega) (by rw [a1]; exact c34) (by rw [a1]; exact c92) (by rw [a1]; exact c32), a1, by8_self]
    rfl

theorem unq_quoted (t behind : List UInt8) : ∀ (r o : List UInt8) (p n : Nat), t.drop p = qL r ++ 34 :: behind → t.length + 1 ≤ p + n → validL (o ++ r) = true → unqG t n (p : Int) o = (o ++ r, ((p + (qL r).length : Nat) : Int) + 1, 0)
  | [], o, p, n, h, hn, hv => by
    obtain ⟨a1, a2, a3⟩ := dropAt (show t.drop p = 34 :: behind from h)
    obtain ⟨n, rfl⟩ : ∃ k, n = k + 1 := ⟨n - 1, by omega⟩
    rw [List.append_nil] at hv ⊢
    rw [unqG_quote (by omega) a1 hv]
    rfl
  | c :: r, o, p, n, h, hn, hv => by
    have h2 : t.drop p = qI (c.toNat : Int) ++ (qL r ++ 34 :: behind) := by rw [h]; simp [qL]
    have hp : p < t.length := by
      by_cases hp : p < t.length
      · exact hp
      · rw [List.drop_eq_nil_of_le (by omega)] at h
        have := congrArg List.length h
        simp at this
    obtain ⟨n, rfl⟩ : ∃ k, n = k + 1 := ⟨n - 1, by omega⟩
    rw [unq_step t _ o c p n h2]
    have hl : 1 ≤ (qI (c.toNat : Int)).length := by
      unfold qI
      (repeat' split) <;> simp
    rw [unq_quoted t behind r (o ++ [c]) (p + (qI (c.toNat : Int)).length) n (by rw [← List.drop_drop, h2, List.drop_left]) (by omega) (by simpa using hv)]
    simp only [qL, List.length_append, List.append_assoc, List.cons_append, List.nil_append]
    congr 2
    omega

theorem unq_quote (s ahead behind : List UInt8) (hv : validL s = true) : unqF (ahead ++ quoteL s ++ behind) ahead.length = (s, (ahead.length : Int) + (quoteL s).length, 0) := by
  have hq : quoteL s = [34] ++ qL s ++ [34] := if_pos hv
  rw [hq]
  generalize ht : ahead ++ ([34] ++ qL s ++ [34]) ++ behind = t
  have hd : t.drop ahead.length = 34 :: (qL s ++ 34 :: behind) := by
    rw [← ht, List.append_assoc, List.drop_left]
    simp
  obtain ⟨a1, a2, a3⟩ := dropAt hd
  have hm : mustF t (ahead.length : Int) 0 34 = ((ahead.length : Int) + 1, 0) := by
    unfold mustF
    rw [nextF_ok rfl (by omega)]
    dsimp only
    rw [if_pos (by rw [a1]; rfl)]
  unfold unqF
  rw [if_neg (by omega), hm]
  dsimp only
  rw [if_pos rfl]
  have := unq_quoted t behind s [] (ahead.length + 1) (t.length + 1 - ((ahead.length : Int) + 1).toNat) a3 (by omega) hv
  rw [show (((ahead.length + 1 : Nat)) : Int) = (ahead.length : Int) + 1 by omega] at this
  rw [this]
  simp
  omega

end Go.Proofs.YtbegohehjkjnmaaDoor.Flow

/- UTF: the reference: four digits, a code point, its bytes. -/
namespace Go.Proofs.YtbegohehjkjnmaaDoor.Flow
open Go

end Go.Proofs.YtbegohehjkjnmaaDoor.Flow

/- UTF: the reference: a code point in one part or two. -/
namespace Go.Proofs.YtbegohehjkjnmaaDoor.Flow
open Go

end Go.Proofs.YtbegohehjkjnmaaDoor.Flow

/- UTF: the reference: a text in quotes. -/
namespace Go.Proofs.YtbegohehjkjnmaaDoor.Flow
open Go

abbrev escFrom : List UInt8 := [34, 92, 47, 98, 102, 110, 114, 116]
abbrev escTo : List UInt8 := [34, 92, 47, 8, 12, 10, 13, 9]

/-- The last of so many letters that is this one; -1: none. -/
def whichF (k : Int) : Nat → Int
  | 0 => -1
  | j + 1 => if at' escFrom j = k then j else whichF k j

end Go.Proofs.YtbegohehjkjnmaaDoor.Flow

/- JSON: the document's value, given its lists and maps. -/
namespace Go.Proofs.YtbegohehjkjnmaaDoor.Flow
open Go

/-- What the document answers. -/
def rjD : JR → D
  | .inl (x, n) => .tu [.ag (jC x), .i .i64 n, .i .i64 0]
  | .inr (p, e) => .tu [.ag (jC j0), .i .i64 p, .i .i64 e]
theorem jC_j0 : jC j0 = [.i .i64 0, .b false, .b false, .s [], .i .i64 0, .s [], .sl 8 0 (jF []), .sl 1 0 (txF [])] := by
  unfold j0
  rw [jC_mk]
  rfl
theorem rj_err (p e : Int) : Weak (.tu [.ag j0C, .i .i64 p, .i .i64 e]) (.tu [.ag (jC j0), .i .i64 p, .i .i64 e]) := .tu3 (lit_weak 0 false) (.refl _) (.refl _)
theorem rj_lit (k : Int) (y : Bool) (n : Int) (m : Nat) (h : n = m) : Weak (.tu [.ag (litC k y), .i .i64 n, .i .i64 0]) (rjD (.inl (litJ k y, m))) := by
  subst h
  exact .tu3 (lit_weak k y) (.refl _) (.refl _)

/-- Why a text is none is no nought. -/
def ErrOk (val : Nat → JR) : Prop := ∀ i p e, val i = .inr (p, e) → ¬ e = 0
theorem jpeek_err {s : List UInt8} {i p : Nat} {e : Int} (h : jpeek s i = .inr (p, e)) : ¬ e = 0 := by
  unfold jpeek at h
  split at h <;> cases h
  decide
theorem jtext_err {s : List UInt8} {i p : Nat} {e : Int} (h : jtext s i = .inr (p, e)) : ¬ e = 0 := by
  unfold jtext at h
  split at h
  · cases h
  · cases h
    assumption
theorem jnum_err {s : List UInt8} {i p : Nat} {e : Int} (h : jnum s i = .inr (p, e)) : ¬ e = 0 := by
  unfold jnum at h
  split at h
  · cases h
  · cases h
    assumption
theorem jkey_err {s : List UInt8} {i p : Nat} {ks : List (List UInt8)} {e : Int} (h : jkey s i ks = .inr (p, e)) : ¬ e = 0 := by
  unfold jkey at h
  cases h1 : jpeek s i with
  | inr x => rw [h1] at h; cases h; exact jpeek_err h1
  | inl j =>
    rw [h1] at h
    dsimp only at h
    split at h
    · cases h; decide
    · cases h2 : jtext s j with
      | inr x => rw [h2] at h; cases h; exact jtext_err h2
      | inl r =>
        obtain ⟨k, n⟩ := r
        rw [h2] at h
        dsimp only at h
        split at h
        · cases h; decide
        · cases h3 : jpeek s n with
          | inr x => rw [h3] at h; cases h; exact jpeek_err h3
          | inl m =>
            rw [h3] at h
            dsimp only at h
            split at h <;> cases h
            decide
theorem jgo_err {s : List UInt8} {val : Nat → JR} (hv : ErrOk val) {mp : Bool} : ∀ (m i : Nat) (l : List J) (ks : List (List UInt8)) (p : Nat) (e : Int), s.length - i < m → jgo s val mp i l ks = .inr (p, e) → ¬ e = 0 := by
  intro m
  induction m with
  | zero => intro i l ks p e hm h; omega
  | succ m ih =>
    intro i l ks p e hm h
    rw [jgo] at h
    cases h1 : jkeys s mp i ks with
    | inr x =>
      rw [h1] at h
      cases h
      unfold jkeys at h1
      split at h1
      · cases h2 : jkey s i ks with
        | inr x => rw [h2] at h1; cases h1; exact jkey_err h2
        | inl r => rw [h2] at h1; cases h1
      · cases h1
    | inl r =>
      obtain ⟨ks', i1⟩ := r
      rw [h1] at h
      dsimp only at h
      cases h2 : val i1 with
      | inr x => rw [h2] at h; cases h; exact hv _ _ _ h2
      | inl r =>
        obtain ⟨y, i2⟩ := r
        rw [h2] at h
        dsimp only at h
        cases h3 : jpeek s i2 with
        | inr x => rw [h3] at h; cases h; exact jpeek_err h3
        | inl i3 =>
          rw [h3] at h
          dsimp only at h
          split at h
          · cases h
          · split at h
            · split at h
              · exact ih _ _ _ _ _ (by omega) h
              · cases h; decide
            · cases h; decide
theorem jmany_err {s : List UInt8} {val : Nat → JR} (hv : ErrOk val) {mp : Bool} {i p : Nat} {e : Int} (h : jmany s val mp i = .inr (p, e)) : ¬ e = 0 := by
  unfold jmany at h
  cases h1 : jpeek s (i + 1) with
  | inr x => rw [h1] at h; cases h; exact jpeek_err h1
  | inl j =>
    rw [h1] at h
    dsimp only at h
    split at h
    · cases h
    · exact jgo_err hv _ _ _ _ _ _ (Nat.lt_succ_self _) h
theorem jval_err (s : List UInt8) : ∀ d, ErrOk (jval s d) := by
  intro d
  induction d with
  | zero =>
    intro i p e h
    unfold jval at h
    cases h1 : jpeek s i with
    | inr x => rw [h1] at h; cases h; exact jpeek_err h1
    | inl j => rw [h1] at h; cases h; decide
  | succ d ih =>
    intro i p e h
    unfold jval at h
    cases h1 : jpeek s i with
    | inr x => rw [h1] at h; cases h; exact jpeek_err h1
    | inl j =>
      rw [h1] at h
      dsimp only at h
      unfold jword at h
      split at h
      · split at h <;> cases h
        decide
      · split at h
        · split at h <;> cases h
          decide
        · split at h
          · split at h <;> cases h
            decide
          · split at h
            · cases h2 : jtext s j with
              | inr x => rw [h2] at h; cases h; exact jtext_err h2
              | inl r => rw [h2] at h; cases h
            · split at h
              · exact jmany_err ih h
              · split at h
                · exact jmany_err ih h
                · exact jnum_err h

end Go.Proofs.YtbegohehjkjnmaaDoor.Flow

/- JSON: the document's lists and maps. -/
namespace Go.Proofs.YtbegohehjkjnmaaDoor.Flow
open Go

end Go.Proofs.YtbegohehjkjnmaaDoor.Flow
