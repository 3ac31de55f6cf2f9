/- The texts RJ6, RJ12, RJ13, RJ15, one behind the other. -/
import Derived.Test.YtbegohehjkjnmaaDoorMR18
namespace Go.Proofs.YtbegohehjkjnmaaDoor.Flow
open Go

theorem cells_weak (k : Int) (y n : Bool) (d : List UInt8) (e : Int) (t : List UInt8) : Weak (.ag [.i .i64 k, .b y, .b n, .s d, .i .i64 e, .s t, .nilS, .nilS]) (.ag (jC (.mk k y n d e t [] []))) := by
  rw [jC_mk]
  refine .ag _ _ rfl fun j hj => ?_
  match j, hj with
  | 0, _ => exact .refl _
  | 1, _ => exact .refl _
  | 2, _ => exact .refl _
  | 3, _ => exact .refl _
  | 4, _ => exact .refl _
  | 5, _ => exact .refl _
  | 6, _ => exact .nil 8 _
  | 7, _ => exact .nil 1 _

set_option maxRecDepth 100000 in
set_option maxHeartbeats 8000000 in
theorem value_jctr (s : List UInt8) (hs : s.length ≤ 1048576) : ∀ d : Nat, d ≤ 100 → ∀ i, i ≤ s.length → RdE 25 [.pv 13 0, .i .i64 d] s i (valD (jval s d i)) := by
  intro d
  induction d with
  | zero =>
    intro _ i hi
    refine r_methR Tryd.func25 rfl Tryd.ntmps25 Tryd.results25 rfl valD_ok fun X hL hX => ?_
    have c1 := jpeek_ctr s i hs hi
    unfold jval
    cases h1 : jpeek s i with
    | inr e =>
      obtain ⟨p, e⟩ := e
      rw [h1] at c1
      repeat' (first |(refine t_pan (id := 1) 1 ?_;dsimp only [splitOp])|refine p_lend1 13 rfl Tryd.call39 rfl rfl rfl rfl c1 ?_|with_reducible (first |refine t_seq ?_|refine t_region ?_|refine c_nil ?_|refine n_then ?_|refine t_ret ?_|refine t_skip ?_|refine t_exit ?_|refine t_block ?_|refine n_block ?_|refine e_then ?_|refine x_then ?_|refine x_block ?_|refine t_draw ?_)|refine r_val rfl rfl True.intro ?_|refine r_gskip rfl rfl rfl ?_|refine r_gskip2 rfl rfl rfl ?_|refine r_gval rfl rfl rfl rfl True.intro ?_|refine t_true rfl ?_|refine t_false rfl ?_|((first |refine t_cond_d rfl ?_ ?_|refine t_cond_i rfl ?_ ?_|refine t_cond_j rfl ?_ ?_|refine t_cond_s rfl ?_ ?_|refine t_cond_n rfl ?_ ?_|refine t_cond rfl ?_ ?_|refine c_split_d rfl rfl ?_ ?_|refine c_split_i rfl rfl ?_ ?_|refine c_split_j rfl rfl ?_ ?_|refine c_split_s rfl rfl ?_ ?_|refine c_split_n rfl rfl ?_ ?_)<;>intro<;>try (first |(rename_i hz;first |exact tf_ hz|exact ft_ hz)|(exfalso;omega)))|((first |refine r_val rfl rfl ?_ ?_|refine r_gval rfl rfl rfl rfl ?_ ?_|refine r_obj rfl rfl ?_ ?_|refine r_sto rfl ?_ ?_|refine r_gobj rfl rfl rfl rfl ?_ ?_);focus (first |omega|exact le_ rfl|((repeat first |rw [wrap_u8]|rw [IntKind.wrap_i64]|rw [IntKind.wrap_i32]|rw [wrap_u32']|rw [wrap_u64']);(repeat' refine And.intro ?_ ?_)<;>omega)|((repeat' refine And.intro ?_ ?_)<;>first |omega|rfl|exact Nat.le_refl _|exact le_ rfl|exact bytesF_one _)|(simp_all;done)|(simp_all;omega)))|refine e_hit rfl ?_|refine e_miss rfl ?_|with_reducible refine ⟨by kernel_rfl, ?_⟩|refine p_then ?_|refine p_block ?_|refine p_endR ⟨_, _, rfl, rfl, _, rfl⟩|((with_reducible refine c_grd ?_);(fail_if_success (refine c_lit true rfl rfl rfl ?_));(fail_if_success (refine c_lit false rfl rfl rfl ?_));refine c_split rfl rfl (fun _ => ?_) (fun _ => ?_)))
    | inl j =>
      rw [h1] at c1
      dsimp only
      have c5 := jfail_ctr j 9
      repeat' (first |(refine t_pan (id := 3) 4 ?_;dsimp only [splitOp])|refine r_lend1 (f := 39) 13 rfl rfl Tryd.call39 rfl rfl rfl rfl rfl c1 ?_|refine p_call rfl Tryd.call27 rfl c5 ?_|with_reducible (first |refine t_seq ?_|refine t_region ?_|refine c_nil ?_|refine n_then ?_|refine t_ret ?_|refine t_skip ?_|refine t_exit ?_|refine t_block ?_|refine n_block ?_|refine e_then ?_|refine x_then ?_|refine x_block ?_|refine t_draw ?_)|refine r_val rfl rfl True.intro ?_|refine r_gskip rfl rfl rfl ?_|refine r_gskip2 rfl rfl rfl ?_|refine r_gval rfl rfl rfl rfl True.intro ?_|refine t_true rfl ?_|refine t_false rfl ?_|((first |refine t_cond_d rfl ?_ ?_|refine t_cond_i rfl ?_ ?_|refine t_cond_j rfl ?_ ?_|refine t_cond_s rfl ?_ ?_|refine t_cond_n rfl ?_ ?_|refine t_cond rfl ?_ ?_|refine c_split_d rfl rfl ?_ ?_|refine c_split_i rfl rfl ?_ ?_|refine c_split_j rfl rfl ?_ ?_|refine c_split_s rfl rfl ?_ ?_|refine c_split_n rfl rfl ?_ ?_)<;>intro<;>try (first |(rename_i hz;first |exact tf_ hz|exact ft_ hz)|(exfalso;omega)))|((first |refine r_val rfl rfl ?_ ?_|refine r_gval rfl rfl rfl rfl ?_ ?_|refine r_obj rfl rfl ?_ ?_|refine r_sto rfl ?_ ?_|refine r_gobj rfl rfl rfl rfl ?_ ?_);focus (first |omega|exact le_ rfl|((repeat first |rw [wrap_u8]|rw [IntKind.wrap_i64]|rw [IntKind.wrap_i32]|rw [wrap_u32']|rw [wrap_u64']);(repeat' refine And.intro ?_ ?_)<;>omega)|((repeat' refine And.intro ?_ ?_)<;>first |omega|rfl|exact Nat.le_refl _|exact le_ rfl|exact bytesF_one _)|(simp_all;done)|(simp_all;omega)))|refine e_hit rfl ?_|refine e_miss rfl ?_|with_reducible refine ⟨by kernel_rfl, ?_⟩|refine p_then ?_|refine p_block ?_|refine p_endR ⟨_, _, rfl, rfl, _, rfl⟩|((with_reducible refine c_grd ?_);(fail_if_success (refine c_lit true rfl rfl rfl ?_));(fail_if_success (refine c_lit false rfl rfl rfl ?_));refine c_split rfl rfl (fun _ => ?_) (fun _ => ?_)))
  | succ d ih =>
    intro hd i hi
    have ih := ih (by omega)
    refine r_methR Tryd.func25 rfl Tryd.ntmps25 Tryd.results25 rfl valD_ok fun X hL hX => ?_
    have c1 := jpeek_ctr s i hs hi
    have q1 := @jpeek_ok s i
    unfold jval
    cases h1 : jpeek s i with
    | inr e =>
      obtain ⟨p, e⟩ := e
      rw [h1] at c1
      repeat' (first |(refine t_pan (id := 1) 1 ?_;dsimp only [splitOp])|refine p_lend1 13 rfl Tryd.call39 rfl rfl rfl rfl c1 ?_|with_reducible (first |refine t_seq ?_|refine t_region ?_|refine c_nil ?_|refine n_then ?_|refine t_ret ?_|refine t_skip ?_|refine t_exit ?_|refine t_block ?_|refine n_block ?_|refine e_then ?_|refine x_then ?_|refine x_block ?_|refine t_draw ?_)|refine r_val rfl rfl True.intro ?_|refine r_gskip rfl rfl rfl ?_|refine r_gskip2 rfl rfl rfl ?_|refine r_gval rfl rfl rfl rfl True.intro ?_|refine t_true rfl ?_|refine t_false rfl ?_|((first |refine t_cond_d rfl ?_ ?_|refine t_cond_i rfl ?_ ?_|refine t_cond_j rfl ?_ ?_|refine t_cond_s rfl ?_ ?_|refine t_cond_n rfl ?_ ?_|refine t_cond rfl ?_ ?_|refine c_split_d rfl rfl ?_ ?_|refine c_split_i rfl rfl ?_ ?_|refine c_split_j rfl rfl ?_ ?_|refine c_split_s rfl rfl ?_ ?_|refine c_split_n rfl rfl ?_ ?_)<;>intro<;>try (first |(rename_i hz;first |exact tf_ hz|exact ft_ hz)|(exfalso;omega)))|((first |refine r_val rfl rfl ?_ ?_|refine r_gval rfl rfl rfl rfl ?_ ?_|refine r_obj rfl rfl ?_ ?_|refine r_sto rfl ?_ ?_|refine r_gobj rfl rfl rfl rfl ?_ ?_);focus (first |omega|exact le_ rfl|((repeat first |rw [wrap_u8]|rw [IntKind.wrap_i64]|rw [IntKind.wrap_i32]|rw [wrap_u32']|rw [wrap_u64']);(repeat' refine And.intro ?_ ?_)<;>omega)|((repeat' refine And.intro ?_ ?_)<;>first |omega|rfl|exact Nat.le_refl _|exact le_ rfl|exact bytesF_one _)|(simp_all;done)|(simp_all;omega)))|refine e_hit rfl ?_|refine e_miss rfl ?_|with_reducible refine ⟨by kernel_rfl, ?_⟩|refine p_then ?_|refine p_block ?_|refine p_endR ⟨_, _, rfl, rfl, _, rfl⟩|((with_reducible refine c_grd ?_);(fail_if_success (refine c_lit true rfl rfl rfl ?_));(fail_if_success (refine c_lit false rfl rfl rfl ?_));refine c_split rfl rfl (fun _ => ?_) (fun _ => ?_)))
    | inl j =>
      rw [h1] at c1
      have q1 := q1 hi h1
      have hjl : j ≤ s.length := by omega
      dsimp only
      by_cases b0 : at' s j = 110
      · rw [if_pos b0]
        have w1 := word_jctr s nullW j 0 false hs (by decide) hjl
        unfold jword at w1 ⊢
        by_cases hp : Lib.hasPrefix (s.drop j) nullW = true
        · rw [if_pos hp] at w1 ⊢
          repeat' (first |refine r_lend1 (f := 39) 13 rfl rfl Tryd.call39 rfl rfl rfl rfl rfl c1 ?_|refine r_lend1 (f := 40) 13 rfl rfl Tryd.call40 rfl rfl rfl rfl rfl w1 ?_|with_reducible (first |refine t_seq ?_|refine t_region ?_|refine c_nil ?_|refine n_then ?_|refine t_ret ?_|refine t_skip ?_|refine t_exit ?_|refine t_block ?_|refine n_block ?_|refine e_then ?_|refine x_then ?_|refine x_block ?_|refine t_draw ?_)|refine r_val rfl rfl True.intro ?_|refine r_gskip rfl rfl rfl ?_|refine r_gskip2 rfl rfl rfl ?_|refine r_gval rfl rfl rfl rfl True.intro ?_|refine t_true rfl ?_|refine t_false rfl ?_|((first |refine t_cond_d rfl ?_ ?_|refine t_cond_i rfl ?_ ?_|refine t_cond_j rfl ?_ ?_|refine t_cond_s rfl ?_ ?_|refine t_cond_n rfl ?_ ?_|refine t_cond rfl ?_ ?_|refine c_split_d rfl rfl ?_ ?_|refine c_split_i rfl rfl ?_ ?_|refine c_split_j rfl rfl ?_ ?_|refine c_split_s rfl rfl ?_ ?_|refine c_split_n rfl rfl ?_ ?_)<;>intro<;>try (first |(rename_i hz;first |exact tf_ hz|exact ft_ hz)|(exfalso;omega)))|((first |refine r_val rfl rfl ?_ ?_|refine r_gval rfl rfl rfl rfl ?_ ?_|refine r_obj rfl rfl ?_ ?_|refine r_sto rfl ?_ ?_|refine r_gobj rfl rfl rfl rfl ?_ ?_);focus (first |omega|exact le_ rfl|((repeat first |rw [wrap_u8]|rw [IntKind.wrap_i64]|rw [IntKind.wrap_i32]|rw [wrap_u32']|rw [wrap_u64']);(repeat' refine And.intro ?_ ?_)<;>omega)|((repeat' refine And.intro ?_ ?_)<;>first |omega|rfl|exact Nat.le_refl _|exact le_ rfl|exact bytesF_one _)|(simp_all;done)|(simp_all;omega)))|refine e_hit rfl ?_|refine e_miss rfl ?_|with_reducible refine ⟨by kernel_rfl, ?_⟩|refine x_endR rfl ⟨_, _, rfl, ?_, rfl⟩|refine n_endR rfl ⟨_, _, rfl, ?_, rfl⟩|((with_reducible refine c_grd ?_);(fail_if_success (refine c_lit true rfl rfl rfl ?_));(fail_if_success (refine c_lit false rfl rfl rfl ?_));refine c_split rfl rfl (fun _ => ?_) (fun _ => ?_)))
          all_goals exact lit_weak 0 false
        · rw [if_neg hp] at w1 ⊢
          repeat' (first |(refine t_pan (id := 6) 2 ?_;dsimp only [splitOp])|refine r_lend1 (f := 39) 13 rfl rfl Tryd.call39 rfl rfl rfl rfl rfl c1 ?_|refine p_lend1 13 rfl Tryd.call40 rfl rfl rfl rfl w1 ?_|with_reducible (first |refine t_seq ?_|refine t_region ?_|refine c_nil ?_|refine n_then ?_|refine t_ret ?_|refine t_skip ?_|refine t_exit ?_|refine t_block ?_|refine n_block ?_|refine e_then ?_|refine x_then ?_|refine x_block ?_|refine t_draw ?_)|refine r_val rfl rfl True.intro ?_|refine r_gskip rfl rfl rfl ?_|refine r_gskip2 rfl rfl rfl ?_|refine r_gval rfl rfl rfl rfl True.intro ?_|refine t_true rfl ?_|refine t_false rfl ?_|((first |refine t_cond_d rfl ?_ ?_|refine t_cond_i rfl ?_ ?_|refine t_cond_j rfl ?_ ?_|refine t_cond_s rfl ?_ ?_|refine t_cond_n rfl ?_ ?_|refine t_cond rfl ?_ ?_|refine c_split_d rfl rfl ?_ ?_|refine c_split_i rfl rfl ?_ ?_|refine c_split_j rfl rfl ?_ ?_|refine c_split_s rfl rfl ?_ ?_|refine c_split_n rfl rfl ?_ ?_)<;>intro<;>try (first |(rename_i hz;first |exact tf_ hz|exact ft_ hz)|(exfalso;omega)))|((first |refine r_val rfl rfl ?_ ?_|refine r_gval rfl rfl rfl rfl ?_ ?_|refine r_obj rfl rfl ?_ ?_|refine r_sto rfl ?_ ?_|refine r_gobj rfl rfl rfl rfl ?_ ?_);focus (first |omega|exact le_ rfl|((repeat first |rw [wrap_u8]|rw [IntKind.wrap_i64]|rw [IntKind.wrap_i32]|rw [wrap_u32']|rw [wrap_u64']);(repeat' refine And.intro ?_ ?_)<;>omega)|((repeat' refine And.intro ?_ ?_)<;>first |omega|rfl|exact Nat.le_refl _|exact le_ rfl|exact bytesF_one _)|(simp_all;done)|(simp_all;omega)))|refine e_hit rfl ?_|refine e_miss rfl ?_|with_reducible refine ⟨by kernel_rfl, ?_⟩|refine p_then ?_|refine p_block ?_|refine p_endR ⟨_, _, rfl, rfl, _, rfl⟩|((with_reducible refine c_grd ?_);(fail_if_success (refine c_lit true rfl rfl rfl ?_));(fail_if_success (refine c_lit false rfl rfl rfl ?_));refine c_split rfl rfl (fun _ => ?_) (fun _ => ?_)))
      rw [if_neg b0]
      by_cases b1 : at' s j = 116
      · rw [if_pos b1]
        have w1 := word_jctr s trueW j 1 true hs (by decide) hjl
        unfold jword at w1 ⊢
        by_cases hp : Lib.hasPrefix (s.drop j) trueW = true
        · rw [if_pos hp] at w1 ⊢
          repeat' (first |refine r_lend1 (f := 39) 13 rfl rfl Tryd.call39 rfl rfl rfl rfl rfl c1 ?_|refine r_lend1 (f := 40) 13 rfl rfl Tryd.call40 rfl rfl rfl rfl rfl w1 ?_|with_reducible (first |refine t_seq ?_|refine t_region ?_|refine c_nil ?_|refine n_then ?_|refine t_ret ?_|refine t_skip ?_|refine t_exit ?_|refine t_block ?_|refine n_block ?_|refine e_then ?_|refine x_then ?_|refine x_block ?_|refine t_draw ?_)|refine r_val rfl rfl True.intro ?_|refine r_gskip rfl rfl rfl ?_|refine r_gskip2 rfl rfl rfl ?_|refine r_gval rfl rfl rfl rfl True.intro ?_|refine t_true rfl ?_|refine t_false rfl ?_|((first |refine t_cond_d rfl ?_ ?_|refine t_cond_i rfl ?_ ?_|refine t_cond_j rfl ?_ ?_|refine t_cond_s rfl ?_ ?_|refine t_cond_n rfl ?_ ?_|refine t_cond rfl ?_ ?_|refine c_split_d rfl rfl ?_ ?_|refine c_split_i rfl rfl ?_ ?_|refine c_split_j rfl rfl ?_ ?_|refine c_split_s rfl rfl ?_ ?_|refine c_split_n rfl rfl ?_ ?_)<;>intro<;>try (first |(rename_i hz;first |exact tf_ hz|exact ft_ hz)|(exfalso;omega)))|((first |refine r_val rfl rfl ?_ ?_|refine r_gval rfl rfl rfl rfl ?_ ?_|refine r_obj rfl rfl ?_ ?_|refine r_sto rfl ?_ ?_|refine r_gobj rfl rfl rfl rfl ?_ ?_);focus (first |omega|exact le_ rfl|((repeat first |rw [wrap_u8]|rw [IntKind.wrap_i64]|rw [IntKind.wrap_i32]|rw [wrap_u32']|rw [wrap_u64']);(repeat' refine And.intro ?_ ?_)<;>omega)|((repeat' refine And.intro ?_ ?_)<;>first |omega|rfl|exact Nat.le_refl _|exact le_ rfl|exact bytesF_one _)|(simp_all;done)|(simp_all;omega)))|refine e_hit rfl ?_|refine e_miss rfl ?_|with_reducible refine ⟨by kernel_rfl, ?_⟩|refine x_endR rfl ⟨_, _, rfl, ?_, rfl⟩|refine n_endR rfl ⟨_, _, rfl, ?_, rfl⟩|((with_reducible refine c_grd ?_);(fail_if_success (refine c_lit true rfl rfl rfl ?_));(fail_if_success (refine c_lit false rfl rfl rfl ?_));refine c_split rfl rfl (fun _ => ?_) (fun _ => ?_)))
          all_goals exact lit_weak 1 true
        · rw [if_neg hp] at w1 ⊢
          repeat' (first |(refine t_pan (id := 8) 2 ?_;dsimp only [splitOp])|refine r_lend1 (f := 39) 13 rfl rfl Tryd.call39 rfl rfl rfl rfl rfl c1 ?_|refine p_lend1 13 rfl Tryd.call40 rfl rfl rfl rfl w1 ?_|with_reducible (first |refine t_seq ?_|refine t_region ?_|refine c_nil ?_|refine n_then ?_|refine t_ret ?_|refine t_skip ?_|refine t_exit ?_|refine t_block ?_|refine n_block ?_|refine e_then ?_|refine x_then ?_|refine x_block ?_|refine t_draw ?_)|refine r_val rfl rfl True.intro ?_|refine r_gskip rfl rfl rfl ?_|refine r_gskip2 rfl rfl rfl ?_|refine r_gval rfl rfl rfl rfl True.intro ?_|refine t_true rfl ?_|refine t_false rfl ?_|((first |refine t_cond_d rfl ?_ ?_|refine t_cond_i rfl ?_ ?_|refine t_cond_j rfl ?_ ?_|refine t_cond_s rfl ?_ ?_|refine t_cond_n rfl ?_ ?_|refine t_cond rfl ?_ ?_|refine c_split_d rfl rfl ?_ ?_|refine c_split_i rfl rfl ?_ ?_|refine c_split_j rfl rfl ?_ ?_|refine c_split_s rfl rfl ?_ ?_|refine c_split_n rfl rfl ?_ ?_)<;>intro<;>try (first |(rename_i hz;first |exact tf_ hz|exact ft_ hz)|(exfalso;omega)))|((first |refine r_val rfl rfl ?_ ?_|refine r_gval rfl rfl rfl rfl ?_ ?_|refine r_obj rfl rfl ?_ ?_|refine r_sto rfl ?_ ?_|refine r_gobj rfl rfl rfl rfl ?_ ?_);focus (first |omega|exact le_ rfl|((repeat first |rw [wrap_u8]|rw [IntKind.wrap_i64]|rw [IntKind.wrap_i32]|rw [wrap_u32']|rw [wrap_u64']);(repeat' refine And.intro ?_ ?_)<;>omega)|((repeat' refine And.intro ?_ ?_)<;>first |omega|rfl|exact Nat.le_refl _|exact le_ rfl|exact bytesF_one _)|(simp_all;done)|(simp_all;omega)))|refine e_hit rfl ?_|refine e_miss rfl ?_|with_reducible refine ⟨by kernel_rfl, ?_⟩|refine p_then ?_|refine p_block ?_|refine p_endR ⟨_, _, rfl, rfl, _, rfl⟩|((with_reducible refine c_grd ?_);(fail_if_success (refine c_lit true rfl rfl rfl ?_));(fail_if_success (refine c_lit false rfl rfl rfl ?_));refine c_split rfl rfl (fun _ => ?_) (fun _ => ?_)))
      rw [if_neg b1]
      by_cases b2 : at' s j = 102
      · rw [if_pos b2]
        have w1 := word_jctr s falseW j 1 false hs (by decide) hjl
        unfold jword at w1 ⊢
        by_cases hp : Lib.hasPrefix (s.drop j) falseW = true
        · rw [if_pos hp] at w1 ⊢
          repeat' (first |refine r_lend1 (f := 39) 13 rfl rfl Tryd.call39 rfl rfl rfl rfl rfl c1 ?_|refine r_lend1 (f := 40) 13 rfl rfl Tryd.call40 rfl rfl rfl rfl rfl w1 ?_|with_reducible (first |refine t_seq ?_|refine t_region ?_|refine c_nil ?_|refine n_then ?_|refine t_ret ?_|refine t_skip ?_|refine t_exit ?_|refine t_block ?_|refine n_block ?_|refine e_then ?_|refine x_then ?_|refine x_block ?_|refine t_draw ?_)|refine r_val rfl rfl True.intro ?_|refine r_gskip rfl rfl rfl ?_|refine r_gskip2 rfl rfl rfl ?_|refine r_gval rfl rfl rfl rfl True.intro ?_|refine t_true rfl ?_|refine t_false rfl ?_|((first |refine t_cond_d rfl ?_ ?_|refine t_cond_i rfl ?_ ?_|refine t_cond_j rfl ?_ ?_|refine t_cond_s rfl ?_ ?_|refine t_cond_n rfl ?_ ?_|refine t_cond rfl ?_ ?_|refine c_split_d rfl rfl ?_ ?_|refine c_split_i rfl rfl ?_ ?_|refine c_split_j rfl rfl ?_ ?_|refine c_split_s rfl rfl ?_ ?_|refine c_split_n rfl rfl ?_ ?_)<;>intro<;>try (first |(rename_i hz;first |exact tf_ hz|exact ft_ hz)|(exfalso;omega)))|((first |refine r_val rfl rfl ?_ ?_|refine r_gval rfl rfl rfl rfl ?_ ?_|refine r_obj rfl rfl ?_ ?_|refine r_sto rfl ?_ ?_|refine r_gobj rfl rfl rfl rfl ?_ ?_);focus (first |omega|exact le_ rfl|((repeat first |rw [wrap_u8]|rw [IntKind.wrap_i64]|rw [IntKind.wrap_i32]|rw [wrap_u32']|rw [wrap_u64']);(repeat' refine And.intro ?_ ?_)<;>omega)|((repeat' refine And.intro ?_ ?_)<;>first |omega|rfl|exact Nat.le_refl _|exact le_ rfl|exact bytesF_one _)|(simp_all;done)|(simp_all;omega)))|refine e_hit rfl ?_|refine e_miss rfl ?_|with_reducible refine ⟨by kernel_rfl, ?_⟩|refine x_endR rfl ⟨_, _, rfl, ?_, rfl⟩|refine n_endR rfl ⟨_, _, rfl, ?_, rfl⟩|((with_reducible refine c_grd ?_);(fail_if_success (refine c_lit true rfl rfl rfl ?_));(fail_if_success (refine c_lit false rfl rfl rfl ?_));refine c_split rfl rfl (fun _ => ?_) (fun _ => ?_)))
          all_goals exact lit_weak 1 false
        · rw [if_neg hp] at w1 ⊢
          repeat' (first |(refine t_pan (id := 10) 2 ?_;dsimp only [splitOp])|refine r_lend1 (f := 39) 13 rfl rfl Tryd.call39 rfl rfl rfl rfl rfl c1 ?_|refine p_lend1 13 rfl Tryd.call40 rfl rfl rfl rfl w1 ?_|with_reducible (first |refine t_seq ?_|refine t_region ?_|refine c_nil ?_|refine n_then ?_|refine t_ret ?_|refine t_skip ?_|refine t_exit ?_|refine t_block ?_|refine n_block ?_|refine e_then ?_|refine x_then ?_|refine x_block ?_|refine t_draw ?_)|refine r_val rfl rfl True.intro ?_|refine r_gskip rfl rfl rfl ?_|refine r_gskip2 rfl rfl rfl ?_|refine r_gval rfl rfl rfl rfl True.intro ?_|refine t_true rfl ?_|refine t_false rfl ?_|((first |refine t_cond_d rfl ?_ ?_|refine t_cond_i rfl ?_ ?_|refine t_cond_j rfl ?_ ?_|refine t_cond_s rfl ?_ ?_|refine t_cond_n rfl ?_ ?_|refine t_cond rfl ?_ ?_|refine c_split_d rfl rfl ?_ ?_|refine c_split_i rfl rfl ?_ ?_|refine c_split_j rfl rfl ?_ ?_|refine c_split_s rfl rfl ?_ ?_|refine c_split_n rfl rfl ?_ ?_)<;>intro<;>try (first |(rename_i hz;first |exact tf_ hz|exact ft_ hz)|(exfalso;omega)))|((first |refine r_val rfl rfl ?_ ?_|refine r_gval rfl rfl rfl rfl ?_ ?_|refine r_obj rfl rfl ?_ ?_|refine r_sto rfl ?_ ?_|refine r_gobj rfl rfl rfl rfl ?_ ?_);focus (first |omega|exact le_ rfl|((repeat first |rw [wrap_u8]|rw [IntKind.wrap_i64]|rw [IntKind.wrap_i32]|rw [wrap_u32']|rw [wrap_u64']);(repeat' refine And.intro ?_ ?_)<;>omega)|((repeat' refine And.intro ?_ ?_)<;>first |omega|rfl|exact Nat.le_refl _|exact le_ rfl|exact bytesF_one _)|(simp_all;done)|(simp_all;omega)))|refine e_hit rfl ?_|refine e_miss rfl ?_|with_reducible refine ⟨by kernel_rfl, ?_⟩|refine p_then ?_|refine p_block ?_|refine p_endR ⟨_, _, rfl, rfl, _, rfl⟩|((with_reducible refine c_grd ?_);(fail_if_success (refine c_lit true rfl rfl rfl ?_));(fail_if_success (refine c_lit false rfl rfl rfl ?_));refine c_split rfl rfl (fun _ => ?_) (fun _ => ?_)))
      rw [if_neg b2]
      by_cases b3 : at' s j = 34
      · rw [if_pos b3]
        have w1 := text_jctr s j hs hjl
        cases h2 : jtext s j with
        | inr e =>
          obtain ⟨p, e⟩ := e
          rw [h2] at w1
          repeat' (first |(refine t_pan (id := 12) 1 ?_;dsimp only [splitOp])|refine r_lend1 (f := 39) 13 rfl rfl Tryd.call39 rfl rfl rfl rfl rfl c1 ?_|refine p_lend1 13 rfl Tryd.call41 rfl rfl rfl rfl w1 ?_|with_reducible (first |refine t_seq ?_|refine t_region ?_|refine c_nil ?_|refine n_then ?_|refine t_ret ?_|refine t_skip ?_|refine t_exit ?_|refine t_block ?_|refine n_block ?_|refine e_then ?_|refine x_then ?_|refine x_block ?_|refine t_draw ?_)|refine r_val rfl rfl True.intro ?_|refine r_gskip rfl rfl rfl ?_|refine r_gskip2 rfl rfl rfl ?_|refine r_gval rfl rfl rfl rfl True.intro ?_|refine t_true rfl ?_|refine t_false rfl ?_|((first |refine t_cond_d rfl ?_ ?_|refine t_cond_i rfl ?_ ?_|refine t_cond_j rfl ?_ ?_|refine t_cond_s rfl ?_ ?_|refine t_cond_n rfl ?_ ?_|refine t_cond rfl ?_ ?_|refine c_split_d rfl rfl ?_ ?_|refine c_split_i rfl rfl ?_ ?_|refine c_split_j rfl rfl ?_ ?_|refine c_split_s rfl rfl ?_ ?_|refine c_split_n rfl rfl ?_ ?_)<;>intro<;>try (first |(rename_i hz;first |exact tf_ hz|exact ft_ hz)|(exfalso;omega)))|((first |refine r_val rfl rfl ?_ ?_|refine r_gval rfl rfl rfl rfl ?_ ?_|refine r_obj rfl rfl ?_ ?_|refine r_sto rfl ?_ ?_|refine r_gobj rfl rfl rfl rfl ?_ ?_);focus (first |omega|exact le_ rfl|((repeat first |rw [wrap_u8]|rw [IntKind.wrap_i64]|rw [IntKind.wrap_i32]|rw [wrap_u32']|rw [wrap_u64']);(repeat' refine And.intro ?_ ?_)<;>omega)|((repeat' refine And.intro ?_ ?_)<;>first |omega|rfl|exact Nat.le_refl _|exact le_ rfl|exact bytesF_one _)|(simp_all;done)|(simp_all;omega)))|refine e_hit rfl ?_|refine e_miss rfl ?_|with_reducible refine ⟨by kernel_rfl, ?_⟩|refine p_then ?_|refine p_block ?_|refine p_endR ⟨_, _, rfl, rfl, _, rfl⟩|((with_reducible refine c_grd ?_);(fail_if_success (refine c_lit true rfl rfl rfl ?_));(fail_if_success (refine c_lit false rfl rfl rfl ?_));refine c_split rfl rfl (fun _ => ?_) (fun _ => ?_)))
        | inl r =>
          obtain ⟨t, n⟩ := r
          rw [h2] at w1
          repeat' (first |refine r_lend1 (f := 39) 13 rfl rfl Tryd.call39 rfl rfl rfl rfl rfl c1 ?_|refine r_lend1 (f := 41) 13 rfl rfl Tryd.call41 rfl rfl rfl rfl rfl w1 ?_|with_reducible (first |refine t_seq ?_|refine t_region ?_|refine c_nil ?_|refine n_then ?_|refine t_ret ?_|refine t_skip ?_|refine t_exit ?_|refine t_block ?_|refine n_block ?_|refine e_then ?_|refine x_then ?_|refine x_block ?_|refine t_draw ?_)|refine r_val rfl rfl True.intro ?_|refine r_gskip rfl rfl rfl ?_|refine r_gskip2 rfl rfl rfl ?_|refine r_gval rfl rfl rfl rfl True.intro ?_|refine t_true rfl ?_|refine t_false rfl ?_|((first |refine t_cond_d rfl ?_ ?_|refine t_cond_i rfl ?_ ?_|refine t_cond_j rfl ?_ ?_|refine t_cond_s rfl ?_ ?_|refine t_cond_n rfl ?_ ?_|refine t_cond rfl ?_ ?_|refine c_split_d rfl rfl ?_ ?_|refine c_split_i rfl rfl ?_ ?_|refine c_split_j rfl rfl ?_ ?_|refine c_split_s rfl rfl ?_ ?_|refine c_split_n rfl rfl ?_ ?_)<;>intro<;>try (first |(rename_i hz;first |exact tf_ hz|exact ft_ hz)|(exfalso;omega)))|((first |refine r_val rfl rfl ?_ ?_|refine r_gval rfl rfl rfl rfl ?_ ?_|refine r_obj rfl rfl ?_ ?_|refine r_sto rfl ?_ ?_|refine r_gobj rfl rfl rfl rfl ?_ ?_);focus (first |omega|exact le_ rfl|((repeat first |rw [wrap_u8]|rw [IntKind.wrap_i64]|rw [IntKind.wrap_i32]|rw [wrap_u32']|rw [wrap_u64']);(repeat' refine And.intro ?_ ?_)<;>omega)|((repeat' refine And.intro ?_ ?_)<;>first |omega|rfl|exact Nat.le_refl _|exact le_ rfl|exact bytesF_one _)|(simp_all;done)|(simp_all;omega)))|refine e_hit rfl ?_|refine e_miss rfl ?_|with_reducible refine ⟨by kernel_rfl, ?_⟩|refine x_endR rfl ⟨_, _, rfl, ?_, rfl⟩|refine n_endR rfl ⟨_, _, rfl, ?_, rfl⟩|((with_reducible refine c_grd ?_);(fail_if_success (refine c_lit true rfl rfl rfl ?_));(fail_if_success (refine c_lit false rfl rfl rfl ?_));refine c_split rfl rfl (fun _ => ?_) (fun _ => ?_)))
          all_goals exact cells_weak 3 false false [] 0 t
      rw [if_neg b3]
      by_cases b4 : at' s j = 91
      · rw [if_pos b4]
        have w1 := many_false_jctr s (jval s d) d hs (by omega) (jval_ok s d) ih j q1.2.1
        cases h2 : jmany s (jval s d) false j with
        | inr e =>
          obtain ⟨p, e⟩ := e
          rw [h2] at w1
          repeat' (first |(refine t_pan (id := 14) 3 ?_;dsimp only [splitOp])|refine r_lend1 (f := 39) 13 rfl rfl Tryd.call39 rfl rfl rfl rfl rfl c1 ?_|refine p_lend1 13 rfl Tryd.call42 rfl rfl rfl rfl w1 ?_|with_reducible (first |refine t_seq ?_|refine t_region ?_|refine c_nil ?_|refine n_then ?_|refine t_ret ?_|refine t_skip ?_|refine t_exit ?_|refine t_block ?_|refine n_block ?_|refine e_then ?_|refine x_then ?_|refine x_block ?_|refine t_draw ?_)|refine r_val rfl rfl True.intro ?_|refine r_gskip rfl rfl rfl ?_|refine r_gskip2 rfl rfl rfl ?_|refine r_gval rfl rfl rfl rfl True.intro ?_|refine t_true rfl ?_|refine t_false rfl ?_|((first |refine t_cond_d rfl ?_ ?_|refine t_cond_i rfl ?_ ?_|refine t_cond_j rfl ?_ ?_|refine t_cond_s rfl ?_ ?_|refine t_cond_n rfl ?_ ?_|refine t_cond rfl ?_ ?_|refine c_split_d rfl rfl ?_ ?_|refine c_split_i rfl rfl ?_ ?_|refine c_split_j rfl rfl ?_ ?_|refine c_split_s rfl rfl ?_ ?_|refine c_split_n rfl rfl ?_ ?_)<;>intro<;>try (first |(rename_i hz;first |exact tf_ hz|exact ft_ hz)|(exfalso;omega)))|((first |refine r_val rfl rfl ?_ ?_|refine r_gval rfl rfl rfl rfl ?_ ?_|refine r_obj rfl rfl ?_ ?_|refine r_sto rfl ?_ ?_|refine r_gobj rfl rfl rfl rfl ?_ ?_);focus (first |omega|exact le_ rfl|((repeat first |rw [wrap_u8]|rw [IntKind.wrap_i64]|rw [IntKind.wrap_i32]|rw [wrap_u32']|rw [wrap_u64']);(repeat' refine And.intro ?_ ?_)<;>omega)|((repeat' refine And.intro ?_ ?_)<;>first |omega|rfl|exact Nat.le_refl _|exact le_ rfl|exact bytesF_one _)|(simp_all;done)|(simp_all;omega)))|refine e_hit rfl ?_|refine e_miss rfl ?_|with_reducible refine ⟨by kernel_rfl, ?_⟩|refine p_then ?_|refine p_block ?_|refine p_endR ⟨_, _, rfl, rfl, _, rfl⟩|((with_reducible refine c_grd ?_);(fail_if_success (refine c_lit true rfl rfl rfl ?_));(fail_if_success (refine c_lit false rfl rfl rfl ?_));refine c_split rfl rfl (fun _ => ?_) (fun _ => ?_)))
        | inl r =>
          obtain ⟨⟨xk, xy, xn, xd, xe, xt, xl, xs⟩, n⟩ := r
          rw [h2] at w1
          replace w1 : RdE 42 [.pv 13 0, .ag (litC (kindM false) false), .i .u8 (endM false), .i .i64 (d + 1 : Nat)] s j (.inl (.ag [.i .i64 xk, .b xy, .b xn, .s xd, .i .i64 xe, .s xt, .sl 8 xl.length (jF xl), .sl 1 xs.length (txF xs)], n)) := by
            rw [← jC_mk]
            exact w1
          repeat' (first |refine r_lend1 (f := 39) 13 rfl rfl Tryd.call39 rfl rfl rfl rfl rfl c1 ?_|refine r_lend1 (f := 42) 13 rfl rfl Tryd.call42 rfl rfl rfl rfl rfl w1 ?_|with_reducible (first |refine t_seq ?_|refine t_region ?_|refine c_nil ?_|refine n_then ?_|refine t_ret ?_|refine t_skip ?_|refine t_exit ?_|refine t_block ?_|refine n_block ?_|refine e_then ?_|refine x_then ?_|refine x_block ?_|refine t_draw ?_)|refine r_val rfl rfl True.intro ?_|refine r_gskip rfl rfl rfl ?_|refine r_gskip2 rfl rfl rfl ?_|refine r_gval rfl rfl rfl rfl True.intro ?_|refine t_true rfl ?_|refine t_false rfl ?_|((first |refine t_cond_d rfl ?_ ?_|refine t_cond_i rfl ?_ ?_|refine t_cond_j rfl ?_ ?_|refine t_cond_s rfl ?_ ?_|refine t_cond_n rfl ?_ ?_|refine t_cond rfl ?_ ?_|refine c_split_d rfl rfl ?_ ?_|refine c_split_i rfl rfl ?_ ?_|refine c_split_j rfl rfl ?_ ?_|refine c_split_s rfl rfl ?_ ?_|refine c_split_n rfl rfl ?_ ?_)<;>intro<;>try (first |(rename_i hz;first |exact tf_ hz|exact ft_ hz)|(exfalso;omega)))|((first |refine r_val rfl rfl ?_ ?_|refine r_gval rfl rfl rfl rfl ?_ ?_|refine r_obj rfl rfl ?_ ?_|refine r_sto rfl ?_ ?_|refine r_gobj rfl rfl rfl rfl ?_ ?_);focus (first |omega|exact le_ rfl|((repeat first |rw [wrap_u8]|rw [IntKind.wrap_i64]|rw [IntKind.wrap_i32]|rw [wrap_u32']|rw [wrap_u64']);(repeat' refine And.intro ?_ ?_)<;>omega)|((repeat' refine And.intro ?_ ?_)<;>first |omega|rfl|exact Nat.le_refl _|exact le_ rfl|exact bytesF_one _)|(simp_all;done)|(simp_all;omega)))|refine e_hit rfl ?_|refine e_miss rfl ?_|with_reducible refine ⟨by kernel_rfl, ?_⟩|refine x_endR rfl ⟨_, _, rfl, ?_, rfl⟩|refine n_endR rfl ⟨_, _, rfl, ?_, rfl⟩|((with_reducible refine c_grd ?_);(fail_if_success (refine c_lit true rfl rfl rfl ?_));(fail_if_success (refine c_lit false rfl rfl rfl ?_));refine c_split rfl rfl (fun _ => ?_) (fun _ => ?_)))
          all_goals exact .of_eq (by rw [jC_mk]; rfl)
      rw [if_neg b4]
      by_cases b5 : at' s j = 123
      · rw [if_pos b5]
        have w1 := many_true_jctr s (jval s d) d hs (by omega) (jval_ok s d) ih j q1.2.1
        cases h2 : jmany s (jval s d) true j with
        | inr e =>
          obtain ⟨p, e⟩ := e
          rw [h2] at w1
          repeat' (first |(refine t_pan (id := 16) 3 ?_;dsimp only [splitOp])|refine r_lend1 (f := 39) 13 rfl rfl Tryd.call39 rfl rfl rfl rfl rfl c1 ?_|refine p_lend1 13 rfl Tryd.call42 rfl rfl rfl rfl w1 ?_|with_reducible (first |refine t_seq ?_|refine t_region ?_|refine c_nil ?_|refine n_then ?_|refine t_ret ?_|refine t_skip ?_|refine t_exit ?_|refine t_block ?_|refine n_block ?_|refine e_then ?_|refine x_then ?_|refine x_block ?_|refine t_draw ?_)|refine r_val rfl rfl True.intro ?_|refine r_gskip rfl rfl rfl ?_|refine r_gskip2 rfl rfl rfl ?_|refine r_gval rfl rfl rfl rfl True.intro ?_|refine t_true rfl ?_|refine t_false rfl ?_|((first |refine t_cond_d rfl ?_ ?_|refine t_cond_i rfl ?_ ?_|refine t_cond_j rfl ?_ ?_|refine t_cond_s rfl ?_ ?_|refine t_cond_n rfl ?_ ?_|refine t_cond rfl ?_ ?_|refine c_split_d rfl rfl ?_ ?_|refine c_split_i rfl rfl ?_ ?_|refine c_split_j rfl rfl ?_ ?_|refine c_split_s rfl rfl ?_ ?_|refine c_split_n rfl rfl ?_ ?_)<;>intro<;>try (first |(rename_i hz;first |exact tf_ hz|exact ft_ hz)|(exfalso;omega)))|((first |refine r_val rfl rfl ?_ ?_|refine r_gval rfl rfl rfl rfl ?_ ?_|refine r_obj rfl rfl ?_ ?_|refine r_sto rfl ?_ ?_|refine r_gobj rfl rfl rfl rfl ?_ ?_);focus (first |omega|exact le_ rfl|((repeat first |rw [wrap_u8]|rw [IntKind.wrap_i64]|rw [IntKind.wrap_i32]|rw [wrap_u32']|rw [wrap_u64']);(repeat' refine And.intro ?_ ?_)<;>omega)|((repeat' refine And.intro ?_ ?_)<;>first |omega|rfl|exact Nat.le_refl _|exact le_ rfl|exact bytesF_one _)|(simp_all;done)|(simp_all;omega)))|refine e_hit rfl ?_|refine e_miss rfl ?_|with_reducible refine ⟨by kernel_rfl, ?_⟩|refine p_then ?_|refine p_block ?_|refine p_endR ⟨_, _, rfl, rfl, _, rfl⟩|((with_reducible refine c_grd ?_);(fail_if_success (refine c_lit true rfl rfl rfl ?_));(fail_if_success (refine c_lit false rfl rfl rfl ?_));refine c_split rfl rfl (fun _ => ?_) (fun _ => ?_)))
        | inl r =>
          obtain ⟨⟨xk, xy, xn, xd, xe, xt, xl, xs⟩, n⟩ := r
          rw [h2] at w1
          replace w1 : RdE 42 [.pv 13 0, .ag (litC (kindM true) false), .i .u8 (endM true), .i .i64 (d + 1 : Nat)] s j (.inl (.ag [.i .i64 xk, .b xy, .b xn, .s xd, .i .i64 xe, .s xt, .sl 8 xl.length (jF xl), .sl 1 xs.length (txF xs)], n)) := by
            rw [← jC_mk]
            exact w1
          repeat' (first |refine r_lend1 (f := 39) 13 rfl rfl Tryd.call39 rfl rfl rfl rfl rfl c1 ?_|refine r_lend1 (f := 42) 13 rfl rfl Tryd.call42 rfl rfl rfl rfl rfl w1 ?_|with_reducible (first |refine t_seq ?_|refine t_region ?_|refine c_nil ?_|refine n_then ?_|refine t_ret ?_|refine t_skip ?_|refine t_exit ?_|refine t_block ?_|refine n_block ?_|refine e_then ?_|refine x_then ?_|refine x_block ?_|refine t_draw ?_)|refine r_val rfl rfl True.intro ?_|refine r_gskip rfl rfl rfl ?_|refine r_gskip2 rfl rfl rfl ?_|refine r_gval rfl rfl rfl rfl True.intro ?_|refine t_true rfl ?_|refine t_false rfl ?_|((first |refine t_cond_d rfl ?_ ?_|refine t_cond_i rfl ?_ ?_|refine t_cond_j rfl ?_ ?_|refine t_cond_s rfl ?_ ?_|refine t_cond_n rfl ?_ ?_|refine t_cond rfl ?_ ?_|refine c_split_d rfl rfl ?_ ?_|refine c_split_i rfl rfl ?_ ?_|refine c_split_j rfl rfl ?_ ?_|refine c_split_s rfl rfl ?_ ?_|refine c_split_n rfl rfl ?_ ?_)<;>intro<;>try (first |(rename_i hz;first |exact tf_ hz|exact ft_ hz)|(exfalso;omega)))|((first |refine r_val rfl rfl ?_ ?_|refine r_gval rfl rfl rfl rfl ?_ ?_|refine r_obj rfl rfl ?_ ?_|refine r_sto rfl ?_ ?_|refine r_gobj rfl rfl rfl rfl ?_ ?_);focus (first |omega|exact le_ rfl|((repeat first |rw [wrap_u8]|rw [IntKind.wrap_i64]|rw [IntKind.wrap_i32]|rw [wrap_u32']|rw [wrap_u64']);(repeat' refine And.intro ?_ ?_)<;>omega)|((repeat' refine And.intro ?_ ?_)<;>first |omega|rfl|exact Nat.le_refl _|exact le_ rfl|exact bytesF_one _)|(simp_all;done)|(simp_all;omega)))|refine e_hit rfl ?_|refine e_miss rfl ?_|with_reducible refine ⟨by kernel_rfl, ?_⟩|refine x_endR rfl ⟨_, _, rfl, ?_, rfl⟩|refine n_endR rfl ⟨_, _, rfl, ?_, rfl⟩|((with_reducible refine c_grd ?_);(fail_if_success (refine c_lit true rfl rfl rfl ?_));(fail_if_success (refine c_lit false rfl rfl rfl ?_));refine c_split rfl rfl (fun _ => ?_) (fun _ => ?_)))
          all_goals exact .of_eq (by rw [jC_mk]; rfl)
      rw [if_neg b5]
      have w1 := number_jctr s j hs hjl
      unfold jnum at w1 ⊢
      by_cases hz : (parseG powP (s.drop j)).2.2 = 0
      · rw [if_pos hz] at w1 ⊢
        have hw := num_weak (parseG powP (s.drop j)).1
        repeat' (first |refine r_lend1 (f := 39) 13 rfl rfl Tryd.call39 rfl rfl rfl rfl rfl c1 ?_|refine r_lend1 (f := 43) 13 rfl rfl Tryd.call43 rfl rfl rfl rfl rfl w1 ?_|with_reducible (first |refine t_seq ?_|refine t_region ?_|refine c_nil ?_|refine n_then ?_|refine t_ret ?_|refine t_skip ?_|refine t_exit ?_|refine t_block ?_|refine n_block ?_|refine e_then ?_|refine x_then ?_|refine x_block ?_|refine t_draw ?_)|refine r_val rfl rfl True.intro ?_|refine r_gskip rfl rfl rfl ?_|refine r_gskip2 rfl rfl rfl ?_|refine r_gval rfl rfl rfl rfl True.intro ?_|refine t_true rfl ?_|refine t_false rfl ?_|((first |refine t_cond_d rfl ?_ ?_|refine t_cond_i rfl ?_ ?_|refine t_cond_j rfl ?_ ?_|refine t_cond_s rfl ?_ ?_|refine t_cond_n rfl ?_ ?_|refine t_cond rfl ?_ ?_|refine c_split_d rfl rfl ?_ ?_|refine c_split_i rfl rfl ?_ ?_|refine c_split_j rfl rfl ?_ ?_|refine c_split_s rfl rfl ?_ ?_|refine c_split_n rfl rfl ?_ ?_)<;>intro<;>try (first |(rename_i hz;first |exact tf_ hz|exact ft_ hz)|(exfalso;omega)))|((first |refine r_val rfl rfl ?_ ?_|refine r_gval rfl rfl rfl rfl ?_ ?_|refine r_obj rfl rfl ?_ ?_|refine r_sto rfl ?_ ?_|refine r_gobj rfl rfl rfl rfl ?_ ?_);focus (first |omega|exact le_ rfl|((repeat first |rw [wrap_u8]|rw [IntKind.wrap_i64]|rw [IntKind.wrap_i32]|rw [wrap_u32']|rw [wrap_u64']);(repeat' refine And.intro ?_ ?_)<;>omega)|((repeat' refine And.intro ?_ ?_)<;>first |omega|rfl|exact Nat.le_refl _|exact le_ rfl|exact bytesF_one _)|(simp_all;done)|(simp_all;omega)))|refine e_hit rfl ?_|refine e_miss rfl ?_|with_reducible refine ⟨by kernel_rfl, ?_⟩|refine x_endR rfl ⟨_, _, rfl, ?_, rfl⟩|refine n_endR rfl ⟨_, _, rfl, ?_, rfl⟩|((with_reducible refine c_grd ?_);(fail_if_success (refine c_lit true rfl rfl rfl ?_));(fail_if_success (refine c_lit false rfl rfl rfl ?_));refine c_split rfl rfl (fun _ => ?_) (fun _ => ?_)))
        all_goals exact hw
      · rw [if_neg hz] at w1 ⊢
        repeat' (first |(refine t_pan (id := 17) 1 ?_;dsimp only [splitOp])|refine r_lend1 (f := 39) 13 rfl rfl Tryd.call39 rfl rfl rfl rfl rfl c1 ?_|refine p_lend1 13 rfl Tryd.call43 rfl rfl rfl rfl w1 ?_|with_reducible (first |refine t_seq ?_|refine t_region ?_|refine c_nil ?_|refine n_then ?_|refine t_ret ?_|refine t_skip ?_|refine t_exit ?_|refine t_block ?_|refine n_block ?_|refine e_then ?_|refine x_then ?_|refine x_block ?_|refine t_draw ?_)|refine r_val rfl rfl True.intro ?_|refine r_gskip rfl rfl rfl ?_|refine r_gskip2 rfl rfl rfl ?_|refine r_gval rfl rfl rfl rfl True.intro ?_|refine t_true rfl ?_|refine t_false rfl ?_|((first |refine t_cond_d rfl ?_ ?_|refine t_cond_i rfl ?_ ?_|refine t_cond_j rfl ?_ ?_|refine t_cond_s rfl ?_ ?_|refine t_cond_n rfl ?_ ?_|refine t_cond rfl ?_ ?_|refine c_split_d rfl rfl ?_ ?_|refine c_split_i rfl rfl ?_ ?_|refine c_split_j rfl rfl ?_ ?_|refine c_split_s rfl rfl ?_ ?_|refine c_split_n rfl rfl ?_ ?_)<;>intro<;>try (first |(rename_i hz;first |exact tf_ hz|exact ft_ hz)|(exfalso;omega)))|((first |refine r_val rfl rfl ?_ ?_|refine r_gval rfl rfl rfl rfl ?_ ?_|refine r_obj rfl rfl ?_ ?_|refine r_sto rfl ?_ ?_|refine r_gobj rfl rfl rfl rfl ?_ ?_);focus (first |omega|exact le_ rfl|((repeat first |rw [wrap_u8]|rw [IntKind.wrap_i64]|rw [IntKind.wrap_i32]|rw [wrap_u32']|rw [wrap_u64']);(repeat' refine And.intro ?_ ?_)<;>omega)|((repeat' refine And.intro ?_ ?_)<;>first |omega|rfl|exact Nat.le_refl _|exact le_ rfl|exact bytesF_one _)|(simp_all;done)|(simp_all;omega)))|refine e_hit rfl ?_|refine e_miss rfl ?_|with_reducible refine ⟨by kernel_rfl, ?_⟩|refine p_then ?_|refine p_block ?_|refine p_endR ⟨_, _, rfl, rfl, _, rfl⟩|((with_reducible refine c_grd ?_);(fail_if_success (refine c_lit true rfl rfl rfl ?_));(fail_if_success (refine c_lit false rfl rfl rfl ?_));refine c_split rfl rfl (fun _ => ?_) (fun _ => ?_)))

namespace J
def kind : J → Int | mk k _ _ _ _ _ _ _ => k
def yes : J → Bool | mk _ y _ _ _ _ _ _ => y
def neg : J → Bool | mk _ _ n _ _ _ _ _ => n
def dig : J → List UInt8 | mk _ _ _ d _ _ _ _ => d
def exp : J → Int | mk _ _ _ _ e _ _ _ => e
def text : J → List UInt8 | mk _ _ _ _ _ t _ _ => t
def list : J → List J | mk _ _ _ _ _ _ l _ => l
def keys : J → List (List UInt8) | mk _ _ _ _ _ _ _ ks => ks
end J
def jP (x : J) : List D := [.i .i64 x.kind, .b x.yes, .b x.neg, .s x.dig, .i .i64 x.exp, .s x.text, .sl 8 x.list.length (jF x.list), .sl 1 x.keys.length (txF x.keys)]
theorem jC_P (x : J) : jC x = jP x := by
  cases x
  rw [jC_mk]
  rfl
def jG (l : List J) : Nat → List D := fun i => jP (l.getD i j0)
theorem jF_G (l : List J) : Weak (.sl 8 l.length (jF l)) (.sl 8 l.length (jG l)) := .sl _ _ _ _ (fun i hi => by
    rw [jF_at hi, jC_P]
    exact ⟨rfl, rfl⟩) fun i j hi hj => by
    rw [jF_at hi, jC_P]
    exact .refl _
def jQ (x : J) : List D := [.i .i64 x.kind, .b x.yes, .b x.neg, .s x.dig, .i .i64 x.exp, .s x.text, .sl 8 x.list.length (jG x.list), .sl 1 x.keys.length (txF x.keys)]
theorem jP_Q (x : J) : Weak (.ag (jP x)) (.ag (jQ x)) := .ag _ _ rfl fun j hj => match j, hj with
  | 0, _ => .refl _
  | 1, _ => .refl _
  | 2, _ => .refl _
  | 3, _ => .refl _
  | 4, _ => .refl _
  | 5, _ => .refl _
  | 6, _ => jF_G _
  | 7, _ => .refl _

mutual
def sameJ : J → J → Bool
  | .mk k y n d e t l ks, .mk k' y' n' d' e' t' l' ks' => if k ≠ k' then false else if k = 1 then y == y' else if k = 2 then (n == n' && (d == d' && (e == e' && true))) else if k = 3 then t == t'
    else if k ≠ 4 ∧ k ≠ 5 then true else if l.length ≠ l'.length ∨ k = 5 ∧ ks.length ≠ ks'.length then false else if k = 5 ∧ ks ≠ ks' then false else sameL l l'
def sameL : List J → List J → Bool
  | [], _ => true
  | _ :: _, [] => false
  | x :: r, y :: r' => sameJ x y && sameL r r'
end
theorem sameL_bad : ∀ {l l' : List J} {i : Nat}, i < l.length → sameJ (l.getD i j0) (l'.getD i j0) = false → l.length = l'.length → sameL l l' = false
  | [], _, _, h, _, _ => by simp at h
  | _ :: _, [], _, _, _, h => by simp at h
  | x :: r, y :: r', 0, _, h2, _ => by
    rw [sameL]
    have h2 : sameJ x y = false := h2
    rw [h2]
    rfl
  | x :: r, y :: r', i + 1, h, h2, h3 => by
    rw [sameL, sameL_bad (l := r) (l' := r') (i := i) (by simpa using h) (by simpa using h2) (by simpa using h3), Bool.and_false]
theorem sameL_all : ∀ {l l' : List J}, (∀ i, i < l.length → sameJ (l.getD i j0) (l'.getD i j0) = true) → l.length = l'.length → sameL l l' = true
  | [], _, _, _ => by rw [sameL]
  | _ :: _, [], _, h => by simp at h
  | x :: r, y :: r', h, h3 => by
    rw [sameL, sameL_all (l := r) (l' := r') (fun i hi => by have := h (i + 1) (by simpa using hi); simpa using this) (by simpa using h3)]
    have h0 : sameJ x y = true := h 0 (by simp)
    rw [h0]
    rfl
mutual
theorem sameJ_refl : ∀ x : J, sameJ x x = true
  | .mk k y n d e t l ks => by
    rw [sameJ]
    have hl := sameL_refl l
    simp [hl]
theorem sameL_refl : ∀ l : List J, sameL l l = true
  | [] => by rw [sameL]
  | x :: r => by rw [sameL, sameJ_refl x, sameL_refl r]; rfl
end
mutual
def jw : J → Nat
  | .mk _ _ _ _ _ _ l ks => 1 + jwL l + ks.length
def jwL : List J → Nat
  | [] => 0
  | x :: r => jw x + jwL r
end
theorem jw_eq (x : J) : jw x = 1 + jwL x.list + x.keys.length := by
  cases x
  rw [jw]
  rfl
theorem jw_pos (x : J) : 1 ≤ jw x := by
  rw [jw_eq]
  omega
theorem jwL_len : ∀ l : List J, l.length ≤ jwL l
  | [] => Nat.zero_le _
  | x :: r => by
    have := jwL_len r
    have := jw_pos x
    rw [jwL, List.length_cons]
    omega
theorem jwL_at : ∀ {l : List J} {i : Nat}, i < l.length → jw (l.getD i j0) ≤ jwL l
  | [], _, h => by simp at h
  | x :: r, 0, _ => by
    rw [jwL]
    exact Nat.le_add_right _ _
  | x :: r, i + 1, h => by
    have := jwL_at (l := r) (i := i) (by simpa using h)
    rw [jwL]
    have e : (x :: r).getD (i + 1) j0 = r.getD i j0 := by simp
    rw [e]
    omega
theorem jwL_app : ∀ (l : List J) (x : J), jwL (l ++ [x]) = jwL l + jw x
  | [], x => by
    show jw x + 0 = 0 + jw x
    omega
  | y :: r, x => by
    rw [List.cons_append, jwL, jwL, jwL_app r x]
    omega
theorem txF_ext {l l' : List (List UInt8)} (h : l.length = l'.length) (h2 : ∀ i, i < l.length → l.getD i [] = l'.getD i []) : l = l' := by
  apply List.ext_getElem h
  intro i h3 h4
  have := h2 i h3
  simpa [List.getD_eq_getElem?_getD, h3, h4] using this

def ValW (s : List UInt8) (val : Nat → JR) : Prop := ∀ i x n, i ≤ s.length → val i = .inl (x, n) → jw x + i ≤ n
theorem jkeys_w {s : List UInt8} {mp : Bool} {ks ks' : List (List UInt8)} {i n : Nat} (hi : i ≤ s.length) (h : jkeys s mp i ks = .inl (ks', n)) : ks'.length + i ≤ ks.length + n := by
  unfold jkeys at h
  split at h
  · cases h1 : jkey s i ks with
    | inr e => rw [h1] at h; cases h
    | inl r =>
      obtain ⟨k, m⟩ := r
      rw [h1] at h
      have := jkey_ok hi h1
      cases h
      rw [List.length_append, List.length_singleton]
      omega
  · cases h
    exact Nat.le_refl _
theorem jgo_w {s : List UInt8} {val : Nat → JR} (hv : ValOk s val) (hw : ValW s val) {mp : Bool} : ∀ (m i : Nat) (l : List J) (ks : List (List UInt8)) (x : J) (n : Nat), s.length - i ≤ m → i ≤ s.length → jgo s val mp i l ks = .inl (x, n) → jw x + i ≤ jwL l + ks.length + n := by
  intro m
  induction m with
  | zero =>
    intro i l ks x n hm hi h
    rw [jgo_eq hv hi] at h
    cases h1 : jkeys s mp i ks with
    | inr e => rw [h1] at h; cases h
    | inl r =>
      obtain ⟨ks', i1⟩ := r
      rw [h1] at h
      have q1 := jkeys_ok hi h1
      dsimp only at h
      cases h2 : val i1 with
      | inr e => rw [h2] at h; cases h
      | inl r =>
        obtain ⟨y, i2⟩ := r
        have q2 := hv _ _ _ q1.2 h2
        omega
  | succ m ih =>
    intro i l ks x n hm hi h
    rw [jgo_eq hv hi] at h
    cases h1 : jkeys s mp i ks with
    | inr e => rw [h1] at h; cases h
    | inl r =>
      obtain ⟨ks', i1⟩ := r
      rw [h1] at h
      have q1 := jkeys_ok hi h1
      have w1 := jkeys_w hi h1
      dsimp only at h
      cases h2 : val i1 with
      | inr e => rw [h2] at h; cases h
      | inl r =>
        obtain ⟨y, i2⟩ := r
        rw [h2] at h
        have q2 := hv _ _ _ q1.2 h2
        have w2 := hw _ _ _ q1.2 h2
        have wa := jwL_app l y
        dsimp only at h
        cases h3 : jpeek s i2 with
        | inr e => rw [h3] at h; cases h
        | inl i3 =>
          rw [h3] at h
          have q3 := jpeek_ok q2.2 h3
          dsimp only at h
          split at h
          · cases h
            unfold manyV
            rw [jw]
            omega
          · split at h
            · have := ih _ _ _ _ _ (by omega) (by omega) h
              omega
            · cases h
theorem jmany_w {s : List UInt8} {val : Nat → JR} (hv : ValOk s val) (hw : ValW s val) {mp : Bool} {i n : Nat} {x : J} (hi : i < s.length) (h : jmany s val mp i = .inl (x, n)) : jw x + i ≤ n := by
  unfold jmany at h
  cases h1 : jpeek s (i + 1) with
  | inr e => rw [h1] at h; cases h
  | inl j =>
    rw [h1] at h
    have q := jpeek_ok hi h1
    dsimp only at h
    split at h
    · cases h
      show 1 + 0 + 0 + i ≤ j + 1
      omega
    · have := jgo_w hv hw _ _ _ _ _ _ (Nat.le_refl _) (by omega) h
      have e : jwL [] = 0 := rfl
      rw [e, List.length_nil] at this
      omega
theorem jval_w (s : List UInt8) : ∀ d, ValW s (jval s d) := by
  intro d
  induction d with
  | zero =>
    intro i x n hi h
    unfold jval at h
    split at h <;> cases h
  | succ d ih =>
    intro i x n hi h
    have hk := jval_ok s (d + 1) i x n hi h
    have lit : ∀ (k : Int) (y g : Bool) (dd : List UInt8) (e : Int) (t : List UInt8), jw (.mk k y g dd e t [] []) = 1 := fun _ _ _ _ _ _ => rfl
    unfold jval at h
    cases h1 : jpeek s i with
    | inr e => rw [h1] at h; cases h
    | inl j =>
      rw [h1] at h
      have q := jpeek_ok hi h1
      dsimp only at h
      unfold jword at h
      split at h
      · split at h <;> cases h
        have := lit 0 false false [] 0 []
        show 1 + i ≤ _
        omega
      · split at h
        · split at h <;> cases h
          show 1 + i ≤ _
          omega
        · split at h
          · split at h <;> cases h
            show 1 + i ≤ _
            omega
          · split at h
            · cases h2 : jtext s j with
              | inr e => rw [h2] at h; cases h
              | inl r =>
                rw [h2] at h
                cases h
                show 1 + i ≤ _
                omega
            · split at h
              · have := jmany_w (jval_ok s d) ih q.2.1 h
                omega
              · split at h
                · have := jmany_w (jval_ok s d) ih q.2.1 h
                  omega
                · unfold jnum at h
                  split at h
                  · cases h
                    show 1 + i ≤ _
                    omega
                  · cases h

theorem jparse_w (s : List UInt8) : jw (jparse s).1 ≤ s.length + 1 := by
  have j1 : jw j0 = 1 := rfl
  unfold jparse
  split
  · dsimp only
    omega
  · cases h : jval s 64 0 with
    | inr e => dsimp only; omega
    | inl r =>
      obtain ⟨x, n⟩ := r
      have h1 := jval_w s 64 0 x n (Nat.zero_le _) h
      have h2 := jval_ok s 64 0 x n (Nat.zero_le _) h
      dsimp only
      split
      · dsimp only
        omega
      · dsimp only
        omega
theorem jparse_err (s : List UInt8) : 0 ≤ (jparse s).2.2 ∧ (jparse s).2.2 ≤ 1000 → True := fun _ => trivial

end Go.Proofs.YtbegohehjkjnmaaDoor.Flow
