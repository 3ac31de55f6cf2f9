/- The texts RJ8, RJ16, RN1, one behind the other. -/
import Derived.Test.YtbegohehjkjnmaaDoorMR19
namespace Go.Proofs.YtbegohehjkjnmaaDoor.Flow
open Go

theorem blk_or (s : List UInt8) (j : Nat) : (blkB (s.getD j 0) = true) ↔ (at' s j = 32 ∨ at' s j = 9 ∨ at' s j = 10 ∨ at' s j = 13) := by
  have h : ∀ n : Fin 256, (blkB (UInt8.ofNat n.1) = true) ↔ ((n.1 : Int) = 32 ∨ (n.1 : Int) = 9 ∨ (n.1 : Int) = 10 ∨ (n.1 : Int) = 13) := by decide +kernel
  have h := h ⟨(s.getD j 0).toNat, (s.getD j 0).toNat_lt⟩
  rw [show UInt8.ofNat (s.getD j 0).toNat = s.getD j 0 by simp] at h
  exact h

set_option maxRecDepth 100000 in
set_option maxHeartbeats 2000000 in
theorem rskip_ctr (s : List UInt8) (i : Nat) (hs : s.length ≤ 1048576) (hi : i ≤ s.length) : Ctr Tryd.prog 29 [.s s, .i .i64 i] (.i .i64 (skN s i)) := by
  refine r_fun Tryd.func29 rfl Tryd.ntmps29 Tryd.results29 rfl rfl fun X hL hX => ?_
  repeat' (first |with_reducible (first |refine t_seq ?_|refine t_region ?_|refine c_nil ?_|refine n_then ?_|refine t_ret ?_|refine t_skip ?_|refine t_exit ?_|refine t_block ?_|refine n_block ?_|refine e_then ?_|refine x_then ?_|refine x_block ?_|refine t_draw ?_)|refine r_val rfl rfl True.intro ?_|refine r_gskip rfl rfl rfl ?_|refine r_gskip2 rfl rfl rfl ?_|refine r_gval rfl rfl rfl rfl True.intro ?_|refine t_true rfl ?_|refine t_false rfl ?_|((first |refine t_cond_d rfl ?_ ?_|refine t_cond_i rfl ?_ ?_|refine t_cond_j rfl ?_ ?_|refine t_cond_s rfl ?_ ?_|refine t_cond_n rfl ?_ ?_|refine t_cond rfl ?_ ?_|refine c_split_d rfl rfl ?_ ?_|refine c_split_i rfl rfl ?_ ?_|refine c_split_j rfl rfl ?_ ?_|refine c_split_s rfl rfl ?_ ?_|refine c_split_n rfl rfl ?_ ?_)<;>intro<;>try (first |(rename_i hz;first |exact tf_ hz|exact ft_ hz)|(exfalso;omega)))|((first |refine r_val rfl rfl ?_ ?_|refine r_gval rfl rfl rfl rfl ?_ ?_|refine r_obj rfl rfl ?_ ?_|refine r_sto rfl ?_ ?_|refine r_gobj rfl rfl rfl rfl ?_ ?_);focus (first |omega|exact le_ rfl|((repeat first |rw [wrap_u8]|rw [IntKind.wrap_i64]|rw [IntKind.wrap_i32]|rw [wrap_u32']|rw [wrap_u64']);(repeat' refine And.intro ?_ ?_)<;>omega)|((repeat' refine And.intro ?_ ?_)<;>first |omega|rfl|exact Nat.le_refl _|exact le_ rfl|exact bytesF_one _)|(simp_all;done)|(simp_all;omega)))|refine e_hit rfl ?_|refine e_miss rfl ?_|with_reducible refine ⟨by kernel_rfl, ?_⟩|((with_reducible refine c_grd ?_);(fail_if_success (refine c_lit true rfl rfl rfl ?_));(fail_if_success (refine c_lit false rfl rfl rfl ?_));refine c_split rfl rfl (fun _ => ?_) (fun _ => ?_)))
  refine T.loop hL (fun j : Nat => [(0, .s s), (1, .i .i64 j)]) (fun _ => []) (fun j => i ≤ j ∧ j ≤ skN s i) (fun j => s.length - j) i ⟨Nat.le_refl _, (skN_le hi).1⟩
    ⟨⟨rfl, rfl, trivial⟩, trivial, rfl, by rw [hX]; simp⟩ ?_
  rintro j ⟨h1, h2⟩
  have h3 := (skN_le hi).2
  by_cases hj : j < s.length
  · have hb := blk_or s j
    cases hc : blkB (s.getD j 0) with
    | true =>
      have hm := skN_more h1 h2 hj hc
      have hb := hb.1 hc
      have fin : ∀ e : ((j : Int) + 1) = ((j + 1 : Nat) : Int), True := fun _ => trivial
      rcases hb with hb | hb | hb | hb
      all_goals
        repeat' (first |with_reducible (first |refine t_seq ?_|refine t_region ?_|refine c_nil ?_|refine n_then ?_|refine t_ret ?_|refine t_skip ?_|refine t_exit ?_|refine t_block ?_|refine n_block ?_|refine e_then ?_|refine x_then ?_|refine x_block ?_|refine t_draw ?_)|refine r_val rfl rfl True.intro ?_|refine r_gskip rfl rfl rfl ?_|refine r_gskip2 rfl rfl rfl ?_|refine r_gval rfl rfl rfl rfl True.intro ?_|refine t_true rfl ?_|refine t_false rfl ?_|((first |refine t_cond_d rfl ?_ ?_|refine t_cond_i rfl ?_ ?_|refine t_cond_j rfl ?_ ?_|refine t_cond_s rfl ?_ ?_|refine t_cond_n rfl ?_ ?_|refine t_cond rfl ?_ ?_|refine c_split_d rfl rfl ?_ ?_|refine c_split_i rfl rfl ?_ ?_|refine c_split_j rfl rfl ?_ ?_|refine c_split_s rfl rfl ?_ ?_|refine c_split_n rfl rfl ?_ ?_)<;>intro<;>try (first |(rename_i hz;first |exact tf_ hz|exact ft_ hz)|(exfalso;omega)))|((first |refine r_val rfl rfl ?_ ?_|refine r_gval rfl rfl rfl rfl ?_ ?_|refine r_obj rfl rfl ?_ ?_|refine r_sto rfl ?_ ?_|refine r_gobj rfl rfl rfl rfl ?_ ?_);focus (first |omega|exact le_ rfl|((repeat first |rw [wrap_u8]|rw [IntKind.wrap_i64]|rw [IntKind.wrap_i32]|rw [wrap_u32']|rw [wrap_u64']);(repeat' refine And.intro ?_ ?_)<;>omega)|((repeat' refine And.intro ?_ ?_)<;>first |omega|rfl|exact Nat.le_refl _|exact le_ rfl|exact bytesF_one _)|(simp_all;done)|(simp_all;omega)))|refine e_hit rfl ?_|refine e_miss rfl ?_|with_reducible refine ⟨by kernel_rfl, ?_⟩|refine x_end rfl ?_|refine n_end rfl ?_|((with_reducible refine c_grd ?_);(fail_if_success (refine c_lit true rfl rfl rfl ?_));(fail_if_success (refine c_lit false rfl rfl rfl ?_));refine c_split rfl rfl (fun _ => ?_) (fun _ => ?_)))
        all_goals exact ⟨j + 1, ⟨by omega, hm⟩, by omega, ⟨rfl, congrArg (D.i .i64) (by omega), trivial⟩, trivial, rfl, by rw [hX]; simp⟩
    | false =>
      rw [hc] at hb
      have hb : ¬ (at' s j = 32 ∨ at' s j = 9 ∨ at' s j = 10 ∨ at' s j = 13) := fun q => Bool.false_ne_true (hb.2 q)
      have b1 : ¬ at' s j = 32 := fun q => hb (.inl q)
      have b2 : ¬ at' s j = 9 := fun q => hb (.inr (.inl q))
      have b3 : ¬ at' s j = 10 := fun q => hb (.inr (.inr (.inl q)))
      have b4 : ¬ at' s j = 13 := fun q => hb (.inr (.inr (.inr q)))
      clear hb
      rw [skN_end h1 h2 (.inr hc) hi]
      repeat' (first |with_reducible (first |refine t_seq ?_|refine t_region ?_|refine c_nil ?_|refine n_then ?_|refine t_ret ?_|refine t_skip ?_|refine t_exit ?_|refine t_block ?_|refine n_block ?_|refine e_then ?_|refine x_then ?_|refine x_block ?_|refine t_draw ?_)|refine r_val rfl rfl True.intro ?_|refine r_gskip rfl rfl rfl ?_|refine r_gskip2 rfl rfl rfl ?_|refine r_gval rfl rfl rfl rfl True.intro ?_|refine t_true rfl ?_|refine t_false rfl ?_|((first |refine t_cond_d rfl ?_ ?_|refine t_cond_i rfl ?_ ?_|refine t_cond_j rfl ?_ ?_|refine t_cond_s rfl ?_ ?_|refine t_cond_n rfl ?_ ?_|refine t_cond rfl ?_ ?_|refine c_split_d rfl rfl ?_ ?_|refine c_split_i rfl rfl ?_ ?_|refine c_split_j rfl rfl ?_ ?_|refine c_split_s rfl rfl ?_ ?_|refine c_split_n rfl rfl ?_ ?_)<;>intro<;>try (first |(rename_i hz;first |exact tf_ hz|exact ft_ hz)|(exfalso;omega)))|((first |refine r_val rfl rfl ?_ ?_|refine r_gval rfl rfl rfl rfl ?_ ?_|refine r_obj rfl rfl ?_ ?_|refine r_sto rfl ?_ ?_|refine r_gobj rfl rfl rfl rfl ?_ ?_);focus (first |omega|exact le_ rfl|((repeat first |rw [wrap_u8]|rw [IntKind.wrap_i64]|rw [IntKind.wrap_i32]|rw [wrap_u32']|rw [wrap_u64']);(repeat' refine And.intro ?_ ?_)<;>omega)|((repeat' refine And.intro ?_ ?_)<;>first |omega|rfl|exact Nat.le_refl _|exact le_ rfl|exact bytesF_one _)|(simp_all;done)|(simp_all;omega)))|refine e_hit rfl ?_|refine e_miss rfl ?_|with_reducible refine ⟨by kernel_rfl, ?_⟩|refine x_end rfl ?_|refine n_end rfl ?_|((with_reducible refine c_grd ?_);(fail_if_success (refine c_lit true rfl rfl rfl ?_));(fail_if_success (refine c_lit false rfl rfl rfl ?_));refine c_split rfl rfl (fun _ => ?_) (fun _ => ?_)))
      all_goals rfl
  · rw [skN_end h1 h2 (.inl (by omega)) hi]
    repeat' (first |with_reducible (first |refine t_seq ?_|refine t_region ?_|refine c_nil ?_|refine n_then ?_|refine t_ret ?_|refine t_skip ?_|refine t_exit ?_|refine t_block ?_|refine n_block ?_|refine e_then ?_|refine x_then ?_|refine x_block ?_|refine t_draw ?_)|refine r_val rfl rfl True.intro ?_|refine r_gskip rfl rfl rfl ?_|refine r_gskip2 rfl rfl rfl ?_|refine r_gval rfl rfl rfl rfl True.intro ?_|refine t_true rfl ?_|refine t_false rfl ?_|((first |refine t_cond_d rfl ?_ ?_|refine t_cond_i rfl ?_ ?_|refine t_cond_j rfl ?_ ?_|refine t_cond_s rfl ?_ ?_|refine t_cond_n rfl ?_ ?_|refine t_cond rfl ?_ ?_|refine c_split_d rfl rfl ?_ ?_|refine c_split_i rfl rfl ?_ ?_|refine c_split_j rfl rfl ?_ ?_|refine c_split_s rfl rfl ?_ ?_|refine c_split_n rfl rfl ?_ ?_)<;>intro<;>try (first |(rename_i hz;first |exact tf_ hz|exact ft_ hz)|(exfalso;omega)))|((first |refine r_val rfl rfl ?_ ?_|refine r_gval rfl rfl rfl rfl ?_ ?_|refine r_obj rfl rfl ?_ ?_|refine r_sto rfl ?_ ?_|refine r_gobj rfl rfl rfl rfl ?_ ?_);focus (first |omega|exact le_ rfl|((repeat first |rw [wrap_u8]|rw [IntKind.wrap_i64]|rw [IntKind.wrap_i32]|rw [wrap_u32']|rw [wrap_u64']);(repeat' refine And.intro ?_ ?_)<;>omega)|((repeat' refine And.intro ?_ ?_)<;>first |omega|rfl|exact Nat.le_refl _|exact le_ rfl|exact bytesF_one _)|(simp_all;done)|(simp_all;omega)))|refine e_hit rfl ?_|refine e_miss rfl ?_|with_reducible refine ⟨by kernel_rfl, ?_⟩|refine x_end rfl ?_|refine n_end rfl ?_|((with_reducible refine c_grd ?_);(fail_if_success (refine c_lit true rfl rfl rfl ?_));(fail_if_success (refine c_lit false rfl rfl rfl ?_));refine c_split rfl rfl (fun _ => ?_) (fun _ => ?_)))
    all_goals rfl

theorem prefix_room {s p : List UInt8} (h : Lib.hasPrefix s p = true) : p.length ≤ s.length := by
  unfold Lib.hasPrefix at h
  exact (List.isPrefixOf_iff_prefix.1 h).length_le
theorem prefix_take {s w : List UInt8} {i : Nat} : Lib.hasPrefix (s.drop i) w = true ↔ List.drop i (List.take (i + w.length) s) = w := by
  unfold Lib.hasPrefix
  rw [List.isPrefixOf_iff_prefix, List.prefix_iff_eq_take, List.take_drop]
  exact ⟨fun h => h.symm, fun h => h.symm⟩

set_option maxRecDepth 100000 in
set_option maxHeartbeats 1000000 in
theorem begins_ctr (s w : List UInt8) (i : Nat) (hs : s.length ≤ 1048576) (hw : w.length ≤ 10) (hi : i ≤ s.length) : Ctr Tryd.prog 47 [.s s, .i .i64 i, .s w] (.b (Lib.hasPrefix (s.drop i) w)) := by
  refine r_fun Tryd.func47 rfl Tryd.ntmps47 Tryd.results47 rfl rfl fun X hL hX => ?_
  have hr := @prefix_room (s.drop i) w
  rw [List.length_drop] at hr
  have ht := @prefix_take s w i
  have hi0 : (i : Int).toNat = i := Int.toNat_natCast i
  have hi1 : ((i : Int) + (w.length : Int)).toNat = i + w.length := by omega
  by_cases hl : w.length ≤ s.length - i
  · have hl' : (s.length : Int) - i ≥ w.length := by omega
    repeat' (first |with_reducible (first |refine t_seq ?_|refine t_region ?_|refine c_nil ?_|refine n_then ?_|refine t_ret ?_|refine t_skip ?_|refine t_exit ?_|refine t_block ?_|refine n_block ?_|refine e_then ?_|refine x_then ?_|refine x_block ?_|refine t_draw ?_)|refine r_val rfl rfl True.intro ?_|refine r_gskip rfl rfl rfl ?_|refine r_gskip2 rfl rfl rfl ?_|refine r_gval rfl rfl rfl rfl True.intro ?_|refine t_true rfl ?_|refine t_false rfl ?_|((first |refine t_cond_d rfl ?_ ?_|refine t_cond_i rfl ?_ ?_|refine t_cond_j rfl ?_ ?_|refine t_cond_s rfl ?_ ?_|refine t_cond_n rfl ?_ ?_|refine t_cond rfl ?_ ?_|refine c_split_d rfl rfl ?_ ?_|refine c_split_i rfl rfl ?_ ?_|refine c_split_j rfl rfl ?_ ?_|refine c_split_s rfl rfl ?_ ?_|refine c_split_n rfl rfl ?_ ?_)<;>intro<;>try (first |(rename_i hz;first |exact tf_ hz|exact ft_ hz)|(exfalso;omega)))|((first |refine r_val rfl rfl ?_ ?_|refine r_gval rfl rfl rfl rfl ?_ ?_|refine r_obj rfl rfl ?_ ?_|refine r_sto rfl ?_ ?_|refine r_gobj rfl rfl rfl rfl ?_ ?_);focus (first |omega|exact le_ rfl|((repeat first |rw [wrap_u8]|rw [IntKind.wrap_i64]|rw [IntKind.wrap_i32]|rw [wrap_u32']|rw [wrap_u64']);(repeat' refine And.intro ?_ ?_)<;>omega)|((repeat' refine And.intro ?_ ?_)<;>first |omega|rfl|exact Nat.le_refl _|exact le_ rfl|exact bytesF_one _)|(simp_all;done)|(simp_all;omega)))|refine e_hit rfl ?_|refine e_miss rfl ?_|with_reducible refine ⟨by kernel_rfl, ?_⟩|refine x_end rfl ?_|refine n_end rfl ?_|((with_reducible refine c_grd ?_);(fail_if_success (refine c_lit true rfl rfl rfl ?_));(fail_if_success (refine c_lit false rfl rfl rfl ?_));refine c_split rfl rfl (fun _ => ?_) (fun _ => ?_)))
    all_goals exact congrArg D.b (by rw [hi0, hi1, Bool.eq_iff_iff, beq_iff_eq, ht])
  · have hl' : ¬ (s.length : Int) - i ≥ w.length := by omega
    have hf : Lib.hasPrefix (s.drop i) w = false := by
      cases h : Lib.hasPrefix (s.drop i) w with
      | false => rfl
      | true => exact absurd (hr h) hl
    rw [hf]
    repeat' (first |with_reducible (first |refine t_seq ?_|refine t_region ?_|refine c_nil ?_|refine n_then ?_|refine t_ret ?_|refine t_skip ?_|refine t_exit ?_|refine t_block ?_|refine n_block ?_|refine e_then ?_|refine x_then ?_|refine x_block ?_|refine t_draw ?_)|refine r_val rfl rfl True.intro ?_|refine r_gskip rfl rfl rfl ?_|refine r_gskip2 rfl rfl rfl ?_|refine r_gval rfl rfl rfl rfl True.intro ?_|refine t_true rfl ?_|refine t_false rfl ?_|((first |refine t_cond_d rfl ?_ ?_|refine t_cond_i rfl ?_ ?_|refine t_cond_j rfl ?_ ?_|refine t_cond_s rfl ?_ ?_|refine t_cond_n rfl ?_ ?_|refine t_cond rfl ?_ ?_|refine c_split_d rfl rfl ?_ ?_|refine c_split_i rfl rfl ?_ ?_|refine c_split_j rfl rfl ?_ ?_|refine c_split_s rfl rfl ?_ ?_|refine c_split_n rfl rfl ?_ ?_)<;>intro<;>try (first |(rename_i hz;first |exact tf_ hz|exact ft_ hz)|(exfalso;omega)))|((first |refine r_val rfl rfl ?_ ?_|refine r_gval rfl rfl rfl rfl ?_ ?_|refine r_obj rfl rfl ?_ ?_|refine r_sto rfl ?_ ?_|refine r_gobj rfl rfl rfl rfl ?_ ?_);focus (first |omega|exact le_ rfl|((repeat first |rw [wrap_u8]|rw [IntKind.wrap_i64]|rw [IntKind.wrap_i32]|rw [wrap_u32']|rw [wrap_u64']);(repeat' refine And.intro ?_ ?_)<;>omega)|((repeat' refine And.intro ?_ ?_)<;>first |omega|rfl|exact Nat.le_refl _|exact le_ rfl|exact bytesF_one _)|(simp_all;done)|(simp_all;omega)))|refine e_hit rfl ?_|refine e_miss rfl ?_|with_reducible refine ⟨by kernel_rfl, ?_⟩|refine x_end rfl ?_|refine n_end rfl ?_|((with_reducible refine c_grd ?_);(fail_if_success (refine c_lit true rfl rfl rfl ?_));(fail_if_success (refine c_lit false rfl rfl rfl ?_));refine c_split rfl rfl (fun _ => ?_) (fun _ => ?_)))
    all_goals rfl

set_option maxRecDepth 100000 in
set_option maxHeartbeats 1000000 in
theorem rplace_ctr (l : List (List UInt8)) (k : List UInt8) (hl : l.length ≤ 4194304) : Ctr Tryd.prog 32 [.sl 1 l.length (txF l), .s k] (.i .i64 (idxJ k l)) := by
  refine r_fun Tryd.func32 rfl Tryd.ntmps32 Tryd.results32 rfl rfl fun X hL hX => ?_
  repeat' (first |with_reducible (first |refine t_seq ?_|refine t_region ?_|refine c_nil ?_|refine n_then ?_|refine t_ret ?_|refine t_skip ?_|refine t_exit ?_|refine t_block ?_|refine n_block ?_|refine e_then ?_|refine x_then ?_|refine x_block ?_|refine t_draw ?_)|refine r_val rfl rfl True.intro ?_|refine r_gskip rfl rfl rfl ?_|refine r_gskip2 rfl rfl rfl ?_|refine r_gval rfl rfl rfl rfl True.intro ?_|refine t_true rfl ?_|refine t_false rfl ?_|((first |refine t_cond_d rfl ?_ ?_|refine t_cond_i rfl ?_ ?_|refine t_cond_j rfl ?_ ?_|refine t_cond_s rfl ?_ ?_|refine t_cond_n rfl ?_ ?_|refine t_cond rfl ?_ ?_|refine c_split_d rfl rfl ?_ ?_|refine c_split_i rfl rfl ?_ ?_|refine c_split_j rfl rfl ?_ ?_|refine c_split_s rfl rfl ?_ ?_|refine c_split_n rfl rfl ?_ ?_)<;>intro<;>try (first |(rename_i hz;first |exact tf_ hz|exact ft_ hz)|(exfalso;omega)))|((first |refine r_val rfl rfl ?_ ?_|refine r_gval rfl rfl rfl rfl ?_ ?_|refine r_obj rfl rfl ?_ ?_|refine r_sto rfl ?_ ?_|refine r_gobj rfl rfl rfl rfl ?_ ?_);focus (first |omega|exact le_ rfl|((repeat first |rw [wrap_u8]|rw [IntKind.wrap_i64]|rw [IntKind.wrap_i32]|rw [wrap_u32']|rw [wrap_u64']);(repeat' refine And.intro ?_ ?_)<;>omega)|((repeat' refine And.intro ?_ ?_)<;>first |omega|rfl|exact Nat.le_refl _|exact le_ rfl|exact bytesF_one _)|(simp_all;done)|(simp_all;omega)))|refine e_hit rfl ?_|refine e_miss rfl ?_|with_reducible refine ⟨by kernel_rfl, ?_⟩|refine x_end rfl ?_|refine n_end rfl ?_|((with_reducible refine c_grd ?_);(fail_if_success (refine c_lit true rfl rfl rfl ?_));(fail_if_success (refine c_lit false rfl rfl rfl ?_));refine c_split rfl rfl (fun _ => ?_) (fun _ => ?_)))
  refine T.loop hL (fun i : Nat => [(0, .sl 1 l.length (txF l)), (1, .s k), (5, .i .i64 i)]) (fun _ => [])
    (fun i => i ≤ l.length ∧ ∀ j, j < i → ¬ l.getD j [] = k) (fun i => l.length - i) 0 ⟨Nat.zero_le _, fun j h => absurd h (Nat.not_lt_zero _)⟩
    ⟨⟨rfl, rfl, rfl, trivial⟩, trivial, rfl, by rw [hX]; simp⟩ ?_
  rintro i ⟨h1, h2⟩
  have hnat : (i : Int).toNat = i := Int.toNat_natCast i
  by_cases hil : i < l.length
  · by_cases hq : l.getD i [] = k
    · have hq' : k = l.getD (i : Int).toNat [] := by rw [hnat]; exact hq.symm
      have hq2 : l.getD (i : Int).toNat [] = k := hq'.symm
      rw [idxJ_hit h2 hil hq]
      repeat' (first |with_reducible (first |refine t_seq ?_|refine t_region ?_|refine c_nil ?_|refine n_then ?_|refine t_ret ?_|refine t_skip ?_|refine t_exit ?_|refine t_block ?_|refine n_block ?_|refine e_then ?_|refine x_then ?_|refine x_block ?_|refine t_draw ?_)|refine r_val rfl rfl True.intro ?_|refine r_gskip rfl rfl rfl ?_|refine r_gskip2 rfl rfl rfl ?_|refine r_gval rfl rfl rfl rfl True.intro ?_|refine t_true rfl ?_|refine t_false rfl ?_|((first |refine t_cond_d rfl ?_ ?_|refine t_cond_i rfl ?_ ?_|refine t_cond_j rfl ?_ ?_|refine t_cond_s rfl ?_ ?_|refine t_cond_n rfl ?_ ?_|refine t_cond rfl ?_ ?_|refine c_split_d rfl rfl ?_ ?_|refine c_split_i rfl rfl ?_ ?_|refine c_split_j rfl rfl ?_ ?_|refine c_split_s rfl rfl ?_ ?_|refine c_split_n rfl rfl ?_ ?_)<;>intro<;>try (first |(rename_i hz;first |exact tf_ hz|exact ft_ hz)|(exfalso;omega)))|((first |refine r_val rfl rfl ?_ ?_|refine r_gval rfl rfl rfl rfl ?_ ?_|refine r_obj rfl rfl ?_ ?_|refine r_sto rfl ?_ ?_|refine r_gobj rfl rfl rfl rfl ?_ ?_);focus (first |omega|exact le_ rfl|((repeat first |rw [wrap_u8]|rw [IntKind.wrap_i64]|rw [IntKind.wrap_i32]|rw [wrap_u32']|rw [wrap_u64']);(repeat' refine And.intro ?_ ?_)<;>omega)|((repeat' refine And.intro ?_ ?_)<;>first |omega|rfl|exact Nat.le_refl _|exact le_ rfl|exact bytesF_one _)|(simp_all;done)|(simp_all;omega)))|refine e_hit rfl ?_|refine e_miss rfl ?_|with_reducible refine ⟨by kernel_rfl, ?_⟩|refine x_end rfl ?_|refine n_end rfl ?_|((with_reducible refine c_grd ?_);(fail_if_success (refine c_lit true rfl rfl rfl ?_));(fail_if_success (refine c_lit false rfl rfl rfl ?_));refine c_split rfl rfl (fun _ => ?_) (fun _ => ?_)))
      all_goals first
        | rfl
        | (exfalso; rename_i q; exact q hq')
        | (exfalso; rename_i q; exact q hq2)
    · have hq' : ¬ k = l.getD (i : Int).toNat [] := by rw [hnat]; exact fun e => hq e.symm
      have hq2 : ¬ l.getD (i : Int).toNat [] = k := fun e => hq' e.symm
      repeat' (first |with_reducible (first |refine t_seq ?_|refine t_region ?_|refine c_nil ?_|refine n_then ?_|refine t_ret ?_|refine t_skip ?_|refine t_exit ?_|refine t_block ?_|refine n_block ?_|refine e_then ?_|refine x_then ?_|refine x_block ?_|refine t_draw ?_)|refine r_val rfl rfl True.intro ?_|refine r_gskip rfl rfl rfl ?_|refine r_gskip2 rfl rfl rfl ?_|refine r_gval rfl rfl rfl rfl True.intro ?_|refine t_true rfl ?_|refine t_false rfl ?_|((first |refine t_cond_d rfl ?_ ?_|refine t_cond_i rfl ?_ ?_|refine t_cond_j rfl ?_ ?_|refine t_cond_s rfl ?_ ?_|refine t_cond_n rfl ?_ ?_|refine t_cond rfl ?_ ?_|refine c_split_d rfl rfl ?_ ?_|refine c_split_i rfl rfl ?_ ?_|refine c_split_j rfl rfl ?_ ?_|refine c_split_s rfl rfl ?_ ?_|refine c_split_n rfl rfl ?_ ?_)<;>intro<;>try (first |(rename_i hz;first |exact tf_ hz|exact ft_ hz)|(exfalso;omega)))|((first |refine r_val rfl rfl ?_ ?_|refine r_gval rfl rfl rfl rfl ?_ ?_|refine r_obj rfl rfl ?_ ?_|refine r_sto rfl ?_ ?_|refine r_gobj rfl rfl rfl rfl ?_ ?_);focus (first |omega|exact le_ rfl|((repeat first |rw [wrap_u8]|rw [IntKind.wrap_i64]|rw [IntKind.wrap_i32]|rw [wrap_u32']|rw [wrap_u64']);(repeat' refine And.intro ?_ ?_)<;>omega)|((repeat' refine And.intro ?_ ?_)<;>first |omega|rfl|exact Nat.le_refl _|exact le_ rfl|exact bytesF_one _)|(simp_all;done)|(simp_all;omega)))|refine e_hit rfl ?_|refine e_miss rfl ?_|with_reducible refine ⟨by kernel_rfl, ?_⟩|refine x_end rfl ?_|refine n_end rfl ?_|((with_reducible refine c_grd ?_);(fail_if_success (refine c_lit true rfl rfl rfl ?_));(fail_if_success (refine c_lit false rfl rfl rfl ?_));refine c_split rfl rfl (fun _ => ?_) (fun _ => ?_)))
      all_goals first
        | (exfalso; rename_i q; exact hq' q)
        | (exfalso; rename_i q; exact hq2 q)
        | exact ⟨i + 1, ⟨by omega, fun j hj => by
            by_cases e : j = i
            · subst e; exact hq
            · exact h2 j (by omega)⟩, by omega, ⟨rfl, rfl, congrArg (D.i .i64) (by omega), trivial⟩, trivial, rfl, by rw [hX]; simp⟩
  · rw [idxJ_miss (fun j hj => h2 j (by omega))]
    repeat' (first |with_reducible (first |refine t_seq ?_|refine t_region ?_|refine c_nil ?_|refine n_then ?_|refine t_ret ?_|refine t_skip ?_|refine t_exit ?_|refine t_block ?_|refine n_block ?_|refine e_then ?_|refine x_then ?_|refine x_block ?_|refine t_draw ?_)|refine r_val rfl rfl True.intro ?_|refine r_gskip rfl rfl rfl ?_|refine r_gskip2 rfl rfl rfl ?_|refine r_gval rfl rfl rfl rfl True.intro ?_|refine t_true rfl ?_|refine t_false rfl ?_|((first |refine t_cond_d rfl ?_ ?_|refine t_cond_i rfl ?_ ?_|refine t_cond_j rfl ?_ ?_|refine t_cond_s rfl ?_ ?_|refine t_cond_n rfl ?_ ?_|refine t_cond rfl ?_ ?_|refine c_split_d rfl rfl ?_ ?_|refine c_split_i rfl rfl ?_ ?_|refine c_split_j rfl rfl ?_ ?_|refine c_split_s rfl rfl ?_ ?_|refine c_split_n rfl rfl ?_ ?_)<;>intro<;>try (first |(rename_i hz;first |exact tf_ hz|exact ft_ hz)|(exfalso;omega)))|((first |refine r_val rfl rfl ?_ ?_|refine r_gval rfl rfl rfl rfl ?_ ?_|refine r_obj rfl rfl ?_ ?_|refine r_sto rfl ?_ ?_|refine r_gobj rfl rfl rfl rfl ?_ ?_);focus (first |omega|exact le_ rfl|((repeat first |rw [wrap_u8]|rw [IntKind.wrap_i64]|rw [IntKind.wrap_i32]|rw [wrap_u32']|rw [wrap_u64']);(repeat' refine And.intro ?_ ?_)<;>omega)|((repeat' refine And.intro ?_ ?_)<;>first |omega|rfl|exact Nat.le_refl _|exact le_ rfl|exact bytesF_one _)|(simp_all;done)|(simp_all;omega)))|refine e_hit rfl ?_|refine e_miss rfl ?_|with_reducible refine ⟨by kernel_rfl, ?_⟩|refine x_end rfl ?_|refine n_end rfl ?_|((with_reducible refine c_grd ?_);(fail_if_success (refine c_lit true rfl rfl rfl ?_));(fail_if_success (refine c_lit false rfl rfl rfl ?_));refine c_split rfl rfl (fun _ => ?_) (fun _ => ?_)))
    all_goals rfl

theorem Ctr.weakS {P : Program} {f : FuncId} {args : List D} {d d' : D} (h : Ctr P f args d) (hw : Weak d d') : Ctr P f args d' := by
  intro w S vs hv hg hn hr
  refine (h w S vs hv hg hn hr).mono ?_
  rintro e w' ⟨v, S', h1, h2, h3⟩
  exact ⟨v, S', h1, h2.weak hw, h3⟩

def getJ (x : J) (k : List UInt8) : J × Bool := if x.kind = 5 ∧ 0 ≤ idxJ k x.keys ∧ idxJ k x.keys < x.list.length then (x.list.getD (idxJ k x.keys).toNat j0, true) else (j0, false)
def getD (r : J × Bool) : D := .tu [.ag (jP r.1), .b r.2]
theorem get_none : Weak (.tu [.ag j0C, .b false]) (getD (j0, false)) := by
  unfold getD
  refine .tu2 ?_ (.refl _)
  rw [← jC_P]
  exact lit_weak 0 false
theorem getD_free (r : J × Bool) : (getD r).free = true := rfl

set_option maxRecDepth 100000 in
set_option maxHeartbeats 1000000 in
theorem get_jctr (x : J) (k : List UInt8) (hw : jw x ≤ 4194304) : Ctr Tryd.prog 13 [.ag (jP x), .s k] (getD (getJ x k)) := by
  refine Ctr.weak2 ?_ (jP_Q x) (.refl _)
  have hx := jw_eq x
  have hl := jwL_len x.list
  have c1 := jindex_ctr x.keys k (by omega)
  have hm := @idxJ_mem k x.keys
  obtain ⟨kd, b, g, d, e, t, l, ks⟩ := x
  replace hx : jw (.mk kd b g d e t l ks) = 1 + jwL l + ks.length := hx
  replace hl : l.length ≤ jwL l := hl
  replace c1 : Ctr Tryd.prog 31 [.sl 1 ks.length (txF ks), .s k] (.i .i64 (idxJ k ks)) := c1
  replace hm : (0 ≤ idxJ k ks ↔ k ∈ ks) ∧ -1 ≤ idxJ k ks ∧ idxJ k ks < ks.length := hm
  show Ctr Tryd.prog 13 [.ag [.i .i64 kd, .b b, .b g, .s d, .i .i64 e, .s t, .sl 8 l.length (jG l), .sl 1 ks.length (txF ks)], .s k] (getD (if kd = 5 ∧ 0 ≤ idxJ k ks ∧ idxJ k ks < l.length then (l.getD (idxJ k ks).toNat j0, true) else (j0, false)))
  replace hm := hm.2
  generalize idxJ k ks = ix at *
  by_cases a0 : kd = 5
  rotate_left
  · rw [if_neg (fun q => a0 q.1)]
    refine r_fun Tryd.func13 rfl Tryd.ntmps13 Tryd.results13 rfl rfl fun X hL hX => ?_
    repeat' (first |with_reducible (first |refine t_seq ?_|refine t_region ?_|refine c_nil ?_|refine n_then ?_|refine t_ret ?_|refine t_skip ?_|refine t_exit ?_|refine t_block ?_|refine n_block ?_|refine e_then ?_|refine x_then ?_|refine x_block ?_|refine t_draw ?_)|refine r_val rfl rfl True.intro ?_|refine r_gskip rfl rfl rfl ?_|refine r_gskip2 rfl rfl rfl ?_|refine r_gval rfl rfl rfl rfl True.intro ?_|refine t_true rfl ?_|refine t_false rfl ?_|((first |refine t_cond_d rfl ?_ ?_|refine t_cond_i rfl ?_ ?_|refine t_cond_j rfl ?_ ?_|refine t_cond_s rfl ?_ ?_|refine t_cond_n rfl ?_ ?_|refine t_cond rfl ?_ ?_|refine c_split_d rfl rfl ?_ ?_|refine c_split_i rfl rfl ?_ ?_|refine c_split_j rfl rfl ?_ ?_|refine c_split_s rfl rfl ?_ ?_|refine c_split_n rfl rfl ?_ ?_)<;>intro<;>try (first |(rename_i hz;first |exact tf_ hz|exact ft_ hz)|(exfalso;omega)))|((first |refine r_val rfl rfl ?_ ?_|refine r_gval rfl rfl rfl rfl ?_ ?_|refine r_obj rfl rfl ?_ ?_|refine r_sto rfl ?_ ?_|refine r_gobj rfl rfl rfl rfl ?_ ?_);focus (first |omega|exact le_ rfl|((repeat first |rw [wrap_u8]|rw [IntKind.wrap_i64]|rw [IntKind.wrap_i32]|rw [wrap_u32']|rw [wrap_u64']);(repeat' refine And.intro ?_ ?_)<;>omega)|((repeat' refine And.intro ?_ ?_)<;>first |omega|rfl|exact Nat.le_refl _|exact le_ rfl|exact bytesF_one _)|(simp_all;done)|(simp_all;omega)))|refine e_hit rfl ?_|refine e_miss rfl ?_|with_reducible refine ⟨by kernel_rfl, ?_⟩|refine x_endw rfl ?_|((with_reducible refine c_grd ?_);(fail_if_success (refine c_lit true rfl rfl rfl ?_));(fail_if_success (refine c_lit false rfl rfl rfl ?_));refine c_split rfl rfl (fun _ => ?_) (fun _ => ?_)))
    all_goals exact get_none
  by_cases a1 : 0 ≤ ix
  rotate_left
  · rw [if_neg (fun q => a1 q.2.1)]
    refine r_fun Tryd.func13 rfl Tryd.ntmps13 Tryd.results13 rfl rfl fun X hL hX => ?_
    repeat' (first |refine r_call (f := 31) rfl rfl Tryd.call31 rfl c1 ?_|with_reducible (first |refine t_seq ?_|refine t_region ?_|refine c_nil ?_|refine n_then ?_|refine t_ret ?_|refine t_skip ?_|refine t_exit ?_|refine t_block ?_|refine n_block ?_|refine e_then ?_|refine x_then ?_|refine x_block ?_|refine t_draw ?_)|refine r_val rfl rfl True.intro ?_|refine r_gskip rfl rfl rfl ?_|refine r_gskip2 rfl rfl rfl ?_|refine r_gval rfl rfl rfl rfl True.intro ?_|refine t_true rfl ?_|refine t_false rfl ?_|((first |refine t_cond_d rfl ?_ ?_|refine t_cond_i rfl ?_ ?_|refine t_cond_j rfl ?_ ?_|refine t_cond_s rfl ?_ ?_|refine t_cond_n rfl ?_ ?_|refine t_cond rfl ?_ ?_|refine c_split_d rfl rfl ?_ ?_|refine c_split_i rfl rfl ?_ ?_|refine c_split_j rfl rfl ?_ ?_|refine c_split_s rfl rfl ?_ ?_|refine c_split_n rfl rfl ?_ ?_)<;>intro<;>try (first |(rename_i hz;first |exact tf_ hz|exact ft_ hz)|(exfalso;omega)))|((first |refine r_val rfl rfl ?_ ?_|refine r_gval rfl rfl rfl rfl ?_ ?_|refine r_obj rfl rfl ?_ ?_|refine r_sto rfl ?_ ?_|refine r_gobj rfl rfl rfl rfl ?_ ?_);focus (first |omega|exact le_ rfl|((repeat first |rw [wrap_u8]|rw [IntKind.wrap_i64]|rw [IntKind.wrap_i32]|rw [wrap_u32']|rw [wrap_u64']);(repeat' refine And.intro ?_ ?_)<;>omega)|((repeat' refine And.intro ?_ ?_)<;>first |omega|rfl|exact Nat.le_refl _|exact le_ rfl|exact bytesF_one _)|(simp_all;done)|(simp_all;omega)))|refine e_hit rfl ?_|refine e_miss rfl ?_|with_reducible refine ⟨by kernel_rfl, ?_⟩|refine x_endw rfl ?_|((with_reducible refine c_grd ?_);(fail_if_success (refine c_lit true rfl rfl rfl ?_));(fail_if_success (refine c_lit false rfl rfl rfl ?_));refine c_split rfl rfl (fun _ => ?_) (fun _ => ?_)))
    all_goals exact get_none
  by_cases a2 : ix < l.length
  rotate_left
  · rw [if_neg (fun q => a2 q.2.2)]
    refine r_fun Tryd.func13 rfl Tryd.ntmps13 Tryd.results13 rfl rfl fun X hL hX => ?_
    repeat' (first |refine r_call (f := 31) rfl rfl Tryd.call31 rfl c1 ?_|with_reducible (first |refine t_seq ?_|refine t_region ?_|refine c_nil ?_|refine n_then ?_|refine t_ret ?_|refine t_skip ?_|refine t_exit ?_|refine t_block ?_|refine n_block ?_|refine e_then ?_|refine x_then ?_|refine x_block ?_|refine t_draw ?_)|refine r_val rfl rfl True.intro ?_|refine r_gskip rfl rfl rfl ?_|refine r_gskip2 rfl rfl rfl ?_|refine r_gval rfl rfl rfl rfl True.intro ?_|refine t_true rfl ?_|refine t_false rfl ?_|((first |refine t_cond_d rfl ?_ ?_|refine t_cond_i rfl ?_ ?_|refine t_cond_j rfl ?_ ?_|refine t_cond_s rfl ?_ ?_|refine t_cond_n rfl ?_ ?_|refine t_cond rfl ?_ ?_|refine c_split_d rfl rfl ?_ ?_|refine c_split_i rfl rfl ?_ ?_|refine c_split_j rfl rfl ?_ ?_|refine c_split_s rfl rfl ?_ ?_|refine c_split_n rfl rfl ?_ ?_)<;>intro<;>try (first |(rename_i hz;first |exact tf_ hz|exact ft_ hz)|(exfalso;omega)))|((first |refine r_val rfl rfl ?_ ?_|refine r_gval rfl rfl rfl rfl ?_ ?_|refine r_obj rfl rfl ?_ ?_|refine r_sto rfl ?_ ?_|refine r_gobj rfl rfl rfl rfl ?_ ?_);focus (first |omega|exact le_ rfl|((repeat first |rw [wrap_u8]|rw [IntKind.wrap_i64]|rw [IntKind.wrap_i32]|rw [wrap_u32']|rw [wrap_u64']);(repeat' refine And.intro ?_ ?_)<;>omega)|((repeat' refine And.intro ?_ ?_)<;>first |omega|rfl|exact Nat.le_refl _|exact le_ rfl|exact bytesF_one _)|(simp_all;done)|(simp_all;omega)))|refine e_hit rfl ?_|refine e_miss rfl ?_|with_reducible refine ⟨by kernel_rfl, ?_⟩|refine x_endw rfl ?_|((with_reducible refine c_grd ?_);(fail_if_success (refine c_lit true rfl rfl rfl ?_));(fail_if_success (refine c_lit false rfl rfl rfl ?_));refine c_split rfl rfl (fun _ => ?_) (fun _ => ?_)))
    all_goals exact get_none
  rw [if_pos ⟨a0, a1, a2⟩]
  refine r_fun Tryd.func13 rfl Tryd.ntmps13 Tryd.results13 rfl rfl fun X hL hX => ?_
  repeat' (first |refine r_call (f := 31) rfl rfl Tryd.call31 rfl c1 ?_|with_reducible (first |refine t_seq ?_|refine t_region ?_|refine c_nil ?_|refine n_then ?_|refine t_ret ?_|refine t_skip ?_|refine t_exit ?_|refine t_block ?_|refine n_block ?_|refine e_then ?_|refine x_then ?_|refine x_block ?_|refine t_draw ?_)|refine r_val rfl rfl True.intro ?_|refine r_gskip rfl rfl rfl ?_|refine r_gskip2 rfl rfl rfl ?_|refine r_gval rfl rfl rfl rfl True.intro ?_|refine t_true rfl ?_|refine t_false rfl ?_|((first |refine t_cond_d rfl ?_ ?_|refine t_cond_i rfl ?_ ?_|refine t_cond_j rfl ?_ ?_|refine t_cond_s rfl ?_ ?_|refine t_cond_n rfl ?_ ?_|refine t_cond rfl ?_ ?_|refine c_split_d rfl rfl ?_ ?_|refine c_split_i rfl rfl ?_ ?_|refine c_split_j rfl rfl ?_ ?_|refine c_split_s rfl rfl ?_ ?_|refine c_split_n rfl rfl ?_ ?_)<;>intro<;>try (first |(rename_i hz;first |exact tf_ hz|exact ft_ hz)|(exfalso;omega)))|((first |refine r_val rfl rfl ?_ ?_|refine r_gval rfl rfl rfl rfl ?_ ?_|refine r_obj rfl rfl ?_ ?_|refine r_sto rfl ?_ ?_|refine r_gobj rfl rfl rfl rfl ?_ ?_);focus (first |omega|exact le_ rfl|((repeat first |rw [wrap_u8]|rw [IntKind.wrap_i64]|rw [IntKind.wrap_i32]|rw [wrap_u32']|rw [wrap_u64']);(repeat' refine And.intro ?_ ?_)<;>omega)|((repeat' refine And.intro ?_ ?_)<;>first |omega|rfl|exact Nat.le_refl _|exact le_ rfl|exact bytesF_one _)|(simp_all;done)|(simp_all;omega)))|refine e_hit rfl ?_|refine e_miss rfl ?_|with_reducible refine ⟨by kernel_rfl, ?_⟩|refine x_endw rfl ?_|((with_reducible refine c_grd ?_);(fail_if_success (refine c_lit true rfl rfl rfl ?_));(fail_if_success (refine c_lit false rfl rfl rfl ?_));refine c_split rfl rfl (fun _ => ?_) (fun _ => ?_)))
  all_goals exact .of_eq rfl

set_option maxRecDepth 100000 in
set_option maxHeartbeats 1000000 in
theorem rget_jctr (x : J) (k : List UInt8) (hw : jw x ≤ 4194304) : Ctr Tryd.prog 14 [.ag (jP x), .s k] (getD (getJ x k)) := by
  refine Ctr.weak2 ?_ (jP_Q x) (.refl _)
  have hx := jw_eq x
  have hl := jwL_len x.list
  have c1 := rplace_ctr x.keys k (by omega)
  have hm := @idxJ_mem k x.keys
  obtain ⟨kd, b, g, d, e, t, l, ks⟩ := x
  replace hx : jw (.mk kd b g d e t l ks) = 1 + jwL l + ks.length := hx
  replace hl : l.length ≤ jwL l := hl
  replace c1 : Ctr Tryd.prog 32 [.sl 1 ks.length (txF ks), .s k] (.i .i64 (idxJ k ks)) := c1
  replace hm : (0 ≤ idxJ k ks ↔ k ∈ ks) ∧ -1 ≤ idxJ k ks ∧ idxJ k ks < ks.length := hm
  show Ctr Tryd.prog 14 [.ag [.i .i64 kd, .b b, .b g, .s d, .i .i64 e, .s t, .sl 8 l.length (jG l), .sl 1 ks.length (txF ks)], .s k] (getD (if kd = 5 ∧ 0 ≤ idxJ k ks ∧ idxJ k ks < l.length then (l.getD (idxJ k ks).toNat j0, true) else (j0, false)))
  replace hm := hm.2
  generalize idxJ k ks = ix at *
  by_cases a0 : kd = 5
  rotate_left
  · rw [if_neg (fun q => a0 q.1)]
    refine r_fun Tryd.func14 rfl Tryd.ntmps14 Tryd.results14 rfl rfl fun X hL hX => ?_
    repeat' (first |refine r_call (f := 32) rfl rfl Tryd.call32 rfl c1 ?_|with_reducible (first |refine t_seq ?_|refine t_region ?_|refine c_nil ?_|refine n_then ?_|refine t_ret ?_|refine t_skip ?_|refine t_exit ?_|refine t_block ?_|refine n_block ?_|refine e_then ?_|refine x_then ?_|refine x_block ?_|refine t_draw ?_)|refine r_val rfl rfl True.intro ?_|refine r_gskip rfl rfl rfl ?_|refine r_gskip2 rfl rfl rfl ?_|refine r_gval rfl rfl rfl rfl True.intro ?_|refine t_true rfl ?_|refine t_false rfl ?_|((first |refine t_cond_d rfl ?_ ?_|refine t_cond_i rfl ?_ ?_|refine t_cond_j rfl ?_ ?_|refine t_cond_s rfl ?_ ?_|refine t_cond_n rfl ?_ ?_|refine t_cond rfl ?_ ?_|refine c_split_d rfl rfl ?_ ?_|refine c_split_i rfl rfl ?_ ?_|refine c_split_j rfl rfl ?_ ?_|refine c_split_s rfl rfl ?_ ?_|refine c_split_n rfl rfl ?_ ?_)<;>intro<;>try (first |(rename_i hz;first |exact tf_ hz|exact ft_ hz)|(exfalso;omega)))|((first |refine r_val rfl rfl ?_ ?_|refine r_gval rfl rfl rfl rfl ?_ ?_|refine r_obj rfl rfl ?_ ?_|refine r_sto rfl ?_ ?_|refine r_gobj rfl rfl rfl rfl ?_ ?_);focus (first |omega|exact le_ rfl|((repeat first |rw [wrap_u8]|rw [IntKind.wrap_i64]|rw [IntKind.wrap_i32]|rw [wrap_u32']|rw [wrap_u64']);(repeat' refine And.intro ?_ ?_)<;>omega)|((repeat' refine And.intro ?_ ?_)<;>first |omega|rfl|exact Nat.le_refl _|exact le_ rfl|exact bytesF_one _)|(simp_all;done)|(simp_all;omega)))|refine e_hit rfl ?_|refine e_miss rfl ?_|with_reducible refine ⟨by kernel_rfl, ?_⟩|refine x_endw rfl ?_|((with_reducible refine c_grd ?_);(fail_if_success (refine c_lit true rfl rfl rfl ?_));(fail_if_success (refine c_lit false rfl rfl rfl ?_));refine c_split rfl rfl (fun _ => ?_) (fun _ => ?_)))
    all_goals exact get_none
  by_cases a1 : 0 ≤ ix
  rotate_left
  · rw [if_neg (fun q => a1 q.2.1)]
    refine r_fun Tryd.func14 rfl Tryd.ntmps14 Tryd.results14 rfl rfl fun X hL hX => ?_
    repeat' (first |refine r_call (f := 32) rfl rfl Tryd.call32 rfl c1 ?_|with_reducible (first |refine t_seq ?_|refine t_region ?_|refine c_nil ?_|refine n_then ?_|refine t_ret ?_|refine t_skip ?_|refine t_exit ?_|refine t_block ?_|refine n_block ?_|refine e_then ?_|refine x_then ?_|refine x_block ?_|refine t_draw ?_)|refine r_val rfl rfl True.intro ?_|refine r_gskip rfl rfl rfl ?_|refine r_gskip2 rfl rfl rfl ?_|refine r_gval rfl rfl rfl rfl True.intro ?_|refine t_true rfl ?_|refine t_false rfl ?_|((first |refine t_cond_d rfl ?_ ?_|refine t_cond_i rfl ?_ ?_|refine t_cond_j rfl ?_ ?_|refine t_cond_s rfl ?_ ?_|refine t_cond_n rfl ?_ ?_|refine t_cond rfl ?_ ?_|refine c_split_d rfl rfl ?_ ?_|refine c_split_i rfl rfl ?_ ?_|refine c_split_j rfl rfl ?_ ?_|refine c_split_s rfl rfl ?_ ?_|refine c_split_n rfl rfl ?_ ?_)<;>intro<;>try (first |(rename_i hz;first |exact tf_ hz|exact ft_ hz)|(exfalso;omega)))|((first |refine r_val rfl rfl ?_ ?_|refine r_gval rfl rfl rfl rfl ?_ ?_|refine r_obj rfl rfl ?_ ?_|refine r_sto rfl ?_ ?_|refine r_gobj rfl rfl rfl rfl ?_ ?_);focus (first |omega|exact le_ rfl|((repeat first |rw [wrap_u8]|rw [IntKind.wrap_i64]|rw [IntKind.wrap_i32]|rw [wrap_u32']|rw [wrap_u64']);(repeat' refine And.intro ?_ ?_)<;>omega)|((repeat' refine And.intro ?_ ?_)<;>first |omega|rfl|exact Nat.le_refl _|exact le_ rfl|exact bytesF_one _)|(simp_all;done)|(simp_all;omega)))|refine e_hit rfl ?_|refine e_miss rfl ?_|with_reducible refine ⟨by kernel_rfl, ?_⟩|refine x_endw rfl ?_|((with_reducible refine c_grd ?_);(fail_if_success (refine c_lit true rfl rfl rfl ?_));(fail_if_success (refine c_lit false rfl rfl rfl ?_));refine c_split rfl rfl (fun _ => ?_) (fun _ => ?_)))
    all_goals exact get_none
  by_cases a2 : ix < l.length
  rotate_left
  · rw [if_neg (fun q => a2 q.2.2)]
    refine r_fun Tryd.func14 rfl Tryd.ntmps14 Tryd.results14 rfl rfl fun X hL hX => ?_
    repeat' (first |refine r_call (f := 32) rfl rfl Tryd.call32 rfl c1 ?_|with_reducible (first |refine t_seq ?_|refine t_region ?_|refine c_nil ?_|refine n_then ?_|refine t_ret ?_|refine t_skip ?_|refine t_exit ?_|refine t_block ?_|refine n_block ?_|refine e_then ?_|refine x_then ?_|refine x_block ?_|refine t_draw ?_)|refine r_val rfl rfl True.intro ?_|refine r_gskip rfl rfl rfl ?_|refine r_gskip2 rfl rfl rfl ?_|refine r_gval rfl rfl rfl rfl True.intro ?_|refine t_true rfl ?_|refine t_false rfl ?_|((first |refine t_cond_d rfl ?_ ?_|refine t_cond_i rfl ?_ ?_|refine t_cond_j rfl ?_ ?_|refine t_cond_s rfl ?_ ?_|refine t_cond_n rfl ?_ ?_|refine t_cond rfl ?_ ?_|refine c_split_d rfl rfl ?_ ?_|refine c_split_i rfl rfl ?_ ?_|refine c_split_j rfl rfl ?_ ?_|refine c_split_s rfl rfl ?_ ?_|refine c_split_n rfl rfl ?_ ?_)<;>intro<;>try (first |(rename_i hz;first |exact tf_ hz|exact ft_ hz)|(exfalso;omega)))|((first |refine r_val rfl rfl ?_ ?_|refine r_gval rfl rfl rfl rfl ?_ ?_|refine r_obj rfl rfl ?_ ?_|refine r_sto rfl ?_ ?_|refine r_gobj rfl rfl rfl rfl ?_ ?_);focus (first |omega|exact le_ rfl|((repeat first |rw [wrap_u8]|rw [IntKind.wrap_i64]|rw [IntKind.wrap_i32]|rw [wrap_u32']|rw [wrap_u64']);(repeat' refine And.intro ?_ ?_)<;>omega)|((repeat' refine And.intro ?_ ?_)<;>first |omega|rfl|exact Nat.le_refl _|exact le_ rfl|exact bytesF_one _)|(simp_all;done)|(simp_all;omega)))|refine e_hit rfl ?_|refine e_miss rfl ?_|with_reducible refine ⟨by kernel_rfl, ?_⟩|refine x_endw rfl ?_|((with_reducible refine c_grd ?_);(fail_if_success (refine c_lit true rfl rfl rfl ?_));(fail_if_success (refine c_lit false rfl rfl rfl ?_));refine c_split rfl rfl (fun _ => ?_) (fun _ => ?_)))
    all_goals exact get_none
  rw [if_pos ⟨a0, a1, a2⟩]
  refine r_fun Tryd.func14 rfl Tryd.ntmps14 Tryd.results14 rfl rfl fun X hL hX => ?_
  repeat' (first |refine r_call (f := 32) rfl rfl Tryd.call32 rfl c1 ?_|with_reducible (first |refine t_seq ?_|refine t_region ?_|refine c_nil ?_|refine n_then ?_|refine t_ret ?_|refine t_skip ?_|refine t_exit ?_|refine t_block ?_|refine n_block ?_|refine e_then ?_|refine x_then ?_|refine x_block ?_|refine t_draw ?_)|refine r_val rfl rfl True.intro ?_|refine r_gskip rfl rfl rfl ?_|refine r_gskip2 rfl rfl rfl ?_|refine r_gval rfl rfl rfl rfl True.intro ?_|refine t_true rfl ?_|refine t_false rfl ?_|((first |refine t_cond_d rfl ?_ ?_|refine t_cond_i rfl ?_ ?_|refine t_cond_j rfl ?_ ?_|refine t_cond_s rfl ?_ ?_|refine t_cond_n rfl ?_ ?_|refine t_cond rfl ?_ ?_|refine c_split_d rfl rfl ?_ ?_|refine c_split_i rfl rfl ?_ ?_|refine c_split_j rfl rfl ?_ ?_|refine c_split_s rfl rfl ?_ ?_|refine c_split_n rfl rfl ?_ ?_)<;>intro<;>try (first |(rename_i hz;first |exact tf_ hz|exact ft_ hz)|(exfalso;omega)))|((first |refine r_val rfl rfl ?_ ?_|refine r_gval rfl rfl rfl rfl ?_ ?_|refine r_obj rfl rfl ?_ ?_|refine r_sto rfl ?_ ?_|refine r_gobj rfl rfl rfl rfl ?_ ?_);focus (first |omega|exact le_ rfl|((repeat first |rw [wrap_u8]|rw [IntKind.wrap_i64]|rw [IntKind.wrap_i32]|rw [wrap_u32']|rw [wrap_u64']);(repeat' refine And.intro ?_ ?_)<;>omega)|((repeat' refine And.intro ?_ ?_)<;>first |omega|rfl|exact Nat.le_refl _|exact le_ rfl|exact bytesF_one _)|(simp_all;done)|(simp_all;omega)))|refine e_hit rfl ?_|refine e_miss rfl ?_|with_reducible refine ⟨by kernel_rfl, ?_⟩|refine x_endw rfl ?_|((with_reducible refine c_grd ?_);(fail_if_success (refine c_lit true rfl rfl rfl ?_));(fail_if_success (refine c_lit false rfl rfl rfl ?_));refine c_split rfl rfl (fun _ => ?_) (fun _ => ?_)))
  all_goals exact .of_eq rfl

theorem unqG_len (s : List UInt8) : ∀ (n : Nat) (i : Int) (o : List UInt8), 0 ≤ i → i ≤ s.length → (unqG s n i o).2.2 = 0 → ((unqG s n i o).1.length : Int) ≤ o.length + 4 * (s.length - i)
  | 0, i, o, _, _, h => by
    unfold unqG at h
    cases h
  | n + 1, i, o, h0, h1, h => by
    by_cases hi : i < s.length
    · by_cases c34 : at' s i = 34
      · cases hv : validL o with
        | true =>
          rw [unqG_quote hi c34 hv]
          dsimp only
          omega
        | false =>
          rw [unqG_bad hi c34 hv] at h
          cases h
      · by_cases c92 : at' s i = 92
        · rw [unqG_esc hi c92] at h ⊢
          have er := escP_range s (i + 1) o (by omega) (by omega)
          by_cases hz : (escP s (i + 1) o).2.2 = 0
          · rw [if_pos hz] at h ⊢
            have := unqG_len s n _ _ (by omega) er.2.1 h
            omega
          · rw [if_neg hz] at h
            exact absurd h hz
        · by_cases c32 : at' s i < 32
          · rw [unqG_low hi c34 c92 c32] at h
            cases h
          · rw [unqG_more hi c34 c92 c32] at h ⊢
            have := unqG_len s n (i + 1) (o ++ [by8 (at' s i)]) (by omega) (by omega) h
            simp only [List.length_append, List.length_cons, List.length_nil] at this
            omega
    · rw [unqG_end hi] at h
      cases h
theorem unqF_len {s : List UInt8} {i : Int} (h : (unqF s i).2.2 = 0) : (unqF s i).1.length ≤ 4 * s.length := by
  unfold unqF at h ⊢
  by_cases hb : i < 0 ∨ s.length < i
  · rw [if_pos hb] at h
    cases h
  · rw [if_neg hb] at h ⊢
    have hm := mustF_range s i 0 34 (by omega) (by omega)
    by_cases hz : (mustF s i 0 34).2 = 0
    · rw [if_pos hz] at h ⊢
      have := unqG_len s _ _ _ (by omega) (by omega) h
      simp only [List.length_nil] at this
      omega
    · rw [if_neg hz] at h
      exact absurd h hz
theorem jtext_len {s t : List UInt8} {i n : Nat} (h : jtext s i = .inl (t, n)) : t.length ≤ 4 * s.length := by
  unfold jtext at h
  split at h
  · rename_i hz
    have := unqF_len hz
    cases h
    exact this
  · cases h

mutual
def okJ (B : Nat) : J → Prop
  | .mk k _ _ _ _ t l ks => (k = 5 → ks.length = l.length) ∧ t.length ≤ B ∧ (∀ q ∈ ks, q.length ≤ B) ∧ okJL B l
def okJL (B : Nat) : List J → Prop
  | [] => True
  | x :: r => okJ B x ∧ okJL B r
end
theorem okJ_mk (B : Nat) (k : Int) (y n : Bool) (d : List UInt8) (e : Int) (t : List UInt8) (l : List J) (ks : List (List UInt8)) : okJ B (.mk k y n d e t l ks) ↔ (k = 5 → ks.length = l.length) ∧ t.length ≤ B ∧ (∀ q ∈ ks, q.length ≤ B) ∧ okJL B l := by rw [okJ]
theorem okJ_parts {B : Nat} {x : J} (h : okJ B x) : (x.kind = 5 → x.keys.length = x.list.length) ∧ x.text.length ≤ B ∧ (∀ q ∈ x.keys, q.length ≤ B) ∧ okJL B x.list := by
  cases x
  exact (okJ_mk ..).1 h
theorem okJL_at {B : Nat} : ∀ {l : List J} {i : Nat}, okJL B l → i < l.length → okJ B (l.getD i j0)
  | [], _, _, h => by simp at h
  | x :: r, 0, h, _ => by
    rw [okJL] at h
    exact h.1
  | x :: r, i + 1, h, hi => by
    rw [okJL] at h
    have := okJL_at (l := r) (i := i) h.2 (by simpa using hi)
    rwa [show (x :: r).getD (i + 1) j0 = r.getD i j0 by simp]
theorem okJL_app {B : Nat} {x : J} : ∀ {l : List J}, okJL B l → okJ B x → okJL B (l ++ [x])
  | [], _, h => by
    rw [List.nil_append, okJL]
    exact ⟨h, by rw [okJL]; trivial⟩
  | y :: r, h, hx => by
    rw [okJL] at h
    rw [List.cons_append, okJL]
    exact ⟨h.1, okJL_app h.2 hx⟩
theorem okJ_lit (B : Nat) (k : Int) (y n : Bool) (d : List UInt8) (e : Int) (t : List UInt8) (ht : t.length ≤ B) : okJ B (.mk k y n d e t [] []) := by
  rw [okJ_mk]
  exact ⟨fun _ => rfl, ht, fun q hq => (by cases hq), by rw [okJL]; trivial⟩
theorem okJ_0 (B : Nat) : okJ B j0 := okJ_lit B _ _ _ _ _ _ (Nat.zero_le _)
theorem okJ_at {B : Nat} {x : J} (h : okJ B x) {i : Nat} (hi : i < x.list.length) : okJ B (x.list.getD i j0) := okJL_at (okJ_parts h).2.2.2 hi
theorem okJ_get {B : Nat} {x : J} (h : okJ B x) (k : List UInt8) : okJ B (getJ x k).1 := by
  unfold getJ
  split
  · rename_i q
    exact okJ_at h (by omega)
  · exact okJ_0 B
theorem okJ_key {B : Nat} {x : J} (h : okJ B x) (i : Nat) : (x.keys.getD i []).length ≤ B := by
  by_cases hi : i < x.keys.length
  · refine (okJ_parts h).2.2.1 _ ?_
    rw [show x.keys.getD i [] = x.keys[i] by simp [List.getD_eq_getElem?_getD, hi]]
    exact List.getElem_mem hi
  · rw [List.getD_eq_getElem?_getD, List.getElem?_eq_none (by omega)]
    exact Nat.zero_le _

def ValK (s : List UInt8) (val : Nat → JR) : Prop := ∀ i x n, i ≤ s.length → val i = .inl (x, n) → okJ (4 * s.length) x
theorem jkey_len {s k : List UInt8} {ks : List (List UInt8)} {i n : Nat} (h : jkey s i ks = .inl (k, n)) : k.length ≤ 4 * s.length := by
  unfold jkey at h
  cases h1 : jpeek s i with
  | inr e => rw [h1] at h; cases h
  | inl j =>
    rw [h1] at h
    dsimp only at h
    split at h
    · cases h
    · cases h2 : jtext s j with
      | inr e => rw [h2] at h; cases h
      | inl r =>
        obtain ⟨k2, n2⟩ := r
        rw [h2] at h
        have q2 := jtext_len h2
        dsimp only at h
        split at h
        · cases h
        · cases h3 : jpeek s n2 with
          | inr e => rw [h3] at h; cases h
          | inl m =>
            rw [h3] at h
            dsimp only at h
            split at h
            · cases h
            · cases h
              exact q2
theorem jkeys_k {s : List UInt8} {mp : Bool} {ks ks' : List (List UInt8)} {i n : Nat} (hk : ∀ q ∈ ks, q.length ≤ 4 * s.length) (h : jkeys s mp i ks = .inl (ks', n)) : (∀ q ∈ ks', q.length ≤ 4 * s.length) ∧ (mp = true → ks'.length = ks.length + 1) := by
  unfold jkeys at h
  cases mp with
  | false =>
    cases h
    exact ⟨hk, fun e => by cases e⟩
  | true =>
    rw [if_pos rfl] at h
    cases h1 : jkey s i ks with
    | inr e => rw [h1] at h; cases h
    | inl r =>
      obtain ⟨k, m⟩ := r
      rw [h1] at h
      have := jkey_len h1
      cases h
      refine ⟨fun q hq => ?_, fun _ => by simp⟩
      rcases List.mem_append.1 hq with hq | hq
      · exact hk q hq
      · rw [List.mem_singleton.1 hq]
        exact this
theorem many_ok {B : Nat} {mp : Bool} {l : List J} {ks : List (List UInt8)} (h1 : mp = true → ks.length = l.length) (h2 : ∀ q ∈ ks, q.length ≤ B) (h3 : okJL B l) : okJ B (manyV mp l ks) := by
  unfold manyV
  rw [okJ_mk]
  refine ⟨fun e => h1 ?_, Nat.zero_le _, h2, h3⟩
  cases mp with
  | true => rfl
  | false => exact absurd e (by decide)
theorem jgo_k {s : List UInt8} {val : Nat → JR} (hv : ValOk s val) (hk : ValK s val) {mp : Bool} : ∀ (m i : Nat) (l : List J) (ks : List (List UInt8)) (x : J) (n : Nat), s.length - i ≤ m → i ≤ s.length → okJL (4 * s.length) l → (∀ q ∈ ks, q.length ≤ 4 * s.length) → (mp = true → ks.length = l.length) →
    jgo s val mp i l ks = .inl (x, n) → okJ (4 * s.length) x := by
  intro m
  induction m with
  | zero =>
    intro i l ks x n hm hi _ _ _ h
    rw [jgo_eq hv hi] at h
    cases h1 : jkeys s mp i ks with
    | inr e => rw [h1] at h; cases h
    | inl r =>
      obtain ⟨ks', i1⟩ := r
      rw [h1] at h
      have q1 := jkeys_ok hi h1
      dsimp only at h
      cases h2 : val i1 with
      | inr e => rw [h2] at h; cases h
      | inl r =>
        obtain ⟨y, i2⟩ := r
        have q2 := hv _ _ _ q1.2 h2
        omega
  | succ m ih =>
    intro i l ks x n hm hi hl hks hkl h
    rw [jgo_eq hv hi] at h
    cases h1 : jkeys s mp i ks with
    | inr e => rw [h1] at h; cases h
    | inl r =>
      obtain ⟨ks', i1⟩ := r
      rw [h1] at h
      have q1 := jkeys_ok hi h1
      have k1 := jkeys_k hks h1
      dsimp only at h
      cases h2 : val i1 with
      | inr e => rw [h2] at h; cases h
      | inl r =>
        obtain ⟨y, i2⟩ := r
        rw [h2] at h
        have q2 := hv _ _ _ q1.2 h2
        have k2 := okJL_app hl (hk _ _ _ q1.2 h2)
        have k3 : mp = true → ks'.length = (l ++ [y]).length := fun e => by
          rw [k1.2 e, hkl e]
          simp
        dsimp only at h
        cases h3 : jpeek s i2 with
        | inr e => rw [h3] at h; cases h
        | inl i3 =>
          rw [h3] at h
          have q3 := jpeek_ok q2.2 h3
          dsimp only at h
          split at h
          · cases h
            exact many_ok k3 k1.1 k2
          · split at h
            · exact ih _ _ _ _ _ (by omega) (by omega) k2 k1.1 k3 h
            · cases h
theorem jmany_k {s : List UInt8} {val : Nat → JR} (hv : ValOk s val) (hk : ValK s val) {mp : Bool} {i n : Nat} {x : J} (hi : i < s.length) (h : jmany s val mp i = .inl (x, n)) : okJ (4 * s.length) x := by
  unfold jmany at h
  cases h1 : jpeek s (i + 1) with
  | inr e => rw [h1] at h; cases h
  | inl j =>
    rw [h1] at h
    have q := jpeek_ok hi h1
    dsimp only at h
    split at h
    · cases h
      exact many_ok (fun _ => rfl) (fun q hq => by cases hq) (by rw [okJL]; trivial)
    · exact jgo_k hv hk _ _ _ _ _ _ (Nat.le_refl _) (by omega) (by rw [okJL]; trivial) (fun q hq => by cases hq) (fun _ => rfl) h
theorem jval_k (s : List UInt8) : ∀ d, ValK s (jval s d) := by
  intro d
  induction d with
  | zero =>
    intro i x n hi h
    unfold jval at h
    split at h <;> cases h
  | succ d ih =>
    intro i x n hi h
    unfold jval at h
    cases h1 : jpeek s i with
    | inr e => rw [h1] at h; cases h
    | inl j =>
      rw [h1] at h
      have q := jpeek_ok hi h1
      dsimp only at h
      unfold jword at h
      split at h
      · split at h <;> cases h
        exact okJ_0 _
      · split at h
        · split at h <;> cases h
          exact okJ_lit _ _ _ _ _ _ _ (Nat.zero_le _)
        · split at h
          · split at h <;> cases h
            exact okJ_lit _ _ _ _ _ _ _ (Nat.zero_le _)
          · split at h
            · cases h2 : jtext s j with
              | inr e => rw [h2] at h; cases h
              | inl r =>
                rw [h2] at h
                have := jtext_len h2
                cases h
                exact okJ_lit _ _ _ _ _ _ _ this
            · split at h
              · exact jmany_k (jval_ok s d) ih q.2.1 h
              · split at h
                · exact jmany_k (jval_ok s d) ih q.2.1 h
                · unfold jnum at h
                  split at h
                  · cases h
                    exact okJ_lit _ _ _ _ _ _ _ (Nat.zero_le _)
                  · cases h
theorem jparse_k (s : List UInt8) : okJ (4 * s.length) (jparse s).1 := by
  have h0 := okJ_0 (4 * s.length)
  unfold jparse
  split
  · exact h0
  · have hk := jval_k s 64
    cases h : jval s 64 0 with
    | inr e => exact h0
    | inl r =>
      obtain ⟨x, n⟩ := r
      dsimp only
      split
      · exact h0
      · exact hk _ _ _ (Nat.zero_le _) h

end Go.Proofs.YtbegohehjkjnmaaDoor.Flow
