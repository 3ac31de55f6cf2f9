/- The texts BU7, BT8, one behind the other. -/
import Derived.Test.YteidmimpkipcfaaDoorKB10
import Derived.Test.YteidmimpkipcfaaDoorKB11
/- UTF: Valid and Hex of the program and of the reference. -/
namespace Go.Proofs.YteidmimpkipcfaaDoor.Flow
open Go

theorem valid_ctr (s : List UInt8) (hs : s.length ≤ 1099511627776) : Ctr Tryd.prog 52 [.s s] (.b (validL s)) := by
  have c := validS_ctr s hs
  refine r_fun Tryd.func52 rfl Tryd.ntmps52 Tryd.results52 rfl rfl fun X hL hX => ?_
  repeat' (first
    | with_reducible refine t_seq ?_ | with_reducible refine t_region ?_ | with_reducible refine c_nil ?_ | with_reducible refine n_then ?_
    | with_reducible refine t_ret ?_ | with_reducible refine t_skip ?_ | with_reducible refine t_exit ?_ | with_reducible refine t_block ?_
    | with_reducible refine n_block ?_ | with_reducible refine e_then ?_ | with_reducible refine x_then ?_ | with_reducible refine x_block ?_ | with_reducible refine t_draw ?_
    | refine r_val rfl rfl True.intro ?_ | refine r_gskip rfl rfl rfl ?_ | refine r_gskip2 rfl rfl rfl ?_ | refine r_gval rfl rfl rfl rfl True.intro ?_
    | refine t_true rfl ?_ | refine t_false rfl ?_
    | ((first | refine t_cond_d rfl (fun _ => ?_) (fun _ => ?_) | refine t_cond_i rfl (fun _ => ?_) (fun _ => ?_) | refine t_cond_j rfl (fun _ => ?_) (fun _ => ?_) | refine t_cond_s rfl (fun _ => ?_) (fun _ => ?_) | refine t_cond_n rfl (fun _ => ?_) (fun _ => ?_) | refine t_cond rfl (fun _ => ?_) (fun _ => ?_) | refine c_split_d rfl rfl (fun _ => ?_) (fun _ => ?_) | refine c_split_i rfl rfl (fun _ => ?_) (fun _ => ?_) | refine c_split_j rfl rfl (fun _ => ?_) (fun _ => ?_) | refine c_split_s rfl rfl (fun _ => ?_) (fun _ => ?_) | refine c_split_n rfl rfl (fun _ => ?_) (fun _ => ?_)) <;> try (first | (rename_i hz; exact Bool.noConfusion (show true = false from hz)) | (rename_i hz; exact Bool.noConfusion (show false = true from hz)) | (exfalso; omega)))
    | refine r_val rfl rfl (by (first | omega | exact Nat.le_of_ble_eq_true rfl | (simp only [wrap_u8, IntKind.wrap_i64, IntKind.wrap_i32, wrap_u32', wrap_u64', InI]; (repeat' refine And.intro ?_ ?_) <;> omega) | ((repeat' refine And.intro ?_ ?_) <;> first | omega | rfl | exact Nat.le_refl _ | exact Nat.le_of_ble_eq_true rfl | exact bytesF_one _) | (simp_all; done) | (simp_all; omega))) ?_ | refine r_gval rfl rfl rfl rfl (by (first | omega | exact Nat.le_of_ble_eq_true rfl | (simp only [wrap_u8, IntKind.wrap_i64, IntKind.wrap_i32, wrap_u32', wrap_u64', InI]; (repeat' refine And.intro ?_ ?_) <;> omega) | ((repeat' refine And.intro ?_ ?_) <;> first | omega | rfl | exact Nat.le_refl _ | exact Nat.le_of_ble_eq_true rfl | exact bytesF_one _) | (simp_all; done) | (simp_all; omega))) ?_
    | refine r_obj rfl rfl (by (first | omega | exact Nat.le_of_ble_eq_true rfl | (simp only [wrap_u8, IntKind.wrap_i64, IntKind.wrap_i32, wrap_u32', wrap_u64', InI]; (repeat' refine And.intro ?_ ?_) <;> omega) | ((repeat' refine And.intro ?_ ?_) <;> first | omega | rfl | exact Nat.le_refl _ | exact Nat.le_of_ble_eq_true rfl | exact bytesF_one _) | (simp_all; done) | (simp_all; omega))) ?_ | refine r_sto rfl (by (first | omega | exact Nat.le_of_ble_eq_true rfl | (simp only [wrap_u8, IntKind.wrap_i64, IntKind.wrap_i32, wrap_u32', wrap_u64', InI]; (repeat' refine And.intro ?_ ?_) <;> omega) | ((repeat' refine And.intro ?_ ?_) <;> first | omega | rfl | exact Nat.le_refl _ | exact Nat.le_of_ble_eq_true rfl | exact bytesF_one _) | (simp_all; done) | (simp_all; omega))) ?_ | refine r_gobj rfl rfl rfl rfl (by (first | omega | exact Nat.le_of_ble_eq_true rfl | (simp only [wrap_u8, IntKind.wrap_i64, IntKind.wrap_i32, wrap_u32', wrap_u64', InI]; (repeat' refine And.intro ?_ ?_) <;> omega) | ((repeat' refine And.intro ?_ ?_) <;> first | omega | rfl | exact Nat.le_refl _ | exact Nat.le_of_ble_eq_true rfl | exact bytesF_one _) | (simp_all; done) | (simp_all; omega))) ?_
    | refine e_hit rfl ?_ | refine e_miss rfl ?_
    | refine ⟨by kernel_rfl, ?_⟩ | refine x_end rfl ?_ | refine r_call (f := 92) rfl rfl Tryd.call92 rfl c ?_ | ((with_reducible refine c_grd ?_); (fail_if_success (refine c_lit true rfl rfl rfl ?_)); (fail_if_success (refine c_lit false rfl rfl rfl ?_)); refine c_split rfl rfl (fun _ => ?_) (fun _ => ?_)))
  rfl

theorem tail_ctr (s : List UInt8) (i lo hi : Int) (h0 : 0 ≤ i) : Ctr Tryd.prog 132 [.s s, .i .i64 i, .i .i64 lo, .i .i64 hi] (.b (tlB s i lo hi)) := by
  have hr := at_range s i
  have e : IntKind.i64.wrap (at' s i) = at' s i := by rw [IntKind.wrap_i64]; omega
  have ht : tlB s i lo hi = true ↔ i < s.length ∧ lo ≤ at' s i ∧ at' s i ≤ hi := by
    unfold tlB
    simp [and_assoc]
  generalize tlB s i lo hi = b at ht
  refine r_fun Tryd.func132 rfl Tryd.ntmps132 Tryd.results132 rfl rfl fun X hL hX => ?_
  repeat' (first
    | with_reducible refine t_seq ?_ | with_reducible refine t_region ?_ | with_reducible refine c_nil ?_ | with_reducible refine n_then ?_
    | with_reducible refine t_ret ?_ | with_reducible refine t_skip ?_ | with_reducible refine t_exit ?_ | with_reducible refine t_block ?_
    | with_reducible refine n_block ?_ | with_reducible refine e_then ?_ | with_reducible refine x_then ?_ | with_reducible refine x_block ?_ | with_reducible refine t_draw ?_
    | refine r_val rfl rfl True.intro ?_ | refine r_gskip rfl rfl rfl ?_ | refine r_gskip2 rfl rfl rfl ?_ | refine r_gval rfl rfl rfl rfl True.intro ?_
    | refine t_true rfl ?_ | refine t_false rfl ?_
    | ((first | refine t_cond_d rfl (fun _ => ?_) (fun _ => ?_) | refine t_cond_i rfl (fun _ => ?_) (fun _ => ?_) | refine t_cond_j rfl (fun _ => ?_) (fun _ => ?_) | refine t_cond_s rfl (fun _ => ?_) (fun _ => ?_) | refine t_cond_n rfl (fun _ => ?_) (fun _ => ?_) | refine t_cond rfl (fun _ => ?_) (fun _ => ?_) | refine c_split_d rfl rfl (fun _ => ?_) (fun _ => ?_) | refine c_split_i rfl rfl (fun _ => ?_) (fun _ => ?_) | refine c_split_j rfl rfl (fun _ => ?_) (fun _ => ?_) | refine c_split_s rfl rfl (fun _ => ?_) (fun _ => ?_) | refine c_split_n rfl rfl (fun _ => ?_) (fun _ => ?_)) <;> try (first | (rename_i hz; exact Bool.noConfusion (show true = false from hz)) | (rename_i hz; exact Bool.noConfusion (show false = true from hz)) | (exfalso; omega)))
    | refine r_val rfl rfl (by (first | omega | exact Nat.le_of_ble_eq_true rfl | (simp only [wrap_u8, IntKind.wrap_i64, IntKind.wrap_i32, wrap_u32', wrap_u64', InI]; (repeat' refine And.intro ?_ ?_) <;> omega) | ((repeat' refine And.intro ?_ ?_) <;> first | omega | rfl | exact Nat.le_refl _ | exact Nat.le_of_ble_eq_true rfl | exact bytesF_one _) | (simp_all; done) | (simp_all; omega))) ?_ | refine r_gval rfl rfl rfl rfl (by (first | omega | exact Nat.le_of_ble_eq_true rfl | (simp only [wrap_u8, IntKind.wrap_i64, IntKind.wrap_i32, wrap_u32', wrap_u64', InI]; (repeat' refine And.intro ?_ ?_) <;> omega) | ((repeat' refine And.intro ?_ ?_) <;> first | omega | rfl | exact Nat.le_refl _ | exact Nat.le_of_ble_eq_true rfl | exact bytesF_one _) | (simp_all; done) | (simp_all; omega))) ?_
    | refine r_obj rfl rfl (by (first | omega | exact Nat.le_of_ble_eq_true rfl | (simp only [wrap_u8, IntKind.wrap_i64, IntKind.wrap_i32, wrap_u32', wrap_u64', InI]; (repeat' refine And.intro ?_ ?_) <;> omega) | ((repeat' refine And.intro ?_ ?_) <;> first | omega | rfl | exact Nat.le_refl _ | exact Nat.le_of_ble_eq_true rfl | exact bytesF_one _) | (simp_all; done) | (simp_all; omega))) ?_ | refine r_sto rfl (by (first | omega | exact Nat.le_of_ble_eq_true rfl | (simp only [wrap_u8, IntKind.wrap_i64, IntKind.wrap_i32, wrap_u32', wrap_u64', InI]; (repeat' refine And.intro ?_ ?_) <;> omega) | ((repeat' refine And.intro ?_ ?_) <;> first | omega | rfl | exact Nat.le_refl _ | exact Nat.le_of_ble_eq_true rfl | exact bytesF_one _) | (simp_all; done) | (simp_all; omega))) ?_ | refine r_gobj rfl rfl rfl rfl (by (first | omega | exact Nat.le_of_ble_eq_true rfl | (simp only [wrap_u8, IntKind.wrap_i64, IntKind.wrap_i32, wrap_u32', wrap_u64', InI]; (repeat' refine And.intro ?_ ?_) <;> omega) | ((repeat' refine And.intro ?_ ?_) <;> first | omega | rfl | exact Nat.le_refl _ | exact Nat.le_of_ble_eq_true rfl | exact bytesF_one _) | (simp_all; done) | (simp_all; omega))) ?_
    | refine e_hit rfl ?_ | refine e_miss rfl ?_
    | refine ⟨by kernel_rfl, ?_⟩ | refine x_end rfl ?_ | ((with_reducible refine c_grd ?_); (fail_if_success (refine c_lit true rfl rfl rfl ?_)); (fail_if_success (refine c_lit false rfl rfl rfl ?_)); refine c_split rfl rfl (fun _ => ?_) (fun _ => ?_)))
  all_goals
    rw [e] at *
    congr 1
    rw [Bool.eq_iff_iff, ht]
    simp
    omega

theorem tlB_drop (s : List UInt8) (i : Nat) (k lo hi : Int) (hk : 0 ≤ k) (hi' : i ≤ s.length) : tlB s (i + k) lo hi = tlB (s.drop i) k lo hi := by
  obtain ⟨n, rfl⟩ := Int.eq_ofNat_of_zero_le hk
  unfold tlB
  rw [at_drop, List.length_drop, show ((i : Int) + (n : Nat)) = ((i + n : Nat) : Int) by omega]
  congr 2
  rw [Bool.eq_iff_iff]
  simp
  omega

set_option maxHeartbeats 1000000 in
theorem one_ctr (s : List UInt8) (i : Nat) (h : i < s.length) (hs : s.length ≤ 1099511627776) : Ctr Tryd.prog 98 [.s s, .i .i64 i] (.i .i64 (oneL (s.drop i))) := by
  have hr := at_range s i
  have e0 := at_drop s i 0
  rw [Nat.add_zero, show ((0 : Nat) : Int) = 0 from rfl] at e0
  have e : IntKind.i64.wrap (at' s i) = at' (s.drop i) 0 := by rw [IntKind.wrap_i64, e0]; omega
  have t1 := tlB_drop s i 1 (loF (at' (s.drop i) 0)) (hiF (at' (s.drop i) 0)) (by omega) (by omega)
  have t2 := tlB_drop s i 2 128 191 (by omega) (by omega)
  have t3 := tlB_drop s i 3 128 191 (by omega) (by omega)
  have d1 := tail_ctr s (i + 1) (loF (at' (s.drop i) 0)) (hiF (at' (s.drop i) 0)) (by omega)
  have d2 := tail_ctr s (i + 2) 128 191 (by omega)
  have d3 := tail_ctr s (i + 3) 128 191 (by omega)
  rw [t1] at d1
  rw [t2] at d2
  rw [t3] at d3
  rw [← e0] at hr
  unfold oneL
  unfold loF hiF at *
  generalize at' (s.drop i) 0 = c at *
  clear t1 t2 t3 e0
  generalize tlB (s.drop i) 2 128 191 = b2 at *
  generalize tlB (s.drop i) 3 128 191 = b3 at *
  generalize hb1 : tlB (s.drop i) 1 (if c = 224 then 160 else if c = 240 then 144 else 128) (if c = 237 then 159 else if c = 244 then 143 else 191) = b1 at *
  clear hb1
  refine r_fun Tryd.func98 rfl Tryd.ntmps98 Tryd.results98 rfl rfl fun X hL hX => ?_
  repeat' (first
    | with_reducible refine t_seq ?_ | with_reducible refine t_region ?_ | with_reducible refine c_nil ?_ | with_reducible refine n_then ?_
    | with_reducible refine t_ret ?_ | with_reducible refine t_skip ?_ | with_reducible refine t_exit ?_ | with_reducible refine t_block ?_
    | with_reducible refine n_block ?_ | with_reducible refine e_then ?_ | with_reducible refine x_then ?_ | with_reducible refine x_block ?_ | with_reducible refine t_draw ?_
    | refine r_val rfl rfl True.intro ?_ | refine r_gskip rfl rfl rfl ?_ | refine r_gskip2 rfl rfl rfl ?_ | refine r_gval rfl rfl rfl rfl True.intro ?_
    | refine t_true rfl ?_ | refine t_false rfl ?_
    | ((first | refine t_cond_d rfl (fun _ => ?_) (fun _ => ?_) | refine t_cond_i rfl (fun _ => ?_) (fun _ => ?_) | refine t_cond_j rfl (fun _ => ?_) (fun _ => ?_) | refine t_cond_s rfl (fun _ => ?_) (fun _ => ?_) | refine t_cond_n rfl (fun _ => ?_) (fun _ => ?_) | refine t_cond rfl (fun _ => ?_) (fun _ => ?_) | refine c_split_d rfl rfl (fun _ => ?_) (fun _ => ?_) | refine c_split_i rfl rfl (fun _ => ?_) (fun _ => ?_) | refine c_split_j rfl rfl (fun _ => ?_) (fun _ => ?_) | refine c_split_s rfl rfl (fun _ => ?_) (fun _ => ?_) | refine c_split_n rfl rfl (fun _ => ?_) (fun _ => ?_)) <;> try (first | (rename_i hz; exact Bool.noConfusion (show true = false from hz)) | (rename_i hz; exact Bool.noConfusion (show false = true from hz)) | (exfalso; omega)))
    | refine r_val rfl rfl (by (first | omega | exact Nat.le_of_ble_eq_true rfl | (simp only [wrap_u8, IntKind.wrap_i64, IntKind.wrap_i32, wrap_u32', wrap_u64', InI]; (repeat' refine And.intro ?_ ?_) <;> omega) | ((repeat' refine And.intro ?_ ?_) <;> first | omega | rfl | exact Nat.le_refl _ | exact Nat.le_of_ble_eq_true rfl | exact bytesF_one _) | (simp_all; done) | (simp_all; omega))) ?_ | refine r_gval rfl rfl rfl rfl (by (first | omega | exact Nat.le_of_ble_eq_true rfl | (simp only [wrap_u8, IntKind.wrap_i64, IntKind.wrap_i32, wrap_u32', wrap_u64', InI]; (repeat' refine And.intro ?_ ?_) <;> omega) | ((repeat' refine And.intro ?_ ?_) <;> first | omega | rfl | exact Nat.le_refl _ | exact Nat.le_of_ble_eq_true rfl | exact bytesF_one _) | (simp_all; done) | (simp_all; omega))) ?_
    | refine r_obj rfl rfl (by (first | omega | exact Nat.le_of_ble_eq_true rfl | (simp only [wrap_u8, IntKind.wrap_i64, IntKind.wrap_i32, wrap_u32', wrap_u64', InI]; (repeat' refine And.intro ?_ ?_) <;> omega) | ((repeat' refine And.intro ?_ ?_) <;> first | omega | rfl | exact Nat.le_refl _ | exact Nat.le_of_ble_eq_true rfl | exact bytesF_one _) | (simp_all; done) | (simp_all; omega))) ?_ | refine r_sto rfl (by (first | omega | exact Nat.le_of_ble_eq_true rfl | (simp only [wrap_u8, IntKind.wrap_i64, IntKind.wrap_i32, wrap_u32', wrap_u64', InI]; (repeat' refine And.intro ?_ ?_) <;> omega) | ((repeat' refine And.intro ?_ ?_) <;> first | omega | rfl | exact Nat.le_refl _ | exact Nat.le_of_ble_eq_true rfl | exact bytesF_one _) | (simp_all; done) | (simp_all; omega))) ?_ | refine r_gobj rfl rfl rfl rfl (by (first | omega | exact Nat.le_of_ble_eq_true rfl | (simp only [wrap_u8, IntKind.wrap_i64, IntKind.wrap_i32, wrap_u32', wrap_u64', InI]; (repeat' refine And.intro ?_ ?_) <;> omega) | ((repeat' refine And.intro ?_ ?_) <;> first | omega | rfl | exact Nat.le_refl _ | exact Nat.le_of_ble_eq_true rfl | exact bytesF_one _) | (simp_all; done) | (simp_all; omega))) ?_
    | refine e_hit rfl ?_ | refine e_miss rfl ?_
    | refine ⟨by kernel_rfl, ?_⟩ | refine x_end rfl ?_ | refine r_call (f := 132) rfl rfl Tryd.call132 rfl (by first | (repeat (first | rw [if_pos (by omega)] at d1 | rw [if_neg (by omega)] at d1)); exact d1) ?_ | refine r_gcall (f := 132) rfl rfl rfl rfl Tryd.call132 rfl d2 ?_ | refine r_gcall (f := 132) rfl rfl rfl rfl Tryd.call132 rfl d3 ?_ | ((with_reducible refine c_grd ?_); (fail_if_success (refine c_lit true rfl rfl rfl ?_)); (fail_if_success (refine c_lit false rfl rfl rfl ?_)); refine c_split rfl rfl (fun _ => ?_) (fun _ => ?_)))
  all_goals
    clear d1 d2 d3
    generalize IntKind.i64.wrap (at' s i) = w at *
    subst e
    refine congrArg (D.i .i64) ?_
    (repeat' split) <;> first | rfl | (exfalso; omega) | (exfalso; simp_all; done) | (exfalso; simp_all; omega)

theorem rvalid_ctr (s : List UInt8) (hs : s.length ≤ 1099511627776) : Ctr Tryd.prog 56 [.s s] (.b (validL s)) := by
  refine r_fun Tryd.func56 rfl Tryd.ntmps56 Tryd.results56 rfl rfl fun X hL hX => ?_
  repeat' (first
    | with_reducible refine t_seq ?_ | with_reducible refine t_region ?_ | with_reducible refine c_nil ?_ | with_reducible refine n_then ?_
    | with_reducible refine t_ret ?_ | with_reducible refine t_skip ?_ | with_reducible refine t_exit ?_ | with_reducible refine t_block ?_
    | with_reducible refine n_block ?_ | with_reducible refine e_then ?_ | with_reducible refine x_then ?_ | with_reducible refine x_block ?_ | with_reducible refine t_draw ?_
    | refine r_val rfl rfl True.intro ?_ | refine r_gskip rfl rfl rfl ?_ | refine r_gskip2 rfl rfl rfl ?_ | refine r_gval rfl rfl rfl rfl True.intro ?_
    | refine t_true rfl ?_ | refine t_false rfl ?_
    | ((first | refine t_cond_d rfl (fun _ => ?_) (fun _ => ?_) | refine t_cond_i rfl (fun _ => ?_) (fun _ => ?_) | refine t_cond_j rfl (fun _ => ?_) (fun _ => ?_) | refine t_cond_s rfl (fun _ => ?_) (fun _ => ?_) | refine t_cond_n rfl (fun _ => ?_) (fun _ => ?_) | refine t_cond rfl (fun _ => ?_) (fun _ => ?_) | refine c_split_d rfl rfl (fun _ => ?_) (fun _ => ?_) | refine c_split_i rfl rfl (fun _ => ?_) (fun _ => ?_) | refine c_split_j rfl rfl (fun _ => ?_) (fun _ => ?_) | refine c_split_s rfl rfl (fun _ => ?_) (fun _ => ?_) | refine c_split_n rfl rfl (fun _ => ?_) (fun _ => ?_)) <;> try (first | (rename_i hz; exact Bool.noConfusion (show true = false from hz)) | (rename_i hz; exact Bool.noConfusion (show false = true from hz)) | (exfalso; omega)))
    | refine r_val rfl rfl (by (first | omega | exact Nat.le_of_ble_eq_true rfl | (simp only [wrap_u8, IntKind.wrap_i64, IntKind.wrap_i32, wrap_u32', wrap_u64', InI]; (repeat' refine And.intro ?_ ?_) <;> omega) | ((repeat' refine And.intro ?_ ?_) <;> first | omega | rfl | exact Nat.le_refl _ | exact Nat.le_of_ble_eq_true rfl | exact bytesF_one _) | (simp_all; done) | (simp_all; omega))) ?_ | refine r_gval rfl rfl rfl rfl (by (first | omega | exact Nat.le_of_ble_eq_true rfl | (simp only [wrap_u8, IntKind.wrap_i64, IntKind.wrap_i32, wrap_u32', wrap_u64', InI]; (repeat' refine And.intro ?_ ?_) <;> omega) | ((repeat' refine And.intro ?_ ?_) <;> first | omega | rfl | exact Nat.le_refl _ | exact Nat.le_of_ble_eq_true rfl | exact bytesF_one _) | (simp_all; done) | (simp_all; omega))) ?_
    | refine r_obj rfl rfl (by (first | omega | exact Nat.le_of_ble_eq_true rfl | (simp only [wrap_u8, IntKind.wrap_i64, IntKind.wrap_i32, wrap_u32', wrap_u64', InI]; (repeat' refine And.intro ?_ ?_) <;> omega) | ((repeat' refine And.intro ?_ ?_) <;> first | omega | rfl | exact Nat.le_refl _ | exact Nat.le_of_ble_eq_true rfl | exact bytesF_one _) | (simp_all; done) | (simp_all; omega))) ?_ | refine r_sto rfl (by (first | omega | exact Nat.le_of_ble_eq_true rfl | (simp only [wrap_u8, IntKind.wrap_i64, IntKind.wrap_i32, wrap_u32', wrap_u64', InI]; (repeat' refine And.intro ?_ ?_) <;> omega) | ((repeat' refine And.intro ?_ ?_) <;> first | omega | rfl | exact Nat.le_refl _ | exact Nat.le_of_ble_eq_true rfl | exact bytesF_one _) | (simp_all; done) | (simp_all; omega))) ?_ | refine r_gobj rfl rfl rfl rfl (by (first | omega | exact Nat.le_of_ble_eq_true rfl | (simp only [wrap_u8, IntKind.wrap_i64, IntKind.wrap_i32, wrap_u32', wrap_u64', InI]; (repeat' refine And.intro ?_ ?_) <;> omega) | ((repeat' refine And.intro ?_ ?_) <;> first | omega | rfl | exact Nat.le_refl _ | exact Nat.le_of_ble_eq_true rfl | exact bytesF_one _) | (simp_all; done) | (simp_all; omega))) ?_
    | refine e_hit rfl ?_ | refine e_miss rfl ?_
    | refine ⟨by kernel_rfl, ?_⟩ | refine x_end rfl ?_ | ((with_reducible refine c_grd ?_); (fail_if_success (refine c_lit true rfl rfl rfl ?_)); (fail_if_success (refine c_lit false rfl rfl rfl ?_)); refine c_split rfl rfl (fun _ => ?_) (fun _ => ?_)))
  refine T.loop hL (fun i : Nat => [(0, .s s), (3, .i .i64 i)]) (fun _ => []) (fun i => i ≤ s.length ∧ validL (s.drop i) = validL s) (fun i => s.length - i) 0
    ⟨Nat.zero_le _, rfl⟩ ⟨⟨rfl, rfl, trivial⟩, trivial, rfl, by rw [hX]; intro k hk; cases hk⟩ ?_
  rintro i ⟨g1, g2⟩
  replace g2 := fun _ : Unit => g2
  have hd : (s.drop i).length = s.length - i := List.length_drop
  by_cases hi : i < s.length
  · have c := one_ctr s i hi hs
    have hle : oneL (s.drop i) ≤ (s.drop i).length := by
      by_cases hasc : at' (s.drop i) 0 < 128
      · unfold oneL
        rw [if_pos hasc]
        omega
      · rw [oneL_eq hasc]
        (repeat' split) <;> omega
    by_cases ho : oneL (s.drop i) = 0
    · have hv := fun _ : Unit => validL_bad (l := s.drop i) (by omega) ho
      rw [ho] at c
      repeat' (first
        | with_reducible refine t_seq ?_ | with_reducible refine t_region ?_ | with_reducible refine c_nil ?_ | with_reducible refine n_then ?_
        | with_reducible refine t_ret ?_ | with_reducible refine t_skip ?_ | with_reducible refine t_exit ?_ | with_reducible refine t_block ?_
        | with_reducible refine n_block ?_ | with_reducible refine e_then ?_ | with_reducible refine x_then ?_ | with_reducible refine x_block ?_ | with_reducible refine t_draw ?_
        | refine r_val rfl rfl True.intro ?_ | refine r_gskip rfl rfl rfl ?_ | refine r_gskip2 rfl rfl rfl ?_ | refine r_gval rfl rfl rfl rfl True.intro ?_
        | refine t_true rfl ?_ | refine t_false rfl ?_
        | ((first | refine t_cond_d rfl (fun _ => ?_) (fun _ => ?_) | refine t_cond_i rfl (fun _ => ?_) (fun _ => ?_) | refine t_cond_j rfl (fun _ => ?_) (fun _ => ?_) | refine t_cond_s rfl (fun _ => ?_) (fun _ => ?_) | refine t_cond_n rfl (fun _ => ?_) (fun _ => ?_) | refine t_cond rfl (fun _ => ?_) (fun _ => ?_) | refine c_split_d rfl rfl (fun _ => ?_) (fun _ => ?_) | refine c_split_i rfl rfl (fun _ => ?_) (fun _ => ?_) | refine c_split_j rfl rfl (fun _ => ?_) (fun _ => ?_) | refine c_split_s rfl rfl (fun _ => ?_) (fun _ => ?_) | refine c_split_n rfl rfl (fun _ => ?_) (fun _ => ?_)) <;> try (first | (rename_i hz; exact Bool.noConfusion (show true = false from hz)) | (rename_i hz; exact Bool.noConfusion (show false = true from hz)) | (exfalso; omega)))
        | refine r_val rfl rfl (by (first | omega | exact Nat.le_of_ble_eq_true rfl | (simp only [wrap_u8, IntKind.wrap_i64, IntKind.wrap_i32, wrap_u32', wrap_u64', InI]; (repeat' refine And.intro ?_ ?_) <;> omega) | ((repeat' refine And.intro ?_ ?_) <;> first | omega | rfl | exact Nat.le_refl _ | exact Nat.le_of_ble_eq_true rfl | exact bytesF_one _) | (simp_all; done) | (simp_all; omega))) ?_ | refine r_gval rfl rfl rfl rfl (by (first | omega | exact Nat.le_of_ble_eq_true rfl | (simp only [wrap_u8, IntKind.wrap_i64, IntKind.wrap_i32, wrap_u32', wrap_u64', InI]; (repeat' refine And.intro ?_ ?_) <;> omega) | ((repeat' refine And.intro ?_ ?_) <;> first | omega | rfl | exact Nat.le_refl _ | exact Nat.le_of_ble_eq_true rfl | exact bytesF_one _) | (simp_all; done) | (simp_all; omega))) ?_
        | refine r_obj rfl rfl (by (first | omega | exact Nat.le_of_ble_eq_true rfl | (simp only [wrap_u8, IntKind.wrap_i64, IntKind.wrap_i32, wrap_u32', wrap_u64', InI]; (repeat' refine And.intro ?_ ?_) <;> omega) | ((repeat' refine And.intro ?_ ?_) <;> first | omega | rfl | exact Nat.le_refl _ | exact Nat.le_of_ble_eq_true rfl | exact bytesF_one _) | (simp_all; done) | (simp_all; omega))) ?_ | refine r_sto rfl (by (first | omega | exact Nat.le_of_ble_eq_true rfl | (simp only [wrap_u8, IntKind.wrap_i64, IntKind.wrap_i32, wrap_u32', wrap_u64', InI]; (repeat' refine And.intro ?_ ?_) <;> omega) | ((repeat' refine And.intro ?_ ?_) <;> first | omega | rfl | exact Nat.le_refl _ | exact Nat.le_of_ble_eq_true rfl | exact bytesF_one _) | (simp_all; done) | (simp_all; omega))) ?_ | refine r_gobj rfl rfl rfl rfl (by (first | omega | exact Nat.le_of_ble_eq_true rfl | (simp only [wrap_u8, IntKind.wrap_i64, IntKind.wrap_i32, wrap_u32', wrap_u64', InI]; (repeat' refine And.intro ?_ ?_) <;> omega) | ((repeat' refine And.intro ?_ ?_) <;> first | omega | rfl | exact Nat.le_refl _ | exact Nat.le_of_ble_eq_true rfl | exact bytesF_one _) | (simp_all; done) | (simp_all; omega))) ?_
        | refine e_hit rfl ?_ | refine e_miss rfl ?_
        | refine ⟨by kernel_rfl, ?_⟩ | refine x_end rfl ?_ | refine r_call (f := 98) rfl rfl Tryd.call98 rfl c ?_ | ((with_reducible refine c_grd ?_); (fail_if_success (refine c_lit true rfl rfl rfl ?_)); (fail_if_success (refine c_lit false rfl rfl rfl ?_)); refine c_split rfl rfl (fun _ => ?_) (fun _ => ?_)))
      rw [← g2 (), hv ()]
    · have hv := fun _ : Unit => validL_step (l := s.drop i) (by omega) ho
      simp only [List.drop_drop] at hv
      generalize oneL (s.drop i) = k at *
      repeat' (first
        | with_reducible refine t_seq ?_ | with_reducible refine t_region ?_ | with_reducible refine c_nil ?_ | with_reducible refine n_then ?_
        | with_reducible refine t_ret ?_ | with_reducible refine t_skip ?_ | with_reducible refine t_exit ?_ | with_reducible refine t_block ?_
        | with_reducible refine n_block ?_ | with_reducible refine e_then ?_ | with_reducible refine x_then ?_ | with_reducible refine x_block ?_ | with_reducible refine t_draw ?_
        | refine r_val rfl rfl True.intro ?_ | refine r_gskip rfl rfl rfl ?_ | refine r_gskip2 rfl rfl rfl ?_ | refine r_gval rfl rfl rfl rfl True.intro ?_
        | refine t_true rfl ?_ | refine t_false rfl ?_
        | ((first | refine t_cond_d rfl (fun _ => ?_) (fun _ => ?_) | refine t_cond_i rfl (fun _ => ?_) (fun _ => ?_) | refine t_cond_j rfl (fun _ => ?_) (fun _ => ?_) | refine t_cond_s rfl (fun _ => ?_) (fun _ => ?_) | refine t_cond_n rfl (fun _ => ?_) (fun _ => ?_) | refine t_cond rfl (fun _ => ?_) (fun _ => ?_) | refine c_split_d rfl rfl (fun _ => ?_) (fun _ => ?_) | refine c_split_i rfl rfl (fun _ => ?_) (fun _ => ?_) | refine c_split_j rfl rfl (fun _ => ?_) (fun _ => ?_) | refine c_split_s rfl rfl (fun _ => ?_) (fun _ => ?_) | refine c_split_n rfl rfl (fun _ => ?_) (fun _ => ?_)) <;> try (first | (rename_i hz; exact Bool.noConfusion (show true = false from hz)) | (rename_i hz; exact Bool.noConfusion (show false = true from hz)) | (exfalso; omega)))
        | refine r_val rfl rfl (by (first | omega | exact Nat.le_of_ble_eq_true rfl | (simp only [wrap_u8, IntKind.wrap_i64, IntKind.wrap_i32, wrap_u32', wrap_u64', InI]; (repeat' refine And.intro ?_ ?_) <;> omega) | ((repeat' refine And.intro ?_ ?_) <;> first | omega | rfl | exact Nat.le_refl _ | exact Nat.le_of_ble_eq_true rfl | exact bytesF_one _) | (simp_all; done) | (simp_all; omega))) ?_ | refine r_gval rfl rfl rfl rfl (by (first | omega | exact Nat.le_of_ble_eq_true rfl | (simp only [wrap_u8, IntKind.wrap_i64, IntKind.wrap_i32, wrap_u32', wrap_u64', InI]; (repeat' refine And.intro ?_ ?_) <;> omega) | ((repeat' refine And.intro ?_ ?_) <;> first | omega | rfl | exact Nat.le_refl _ | exact Nat.le_of_ble_eq_true rfl | exact bytesF_one _) | (simp_all; done) | (simp_all; omega))) ?_
        | refine r_obj rfl rfl (by (first | omega | exact Nat.le_of_ble_eq_true rfl | (simp only [wrap_u8, IntKind.wrap_i64, IntKind.wrap_i32, wrap_u32', wrap_u64', InI]; (repeat' refine And.intro ?_ ?_) <;> omega) | ((repeat' refine And.intro ?_ ?_) <;> first | omega | rfl | exact Nat.le_refl _ | exact Nat.le_of_ble_eq_true rfl | exact bytesF_one _) | (simp_all; done) | (simp_all; omega))) ?_ | refine r_sto rfl (by (first | omega | exact Nat.le_of_ble_eq_true rfl | (simp only [wrap_u8, IntKind.wrap_i64, IntKind.wrap_i32, wrap_u32', wrap_u64', InI]; (repeat' refine And.intro ?_ ?_) <;> omega) | ((repeat' refine And.intro ?_ ?_) <;> first | omega | rfl | exact Nat.le_refl _ | exact Nat.le_of_ble_eq_true rfl | exact bytesF_one _) | (simp_all; done) | (simp_all; omega))) ?_ | refine r_gobj rfl rfl rfl rfl (by (first | omega | exact Nat.le_of_ble_eq_true rfl | (simp only [wrap_u8, IntKind.wrap_i64, IntKind.wrap_i32, wrap_u32', wrap_u64', InI]; (repeat' refine And.intro ?_ ?_) <;> omega) | ((repeat' refine And.intro ?_ ?_) <;> first | omega | rfl | exact Nat.le_refl _ | exact Nat.le_of_ble_eq_true rfl | exact bytesF_one _) | (simp_all; done) | (simp_all; omega))) ?_
        | refine e_hit rfl ?_ | refine e_miss rfl ?_
        | refine ⟨by kernel_rfl, ?_⟩ | refine x_end rfl ?_ | refine r_call (f := 98) rfl rfl Tryd.call98 rfl c ?_ | ((with_reducible refine c_grd ?_); (fail_if_success (refine c_lit true rfl rfl rfl ?_)); (fail_if_success (refine c_lit false rfl rfl rfl ?_)); refine c_split rfl rfl (fun _ => ?_) (fun _ => ?_)))
      exact ⟨i + k, ⟨by omega, by rw [← g2 (), hv ()]⟩, by omega, ⟨rfl, rfl, trivial⟩, trivial, rfl, by rw [hX]; intro k hk; cases hk⟩
  · have hv := fun _ : Unit => validL_nil (l := s.drop i) (by omega)
    repeat' (first
      | with_reducible refine t_seq ?_ | with_reducible refine t_region ?_ | with_reducible refine c_nil ?_ | with_reducible refine n_then ?_
      | with_reducible refine t_ret ?_ | with_reducible refine t_skip ?_ | with_reducible refine t_exit ?_ | with_reducible refine t_block ?_
      | with_reducible refine n_block ?_ | with_reducible refine e_then ?_ | with_reducible refine x_then ?_ | with_reducible refine x_block ?_ | with_reducible refine t_draw ?_
      | refine r_val rfl rfl True.intro ?_ | refine r_gskip rfl rfl rfl ?_ | refine r_gskip2 rfl rfl rfl ?_ | refine r_gval rfl rfl rfl rfl True.intro ?_
      | refine t_true rfl ?_ | refine t_false rfl ?_
      | ((first | refine t_cond_d rfl (fun _ => ?_) (fun _ => ?_) | refine t_cond_i rfl (fun _ => ?_) (fun _ => ?_) | refine t_cond_j rfl (fun _ => ?_) (fun _ => ?_) | refine t_cond_s rfl (fun _ => ?_) (fun _ => ?_) | refine t_cond_n rfl (fun _ => ?_) (fun _ => ?_) | refine t_cond rfl (fun _ => ?_) (fun _ => ?_) | refine c_split_d rfl rfl (fun _ => ?_) (fun _ => ?_) | refine c_split_i rfl rfl (fun _ => ?_) (fun _ => ?_) | refine c_split_j rfl rfl (fun _ => ?_) (fun _ => ?_) | refine c_split_s rfl rfl (fun _ => ?_) (fun _ => ?_) | refine c_split_n rfl rfl (fun _ => ?_) (fun _ => ?_)) <;> try (first | (rename_i hz; exact Bool.noConfusion (show true = false from hz)) | (rename_i hz; exact Bool.noConfusion (show false = true from hz)) | (exfalso; omega)))
      | refine r_val rfl rfl (by (first | omega | exact Nat.le_of_ble_eq_true rfl | (simp only [wrap_u8, IntKind.wrap_i64, IntKind.wrap_i32, wrap_u32', wrap_u64', InI]; (repeat' refine And.intro ?_ ?_) <;> omega) | ((repeat' refine And.intro ?_ ?_) <;> first | omega | rfl | exact Nat.le_refl _ | exact Nat.le_of_ble_eq_true rfl | exact bytesF_one _) | (simp_all; done) | (simp_all; omega))) ?_ | refine r_gval rfl rfl rfl rfl (by (first | omega | exact Nat.le_of_ble_eq_true rfl | (simp only [wrap_u8, IntKind.wrap_i64, IntKind.wrap_i32, wrap_u32', wrap_u64', InI]; (repeat' refine And.intro ?_ ?_) <;> omega) | ((repeat' refine And.intro ?_ ?_) <;> first | omega | rfl | exact Nat.le_refl _ | exact Nat.le_of_ble_eq_true rfl | exact bytesF_one _) | (simp_all; done) | (simp_all; omega))) ?_
      | refine r_obj rfl rfl (by (first | omega | exact Nat.le_of_ble_eq_true rfl | (simp only [wrap_u8, IntKind.wrap_i64, IntKind.wrap_i32, wrap_u32', wrap_u64', InI]; (repeat' refine And.intro ?_ ?_) <;> omega) | ((repeat' refine And.intro ?_ ?_) <;> first | omega | rfl | exact Nat.le_refl _ | exact Nat.le_of_ble_eq_true rfl | exact bytesF_one _) | (simp_all; done) | (simp_all; omega))) ?_ | refine r_sto rfl (by (first | omega | exact Nat.le_of_ble_eq_true rfl | (simp only [wrap_u8, IntKind.wrap_i64, IntKind.wrap_i32, wrap_u32', wrap_u64', InI]; (repeat' refine And.intro ?_ ?_) <;> omega) | ((repeat' refine And.intro ?_ ?_) <;> first | omega | rfl | exact Nat.le_refl _ | exact Nat.le_of_ble_eq_true rfl | exact bytesF_one _) | (simp_all; done) | (simp_all; omega))) ?_ | refine r_gobj rfl rfl rfl rfl (by (first | omega | exact Nat.le_of_ble_eq_true rfl | (simp only [wrap_u8, IntKind.wrap_i64, IntKind.wrap_i32, wrap_u32', wrap_u64', InI]; (repeat' refine And.intro ?_ ?_) <;> omega) | ((repeat' refine And.intro ?_ ?_) <;> first | omega | rfl | exact Nat.le_refl _ | exact Nat.le_of_ble_eq_true rfl | exact bytesF_one _) | (simp_all; done) | (simp_all; omega))) ?_
      | refine e_hit rfl ?_ | refine e_miss rfl ?_
      | refine ⟨by kernel_rfl, ?_⟩ | refine x_end rfl ?_ | ((with_reducible refine c_grd ?_); (fail_if_success (refine c_lit true rfl rfl rfl ?_)); (fail_if_success (refine c_lit false rfl rfl rfl ?_)); refine c_split rfl rfl (fun _ => ?_) (fun _ => ?_)))
    rw [← g2 (), hv ()]

theorem hexF_lo (c i : Int) (h0 : 0 ≤ i) (h1 : i < 16) (h : c = (if i < 10 then 48 + i else 87 + i) ∨ c = (if i < 10 then 48 + i else 55 + i)) : hexF c = i := by
  unfold hexF
  split at h <;> (repeat' split) <;> omega
theorem hexF_hi (c : Int) (h : ∀ i : Nat, i < 16 → ¬ c = (if (i : Int) < 10 then 48 + (i : Int) else 87 + i) ∧ ¬ c = (if (i : Int) < 10 then 48 + (i : Int) else 55 + i)) : hexF c = -1 := by
  unfold hexF
  split
  · have := h (c - 48).toNat (by omega)
    rw [if_pos (by omega)] at this
    omega
  · split
    · have := (h (c - 87).toNat (by omega)).1
      rw [if_neg (by omega)] at this
      omega
    · split
      · have := (h (c - 55).toNat (by omega)).2
        rw [if_neg (by omega)] at this
        omega
      · rfl

theorem hexS : ∀ i : Nat, i < 16 → at' ({ data := #[48, 49, 50, 51, 52, 53, 54, 55, 56, 57, 97, 98, 99, 100, 101, 102] } : ByteArray).data.toList i = (if (i : Int) < 10 then 48 + (i : Int) else 87 + i) := by decide
theorem hexL : ∀ i : Nat, i < 16 → at' ({ data := #[48, 49, 50, 51, 52, 53, 54, 55, 56, 57, 65, 66, 67, 68, 69, 70] } : ByteArray).data.toList i = (if (i : Int) < 10 then 48 + (i : Int) else 55 + i) := by decide

end Go.Proofs.YteidmimpkipcfaaDoor.Flow

/- TYPED: the program: which value a field is. -/
namespace Go.Proofs.YteidmimpkipcfaaDoor.Flow
open Go

/-- A value's cells. -/
abbrev vlD (k : Int) (s : List UInt8) (b : Int) : D := .ag [.i .i64 k, .s s, .i .u64 b]

instance (N D : Nat) : Decidable (overB N D) := by
  unfold overB
  infer_instance

/-- Which value a field is, if it is one. -/
def typedF (s : List UInt8) (texts : Bool) : (Int × List UInt8 × Int) × Bool :=
  if s.length = 0 ∨ validL s = false then ((0, [], 0), false)
  else if texts = true ∨ isNum s = false then ((1, s, 0), true)
  else if (intF (parseG powP s).1.1 (parseG powP s).1.2.1 (parseG powP s).1.2.2).2 = true ∧ dotE s = false then ((4, [], IntKind.u64.wrap (intF (parseG powP s).1.1 (parseG powP s).1.2.1 (parseG powP s).1.2.2).1), true)
  else if overB (numV (parseG powP s).1.2.1 (parseG powP s).1.2.2) (denV (parseG powP s).1.2.2) then ((1, s, 0), true)
  else ((3, [], (bitsV (parseG powP s).1.1 (parseG powP s).1.2.1 (parseG powP s).1.2.2 : Nat)), true)

theorem contAny_ctr (s : List UInt8) (hs : s.length ≤ 1048576) (ha : ∀ c ∈ s, c.toNat < 128) : Ctr Tryd.prog 55 [.s s, .s [46, 101, 69]] (.b (dotE s)) := by
  intro w S vs hv hg hn hr
  have h0 := hr 0 (by simp)
  have h1 := hr 1 (by simp)
  rw [two_of hn]
  generalize vs.getD 0 undef = v0 at *
  generalize vs.getD 1 undef = v1 at *
  cases h0
  cases h1
  refine (Tryd.strings_ContainsAny_laid ⟨s.toArray⟩ ⟨#[46, 101, 69]⟩ w (by simp [ByteArray.size]; omega) (by decide) (fun j b hb => ha b ?_) (fun j b hb => ?_)).mono ?_
  · have hb : s[j]? = some b := by simpa using hb
    exact List.mem_of_getElem? hb
  · have hb : ([46, 101, 69] : List UInt8)[j]? = some b := by simpa using hb
    have hb := List.mem_of_getElem? hb
    simp at hb
    rcases hb with rfl | rfl | rfl <;> decide
  · rintro e w' ⟨rfl, hb⟩
    refine ⟨_, S, rfl, ?_, hist_below hv hg hb⟩
    have e1 : Lib.containsAny (⟨s.toArray⟩ : ByteArray).data.toList (⟨#[46, 101, 69]⟩ : ByteArray).data.toList = dotE s := cont_dotE s
    rw [e1]
    exact .b ..

theorem isNum_iff {s : List UInt8} : isNum s = true ↔ (parseG powP s).2.2 = 0 ∧ ((parseG powP s).2.1 : Int) = s.length := by
  unfold isNum
  rw [decide_eq_true_iff]
  omega

theorem isnum_ctr (s : List UInt8) (hs : s.length ≤ 1048576) : Ctr Tryd.prog 19 [.s s] (.b (isNum s)) := by
  have c1 := parse_ctr s hs
  have hi := isNum_iff (s := s)
  generalize isNum s = B at *
  generalize parseG powP s = R at *
  obtain ⟨d, n, e⟩ := R
  dsimp only at hi c1
  have hT : e = 0 → (n : Int) = s.length → D.b true = .b B := fun h h2 => by rw [hi.2 ⟨h, h2⟩]
  have hF : (¬ e = 0 ∨ ¬ (n : Int) = s.length) → D.b false = .b B := fun h => by
    have : ¬ B = true := fun h2 => by
      have := hi.1 h2
      omega
    rw [Bool.eq_false_iff.2 this]
  refine r_fun Tryd.func19 rfl Tryd.ntmps19 Tryd.results19 rfl rfl fun X hL hX => ?_
  clear hi
  repeat' (first
    | with_reducible refine t_seq ?_ | with_reducible refine t_region ?_ | with_reducible refine c_nil ?_ | with_reducible refine n_then ?_
    | with_reducible refine t_ret ?_ | with_reducible refine t_skip ?_ | with_reducible refine t_exit ?_ | with_reducible refine t_block ?_
    | with_reducible refine n_block ?_ | with_reducible refine e_then ?_ | with_reducible refine x_then ?_ | with_reducible refine x_block ?_ | with_reducible refine t_draw ?_
    | refine r_val rfl rfl True.intro ?_ | refine r_gskip rfl rfl rfl ?_ | refine r_gskip2 rfl rfl rfl ?_ | refine r_gval rfl rfl rfl rfl True.intro ?_
    | refine t_true rfl ?_ | refine t_false rfl ?_
    | ((first | refine t_cond_d rfl (fun _ => ?_) (fun _ => ?_) | refine t_cond_i rfl (fun _ => ?_) (fun _ => ?_) | refine t_cond_j rfl (fun _ => ?_) (fun _ => ?_) | refine t_cond_s rfl (fun _ => ?_) (fun _ => ?_) | refine t_cond_n rfl (fun _ => ?_) (fun _ => ?_) | refine t_cond rfl (fun _ => ?_) (fun _ => ?_) | refine c_split_d rfl rfl (fun _ => ?_) (fun _ => ?_) | refine c_split_i rfl rfl (fun _ => ?_) (fun _ => ?_) | refine c_split_j rfl rfl (fun _ => ?_) (fun _ => ?_) | refine c_split_s rfl rfl (fun _ => ?_) (fun _ => ?_) | refine c_split_n rfl rfl (fun _ => ?_) (fun _ => ?_)) <;> try (first | (rename_i hz; exact Bool.noConfusion (show true = false from hz)) | (rename_i hz; exact Bool.noConfusion (show false = true from hz)) | (exfalso; omega)))
    | refine r_val rfl rfl (by (first | omega | exact Nat.le_of_ble_eq_true rfl | (simp only [wrap_u8, IntKind.wrap_i64, IntKind.wrap_i32, wrap_u32', wrap_u64', InI]; (repeat' refine And.intro ?_ ?_) <;> omega) | ((repeat' refine And.intro ?_ ?_) <;> first | omega | rfl | exact Nat.le_refl _ | exact Nat.le_of_ble_eq_true rfl | exact bytesF_one _) | (simp_all; done) | (simp_all; omega))) ?_ | refine r_gval rfl rfl rfl rfl (by (first | omega | exact Nat.le_of_ble_eq_true rfl | (simp only [wrap_u8, IntKind.wrap_i64, IntKind.wrap_i32, wrap_u32', wrap_u64', InI]; (repeat' refine And.intro ?_ ?_) <;> omega) | ((repeat' refine And.intro ?_ ?_) <;> first | omega | rfl | exact Nat.le_refl _ | exact Nat.le_of_ble_eq_true rfl | exact bytesF_one _) | (simp_all; done) | (simp_all; omega))) ?_
    | refine r_obj rfl rfl (by (first | omega | exact Nat.le_of_ble_eq_true rfl | (simp only [wrap_u8, IntKind.wrap_i64, IntKind.wrap_i32, wrap_u32', wrap_u64', InI]; (repeat' refine And.intro ?_ ?_) <;> omega) | ((repeat' refine And.intro ?_ ?_) <;> first | omega | rfl | exact Nat.le_refl _ | exact Nat.le_of_ble_eq_true rfl | exact bytesF_one _) | (simp_all; done) | (simp_all; omega))) ?_ | refine r_sto rfl (by (first | omega | exact Nat.le_of_ble_eq_true rfl | (simp only [wrap_u8, IntKind.wrap_i64, IntKind.wrap_i32, wrap_u32', wrap_u64', InI]; (repeat' refine And.intro ?_ ?_) <;> omega) | ((repeat' refine And.intro ?_ ?_) <;> first | omega | rfl | exact Nat.le_refl _ | exact Nat.le_of_ble_eq_true rfl | exact bytesF_one _) | (simp_all; done) | (simp_all; omega))) ?_ | refine r_gobj rfl rfl rfl rfl (by (first | omega | exact Nat.le_of_ble_eq_true rfl | (simp only [wrap_u8, IntKind.wrap_i64, IntKind.wrap_i32, wrap_u32', wrap_u64', InI]; (repeat' refine And.intro ?_ ?_) <;> omega) | ((repeat' refine And.intro ?_ ?_) <;> first | omega | rfl | exact Nat.le_refl _ | exact Nat.le_of_ble_eq_true rfl | exact bytesF_one _) | (simp_all; done) | (simp_all; omega))) ?_
    | refine e_hit rfl ?_ | refine e_miss rfl ?_
    | refine ⟨by kernel_rfl, ?_⟩ | refine x_end rfl ?_ | refine r_call (f := 53) rfl rfl Tryd.call53 rfl c1 ?_ | ((with_reducible refine c_grd ?_); (fail_if_success (refine c_lit true rfl rfl rfl ?_)); (fail_if_success (refine c_lit false rfl rfl rfl ?_)); refine c_split rfl rfl (fun _ => ?_) (fun _ => ?_)))
  all_goals
    first
      | exact hT (by omega) (by omega)
      | exact hF (by omega)
      | (by_cases hz : (n : Int) = s.length
         · simp only [hz, beq_self_eq_true]
           exact hT (by omega) hz
         · have hq : ((n : Int) == (s.length : Int)) = false := by simpa using hz
           simp only [hq]
           exact hF (.inr hz))

theorem typed_bad (s : List UInt8) (hs : s.length ≤ 1048576) (texts : Bool) (h : s.length = 0 ∨ validL s = false) : Ctr Tryd.prog 17 [.s s, .b texts] (.tu [vlD 0 [] 0, .b false]) := by
  have c1 := valid_ctr s (by omega)
  by_cases h0 : s.length = 0
  · obtain rfl := len_nil h0
    clear h
    refine r_fun Tryd.func17 rfl Tryd.ntmps17 Tryd.results17 rfl rfl fun X hL hX => ?_
    repeat' (first
      | with_reducible refine t_seq ?_ | with_reducible refine t_region ?_ | with_reducible refine c_nil ?_ | with_reducible refine n_then ?_
      | with_reducible refine t_ret ?_ | with_reducible refine t_skip ?_ | with_reducible refine t_exit ?_ | with_reducible refine t_block ?_
      | with_reducible refine n_block ?_ | with_reducible refine e_then ?_ | with_reducible refine x_then ?_ | with_reducible refine x_block ?_ | with_reducible refine t_draw ?_
      | refine r_val rfl rfl True.intro ?_ | refine r_gskip rfl rfl rfl ?_ | refine r_gskip2 rfl rfl rfl ?_ | refine r_gval rfl rfl rfl rfl True.intro ?_
      | refine t_true rfl ?_ | refine t_false rfl ?_
      | ((first | refine t_cond_d rfl (fun _ => ?_) (fun _ => ?_) | refine t_cond_i rfl (fun _ => ?_) (fun _ => ?_) | refine t_cond_j rfl (fun _ => ?_) (fun _ => ?_) | refine t_cond_s rfl (fun _ => ?_) (fun _ => ?_) | refine t_cond_n rfl (fun _ => ?_) (fun _ => ?_) | refine t_cond rfl (fun _ => ?_) (fun _ => ?_) | refine c_split_d rfl rfl (fun _ => ?_) (fun _ => ?_) | refine c_split_i rfl rfl (fun _ => ?_) (fun _ => ?_) | refine c_split_j rfl rfl (fun _ => ?_) (fun _ => ?_) | refine c_split_s rfl rfl (fun _ => ?_) (fun _ => ?_) | refine c_split_n rfl rfl (fun _ => ?_) (fun _ => ?_)) <;> try (first | (rename_i hz; exact Bool.noConfusion (show true = false from hz)) | (rename_i hz; exact Bool.noConfusion (show false = true from hz)) | (exfalso; omega)))
      | refine r_val rfl rfl (by (first | omega | exact Nat.le_of_ble_eq_true rfl | (simp only [wrap_u8, IntKind.wrap_i64, IntKind.wrap_i32, wrap_u32', wrap_u64', InI]; (repeat' refine And.intro ?_ ?_) <;> omega) | ((repeat' refine And.intro ?_ ?_) <;> first | omega | rfl | exact Nat.le_refl _ | exact Nat.le_of_ble_eq_true rfl | exact bytesF_one _) | (simp_all; done) | (simp_all; omega))) ?_ | refine r_gval rfl rfl rfl rfl (by (first | omega | exact Nat.le_of_ble_eq_true rfl | (simp only [wrap_u8, IntKind.wrap_i64, IntKind.wrap_i32, wrap_u32', wrap_u64', InI]; (repeat' refine And.intro ?_ ?_) <;> omega) | ((repeat' refine And.intro ?_ ?_) <;> first | omega | rfl | exact Nat.le_refl _ | exact Nat.le_of_ble_eq_true rfl | exact bytesF_one _) | (simp_all; done) | (simp_all; omega))) ?_
      | refine r_obj rfl rfl (by (first | omega | exact Nat.le_of_ble_eq_true rfl | (simp only [wrap_u8, IntKind.wrap_i64, IntKind.wrap_i32, wrap_u32', wrap_u64', InI]; (repeat' refine And.intro ?_ ?_) <;> omega) | ((repeat' refine And.intro ?_ ?_) <;> first | omega | rfl | exact Nat.le_refl _ | exact Nat.le_of_ble_eq_true rfl | exact bytesF_one _) | (simp_all; done) | (simp_all; omega))) ?_ | refine r_sto rfl (by (first | omega | exact Nat.le_of_ble_eq_true rfl | (simp only [wrap_u8, IntKind.wrap_i64, IntKind.wrap_i32, wrap_u32', wrap_u64', InI]; (repeat' refine And.intro ?_ ?_) <;> omega) | ((repeat' refine And.intro ?_ ?_) <;> first | omega | rfl | exact Nat.le_refl _ | exact Nat.le_of_ble_eq_true rfl | exact bytesF_one _) | (simp_all; done) | (simp_all; omega))) ?_ | refine r_gobj rfl rfl rfl rfl (by (first | omega | exact Nat.le_of_ble_eq_true rfl | (simp only [wrap_u8, IntKind.wrap_i64, IntKind.wrap_i32, wrap_u32', wrap_u64', InI]; (repeat' refine And.intro ?_ ?_) <;> omega) | ((repeat' refine And.intro ?_ ?_) <;> first | omega | rfl | exact Nat.le_refl _ | exact Nat.le_of_ble_eq_true rfl | exact bytesF_one _) | (simp_all; done) | (simp_all; omega))) ?_
      | refine e_hit rfl ?_ | refine e_miss rfl ?_
      | refine ⟨by kernel_rfl, ?_⟩ | refine x_end rfl ?_ | refine r_gcall (f := 52) rfl rfl rfl rfl Tryd.call52 rfl c1 ?_ | ((with_reducible refine c_grd ?_); (fail_if_success (refine c_lit true rfl rfl rfl ?_)); (fail_if_success (refine c_lit false rfl rfl rfl ?_)); refine c_split rfl rfl (fun _ => ?_) (fun _ => ?_)))
    all_goals rfl
  · have hv : validL s = false := h.resolve_left h0
    rw [hv] at c1
    clear h hv
    refine r_fun Tryd.func17 rfl Tryd.ntmps17 Tryd.results17 rfl rfl fun X hL hX => ?_
    repeat' (first
      | with_reducible refine t_seq ?_ | with_reducible refine t_region ?_ | with_reducible refine c_nil ?_ | with_reducible refine n_then ?_
      | with_reducible refine t_ret ?_ | with_reducible refine t_skip ?_ | with_reducible refine t_exit ?_ | with_reducible refine t_block ?_
      | with_reducible refine n_block ?_ | with_reducible refine e_then ?_ | with_reducible refine x_then ?_ | with_reducible refine x_block ?_ | with_reducible refine t_draw ?_
      | refine r_val rfl rfl True.intro ?_ | refine r_gskip rfl rfl rfl ?_ | refine r_gskip2 rfl rfl rfl ?_ | refine r_gval rfl rfl rfl rfl True.intro ?_
      | refine t_true rfl ?_ | refine t_false rfl ?_
      | ((first | refine t_cond_d rfl (fun _ => ?_) (fun _ => ?_) | refine t_cond_i rfl (fun _ => ?_) (fun _ => ?_) | refine t_cond_j rfl (fun _ => ?_) (fun _ => ?_) | refine t_cond_s rfl (fun _ => ?_) (fun _ => ?_) | refine t_cond_n rfl (fun _ => ?_) (fun _ => ?_) | refine t_cond rfl (fun _ => ?_) (fun _ => ?_) | refine c_split_d rfl rfl (fun _ => ?_) (fun _ => ?_) | refine c_split_i rfl rfl (fun _ => ?_) (fun _ => ?_) | refine c_split_j rfl rfl (fun _ => ?_) (fun _ => ?_) | refine c_split_s rfl rfl (fun _ => ?_) (fun _ => ?_) | refine c_split_n rfl rfl (fun _ => ?_) (fun _ => ?_)) <;> try (first | (rename_i hz; exact Bool.noConfusion (show true = false from hz)) | (rename_i hz; exact Bool.noConfusion (show false = true from hz)) | (exfalso; omega)))
      | refine r_val rfl rfl (by (first | omega | exact Nat.le_of_ble_eq_true rfl | (simp only [wrap_u8, IntKind.wrap_i64, IntKind.wrap_i32, wrap_u32', wrap_u64', InI]; (repeat' refine And.intro ?_ ?_) <;> omega) | ((repeat' refine And.intro ?_ ?_) <;> first | omega | rfl | exact Nat.le_refl _ | exact Nat.le_of_ble_eq_true rfl | exact bytesF_one _) | (simp_all; done) | (simp_all; omega))) ?_ | refine r_gval rfl rfl rfl rfl (by (first | omega | exact Nat.le_of_ble_eq_true rfl | (simp only [wrap_u8, IntKind.wrap_i64, IntKind.wrap_i32, wrap_u32', wrap_u64', InI]; (repeat' refine And.intro ?_ ?_) <;> omega) | ((repeat' refine And.intro ?_ ?_) <;> first | omega | rfl | exact Nat.le_refl _ | exact Nat.le_of_ble_eq_true rfl | exact bytesF_one _) | (simp_all; done) | (simp_all; omega))) ?_
      | refine r_obj rfl rfl (by (first | omega | exact Nat.le_of_ble_eq_true rfl | (simp only [wrap_u8, IntKind.wrap_i64, IntKind.wrap_i32, wrap_u32', wrap_u64', InI]; (repeat' refine And.intro ?_ ?_) <;> omega) | ((repeat' refine And.intro ?_ ?_) <;> first | omega | rfl | exact Nat.le_refl _ | exact Nat.le_of_ble_eq_true rfl | exact bytesF_one _) | (simp_all; done) | (simp_all; omega))) ?_ | refine r_sto rfl (by (first | omega | exact Nat.le_of_ble_eq_true rfl | (simp only [wrap_u8, IntKind.wrap_i64, IntKind.wrap_i32, wrap_u32', wrap_u64', InI]; (repeat' refine And.intro ?_ ?_) <;> omega) | ((repeat' refine And.intro ?_ ?_) <;> first | omega | rfl | exact Nat.le_refl _ | exact Nat.le_of_ble_eq_true rfl | exact bytesF_one _) | (simp_all; done) | (simp_all; omega))) ?_ | refine r_gobj rfl rfl rfl rfl (by (first | omega | exact Nat.le_of_ble_eq_true rfl | (simp only [wrap_u8, IntKind.wrap_i64, IntKind.wrap_i32, wrap_u32', wrap_u64', InI]; (repeat' refine And.intro ?_ ?_) <;> omega) | ((repeat' refine And.intro ?_ ?_) <;> first | omega | rfl | exact Nat.le_refl _ | exact Nat.le_of_ble_eq_true rfl | exact bytesF_one _) | (simp_all; done) | (simp_all; omega))) ?_
      | refine e_hit rfl ?_ | refine e_miss rfl ?_
      | refine ⟨by kernel_rfl, ?_⟩ | refine x_end rfl ?_ | refine r_gcall (f := 52) rfl rfl rfl rfl Tryd.call52 rfl c1 ?_ | ((with_reducible refine c_grd ?_); (fail_if_success (refine c_lit true rfl rfl rfl ?_)); (fail_if_success (refine c_lit false rfl rfl rfl ?_)); refine c_split rfl rfl (fun _ => ?_) (fun _ => ?_)))
    all_goals rfl

theorem typed_text (s : List UInt8) (hs : s.length ≤ 1048576) (texts : Bool) (h0 : ¬ s.length = 0) (hv : validL s = true) (h : texts = true ∨ isNum s = false) : Ctr Tryd.prog 17 [.s s, .b texts] (.tu [vlD 1 s 0, .b true]) := by
  have c1 := valid_ctr s (by omega)
  rw [hv] at c1
  have c2 := isnum_ctr s hs
  have hne : ¬ s = ({ data := #[] } : ByteArray).data.toList := fun h2 => h0 (by rw [h2]; rfl)
  clear hv h0
  cases texts with
  | true =>
    clear h
    refine r_fun Tryd.func17 rfl Tryd.ntmps17 Tryd.results17 rfl rfl fun X hL hX => ?_
    repeat' (first
      | with_reducible refine t_seq ?_ | with_reducible refine t_region ?_ | with_reducible refine c_nil ?_ | with_reducible refine n_then ?_
      | with_reducible refine t_ret ?_ | with_reducible refine t_skip ?_ | with_reducible refine t_exit ?_ | with_reducible refine t_block ?_
      | with_reducible refine n_block ?_ | with_reducible refine e_then ?_ | with_reducible refine x_then ?_ | with_reducible refine x_block ?_ | with_reducible refine t_draw ?_
      | refine r_val rfl rfl True.intro ?_ | refine r_gskip rfl rfl rfl ?_ | refine r_gskip2 rfl rfl rfl ?_ | refine r_gval rfl rfl rfl rfl True.intro ?_
      | refine t_true rfl ?_ | refine t_false rfl ?_
      | ((first | refine t_cond_d rfl (fun _ => ?_) (fun _ => ?_) | refine t_cond_i rfl (fun _ => ?_) (fun _ => ?_) | refine t_cond_j rfl (fun _ => ?_) (fun _ => ?_) | refine t_cond_s rfl (fun _ => ?_) (fun _ => ?_) | refine t_cond_n rfl (fun _ => ?_) (fun _ => ?_) | refine t_cond rfl (fun _ => ?_) (fun _ => ?_) | refine c_split_d rfl rfl (fun _ => ?_) (fun _ => ?_) | refine c_split_i rfl rfl (fun _ => ?_) (fun _ => ?_) | refine c_split_j rfl rfl (fun _ => ?_) (fun _ => ?_) | refine c_split_s rfl rfl (fun _ => ?_) (fun _ => ?_) | refine c_split_n rfl rfl (fun _ => ?_) (fun _ => ?_)) <;> try (first | (rename_i hz; exact Bool.noConfusion (show true = false from hz)) | (rename_i hz; exact Bool.noConfusion (show false = true from hz)) | (exfalso; omega)))
      | refine r_val rfl rfl (by (first | omega | exact Nat.le_of_ble_eq_true rfl | (simp only [wrap_u8, IntKind.wrap_i64, IntKind.wrap_i32, wrap_u32', wrap_u64', InI]; (repeat' refine And.intro ?_ ?_) <;> omega) | ((repeat' refine And.intro ?_ ?_) <;> first | omega | rfl | exact Nat.le_refl _ | exact Nat.le_of_ble_eq_true rfl | exact bytesF_one _) | (simp_all; done) | (simp_all; omega))) ?_ | refine r_gval rfl rfl rfl rfl (by (first | omega | exact Nat.le_of_ble_eq_true rfl | (simp only [wrap_u8, IntKind.wrap_i64, IntKind.wrap_i32, wrap_u32', wrap_u64', InI]; (repeat' refine And.intro ?_ ?_) <;> omega) | ((repeat' refine And.intro ?_ ?_) <;> first | omega | rfl | exact Nat.le_refl _ | exact Nat.le_of_ble_eq_true rfl | exact bytesF_one _) | (simp_all; done) | (simp_all; omega))) ?_
      | refine r_obj rfl rfl (by (first | omega | exact Nat.le_of_ble_eq_true rfl | (simp only [wrap_u8, IntKind.wrap_i64, IntKind.wrap_i32, wrap_u32', wrap_u64', InI]; (repeat' refine And.intro ?_ ?_) <;> omega) | ((repeat' refine And.intro ?_ ?_) <;> first | omega | rfl | exact Nat.le_refl _ | exact Nat.le_of_ble_eq_true rfl | exact bytesF_one _) | (simp_all; done) | (simp_all; omega))) ?_ | refine r_sto rfl (by (first | omega | exact Nat.le_of_ble_eq_true rfl | (simp only [wrap_u8, IntKind.wrap_i64, IntKind.wrap_i32, wrap_u32', wrap_u64', InI]; (repeat' refine And.intro ?_ ?_) <;> omega) | ((repeat' refine And.intro ?_ ?_) <;> first | omega | rfl | exact Nat.le_refl _ | exact Nat.le_of_ble_eq_true rfl | exact bytesF_one _) | (simp_all; done) | (simp_all; omega))) ?_ | refine r_gobj rfl rfl rfl rfl (by (first | omega | exact Nat.le_of_ble_eq_true rfl | (simp only [wrap_u8, IntKind.wrap_i64, IntKind.wrap_i32, wrap_u32', wrap_u64', InI]; (repeat' refine And.intro ?_ ?_) <;> omega) | ((repeat' refine And.intro ?_ ?_) <;> first | omega | rfl | exact Nat.le_refl _ | exact Nat.le_of_ble_eq_true rfl | exact bytesF_one _) | (simp_all; done) | (simp_all; omega))) ?_
      | refine e_hit rfl ?_ | refine e_miss rfl ?_
      | refine ⟨by kernel_rfl, ?_⟩ | refine x_end rfl ?_ | refine r_gcall (f := 52) rfl rfl rfl rfl Tryd.call52 rfl c1 ?_ | refine r_gcall (f := 19) rfl rfl rfl rfl Tryd.call19 rfl c2 ?_ | ((with_reducible refine c_grd ?_); (fail_if_success (refine c_lit true rfl rfl rfl ?_)); (fail_if_success (refine c_lit false rfl rfl rfl ?_)); refine c_split rfl rfl (fun _ => ?_) (fun _ => ?_)))
    all_goals first | rfl | exact absurd ‹_› hne
  | false =>
    have hq : isNum s = false := h.resolve_left (by decide)
    rw [hq] at c2
    clear h hq
    refine r_fun Tryd.func17 rfl Tryd.ntmps17 Tryd.results17 rfl rfl fun X hL hX => ?_
    repeat' (first
      | with_reducible refine t_seq ?_ | with_reducible refine t_region ?_ | with_reducible refine c_nil ?_ | with_reducible refine n_then ?_
      | with_reducible refine t_ret ?_ | with_reducible refine t_skip ?_ | with_reducible refine t_exit ?_ | with_reducible refine t_block ?_
      | with_reducible refine n_block ?_ | with_reducible refine e_then ?_ | with_reducible refine x_then ?_ | with_reducible refine x_block ?_ | with_reducible refine t_draw ?_
      | refine r_val rfl rfl True.intro ?_ | refine r_gskip rfl rfl rfl ?_ | refine r_gskip2 rfl rfl rfl ?_ | refine r_gval rfl rfl rfl rfl True.intro ?_
      | refine t_true rfl ?_ | refine t_false rfl ?_
      | ((first | refine t_cond_d rfl (fun _ => ?_) (fun _ => ?_) | refine t_cond_i rfl (fun _ => ?_) (fun _ => ?_) | refine t_cond_j rfl (fun _ => ?_) (fun _ => ?_) | refine t_cond_s rfl (fun _ => ?_) (fun _ => ?_) | refine t_cond_n rfl (fun _ => ?_) (fun _ => ?_) | refine t_cond rfl (fun _ => ?_) (fun _ => ?_) | refine c_split_d rfl rfl (fun _ => ?_) (fun _ => ?_) | refine c_split_i rfl rfl (fun _ => ?_) (fun _ => ?_) | refine c_split_j rfl rfl (fun _ => ?_) (fun _ => ?_) | refine c_split_s rfl rfl (fun _ => ?_) (fun _ => ?_) | refine c_split_n rfl rfl (fun _ => ?_) (fun _ => ?_)) <;> try (first | (rename_i hz; exact Bool.noConfusion (show true = false from hz)) | (rename_i hz; exact Bool.noConfusion (show false = true from hz)) | (exfalso; omega)))
      | refine r_val rfl rfl (by (first | omega | exact Nat.le_of_ble_eq_true rfl | (simp only [wrap_u8, IntKind.wrap_i64, IntKind.wrap_i32, wrap_u32', wrap_u64', InI]; (repeat' refine And.intro ?_ ?_) <;> omega) | ((repeat' refine And.intro ?_ ?_) <;> first | omega | rfl | exact Nat.le_refl _ | exact Nat.le_of_ble_eq_true rfl | exact bytesF_one _) | (simp_all; done) | (simp_all; omega))) ?_ | refine r_gval rfl rfl rfl rfl (by (first | omega | exact Nat.le_of_ble_eq_true rfl | (simp only [wrap_u8, IntKind.wrap_i64, IntKind.wrap_i32, wrap_u32', wrap_u64', InI]; (repeat' refine And.intro ?_ ?_) <;> omega) | ((repeat' refine And.intro ?_ ?_) <;> first | omega | rfl | exact Nat.le_refl _ | exact Nat.le_of_ble_eq_true rfl | exact bytesF_one _) | (simp_all; done) | (simp_all; omega))) ?_
      | refine r_obj rfl rfl (by (first | omega | exact Nat.le_of_ble_eq_true rfl | (simp only [wrap_u8, IntKind.wrap_i64, IntKind.wrap_i32, wrap_u32', wrap_u64', InI]; (repeat' refine And.intro ?_ ?_) <;> omega) | ((repeat' refine And.intro ?_ ?_) <;> first | omega | rfl | exact Nat.le_refl _ | exact Nat.le_of_ble_eq_true rfl | exact bytesF_one _) | (simp_all; done) | (simp_all; omega))) ?_ | refine r_sto rfl (by (first | omega | exact Nat.le_of_ble_eq_true rfl | (simp only [wrap_u8, IntKind.wrap_i64, IntKind.wrap_i32, wrap_u32', wrap_u64', InI]; (repeat' refine And.intro ?_ ?_) <;> omega) | ((repeat' refine And.intro ?_ ?_) <;> first | omega | rfl | exact Nat.le_refl _ | exact Nat.le_of_ble_eq_true rfl | exact bytesF_one _) | (simp_all; done) | (simp_all; omega))) ?_ | refine r_gobj rfl rfl rfl rfl (by (first | omega | exact Nat.le_of_ble_eq_true rfl | (simp only [wrap_u8, IntKind.wrap_i64, IntKind.wrap_i32, wrap_u32', wrap_u64', InI]; (repeat' refine And.intro ?_ ?_) <;> omega) | ((repeat' refine And.intro ?_ ?_) <;> first | omega | rfl | exact Nat.le_refl _ | exact Nat.le_of_ble_eq_true rfl | exact bytesF_one _) | (simp_all; done) | (simp_all; omega))) ?_
      | refine e_hit rfl ?_ | refine e_miss rfl ?_
      | refine ⟨by kernel_rfl, ?_⟩ | refine x_end rfl ?_ | refine r_gcall (f := 52) rfl rfl rfl rfl Tryd.call52 rfl c1 ?_ | refine r_gcall (f := 19) rfl rfl rfl rfl Tryd.call19 rfl c2 ?_ | ((with_reducible refine c_grd ?_); (fail_if_success (refine c_lit true rfl rfl rfl ?_)); (fail_if_success (refine c_lit false rfl rfl rfl ?_)); refine c_split rfl rfl (fun _ => ?_) (fun _ => ?_)))
    all_goals first | rfl | exact absurd ‹_› hne

/-- A number: its decimal, its whole number, its double. -/
theorem typed_num (s : List UInt8) (hs : s.length ≤ 1048576) (h0 : ¬ s.length = 0) (hv : validL s = true) (h : isNum s = true) (R : (Int × List UInt8 × Int) × Bool) (hR : typedF s false = R) : Ctr Tryd.prog 17 [.s s, .b false] (.tu [vlD R.1.1 R.1.2.1 R.1.2.2, .b R.2]) := by
  have c1 := valid_ctr s (by omega)
  have c2 := isnum_ctr s hs
  have c3 := parse_ctr s hs
  obtain ⟨p1, p2⟩ := isNum_iff.1 h
  have hasc := parse_asc p1 (by omega)
  have c4 := contAny_ctr s hs hasc
  have hr := parse_right p1
  have hb := hr.bounds
  have c5 := int_ctr (parseG powP s).1.1 (parseG powP s).1.2.1 (parseG powP s).1.2.2 (by omega)
  unfold typedF at hR
  rw [if_neg (fun h2 => h2.elim h0 (by rw [hv]; simp)), if_neg (fun h2 => h2.elim (by simp) (by rw [h]; simp))] at hR
  rw [hv] at c1
  rw [h] at c2
  have hne : ¬ s = ({ data := #[] } : ByteArray).data.toList := fun h2 => h0 (by rw [h2]; rfl)
  clear hv h0 h hasc p1 p2
  generalize parseG powP s = G at *
  obtain ⟨⟨neg, d, e⟩, n, er⟩ := G
  dsimp only at *
  generalize hN : intF neg d e = N at *
  obtain ⟨k, ok⟩ := N
  dsimp only at *
  by_cases hi : ok = true ∧ dotE s = false
  · rw [if_pos hi] at hR
    obtain ⟨rfl, hd⟩ := hi
    rw [hd] at c4
    subst hR
    clear hN hd hr
    refine r_fun Tryd.func17 rfl Tryd.ntmps17 Tryd.results17 rfl rfl fun X hL hX => ?_
    repeat' (first
      | with_reducible refine t_seq ?_ | with_reducible refine t_region ?_ | with_reducible refine c_nil ?_ | with_reducible refine n_then ?_
      | with_reducible refine t_ret ?_ | with_reducible refine t_skip ?_ | with_reducible refine t_exit ?_ | with_reducible refine t_block ?_
      | with_reducible refine n_block ?_ | with_reducible refine e_then ?_ | with_reducible refine x_then ?_ | with_reducible refine x_block ?_ | with_reducible refine t_draw ?_
      | refine r_val rfl rfl True.intro ?_ | refine r_gskip rfl rfl rfl ?_ | refine r_gskip2 rfl rfl rfl ?_ | refine r_gval rfl rfl rfl rfl True.intro ?_
      | refine t_true rfl ?_ | refine t_false rfl ?_
      | ((first | refine t_cond_d rfl (fun _ => ?_) (fun _ => ?_) | refine t_cond_i rfl (fun _ => ?_) (fun _ => ?_) | refine t_cond_j rfl (fun _ => ?_) (fun _ => ?_) | refine t_cond_s rfl (fun _ => ?_) (fun _ => ?_) | refine t_cond_n rfl (fun _ => ?_) (fun _ => ?_) | refine t_cond rfl (fun _ => ?_) (fun _ => ?_) | refine c_split_d rfl rfl (fun _ => ?_) (fun _ => ?_) | refine c_split_i rfl rfl (fun _ => ?_) (fun _ => ?_) | refine c_split_j rfl rfl (fun _ => ?_) (fun _ => ?_) | refine c_split_s rfl rfl (fun _ => ?_) (fun _ => ?_) | refine c_split_n rfl rfl (fun _ => ?_) (fun _ => ?_)) <;> try (first | (rename_i hz; exact Bool.noConfusion (show true = false from hz)) | (rename_i hz; exact Bool.noConfusion (show false = true from hz)) | (exfalso; omega)))
      | refine r_val rfl rfl (by (first | omega | exact Nat.le_of_ble_eq_true rfl | (simp only [wrap_u8, IntKind.wrap_i64, IntKind.wrap_i32, wrap_u32', wrap_u64', InI]; (repeat' refine And.intro ?_ ?_) <;> omega) | ((repeat' refine And.intro ?_ ?_) <;> first | omega | rfl | exact Nat.le_refl _ | exact Nat.le_of_ble_eq_true rfl | exact bytesF_one _) | (simp_all; done) | (simp_all; omega))) ?_ | refine r_gval rfl rfl rfl rfl (by (first | omega | exact Nat.le_of_ble_eq_true rfl | (simp only [wrap_u8, IntKind.wrap_i64, IntKind.wrap_i32, wrap_u32', wrap_u64', InI]; (repeat' refine And.intro ?_ ?_) <;> omega) | ((repeat' refine And.intro ?_ ?_) <;> first | omega | rfl | exact Nat.le_refl _ | exact Nat.le_of_ble_eq_true rfl | exact bytesF_one _) | (simp_all; done) | (simp_all; omega))) ?_
      | refine r_obj rfl rfl (by (first | omega | exact Nat.le_of_ble_eq_true rfl | (simp only [wrap_u8, IntKind.wrap_i64, IntKind.wrap_i32, wrap_u32', wrap_u64', InI]; (repeat' refine And.intro ?_ ?_) <;> omega) | ((repeat' refine And.intro ?_ ?_) <;> first | omega | rfl | exact Nat.le_refl _ | exact Nat.le_of_ble_eq_true rfl | exact bytesF_one _) | (simp_all; done) | (simp_all; omega))) ?_ | refine r_sto rfl (by (first | omega | exact Nat.le_of_ble_eq_true rfl | (simp only [wrap_u8, IntKind.wrap_i64, IntKind.wrap_i32, wrap_u32', wrap_u64', InI]; (repeat' refine And.intro ?_ ?_) <;> omega) | ((repeat' refine And.intro ?_ ?_) <;> first | omega | rfl | exact Nat.le_refl _ | exact Nat.le_of_ble_eq_true rfl | exact bytesF_one _) | (simp_all; done) | (simp_all; omega))) ?_ | refine r_gobj rfl rfl rfl rfl (by (first | omega | exact Nat.le_of_ble_eq_true rfl | (simp only [wrap_u8, IntKind.wrap_i64, IntKind.wrap_i32, wrap_u32', wrap_u64', InI]; (repeat' refine And.intro ?_ ?_) <;> omega) | ((repeat' refine And.intro ?_ ?_) <;> first | omega | rfl | exact Nat.le_refl _ | exact Nat.le_of_ble_eq_true rfl | exact bytesF_one _) | (simp_all; done) | (simp_all; omega))) ?_
      | refine e_hit rfl ?_ | refine e_miss rfl ?_
      | refine ⟨by kernel_rfl, ?_⟩ | refine x_end rfl ?_ | refine r_gcall (f := 52) rfl rfl rfl rfl Tryd.call52 rfl c1 ?_ | refine r_gcall (f := 19) rfl rfl rfl rfl Tryd.call19 rfl c2 ?_ | refine r_call (f := 53) rfl rfl Tryd.call53 rfl c3 ?_ | refine r_call (f := 54) rfl rfl Tryd.call54 rfl c5 ?_ | refine r_gcall (f := 55) rfl rfl rfl rfl Tryd.call55 rfl c4 ?_ | ((with_reducible refine c_grd ?_); (fail_if_success (refine c_lit true rfl rfl rfl ?_)); (fail_if_success (refine c_lit false rfl rfl rfl ?_)); refine c_split rfl rfl (fun _ => ?_) (fun _ => ?_)))
    all_goals first | rfl | exact absurd ‹_› hne
  · rw [if_neg hi] at hR
    have hi2 : ok = true → dotE s = true := fun h => by
      cases hd : dotE s with
      | true => rfl
      | false => exact absurd ⟨h, hd⟩ hi
    clear hi hN
    by_cases ho : overB (numV d e) (denV e)
    · rw [if_pos ho] at hR
      have c6 := bits_over neg d e hr ho
      subst hR
      clear ho hr
      cases ok with
      | true =>
        rw [hi2 rfl] at c4
        clear hi2
        refine r_fun Tryd.func17 rfl Tryd.ntmps17 Tryd.results17 rfl rfl fun X hL hX => ?_
        repeat' (first
          | with_reducible refine t_seq ?_ | with_reducible refine t_region ?_ | with_reducible refine c_nil ?_ | with_reducible refine n_then ?_
          | with_reducible refine t_ret ?_ | with_reducible refine t_skip ?_ | with_reducible refine t_exit ?_ | with_reducible refine t_block ?_
          | with_reducible refine n_block ?_ | with_reducible refine e_then ?_ | with_reducible refine x_then ?_ | with_reducible refine x_block ?_ | with_reducible refine t_draw ?_
          | refine r_val rfl rfl True.intro ?_ | refine r_gskip rfl rfl rfl ?_ | refine r_gskip2 rfl rfl rfl ?_ | refine r_gval rfl rfl rfl rfl True.intro ?_
          | refine t_true rfl ?_ | refine t_false rfl ?_
          | ((first | refine t_cond_d rfl (fun _ => ?_) (fun _ => ?_) | refine t_cond_i rfl (fun _ => ?_) (fun _ => ?_) | refine t_cond_j rfl (fun _ => ?_) (fun _ => ?_) | refine t_cond_s rfl (fun _ => ?_) (fun _ => ?_) | refine t_cond_n rfl (fun _ => ?_) (fun _ => ?_) | refine t_cond rfl (fun _ => ?_) (fun _ => ?_) | refine c_split_d rfl rfl (fun _ => ?_) (fun _ => ?_) | refine c_split_i rfl rfl (fun _ => ?_) (fun _ => ?_) | refine c_split_j rfl rfl (fun _ => ?_) (fun _ => ?_) | refine c_split_s rfl rfl (fun _ => ?_) (fun _ => ?_) | refine c_split_n rfl rfl (fun _ => ?_) (fun _ => ?_)) <;> try (first | (rename_i hz; exact Bool.noConfusion (show true = false from hz)) | (rename_i hz; exact Bool.noConfusion (show false = true from hz)) | (exfalso; omega)))
          | refine r_val rfl rfl (by (first | omega | exact Nat.le_of_ble_eq_true rfl | (simp only [wrap_u8, IntKind.wrap_i64, IntKind.wrap_i32, wrap_u32', wrap_u64', InI]; (repeat' refine And.intro ?_ ?_) <;> omega) | ((repeat' refine And.intro ?_ ?_) <;> first | omega | rfl | exact Nat.le_refl _ | exact Nat.le_of_ble_eq_true rfl | exact bytesF_one _) | (simp_all; done) | (simp_all; omega))) ?_ | refine r_gval rfl rfl rfl rfl (by (first | omega | exact Nat.le_of_ble_eq_true rfl | (simp only [wrap_u8, IntKind.wrap_i64, IntKind.wrap_i32, wrap_u32', wrap_u64', InI]; (repeat' refine And.intro ?_ ?_) <;> omega) | ((repeat' refine And.intro ?_ ?_) <;> first | omega | rfl | exact Nat.le_refl _ | exact Nat.le_of_ble_eq_true rfl | exact bytesF_one _) | (simp_all; done) | (simp_all; omega))) ?_
          | refine r_obj rfl rfl (by (first | omega | exact Nat.le_of_ble_eq_true rfl | (simp only [wrap_u8, IntKind.wrap_i64, IntKind.wrap_i32, wrap_u32', wrap_u64', InI]; (repeat' refine And.intro ?_ ?_) <;> omega) | ((repeat' refine And.intro ?_ ?_) <;> first | omega | rfl | exact Nat.le_refl _ | exact Nat.le_of_ble_eq_true rfl | exact bytesF_one _) | (simp_all; done) | (simp_all; omega))) ?_ | refine r_sto rfl (by (first | omega | exact Nat.le_of_ble_eq_true rfl | (simp only [wrap_u8, IntKind.wrap_i64, IntKind.wrap_i32, wrap_u32', wrap_u64', InI]; (repeat' refine And.intro ?_ ?_) <;> omega) | ((repeat' refine And.intro ?_ ?_) <;> first | omega | rfl | exact Nat.le_refl _ | exact Nat.le_of_ble_eq_true rfl | exact bytesF_one _) | (simp_all; done) | (simp_all; omega))) ?_ | refine r_gobj rfl rfl rfl rfl (by (first | omega | exact Nat.le_of_ble_eq_true rfl | (simp only [wrap_u8, IntKind.wrap_i64, IntKind.wrap_i32, wrap_u32', wrap_u64', InI]; (repeat' refine And.intro ?_ ?_) <;> omega) | ((repeat' refine And.intro ?_ ?_) <;> first | omega | rfl | exact Nat.le_refl _ | exact Nat.le_of_ble_eq_true rfl | exact bytesF_one _) | (simp_all; done) | (simp_all; omega))) ?_
          | refine e_hit rfl ?_ | refine e_miss rfl ?_
          | refine ⟨by kernel_rfl, ?_⟩ | refine x_end rfl ?_ | refine r_gcall (f := 52) rfl rfl rfl rfl Tryd.call52 rfl c1 ?_ | refine r_gcall (f := 19) rfl rfl rfl rfl Tryd.call19 rfl c2 ?_ | refine r_call (f := 53) rfl rfl Tryd.call53 rfl c3 ?_ | refine r_call (f := 54) rfl rfl Tryd.call54 rfl c5 ?_ | refine r_gcall (f := 55) rfl rfl rfl rfl Tryd.call55 rfl c4 ?_ | refine r_call (f := 13) rfl rfl Tryd.call13 rfl c6 ?_ | ((with_reducible refine c_grd ?_); (fail_if_success (refine c_lit true rfl rfl rfl ?_)); (fail_if_success (refine c_lit false rfl rfl rfl ?_)); refine c_split rfl rfl (fun _ => ?_) (fun _ => ?_)))
        all_goals first | rfl | exact absurd ‹_› hne
      | false =>
        clear hi2
        refine r_fun Tryd.func17 rfl Tryd.ntmps17 Tryd.results17 rfl rfl fun X hL hX => ?_
        repeat' (first
          | with_reducible refine t_seq ?_ | with_reducible refine t_region ?_ | with_reducible refine c_nil ?_ | with_reducible refine n_then ?_
          | with_reducible refine t_ret ?_ | with_reducible refine t_skip ?_ | with_reducible refine t_exit ?_ | with_reducible refine t_block ?_
          | with_reducible refine n_block ?_ | with_reducible refine e_then ?_ | with_reducible refine x_then ?_ | with_reducible refine x_block ?_ | with_reducible refine t_draw ?_
          | refine r_val rfl rfl True.intro ?_ | refine r_gskip rfl rfl rfl ?_ | refine r_gskip2 rfl rfl rfl ?_ | refine r_gval rfl rfl rfl rfl True.intro ?_
          | refine t_true rfl ?_ | refine t_false rfl ?_
          | ((first | refine t_cond_d rfl (fun _ => ?_) (fun _ => ?_) | refine t_cond_i rfl (fun _ => ?_) (fun _ => ?_) | refine t_cond_j rfl (fun _ => ?_) (fun _ => ?_) | refine t_cond_s rfl (fun _ => ?_) (fun _ => ?_) | refine t_cond_n rfl (fun _ => ?_) (fun _ => ?_) | refine t_cond rfl (fun _ => ?_) (fun _ => ?_) | refine c_split_d rfl rfl (fun _ => ?_) (fun _ => ?_) | refine c_split_i rfl rfl (fun _ => ?_) (fun _ => ?_) | refine c_split_j rfl rfl (fun _ => ?_) (fun _ => ?_) | refine c_split_s rfl rfl (fun _ => ?_) (fun _ => ?_) | refine c_split_n rfl rfl (fun _ => ?_) (fun _ => ?_)) <;> try (first | (rename_i hz; exact Bool.noConfusion (show true = false from hz)) | (rename_i hz; exact Bool.noConfusion (show false = true from hz)) | (exfalso; omega)))
          | refine r_val rfl rfl (by (first | omega | exact Nat.le_of_ble_eq_true rfl | (simp only [wrap_u8, IntKind.wrap_i64, IntKind.wrap_i32, wrap_u32', wrap_u64', InI]; (repeat' refine And.intro ?_ ?_) <;> omega) | ((repeat' refine And.intro ?_ ?_) <;> first | omega | rfl | exact Nat.le_refl _ | exact Nat.le_of_ble_eq_true rfl | exact bytesF_one _) | (simp_all; done) | (simp_all; omega))) ?_ | refine r_gval rfl rfl rfl rfl (by (first | omega | exact Nat.le_of_ble_eq_true rfl | (simp only [wrap_u8, IntKind.wrap_i64, IntKind.wrap_i32, wrap_u32', wrap_u64', InI]; (repeat' refine And.intro ?_ ?_) <;> omega) | ((repeat' refine And.intro ?_ ?_) <;> first | omega | rfl | exact Nat.le_refl _ | exact Nat.le_of_ble_eq_true rfl | exact bytesF_one _) | (simp_all; done) | (simp_all; omega))) ?_
          | refine r_obj rfl rfl (by (first | omega | exact Nat.le_of_ble_eq_true rfl | (simp only [wrap_u8, IntKind.wrap_i64, IntKind.wrap_i32, wrap_u32', wrap_u64', InI]; (repeat' refine And.intro ?_ ?_) <;> omega) | ((repeat' refine And.intro ?_ ?_) <;> first | omega | rfl | exact Nat.le_refl _ | exact Nat.le_of_ble_eq_true rfl | exact bytesF_one _) | (simp_all; done) | (simp_all; omega))) ?_ | refine r_sto rfl (by (first | omega | exact Nat.le_of_ble_eq_true rfl | (simp only [wrap_u8, IntKind.wrap_i64, IntKind.wrap_i32, wrap_u32', wrap_u64', InI]; (repeat' refine And.intro ?_ ?_) <;> omega) | ((repeat' refine And.intro ?_ ?_) <;> first | omega | rfl | exact Nat.le_refl _ | exact Nat.le_of_ble_eq_true rfl | exact bytesF_one _) | (simp_all; done) | (simp_all; omega))) ?_ | refine r_gobj rfl rfl rfl rfl (by (first | omega | exact Nat.le_of_ble_eq_true rfl | (simp only [wrap_u8, IntKind.wrap_i64, IntKind.wrap_i32, wrap_u32', wrap_u64', InI]; (repeat' refine And.intro ?_ ?_) <;> omega) | ((repeat' refine And.intro ?_ ?_) <;> first | omega | rfl | exact Nat.le_refl _ | exact Nat.le_of_ble_eq_true rfl | exact bytesF_one _) | (simp_all; done) | (simp_all; omega))) ?_
          | refine e_hit rfl ?_ | refine e_miss rfl ?_
          | refine ⟨by kernel_rfl, ?_⟩ | refine x_end rfl ?_ | refine r_gcall (f := 52) rfl rfl rfl rfl Tryd.call52 rfl c1 ?_ | refine r_gcall (f := 19) rfl rfl rfl rfl Tryd.call19 rfl c2 ?_ | refine r_call (f := 53) rfl rfl Tryd.call53 rfl c3 ?_ | refine r_call (f := 54) rfl rfl Tryd.call54 rfl c5 ?_ | refine r_gcall (f := 55) rfl rfl rfl rfl Tryd.call55 rfl c4 ?_ | refine r_call (f := 13) rfl rfl Tryd.call13 rfl c6 ?_ | ((with_reducible refine c_grd ?_); (fail_if_success (refine c_lit true rfl rfl rfl ?_)); (fail_if_success (refine c_lit false rfl rfl rfl ?_)); refine c_split rfl rfl (fun _ => ?_) (fun _ => ?_)))
        all_goals first | rfl | exact absurd ‹_› hne
    · rw [if_neg ho] at hR
      have c6 := bits_ok neg d e hr ho
      subst hR
      clear ho hr
      generalize bitsV neg d e = bb at *
      cases ok with
      | true =>
        rw [hi2 rfl] at c4
        clear hi2
        refine r_fun Tryd.func17 rfl Tryd.ntmps17 Tryd.results17 rfl rfl fun X hL hX => ?_
        repeat' (first
          | with_reducible refine t_seq ?_ | with_reducible refine t_region ?_ | with_reducible refine c_nil ?_ | with_reducible refine n_then ?_
          | with_reducible refine t_ret ?_ | with_reducible refine t_skip ?_ | with_reducible refine t_exit ?_ | with_reducible refine t_block ?_
          | with_reducible refine n_block ?_ | with_reducible refine e_then ?_ | with_reducible refine x_then ?_ | with_reducible refine x_block ?_ | with_reducible refine t_draw ?_
          | refine r_val rfl rfl True.intro ?_ | refine r_gskip rfl rfl rfl ?_ | refine r_gskip2 rfl rfl rfl ?_ | refine r_gval rfl rfl rfl rfl True.intro ?_
          | refine t_true rfl ?_ | refine t_false rfl ?_
          | ((first | refine t_cond_d rfl (fun _ => ?_) (fun _ => ?_) | refine t_cond_i rfl (fun _ => ?_) (fun _ => ?_) | refine t_cond_j rfl (fun _ => ?_) (fun _ => ?_) | refine t_cond_s rfl (fun _ => ?_) (fun _ => ?_) | refine t_cond_n rfl (fun _ => ?_) (fun _ => ?_) | refine t_cond rfl (fun _ => ?_) (fun _ => ?_) | refine c_split_d rfl rfl (fun _ => ?_) (fun _ => ?_) | refine c_split_i rfl rfl (fun _ => ?_) (fun _ => ?_) | refine c_split_j rfl rfl (fun _ => ?_) (fun _ => ?_) | refine c_split_s rfl rfl (fun _ => ?_) (fun _ => ?_) | refine c_split_n rfl rfl (fun _ => ?_) (fun _ => ?_)) <;> try (first | (rename_i hz; exact Bool.noConfusion (show true = false from hz)) | (rename_i hz; exact Bool.noConfusion (show false = true from hz)) | (exfalso; omega)))
          | refine r_val rfl rfl (by (first | omega | exact Nat.le_of_ble_eq_true rfl | (simp only [wrap_u8, IntKind.wrap_i64, IntKind.wrap_i32, wrap_u32', wrap_u64', InI]; (repeat' refine And.intro ?_ ?_) <;> omega) | ((repeat' refine And.intro ?_ ?_) <;> first | omega | rfl | exact Nat.le_refl _ | exact Nat.le_of_ble_eq_true rfl | exact bytesF_one _) | (simp_all; done) | (simp_all; omega))) ?_ | refine r_gval rfl rfl rfl rfl (by (first | omega | exact Nat.le_of_ble_eq_true rfl | (simp only [wrap_u8, IntKind.wrap_i64, IntKind.wrap_i32, wrap_u32', wrap_u64', InI]; (repeat' refine And.intro ?_ ?_) <;> omega) | ((repeat' refine And.intro ?_ ?_) <;> first | omega | rfl | exact Nat.le_refl _ | exact Nat.le_of_ble_eq_true rfl | exact bytesF_one _) | (simp_all; done) | (simp_all; omega))) ?_
          | refine r_obj rfl rfl (by (first | omega | exact Nat.le_of_ble_eq_true rfl | (simp only [wrap_u8, IntKind.wrap_i64, IntKind.wrap_i32, wrap_u32', wrap_u64', InI]; (repeat' refine And.intro ?_ ?_) <;> omega) | ((repeat' refine And.intro ?_ ?_) <;> first | omega | rfl | exact Nat.le_refl _ | exact Nat.le_of_ble_eq_true rfl | exact bytesF_one _) | (simp_all; done) | (simp_all; omega))) ?_ | refine r_sto rfl (by (first | omega | exact Nat.le_of_ble_eq_true rfl | (simp only [wrap_u8, IntKind.wrap_i64, IntKind.wrap_i32, wrap_u32', wrap_u64', InI]; (repeat' refine And.intro ?_ ?_) <;> omega) | ((repeat' refine And.intro ?_ ?_) <;> first | omega | rfl | exact Nat.le_refl _ | exact Nat.le_of_ble_eq_true rfl | exact bytesF_one _) | (simp_all; done) | (simp_all; omega))) ?_ | refine r_gobj rfl rfl rfl rfl (by (first | omega | exact Nat.le_of_ble_eq_true rfl | (simp only [wrap_u8, IntKind.wrap_i64, IntKind.wrap_i32, wrap_u32', wrap_u64', InI]; (repeat' refine And.intro ?_ ?_) <;> omega) | ((repeat' refine And.intro ?_ ?_) <;> first | omega | rfl | exact Nat.le_refl _ | exact Nat.le_of_ble_eq_true rfl | exact bytesF_one _) | (simp_all; done) | (simp_all; omega))) ?_
          | refine e_hit rfl ?_ | refine e_miss rfl ?_
          | refine ⟨by kernel_rfl, ?_⟩ | refine x_end rfl ?_ | refine r_gcall (f := 52) rfl rfl rfl rfl Tryd.call52 rfl c1 ?_ | refine r_gcall (f := 19) rfl rfl rfl rfl Tryd.call19 rfl c2 ?_ | refine r_call (f := 53) rfl rfl Tryd.call53 rfl c3 ?_ | refine r_call (f := 54) rfl rfl Tryd.call54 rfl c5 ?_ | refine r_gcall (f := 55) rfl rfl rfl rfl Tryd.call55 rfl c4 ?_ | refine r_call (f := 13) rfl rfl Tryd.call13 rfl c6 ?_ | ((with_reducible refine c_grd ?_); (fail_if_success (refine c_lit true rfl rfl rfl ?_)); (fail_if_success (refine c_lit false rfl rfl rfl ?_)); refine c_split rfl rfl (fun _ => ?_) (fun _ => ?_)))
        all_goals first | rfl | exact absurd ‹_› hne
      | false =>
        clear hi2
        refine r_fun Tryd.func17 rfl Tryd.ntmps17 Tryd.results17 rfl rfl fun X hL hX => ?_
        repeat' (first
          | with_reducible refine t_seq ?_ | with_reducible refine t_region ?_ | with_reducible refine c_nil ?_ | with_reducible refine n_then ?_
          | with_reducible refine t_ret ?_ | with_reducible refine t_skip ?_ | with_reducible refine t_exit ?_ | with_reducible refine t_block ?_
          | with_reducible refine n_block ?_ | with_reducible refine e_then ?_ | with_reducible refine x_then ?_ | with_reducible refine x_block ?_ | with_reducible refine t_draw ?_
          | refine r_val rfl rfl True.intro ?_ | refine r_gskip rfl rfl rfl ?_ | refine r_gskip2 rfl rfl rfl ?_ | refine r_gval rfl rfl rfl rfl True.intro ?_
          | refine t_true rfl ?_ | refine t_false rfl ?_
          | ((first | refine t_cond_d rfl (fun _ => ?_) (fun _ => ?_) | refine t_cond_i rfl (fun _ => ?_) (fun _ => ?_) | refine t_cond_j rfl (fun _ => ?_) (fun _ => ?_) | refine t_cond_s rfl (fun _ => ?_) (fun _ => ?_) | refine t_cond_n rfl (fun _ => ?_) (fun _ => ?_) | refine t_cond rfl (fun _ => ?_) (fun _ => ?_) | refine c_split_d rfl rfl (fun _ => ?_) (fun _ => ?_) | refine c_split_i rfl rfl (fun _ => ?_) (fun _ => ?_) | refine c_split_j rfl rfl (fun _ => ?_) (fun _ => ?_) | refine c_split_s rfl rfl (fun _ => ?_) (fun _ => ?_) | refine c_split_n rfl rfl (fun _ => ?_) (fun _ => ?_)) <;> try (first | (rename_i hz; exact Bool.noConfusion (show true = false from hz)) | (rename_i hz; exact Bool.noConfusion (show false = true from hz)) | (exfalso; omega)))
          | refine r_val rfl rfl (by (first | omega | exact Nat.le_of_ble_eq_true rfl | (simp only [wrap_u8, IntKind.wrap_i64, IntKind.wrap_i32, wrap_u32', wrap_u64', InI]; (repeat' refine And.intro ?_ ?_) <;> omega) | ((repeat' refine And.intro ?_ ?_) <;> first | omega | rfl | exact Nat.le_refl _ | exact Nat.le_of_ble_eq_true rfl | exact bytesF_one _) | (simp_all; done) | (simp_all; omega))) ?_ | refine r_gval rfl rfl rfl rfl (by (first | omega | exact Nat.le_of_ble_eq_true rfl | (simp only [wrap_u8, IntKind.wrap_i64, IntKind.wrap_i32, wrap_u32', wrap_u64', InI]; (repeat' refine And.intro ?_ ?_) <;> omega) | ((repeat' refine And.intro ?_ ?_) <;> first | omega | rfl | exact Nat.le_refl _ | exact Nat.le_of_ble_eq_true rfl | exact bytesF_one _) | (simp_all; done) | (simp_all; omega))) ?_
          | refine r_obj rfl rfl (by (first | omega | exact Nat.le_of_ble_eq_true rfl | (simp only [wrap_u8, IntKind.wrap_i64, IntKind.wrap_i32, wrap_u32', wrap_u64', InI]; (repeat' refine And.intro ?_ ?_) <;> omega) | ((repeat' refine And.intro ?_ ?_) <;> first | omega | rfl | exact Nat.le_refl _ | exact Nat.le_of_ble_eq_true rfl | exact bytesF_one _) | (simp_all; done) | (simp_all; omega))) ?_ | refine r_sto rfl (by (first | omega | exact Nat.le_of_ble_eq_true rfl | (simp only [wrap_u8, IntKind.wrap_i64, IntKind.wrap_i32, wrap_u32', wrap_u64', InI]; (repeat' refine And.intro ?_ ?_) <;> omega) | ((repeat' refine And.intro ?_ ?_) <;> first | omega | rfl | exact Nat.le_refl _ | exact Nat.le_of_ble_eq_true rfl | exact bytesF_one _) | (simp_all; done) | (simp_all; omega))) ?_ | refine r_gobj rfl rfl rfl rfl (by (first | omega | exact Nat.le_of_ble_eq_true rfl | (simp only [wrap_u8, IntKind.wrap_i64, IntKind.wrap_i32, wrap_u32', wrap_u64', InI]; (repeat' refine And.intro ?_ ?_) <;> omega) | ((repeat' refine And.intro ?_ ?_) <;> first | omega | rfl | exact Nat.le_refl _ | exact Nat.le_of_ble_eq_true rfl | exact bytesF_one _) | (simp_all; done) | (simp_all; omega))) ?_
          | refine e_hit rfl ?_ | refine e_miss rfl ?_
          | refine ⟨by kernel_rfl, ?_⟩ | refine x_end rfl ?_ | refine r_gcall (f := 52) rfl rfl rfl rfl Tryd.call52 rfl c1 ?_ | refine r_gcall (f := 19) rfl rfl rfl rfl Tryd.call19 rfl c2 ?_ | refine r_call (f := 53) rfl rfl Tryd.call53 rfl c3 ?_ | refine r_call (f := 54) rfl rfl Tryd.call54 rfl c5 ?_ | refine r_gcall (f := 55) rfl rfl rfl rfl Tryd.call55 rfl c4 ?_ | refine r_call (f := 13) rfl rfl Tryd.call13 rfl c6 ?_ | ((with_reducible refine c_grd ?_); (fail_if_success (refine c_lit true rfl rfl rfl ?_)); (fail_if_success (refine c_lit false rfl rfl rfl ?_)); refine c_split rfl rfl (fun _ => ?_) (fun _ => ?_)))
        all_goals first | rfl | exact absurd ‹_› hne

theorem typed_ctr (s : List UInt8) (hs : s.length ≤ 1048576) (texts : Bool) : Ctr Tryd.prog 17 [.s s, .b texts] (.tu [vlD (typedF s texts).1.1 (typedF s texts).1.2.1 (typedF s texts).1.2.2, .b (typedF s texts).2]) := by
  by_cases h1 : s.length = 0 ∨ validL s = false
  · have e : typedF s texts = ((0, [], 0), false) := if_pos h1
    rw [e]
    exact typed_bad s hs texts h1
  · have h0 : ¬ s.length = 0 := fun h => h1 (.inl h)
    have hv : validL s = true := by
      cases hv : validL s with
      | true => rfl
      | false => exact absurd (.inr hv) h1
    by_cases h2 : texts = true ∨ isNum s = false
    · have e : typedF s texts = ((1, s, 0), true) := by
        unfold typedF
        rw [if_neg h1, if_pos h2]
      rw [e]
      exact typed_text s hs texts h0 hv h2
    · obtain rfl : texts = false := Bool.eq_false_iff.2 fun h => h2 (.inl h)
      have hn : isNum s = true := by
        cases hn : isNum s with
        | true => rfl
        | false => exact absurd (.inr hn) h2
      exact typed_num s hs h0 hv hn _ rfl

theorem tlive_a : typedF [49, 50] false = ((4, [], 12), true) := by decide +kernel
theorem tlive_b : typedF [49, 46, 53] false = ((3, [], 4609434218613702656), true) := by decide +kernel

theorem tlive_ctr : Ctr Tryd.prog 16 [] (.b true) := by
  have c1 := typed_ctr [49, 50] (by decide) false
  have c2 := typed_ctr [49, 46, 53] (by decide) false
  rw [tlive_a] at c1
  rw [tlive_b] at c2
  dsimp only at c1 c2
  refine r_fun Tryd.func16 rfl Tryd.ntmps16 Tryd.results16 rfl rfl fun X hL hX => ?_
  repeat' (first
    | with_reducible refine t_seq ?_ | with_reducible refine t_region ?_ | with_reducible refine c_nil ?_ | with_reducible refine n_then ?_
    | with_reducible refine t_ret ?_ | with_reducible refine t_skip ?_ | with_reducible refine t_exit ?_ | with_reducible refine t_block ?_
    | with_reducible refine n_block ?_ | with_reducible refine e_then ?_ | with_reducible refine x_then ?_ | with_reducible refine x_block ?_ | with_reducible refine t_draw ?_
    | refine r_val rfl rfl True.intro ?_ | refine r_gskip rfl rfl rfl ?_ | refine r_gskip2 rfl rfl rfl ?_ | refine r_gval rfl rfl rfl rfl True.intro ?_
    | refine t_true rfl ?_ | refine t_false rfl ?_
    | ((first | refine t_cond_d rfl (fun _ => ?_) (fun _ => ?_) | refine t_cond_i rfl (fun _ => ?_) (fun _ => ?_) | refine t_cond_j rfl (fun _ => ?_) (fun _ => ?_) | refine t_cond_s rfl (fun _ => ?_) (fun _ => ?_) | refine t_cond_n rfl (fun _ => ?_) (fun _ => ?_) | refine t_cond rfl (fun _ => ?_) (fun _ => ?_) | refine c_split_d rfl rfl (fun _ => ?_) (fun _ => ?_) | refine c_split_i rfl rfl (fun _ => ?_) (fun _ => ?_) | refine c_split_j rfl rfl (fun _ => ?_) (fun _ => ?_) | refine c_split_s rfl rfl (fun _ => ?_) (fun _ => ?_) | refine c_split_n rfl rfl (fun _ => ?_) (fun _ => ?_)) <;> try (first | (rename_i hz; exact Bool.noConfusion (show true = false from hz)) | (rename_i hz; exact Bool.noConfusion (show false = true from hz)) | (exfalso; omega)))
    | refine r_val rfl rfl (by (first | omega | exact Nat.le_of_ble_eq_true rfl | (simp only [wrap_u8, IntKind.wrap_i64, IntKind.wrap_i32, wrap_u32', wrap_u64', InI]; (repeat' refine And.intro ?_ ?_) <;> omega) | ((repeat' refine And.intro ?_ ?_) <;> first | omega | rfl | exact Nat.le_refl _ | exact Nat.le_of_ble_eq_true rfl | exact bytesF_one _) | (simp_all; done) | (simp_all; omega))) ?_ | refine r_gval rfl rfl rfl rfl (by (first | omega | exact Nat.le_of_ble_eq_true rfl | (simp only [wrap_u8, IntKind.wrap_i64, IntKind.wrap_i32, wrap_u32', wrap_u64', InI]; (repeat' refine And.intro ?_ ?_) <;> omega) | ((repeat' refine And.intro ?_ ?_) <;> first | omega | rfl | exact Nat.le_refl _ | exact Nat.le_of_ble_eq_true rfl | exact bytesF_one _) | (simp_all; done) | (simp_all; omega))) ?_
    | refine r_obj rfl rfl (by (first | omega | exact Nat.le_of_ble_eq_true rfl | (simp only [wrap_u8, IntKind.wrap_i64, IntKind.wrap_i32, wrap_u32', wrap_u64', InI]; (repeat' refine And.intro ?_ ?_) <;> omega) | ((repeat' refine And.intro ?_ ?_) <;> first | omega | rfl | exact Nat.le_refl _ | exact Nat.le_of_ble_eq_true rfl | exact bytesF_one _) | (simp_all; done) | (simp_all; omega))) ?_ | refine r_sto rfl (by (first | omega | exact Nat.le_of_ble_eq_true rfl | (simp only [wrap_u8, IntKind.wrap_i64, IntKind.wrap_i32, wrap_u32', wrap_u64', InI]; (repeat' refine And.intro ?_ ?_) <;> omega) | ((repeat' refine And.intro ?_ ?_) <;> first | omega | rfl | exact Nat.le_refl _ | exact Nat.le_of_ble_eq_true rfl | exact bytesF_one _) | (simp_all; done) | (simp_all; omega))) ?_ | refine r_gobj rfl rfl rfl rfl (by (first | omega | exact Nat.le_of_ble_eq_true rfl | (simp only [wrap_u8, IntKind.wrap_i64, IntKind.wrap_i32, wrap_u32', wrap_u64', InI]; (repeat' refine And.intro ?_ ?_) <;> omega) | ((repeat' refine And.intro ?_ ?_) <;> first | omega | rfl | exact Nat.le_refl _ | exact Nat.le_of_ble_eq_true rfl | exact bytesF_one _) | (simp_all; done) | (simp_all; omega))) ?_
    | refine e_hit rfl ?_ | refine e_miss rfl ?_
    | refine ⟨by kernel_rfl, ?_⟩ | refine x_end rfl ?_ | refine r_call (f := 17) rfl rfl Tryd.call17 rfl c1 ?_ | refine r_call (f := 17) rfl rfl Tryd.call17 rfl c2 ?_ | ((with_reducible refine c_grd ?_); (fail_if_success (refine c_lit true rfl rfl rfl ?_)); (fail_if_success (refine c_lit false rfl rfl rfl ?_)); refine c_split rfl rfl (fun _ => ?_) (fun _ => ?_)))
  all_goals rfl

end Go.Proofs.YteidmimpkipcfaaDoor.Flow
